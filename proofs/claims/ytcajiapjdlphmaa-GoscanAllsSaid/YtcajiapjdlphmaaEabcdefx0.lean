import Derived.Test.YtcajiapjdlphmaaEPre
namespace Go.Proofs.Ytcajiapjdlphmaa.H
open Go.RowKit Go.Proofs.YtcajiapjdlphmaaW.PrintWords Go.Proofs.YtcajiapjdlphmaaW.PrintLast Go.Proofs.YtcajiapjdlphmaaW.PrintMore
attribute [local go_sem] max2_int min2_int max_two min_two max_three min_three max_four min_four
set_option linter.unusedVariables false
set_option linter.unusedSimpArgs false
theorem eqA25 (d : Nat) (w : World) (x0 y0 : Int) (x1 y1 : Int) :
  (Op.equalIn (d + 2) 25 (.agg #[.int .i64 x0, .int .i64 x1]) (.agg #[.int .i64 y0, .int .i64 y1])).run Try.prog w = .ok (x0 == y0 && (x1 == y1)) w := by
 refine eqA_of Try.underlying25 Z5 ?_
 refine eqf_cons Z67 (by go_simp; rfl) (by go_simp; rfl) (by go_simp) ?_
 exact eqf_last Z67 (by go_simp; rfl) (by go_simp; rfl) (by go_simp)
theorem eqA36 (d : Nat) (w : World) (x0 y0 : Int) (x1 y1 : Int) (x2 y2 : Int) :
  (Op.equalIn (d + 2) 36 (.agg #[.int .i64 x0, .int .i64 x1, .int .i64 x2]) (.agg #[.int .i64 y0, .int .i64 y1, .int .i64 y2])).run Try.prog w = .ok (x0 == y0 && (x1 == y1 && (x2 == y2))) w := by
 refine eqA_of Try.underlying36 Z5 ?_
 refine eqf_cons Z67 (by go_simp; rfl) (by go_simp; rfl) (by go_simp) ?_
 refine eqf_cons Z67 (by go_simp; rfl) (by go_simp; rfl) (by go_simp) ?_
 exact eqf_last Z67 (by go_simp; rfl) (by go_simp; rfl) (by go_simp)
def stringslite_HasPrefix.f (a0 : ByteArray) (a1 : ByteArray) : Option (Bool) := if (a0.size : Int) ≥ (a1.size : Int) then (if 0 ≤ (a1.size : Int) then (if (a1.size : Int) ≤ (a0.size : Int) then (some ((a0.extract 0 ((a1.size : Int) : Int).toNat).toList == a1.toList)) else (none)) else (none)) else (some false)
set_option maxHeartbeats 8000000 in
set_option maxRecDepth 100000 in
theorem stringslite_HasPrefix.calls {a0 : ByteArray} {a1 : ByteArray} {r : Bool} {w : World} (h : stringslite_HasPrefix.f a0 a1 = some r) :
  Calls Try.prog 46 #[.string a0, .string a1] w fun e w' => e = .returned (.bool r) ∧ Drawn0 w w' := by
 have H : (if (a0.size : Int) ≥ (a1.size : Int) then (if 0 ≤ (a1.size : Int) then (if (a1.size : Int) ≤ (a0.size : Int) then (some ((a0.extract 0 ((a1.size : Int) : Int).toNat).toList == a1.toList)) else (none)) else (none)) else (some false)) = some r := h
 clear h
 by_cases c3 : (a0.size : Int) ≥ (a1.size : Int)
 ·rw [if_pos c3] at H
  have c3b0 : decide ((a1.size : Int) ≤ (a0.size : Int)) = true := decide_eq_true c3
  have c3b1 : decide (a1.size ≤ a0.size) = true := decide_eq_true (Int.ofNat_le.mp c3)
  clear c3
  by_cases c4 : 0 ≤ (a1.size : Int)
  ·rw [if_pos c4] at H
   have c4b0 := eq_true c4
   have c4b1 := decide_eq_true c4
   clear c4
   by_cases c5 : (a1.size : Int) ≤ (a0.size : Int)
   ·rw [if_pos c5] at H
    have c5b0 := eq_true c5
    have c5b1 := decide_eq_true c5
    clear c5
    obtain rfl := Option.some.inj H
    go_enter Try.func46, Try.ntmps46
    go_wp2
    go_ret
    exact ⟨Z1, Z4⟩
   ·rw [if_neg c5] at H
    exact absurd H Z61
  ·rw [if_neg c4] at H
   exact absurd H Z61
 ·rw [if_neg c3] at H
  have c3b0 : decide ((a1.size : Int) ≤ (a0.size : Int)) = false := decide_eq_false c3
  have c3b1 : decide (a1.size ≤ a0.size) = false := decide_eq_false (fun h => c3 (Int.ofNat_le.mpr h))
  clear c3
  obtain rfl := Option.some.inj H
  go_enter Try.func46, Try.ntmps46
  go_wp2
  go_ret
  exact ⟨Z1, Z4⟩
def strings_HasPrefix.f (a0 : ByteArray) (a1 : ByteArray) : Option (Bool) := (stringslite_HasPrefix.f a0 a1).bind fun t101 => (some t101)
set_option maxHeartbeats 8000000 in
set_option maxRecDepth 100000 in
theorem strings_HasPrefix.calls {a0 : ByteArray} {a1 : ByteArray} {r : Bool} {w : World} (h : strings_HasPrefix.f a0 a1 = some r) :
  Calls Try.prog 28 #[.string a0, .string a1] w fun e w' => e = .returned (.bool r) ∧ Drawn0 w w' := by
 have H : ((stringslite_HasPrefix.f a0 a1).bind fun t101 => (some t101)) = some r := h
 clear h
 replace H := bS H
 obtain ⟨t101, A3, H⟩ := H
 try dsimp only at H
 obtain rfl := Option.some.inj H
 go_enter Try.func28, Try.ntmps28
 go_wp2_with (first | (refine gR (some 7) Try.func46 (stringslite_HasPrefix.calls A3.out) (h := ?_); rintro _ ⟨nd, rfl⟩))
 go_ret
 exact ⟨Z1, Z4⟩
def goscan_operators.l : List S69 := [⟨⟨#[97, 100, 100]⟩, ⟨#[43]⟩⟩, ⟨⟨#[115, 117, 98]⟩, ⟨#[45]⟩⟩, ⟨⟨#[109, 117, 108]⟩, ⟨#[42]⟩⟩, ⟨⟨#[113, 117, 111]⟩, ⟨#[47]⟩⟩, ⟨⟨#[114, 101, 109]⟩, ⟨#[37]⟩⟩, ⟨⟨#[97, 110, 100]⟩, ⟨#[38]⟩⟩, ⟨⟨#[111, 114]⟩, ⟨#[124]⟩⟩, ⟨⟨#[120, 111, 114]⟩, ⟨#[94]⟩⟩, ⟨⟨#[115, 104, 108]⟩, ⟨#[60, 60]⟩⟩, ⟨⟨#[115, 104, 114]⟩, ⟨#[62, 62]⟩⟩, ⟨⟨#[97, 110, 100, 110, 111, 116]⟩, ⟨#[38, 94]⟩⟩, ⟨⟨#[97, 100, 100, 115, 101, 116]⟩, ⟨#[43, 61]⟩⟩, ⟨⟨#[115, 117, 98, 115, 101, 116]⟩, ⟨#[45, 61]⟩⟩, ⟨⟨#[109, 117, 108, 115, 101, 116]⟩, ⟨#[42, 61]⟩⟩, ⟨⟨#[113, 117, 111, 115, 101, 116]⟩, ⟨#[47, 61]⟩⟩, ⟨⟨#[114, 101, 109, 115, 101, 116]⟩, ⟨#[37, 61]⟩⟩, ⟨⟨#[97, 110, 100, 115, 101, 116]⟩, ⟨#[38, 61]⟩⟩, ⟨⟨#[111, 114, 115, 101, 116]⟩, ⟨#[124, 61]⟩⟩, ⟨⟨#[120, 111, 114, 115, 101, 116]⟩, ⟨#[94, 61]⟩⟩, ⟨⟨#[115, 104, 108, 115, 101, 116]⟩, ⟨#[60, 60, 61]⟩⟩, ⟨⟨#[115, 104, 114, 115, 101, 116]⟩, ⟨#[62, 62, 61]⟩⟩, ⟨⟨#[97, 110, 100, 110, 111, 116, 115, 101, 116]⟩, ⟨#[38, 94, 61]⟩⟩, ⟨⟨#[108, 97, 110, 100]⟩, ⟨#[38, 38]⟩⟩, ⟨⟨#[108, 111, 114]⟩, ⟨#[124, 124]⟩⟩, ⟨⟨#[97, 114, 114, 111, 119]⟩, ⟨#[60, 45]⟩⟩, ⟨⟨#[105, 110, 99]⟩, ⟨#[43, 43]⟩⟩, ⟨⟨#[100, 101, 99]⟩, ⟨#[45, 45]⟩⟩, ⟨⟨#[101, 113, 108]⟩, ⟨#[61, 61]⟩⟩, ⟨⟨#[108, 115, 115]⟩, ⟨#[60]⟩⟩, ⟨⟨#[103, 116, 114]⟩, ⟨#[62]⟩⟩, ⟨⟨#[97, 115, 115, 105, 103, 110]⟩, ⟨#[61]⟩⟩, ⟨⟨#[110, 111, 116]⟩, ⟨#[33]⟩⟩, ⟨⟨#[116, 105, 108, 100, 101]⟩, ⟨#[126]⟩⟩, ⟨⟨#[110, 101, 113]⟩, ⟨#[33, 61]⟩⟩, ⟨⟨#[108, 101, 113]⟩, ⟨#[60, 61]⟩⟩, ⟨⟨#[103, 101, 113]⟩, ⟨#[62, 61]⟩⟩, ⟨⟨#[100, 101, 102, 105, 110, 101]⟩, ⟨#[58, 61]⟩⟩, ⟨⟨#[101, 108, 108, 105, 112, 115, 105, 115]⟩, ⟨#[46, 46, 46]⟩⟩, ⟨⟨#[108, 112, 97, 114, 101, 110]⟩, ⟨#[40]⟩⟩, ⟨⟨#[108, 98, 114, 97, 99, 107]⟩, ⟨#[91]⟩⟩, ⟨⟨#[108, 98, 114, 97, 99, 101]⟩, ⟨#[123]⟩⟩, ⟨⟨#[99, 111, 109, 109, 97]⟩, ⟨#[44]⟩⟩, ⟨⟨#[112, 101, 114, 105, 111, 100]⟩, ⟨#[46]⟩⟩, ⟨⟨#[114, 112, 97, 114, 101, 110]⟩, ⟨#[41]⟩⟩, ⟨⟨#[114, 98, 114, 97, 99, 107]⟩, ⟨#[93]⟩⟩, ⟨⟨#[114, 98, 114, 97, 99, 101]⟩, ⟨#[125]⟩⟩, ⟨⟨#[115, 101, 109, 105]⟩, ⟨#[59]⟩⟩, ⟨⟨#[99, 111, 108, 111, 110]⟩, ⟨#[58]⟩⟩]
def goscan_operators.cells : Array Value := #[.string ⟨#[97, 100, 100]⟩, .string ⟨#[43]⟩, .string ⟨#[115, 117, 98]⟩, .string ⟨#[45]⟩, .string ⟨#[109, 117, 108]⟩, .string ⟨#[42]⟩, .string ⟨#[113, 117, 111]⟩, .string ⟨#[47]⟩, .string ⟨#[114, 101, 109]⟩, .string ⟨#[37]⟩, .string ⟨#[97, 110, 100]⟩, .string ⟨#[38]⟩, .string ⟨#[111, 114]⟩, .string ⟨#[124]⟩, .string ⟨#[120, 111, 114]⟩, .string ⟨#[94]⟩, .string ⟨#[115, 104, 108]⟩, .string ⟨#[60, 60]⟩, .string ⟨#[115, 104, 114]⟩, .string ⟨#[62, 62]⟩, .string ⟨#[97, 110, 100, 110, 111, 116]⟩, .string ⟨#[38, 94]⟩, .string ⟨#[97, 100, 100, 115, 101, 116]⟩, .string ⟨#[43, 61]⟩, .string ⟨#[115, 117, 98, 115, 101, 116]⟩, .string ⟨#[45, 61]⟩, .string ⟨#[109, 117, 108, 115, 101, 116]⟩, .string ⟨#[42, 61]⟩, .string ⟨#[113, 117, 111, 115, 101, 116]⟩, .string ⟨#[47, 61]⟩, .string ⟨#[114, 101, 109, 115, 101, 116]⟩, .string ⟨#[37, 61]⟩, .string ⟨#[97, 110, 100, 115, 101, 116]⟩, .string ⟨#[38, 61]⟩, .string ⟨#[111, 114, 115, 101, 116]⟩, .string ⟨#[124, 61]⟩, .string ⟨#[120, 111, 114, 115, 101, 116]⟩, .string ⟨#[94, 61]⟩, .string ⟨#[115, 104, 108, 115, 101, 116]⟩, .string ⟨#[60, 60, 61]⟩, .string ⟨#[115, 104, 114, 115, 101, 116]⟩, .string ⟨#[62, 62, 61]⟩, .string ⟨#[97, 110, 100, 110, 111, 116, 115, 101, 116]⟩, .string ⟨#[38, 94, 61]⟩, .string ⟨#[108, 97, 110, 100]⟩, .string ⟨#[38, 38]⟩, .string ⟨#[108, 111, 114]⟩, .string ⟨#[124, 124]⟩, .string ⟨#[97, 114, 114, 111, 119]⟩, .string ⟨#[60, 45]⟩, .string ⟨#[105, 110, 99]⟩, .string ⟨#[43, 43]⟩, .string ⟨#[100, 101, 99]⟩, .string ⟨#[45, 45]⟩, .string ⟨#[101, 113, 108]⟩, .string ⟨#[61, 61]⟩, .string ⟨#[108, 115, 115]⟩, .string ⟨#[60]⟩, .string ⟨#[103, 116, 114]⟩, .string ⟨#[62]⟩, .string ⟨#[97, 115, 115, 105, 103, 110]⟩, .string ⟨#[61]⟩, .string ⟨#[110, 111, 116]⟩, .string ⟨#[33]⟩, .string ⟨#[116, 105, 108, 100, 101]⟩, .string ⟨#[126]⟩, .string ⟨#[110, 101, 113]⟩, .string ⟨#[33, 61]⟩, .string ⟨#[108, 101, 113]⟩, .string ⟨#[60, 61]⟩, .string ⟨#[103, 101, 113]⟩, .string ⟨#[62, 61]⟩, .string ⟨#[100, 101, 102, 105, 110, 101]⟩, .string ⟨#[58, 61]⟩, .string ⟨#[101, 108, 108, 105, 112, 115, 105, 115]⟩, .string ⟨#[46, 46, 46]⟩, .string ⟨#[108, 112, 97, 114, 101, 110]⟩, .string ⟨#[40]⟩, .string ⟨#[108, 98, 114, 97, 99, 107]⟩, .string ⟨#[91]⟩, .string ⟨#[108, 98, 114, 97, 99, 101]⟩, .string ⟨#[123]⟩, .string ⟨#[99, 111, 109, 109, 97]⟩, .string ⟨#[44]⟩, .string ⟨#[112, 101, 114, 105, 111, 100]⟩, .string ⟨#[46]⟩, .string ⟨#[114, 112, 97, 114, 101, 110]⟩, .string ⟨#[41]⟩, .string ⟨#[114, 98, 114, 97, 99, 107]⟩, .string ⟨#[93]⟩, .string ⟨#[114, 98, 114, 97, 99, 101]⟩, .string ⟨#[125]⟩, .string ⟨#[115, 101, 109, 105]⟩, .string ⟨#[59]⟩, .string ⟨#[99, 111, 108, 111, 110]⟩, .string ⟨#[58]⟩]
def goscan_operators.f : Option (List S69) := some goscan_operators.l
theorem goscan_operators.all : ∀ j : Fin 48, (goscan_operators.cells.toList.drop (j.1 * 2)).take 2 = [.string (goscan_operators.l[j.1]'j.2).f0, .string (goscan_operators.l[j.1]'j.2).f1] := by
 intro ⟨j, hj⟩
 match j, hj with
 | 0, _ => rfl
 | 1, _ => rfl
 | 2, _ => rfl
 | 3, _ => rfl
 | 4, _ => rfl
 | 5, _ => rfl
 | 6, _ => rfl
 | 7, _ => rfl
 | 8, _ => rfl
 | 9, _ => rfl
 | 10, _ => rfl
 | 11, _ => rfl
 | 12, _ => rfl
 | 13, _ => rfl
 | 14, _ => rfl
 | 15, _ => rfl
 | 16, _ => rfl
 | 17, _ => rfl
 | 18, _ => rfl
 | 19, _ => rfl
 | 20, _ => rfl
 | 21, _ => rfl
 | 22, _ => rfl
 | 23, _ => rfl
 | 24, _ => rfl
 | 25, _ => rfl
 | 26, _ => rfl
 | 27, _ => rfl
 | 28, _ => rfl
 | 29, _ => rfl
 | 30, _ => rfl
 | 31, _ => rfl
 | 32, _ => rfl
 | 33, _ => rfl
 | 34, _ => rfl
 | 35, _ => rfl
 | 36, _ => rfl
 | 37, _ => rfl
 | 38, _ => rfl
 | 39, _ => rfl
 | 40, _ => rfl
 | 41, _ => rfl
 | 42, _ => rfl
 | 43, _ => rfl
 | 44, _ => rfl
 | 45, _ => rfl
 | 46, _ => rfl
 | 47, _ => rfl
 | j + 48, h => exact absurd h Z57
theorem goscan_operators.reps (w : World) (base : Nat) (ok : Nat → Prop) : Reps (k69.M w base ok) 2 goscan_operators.l goscan_operators.cells.toList := by
 refine ⟨Z67, ?_⟩
 intro j p hj
 obtain ⟨hjl, hp⟩ := List.getElem?_eq_some_iff.1 hj
 have hl : j < 48 := hjl
 have e : (goscan_operators.cells.toList.drop (j * 2)).take 2 = [.string p.f0, .string p.f1] := by
  subst hp
  have := goscan_operators.all ⟨j, hl⟩
  exact this
 rw [e]
 exact k69_mkM w base ok p
set_option maxHeartbeats 8000000 in
set_option maxRecDepth 100000 in
theorem goscan_operators.calls {r : List S69} {w : World} (h : goscan_operators.f = some r) :
  Calls Try.prog 44 #[] w fun e w' => ∃ v0_ : Value, e = .returned (v0_) ∧ Kd.V k69 69 w' w.heap.size (fun k_ => (w.heap.size ≤ k_)) v0_ r ∧ Below w.heap.size w w' := by
 obtain rfl := Option.some.inj h
 clear h
 go_enter Try.func44, Try.ntmps44
 go_wp2_with (first
  | ((with_reducible refine gate_dst (N := 50) rfl ?_); refine event_run (v := .agg goscan_operators.cells) rfl Z5 ?_)
  | ((with_reducible refine gate_store (t := 84) rfl ?_); refine Go.wpList_store_row rfl 84 (.tmp 1) (.tmp 50) rfl w.heap.size goscan_operators.cells Z67 Z67 84 Try.zeroCells84 (heap_alloc_last w _) Z5 Z5 Z5 ?_; rw [World.setRow_alloc_new]))
 go_ret
 refine ⟨.slice (some ⟨w.heap.size, 0, none⟩) 48 48, rfl, ?_, (Below.refl _ _).alloc (Nat.le_refl _) _⟩
 refine Kd.R_V (e := 84) (base := w.heap.size) (base' := 0) ⟨fun k hk => ?_, goscan_operators.cells.toList, ?_, goscan_operators.reps _ _ _⟩
 ·have : w.heap.size = k := by simpa [Value.ownBlock] using hk
  exact Nat.le_of_eq this
 ·have h2 := World.ownsRow_lit (base := w.heap.size) (e := 84) (size := 2) w goscan_operators.cells 48 (Nat.le_refl _) Z43 Z67
  exact h2
def goscan_keywords.l : List ByteArray := [⟨#[98, 114, 101, 97, 107]⟩, ⟨#[99, 97, 115, 101]⟩, ⟨#[99, 104, 97, 110]⟩, ⟨#[99, 111, 110, 115, 116]⟩, ⟨#[99, 111, 110, 116, 105, 110, 117, 101]⟩, ⟨#[100, 101, 102, 97, 117, 108, 116]⟩, ⟨#[100, 101, 102, 101, 114]⟩, ⟨#[101, 108, 115, 101]⟩, ⟨#[102, 97, 108, 108, 116, 104, 114, 111, 117, 103, 104]⟩, ⟨#[102, 111, 114]⟩, ⟨#[102, 117, 110, 99]⟩, ⟨#[103, 111]⟩, ⟨#[103, 111, 116, 111]⟩, ⟨#[105, 102]⟩, ⟨#[105, 109, 112, 111, 114, 116]⟩, ⟨#[105, 110, 116, 101, 114, 102, 97, 99, 101]⟩, ⟨#[109, 97, 112]⟩, ⟨#[112, 97, 99, 107, 97, 103, 101]⟩, ⟨#[114, 97, 110, 103, 101]⟩, ⟨#[114, 101, 116, 117, 114, 110]⟩, ⟨#[115, 101, 108, 101, 99, 116]⟩, ⟨#[115, 116, 114, 117, 99, 116]⟩, ⟨#[115, 119, 105, 116, 99, 104]⟩, ⟨#[116, 121, 112, 101]⟩, ⟨#[118, 97, 114]⟩]
def goscan_keywords.f : Option (List ByteArray) := some goscan_keywords.l
set_option maxHeartbeats 8000000 in
set_option maxRecDepth 100000 in
theorem goscan_keywords.calls {r : List ByteArray} {w : World} (h : goscan_keywords.f = some r) :
  Calls Try.prog 45 #[] w fun e w' => ∃ v0_ : Value, e = .returned (v0_) ∧ Kd.R Kd.string 9 w' w.heap.size (fun _ => True) v0_ r ∧ Below w.heap.size w w' := by
 obtain rfl := Option.some.inj h
 clear h
 go_enter Try.func45, Try.ntmps45
 go_wp2_with (first | ((with_reducible refine gate_dst (N := 1) rfl ?_); refine Kd.R_lit Kd.string _ 9 Z67 (N := 1) Z67 (xs := goscan_keywords.l) (inner := goscan_keywords.l.map Value.string) (ok := fun _ => True) (okp := fun _ => True) Z5 (reps_strings _ _ _ _) (fun _ hk => hk) trivial (Below.refl _ _) (Nat.le_refl _) Z43 ?_; intro v1 w1 hv1 hb1 _ _; have hv1 := Aside0.mk hv1; have hb1 := Aside0.mk hb1))
 go_ret
 exact ⟨_, rfl, hv1.out, hb1.out⟩
def goscan_texts.l0 : Nat → List ByteArray → List (S69) → Int → Int → Option (List ByteArray)
 | 0, _, _, _, _ => none
 | k + 1, x1, x4, x5, x6 => if x6 < x5 then (if 0 ≤ x6 then (if x6 < (x4.length : Int) then (if x1.length < 8796093022208 then (goscan_texts.l0 k (x1 ++ [(rd_T69 x4 x6).f1]) x4 x5 (wrap64 (x6 + 1))) else (none)) else (none)) else (none)) else ((goscan_keywords.f).bind fun t110 => (if x1.length + t110.length < 8796093022208 then (some (x1 ++ t110)) else (none)))
def goscan_texts.f (k : Nat)  : Option (List ByteArray) := (goscan_operators.f).bind fun t102 => (goscan_texts.l0 k ([] : List ByteArray) t102 (t102.length : Int) 0)
theorem goscan_texts.mono_l : ∀ k, (∀ y0 y1 y2 y3, LeO (goscan_texts.l0 k y0 y1 y2 y3) (goscan_texts.l0 (k + 1) y0 y1 y2 y3))
 | 0 => fun _ _ _ _ r h => by simp [goscan_texts.l0] at h
 | k + 1 => by
  have ih0 := goscan_texts.mono_l k
  ·intro y0 y1 y2 y3
   unfold goscan_texts.l0
   exact mO
theorem goscan_texts.mono : ∀ k, LeO (goscan_texts.f k ) (goscan_texts.f (k + 1) ) := by
 intro  k
 have ih0 := goscan_texts.mono_l k
 unfold goscan_texts.f
 exact mO
set_option maxHeartbeats 8000000 in
set_option maxRecDepth 100000 in
theorem goscan_texts.calls {k : Nat} {r : List ByteArray} {w : World} (h : goscan_texts.f k  = some r) :
  Calls Try.prog 42 #[] w fun e w' => ∃ v0_ : Value, e = .returned (v0_) ∧ Kd.R Kd.string 9 w' w.heap.size (fun _ => True) v0_ r ∧ Below w.heap.size w w' := by
 have hu69 := Try.underlying69
 have HB := Aside0.mk (Below.refl w.heap.size w)
 have H : ((goscan_operators.f).bind fun t102 => (goscan_texts.l0 k ([] : List ByteArray) t102 (t102.length : Int) 0)) = some r := h
 clear h
 replace H := bS H
 obtain ⟨t102, A1, H⟩ := H
 try dsimp only at H
 have H' := Aside0.mk H
 clear H
 go_enter Try.func42, Try.ntmps42
 go_wp2_with (first | (refine gQ (some 4) Try.func44 (goscan_operators.calls A1.out) (h := ?_); rintro v103 w2 ⟨ho0, hb⟩; have HO104 := Aside0.mk (Kd.V_lower (Kd.V_mono (ok' := fun k_ => True) ho0 (fun k_ hk_ => trivial)) (below_size zB)); replace HB := Aside0.mk (below_step zB hb); (try clear hb); (try clear hb2); (try clear hk); (try clear hi); (try clear ho0); obtain ⟨Ao3, co3, eo3⟩ := Kd.V_slice HO104.out; subst eo3))
 go_loopg [1, 6] k (fun kq v1 v6 w' => ∃ (x1_1 : List ByteArray) (x6_1 : Int), v6 = .int .i64 x6_1 ∧ Aside0 (goscan_texts.l0 kq x1_1 t102 (t102.length : Int) x6_1 = some r) ∧ Aside0 (kq ≤ k) ∧ Aside0 (Kd.R Kd.string 9 w' w.heap.size (fun _ => True) v1 x1_1) ∧ Aside0 (Kd.V k69 69 w' w.heap.size (fun k_ => some k_ ≠ (v1 : Value).ownBlock) (.slice Ao3 t102.length co3) t102) ∧ Aside0 (Below w.heap.size w w'))
 case atStart => exact ⟨(([] : List ByteArray)), (0), Z1, H', ⟨Nat.le_refl _⟩, ⟨Z10⟩, ⟨by (with_reducible repeat (first | apply Kd.V_alloc | apply Kd.V_drewN | apply Kd.V_drew)); exact Kd.V_mono HO104.out (fun _ hk => (by simp [Value.ownBlock]))⟩, ⟨Z0⟩⟩
 case round =>
  clear H'
  try clear p2
  obtain ⟨x1_1, x6_1, rfl, HA, HK1, HO_1, HO_4, HB⟩ := hrel
  cases gk with
  | zero => exact absurd HA.out (by simp [goscan_texts.l0])
  | succ k1 =>
   have H := HA.out
   clear HA
   simp only [goscan_texts.l0] at H
   by_cases c4 : x6_1 < (t102.length : Int)
   ·rw [if_pos c4] at H
    have c4b0 := decide_eq_true c4
    clear c4
    by_cases c5 : 0 ≤ x6_1
    ·rw [if_pos c5] at H
     have c5b0 := decide_eq_true c5
     clear c5
     by_cases c6 : x6_1 < (t102.length : Int)
     ·rw [if_pos c6] at H
      have c6b0 := decide_eq_true c6
      clear c6
      by_cases c7 : x1_1.length < 8796093022208
      ·rw [if_pos c7] at H
       have LMc7 := Aside0.mk c7
       clear c7
       obtain ⟨y107, hy107⟩ : ∃ y_ : List ByteArray, y_ = (x1_1 ++ [(rd_T69 t102 x6_1).f1]) := ⟨_, rfl⟩
       replace H : (goscan_texts.l0 k1 y107 t102 (t102.length : Int) (wrap64 (x6_1 + 1))) = some r := by first | (rw [hy107]; with_reducible exact H) | (have H2_ := (Option.bind_some _ _).symm.trans H; rw [hy107]; with_reducible exact H2_) | (have H2_ := (Option.bind_some _ _).symm.trans H; with_reducible exact H2_) | with_reducible exact H | (rw [hy107]; exact H) | exact H
       have Ny107 := Aside0.mk hy107
       clear hy107
       have H' := Aside0.mk H
       clear H
       have p105 : 0 ≤ (x6_1 : Int) := of_decide_eq_true Z3
       have q105 : x6_1 < (t102.length : Int) := of_decide_eq_true Z3
       obtain ⟨ad105, e105, hx105_0, hx105_1⟩ := at_T69 (Kd.V_reads' HO_4.out).2.2 x6_1 p105 q105
       cases e105
       replace p105 := eq_true p105
       replace q105 := eq_true q105
       go_wp2_with (first | ((with_reducible refine gate_dst (N := 3) rfl ?_); refine box_event ?hg (N := 3) ?hd (cs := #[.string (⟨#[]⟩ : ByteArray), .string (⟨#[]⟩ : ByteArray)]) (t := 69) ?hr ?_; (case hd => rfl); (case hg => rfl); (case hr => first | (go_simp; done) | (go_simp; rfl)); intro gb106 hg w8 hbox hb; have n0_ := Aside0.mk (Kd.R_below (kK HO_1) hb); have n1_ := Aside0.mk (Kd.V_below (Kd.V_elderB (by (with_reducible repeat (first | apply Kd.V_alloc | apply Kd.V_drewN | apply Kd.V_drew)); exact HO_4.out) gb106 (Nat.le_of_eq hg.symm)) hb); have n2_ := Aside0.mk (below_step zB hb); have n3_ := Aside0.mk (hbox); have n4_ := gE hg zB; have n5_ := gE hg zB; clear HO_1; clear HO_4; clear HB; have HO_1 := n0_; have HO_4 := n1_; have HB := n2_; have BK106 := n3_; have GW106 := n4_; have GE106 := n5_; clear n0_ n1_ n2_ n3_ n4_ n5_; clear hb hbox hg; have hcz9_0 := bC BK106 0 (.string (⟨#[]⟩ : ByteArray)); have hcz9_1 := bC BK106 1 (.string (⟨#[]⟩ : ByteArray)); have hfz9_0 := blk_frozen BK106.out 0; have hfz9_1 := blk_frozen BK106.out 1) | ((with_reducible refine gate_builtin (b := .append) (xs := #[.tmp 10, .tmp 13]) rfl ?_); at_builtin; refine Kd.R_append Kd.string (w0 := w) w.heap.size rfl (.tmp 10) (.tmp 13) 38 9 (.string ⟨#[]⟩) 16 rfl Try.underlying38 info9 rfl Z43 Z57 u1 x1_1 ((rd_T69 t102 x6_1).f1) [.string ((rd_T69 t102 x6_1).f1)] (fun _ => True) (fun _ => False) rfl (by first | (go_simp; done) | (go_simp; rfl)) ?aP (fun _ hk => hk.elim) ?aF ?aO ?aB ?aS ?aL ?_; (case aP => exact rfl); (case aB => exact zB); (case aF => exact (fun _ _ => trivial)); (case aO => exact (by (with_reducible repeat (first | apply Kd.R_alloc | apply Kd.R_drewN | apply Kd.R_drew)); exact Kd.R_mono (Kd.R_far (p := ⟨gb106, 1, none⟩) (Kd.R_far (p := ⟨gb106, 0, none⟩) (Kd.R_types HO_1.out BK106.out Z43) (fun _ hk => hk.2) (.string ((rd_T69 t102 x6_1).f0))) (fun _ hk => hk.2) (.string ((rd_T69 t102 x6_1).f1))) (fun _ hk => trivial))); (case aS => exact (below_size zB)); (case aL => have := LMc7.out; omega); intro v108 w10 ho hb hg hat; rw [← Ny107.out] at ho; have n0_ := Aside0.mk (Kd.V_afterv (ok := (fun k_ => k_ ≠ gb106)) (by (with_reducible repeat (first | apply Kd.V_alloc | apply Kd.V_drewN | apply Kd.V_drew)); exact Kd.V_mono (Kd.V_far (p := ⟨gb106, 1, none⟩) (Kd.V_far (p := ⟨gb106, 0, none⟩) (Kd.V_mono HO_4.out (fun k_ hk => (⟨hk, hk.2⟩ : _ ∧ k_ ≠ gb106))) (fun _ hk => hk.2) (.string ((rd_T69 t102 x6_1).f0))) (fun _ hk => hk.2) (.string ((rd_T69 t102 x6_1).f1))) (fun _ hk => ⟨hk.1.2, hk.1.1⟩)) hg hat); have n1_ := Aside0.mk (blk_grown (g := gb106) (o := .cells #[.string ((rd_T69 t102 x6_1).f0), .string ((rd_T69 t102 x6_1).f1)] 69 (0, 0)) (by (with_reducible repeat (first | refine blk_drewN ?_ _ | refine blk_drew ?_ | refine blk_alloc ?_ _)); refine blk_put (cs := #[.string ((rd_T69 t102 x6_1).f0), .string (⟨#[]⟩ : ByteArray)]) ?_ 1 _ rfl; (with_reducible repeat (first | refine blk_drewN ?_ _ | refine blk_drew ?_ | refine blk_alloc ?_ _)); refine blk_put (cs := #[.string (⟨#[]⟩ : ByteArray), .string (⟨#[]⟩ : ByteArray)]) ?_ 0 _ rfl; (with_reducible repeat (first | refine blk_drewN ?_ _ | refine blk_drew ?_ | refine blk_alloc ?_ _)); exact BK106.out) hg (Kd.R_ne HO_1.out BK106.out Z43)); have n2_ := Aside0.mk (hb); have n3_ := Aside0.mk (ho); clear HO_4; clear BK106; clear HB; clear HO_1; have HO_4 := n0_; have BK106 := n1_; have HB := n2_; have HO109 := n3_; clear n0_ n1_ n2_ n3_; clear ho hb hg hat))
       go_roundg k1
       case measure => have := HK1.out; omega
       case rel => exact ⟨(y107), (wrap64 (x6_1 + 1)), Z1, H', ⟨Z36⟩, ⟨by (with_reducible repeat (first | apply Kd.R_alloc | apply Kd.R_drewN | apply Kd.R_drew)); exact HO109.out⟩, ⟨by (with_reducible repeat (first | apply Kd.V_alloc | apply Kd.V_drewN | apply Kd.V_drew)); exact Kd.V_mono HO_4.out (fun _ hk => hk.2)⟩, ⟨Z0⟩⟩
      ·rw [if_neg c7] at H
       exact absurd H Z61
     ·rw [if_neg c6] at H
      exact absurd H Z61
    ·rw [if_neg c5] at H
     exact absurd H Z61
   ·rw [if_neg c4] at H
    have c4b0 := decide_eq_false c4
    clear c4
    replace H := bS H
    obtain ⟨t110, A11, H⟩ := H
    try dsimp only at H
    by_cases c12 : x1_1.length + t110.length < 8796093022208
    ·rw [if_pos c12] at H
     have LMc12 := Aside0.mk c12
     clear c12
     obtain ⟨y113, hy113⟩ : ∃ y_ : List ByteArray, y_ = (x1_1 ++ t110) := ⟨_, rfl⟩
     replace H : (some y113) = some r := by first | (rw [hy113]; with_reducible exact H) | (have H2_ := (Option.bind_some _ _).symm.trans H; rw [hy113]; with_reducible exact H2_) | (have H2_ := (Option.bind_some _ _).symm.trans H; with_reducible exact H2_) | with_reducible exact H | (rw [hy113]; exact H) | exact H
     have Ny113 := Aside0.mk hy113
     clear hy113
     obtain rfl := Option.some.inj H
     go_wp2_with (first | (refine gQ (some 17) Try.func45 (goscan_keywords.calls A11.out) (h := ?_); rintro v111 w13 ⟨ho0, hb⟩; have n0_ := Aside0.mk (Kd.R_elder' (kK HO_1) (Kd.R_base ho0) hb); have n1_ := Aside0.mk (Kd.V_elder' (by (with_reducible repeat (first | apply Kd.V_alloc | apply Kd.V_drewN | apply Kd.V_drew)); exact HO_4.out) (Kd.R_base ho0) hb); have n2_ := Aside0.mk (Kd.R_lower (Kd.R_new' ho0 (Kd.R_lt (kK HO_1))) (below_size zB)); have n3_ := Aside0.mk (below_step zB hb); clear HO_1; clear HO_4; clear HB; have HO_1 := n0_; have HO_4 := n1_; have HO112 := n2_; have HB := n3_; clear n0_ n1_ n2_ n3_; (try clear hb); (try clear hb2); (try clear hk); (try clear hi); (try clear ho0); obtain ⟨Ao15, co15, eo15⟩ := Kd.R_slice HO112.out; subst eo15) | ((with_reducible refine gate_builtin (b := .append) (xs := #[.tmp 16, .tmp 17]) rfl ?_); at_builtin; refine Kd.R_append_rows Kd.string (w0 := w) w.heap.size rfl (.tmp 16) (.tmp 17) 38 9 (.string ⟨#[]⟩) 16 rfl Try.underlying38 info9 rfl Z43 Z57 u1 x1_1 t110 _ _ _ (fun k_ => some k_ ≠ (.slice Ao15 t110.length co15 : Value).ownBlock) (fun _ => False) rfl rfl ?aO ?aR (fun _ _ h => h) (fun _ h => h.elim) ?aF ?aB ?aS ?aL ?_; (case aR => repeat (first | exact (Kd.R_reads' HO112.out).2.2 | (with_reducible refine Kd.C_alloc ?_ _) | (with_reducible refine Kd.C_drewN ?_ _) | (with_reducible refine Kd.C_drew ?_))); (case aB => exact zB); (case aF => exact (fun k_ hk => Kd.fresh' (Kd.R_lt (kK HO112)) k_ hk)); (case aO => exact Z71); (case aS => exact (below_size zB)); (case aL => have := LMc12.out; omega); intro v114 w14 ho hb hg hat; rw [← Ny113.out] at ho; have n0_ := Aside0.mk (Kd.V_afterv (ok := (fun k_ => some k_ ≠ (.slice Ao15 t110.length co15 : Value).ownBlock)) (by (with_reducible repeat (first | apply Kd.V_alloc | apply Kd.V_drewN | apply Kd.V_drew)); exact Kd.V_mono HO_4.out (fun _ hk => ⟨hk.2, hk.1⟩)) hg hat); have n1_ := Aside0.mk (Kd.R_after (ok := (fun _ => True)) (kK HO112) hg hat); have n2_ := Aside0.mk (hb); have n3_ := Aside0.mk (ho); clear HO_4; clear HO112; clear HB; clear HO_1; have HO_4 := n0_; have HO112 := n1_; have HB := n2_; have HO115 := n3_; clear n0_ n1_ n2_ n3_; clear ho hb hg hat))
     go_ret
     exact ⟨_, Z2, by (with_reducible repeat (first | apply Kd.R_alloc | apply Kd.R_drewN | apply Kd.R_drew)); exact Kd.R_mono HO115.out (fun _ hk => trivial), Z0⟩
    ·rw [if_neg c12] at H
     exact absurd H Z61
def slices_Index_string_string.l0 : Nat → List ByteArray → ByteArray → Int → Int → Option (Int)
 | 0, _, _, _, _ => none
 | k + 1, x0, x1, x7, x8 => if x8 < x7 then (if 0 ≤ x8 then (if x8 < (x0.length : Int) then (if x1.toList = (rdOf ByteArray.empty x0 x8).toList then (some x8) else (slices_Index_string_string.l0 k x0 x1 x7 (wrap64 (x8 + 1)))) else (none)) else (none)) else (some (-1))
def slices_Index_string_string.f (k : Nat) (l0 : List ByteArray) (a1 : ByteArray) : Option (Int) := slices_Index_string_string.l0 k l0 a1 (l0.length : Int) 0
theorem slices_Index_string_string.mono_l : ∀ k, (∀ y0 y1 y2 y3, LeO (slices_Index_string_string.l0 k y0 y1 y2 y3) (slices_Index_string_string.l0 (k + 1) y0 y1 y2 y3))
 | 0 => fun _ _ _ _ r h => by simp [slices_Index_string_string.l0] at h
 | k + 1 => by
  have ih0 := slices_Index_string_string.mono_l k
  ·intro y0 y1 y2 y3
   unfold slices_Index_string_string.l0
   exact mO
theorem slices_Index_string_string.mono : ∀ a0 a1 k, LeO (slices_Index_string_string.f k a0 a1) (slices_Index_string_string.f (k + 1) a0 a1) := by
 intro a0 a1 k
 have ih0 := slices_Index_string_string.mono_l k
 unfold slices_Index_string_string.f
 exact mO
set_option maxHeartbeats 8000000 in
set_option maxRecDepth 100000 in
theorem slices_Index_string_string.calls (k : Nat) (A0 : Option Addr) (c0 : Nat) (l0 : List ByteArray) (a1 : ByteArray) (r : Int) (w : World) (hr0 : Kd.C Kd.string w A0 l0.length l0) (hc0 : l0.length ≤ c0) (h : slices_Index_string_string.f k l0 a1 = some r) :
  Calls Try.prog 43 #[.slice A0 l0.length c0, .string a1] w fun e w' => e = .returned (.int .i64 r) ∧ Drawn0 w w' := by
 have HR0 := Aside0.mk hr0
 have HC0 := Aside0.mk hc0
 clear hr0 hc0
 have H : (slices_Index_string_string.l0 k l0 a1 (l0.length : Int) 0) = some r := h
 clear h
 have H' := Aside0.mk H
 clear H
 go_enter Try.func43, Try.ntmps43
 go_wp2
 go_loopg [8] k (fun kq v8 w' => ∃ (x8_1 : Int), v8 = .int .i64 x8_1 ∧ Aside0 (slices_Index_string_string.l0 kq l0 a1 (l0.length : Int) x8_1 = some r) ∧ Aside0 (kq ≤ k) ∧ Drawn0 w w')
 case atStart => exact ⟨(0), Z1, H', ⟨Nat.le_refl _⟩, Z4⟩
 case round =>
  clear H'
  try clear p2
  obtain ⟨x8_1, rfl, HA, HK1, ⟨m1, rfl⟩⟩ := hrel
  cases gk with
  | zero => exact absurd HA.out (by simp [slices_Index_string_string.l0])
  | succ k1 =>
   have H := HA.out
   clear HA
   simp only [slices_Index_string_string.l0] at H
   by_cases c3 : x8_1 < (l0.length : Int)
   ·rw [if_pos c3] at H
    have c3b0 := decide_eq_true c3
    clear c3
    by_cases c4 : 0 ≤ x8_1
    ·rw [if_pos c4] at H
     have c4b0 := decide_eq_true c4
     clear c4
     by_cases c5 : x8_1 < (l0.length : Int)
     ·rw [if_pos c5] at H
      have c5b0 := decide_eq_true c5
      clear c5
      by_cases c6 : a1.toList = (rdOf ByteArray.empty l0 x8_1).toList
      ·rw [if_pos c6] at H
       have c6b0 := e1 c6
       have c6b1 := e2 c6
       clear c6
       obtain rfl := Option.some.inj H
       have p116 : 0 ≤ (x8_1 : Int) := of_decide_eq_true Z3
       have q116 : x8_1 < (l0.length : Int) := of_decide_eq_true Z3
       obtain ⟨ad116, e116, hx116_0⟩ := Kd.at_string HR0.out x8_1 p116 q116
       cases e116
       replace p116 := eq_true p116
       replace q116 := eq_true q116
       go_wp2
       go_ret
       exact ⟨Z1, Z4⟩
      ·rw [if_neg c6] at H
       have c6b0 := e3 c6
       have c6b1 := e4 c6
       have H' := Aside0.mk H
       clear H
       have p116 : 0 ≤ (x8_1 : Int) := of_decide_eq_true Z3
       have q116 : x8_1 < (l0.length : Int) := of_decide_eq_true Z3
       obtain ⟨ad116, e116, hx116_0⟩ := Kd.at_string HR0.out x8_1 p116 q116
       cases e116
       replace p116 := eq_true p116
       replace q116 := eq_true q116
       go_wp2
       go_roundg k1
       case measure => have := HK1.out; omega
       case rel => exact ⟨(wrap64 (x8_1 + 1)), Z1, H', ⟨Z36⟩, Z4⟩
     ·rw [if_neg c5] at H
      exact absurd H Z61
    ·rw [if_neg c4] at H
     exact absurd H Z61
   ·rw [if_neg c3] at H
    have c3b0 := decide_eq_false c3
    clear c3
    obtain rfl := Option.some.inj H
    go_wp2
    go_ret
    exact ⟨Z1, Z4⟩
def goscan_Kind.f (k : Nat) (a0 : ByteArray) : Option (Int × Bool) := (goscan_texts.f k).bind fun t117 => ((slices_Index_string_string.f k t117 a0).bind fun t120 => (if t120 < 0 then (some (0, false)) else (some (wrap64 (8 + t120), true))))
theorem goscan_Kind.mono : ∀ a0 k, LeO (goscan_Kind.f k a0) (goscan_Kind.f (k + 1) a0) := by
 intro a0 k
 unfold goscan_Kind.f
 have m0 := @goscan_texts.mono
 have m1 := @slices_Index_string_string.mono
 exact mO
set_option maxHeartbeats 8000000 in
set_option maxRecDepth 100000 in
theorem goscan_Kind.calls {k : Nat} {a0 : ByteArray} {r1 : Int} {r2 : Bool} {w : World} (h : goscan_Kind.f k a0 = some (r1, r2)) :
  Calls Try.prog 21 #[.string a0] w fun e w' => e = .returned (.tuple #[.int .i64 r1, .bool r2]) ∧ Below w.heap.size w w' := by
 have HB := Aside0.mk (Below.refl w.heap.size w)
 have H : ((goscan_texts.f k).bind fun t117 => ((slices_Index_string_string.f k t117 a0).bind fun t120 => (if t120 < 0 then (some (0, false)) else (some (wrap64 (8 + t120), true))))) = some (r1, r2) := h
 clear h
 replace H := bS H
 obtain ⟨t117, A2, H⟩ := H
 try dsimp only at H
 replace H := bS H
 obtain ⟨t120, A3, H⟩ := H
 try dsimp only at H
 by_cases c4 : t120 < 0
 ·rw [if_pos c4] at H
  have c4b0 := decide_eq_true c4
  clear c4
  simp only [Option.some.injEq, Prod.mk.injEq] at H
  obtain ⟨rfl, rfl⟩ := H
  go_enter Try.func21, Try.ntmps21
  go_wp2_with (first | (refine gQ (some 5) Try.func42 (goscan_texts.calls A2.out) (h := ?_); rintro v118 w5 ⟨ho0, hb⟩; have HO119 := Aside0.mk (Kd.R_lower ho0 (below_size zB)); replace HB := Aside0.mk (below_step zB hb); (try clear hb); (try clear hb2); (try clear hk); (try clear hi); (try clear ho0); obtain ⟨Ao6, co6, eo6⟩ := Kd.R_slice HO119.out; subst eo6) | (refine gL (some 7) Try.func43 #[.slice Ao6 t117.length co6, .string a0] (h := ?_); (with_reducible refine (slices_Index_string_string.calls k _ _ t117 a0 t120 _ ?side1 ?side2 A3.out).mono ?_); (case side1 => repeat (first | exact (Kd.R_reads' HO119.out).2.2 | (with_reducible refine Kd.C_alloc ?_ _) | (with_reducible refine Kd.C_drewN ?_ _) | (with_reducible refine Kd.C_drew ?_))); (case side2 => exact (Kd.R_reads' HO119.out).2.1); rintro e w' ⟨rfl, ⟨nd, rfl⟩⟩; refine ⟨_, rfl, ?_⟩))
  go_ret2
  exact ⟨Z2, Z0⟩
 ·rw [if_neg c4] at H
  have c4b0 := decide_eq_false c4
  clear c4
  simp only [Option.some.injEq, Prod.mk.injEq] at H
  obtain ⟨rfl, rfl⟩ := H
  go_enter Try.func21, Try.ntmps21
  go_wp2_with (first | (refine gQ (some 5) Try.func42 (goscan_texts.calls A2.out) (h := ?_); rintro v118 w7 ⟨ho0, hb⟩; have HO119 := Aside0.mk (Kd.R_lower ho0 (below_size zB)); replace HB := Aside0.mk (below_step zB hb); (try clear hb); (try clear hb2); (try clear hk); (try clear hi); (try clear ho0); obtain ⟨Ao8, co8, eo8⟩ := Kd.R_slice HO119.out; subst eo8) | (refine gL (some 7) Try.func43 #[.slice Ao8 t117.length co8, .string a0] (h := ?_); (with_reducible refine (slices_Index_string_string.calls k _ _ t117 a0 t120 _ ?side1 ?side2 A3.out).mono ?_); (case side1 => repeat (first | exact (Kd.R_reads' HO119.out).2.2 | (with_reducible refine Kd.C_alloc ?_ _) | (with_reducible refine Kd.C_drewN ?_ _) | (with_reducible refine Kd.C_drew ?_))); (case side2 => exact (Kd.R_reads' HO119.out).2.1); rintro e w' ⟨rfl, ⟨nd, rfl⟩⟩; refine ⟨_, rfl, ?_⟩))
  go_ret2
  exact ⟨Z2, Z0⟩
def goscan_kindNewline.f (k : Nat)  : Option (Int) := (goscan_texts.f k).bind fun t121 => (some (wrap64 (8 + (t121.length : Int))))
theorem goscan_kindNewline.mono : ∀ k, LeO (goscan_kindNewline.f k ) (goscan_kindNewline.f (k + 1) ) := by
 intro  k
 unfold goscan_kindNewline.f
 have m0 := @goscan_texts.mono
 exact mO
set_option maxHeartbeats 8000000 in
set_option maxRecDepth 100000 in
theorem goscan_kindNewline.calls {k : Nat} {r : Int} {w : World} (h : goscan_kindNewline.f k  = some r) :
  Calls Try.prog 34 #[] w fun e w' => e = .returned (.int .i64 r) ∧ Below w.heap.size w w' := by
 have HB := Aside0.mk (Below.refl w.heap.size w)
 have H : ((goscan_texts.f k).bind fun t121 => (some (wrap64 (8 + (t121.length : Int))))) = some r := h
 clear h
 replace H := bS H
 obtain ⟨t121, A1, H⟩ := H
 try dsimp only at H
 obtain rfl := Option.some.inj H
 go_enter Try.func34, Try.ntmps34
 go_wp2_with (first | (refine gQ (some 1) Try.func42 (goscan_texts.calls A1.out) (h := ?_); rintro v122 w2 ⟨ho0, hb⟩; have HO123 := Aside0.mk (Kd.R_lower ho0 (below_size zB)); replace HB := Aside0.mk (below_step zB hb); (try clear hb); (try clear hb2); (try clear hk); (try clear hi); (try clear ho0); obtain ⟨Ao3, co3, eo3⟩ := Kd.R_slice HO123.out; subst eo3))
 go_ret
 exact ⟨Z2, Z0⟩
def stringslite_IndexByte.f (a0 : ByteArray) (a1 : Int) : Option (Int) := some (Lib.indexByte a0.data.toList a1.toNat.toUInt8)
set_option maxHeartbeats 1000000 in
set_option maxRecDepth 100000 in
theorem stringslite_IndexByte.calls {a0 : ByteArray} {a1 : Int} {r : Int} {w : World} (h : stringslite_IndexByte.f a0 a1 = some r) :
  Calls Try.prog 101 #[.string a0, .int .u8 a1] w fun e w' => e = .returned (.int .i64 r) ∧ Drawn0 w w' := by
 obtain rfl := Option.some.inj h
 go_enter Try.func101, Try.ntmps101
 go_wp2
 rw [run_callFunc_extern Try.func107 Z5 Z5 Z5 (e := Extern.BytealgIndexByte.indexByte) Z5, Lib.run_indexByteString]
 simp only [Result.andThen]
 rw [Oper.upon_value]
 go_wp2
 go_ret
 exact ⟨rfl, Drawn0.refl _⟩
def strings_IndexByte.f (a0 : ByteArray) (a1 : Int) : Option (Int) := (stringslite_IndexByte.f a0 a1).bind fun t124 => (some t124)
set_option maxHeartbeats 8000000 in
set_option maxRecDepth 100000 in
theorem strings_IndexByte.calls {a0 : ByteArray} {a1 : Int} {r : Int} {w : World} (h : strings_IndexByte.f a0 a1 = some r) :
  Calls Try.prog 89 #[.string a0, .int .u8 a1] w fun e w' => e = .returned (.int .i64 r) ∧ Drawn0 w w' := by
 have H : ((stringslite_IndexByte.f a0 a1).bind fun t124 => (some t124)) = some r := h
 clear h
 replace H := bS H
 obtain ⟨t124, A3, H⟩ := H
 try dsimp only at H
 obtain rfl := Option.some.inj H
 go_enter Try.func89, Try.ntmps89
 go_wp2_with (first | (refine gR (some 7) Try.func101 (stringslite_IndexByte.calls A3.out) (h := ?_); rintro _ ⟨nd, rfl⟩))
 go_ret
 exact ⟨Z1, Z4⟩
def goscan_blankForm.l0 : Nat → ByteArray → Int → Int → Option (Int)
 | 0, _, _, _ => none
 | k + 1, x0, x1, x5 => if x5 < (x0.size : Int) then (if 0 ≤ x5 then ((strings_IndexByte.f (⟨#[9, 13, 32]⟩ : ByteArray) (bt x0 x5)).bind fun t125 => (if t125 ≥ 0 then (goscan_blankForm.l0 k x0 x1 (wrap64 (x5 + 1))) else (if x5 = x1 then (some (-1)) else (some x5)))) else (none)) else (if x5 = x1 then (some (-1)) else (some x5))
def goscan_blankForm.f (k : Nat) (a0 : ByteArray) (a1 : Int) : Option (Int) := goscan_blankForm.l0 k a0 a1 a1
theorem goscan_blankForm.mono_l : ∀ k, (∀ y0 y1 y2, LeO (goscan_blankForm.l0 k y0 y1 y2) (goscan_blankForm.l0 (k + 1) y0 y1 y2))
 | 0 => fun _ _ _ r h => by simp [goscan_blankForm.l0] at h
 | k + 1 => by
  have ih0 := goscan_blankForm.mono_l k
  ·intro y0 y1 y2
   unfold goscan_blankForm.l0
   exact mO
theorem goscan_blankForm.mono : ∀ a0 a1 k, LeO (goscan_blankForm.f k a0 a1) (goscan_blankForm.f (k + 1) a0 a1) := by
 intro a0 a1 k
 have ih0 := goscan_blankForm.mono_l k
 unfold goscan_blankForm.f
 exact mO
set_option maxHeartbeats 8000000 in
set_option maxRecDepth 100000 in
theorem goscan_blankForm.calls {k : Nat} {a0 : ByteArray} {a1 : Int} {r : Int} {w : World} (h : goscan_blankForm.f k a0 a1 = some r) :
  Calls Try.prog 67 #[.string a0, .int .i64 a1] w fun e w' => e = .returned (.int .i64 r) ∧ Drawn0 w w' := by
 have H : (goscan_blankForm.l0 k a0 a1 a1) = some r := h
 clear h
 have H' := Aside0.mk H
 clear H
 go_enter Try.func67, Try.ntmps67
 go_wp2
 go_loopg [5] k (fun kq v5 w' => ∃ (x5_1 : Int), v5 = .int .i64 x5_1 ∧ Aside0 (goscan_blankForm.l0 kq a0 a1 x5_1 = some r) ∧ Aside0 (kq ≤ k) ∧ Drawn0 w w')
 case atStart => exact ⟨(a1), Z1, H', ⟨Nat.le_refl _⟩, Z4⟩
 case round =>
  clear H'
  try clear p2
  obtain ⟨x5_1, rfl, HA, HK1, ⟨m1, rfl⟩⟩ := hrel
  cases gk with
  | zero => exact absurd HA.out (by simp [goscan_blankForm.l0])
  | succ k1 =>
   have H := HA.out
   clear HA
   simp only [goscan_blankForm.l0] at H
   by_cases c3 : x5_1 < (a0.size : Int)
   ·rw [if_pos c3] at H
    have c3b0 := decide_eq_true c3
    clear c3
    by_cases c4 : 0 ≤ x5_1
    ·rw [if_pos c4] at H
     have c4b0 := decide_eq_true c4
     clear c4
     replace H := bS H
     obtain ⟨t125, A6, H⟩ := H
     try dsimp only at H
     by_cases c7 : t125 ≥ 0
     ·rw [if_pos c7] at H
      have c7b0 : decide (0 ≤ t125) = true := decide_eq_true c7
      clear c7
      have H' := Aside0.mk H
      clear H
      have p5 : 0 ≤ (x5_1 : Int) := of_decide_eq_true Z3
      have q5 : x5_1 < (a0.size : Int) := of_decide_eq_true Z3
      have hx5 := bt_at a0 x5_1
      replace p5 := eq_true p5
      replace q5 := eq_true q5
      go_wp2_with (first | (go_at_call 89; (with_reducible refine (strings_IndexByte.calls A6.out).mono ?_); rintro e w' ⟨rfl, ⟨nd, rfl⟩⟩))
      go_roundg k1
      case measure => have := HK1.out; omega
      case rel => exact ⟨(wrap64 (x5_1 + 1)), Z1, H', ⟨Z36⟩, Z4⟩
     ·rw [if_neg c7] at H
      have c7b0 : decide (0 ≤ t125) = false := decide_eq_false c7
      clear c7
      by_cases c8 : x5_1 = a1
      ·rw [if_pos c8] at H
       have c8b0 := e1 c8
       have c8b1 := e2 c8
       clear c8
       obtain rfl := Option.some.inj H
       have p5 : 0 ≤ (x5_1 : Int) := of_decide_eq_true Z3
       have q5 : x5_1 < (a0.size : Int) := of_decide_eq_true Z3
       have hx5 := bt_at a0 x5_1
       replace p5 := eq_true p5
       replace q5 := eq_true q5
       go_wp2_with (first | (go_at_call 89; (with_reducible refine (strings_IndexByte.calls A6.out).mono ?_); rintro e w' ⟨rfl, ⟨nd, rfl⟩⟩))
       go_ret
       exact ⟨Z1, Z4⟩
      ·rw [if_neg c8] at H
       have c8b0 := e3 c8
       have c8b1 := e4 c8
       obtain rfl := Option.some.inj H
       have p5 : 0 ≤ (x5_1 : Int) := of_decide_eq_true Z3
       have q5 : x5_1 < (a0.size : Int) := of_decide_eq_true Z3
       have hx5 := bt_at a0 x5_1
       replace p5 := eq_true p5
       replace q5 := eq_true q5
       go_wp2_with (first | (go_at_call 89; (with_reducible refine (strings_IndexByte.calls A6.out).mono ?_); rintro e w' ⟨rfl, ⟨nd, rfl⟩⟩))
       go_ret
       exact ⟨Z1, Z4⟩
    ·rw [if_neg c4] at H
     exact absurd H Z61
   ·rw [if_neg c3] at H
    have c3b0 := decide_eq_false c3
    clear c3
    by_cases c9 : x5_1 = a1
    ·rw [if_pos c9] at H
     have c9b0 := e1 c9
     have c9b1 := e2 c9
     clear c9
     obtain rfl := Option.some.inj H
     go_wp2
     go_ret
     exact ⟨Z1, Z4⟩
    ·rw [if_neg c9] at H
     have c9b0 := e3 c9
     have c9b1 := e4 c9
     obtain rfl := Option.some.inj H
     go_wp2
     go_ret
     exact ⟨Z1, Z4⟩
def goscan_at.f (a0 : ByteArray) (a1 : Int) : Option (Int) := if a1 < (a0.size : Int) then (if 0 ≤ a1 then (some (bt a0 a1)) else (none)) else (some 0)
set_option maxHeartbeats 8000000 in
set_option maxRecDepth 100000 in
theorem goscan_at.calls {a0 : ByteArray} {a1 : Int} {r : Int} {w : World} (h : goscan_at.f a0 a1 = some r) :
  Calls Try.prog 90 #[.string a0, .int .i64 a1] w fun e w' => e = .returned (.int .u8 r) ∧ Drawn0 w w' := by
 have H : (if a1 < (a0.size : Int) then (if 0 ≤ a1 then (some (bt a0 a1)) else (none)) else (some 0)) = some r := h
 clear h
 by_cases c3 : a1 < (a0.size : Int)
 ·rw [if_pos c3] at H
  have c3b0 := decide_eq_true c3
  clear c3
  by_cases c4 : 0 ≤ a1
  ·rw [if_pos c4] at H
   have c4b0 := decide_eq_true c4
   clear c4
   obtain rfl := Option.some.inj H
   have p5 : 0 ≤ (a1 : Int) := of_decide_eq_true Z3
   have q5 : a1 < (a0.size : Int) := of_decide_eq_true Z3
   have hx5 := bt_at a0 a1
   replace p5 := eq_true p5
   replace q5 := eq_true q5
   go_enter Try.func90, Try.ntmps90
   go_wp2
   go_ret
   exact ⟨Z1, Z4⟩
  ·rw [if_neg c4] at H
   exact absurd H Z61
 ·rw [if_neg c3] at H
  have c3b0 := decide_eq_false c3
  clear c3
  obtain rfl := Option.some.inj H
  go_enter Try.func90, Try.ntmps90
  go_wp2
  go_ret
  exact ⟨Z1, Z4⟩
def goscan_newlineForm.f (a0 : ByteArray) (a1 : Int) : Option (Int) := (goscan_at.f a0 a1).bind fun t126 => (if t126 = 10 then (some (wrap64 (a1 + 1))) else (some (-1)))
set_option maxHeartbeats 8000000 in
set_option maxRecDepth 100000 in
theorem goscan_newlineForm.calls {a0 : ByteArray} {a1 : Int} {r : Int} {w : World} (h : goscan_newlineForm.f a0 a1 = some r) :
  Calls Try.prog 68 #[.string a0, .int .i64 a1] w fun e w' => e = .returned (.int .i64 r) ∧ Drawn0 w w' := by
 have H : ((goscan_at.f a0 a1).bind fun t126 => (if t126 = 10 then (some (wrap64 (a1 + 1))) else (some (-1)))) = some r := h
 clear h
 replace H := bS H
 obtain ⟨t126, A3, H⟩ := H
 try dsimp only at H
 by_cases c4 : t126 = 10
 ·rw [if_pos c4] at H
  have c4b0 := e1 c4
  have c4b1 := e2 c4
  clear c4
  obtain rfl := Option.some.inj H
  go_enter Try.func68, Try.ntmps68
  go_wp2_with (first | (refine gR (some 7) Try.func90 (goscan_at.calls A3.out) (h := ?_); rintro _ ⟨nd, rfl⟩))
  go_ret
  exact ⟨Z1, Z4⟩
 ·rw [if_neg c4] at H
  have c4b0 := e3 c4
  have c4b1 := e4 c4
  obtain rfl := Option.some.inj H
  go_enter Try.func68, Try.ntmps68
  go_wp2_with (first | (refine gR (some 7) Try.func90 (goscan_at.calls A3.out) (h := ?_); rintro _ ⟨nd, rfl⟩))
  go_ret
  exact ⟨Z1, Z4⟩
def text_Next.f (a0 : ByteArray) (a1 : Int) : Option (Int × Int × Bool) := if a1 < 0 then some (0, 0, false) else if a1 ≥ (a0.size : Int) then some (0, 0, false) else if ((Utf8.decode (a0.extract a1.toNat a0.size) 0).1 : Int) = 65533 then (if (3 : Int) ≤ ((a0.size - a1.toNat : Nat) : Int) then (if ((a0.extract a1.toNat a0.size).extract 0 3).toList = [239, 191, 189] then some (65533, 3, true) else some (0, 1, false)) else some (0, 1, false)) else some (((Utf8.decode (a0.extract a1.toNat a0.size) 0).1 : Int), ((Utf8.encode (Utf8.decode (a0.extract a1.toNat a0.size) 0).1).size : Int), true)
set_option maxHeartbeats 8000000 in
set_option maxRecDepth 100000 in
theorem text_Next.calls {a0 : ByteArray} {a1 : Int} {r1 : Int} {r2 : Int} {r3 : Bool} {w : World} (h : text_Next.f a0 a1 = some (r1, r2, r3)) :
  Calls Try.prog 30 #[.string a0, .int .i64 a1] w fun e w' => e = .returned (.tuple #[.int .i32 r1, .int .i64 r2, .bool r3]) ∧ Below w.heap.size w w' := by
 unfold text_Next.f at h
 by_cases c1 : a1 < 0
 ·rw [if_pos c1] at h
  obtain ⟨rfl, rfl, rfl⟩ : r1 = 0 ∧ r2 = 0 ∧ r3 = false := by simpa [eq_comm] using h
  clear h
  go_enter Try.func30, Try.ntmps30
  go_wp2
  go_ret3
  exact ⟨rfl, Below.refl _ _⟩
 rw [if_neg c1] at h
 by_cases c2 : a1 ≥ (a0.size : Int)
 ·rw [if_pos c2] at h
  obtain ⟨rfl, rfl, rfl⟩ : r1 = 0 ∧ r2 = 0 ∧ r3 = false := by simpa [eq_comm] using h
  clear h
  go_enter Try.func30, Try.ntmps30
  go_wp2
  go_ret3
  exact ⟨rfl, Below.refl _ _⟩
 rw [if_neg c2] at h
 have d1 : decide (a1 < 0) = false := decide_eq_false c1
 have d2 : decide ((a0.size : Int) ≤ a1) = false := decide_eq_false c2
 have d3 : 0 ≤ a1 := by omega
 have d4' : a1 ≤ (a0.size : Int) := by omega
 have hp : 0 < (a0.extract a1.toNat a0.size).size := by simp; omega
 clear c1 c2
 have hb : Below w.heap.size w ((w.iter (a0.extract a1.toNat a0.size) (Utf8.decode (a0.extract a1.toNat a0.size) 0).2)) := by unfold World.iter; exact (Below.refl _ _).alloc (Nat.le_refl _) _
 have hnx : ∀ ty, (Instr.next (.pointer (some ⟨w.heap.size, 0, none⟩)) true ty).run Try.prog (w.iter (a0.extract a1.toNat a0.size) 0) = _ := fun ty => run_next_any w (a0.extract a1.toNat a0.size) 0 ty hp
 have hb := Aside0.mk hb
 by_cases c3 : ((Utf8.decode (a0.extract a1.toNat a0.size) 0).1 : Int) = 65533
 ·rw [if_pos c3] at h
  have hz : (0 : Int) ≤ 3 := by decide
  by_cases c4 : (3 : Int) ≤ ((a0.size - a1.toNat : Nat) : Int)
  ·rw [if_pos c4] at h
   by_cases c5 : ((a0.extract a1.toNat a0.size).extract 0 3).toList = [239, 191, 189]
   ·rw [if_pos c5] at h
    obtain ⟨rfl, rfl, rfl⟩ : r1 = 65533 ∧ r2 = 3 ∧ r3 = true := by simpa [eq_comm] using h
    clear h
    have he : (Utf8.encode 65533).size = 3 := by decide
    go_enter Try.func30, Try.ntmps30
    go_wp2
    refine wp_loop_rounds 1 ?_
    rw [rounds_succ]
    go_wp2
    go_ret3
    exact ⟨rfl, hb.out⟩
   ·rw [if_neg c5] at h
    obtain ⟨rfl, rfl, rfl⟩ : r1 = 0 ∧ r2 = 1 ∧ r3 = false := by simpa [eq_comm] using h
    clear h
    have c5' : (((a0.extract a1.toNat a0.size).extract 0 3).toList == [239, 191, 189]) = false := by simpa using c5
    clear c5
    go_enter Try.func30, Try.ntmps30
    go_wp2
    refine wp_loop_rounds 1 ?_
    rw [rounds_succ]
    go_wp2
    go_ret3
    exact ⟨rfl, hb.out⟩
  ·rw [if_neg c4] at h
   obtain ⟨rfl, rfl, rfl⟩ : r1 = 0 ∧ r2 = 1 ∧ r3 = false := by simpa [eq_comm] using h
   clear h
   have c4' : decide ((3 : Int) ≤ ((a0.size - a1.toNat : Nat) : Int)) = false := decide_eq_false c4
   clear c4
   go_enter Try.func30, Try.ntmps30
   go_wp2
   refine wp_loop_rounds 1 ?_
   rw [rounds_succ]
   go_wp2
   go_ret3
   exact ⟨rfl, hb.out⟩
 ·rw [if_neg c3] at h
  obtain ⟨rfl, rfl, rfl⟩ : r1 = ((Utf8.decode (a0.extract a1.toNat a0.size) 0).1 : Int) ∧ r2 = ((Utf8.encode (Utf8.decode (a0.extract a1.toNat a0.size) 0).1).size : Int) ∧ r3 = true := by simpa [eq_comm] using h
  clear h
  have c3' : (((Utf8.decode (a0.extract a1.toNat a0.size) 0).1 : Int) == 65533) = false := by simpa using c3
  clear c3
  go_enter Try.func30, Try.ntmps30
  go_wp2
  refine wp_loop_rounds 1 ?_
  rw [rounds_succ]
  go_wp2
  go_ret3
  exact ⟨rfl, hb.out⟩
def goscan_plainRune.f (a0 : ByteArray) (a1 : Int) : Option (Int × Int) := (text_Next.f a0 a1).bind fun bt127 => (if bt127.2.2 = true then (if bt127.1 = 0 then (some (0, 0)) else (if bt127.1 = 65279 then (some (0, 0)) else (some (bt127.1, bt127.2.1)))) else (some (0, 0)))
set_option maxHeartbeats 8000000 in
set_option maxRecDepth 100000 in
theorem goscan_plainRune.calls {a0 : ByteArray} {a1 : Int} {r1 : Int} {r2 : Int} {w : World} (h : goscan_plainRune.f a0 a1 = some (r1, r2)) :
  Calls Try.prog 91 #[.string a0, .int .i64 a1] w fun e w' => e = .returned (.tuple #[.int .i32 r1, .int .i64 r2]) ∧ Below w.heap.size w w' := by
 have HB := Aside0.mk (Below.refl w.heap.size w)
 have H : ((text_Next.f a0 a1).bind fun bt127 => (if bt127.2.2 = true then (if bt127.1 = 0 then (some (0, 0)) else (if bt127.1 = 65279 then (some (0, 0)) else (some (bt127.1, bt127.2.1)))) else (some (0, 0)))) = some (r1, r2) := h
 clear h
 replace H := bS H
 obtain ⟨⟨t127, t128, t129⟩, A3, H⟩ := H
 try dsimp only at H
 by_cases c4 : t129 = true
 ·subst c4
  have H1 : (if t127 = 0 then (some (0, 0)) else (if t127 = 65279 then (some (0, 0)) else (some (t127, t128)))) = some (r1, r2) := by rw [if_pos rfl] at H; exact H
  clear H
  have H := H1
  clear H1
  by_cases c5 : t127 = 0
  ·rw [if_pos c5] at H
   have c5b0 := e1 c5
   have c5b1 := e2 c5
   clear c5
   simp only [Option.some.injEq, Prod.mk.injEq] at H
   obtain ⟨rfl, rfl⟩ := H
   go_enter Try.func91, Try.ntmps91
   go_wp2_with (first | (refine gR (some 12) Try.func30 (text_Next.calls A3.out) (h := ?_); rintro w6 hb; replace HB := Aside0.mk (below_step zB hb); (try clear hb); (try clear hb2); (try clear hk); (try clear hi)))
   go_ret2
   exact ⟨Z2, Z0⟩
  ·rw [if_neg c5] at H
   have c5b0 := e3 c5
   have c5b1 := e4 c5
   by_cases c7 : t127 = 65279
   ·rw [if_pos c7] at H
    have c7b0 := e1 c7
    have c7b1 := e2 c7
    clear c7
    simp only [Option.some.injEq, Prod.mk.injEq] at H
    obtain ⟨rfl, rfl⟩ := H
    go_enter Try.func91, Try.ntmps91
    go_wp2_with (first | (refine gR (some 12) Try.func30 (text_Next.calls A3.out) (h := ?_); rintro w8 hb; replace HB := Aside0.mk (below_step zB hb); (try clear hb); (try clear hb2); (try clear hk); (try clear hi)))
    go_ret2
    exact ⟨Z2, Z0⟩
   ·rw [if_neg c7] at H
    have c7b0 := e3 c7
    have c7b1 := e4 c7
    simp only [Option.some.injEq, Prod.mk.injEq] at H
    obtain ⟨rfl, rfl⟩ := H
    go_enter Try.func91, Try.ntmps91
    go_wp2_with (first | (refine gR (some 12) Try.func30 (text_Next.calls A3.out) (h := ?_); rintro w9 hb; replace HB := Aside0.mk (below_step zB hb); (try clear hb); (try clear hb2); (try clear hk); (try clear hi)))
    go_ret2
    exact ⟨Z2, Z0⟩
 ·replace c4 := Bool.eq_false_iff.mpr c4
  subst c4
  have H1 : (some (0, 0)) = some (r1, r2) := by rw [if_neg (show ¬ (false = true) by decide)] at H; exact H
  clear H
  have H := H1
  clear H1
  simp only [Option.some.injEq, Prod.mk.injEq] at H
  obtain ⟨rfl, rfl⟩ := H
  go_enter Try.func91, Try.ntmps91
  go_wp2_with (first | (refine gR (some 12) Try.func30 (text_Next.calls A3.out) (h := ?_); rintro w10 hb; replace HB := Aside0.mk (below_step zB hb); (try clear hb); (try clear hb2); (try clear hk); (try clear hi)))
  go_ret2
  exact ⟨Z2, Z0⟩
def goscan_remarkForm.l0 : Nat → ByteArray → Int → Option (Int)
 | 0, _, _ => none
 | k + 1, x0, x1 => (goscan_plainRune.f x0 x1).bind fun bt131 => (if bt131.2 = 0 then (some x1) else (if bt131.1 = 10 then (some x1) else (goscan_remarkForm.l0 k x0 (wrap64 (x1 + bt131.2)))))
def goscan_remarkForm.f (k : Nat) (a0 : ByteArray) (a1 : Int) : Option (Int) := if 0 ≤ a1 then (if a1 ≤ (a0.size : Int) then ((strings_HasPrefix.f (a0.extract (a1 : Int).toNat a0.size) (⟨#[47, 47]⟩ : ByteArray)).bind fun t130 => (if t130 = true then (goscan_remarkForm.l0 k a0 a1) else (some (-1)))) else (none)) else (none)
theorem goscan_remarkForm.mono_l : ∀ k, (∀ y0 y1, LeO (goscan_remarkForm.l0 k y0 y1) (goscan_remarkForm.l0 (k + 1) y0 y1))
 | 0 => fun _ _ r h => by simp [goscan_remarkForm.l0] at h
 | k + 1 => by
  have ih0 := goscan_remarkForm.mono_l k
  ·intro y0 y1
   unfold goscan_remarkForm.l0
   exact mO
theorem goscan_remarkForm.mono : ∀ a0 a1 k, LeO (goscan_remarkForm.f k a0 a1) (goscan_remarkForm.f (k + 1) a0 a1) := by
 intro a0 a1 k
 have ih0 := goscan_remarkForm.mono_l k
 unfold goscan_remarkForm.f
 exact mO
set_option maxHeartbeats 8000000 in
set_option maxRecDepth 100000 in
theorem goscan_remarkForm.calls {k : Nat} {a0 : ByteArray} {a1 : Int} {r : Int} {w : World} (h : goscan_remarkForm.f k a0 a1 = some r) :
  Calls Try.prog 69 #[.string a0, .int .i64 a1] w fun e w' => e = .returned (.int .i64 r) ∧ Below w.heap.size w w' := by
 have HB := Aside0.mk (Below.refl w.heap.size w)
 have H : (if 0 ≤ a1 then (if a1 ≤ (a0.size : Int) then ((strings_HasPrefix.f (a0.extract (a1 : Int).toNat a0.size) (⟨#[47, 47]⟩ : ByteArray)).bind fun t130 => (if t130 = true then (goscan_remarkForm.l0 k a0 a1) else (some (-1)))) else (none)) else (none)) = some r := h
 clear h
 by_cases c3 : 0 ≤ a1
 ·rw [if_pos c3] at H
  have c3b0 := eq_true c3
  have c3b1 := decide_eq_true c3
  clear c3
  by_cases c4 : a1 ≤ (a0.size : Int)
  ·rw [if_pos c4] at H
   have c4b0 := eq_true c4
   have c4b1 := decide_eq_true c4
   clear c4
   replace H := bS H
   obtain ⟨t130, A5, H⟩ := H
   try dsimp only at H
   by_cases c6 : t130 = true
   ·subst c6
    have H1 : (goscan_remarkForm.l0 k a0 a1) = some r := by rw [if_pos rfl] at H; exact H
    clear H
    have H := H1
    clear H1
    have H' := Aside0.mk H
    clear H
    go_enter Try.func69, Try.ntmps69
    go_wp2_with (first | (refine gR (some 10) Try.func28 (strings_HasPrefix.calls A5.out) (h := ?_); rintro _ ⟨nd, rfl⟩))
    go_loopg [1] k (fun kq v1 w' => ∃ (x1_1 : Int), v1 = .int .i64 x1_1 ∧ Aside0 (goscan_remarkForm.l0 kq a0 x1_1 = some r) ∧ Aside0 (kq ≤ k) ∧ Aside0 (Below w.heap.size w w'))
    case atStart => exact ⟨(a1), Z1, H', ⟨Nat.le_refl _⟩, ⟨Z0⟩⟩
    case round =>
     clear H'
     try clear c2
     try clear p2
     try clear c3
     try clear c3b0
     try clear c3b1
     try clear c4
     try clear c4b0
     try clear c4b1
     try clear c6
     obtain ⟨x1_1, rfl, HA, HK1, HB⟩ := hrel
     cases gk with
     | zero => exact absurd HA.out (by simp [goscan_remarkForm.l0])
     | succ k1 =>
      have H := HA.out
      clear HA
      simp only [goscan_remarkForm.l0] at H
      replace H := bS H
      obtain ⟨⟨t131, t132⟩, A7, H⟩ := H
      try dsimp only at H
      by_cases c8 : t132 = 0
      ·rw [if_pos c8] at H
       have c8b0 := e1 c8
       have c8b1 := e2 c8
       clear c8
       obtain rfl := Option.some.inj H
       go_wp2_with (first | (refine gR (some 15) Try.func91 (goscan_plainRune.calls A7.out) (h := ?_); rintro w9 hb; replace HB := Aside0.mk (below_step zB hb); (try clear hb); (try clear hb2); (try clear hk); (try clear hi)))
       go_ret
       exact ⟨Z2, Z0⟩
      ·rw [if_neg c8] at H
       have c8b0 := e3 c8
       have c8b1 := e4 c8
       by_cases c10 : t131 = 10
       ·rw [if_pos c10] at H
        have c10b0 := e1 c10
        have c10b1 := e2 c10
        clear c10
        obtain rfl := Option.some.inj H
        go_wp2_with (first | (refine gR (some 15) Try.func91 (goscan_plainRune.calls A7.out) (h := ?_); rintro w11 hb; replace HB := Aside0.mk (below_step zB hb); (try clear hb); (try clear hb2); (try clear hk); (try clear hi)))
        go_ret
        exact ⟨Z2, Z0⟩
       ·rw [if_neg c10] at H
        have c10b0 := e3 c10
        have c10b1 := e4 c10
        have H' := Aside0.mk H
        clear H
        go_wp2_with (first | (refine gR (some 15) Try.func91 (goscan_plainRune.calls A7.out) (h := ?_); rintro w12 hb; replace HB := Aside0.mk (below_step zB hb); (try clear hb); (try clear hb2); (try clear hk); (try clear hi)))
        go_roundg k1
        case measure => have := HK1.out; omega
        case rel => exact ⟨(wrap64 (x1_1 + t132)), Z1, H', ⟨Z36⟩, ⟨Z0⟩⟩
   ·replace c6 := Bool.eq_false_iff.mpr c6
    subst c6
    have H1 : (some (-1)) = some r := by rw [if_neg (show ¬ (false = true) by decide)] at H; exact H
    clear H
    have H := H1
    clear H1
    obtain rfl := Option.some.inj H
    go_enter Try.func69, Try.ntmps69
    go_wp2_with (first | (refine gR (some 10) Try.func28 (strings_HasPrefix.calls A5.out) (h := ?_); rintro _ ⟨nd, rfl⟩))
    go_ret
    exact ⟨Z2, Z0⟩
  ·rw [if_neg c4] at H
   exact absurd H Z61
 ·rw [if_neg c3] at H
  exact absurd H Z61
def goscan_commentForm.l0 : Nat → ByteArray → Int → Option (Int)
 | 0, _, _ => none
 | k + 1, x0, x1 => if 0 ≤ (mn x1 (x0.size : Int)) then (if (mn x1 (x0.size : Int)) ≤ (x0.size : Int) then ((strings_HasPrefix.f (x0.extract ((mn x1 (x0.size : Int)) : Int).toNat x0.size) (⟨#[42, 47]⟩ : ByteArray)).bind fun t134 => (if t134 = true then (some (wrap64 (x1 + 2))) else ((goscan_plainRune.f x0 x1).bind fun bt135 => (if bt135.2 = 0 then (some (-1)) else (goscan_commentForm.l0 k x0 (wrap64 (x1 + bt135.2))))))) else (none)) else (none)
def goscan_commentForm.f (k : Nat) (a0 : ByteArray) (a1 : Int) : Option (Int) := if 0 ≤ a1 then (if a1 ≤ (a0.size : Int) then ((strings_HasPrefix.f (a0.extract (a1 : Int).toNat a0.size) (⟨#[47, 42]⟩ : ByteArray)).bind fun t133 => (if t133 = true then (goscan_commentForm.l0 k a0 (wrap64 (a1 + 2))) else (some (-1)))) else (none)) else (none)
theorem goscan_commentForm.mono_l : ∀ k, (∀ y0 y1, LeO (goscan_commentForm.l0 k y0 y1) (goscan_commentForm.l0 (k + 1) y0 y1))
 | 0 => fun _ _ r h => by simp [goscan_commentForm.l0] at h
 | k + 1 => by
  have ih0 := goscan_commentForm.mono_l k
  ·intro y0 y1
   unfold goscan_commentForm.l0
   exact mO
theorem goscan_commentForm.mono : ∀ a0 a1 k, LeO (goscan_commentForm.f k a0 a1) (goscan_commentForm.f (k + 1) a0 a1) := by
 intro a0 a1 k
 have ih0 := goscan_commentForm.mono_l k
 unfold goscan_commentForm.f
 exact mO
set_option maxHeartbeats 8000000 in
set_option maxRecDepth 100000 in
theorem goscan_commentForm.calls {k : Nat} {a0 : ByteArray} {a1 : Int} {r : Int} {w : World} (h : goscan_commentForm.f k a0 a1 = some r) :
  Calls Try.prog 70 #[.string a0, .int .i64 a1] w fun e w' => e = .returned (.int .i64 r) ∧ Below w.heap.size w w' := by
 have HB := Aside0.mk (Below.refl w.heap.size w)
 have H : (if 0 ≤ a1 then (if a1 ≤ (a0.size : Int) then ((strings_HasPrefix.f (a0.extract (a1 : Int).toNat a0.size) (⟨#[47, 42]⟩ : ByteArray)).bind fun t133 => (if t133 = true then (goscan_commentForm.l0 k a0 (wrap64 (a1 + 2))) else (some (-1)))) else (none)) else (none)) = some r := h
 clear h
 by_cases c3 : 0 ≤ a1
 ·rw [if_pos c3] at H
  have c3b0 := eq_true c3
  have c3b1 := decide_eq_true c3
  clear c3
  by_cases c4 : a1 ≤ (a0.size : Int)
  ·rw [if_pos c4] at H
   have c4b0 := eq_true c4
   have c4b1 := decide_eq_true c4
   clear c4
   replace H := bS H
   obtain ⟨t133, A5, H⟩ := H
   try dsimp only at H
   by_cases c6 : t133 = true
   ·subst c6
    have H1 : (goscan_commentForm.l0 k a0 (wrap64 (a1 + 2))) = some r := by rw [if_pos rfl] at H; exact H
    clear H
    have H := H1
    clear H1
    have H' := Aside0.mk H
    clear H
    go_enter Try.func70, Try.ntmps70
    go_wp2_with (first | (refine gR (some 10) Try.func28 (strings_HasPrefix.calls A5.out) (h := ?_); rintro _ ⟨nd, rfl⟩))
    go_loopg [1] k (fun kq v1 w' => ∃ (x1_1 : Int), v1 = .int .i64 x1_1 ∧ Aside0 (goscan_commentForm.l0 kq a0 x1_1 = some r) ∧ Aside0 (kq ≤ k) ∧ Aside0 (Below w.heap.size w w'))
    case atStart => exact ⟨(wrap64 (a1 + 2)), Z1, H', ⟨Nat.le_refl _⟩, ⟨Z0⟩⟩
    case round =>
     clear H'
     try clear c2
     try clear p2
     try clear c3
     try clear c3b0
     try clear c3b1
     try clear c4
     try clear c4b0
     try clear c4b1
     try clear c6
     try clear p6
     obtain ⟨x1_1, rfl, HA, HK1, HB⟩ := hrel
     cases gk with
     | zero => exact absurd HA.out (by simp [goscan_commentForm.l0])
     | succ k1 =>
      have H := HA.out
      clear HA
      simp only [goscan_commentForm.l0] at H
      obtain ⟨ji7, hji7⟩ : ∃ j_ : Int, (mn x1_1 (a0.size : Int)) = j_ := ⟨_, rfl⟩
      replace H : (if 0 ≤ (ji7) then (if (ji7) ≤ (a0.size : Int) then ((strings_HasPrefix.f (a0.extract ((ji7) : Int).toNat a0.size) (⟨#[42, 47]⟩ : ByteArray)).bind fun t134 => (if t134 = true then (some (wrap64 (x1_1 + 2))) else ((goscan_plainRune.f a0 x1_1).bind fun bt135 => (if bt135.2 = 0 then (some (-1)) else (goscan_commentForm.l0 k1 a0 (wrap64 (x1_1 + bt135.2))))))) else (none)) else (none)) = some r := by first | (rw [hji7] at H; exact H) | (simp only [hji7] at H ⊢; exact H)
      have hji7_ : (if (a0.size : Int) < x1_1 then (a0.size : Int) else x1_1) = ji7 := hji7
      by_cases c8 : 0 ≤ (ji7)
      ·rw [if_pos c8] at H
       have c8b0 := eq_true c8
       have c8b1 := decide_eq_true c8
       clear c8
       by_cases c9 : (ji7) ≤ (a0.size : Int)
       ·rw [if_pos c9] at H
        have c9b0 := eq_true c9
        have c9b1 := decide_eq_true c9
        clear c9
        replace H := bS H
        obtain ⟨t134, A10, H⟩ := H
        try dsimp only at H
        by_cases c11 : t134 = true
        ·subst c11
         have H1 : (some (wrap64 (x1_1 + 2))) = some r := by rw [if_pos rfl] at H; exact H
         clear H
         have H := H1
         clear H1
         obtain rfl := Option.some.inj H
         go_wp2_with (first | ((with_reducible refine gC 28 rfl ?_); refine goesL_ (some 20) rfl rfl Try.func28 Z5 rfl #[.string (a0.extract ((ji7) : Int).toNat a0.size), .string (⟨#[42, 47]⟩ : ByteArray)] rfl Z65 ?_; (with_reducible refine (strings_HasPrefix.calls A10.out).mono ?_); rintro e w' ⟨rfl, ⟨nd, rfl⟩⟩; refine ⟨_, rfl, ?_⟩))
         go_ret
         exact ⟨by first | rfl | (simp [errW_none, errW_some] <;> rfl) | (simp only [← hji7]; first | rfl | (simp [errW_none, errW_some] <;> rfl)) | (simp [*, errW_none, errW_some] <;> rfl), Z0⟩
        ·replace c11 := Bool.eq_false_iff.mpr c11
         subst c11
         have H1 : ((goscan_plainRune.f a0 x1_1).bind fun bt135 => (if bt135.2 = 0 then (some (-1)) else (goscan_commentForm.l0 k1 a0 (wrap64 (x1_1 + bt135.2))))) = some r := by rw [if_neg (show ¬ (false = true) by decide)] at H; exact H
         clear H
         have H := H1
         clear H1
         replace H := bS H
         obtain ⟨⟨t135, t136⟩, A12, H⟩ := H
         try dsimp only at H
         by_cases c13 : t136 = 0
         ·rw [if_pos c13] at H
          have c13b0 := e1 c13
          have c13b1 := e2 c13
          clear c13
          obtain rfl := Option.some.inj H
          go_wp2_with (first | ((with_reducible refine gC 28 rfl ?_); refine goesL_ (some 20) rfl rfl Try.func28 Z5 rfl #[.string (a0.extract ((ji7) : Int).toNat a0.size), .string (⟨#[42, 47]⟩ : ByteArray)] rfl Z65 ?_; (with_reducible refine (strings_HasPrefix.calls A10.out).mono ?_); rintro e w' ⟨rfl, ⟨nd, rfl⟩⟩; refine ⟨_, rfl, ?_⟩) | (refine gR (some 25) Try.func91 (goscan_plainRune.calls A12.out) (h := ?_); rintro w14 hb; replace HB := Aside0.mk (below_step zB hb); (try clear hb); (try clear hb2); (try clear hk); (try clear hi)))
          go_ret
          exact ⟨by first | rfl | (simp [errW_none, errW_some] <;> rfl) | (simp only [← hji7]; first | rfl | (simp [errW_none, errW_some] <;> rfl)) | (simp [*, errW_none, errW_some] <;> rfl), Z0⟩
         ·rw [if_neg c13] at H
          have c13b0 := e3 c13
          have c13b1 := e4 c13
          have H' := Aside0.mk H
          clear H
          go_wp2_with (first | ((with_reducible refine gC 28 rfl ?_); refine goesL_ (some 20) rfl rfl Try.func28 Z5 rfl #[.string (a0.extract ((ji7) : Int).toNat a0.size), .string (⟨#[42, 47]⟩ : ByteArray)] rfl Z65 ?_; (with_reducible refine (strings_HasPrefix.calls A10.out).mono ?_); rintro e w' ⟨rfl, ⟨nd, rfl⟩⟩; refine ⟨_, rfl, ?_⟩) | (refine gR (some 25) Try.func91 (goscan_plainRune.calls A12.out) (h := ?_); rintro w15 hb; replace HB := Aside0.mk (below_step zB hb); (try clear hb); (try clear hb2); (try clear hk); (try clear hi)))
          go_roundg k1
          case measure => have := HK1.out; omega
          case rel => exact ⟨(wrap64 (x1_1 + t136)), Z1, H', ⟨Z36⟩, ⟨Z0⟩⟩
       ·rw [if_neg c9] at H
        exact absurd H Z61
      ·rw [if_neg c8] at H
       exact absurd H Z61
   ·replace c6 := Bool.eq_false_iff.mpr c6
    subst c6
    have H1 : (some (-1)) = some r := by rw [if_neg (show ¬ (false = true) by decide)] at H; exact H
    clear H
    have H := H1
    clear H1
    obtain rfl := Option.some.inj H
    go_enter Try.func70, Try.ntmps70
    go_wp2_with (first | (refine gR (some 10) Try.func28 (strings_HasPrefix.calls A5.out) (h := ?_); rintro _ ⟨nd, rfl⟩))
    go_ret
    exact ⟨Z2, Z0⟩
  ·rw [if_neg c4] at H
   exact absurd H Z61
 ·rw [if_neg c3] at H
  exact absurd H Z61
end Go.Proofs.Ytcajiapjdlphmaa.H
