import Derived.Test.YtcajiapjdlphmaaEPre
import Derived.Test.YtcajiapjdlphmaaEabcdfx0
namespace Go.Proofs.Ytcajiapjdlphmaa.H
open Go.RowKit Go.Proofs.YtcajiapjdlphmaaW.PrintWords Go.Proofs.YtcajiapjdlphmaaW.PrintLast Go.Proofs.YtcajiapjdlphmaaW.PrintMore
attribute [local go_sem] max2_int min2_int max_two min_two max_three min_three max_four min_four
set_option linter.unusedVariables false
set_option linter.unusedSimpArgs false
def quoinref26_Follows.l0 : Nat → Int → List ByteArray → Int → Option (Bool)
 | 0, _, _, _ => none
 | k + 1, x0, x3, x4 => if x4 < (x3.length : Int) then (if 0 ≤ x4 then ((quoinref26_number.f k (rdOf ByteArray.empty x3 x4)).bind fun t519 => (if t519 = x0 then (some true) else (quoinref26_Follows.l0 k x0 x3 (wrap64 (x4 + 1))))) else (none)) else (some false)
def quoinref26_Follows.f (k : Nat) (a0 : Int) : Option (Bool) := quoinref26_Follows.l0 k a0 (([(⟨#[105, 100, 101, 110, 116]⟩ : ByteArray), (⟨#[105, 110, 116]⟩ : ByteArray), (⟨#[102, 108, 111, 97, 116]⟩ : ByteArray), (⟨#[105, 109, 97, 103]⟩ : ByteArray), (⟨#[99, 104, 97, 114]⟩ : ByteArray), (⟨#[115, 116, 114, 105, 110, 103]⟩ : ByteArray), (⟨#[107, 98, 114, 101, 97, 107]⟩ : ByteArray), (⟨#[107, 99, 111, 110, 116, 105, 110, 117, 101]⟩ : ByteArray), (⟨#[107, 102, 97, 108, 108, 116, 104, 114, 111, 117, 103, 104]⟩ : ByteArray), (⟨#[107, 114, 101, 116, 117, 114, 110]⟩ : ByteArray), (⟨#[105, 110, 99]⟩ : ByteArray), (⟨#[100, 101, 99]⟩ : ByteArray), (⟨#[114, 112, 97, 114, 101, 110]⟩ : ByteArray), (⟨#[114, 98, 114, 97, 99, 107]⟩ : ByteArray), (⟨#[114, 98, 114, 97, 99, 101]⟩ : ByteArray)] : List ByteArray)) 0
set_option maxHeartbeats 8000000 in
set_option maxRecDepth 100000 in
theorem quoinref26_Follows.calls {k : Nat} {a0 : Int} {r : Bool} {w : World} (h : quoinref26_Follows.f k a0 = some r) :
  Calls Try.prog 27 #[.int .i64 a0] w fun e w' => e = .returned (.bool r) ∧ Below w.heap.size w w' := by
 have HB := Aside0.mk (Below.refl w.heap.size w)
 have H : (quoinref26_Follows.l0 k a0 (([(⟨#[105, 100, 101, 110, 116]⟩ : ByteArray), (⟨#[105, 110, 116]⟩ : ByteArray), (⟨#[102, 108, 111, 97, 116]⟩ : ByteArray), (⟨#[105, 109, 97, 103]⟩ : ByteArray), (⟨#[99, 104, 97, 114]⟩ : ByteArray), (⟨#[115, 116, 114, 105, 110, 103]⟩ : ByteArray), (⟨#[107, 98, 114, 101, 97, 107]⟩ : ByteArray), (⟨#[107, 99, 111, 110, 116, 105, 110, 117, 101]⟩ : ByteArray), (⟨#[107, 102, 97, 108, 108, 116, 104, 114, 111, 117, 103, 104]⟩ : ByteArray), (⟨#[107, 114, 101, 116, 117, 114, 110]⟩ : ByteArray), (⟨#[105, 110, 99]⟩ : ByteArray), (⟨#[100, 101, 99]⟩ : ByteArray), (⟨#[114, 112, 97, 114, 101, 110]⟩ : ByteArray), (⟨#[114, 98, 114, 97, 99, 107]⟩ : ByteArray), (⟨#[114, 98, 114, 97, 99, 101]⟩ : ByteArray)] : List ByteArray)) 0) = some r := h
 clear h
 obtain ⟨y515, hy515⟩ : ∃ y_ : List ByteArray, y_ = (([(⟨#[105, 100, 101, 110, 116]⟩ : ByteArray), (⟨#[105, 110, 116]⟩ : ByteArray), (⟨#[102, 108, 111, 97, 116]⟩ : ByteArray), (⟨#[105, 109, 97, 103]⟩ : ByteArray), (⟨#[99, 104, 97, 114]⟩ : ByteArray), (⟨#[115, 116, 114, 105, 110, 103]⟩ : ByteArray), (⟨#[107, 98, 114, 101, 97, 107]⟩ : ByteArray), (⟨#[107, 99, 111, 110, 116, 105, 110, 117, 101]⟩ : ByteArray), (⟨#[107, 102, 97, 108, 108, 116, 104, 114, 111, 117, 103, 104]⟩ : ByteArray), (⟨#[107, 114, 101, 116, 117, 114, 110]⟩ : ByteArray), (⟨#[105, 110, 99]⟩ : ByteArray), (⟨#[100, 101, 99]⟩ : ByteArray), (⟨#[114, 112, 97, 114, 101, 110]⟩ : ByteArray), (⟨#[114, 98, 114, 97, 99, 107]⟩ : ByteArray), (⟨#[114, 98, 114, 97, 99, 101]⟩ : ByteArray)] : List ByteArray)) := ⟨_, rfl⟩
 replace H : (quoinref26_Follows.l0 k a0 y515 0) = some r := by first | (rw [hy515]; with_reducible exact H) | (have H2_ := (Option.bind_some _ _).symm.trans H; rw [hy515]; with_reducible exact H2_) | (have H2_ := (Option.bind_some _ _).symm.trans H; with_reducible exact H2_) | with_reducible exact H | (rw [hy515]; exact H) | exact H
 have Ny515 := Aside0.mk hy515
 clear hy515
 have H' := Aside0.mk H
 clear H
 go_enter Try.func27, Try.ntmps27
 go_wp2_with (first | ((with_reducible refine gate_dst (N := 5) rfl ?_); refine Kd.R_lit Kd.string _ 9 ?hg (N := 5) ?hd (xs := ([(⟨#[105, 100, 101, 110, 116]⟩ : ByteArray), (⟨#[105, 110, 116]⟩ : ByteArray), (⟨#[102, 108, 111, 97, 116]⟩ : ByteArray), (⟨#[105, 109, 97, 103]⟩ : ByteArray), (⟨#[99, 104, 97, 114]⟩ : ByteArray), (⟨#[115, 116, 114, 105, 110, 103]⟩ : ByteArray), (⟨#[107, 98, 114, 101, 97, 107]⟩ : ByteArray), (⟨#[107, 99, 111, 110, 116, 105, 110, 117, 101]⟩ : ByteArray), (⟨#[107, 102, 97, 108, 108, 116, 104, 114, 111, 117, 103, 104]⟩ : ByteArray), (⟨#[107, 114, 101, 116, 117, 114, 110]⟩ : ByteArray), (⟨#[105, 110, 99]⟩ : ByteArray), (⟨#[100, 101, 99]⟩ : ByteArray), (⟨#[114, 112, 97, 114, 101, 110]⟩ : ByteArray), (⟨#[114, 98, 114, 97, 99, 107]⟩ : ByteArray), (⟨#[114, 98, 114, 97, 99, 101]⟩ : ByteArray)] : List ByteArray)) (inner := [.string (⟨#[105, 100, 101, 110, 116]⟩ : ByteArray), .string (⟨#[105, 110, 116]⟩ : ByteArray), .string (⟨#[102, 108, 111, 97, 116]⟩ : ByteArray), .string (⟨#[105, 109, 97, 103]⟩ : ByteArray), .string (⟨#[99, 104, 97, 114]⟩ : ByteArray), .string (⟨#[115, 116, 114, 105, 110, 103]⟩ : ByteArray), .string (⟨#[107, 98, 114, 101, 97, 107]⟩ : ByteArray), .string (⟨#[107, 99, 111, 110, 116, 105, 110, 117, 101]⟩ : ByteArray), .string (⟨#[107, 102, 97, 108, 108, 116, 104, 114, 111, 117, 103, 104]⟩ : ByteArray), .string (⟨#[107, 114, 101, 116, 117, 114, 110]⟩ : ByteArray), .string (⟨#[105, 110, 99]⟩ : ByteArray), .string (⟨#[100, 101, 99]⟩ : ByteArray), .string (⟨#[114, 112, 97, 114, 101, 110]⟩ : ByteArray), .string (⟨#[114, 98, 114, 97, 99, 107]⟩ : ByteArray), .string (⟨#[114, 98, 114, 97, 99, 101]⟩ : ByteArray)]) (ok := fun _ => True) (okp := fun _ => True) ?hr ?hp (fun _ hk => hk) trivial (Below.refl _ _) (Nat.le_refl _) Z61 ?_; (case hd => rfl); (case hg => rfl); (case hr => first | (go_simp; done) | (go_simp; rfl)); (case hp => exact (Reps.one (show Kd.M Kd.string _ _ _ (⟨#[105, 100, 101, 110, 116]⟩ : ByteArray) [.string (⟨#[105, 100, 101, 110, 116]⟩ : ByteArray)] from rfl) (Reps.one (show Kd.M Kd.string _ _ _ (⟨#[105, 110, 116]⟩ : ByteArray) [.string (⟨#[105, 110, 116]⟩ : ByteArray)] from rfl) (Reps.one (show Kd.M Kd.string _ _ _ (⟨#[102, 108, 111, 97, 116]⟩ : ByteArray) [.string (⟨#[102, 108, 111, 97, 116]⟩ : ByteArray)] from rfl) (Reps.one (show Kd.M Kd.string _ _ _ (⟨#[105, 109, 97, 103]⟩ : ByteArray) [.string (⟨#[105, 109, 97, 103]⟩ : ByteArray)] from rfl) (Reps.one (show Kd.M Kd.string _ _ _ (⟨#[99, 104, 97, 114]⟩ : ByteArray) [.string (⟨#[99, 104, 97, 114]⟩ : ByteArray)] from rfl) (Reps.one (show Kd.M Kd.string _ _ _ (⟨#[115, 116, 114, 105, 110, 103]⟩ : ByteArray) [.string (⟨#[115, 116, 114, 105, 110, 103]⟩ : ByteArray)] from rfl) (Reps.one (show Kd.M Kd.string _ _ _ (⟨#[107, 98, 114, 101, 97, 107]⟩ : ByteArray) [.string (⟨#[107, 98, 114, 101, 97, 107]⟩ : ByteArray)] from rfl) (Reps.one (show Kd.M Kd.string _ _ _ (⟨#[107, 99, 111, 110, 116, 105, 110, 117, 101]⟩ : ByteArray) [.string (⟨#[107, 99, 111, 110, 116, 105, 110, 117, 101]⟩ : ByteArray)] from rfl) (Reps.one (show Kd.M Kd.string _ _ _ (⟨#[107, 102, 97, 108, 108, 116, 104, 114, 111, 117, 103, 104]⟩ : ByteArray) [.string (⟨#[107, 102, 97, 108, 108, 116, 104, 114, 111, 117, 103, 104]⟩ : ByteArray)] from rfl) (Reps.one (show Kd.M Kd.string _ _ _ (⟨#[107, 114, 101, 116, 117, 114, 110]⟩ : ByteArray) [.string (⟨#[107, 114, 101, 116, 117, 114, 110]⟩ : ByteArray)] from rfl) (Reps.one (show Kd.M Kd.string _ _ _ (⟨#[105, 110, 99]⟩ : ByteArray) [.string (⟨#[105, 110, 99]⟩ : ByteArray)] from rfl) (Reps.one (show Kd.M Kd.string _ _ _ (⟨#[100, 101, 99]⟩ : ByteArray) [.string (⟨#[100, 101, 99]⟩ : ByteArray)] from rfl) (Reps.one (show Kd.M Kd.string _ _ _ (⟨#[114, 112, 97, 114, 101, 110]⟩ : ByteArray) [.string (⟨#[114, 112, 97, 114, 101, 110]⟩ : ByteArray)] from rfl) (Reps.one (show Kd.M Kd.string _ _ _ (⟨#[114, 98, 114, 97, 99, 107]⟩ : ByteArray) [.string (⟨#[114, 98, 114, 97, 99, 107]⟩ : ByteArray)] from rfl) (Reps.one (show Kd.M Kd.string _ _ _ (⟨#[114, 98, 114, 97, 99, 101]⟩ : ByteArray) [.string (⟨#[114, 98, 114, 97, 99, 101]⟩ : ByteArray)] from rfl) (Reps.none _ _))))))))))))))))); intro v516 w2 ho3 hb hg_ hnew_; clear hg_ hnew_; (first | rw [← Ny515.out] at ho3 | (simp only [Int.reduceToNat] at ho3; rw [← Ny515.out] at ho3)); have HO517 := Aside0.mk (Kd.R_lower ho3 (below_size zB)); replace HB := Aside0.mk (below_step zB hb); clear hb ho3))
 go_loopg [4] k (fun kq v4 w' => ∃ (x4_1 : Int), v4 = .int .i64 x4_1 ∧ Aside0 (quoinref26_Follows.l0 kq a0 y515 x4_1 = some r) ∧ Aside0 (kq ≤ k) ∧ Aside0 (Kd.R Kd.string 9 w' w.heap.size (fun _ => True) v516 y515) ∧ Aside0 (Below w.heap.size w w'))
 case atStart => exact ⟨(0), Z1, H', ⟨Nat.le_refl _⟩, ⟨by (with_reducible repeat (first | apply Kd.R_alloc | apply Kd.R_drewN | apply Kd.R_drew)); exact HO517.out⟩, ⟨Z0⟩⟩
 case round =>
  clear H'
  try clear c2
  try clear p2
  obtain ⟨x4_1, rfl, HA, HK1, HO_3, HB⟩ := hrel
  cases gk with
  | zero => exact absurd HA.out (by simp [quoinref26_Follows.l0])
  | succ k1 =>
   have H := HA.out
   clear HA
   simp only [quoinref26_Follows.l0] at H
   by_cases c4 : x4_1 < (y515.length : Int)
   ·rw [if_pos c4] at H
    have c4b0 := decide_eq_true c4
    clear c4
    by_cases c5 : 0 ≤ x4_1
    ·rw [if_pos c5] at H
     have c5b0 := decide_eq_true c5
     clear c5
     replace H := bS H
     obtain ⟨t519, A6, H⟩ := H
     try dsimp only at H
     by_cases c7 : t519 = a0
     ·rw [if_pos c7] at H
      have c7b0 := e1 c7
      have c7b1 := e2 c7
      clear c7
      obtain rfl := Option.some.inj H
      obtain ⟨Ao8, co8, eo8⟩ := Kd.R_slice HO_3.out
      subst eo8
      have p518 : 0 ≤ (x4_1 : Int) := of_decide_eq_true Z3
      have q518 : x4_1 < (y515.length : Int) := of_decide_eq_true Z3
      obtain ⟨ad518, e518, hx518_0⟩ := Kd.at_string (Kd.R_reads' HO_3.out).2.2 x4_1 p518 q518
      cases e518
      replace p518 := eq_true p518
      replace q518 := eq_true q518
      go_wp2_with (first | (refine gR (some 16) Try.func39 (quoinref26_number.calls A6.out) (h := ?_); rintro w9 hb; replace HO_3 := Aside0.mk (Kd.R_below (kK HO_3) hb); replace HB := Aside0.mk (below_step zB hb); (try clear hb); (try clear hb2); (try clear hk); (try clear hi)))
      go_ret
      exact ⟨Z2, Z0⟩
     ·rw [if_neg c7] at H
      have c7b0 := e3 c7
      have c7b1 := e4 c7
      have H' := Aside0.mk H
      clear H
      obtain ⟨Ao10, co10, eo10⟩ := Kd.R_slice HO_3.out
      subst eo10
      have p518 : 0 ≤ (x4_1 : Int) := of_decide_eq_true Z3
      have q518 : x4_1 < (y515.length : Int) := of_decide_eq_true Z3
      obtain ⟨ad518, e518, hx518_0⟩ := Kd.at_string (Kd.R_reads' HO_3.out).2.2 x4_1 p518 q518
      cases e518
      replace p518 := eq_true p518
      replace q518 := eq_true q518
      go_wp2_with (first | (refine gR (some 16) Try.func39 (quoinref26_number.calls A6.out) (h := ?_); rintro w11 hb; replace HO_3 := Aside0.mk (Kd.R_below (kK HO_3) hb); replace HB := Aside0.mk (below_step zB hb); (try clear hb); (try clear hb2); (try clear hk); (try clear hi)))
      go_roundg k1
      case measure => have := HK1.out; omega
      case rel => exact ⟨(wrap64 (x4_1 + 1)), Z1, H', ⟨Z36⟩, ⟨Z53⟩, ⟨Z0⟩⟩
    ·rw [if_neg c5] at H
     exact absurd H Z61
   ·rw [if_neg c4] at H
    have c4b0 := decide_eq_false c4
    clear c4
    obtain rfl := Option.some.inj H
    obtain ⟨Ao12, co12, eo12⟩ := Kd.R_slice HO_3.out
    subst eo12
    go_wp2
    go_ret
    exact ⟨Z2, Z0⟩
end Go.Proofs.Ytcajiapjdlphmaa.H
