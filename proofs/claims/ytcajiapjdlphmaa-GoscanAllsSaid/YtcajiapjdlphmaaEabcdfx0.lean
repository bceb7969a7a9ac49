import Derived.Test.YtcajiapjdlphmaaEPre
import Derived.Test.YtcajiapjdlphmaaEabcdefx0
import Derived.Test.YtcajiapjdlphmaaEabcdefx4
namespace Go.Proofs.Ytcajiapjdlphmaa.H
open Go.RowKit Go.Proofs.YtcajiapjdlphmaaW.PrintWords Go.Proofs.YtcajiapjdlphmaaW.PrintLast Go.Proofs.YtcajiapjdlphmaaW.PrintMore
attribute [local go_sem] max2_int min2_int max_two min_two max_three min_three max_four min_four
set_option linter.unusedVariables false
set_option linter.unusedSimpArgs false
section
attribute [local go_sem high] eqA25
mutual
def quoinref26_Kinds.l0 : Nat → List ByteArray → List ByteArray → Int → Option (List ByteArray)
 | 0, _, _, _ => none
 | k + 1, x1, x2, x3 => if x3 < (x2.length : Int) then (if 0 ≤ x3 then (if x1.length < 8796093022208 then (quoinref26_Kinds.l0 k (x1 ++ [rdOf ByteArray.empty x2 x3]) x2 (wrap64 (x3 + 2))) else (none)) else (none)) else ((quoinref26_keywords.f).bind fun t496 => (quoinref26_Kinds.l1 k x1 t496 0))
def quoinref26_Kinds.l1 : Nat → List ByteArray → List ByteArray → Int → Option (List ByteArray)
 | 0, _, _, _ => none
 | k + 1, x1, x4, x5 => if x5 < (x4.length : Int) then (if 0 ≤ x5 then (if 1 + (rdOf ByteArray.empty x4 x5).size ≤ 9223372036854775807 then (if x1.length < 8796093022208 then (quoinref26_Kinds.l1 k (x1 ++ [(⟨#[107]⟩ : ByteArray) ++ (rdOf ByteArray.empty x4 x5)]) x4 (wrap64 (x5 + 1))) else (none)) else (none)) else (none)) else ((some (([(⟨#[110, 101, 119, 108, 105, 110, 101]⟩ : ByteArray), (⟨#[114, 101, 109, 97, 114, 107]⟩ : ByteArray), (⟨#[99, 111, 109, 109, 101, 110, 116]⟩ : ByteArray)] : List ByteArray) : List ByteArray)).bind fun y503 => (if x1.length + y503.length < 8796093022208 then (some (x1 ++ y503)) else (none)))
end
def quoinref26_Kinds.f (k : Nat)  : Option (List ByteArray) := (quoinref26_operators.f).bind fun t489 => (quoinref26_Kinds.l0 k (([(⟨#[101, 110, 100]⟩ : ByteArray), (⟨#[101, 114, 114, 111, 114]⟩ : ByteArray), (⟨#[105, 100, 101, 110, 116]⟩ : ByteArray), (⟨#[105, 110, 116]⟩ : ByteArray), (⟨#[102, 108, 111, 97, 116]⟩ : ByteArray), (⟨#[105, 109, 97, 103]⟩ : ByteArray), (⟨#[99, 104, 97, 114]⟩ : ByteArray), (⟨#[115, 116, 114, 105, 110, 103]⟩ : ByteArray)] : List ByteArray)) t489 0)
theorem quoinref26_Kinds.mono_l : ∀ k, (∀ y0 y1 y2, LeO (quoinref26_Kinds.l0 k y0 y1 y2) (quoinref26_Kinds.l0 (k + 1) y0 y1 y2)) ∧ (∀ y0 y1 y2, LeO (quoinref26_Kinds.l1 k y0 y1 y2) (quoinref26_Kinds.l1 (k + 1) y0 y1 y2))
 | 0 => ⟨fun _ _ _ r h => by simp [quoinref26_Kinds.l0] at h, fun _ _ _ r h => by simp [quoinref26_Kinds.l1] at h⟩
 | k + 1 => by
  obtain ⟨ih0, ih1⟩ := quoinref26_Kinds.mono_l k
  refine ⟨?_, ?_⟩
  ·intro y0 y1 y2
   unfold quoinref26_Kinds.l0
   exact mO
  ·intro y0 y1 y2
   unfold quoinref26_Kinds.l1
   exact mO
theorem quoinref26_Kinds.mono : ∀ k, LeO (quoinref26_Kinds.f k ) (quoinref26_Kinds.f (k + 1) ) := by
 intro  k
 obtain ⟨ih0, ih1⟩ := quoinref26_Kinds.mono_l k
 unfold quoinref26_Kinds.f
 exact mO
set_option maxHeartbeats 8000000 in
set_option maxRecDepth 100000 in
theorem quoinref26_Kinds.calls {k : Nat} {r : List ByteArray} {w : World} (h : quoinref26_Kinds.f k  = some r) :
  Calls Try.prog 18 #[] w fun e w' => ∃ v0_ : Value, e = .returned (v0_) ∧ Kd.R Kd.string 9 w' w.heap.size (fun _ => True) v0_ r ∧ Below w.heap.size w w' := by
 have HB := Aside0.mk (Below.refl w.heap.size w)
 have H : ((quoinref26_operators.f).bind fun t489 => (quoinref26_Kinds.l0 k (([(⟨#[101, 110, 100]⟩ : ByteArray), (⟨#[101, 114, 114, 111, 114]⟩ : ByteArray), (⟨#[105, 100, 101, 110, 116]⟩ : ByteArray), (⟨#[105, 110, 116]⟩ : ByteArray), (⟨#[102, 108, 111, 97, 116]⟩ : ByteArray), (⟨#[105, 109, 97, 103]⟩ : ByteArray), (⟨#[99, 104, 97, 114]⟩ : ByteArray), (⟨#[115, 116, 114, 105, 110, 103]⟩ : ByteArray)] : List ByteArray)) t489 0)) = some r := h
 clear h
 obtain ⟨y486, hy486⟩ : ∃ y_ : List ByteArray, y_ = (([(⟨#[101, 110, 100]⟩ : ByteArray), (⟨#[101, 114, 114, 111, 114]⟩ : ByteArray), (⟨#[105, 100, 101, 110, 116]⟩ : ByteArray), (⟨#[105, 110, 116]⟩ : ByteArray), (⟨#[102, 108, 111, 97, 116]⟩ : ByteArray), (⟨#[105, 109, 97, 103]⟩ : ByteArray), (⟨#[99, 104, 97, 114]⟩ : ByteArray), (⟨#[115, 116, 114, 105, 110, 103]⟩ : ByteArray)] : List ByteArray)) := ⟨_, rfl⟩
 replace H : ((quoinref26_operators.f).bind fun t489 => (quoinref26_Kinds.l0 k y486 t489 0)) = some r := by first | (rw [hy486]; with_reducible exact H) | (have H2_ := (Option.bind_some _ _).symm.trans H; rw [hy486]; with_reducible exact H2_) | (have H2_ := (Option.bind_some _ _).symm.trans H; with_reducible exact H2_) | with_reducible exact H | (rw [hy486]; exact H) | exact H
 have Ny486 := Aside0.mk hy486
 clear hy486
 replace H := bS H
 obtain ⟨t489, A1, H⟩ := H
 try dsimp only at H
 have H' := Aside0.mk H
 clear H
 go_enter Try.func18, Try.ntmps18
 go_wp2_with (first | ((with_reducible refine gate_dst (N := 6) rfl ?_); refine Kd.R_lit Kd.string _ 9 ?hg (N := 6) ?hd (xs := ([(⟨#[101, 110, 100]⟩ : ByteArray), (⟨#[101, 114, 114, 111, 114]⟩ : ByteArray), (⟨#[105, 100, 101, 110, 116]⟩ : ByteArray), (⟨#[105, 110, 116]⟩ : ByteArray), (⟨#[102, 108, 111, 97, 116]⟩ : ByteArray), (⟨#[105, 109, 97, 103]⟩ : ByteArray), (⟨#[99, 104, 97, 114]⟩ : ByteArray), (⟨#[115, 116, 114, 105, 110, 103]⟩ : ByteArray)] : List ByteArray)) (inner := [.string (⟨#[101, 110, 100]⟩ : ByteArray), .string (⟨#[101, 114, 114, 111, 114]⟩ : ByteArray), .string (⟨#[105, 100, 101, 110, 116]⟩ : ByteArray), .string (⟨#[105, 110, 116]⟩ : ByteArray), .string (⟨#[102, 108, 111, 97, 116]⟩ : ByteArray), .string (⟨#[105, 109, 97, 103]⟩ : ByteArray), .string (⟨#[99, 104, 97, 114]⟩ : ByteArray), .string (⟨#[115, 116, 114, 105, 110, 103]⟩ : ByteArray)]) (ok := fun _ => True) (okp := fun _ => True) ?hr ?hp (fun _ hk => hk) trivial (Below.refl _ _) (Nat.le_refl _) Z61 ?_; (case hd => rfl); (case hg => rfl); (case hr => first | (go_simp; done) | (go_simp; rfl)); (case hp => exact (Reps.one (show Kd.M Kd.string _ _ _ (⟨#[101, 110, 100]⟩ : ByteArray) [.string (⟨#[101, 110, 100]⟩ : ByteArray)] from rfl) (Reps.one (show Kd.M Kd.string _ _ _ (⟨#[101, 114, 114, 111, 114]⟩ : ByteArray) [.string (⟨#[101, 114, 114, 111, 114]⟩ : ByteArray)] from rfl) (Reps.one (show Kd.M Kd.string _ _ _ (⟨#[105, 100, 101, 110, 116]⟩ : ByteArray) [.string (⟨#[105, 100, 101, 110, 116]⟩ : ByteArray)] from rfl) (Reps.one (show Kd.M Kd.string _ _ _ (⟨#[105, 110, 116]⟩ : ByteArray) [.string (⟨#[105, 110, 116]⟩ : ByteArray)] from rfl) (Reps.one (show Kd.M Kd.string _ _ _ (⟨#[102, 108, 111, 97, 116]⟩ : ByteArray) [.string (⟨#[102, 108, 111, 97, 116]⟩ : ByteArray)] from rfl) (Reps.one (show Kd.M Kd.string _ _ _ (⟨#[105, 109, 97, 103]⟩ : ByteArray) [.string (⟨#[105, 109, 97, 103]⟩ : ByteArray)] from rfl) (Reps.one (show Kd.M Kd.string _ _ _ (⟨#[99, 104, 97, 114]⟩ : ByteArray) [.string (⟨#[99, 104, 97, 114]⟩ : ByteArray)] from rfl) (Reps.one (show Kd.M Kd.string _ _ _ (⟨#[115, 116, 114, 105, 110, 103]⟩ : ByteArray) [.string (⟨#[115, 116, 114, 105, 110, 103]⟩ : ByteArray)] from rfl) (Reps.none _ _)))))))))); intro v487 w2 ho3 hb hg_ hnew_; clear hg_ hnew_; (first | rw [← Ny486.out] at ho3 | (simp only [Int.reduceToNat] at ho3; rw [← Ny486.out] at ho3)); have HO488 := Aside0.mk (Kd.R_lower ho3 (below_size zB)); replace HB := Aside0.mk (below_step zB hb); clear hb ho3) | (refine gQ (some 7) Try.func40 (quoinref26_operators.calls A1.out) (h := ?_); rintro v490 w4 ⟨ho0, hb⟩; have HO491 := Aside0.mk (Kd.R_lower (Kd.R_new' ho0 (Kd.R_lt (kK HO488))) (below_size zB)); replace HO488 := Aside0.mk (Kd.R_elder' (kK HO488) (Kd.R_base ho0) hb); replace HB := Aside0.mk (below_step zB hb); (try clear hb); (try clear hb2); (try clear hk); (try clear hi); (try clear ho0)))
 go_loopg [1, 3] k (fun kq v1 v3 w' => ∃ (x1_1 : List ByteArray) (x3_1 : Int), v3 = .int .i64 x3_1 ∧ Aside0 (quoinref26_Kinds.l0 kq x1_1 t489 x3_1 = some r) ∧ Aside0 (kq ≤ k) ∧ Aside0 (Kd.R Kd.string 9 w' w.heap.size (fun k_ => some k_ ≠ (v490 : Value).ownBlock) v1 x1_1) ∧ Aside0 (Kd.R Kd.string 9 w' w.heap.size (fun k_ => some k_ ≠ (v1 : Value).ownBlock) v490 t489) ∧ Aside0 (Below w.heap.size w w'))
 case atStart => exact ⟨(y486), (0), Z1, H', ⟨Nat.le_refl _⟩, ⟨by (with_reducible repeat (first | apply Kd.R_alloc | apply Kd.R_drewN | apply Kd.R_drew)); exact Kd.R_mono HO488.out (fun _ hk => hk.2)⟩, ⟨by (with_reducible repeat (first | apply Kd.R_alloc | apply Kd.R_drewN | apply Kd.R_drew)); exact Kd.R_mono HO491.out (fun _ hk => hk.2)⟩, ⟨Z0⟩⟩
 case round =>
  clear H'
  try clear c1
  try clear p2
  try clear c4
  obtain ⟨x1_1, x3_1, rfl, HA, HK1, HO_1, HO_2, HB⟩ := hrel
  cases gk with
  | zero => exact absurd HA.out (by simp [quoinref26_Kinds.l0])
  | succ k1 =>
   have H := HA.out
   clear HA
   simp only [quoinref26_Kinds.l0] at H
   by_cases c5 : x3_1 < (t489.length : Int)
   ·rw [if_pos c5] at H
    have c5b0 := decide_eq_true c5
    clear c5
    by_cases c6 : 0 ≤ x3_1
    ·rw [if_pos c6] at H
     have c6b0 := decide_eq_true c6
     clear c6
     by_cases c7 : x1_1.length < 8796093022208
     ·rw [if_pos c7] at H
      have LMc7 := Aside0.mk c7
      clear c7
      obtain ⟨y493, hy493⟩ : ∃ y_ : List ByteArray, y_ = (x1_1 ++ [rdOf ByteArray.empty t489 x3_1]) := ⟨_, rfl⟩
      replace H : (quoinref26_Kinds.l0 k1 y493 t489 (wrap64 (x3_1 + 2))) = some r := by first | (rw [hy493]; with_reducible exact H) | (have H2_ := (Option.bind_some _ _).symm.trans H; rw [hy493]; with_reducible exact H2_) | (have H2_ := (Option.bind_some _ _).symm.trans H; with_reducible exact H2_) | with_reducible exact H | (rw [hy493]; exact H) | exact H
      have Ny493 := Aside0.mk hy493
      clear hy493
      have H' := Aside0.mk H
      clear H
      obtain ⟨Ao8, co8, eo8⟩ := Kd.R_slice HO_2.out
      subst eo8
      have p492 : 0 ≤ (x3_1 : Int) := of_decide_eq_true Z3
      have q492 : x3_1 < (t489.length : Int) := of_decide_eq_true Z3
      obtain ⟨ad492, e492, hx492_0⟩ := Kd.at_string (Kd.R_reads' HO_2.out).2.2 x3_1 p492 q492
      cases e492
      replace p492 := eq_true p492
      replace q492 := eq_true q492
      go_wp2_with (first | ((with_reducible refine gate_builtin (b := .append) (xs := #[.tmp 14, .tmp 19]) rfl ?_); at_builtin; refine Kd.R_append Kd.string (w0 := w) w.heap.size rfl (.tmp 14) (.tmp 19) 38 9 (.string ⟨#[]⟩) 16 rfl Try.underlying38 info9 rfl Z43 Z57 u1 x1_1 (rdOf ByteArray.empty t489 x3_1) [.string (rdOf ByteArray.empty t489 x3_1)] (fun k_ => some k_ ≠ (.slice (some ad492) t489.length co8 : Value).ownBlock) (fun _ => False) rfl rfl ?aP (fun _ hk => hk.elim) ?aF ?aO ?aB ?aS ?aL ?_; (case aP => exact rfl); (case aB => exact zB); (case aF => exact (fun k_ hk => Kd.fresh' (Kd.R_lt (kK HO_2)) k_ hk)); (case aO => exact (kK HO_1)); (case aS => exact (below_size zB)); (case aL => have := LMc7.out; omega); intro v494 w9 ho hb hg hat; rw [← Ny493.out] at ho; have n0_ := Aside0.mk (Kd.R_after (ok := (fun _ => True)) (by (with_reducible repeat (first | apply Kd.R_alloc | apply Kd.R_drewN | apply Kd.R_drew)); exact Kd.R_mono HO_2.out (fun _ hk => ⟨trivial, hk⟩)) hg hat); have n1_ := Aside0.mk (hb); have n2_ := Aside0.mk (ho); clear HO_2; clear HB; clear HO_1; have HO_2 := n0_; have HB := n1_; have HO495 := n2_; clear n0_ n1_ n2_; clear ho hb hg hat))
      go_roundg k1
      case measure => have := HK1.out; omega
      case rel => exact ⟨(y493), (wrap64 (x3_1 + 2)), Z1, H', ⟨Z36⟩, ⟨by (with_reducible repeat (first | apply Kd.R_alloc | apply Kd.R_drewN | apply Kd.R_drew)); exact HO495.out⟩, ⟨by (with_reducible repeat (first | apply Kd.R_alloc | apply Kd.R_drewN | apply Kd.R_drew)); exact Kd.R_mono HO_2.out (fun _ hk => hk.2)⟩, ⟨Z0⟩⟩
     ·rw [if_neg c7] at H
      exact absurd H Z61
    ·rw [if_neg c6] at H
     exact absurd H Z61
   ·rw [if_neg c5] at H
    have c5b0 := decide_eq_false c5
    clear c5
    replace H := bS H
    obtain ⟨t496, A10, H⟩ := H
    try dsimp only at H
    have H' := Aside0.mk H
    clear H
    obtain ⟨Ao11, co11, eo11⟩ := Kd.R_slice HO_2.out
    subst eo11
    go_wp2_with (first | (refine gQ (some 21) Try.func41 (quoinref26_keywords.calls A10.out) (h := ?_); rintro v497 w12 ⟨ho0, hb⟩; have HO498 := Aside0.mk (Kd.R_lower (Kd.R_new' (Kd.R_new' ho0 (Kd.R_lt (kK HO_1))) (Kd.R_lt (kK HO_2))) (below_size zB)); replace HO_1 := Aside0.mk (Kd.R_elder' (kK HO_1) (Kd.R_base ho0) hb); replace HO_2 := Aside0.mk (Kd.R_elder' (kK HO_2) (Kd.R_base ho0) hb); replace HB := Aside0.mk (below_step zB hb); (try clear hb); (try clear hb2); (try clear hk); (try clear hi); (try clear ho0)))
    go_loopg [1, 5] k1 (fun kq v1 v5 w' => ∃ (x1_2 : List ByteArray) (x5_2 : Int), v5 = .int .i64 x5_2 ∧ Aside0 (quoinref26_Kinds.l1 kq x1_2 t496 x5_2 = some r) ∧ Aside0 (kq ≤ k1) ∧ Aside0 (Kd.R Kd.string 9 w' w.heap.size (fun k_ => some k_ ≠ (v497 : Value).ownBlock) v1 x1_2) ∧ Aside0 (Kd.R Kd.string 9 w' w.heap.size (fun k_ => some k_ ≠ (v1 : Value).ownBlock) v497 t496) ∧ Aside0 (Below w.heap.size w w'))
    case atStart => exact ⟨(x1_1), (0), Z1, H', ⟨Nat.le_refl _⟩, ⟨Z71⟩, ⟨by (with_reducible repeat (first | apply Kd.R_alloc | apply Kd.R_drewN | apply Kd.R_drew)); exact Kd.R_mono HO498.out (fun _ hk => hk.1.2)⟩, ⟨Z0⟩⟩
    case round =>
     clear H'
     try clear c1
     try clear p2
     try clear c4
     try clear p4
     try clear q4
     try clear hx4
     try clear c5
     try clear c5b0
     try clear c6
     try clear c6b0
     try clear p6
     try clear c7
     try clear hx492_0
     try clear p2
     try clear p492
     try clear q492
     obtain ⟨x1_2, x5_2, rfl, HA, HK2, HO_1, HO_4, HB⟩ := hrel
     cases gk with
     | zero => exact absurd HA.out (by simp [quoinref26_Kinds.l1])
     | succ k2 =>
      have H := HA.out
      clear HA
      simp only [quoinref26_Kinds.l1] at H
      by_cases c13 : x5_2 < (t496.length : Int)
      ·rw [if_pos c13] at H
       have c13b0 := decide_eq_true c13
       clear c13
       by_cases c14 : 0 ≤ x5_2
       ·rw [if_pos c14] at H
        have c14b0 := decide_eq_true c14
        clear c14
        by_cases c15 : 1 + (rdOf ByteArray.empty t496 x5_2).size ≤ 9223372036854775807
        ·rw [if_pos c15] at H
         have c15b0 := eq_true c15
         have c15b1 := decide_eq_true c15
         try have c15b2 : (9223372036854775807 < 1 + (rdOf ByteArray.empty t496 x5_2).size) = False := eq_false (Nat.not_lt.2 c15)
         by_cases c16 : x1_2.length < 8796093022208
         ·rw [if_pos c16] at H
          have LMc16 := Aside0.mk c16
          clear c16
          obtain ⟨y500, hy500⟩ : ∃ y_ : List ByteArray, y_ = (x1_2 ++ [(⟨#[107]⟩ : ByteArray) ++ (rdOf ByteArray.empty t496 x5_2)]) := ⟨_, rfl⟩
          replace H : (quoinref26_Kinds.l1 k2 y500 t496 (wrap64 (x5_2 + 1))) = some r := by first | (rw [hy500]; with_reducible exact H) | (have H2_ := (Option.bind_some _ _).symm.trans H; rw [hy500]; with_reducible exact H2_) | (have H2_ := (Option.bind_some _ _).symm.trans H; with_reducible exact H2_) | with_reducible exact H | (rw [hy500]; exact H) | exact H
          have Ny500 := Aside0.mk hy500
          clear hy500
          have H' := Aside0.mk H
          clear H
          obtain ⟨Ao17, co17, eo17⟩ := Kd.R_slice HO_4.out
          subst eo17
          have p499 : 0 ≤ (x5_2 : Int) := of_decide_eq_true Z3
          have q499 : x5_2 < (t496.length : Int) := of_decide_eq_true Z3
          obtain ⟨ad499, e499, hx499_0⟩ := Kd.at_string (Kd.R_reads' HO_4.out).2.2 x5_2 p499 q499
          cases e499
          replace p499 := eq_true p499
          replace q499 := eq_true q499
          go_wp2_with (first | ((with_reducible refine gate_builtin (b := .append) (xs := #[.tmp 28, .tmp 34]) rfl ?_); at_builtin; refine Kd.R_append Kd.string (w0 := w) w.heap.size rfl (.tmp 28) (.tmp 34) 38 9 (.string ⟨#[]⟩) 16 rfl Try.underlying38 info9 rfl Z43 Z57 u1 x1_2 ((⟨#[107]⟩ : ByteArray) ++ (rdOf ByteArray.empty t496 x5_2)) [.string ((⟨#[107]⟩ : ByteArray) ++ (rdOf ByteArray.empty t496 x5_2))] (fun k_ => some k_ ≠ (.slice (some ad499) t496.length co17 : Value).ownBlock) (fun _ => False) rfl rfl ?aP (fun _ hk => hk.elim) ?aF ?aO ?aB ?aS ?aL ?_; (case aP => exact rfl); (case aB => exact zB); (case aF => exact (fun k_ hk => Kd.fresh' (Kd.R_lt (kK HO_4)) k_ hk)); (case aO => exact (kK HO_1)); (case aS => exact (below_size zB)); (case aL => have := LMc16.out; omega); intro v501 w18 ho hb hg hat; rw [← Ny500.out] at ho; have n0_ := Aside0.mk (Kd.R_after (ok := (fun _ => True)) Z68 hg hat); have n1_ := Aside0.mk (hb); have n2_ := Aside0.mk (ho); clear HO_4; clear HB; clear HO_1; have HO_4 := n0_; have HB := n1_; have HO502 := n2_; clear n0_ n1_ n2_; clear ho hb hg hat))
          go_roundg k2
          case measure => have := HK1.out; have := HK2.out; omega
          case rel => exact ⟨(y500), (wrap64 (x5_2 + 1)), Z1, H', ⟨by have := HK1.out; have := HK2.out; omega⟩, ⟨by (with_reducible repeat (first | apply Kd.R_alloc | apply Kd.R_drewN | apply Kd.R_drew)); exact HO502.out⟩, ⟨Z70⟩, ⟨Z0⟩⟩
         ·rw [if_neg c16] at H
          exact absurd H Z61
        ·rw [if_neg c15] at H
         exact absurd H Z61
       ·rw [if_neg c14] at H
        exact absurd H Z61
      ·rw [if_neg c13] at H
       have c13b0 := decide_eq_false c13
       clear c13
       obtain ⟨y503, hy503⟩ : ∃ y_ : List ByteArray, y_ = (([(⟨#[110, 101, 119, 108, 105, 110, 101]⟩ : ByteArray), (⟨#[114, 101, 109, 97, 114, 107]⟩ : ByteArray), (⟨#[99, 111, 109, 109, 101, 110, 116]⟩ : ByteArray)] : List ByteArray)) := ⟨_, rfl⟩
       replace H : (if x1_2.length + y503.length < 8796093022208 then (some (x1_2 ++ y503)) else (none)) = some r := by first | (rw [hy503]; with_reducible exact H) | (have H2_ := (Option.bind_some _ _).symm.trans H; rw [hy503]; with_reducible exact H2_) | (have H2_ := (Option.bind_some _ _).symm.trans H; with_reducible exact H2_) | with_reducible exact H | (rw [hy503]; exact H) | exact H
       have Ny503 := Aside0.mk hy503
       clear hy503
       by_cases c19 : x1_2.length + y503.length < 8796093022208
       ·rw [if_pos c19] at H
        have LMc19 := Aside0.mk c19
        clear c19
        obtain ⟨y506, hy506⟩ : ∃ y_ : List ByteArray, y_ = (x1_2 ++ y503) := ⟨_, rfl⟩
        replace H : (some y506) = some r := by first | (rw [hy506]; with_reducible exact H) | (have H2_ := (Option.bind_some _ _).symm.trans H; rw [hy506]; with_reducible exact H2_) | (have H2_ := (Option.bind_some _ _).symm.trans H; with_reducible exact H2_) | with_reducible exact H | (rw [hy506]; exact H) | exact H
        have Ny506 := Aside0.mk hy506
        clear hy506
        obtain rfl := Option.some.inj H
        obtain ⟨Ao20, co20, eo20⟩ := Kd.R_slice HO_4.out
        subst eo20
        go_wp2_with (first | ((with_reducible refine gate_dst (N := 37) rfl ?_); refine Kd.R_lit Kd.string _ 9 ?hg (N := 37) ?hd (xs := ([(⟨#[110, 101, 119, 108, 105, 110, 101]⟩ : ByteArray), (⟨#[114, 101, 109, 97, 114, 107]⟩ : ByteArray), (⟨#[99, 111, 109, 109, 101, 110, 116]⟩ : ByteArray)] : List ByteArray)) (inner := [.string (⟨#[110, 101, 119, 108, 105, 110, 101]⟩ : ByteArray), .string (⟨#[114, 101, 109, 97, 114, 107]⟩ : ByteArray), .string (⟨#[99, 111, 109, 109, 101, 110, 116]⟩ : ByteArray)]) (ok := fun _ => True) (okp := fun _ => True) ?hr ?hp (fun _ hk => hk) trivial (Below.refl _ _) (Nat.le_refl _) Z61 ?_; (case hd => rfl); (case hg => rfl); (case hr => first | (go_simp; done) | (go_simp; rfl)); (case hp => exact (Reps.one (show Kd.M Kd.string _ _ _ (⟨#[110, 101, 119, 108, 105, 110, 101]⟩ : ByteArray) [.string (⟨#[110, 101, 119, 108, 105, 110, 101]⟩ : ByteArray)] from rfl) (Reps.one (show Kd.M Kd.string _ _ _ (⟨#[114, 101, 109, 97, 114, 107]⟩ : ByteArray) [.string (⟨#[114, 101, 109, 97, 114, 107]⟩ : ByteArray)] from rfl) (Reps.one (show Kd.M Kd.string _ _ _ (⟨#[99, 111, 109, 109, 101, 110, 116]⟩ : ByteArray) [.string (⟨#[99, 111, 109, 109, 101, 110, 116]⟩ : ByteArray)] from rfl) (Reps.none _ _))))); intro v504 w21 ho22 hb hg_ hnew_; clear hg_ hnew_; (first | rw [← Ny503.out] at ho22 | (simp only [Int.reduceToNat] at ho22; rw [← Ny503.out] at ho22)); have HO505 := Aside0.mk (Kd.R_lower (Kd.R_new' (Kd.R_new' ho22 (Kd.R_lt (kK HO_1))) (Kd.R_lt (kK HO_4))) (below_size zB)); replace HO_1 := Aside0.mk (Kd.R_elder' (kK HO_1) (Kd.R_base ho22) hb); replace HO_4 := Aside0.mk (Kd.R_elder' (kK HO_4) (Kd.R_base ho22) hb); replace HB := Aside0.mk (below_step zB hb); clear hb ho22; obtain ⟨Ao24, co24, eo24⟩ := Kd.R_slice HO505.out; subst eo24) | ((with_reducible refine gate_builtin (b := .append) (xs := #[.tmp 36, .tmp 37]) rfl ?_); at_builtin; refine Kd.R_append_rows Kd.string (w0 := w) w.heap.size rfl (.tmp 36) (.tmp 37) 38 9 (.string ⟨#[]⟩) 16 rfl Try.underlying38 info9 rfl Z43 Z57 u1 x1_2 y503 _ _ _ (fun k_ => some k_ ≠ (.slice Ao20 t496.length co20 : Value).ownBlock ∧ some k_ ≠ (.slice Ao24 y503.length co24 : Value).ownBlock) (fun _ => False) rfl rfl ?aO ?aR (fun _ _ h => h) (fun _ h => h.elim) ?aF ?aB ?aS ?aL ?_; (case aR => repeat (first | exact (Kd.R_reads' HO505.out).2.2 | (with_reducible refine Kd.C_alloc ?_ _) | (with_reducible refine Kd.C_drewN ?_ _) | (with_reducible refine Kd.C_drew ?_))); (case aB => exact zB); (case aF => exact (fun k_ hk => ⟨Kd.fresh' (Kd.R_lt (kK HO_4)) k_ hk, Kd.fresh' (Kd.R_lt (kK HO505)) k_ hk⟩)); (case aO => exact (kK HO_1)); (case aS => exact (below_size zB)); (case aL => have := LMc19.out; omega); intro v507 w23 ho hb hg hat; rw [← Ny506.out] at ho; have n0_ := Aside0.mk (Kd.R_after (ok := (fun k_ => some k_ ≠ (.slice Ao24 y503.length co24 : Value).ownBlock)) (by (with_reducible repeat (first | apply Kd.R_alloc | apply Kd.R_drewN | apply Kd.R_drew)); exact Kd.R_mono HO_4.out (fun _ hk => ⟨hk.2, hk.1⟩)) hg hat); have n1_ := Aside0.mk (Kd.R_after (ok := (fun k_ => some k_ ≠ (.slice Ao20 t496.length co20 : Value).ownBlock)) (by (with_reducible repeat (first | apply Kd.R_alloc | apply Kd.R_drewN | apply Kd.R_drew)); exact Kd.R_mono HO505.out (fun _ hk => ⟨hk.2, hk.1.2⟩)) hg hat); have n2_ := Aside0.mk (hb); have n3_ := Aside0.mk (ho); clear HO_4; clear HO505; clear HB; clear HO_1; have HO_4 := n0_; have HO505 := n1_; have HB := n2_; have HO508 := n3_; clear n0_ n1_ n2_ n3_; clear ho hb hg hat))
        go_ret
        exact ⟨_, Z2, by (with_reducible repeat (first | apply Kd.R_alloc | apply Kd.R_drewN | apply Kd.R_drew)); exact Kd.R_mono HO508.out (fun _ hk => trivial), Z0⟩
       ·rw [if_neg c19] at H
        exact absurd H Z61
end
def quoinref07_Find.l0 : Nat → List ByteArray → ByteArray → Int → Option (Int × Bool)
 | 0, _, _, _ => none
 | k + 1, x0, x1, x6 => if x6 < (x0.length : Int) then (if 0 ≤ x6 then (if (rdOf ByteArray.empty x0 x6).toList = x1.toList then (some (x6, true)) else (quoinref07_Find.l0 k x0 x1 (wrap64 (x6 + 1)))) else (none)) else (some (0, false))
def quoinref07_Find.f (k : Nat) (l0 : List ByteArray) (a1 : ByteArray) : Option (Int × Bool) := quoinref07_Find.l0 k l0 a1 0
theorem quoinref07_Find.mono_l : ∀ k, (∀ y0 y1 y2, LeO (quoinref07_Find.l0 k y0 y1 y2) (quoinref07_Find.l0 (k + 1) y0 y1 y2))
 | 0 => fun _ _ _ r h => by simp [quoinref07_Find.l0] at h
 | k + 1 => by
  have ih0 := quoinref07_Find.mono_l k
  ·intro y0 y1 y2
   unfold quoinref07_Find.l0
   exact mO
theorem quoinref07_Find.mono : ∀ a0 a1 k, LeO (quoinref07_Find.f k a0 a1) (quoinref07_Find.f (k + 1) a0 a1) := by
 intro a0 a1 k
 have ih0 := quoinref07_Find.mono_l k
 unfold quoinref07_Find.f
 exact mO
set_option maxHeartbeats 8000000 in
set_option maxRecDepth 100000 in
theorem quoinref07_Find.calls (k : Nat) (A0 : Option Addr) (c0 : Nat) (l0 : List ByteArray) (a1 : ByteArray) (r1 : Int) (r2 : Bool) (w : World) (hr0 : Kd.C Kd.string w A0 l0.length l0) (hc0 : l0.length ≤ c0) (h : quoinref07_Find.f k l0 a1 = some (r1, r2)) :
  Calls Try.prog 66 #[.slice A0 l0.length c0, .string a1] w fun e w' => e = .returned (.tuple #[.int .i64 r1, .bool r2]) ∧ Drawn0 w w' := by
 have HR0 := Aside0.mk hr0
 have HC0 := Aside0.mk hc0
 clear hr0 hc0
 have H : (quoinref07_Find.l0 k l0 a1 0) = some (r1, r2) := h
 clear h
 have H' := Aside0.mk H
 clear H
 go_enter Try.func66, Try.ntmps66
 go_wp2
 go_loopg [6] k (fun kq v6 w' => ∃ (x6_1 : Int), v6 = .int .i64 x6_1 ∧ Aside0 (quoinref07_Find.l0 kq l0 a1 x6_1 = some (r1, r2)) ∧ Aside0 (kq ≤ k) ∧ Drawn0 w w')
 case atStart => exact ⟨(0), Z1, H', ⟨Nat.le_refl _⟩, Z4⟩
 case round =>
  clear H'
  try clear p2
  obtain ⟨x6_1, rfl, HA, HK1, ⟨m1, rfl⟩⟩ := hrel
  cases gk with
  | zero => exact absurd HA.out (by simp [quoinref07_Find.l0])
  | succ k1 =>
   have H := HA.out
   clear HA
   simp only [quoinref07_Find.l0] at H
   by_cases c3 : x6_1 < (l0.length : Int)
   ·rw [if_pos c3] at H
    have c3b0 := decide_eq_true c3
    clear c3
    by_cases c4 : 0 ≤ x6_1
    ·rw [if_pos c4] at H
     have c4b0 := decide_eq_true c4
     clear c4
     by_cases c5 : (rdOf ByteArray.empty l0 x6_1).toList = a1.toList
     ·rw [if_pos c5] at H
      have c5b0 := e1 c5
      have c5b1 := e2 c5
      clear c5
      simp only [Option.some.injEq, Prod.mk.injEq] at H
      obtain ⟨rfl, rfl⟩ := H
      have p509 : 0 ≤ (x6_1 : Int) := of_decide_eq_true Z3
      have q509 : x6_1 < (l0.length : Int) := of_decide_eq_true Z3
      obtain ⟨ad509, e509, hx509_0⟩ := Kd.at_string HR0.out x6_1 p509 q509
      cases e509
      replace p509 := eq_true p509
      replace q509 := eq_true q509
      go_wp2
      go_ret2
      exact ⟨Z1, Z4⟩
     ·rw [if_neg c5] at H
      have c5b0 := e3 c5
      have c5b1 := e4 c5
      have H' := Aside0.mk H
      clear H
      have p509 : 0 ≤ (x6_1 : Int) := of_decide_eq_true Z3
      have q509 : x6_1 < (l0.length : Int) := of_decide_eq_true Z3
      obtain ⟨ad509, e509, hx509_0⟩ := Kd.at_string HR0.out x6_1 p509 q509
      cases e509
      replace p509 := eq_true p509
      replace q509 := eq_true q509
      go_wp2
      go_roundg k1
      case measure => have := HK1.out; omega
      case rel => exact ⟨(wrap64 (x6_1 + 1)), Z1, H', ⟨Z36⟩, Z4⟩
    ·rw [if_neg c4] at H
     exact absurd H Z61
   ·rw [if_neg c3] at H
    have c3b0 := decide_eq_false c3
    clear c3
    simp only [Option.some.injEq, Prod.mk.injEq] at H
    obtain ⟨rfl, rfl⟩ := H
    go_wp2
    go_ret2
    exact ⟨Z1, Z4⟩
def quoinref26_number.f (k : Nat) (a0 : ByteArray) : Option (Int) := (quoinref26_Kinds.f k).bind fun t510 => ((quoinref07_Find.f k t510 a0).bind fun bt513 => (some bt513.1))
theorem quoinref26_number.mono : ∀ a0 k, LeO (quoinref26_number.f k a0) (quoinref26_number.f (k + 1) a0) := by
 intro a0 k
 unfold quoinref26_number.f
 have m0 := @quoinref07_Find.mono
 have m1 := @quoinref26_Kinds.mono
 exact mO
set_option maxHeartbeats 8000000 in
set_option maxRecDepth 100000 in
theorem quoinref26_number.calls {k : Nat} {a0 : ByteArray} {r : Int} {w : World} (h : quoinref26_number.f k a0 = some r) :
  Calls Try.prog 39 #[.string a0] w fun e w' => e = .returned (.int .i64 r) ∧ Below w.heap.size w w' := by
 have HB := Aside0.mk (Below.refl w.heap.size w)
 have H : ((quoinref26_Kinds.f k).bind fun t510 => ((quoinref07_Find.f k t510 a0).bind fun bt513 => (some bt513.1))) = some r := h
 clear h
 replace H := bS H
 obtain ⟨t510, A2, H⟩ := H
 try dsimp only at H
 replace H := bS H
 obtain ⟨⟨t513, t514⟩, A3, H⟩ := H
 try dsimp only at H
 obtain rfl := Option.some.inj H
 go_enter Try.func39, Try.ntmps39
 go_wp2_with (first | (refine gQ (some 6) Try.func18 (quoinref26_Kinds.calls A2.out) (h := ?_); rintro v511 w4 ⟨ho0, hb⟩; have HO512 := Aside0.mk (Kd.R_lower ho0 (below_size zB)); replace HB := Aside0.mk (below_step zB hb); (try clear hb); (try clear hb2); (try clear hk); (try clear hi); (try clear ho0); obtain ⟨Ao5, co5, eo5⟩ := Kd.R_slice HO512.out; subst eo5) | (refine gL (some 8) Try.func66 #[.slice Ao5 t510.length co5, .string a0] (h := ?_); (with_reducible refine (quoinref07_Find.calls k _ _ t510 a0 t513 t514 _ ?side1 ?side2 A3.out).mono ?_); (case side1 => repeat (first | exact (Kd.R_reads' HO512.out).2.2 | (with_reducible refine Kd.C_alloc ?_ _) | (with_reducible refine Kd.C_drewN ?_ _) | (with_reducible refine Kd.C_drew ?_))); (case side2 => exact (Kd.R_reads' HO512.out).2.1); rintro e w' ⟨rfl, ⟨nd, rfl⟩⟩; refine ⟨_, rfl, ?_⟩))
 go_ret
 exact ⟨Z2, Z0⟩
end Go.Proofs.Ytcajiapjdlphmaa.H
