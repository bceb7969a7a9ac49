import Derived.Test.YtcajiapjdlphmaaEPre
import Derived.Test.YtcajiapjdlphmaaEabcdfx0
import Derived.Test.YtcajiapjdlphmaaEabfx0
import Derived.Test.YtcajiapjdlphmaaEbfx0
namespace Go.Proofs.Ytcajiapjdlphmaa.H
open Go.RowKit Go.Proofs.YtcajiapjdlphmaaW.PrintWords Go.Proofs.YtcajiapjdlphmaaW.PrintLast Go.Proofs.YtcajiapjdlphmaaW.PrintMore
attribute [local go_sem] max2_int min2_int max_two min_two max_three min_three max_four min_four
set_option linter.unusedVariables false
set_option linter.unusedSimpArgs false
def quoinref07_Check.l0 : Nat → List ByteArray → ByteArray → List (S36) → Int → Option (Int × Int)
 | 0, _, _, _, _ => none
 | k + 1, x0, x1, x2, x8 => if x8 < (x2.length : Int) then ((quoinref07_right.f (x0.length : Int) x1 x2 x8).bind fun t530 => (if t530 = true then (quoinref07_Check.l0 k x0 x1 x2 (wrap64 (x8 + 1))) else (some (x8, 71)))) else (some (0, 0))
def quoinref07_Check.f (k : Nat) (l0 : List ByteArray) (a1 : ByteArray) (l2 : List (S36)) : Option (Int × Int) := (quoinref07_Kinds.f k l0).bind fun t529 => (if t529 = true then (if (l2.length : Int) > 65536 then (some (65536, 71)) else (quoinref07_Check.l0 k l0 a1 l2 0)) else (some (0, 70)))
set_option maxHeartbeats 8000000 in
set_option maxRecDepth 100000 in
theorem quoinref07_Check.calls (k : Nat) (A0 : Option Addr) (c0 : Nat) (l0 : List ByteArray) (a1 : ByteArray) (A2 : Option Addr) (c2 : Nat) (l2 : List (S36)) (r1 : Int) (r2 : Int) (w : World) (hr0 : Kd.C Kd.string w A0 l0.length l0) (hc0 : l0.length ≤ c0) (hr2 : Kd.C k36 w A2 l2.length l2) (hc2 : l2.length ≤ c2) (h : quoinref07_Check.f k l0 a1 l2 = some (r1, r2)) :
  Calls Try.prog 37 #[.slice A0 l0.length c0, .string a1, .slice A2 l2.length c2] w fun e w' => e = .returned (.tuple #[.int .i64 r1, .int .i64 r2]) ∧ Below w.heap.size w w' := by
 have HR0 := Aside0.mk hr0
 have HC0 := Aside0.mk hc0
 clear hr0 hc0
 have HR2 := Aside0.mk hr2
 have HC2 := Aside0.mk hc2
 clear hr2 hc2
 have HB := Aside0.mk (Below.refl w.heap.size w)
 have H : ((quoinref07_Kinds.f k l0).bind fun t529 => (if t529 = true then (if (l2.length : Int) > 65536 then (some (65536, 71)) else (quoinref07_Check.l0 k l0 a1 l2 0)) else (some (0, 70)))) = some (r1, r2) := h
 clear h
 replace H := bS H
 obtain ⟨t529, A4, H⟩ := H
 try dsimp only at H
 by_cases c5 : t529 = true
 ·subst c5
  have H1 : (if (l2.length : Int) > 65536 then (some (65536, 71)) else (quoinref07_Check.l0 k l0 a1 l2 0)) = some (r1, r2) := by rw [if_pos rfl] at H; exact H
  clear H
  have H := H1
  clear H1
  by_cases c6 : (l2.length : Int) > 65536
  ·rw [if_pos c6] at H
   have c6b0 : decide (65536 < (l2.length : Int)) = true := decide_eq_true c6
   have c6b1 : decide (65536 < l2.length) = true := decide_eq_true Z57
   clear c6
   simp only [Option.some.injEq, Prod.mk.injEq] at H
   obtain ⟨rfl, rfl⟩ := H
   go_enter Try.func37, Try.ntmps37
   go_wp2_with (first | (refine gL (some 10) Try.func64 #[.slice A0 l0.length c0] (h := ?_); (with_reducible refine (quoinref07_Kinds.calls k _ _ l0 true _ ?side1 ?side2 A4.out).mono ?_); (case side1 => repeat (first | exact HR0.out | (with_reducible refine Kd.C_alloc ?_ _) | (with_reducible refine Kd.C_drewN ?_ _) | (with_reducible refine Kd.C_drew ?_))); (case side2 => exact HC0.out); rintro e w' ⟨rfl, ⟨nd, rfl⟩⟩; refine ⟨_, rfl, ?_⟩))
   go_ret2
   exact ⟨Z2, Z0⟩
  ·rw [if_neg c6] at H
   have c6b0 : decide (65536 < (l2.length : Int)) = false := decide_eq_false c6
   have c6b1 : decide (65536 < l2.length) = false := decide_eq_false Z57
   clear c6
   have H' := Aside0.mk H
   clear H
   go_enter Try.func37, Try.ntmps37
   go_wp2_with (first | (refine gL (some 10) Try.func64 #[.slice A0 l0.length c0] (h := ?_); (with_reducible refine (quoinref07_Kinds.calls k _ _ l0 true _ ?side1 ?side2 A4.out).mono ?_); (case side1 => repeat (first | exact HR0.out | (with_reducible refine Kd.C_alloc ?_ _) | (with_reducible refine Kd.C_drewN ?_ _) | (with_reducible refine Kd.C_drew ?_))); (case side2 => exact HC0.out); rintro e w' ⟨rfl, ⟨nd, rfl⟩⟩; refine ⟨_, rfl, ?_⟩))
   go_loopg [8] k (fun kq v8 w' => ∃ (x8_1 : Int), v8 = .int .i64 x8_1 ∧ Aside0 (quoinref07_Check.l0 kq l0 a1 l2 x8_1 = some (r1, r2)) ∧ Aside0 (kq ≤ k) ∧ Aside0 (Below w.heap.size w w'))
   case atStart => exact ⟨(0), Z1, H', ⟨Nat.le_refl _⟩, ⟨Z0⟩⟩
   case round =>
    clear H'
    try clear c2
    try clear p2
    try clear c3
    try clear c5
    try clear c6
    try clear c6b0
    try clear c6b1
    obtain ⟨x8_1, rfl, HA, HK1, HB⟩ := hrel
    cases gk with
    | zero => exact absurd HA.out (by simp [quoinref07_Check.l0])
    | succ k1 =>
     have H := HA.out
     clear HA
     simp only [quoinref07_Check.l0] at H
     by_cases c7 : x8_1 < (l2.length : Int)
     ·rw [if_pos c7] at H
      have c7b0 := decide_eq_true c7
      clear c7
      replace H := bS H
      obtain ⟨t530, A8, H⟩ := H
      try dsimp only at H
      by_cases c9 : t530 = true
      ·subst c9
       have H1 : (quoinref07_Check.l0 k1 l0 a1 l2 (wrap64 (x8_1 + 1))) = some (r1, r2) := by rw [if_pos rfl] at H; exact H
       clear H
       have H := H1
       clear H1
       have H' := Aside0.mk H
       clear H
       go_wp2_with (first | (refine gL (some 26) Try.func65 #[.int .i64 (l0.length : Int), .string a1, .slice A2 l2.length c2, .int .i64 x8_1] (h := ?_); (with_reducible refine (quoinref07_right.calls (l0.length : Int) a1 _ _ l2 x8_1 true _ ?side1 ?side2 A8.out).mono ?_); (case side1 => repeat (first | exact (Kd.C_below HR2.out HB.out) | (with_reducible refine Kd.C_alloc ?_ _) | (with_reducible refine Kd.C_drewN ?_ _) | (with_reducible refine Kd.C_drew ?_))); (case side2 => exact HC2.out); rintro e w10 ⟨rfl, hb⟩; refine ⟨_, rfl, ?_⟩; replace HB := Aside0.mk (below_step zB hb); (try clear hb); (try clear hb2); (try clear hk); (try clear hi)))
       go_roundg k1
       case measure => have := HK1.out; omega
       case rel => exact ⟨(wrap64 (x8_1 + 1)), Z1, H', ⟨Z36⟩, ⟨Z0⟩⟩
      ·replace c9 := Bool.eq_false_iff.mpr c9
       subst c9
       have H1 : (some (x8_1, 71)) = some (r1, r2) := by rw [if_neg (show ¬ (false = true) by decide)] at H; exact H
       clear H
       have H := H1
       clear H1
       simp only [Option.some.injEq, Prod.mk.injEq] at H
       obtain ⟨rfl, rfl⟩ := H
       go_wp2_with (first | (refine gL (some 26) Try.func65 #[.int .i64 (l0.length : Int), .string a1, .slice A2 l2.length c2, .int .i64 x8_1] (h := ?_); (with_reducible refine (quoinref07_right.calls (l0.length : Int) a1 _ _ l2 x8_1 false _ ?side1 ?side2 A8.out).mono ?_); (case side1 => repeat (first | exact (Kd.C_below HR2.out HB.out) | (with_reducible refine Kd.C_alloc ?_ _) | (with_reducible refine Kd.C_drewN ?_ _) | (with_reducible refine Kd.C_drew ?_))); (case side2 => exact HC2.out); rintro e w11 ⟨rfl, hb⟩; refine ⟨_, rfl, ?_⟩; replace HB := Aside0.mk (below_step zB hb); (try clear hb); (try clear hb2); (try clear hk); (try clear hi)))
       go_ret2
       exact ⟨Z2, Z0⟩
     ·rw [if_neg c7] at H
      have c7b0 := decide_eq_false c7
      clear c7
      simp only [Option.some.injEq, Prod.mk.injEq] at H
      obtain ⟨rfl, rfl⟩ := H
      go_wp2
      go_ret2
      exact ⟨Z2, Z0⟩
 ·replace c5 := Bool.eq_false_iff.mpr c5
  subst c5
  have H1 : (some (0, 70)) = some (r1, r2) := by rw [if_neg (show ¬ (false = true) by decide)] at H; exact H
  clear H
  have H := H1
  clear H1
  simp only [Option.some.injEq, Prod.mk.injEq] at H
  obtain ⟨rfl, rfl⟩ := H
  go_enter Try.func37, Try.ntmps37
  go_wp2_with (first | (refine gL (some 10) Try.func64 #[.slice A0 l0.length c0] (h := ?_); (with_reducible refine (quoinref07_Kinds.calls k _ _ l0 false _ ?side1 ?side2 A4.out).mono ?_); (case side1 => repeat (first | exact HR0.out | (with_reducible refine Kd.C_alloc ?_ _) | (with_reducible refine Kd.C_drewN ?_ _) | (with_reducible refine Kd.C_drew ?_))); (case side2 => exact HC0.out); rintro e w' ⟨rfl, ⟨nd, rfl⟩⟩; refine ⟨_, rfl, ?_⟩))
  go_ret2
  exact ⟨Z2, Z0⟩
def quoinref26_lined.l0 : Nat → ByteArray → Int → Int → Int → Int → Option (Bool)
 | 0, _, _, _, _, _ => none
 | k + 1, x0, x5, x532000, x532001, x532002 => if x5 < x532002 then (if 0 ≤ x5 then (if x5 < (x0.size : Int) then (if (bt x0 x5) = 10 then (some true) else (quoinref26_lined.l0 k x0 (wrap64 (x5 + 1)) x532000 x532001 x532002)) else (none)) else (none)) else (some false)
def quoinref26_lined.f (k : Nat) (a0 : ByteArray) (a1_0 : Int) (a1_1 : Int) (a1_2 : Int) : Option (Bool) := (quoinref26_number.f k (⟨#[110, 101, 119, 108, 105, 110, 101]⟩ : ByteArray)).bind fun t532 => (if a1_0 = t532 then (some true) else ((quoinref26_number.f k (⟨#[99, 111, 109, 109, 101, 110, 116]⟩ : ByteArray)).bind fun t533 => (if a1_0 = t533 then (quoinref26_lined.l0 k a0 a1_1 a1_0 a1_1 a1_2) else (some false))))
set_option maxHeartbeats 8000000 in
set_option maxRecDepth 100000 in
theorem quoinref26_lined.calls {k : Nat} {a0 : ByteArray} {a1_0 : Int} {a1_1 : Int} {a1_2 : Int} {r : Bool} {w : World} (h : quoinref26_lined.f k a0 a1_0 a1_1 a1_2 = some r) :
  Calls Try.prog 38 #[.string a0, .agg #[.int .i64 a1_0, .int .i64 a1_1, .int .i64 a1_2]] w fun e w' => e = .returned (.bool r) ∧ Below w.heap.size w w' := by
 have hu36 := Try.underlying36
 have HB := Aside0.mk (Below.refl w.heap.size w)
 have H : ((quoinref26_number.f k (⟨#[110, 101, 119, 108, 105, 110, 101]⟩ : ByteArray)).bind fun t532 => (if a1_0 = t532 then (some true) else ((quoinref26_number.f k (⟨#[99, 111, 109, 109, 101, 110, 116]⟩ : ByteArray)).bind fun t533 => (if a1_0 = t533 then (quoinref26_lined.l0 k a0 a1_1 a1_0 a1_1 a1_2) else (some false))))) = some r := h
 clear h
 replace H := bS H
 obtain ⟨t532, A3, H⟩ := H
 try dsimp only at H
 by_cases c4 : a1_0 = t532
 ·rw [if_pos c4] at H
  have c4b0 := e1 c4
  have c4b1 := e2 c4
  clear c4
  obtain rfl := Option.some.inj H
  go_enter Try.func38, Try.ntmps38
  try go_wp2_with (first | ((with_reducible refine gate_dst (N := 3) rfl ?_); refine box_event ?hg (N := 3) ?hd (cs := #[.int .i64 a1_0, .int .i64 a1_1, .int .i64 a1_2]) (t := 36) ?hr ?_; (case hd => rfl); (case hg => rfl); (case hr => first | (go_simp; done) | (go_simp; rfl)); intro gb531 hg w5 hbox hb; have BK531 := Aside0.mk (hbox); have GW531 := gE hg zB; have GE531 := gE hg zB; replace HB := Aside0.mk (below_step zB hb); clear hb hbox hg))
  replace BK531 := Aside0.mk (blk_drew BK531.out)
  replace HB := Aside0.mk (below_drew1 HB.out)
  refine start_ (n := 4) (S := fun w' => w'.cell? ⟨gb531, 0, none⟩ = some (.int .i64 a1_0) ∧ w'.cell? ⟨gb531, 1, none⟩ = some (.int .i64 a1_1) ∧ w'.cell? ⟨gb531, 2, none⟩ = some (.int .i64 a1_2)) (ds := []) #[false, false, false, false] Z5 rfl rfl ⟨(blk_cell BK531.out 0).trans rfl, (blk_cell BK531.out 1).trans rfl, (blk_cell BK531.out 2).trans rfl⟩ (fun hHeld => ?_)
  generalize w5.drew = w6 at BK531 HB hHeld ⊢
  refine pU 0 6 (hc := Z5) (h := ?_)
  refine take_ (i := 1) (N := some 7) (v := ?_) (a' := ?_) #[true, true, false, false] rfl rfl Z5 (fun _ _ _ h => h) (Or.inl ⟨Z67, ?_⟩) hHeld ?_ ?_
  rotate_left
  ·rintro w' ⟨s0, s1, s2⟩
   go_simp
   with_reducible rfl
  rotate_left
  ·simp only [Act.put, List.setIfInBounds_toArray, List.set_cons_zero, List.set_cons_succ, i64_w, i32_w]
   rfl
  refine oN 2 (some 8) (hc := Z5) (h := fun K hK => ?_)
  refine gS Try.func39 (quoinref26_number.calls A3.out) (h := ?_)
  rintro w7 hb
  replace BK531 := Aside0.mk (blk_below (g := gb531) (o := .cells #[.int .i64 a1_0, .int .i64 a1_1, .int .i64 a1_2] 36 (0, 0)) (bK BK531) hb)
  replace HB := Aside0.mk (below_step zB hb)
  (try clear hb)
  (try clear hb2)
  (try clear hk)
  (try clear hi)
  refine hK.out _ _ ⟨(blk_cell BK531.out 0).trans rfl, (blk_cell BK531.out 1).trans rfl, (blk_cell BK531.out 2).trans rfl⟩ (fun hHeld => ?_)
  clear hK K
  refine nO 8 (h := ?_)
  refine pU 3 9 (hc := Z5) (h := ?_)
  refine done_ Z5 ?_
  try go_wp2
  go_ret
  exact ⟨Z2, Z0⟩
 ·rw [if_neg c4] at H
  have c4b0 := e3 c4
  have c4b1 := e4 c4
  replace H := bS H
  obtain ⟨t533, A8, H⟩ := H
  try dsimp only at H
  by_cases c9 : a1_0 = t533
  ·rw [if_pos c9] at H
   have c9b0 := e1 c9
   have c9b1 := e2 c9
   clear c9
   have H' := Aside0.mk H
   clear H
   go_enter Try.func38, Try.ntmps38
   try go_wp2_with (first | ((with_reducible refine gate_dst (N := 3) rfl ?_); refine box_event ?hg (N := 3) ?hd (cs := #[.int .i64 a1_0, .int .i64 a1_1, .int .i64 a1_2]) (t := 36) ?hr ?_; (case hd => rfl); (case hg => rfl); (case hr => first | (go_simp; done) | (go_simp; rfl)); intro gb531 hg w10 hbox hb; have BK531 := Aside0.mk (hbox); have GW531 := gE hg zB; have GE531 := gE hg zB; replace HB := Aside0.mk (below_step zB hb); clear hb hbox hg))
   replace BK531 := Aside0.mk (blk_drew BK531.out)
   replace HB := Aside0.mk (below_drew1 HB.out)
   refine start_ (n := 4) (S := fun w' => w'.cell? ⟨gb531, 0, none⟩ = some (.int .i64 a1_0) ∧ w'.cell? ⟨gb531, 1, none⟩ = some (.int .i64 a1_1) ∧ w'.cell? ⟨gb531, 2, none⟩ = some (.int .i64 a1_2)) (ds := []) #[false, false, false, false] Z5 rfl rfl ⟨(blk_cell BK531.out 0).trans rfl, (blk_cell BK531.out 1).trans rfl, (blk_cell BK531.out 2).trans rfl⟩ (fun hHeld => ?_)
   generalize w10.drew = w11 at BK531 HB hHeld ⊢
   refine pU 0 6 (hc := Z5) (h := ?_)
   refine take_ (i := 1) (N := some 7) (v := ?_) (a' := ?_) #[true, true, false, false] rfl rfl Z5 (fun _ _ _ h => h) (Or.inl ⟨Z67, ?_⟩) hHeld ?_ ?_
   rotate_left
   ·rintro w' ⟨s0, s1, s2⟩
    go_simp
    with_reducible rfl
   rotate_left
   ·simp only [Act.put, List.setIfInBounds_toArray, List.set_cons_zero, List.set_cons_succ, i64_w, i32_w]
    rfl
   refine oN 2 (some 8) (hc := Z5) (h := fun K hK => ?_)
   refine gS Try.func39 (quoinref26_number.calls A3.out) (h := ?_)
   rintro w12 hb
   replace BK531 := Aside0.mk (blk_below (g := gb531) (o := .cells #[.int .i64 a1_0, .int .i64 a1_1, .int .i64 a1_2] 36 (0, 0)) (bK BK531) hb)
   replace HB := Aside0.mk (below_step zB hb)
   (try clear hb)
   (try clear hb2)
   (try clear hk)
   (try clear hi)
   refine hK.out _ _ ⟨(blk_cell BK531.out 0).trans rfl, (blk_cell BK531.out 1).trans rfl, (blk_cell BK531.out 2).trans rfl⟩ (fun hHeld => ?_)
   clear hK K
   refine nO 8 (h := ?_)
   refine pU 3 9 (hc := Z5) (h := ?_)
   refine done_ Z5 ?_
   try go_wp2
   replace BK531 := Aside0.mk (blk_drew BK531.out)
   replace HB := Aside0.mk (below_drew1 HB.out)
   refine start_ (n := 4) (S := fun w' => w'.cell? ⟨gb531, 0, none⟩ = some (.int .i64 a1_0) ∧ w'.cell? ⟨gb531, 1, none⟩ = some (.int .i64 a1_1) ∧ w'.cell? ⟨gb531, 2, none⟩ = some (.int .i64 a1_2)) (ds := []) #[false, false, false, false] Z5 rfl rfl ⟨(blk_cell BK531.out 0).trans rfl, (blk_cell BK531.out 1).trans rfl, (blk_cell BK531.out 2).trans rfl⟩ (fun hHeld => ?_)
   generalize w12.drew = w13 at BK531 HB hHeld ⊢
   refine pU 0 10 (hc := Z5) (h := ?_)
   refine take_ (i := 1) (N := some 11) (v := ?_) (a' := ?_) #[true, true, false, false] rfl rfl Z5 (fun _ _ _ h => h) (Or.inl ⟨Z67, ?_⟩) hHeld ?_ ?_
   rotate_left
   ·rintro w' ⟨s0, s1, s2⟩
    go_simp
    with_reducible rfl
   rotate_left
   ·simp only [Act.put, List.setIfInBounds_toArray, List.set_cons_zero, List.set_cons_succ, i64_w, i32_w]
    rfl
   refine oN 2 (some 12) (hc := Z5) (h := fun K hK => ?_)
   refine gS Try.func39 (quoinref26_number.calls A8.out) (h := ?_)
   rintro w14 hb
   replace BK531 := Aside0.mk (blk_below (g := gb531) (o := .cells #[.int .i64 a1_0, .int .i64 a1_1, .int .i64 a1_2] 36 (0, 0)) (bK BK531) hb)
   replace HB := Aside0.mk (below_step zB hb)
   (try clear hb)
   (try clear hb2)
   (try clear hk)
   (try clear hi)
   refine hK.out _ _ ⟨(blk_cell BK531.out 0).trans rfl, (blk_cell BK531.out 1).trans rfl, (blk_cell BK531.out 2).trans rfl⟩ (fun hHeld => ?_)
   clear hK K
   refine nO 12 (h := ?_)
   refine pU 3 13 (hc := Z5) (h := ?_)
   refine done_ Z5 ?_
   have hcz15_0 := bC BK531 0 (.int .i64 a1_0)
   have hcz15_1 := bC BK531 1 (.int .i64 a1_1)
   have hcz15_2 := bC BK531 2 (.int .i64 a1_2)
   have hfz15_0 := blk_frozen BK531.out 0
   have hfz15_1 := blk_frozen BK531.out 1
   have hfz15_2 := blk_frozen BK531.out 2
   try go_wp2
   go_loopg [5] k (fun kq v5 w' => ∃ (x5_1 : Int), v5 = .int .i64 x5_1 ∧ Aside0 (quoinref26_lined.l0 kq a0 x5_1 a1_0 a1_1 a1_2 = some r) ∧ Aside0 (kq ≤ k) ∧ Aside0 (w'.heap[gb531]? = some (.cells #[.int .i64 a1_0, .int .i64 a1_1, .int .i64 a1_2] 36 (0, 0))) ∧ Aside0 (Below w.heap.size w w'))
   case atStart => exact ⟨(a1_1), Z1, H', ⟨Nat.le_refl _⟩, ⟨by (with_reducible repeat (first | refine blk_drewN ?_ _ | refine blk_drew ?_ | refine blk_alloc ?_ _)); exact BK531.out⟩, ⟨Z0⟩⟩
   case round =>
    clear H'
    try clear p2
    try clear c3
    try clear c4
    try clear c4b0
    try clear c4b1
    try clear c9
    try clear c9b0
    try clear c9b1
    try clear hcz15_0
    try clear hcz15_1
    try clear hcz15_2
    try clear hfz15_0
    try clear hfz15_1
    try clear hfz15_2
    obtain ⟨x5_1, rfl, HA, HK1, BK531, HB⟩ := hrel
    cases gk with
    | zero => exact absurd HA.out (by simp [quoinref26_lined.l0])
    | succ k1 =>
     have H := HA.out
     clear HA
     simp only [quoinref26_lined.l0] at H
     by_cases c16 : x5_1 < a1_2
     ·rw [if_pos c16] at H
      have c16b0 := decide_eq_true c16
      clear c16
      by_cases c17 : 0 ≤ x5_1
      ·rw [if_pos c17] at H
       have c17b0 := decide_eq_true c17
       clear c17
       by_cases c18 : x5_1 < (a0.size : Int)
       ·rw [if_pos c18] at H
        have c18b0 := decide_eq_true c18
        clear c18
        by_cases c20 : (bt a0 x5_1) = 10
        ·rw [if_pos c20] at H
         have c20b0 := e1 c20
         have c20b1 := e2 c20
         clear c20
         obtain rfl := Option.some.inj H
         have hcz21_0 := bC BK531 0 (.int .i64 a1_0)
         have hcz21_1 := bC BK531 1 (.int .i64 a1_1)
         have hcz21_2 := bC BK531 2 (.int .i64 a1_2)
         have hfz21_0 := blk_frozen BK531.out 0
         have hfz21_1 := blk_frozen BK531.out 1
         have hfz21_2 := blk_frozen BK531.out 2
         have p19 : 0 ≤ (x5_1 : Int) := of_decide_eq_true Z3
         have q19 : x5_1 < (a0.size : Int) := of_decide_eq_true Z3
         have hx19 := bt_at a0 x5_1
         replace p19 := eq_true p19
         replace q19 := eq_true q19
         go_wp2
         go_ret
         exact ⟨Z2, Z0⟩
        ·rw [if_neg c20] at H
         have c20b0 := e3 c20
         have c20b1 := e4 c20
         have H' := Aside0.mk H
         clear H
         have hcz22_0 := bC BK531 0 (.int .i64 a1_0)
         have hcz22_1 := bC BK531 1 (.int .i64 a1_1)
         have hcz22_2 := bC BK531 2 (.int .i64 a1_2)
         have hfz22_0 := blk_frozen BK531.out 0
         have hfz22_1 := blk_frozen BK531.out 1
         have hfz22_2 := blk_frozen BK531.out 2
         have p19 : 0 ≤ (x5_1 : Int) := of_decide_eq_true Z3
         have q19 : x5_1 < (a0.size : Int) := of_decide_eq_true Z3
         have hx19 := bt_at a0 x5_1
         replace p19 := eq_true p19
         replace q19 := eq_true q19
         go_wp2
         go_roundg k1
         case measure => have := HK1.out; omega
         case rel => exact ⟨(wrap64 (x5_1 + 1)), Z1, H', ⟨Z36⟩, ⟨by (with_reducible repeat (first | refine blk_drewN ?_ _ | refine blk_drew ?_ | refine blk_alloc ?_ _)); exact BK531.out⟩, ⟨Z0⟩⟩
       ·rw [if_neg c18] at H
        exact absurd H Z61
      ·rw [if_neg c17] at H
       exact absurd H Z61
     ·rw [if_neg c16] at H
      have c16b0 := decide_eq_false c16
      clear c16
      obtain rfl := Option.some.inj H
      have hcz23_0 := bC BK531 0 (.int .i64 a1_0)
      have hcz23_1 := bC BK531 1 (.int .i64 a1_1)
      have hcz23_2 := bC BK531 2 (.int .i64 a1_2)
      have hfz23_0 := blk_frozen BK531.out 0
      have hfz23_1 := blk_frozen BK531.out 1
      have hfz23_2 := blk_frozen BK531.out 2
      go_wp2
      go_ret
      exact ⟨Z2, Z0⟩
  ·rw [if_neg c9] at H
   have c9b0 := e3 c9
   have c9b1 := e4 c9
   obtain rfl := Option.some.inj H
   go_enter Try.func38, Try.ntmps38
   try go_wp2_with (first | ((with_reducible refine gate_dst (N := 3) rfl ?_); refine box_event ?hg (N := 3) ?hd (cs := #[.int .i64 a1_0, .int .i64 a1_1, .int .i64 a1_2]) (t := 36) ?hr ?_; (case hd => rfl); (case hg => rfl); (case hr => first | (go_simp; done) | (go_simp; rfl)); intro gb531 hg w24 hbox hb; have BK531 := Aside0.mk (hbox); have GW531 := gE hg zB; have GE531 := gE hg zB; replace HB := Aside0.mk (below_step zB hb); clear hb hbox hg))
   replace BK531 := Aside0.mk (blk_drew BK531.out)
   replace HB := Aside0.mk (below_drew1 HB.out)
   refine start_ (n := 4) (S := fun w' => w'.cell? ⟨gb531, 0, none⟩ = some (.int .i64 a1_0) ∧ w'.cell? ⟨gb531, 1, none⟩ = some (.int .i64 a1_1) ∧ w'.cell? ⟨gb531, 2, none⟩ = some (.int .i64 a1_2)) (ds := []) #[false, false, false, false] Z5 rfl rfl ⟨(blk_cell BK531.out 0).trans rfl, (blk_cell BK531.out 1).trans rfl, (blk_cell BK531.out 2).trans rfl⟩ (fun hHeld => ?_)
   generalize w24.drew = w25 at BK531 HB hHeld ⊢
   refine pU 0 6 (hc := Z5) (h := ?_)
   refine take_ (i := 1) (N := some 7) (v := ?_) (a' := ?_) #[true, true, false, false] rfl rfl Z5 (fun _ _ _ h => h) (Or.inl ⟨Z67, ?_⟩) hHeld ?_ ?_
   rotate_left
   ·rintro w' ⟨s0, s1, s2⟩
    go_simp
    with_reducible rfl
   rotate_left
   ·simp only [Act.put, List.setIfInBounds_toArray, List.set_cons_zero, List.set_cons_succ, i64_w, i32_w]
    rfl
   refine oN 2 (some 8) (hc := Z5) (h := fun K hK => ?_)
   refine gS Try.func39 (quoinref26_number.calls A3.out) (h := ?_)
   rintro w26 hb
   replace BK531 := Aside0.mk (blk_below (g := gb531) (o := .cells #[.int .i64 a1_0, .int .i64 a1_1, .int .i64 a1_2] 36 (0, 0)) (bK BK531) hb)
   replace HB := Aside0.mk (below_step zB hb)
   (try clear hb)
   (try clear hb2)
   (try clear hk)
   (try clear hi)
   refine hK.out _ _ ⟨(blk_cell BK531.out 0).trans rfl, (blk_cell BK531.out 1).trans rfl, (blk_cell BK531.out 2).trans rfl⟩ (fun hHeld => ?_)
   clear hK K
   refine nO 8 (h := ?_)
   refine pU 3 9 (hc := Z5) (h := ?_)
   refine done_ Z5 ?_
   try go_wp2
   replace BK531 := Aside0.mk (blk_drew BK531.out)
   replace HB := Aside0.mk (below_drew1 HB.out)
   refine start_ (n := 4) (S := fun w' => w'.cell? ⟨gb531, 0, none⟩ = some (.int .i64 a1_0) ∧ w'.cell? ⟨gb531, 1, none⟩ = some (.int .i64 a1_1) ∧ w'.cell? ⟨gb531, 2, none⟩ = some (.int .i64 a1_2)) (ds := []) #[false, false, false, false] Z5 rfl rfl ⟨(blk_cell BK531.out 0).trans rfl, (blk_cell BK531.out 1).trans rfl, (blk_cell BK531.out 2).trans rfl⟩ (fun hHeld => ?_)
   generalize w26.drew = w27 at BK531 HB hHeld ⊢
   refine pU 0 10 (hc := Z5) (h := ?_)
   refine take_ (i := 1) (N := some 11) (v := ?_) (a' := ?_) #[true, true, false, false] rfl rfl Z5 (fun _ _ _ h => h) (Or.inl ⟨Z67, ?_⟩) hHeld ?_ ?_
   rotate_left
   ·rintro w' ⟨s0, s1, s2⟩
    go_simp
    with_reducible rfl
   rotate_left
   ·simp only [Act.put, List.setIfInBounds_toArray, List.set_cons_zero, List.set_cons_succ, i64_w, i32_w]
    rfl
   refine oN 2 (some 12) (hc := Z5) (h := fun K hK => ?_)
   refine gS Try.func39 (quoinref26_number.calls A8.out) (h := ?_)
   rintro w28 hb
   replace BK531 := Aside0.mk (blk_below (g := gb531) (o := .cells #[.int .i64 a1_0, .int .i64 a1_1, .int .i64 a1_2] 36 (0, 0)) (bK BK531) hb)
   replace HB := Aside0.mk (below_step zB hb)
   (try clear hb)
   (try clear hb2)
   (try clear hk)
   (try clear hi)
   refine hK.out _ _ ⟨(blk_cell BK531.out 0).trans rfl, (blk_cell BK531.out 1).trans rfl, (blk_cell BK531.out 2).trans rfl⟩ (fun hHeld => ?_)
   clear hK K
   refine nO 12 (h := ?_)
   refine pU 3 13 (hc := Z5) (h := ?_)
   refine done_ Z5 ?_
   try go_wp2
   go_ret
   exact ⟨Z2, Z0⟩
mutual
def quoinref26_Insert.l0 : Nat → ByteArray → List (S36) → List (S36) → Bool → Int → Int → Option ((List (S36)) × Int)
 | 0, _, _, _, _, _, _ => none
 | k + 1, x0, x1, x8, x9, x10, x11 => if x11 ≤ (x1.length : Int) then (if x11 < (x1.length : Int) then (if 0 ≤ x11 then (quoinref26_Insert.j1 k x0 x1 x8 x9 x10 x11 (decide (((rd_T36 x1 x11).f0) < x10))) else (none)) else (quoinref26_Insert.j1 k x0 x1 x8 x9 x10 x11 false)) else (if (x8.length : Int) > 65536 then (some (([] : List (S36)), 71)) else (some (x8, 0)))
def quoinref26_Insert.j1 : Nat → ByteArray → List (S36) → List (S36) → Bool → Int → Int → Bool → Option ((List (S36)) × Int)
 | 0, _, _, _, _, _, _, _ => none
 | k + 1, x0, x1, x8, x9, x10, x11, x43 => if x43 = true then (if 0 ≤ x11 then (if x11 < (x1.length : Int) then (if x8.length < 5864062014805 then ((quoinref26_Follows.f k ((rd_T36 x1 x11).f0)).bind fun t548 => (quoinref26_Insert.l0 k x0 x1 (x8 ++ [(⟨(rd_T36 x1 x11).f0, (rd_T36 x1 x11).f1, (rd_T36 x1 x11).f2⟩ : S36)]) t548 x10 (wrap64 (x11 + 1)))) else (none)) else (none)) else (none)) else (if x9 = true then (if x11 = (x1.length : Int) then (if 0 ≤ (wrap64 ((x8.length : Int) - 1)) then (if (wrap64 ((x8.length : Int) - 1)) < (x8.length : Int) then ((quoinref26_number.f k (⟨#[115, 101, 109, 105]⟩ : ByteArray)).bind fun t550 => (if x8.length < 5864062014805 then (quoinref26_Insert.l0 k x0 x1 (x8 ++ [(⟨t550, (rd_T36 x8 (wrap64 ((x8.length : Int) - 1))).f2, (rd_T36 x8 (wrap64 ((x8.length : Int) - 1))).f2⟩ : S36)]) false x10 (wrap64 (x11 + 1))) else (none))) else (none)) else (none)) else (if 0 ≤ x11 then (if x11 < (x1.length : Int) then ((quoinref26_lined.f k x0 ((rd_T36 x1 x11).f0) ((rd_T36 x1 x11).f1) ((rd_T36 x1 x11).f2)).bind fun t555 => (if t555 = true then (if 0 ≤ (wrap64 ((x8.length : Int) - 1)) then (if (wrap64 ((x8.length : Int) - 1)) < (x8.length : Int) then ((quoinref26_number.f k (⟨#[115, 101, 109, 105]⟩ : ByteArray)).bind fun t557 => (if x8.length < 5864062014805 then (quoinref26_Insert.l0 k x0 x1 (x8 ++ [(⟨t557, (rd_T36 x8 (wrap64 ((x8.length : Int) - 1))).f2, (rd_T36 x8 (wrap64 ((x8.length : Int) - 1))).f2⟩ : S36)]) false x10 (wrap64 (x11 + 1))) else (none))) else (none)) else (none)) else (quoinref26_Insert.l0 k x0 x1 x8 x9 x10 (wrap64 (x11 + 1))))) else (none)) else (none))) else (quoinref26_Insert.l0 k x0 x1 x8 x9 x10 (wrap64 (x11 + 1))))
end
def quoinref26_Insert.f (k : Nat) (a0 : ByteArray) (l1 : List (S36)) : Option ((List (S36)) × Int) := (quoinref26_Kinds.f k).bind fun t534 => ((quoinref07_Check.f k t534 a0 l1).bind fun bt537 => (if bt537.2 = 0 then ((quoinref26_Kinds.f k).bind fun t539 => (quoinref26_Insert.l0 k a0 l1 ([] : List (S36)) false (wrap64 ((t539.length : Int) - 3)) 0)) else (some (([] : List (S36)), 71))))
set_option maxHeartbeats 8000000 in
set_option maxRecDepth 100000 in
theorem quoinref26_Insert.calls (k : Nat) (a0 : ByteArray) (A1 : Option Addr) (c1 : Nat) (l1 : List (S36)) (r1 : List (S36)) (r2 : Int) (w : World) (hr1 : Kd.C k36 w A1 l1.length l1) (hc1 : l1.length ≤ c1) (h : quoinref26_Insert.f k a0 l1 = some (r1, r2)) :
  Calls Try.prog 14 #[.string a0, .slice A1 l1.length c1] w fun e w' => ∃ v0_ : Value, e = .returned (.tuple #[v0_, .int .i64 r2]) ∧ Kd.R k36 36 w' w.heap.size (fun _ => True) v0_ r1 ∧ Below w.heap.size w w' := by
 have hu36 := Try.underlying36
 have HR1 := Aside0.mk hr1
 have HC1 := Aside0.mk hc1
 clear hr1 hc1
 have HB := Aside0.mk (Below.refl w.heap.size w)
 have H : ((quoinref26_Kinds.f k).bind fun t534 => ((quoinref07_Check.f k t534 a0 l1).bind fun bt537 => (if bt537.2 = 0 then ((quoinref26_Kinds.f k).bind fun t539 => (quoinref26_Insert.l0 k a0 l1 ([] : List (S36)) false (wrap64 ((t539.length : Int) - 3)) 0)) else (some (([] : List (S36)), 71))))) = some (r1, r2) := h
 clear h
 replace H := bS H
 obtain ⟨t534, A3, H⟩ := H
 try dsimp only at H
 replace H := bS H
 obtain ⟨⟨t537, t538⟩, A4, H⟩ := H
 try dsimp only at H
 by_cases c5 : t538 = 0
 ·rw [if_pos c5] at H
  have c5b0 := e1 c5
  have c5b1 := e2 c5
  clear c5
  replace H := bS H
  obtain ⟨t539, A6, H⟩ := H
  try dsimp only at H
  have H' := Aside0.mk H
  clear H
  go_enter Try.func14, Try.ntmps14
  go_wp2_with (first | (refine gQ (some 14) Try.func18 (quoinref26_Kinds.calls A3.out) (h := ?_); rintro v535 w7 ⟨ho0, hb⟩; have HO536 := Aside0.mk (Kd.R_lower ho0 (below_size zB)); replace HB := Aside0.mk (below_step zB hb); (try clear hb); (try clear hb2); (try clear hk); (try clear hi); (try clear ho0); obtain ⟨Ao8, co8, eo8⟩ := Kd.R_slice HO536.out; subst eo8) | (refine gL (some 17) Try.func37 #[.slice Ao8 t534.length co8, .string a0, .slice A1 l1.length c1] (h := ?_); (with_reducible refine (quoinref07_Check.calls k _ _ t534 a0 _ _ l1 t537 t538 _ ?side1 ?side2 ?side3 ?side4 A4.out).mono ?_); (case side1 => repeat (first | exact (Kd.R_reads' HO536.out).2.2 | (with_reducible refine Kd.C_alloc ?_ _) | (with_reducible refine Kd.C_drewN ?_ _) | (with_reducible refine Kd.C_drew ?_))); (case side2 => exact (Kd.R_reads' HO536.out).2.1); (case side3 => repeat (first | exact (Kd.C_below HR1.out HB.out) | (with_reducible refine Kd.C_alloc ?_ _) | (with_reducible refine Kd.C_drewN ?_ _) | (with_reducible refine Kd.C_drew ?_))); (case side4 => exact HC1.out); rintro e w9 ⟨rfl, hb⟩; refine ⟨_, rfl, ?_⟩; replace HO536 := Aside0.mk (Kd.R_below (kK HO536) hb); replace HB := Aside0.mk (below_step zB hb); (try clear hb); (try clear hb2); (try clear hk); (try clear hi)) | (refine gQ (some 22) Try.func18 (quoinref26_Kinds.calls A6.out) (h := ?_); rintro v540 w10 ⟨ho0, hb⟩; have HO541 := Aside0.mk (Kd.R_lower (Kd.R_new' ho0 (Kd.R_lt (kK HO536))) (below_size zB)); replace HO536 := Aside0.mk (Kd.R_elder' (kK HO536) (Kd.R_base ho0) hb); replace HB := Aside0.mk (below_step zB hb); (try clear hb); (try clear hb2); (try clear hk); (try clear hi); (try clear ho0); obtain ⟨Ao11, co11, eo11⟩ := Kd.R_slice HO541.out; subst eo11))
  go_loopg [8, 9, 11] k (fun kq v8 v9 v11 w' => ∃ (x8_1 : List (S36)) (x9_1 : Bool) (x11_1 : Int), v9 = .bool x9_1 ∧ v11 = .int .i64 x11_1 ∧ Aside0 (quoinref26_Insert.l0 kq a0 l1 x8_1 x9_1 (wrap64 ((t539.length : Int) - 3)) x11_1 = some (r1, r2)) ∧ Aside0 (kq ≤ k) ∧ Aside0 (Kd.R k36 36 w' w.heap.size (fun _ => True) v8 x8_1) ∧ Aside0 (Below w.heap.size w w'))
  case atStart => exact ⟨(([] : List (S36))), (false), (0), Z1, Z1, H', ⟨Nat.le_refl _⟩, ⟨Z10⟩, ⟨Z0⟩⟩
  case round =>
   clear H'
   try clear c1
   try clear p2
   try clear c3
   try clear c5
   try clear c5b0
   try clear c5b1
   try clear p6
   obtain ⟨x8_1, x9_1, x11_1, rfl, rfl, HA, HK1, HO_8, HB⟩ := hrel
   cases gk with
   | zero => exact absurd HA.out (by simp [quoinref26_Insert.l0])
   | succ k1 =>
    have H := HA.out
    clear HA
    simp only [quoinref26_Insert.l0] at H
    by_cases c12 : x11_1 ≤ (l1.length : Int)
    ·rw [if_pos c12] at H
     have c12b0 := decide_eq_true c12
     clear c12
     have HC13 := Aside0.mk H
     clear H
     go_upto_region 10 with (fail)
     go_cut [43] (fun v43 wc => ∃ (kq : Nat) (x43_12 : Bool), v43 = .bool x43_12 ∧ Aside0 (quoinref26_Insert.j1 kq a0 l1 x8_1 x9_1 (wrap64 ((t539.length : Int) - 3)) x11_1 x43_12 = some (r1, r2)) ∧ Aside0 (kq ≤ k1) ∧ Aside0 (Kd.R k36 36 wc w.heap.size (fun _ => True) u8 x8_1) ∧ Aside0 (Below w.heap.size w wc))
     case first =>
      have H := HC13.out
      clear HC13
      by_cases c14 : x11_1 < (l1.length : Int)
      ·rw [if_pos c14] at H
       have c14b0 := decide_eq_true c14
       clear c14
       (first | rw [c14b0] | (simp only [i64_w, i32_w]; rw [c14b0]) | skip)
       by_cases c15 : 0 ≤ x11_1
       ·rw [if_pos c15] at H
        have c15b0 := decide_eq_true c15
        clear c15
        have H' := Aside0.mk H
        clear H
        have p542 : 0 ≤ (x11_1 : Int) := of_decide_eq_true Z3
        have q542 : x11_1 < (l1.length : Int) := of_decide_eq_true Z3
        obtain ⟨ad542, e542, hx542_0, hx542_1, hx542_2⟩ := at_T36 HR1.out x11_1 p542 q542
        cases e542
        replace hx542_0 := (HB.out.cell (World.block_lt_of_cell? w _ hx542_0)).trans hx542_0
        replace hx542_1 := (HB.out.cell (World.block_lt_of_cell? w _ hx542_1)).trans hx542_1
        replace hx542_2 := (HB.out.cell (World.block_lt_of_cell? w _ hx542_2)).trans hx542_2
        replace p542 := eq_true p542
        replace q542 := eq_true q542
        go_wp2
        go_meet
        case rel => exact ⟨_, (decide (((rd_T36 l1 x11_1).f0) < (wrap64 ((t539.length : Int) - 3)))), Z1, H', ⟨by have := HK1.out; first | omega | exact Nat.le_refl _⟩, ⟨Z62⟩, ⟨Z0⟩⟩
       ·rw [if_neg c15] at H
        exact absurd H Z61
      ·rw [if_neg c14] at H
       have c14b0 := decide_eq_false c14
       clear c14
       (first | rw [c14b0] | (simp only [i64_w, i32_w]; rw [c14b0]) | skip)
       have H' := Aside0.mk H
       clear H
       go_wp2
       go_meet
       case rel => exact ⟨_, (false), Z1, H', ⟨by have := HK1.out; first | omega | exact Nat.le_refl _⟩, ⟨Z62⟩, ⟨Z0⟩⟩
     case rest =>
      clear HC13
      try clear c1
      try clear p2
      try clear c3
      try clear c5
      try clear c5b0
      try clear c5b1
      try clear p5
      try clear q5
      try clear hx5
      try clear p6
      try clear c12
      try clear c12b0
      try clear c14
      try clear c14b0
      try clear c15
      try clear c15b0
      try clear hx542_0
      try clear hx542_1
      try clear hx542_2
      try clear p2
      try clear p542
      try clear p6
      try clear q542
      obtain ⟨kq, x43_12, rfl, HA, HJ12, HO_8, HB⟩ := hcut
      cases kq with
      | zero => exact absurd HA.out (by simp [quoinref26_Insert.j1])
      | succ kj12 =>
       have H := HA.out
       clear HA
       simp only [quoinref26_Insert.j1] at H
       by_cases c16 : x43_12 = true
       ·subst c16
        have H1 : (if 0 ≤ x11_1 then (if x11_1 < (l1.length : Int) then (if x8_1.length < 5864062014805 then ((quoinref26_Follows.f kj12 ((rd_T36 l1 x11_1).f0)).bind fun t548 => (quoinref26_Insert.l0 kj12 a0 l1 (x8_1 ++ [(⟨(rd_T36 l1 x11_1).f0, (rd_T36 l1 x11_1).f1, (rd_T36 l1 x11_1).f2⟩ : S36)]) t548 (wrap64 ((t539.length : Int) - 3)) (wrap64 (x11_1 + 1)))) else (none)) else (none)) else (none)) = some (r1, r2) := by rw [if_pos rfl] at H; exact H
        clear H
        have H := H1
        clear H1
        by_cases c17 : 0 ≤ x11_1
        ·rw [if_pos c17] at H
         have c17b0 := decide_eq_true c17
         clear c17
         by_cases c18 : x11_1 < (l1.length : Int)
         ·rw [if_pos c18] at H
          have c18b0 := decide_eq_true c18
          clear c18
          by_cases c19 : x8_1.length < 5864062014805
          ·rw [if_pos c19] at H
           have LMc19 := Aside0.mk c19
           clear c19
           obtain ⟨y544, hy544⟩ : ∃ y_ : List (S36), y_ = (x8_1 ++ [(⟨(rd_T36 l1 x11_1).f0, (rd_T36 l1 x11_1).f1, (rd_T36 l1 x11_1).f2⟩ : S36)]) := ⟨_, rfl⟩
           replace H : ((quoinref26_Follows.f kj12 ((rd_T36 l1 x11_1).f0)).bind fun t548 => (quoinref26_Insert.l0 kj12 a0 l1 y544 t548 (wrap64 ((t539.length : Int) - 3)) (wrap64 (x11_1 + 1)))) = some (r1, r2) := by first | (rw [hy544]; with_reducible exact H) | (have H2_ := (Option.bind_some _ _).symm.trans H; rw [hy544]; with_reducible exact H2_) | (have H2_ := (Option.bind_some _ _).symm.trans H; with_reducible exact H2_) | with_reducible exact H | (rw [hy544]; exact H) | exact H
           have Ny544 := Aside0.mk hy544
           clear hy544
           replace H := bS H
           obtain ⟨t548, A20, H⟩ := H
           try dsimp only at H
           have H' := Aside0.mk H
           clear H
           have p543 : 0 ≤ (x11_1 : Int) := of_decide_eq_true Z3
           have q543 : x11_1 < (l1.length : Int) := of_decide_eq_true Z3
           obtain ⟨ad543, e543, hx543_0, hx543_1, hx543_2⟩ := at_T36 HR1.out x11_1 p543 q543
           cases e543
           replace hx543_0 := (HB.out.cell (World.block_lt_of_cell? w _ hx543_0)).trans hx543_0
           replace hx543_1 := (HB.out.cell (World.block_lt_of_cell? w _ hx543_1)).trans hx543_1
           replace hx543_2 := (HB.out.cell (World.block_lt_of_cell? w _ hx543_2)).trans hx543_2
           replace p543 := eq_true p543
           replace q543 := eq_true q543
           go_wp2_with (first | ((with_reducible refine gate_builtin (b := .append) (xs := #[.tmp 44, .tmp 49]) rfl ?_); (try (refine gate_guard Z67 ?_; dsimp only)); at_builtin; refine Kd.R_append k36 (w0 := w) w.heap.size rfl (.tmp 44) (.tmp 49) 22 36 (.agg #[(.int .i64 0), (.int .i64 0), (.int .i64 0)]) 24 rfl Try.underlying22 info36 rfl Z43 Z57 u8 x8_1 (⟨(rd_T36 l1 x11_1).f0, (rd_T36 l1 x11_1).f1, (rd_T36 l1 x11_1).f2⟩ : S36) [.int .i64 ((rd_T36 l1 x11_1).f0), .int .i64 ((rd_T36 l1 x11_1).f1), .int .i64 ((rd_T36 l1 x11_1).f2)] (fun _ => True) (fun _ => False) rfl rfl ?aP (fun _ hk => hk.elim) ?aF ?aO ?aB ?aS ?aL ?_; (case aP => exact k36_mkM _ _ _ (⟨(rd_T36 l1 x11_1).f0, (rd_T36 l1 x11_1).f1, (rd_T36 l1 x11_1).f2⟩ : S36)); (case aB => exact zB); (case aF => exact (fun _ _ => trivial)); (case aO => exact (kK HO_8)); (case aS => exact (below_size zB)); (case aL => have := LMc19.out; omega); intro v545 w21 ho hb hg hat; rw [← Ny544.out] at ho; have n0_ := Aside0.mk (hb); have n1_ := Aside0.mk (ho); clear HB; clear HO_8; have HB := n0_; have HO546 := n1_; clear n0_ n1_; clear ho hb hg hat; have p547 : 0 ≤ (x11_1 : Int) := of_decide_eq_true Z3; have q547 : x11_1 < (l1.length : Int) := of_decide_eq_true Z3; obtain ⟨ad547, e547, hx547_0, hx547_1, hx547_2⟩ := at_T36 HR1.out x11_1 p547 q547; obtain rfl : ad543 = ad547 := (by injection e547); replace hx547_0 := (HB.out.cell (World.block_lt_of_cell? w _ hx547_0)).trans hx547_0; replace hx547_1 := (HB.out.cell (World.block_lt_of_cell? w _ hx547_1)).trans hx547_1; replace hx547_2 := (HB.out.cell (World.block_lt_of_cell? w _ hx547_2)).trans hx547_2; replace p547 := eq_true p547; replace q547 := eq_true q547) | (refine gR (some 56) Try.func27 (quoinref26_Follows.calls A20.out) (h := ?_); rintro w22 hb; replace HO546 := Aside0.mk (Kd.R_below (kK HO546) hb); replace HB := Aside0.mk (below_step zB hb); (try clear hb); (try clear hb2); (try clear hk); (try clear hi)))
           go_roundg kj12
           case measure => have := HK1.out; have := HJ12.out; omega
           case rel => exact ⟨(y544), (t548), (wrap64 (x11_1 + 1)), Z1, Z1, H', ⟨by have := HK1.out; have := HJ12.out; omega⟩, ⟨by (with_reducible repeat (first | apply Kd.R_alloc | apply Kd.R_drewN | apply Kd.R_drew)); exact HO546.out⟩, ⟨Z0⟩⟩
          ·rw [if_neg c19] at H
           exact absurd H Z61
         ·rw [if_neg c18] at H
          exact absurd H Z61
        ·rw [if_neg c17] at H
         exact absurd H Z61
       ·replace c16 := Bool.eq_false_iff.mpr c16
        subst c16
        have H1 : (if x9_1 = true then (if x11_1 = (l1.length : Int) then (if 0 ≤ (wrap64 ((x8_1.length : Int) - 1)) then (if (wrap64 ((x8_1.length : Int) - 1)) < (x8_1.length : Int) then ((quoinref26_number.f kj12 (⟨#[115, 101, 109, 105]⟩ : ByteArray)).bind fun t550 => (if x8_1.length < 5864062014805 then (quoinref26_Insert.l0 kj12 a0 l1 (x8_1 ++ [(⟨t550, (rd_T36 x8_1 (wrap64 ((x8_1.length : Int) - 1))).f2, (rd_T36 x8_1 (wrap64 ((x8_1.length : Int) - 1))).f2⟩ : S36)]) false (wrap64 ((t539.length : Int) - 3)) (wrap64 (x11_1 + 1))) else (none))) else (none)) else (none)) else (if 0 ≤ x11_1 then (if x11_1 < (l1.length : Int) then ((quoinref26_lined.f kj12 a0 ((rd_T36 l1 x11_1).f0) ((rd_T36 l1 x11_1).f1) ((rd_T36 l1 x11_1).f2)).bind fun t555 => (if t555 = true then (if 0 ≤ (wrap64 ((x8_1.length : Int) - 1)) then (if (wrap64 ((x8_1.length : Int) - 1)) < (x8_1.length : Int) then ((quoinref26_number.f kj12 (⟨#[115, 101, 109, 105]⟩ : ByteArray)).bind fun t557 => (if x8_1.length < 5864062014805 then (quoinref26_Insert.l0 kj12 a0 l1 (x8_1 ++ [(⟨t557, (rd_T36 x8_1 (wrap64 ((x8_1.length : Int) - 1))).f2, (rd_T36 x8_1 (wrap64 ((x8_1.length : Int) - 1))).f2⟩ : S36)]) false (wrap64 ((t539.length : Int) - 3)) (wrap64 (x11_1 + 1))) else (none))) else (none)) else (none)) else (quoinref26_Insert.l0 kj12 a0 l1 x8_1 x9_1 (wrap64 ((t539.length : Int) - 3)) (wrap64 (x11_1 + 1))))) else (none)) else (none))) else (quoinref26_Insert.l0 kj12 a0 l1 x8_1 x9_1 (wrap64 ((t539.length : Int) - 3)) (wrap64 (x11_1 + 1)))) = some (r1, r2) := by rw [if_neg (show ¬ (false = true) by decide)] at H; exact H
        clear H
        have H := H1
        clear H1
        by_cases c23 : x9_1 = true
        ·subst c23
         have H1 : (if x11_1 = (l1.length : Int) then (if 0 ≤ (wrap64 ((x8_1.length : Int) - 1)) then (if (wrap64 ((x8_1.length : Int) - 1)) < (x8_1.length : Int) then ((quoinref26_number.f kj12 (⟨#[115, 101, 109, 105]⟩ : ByteArray)).bind fun t550 => (if x8_1.length < 5864062014805 then (quoinref26_Insert.l0 kj12 a0 l1 (x8_1 ++ [(⟨t550, (rd_T36 x8_1 (wrap64 ((x8_1.length : Int) - 1))).f2, (rd_T36 x8_1 (wrap64 ((x8_1.length : Int) - 1))).f2⟩ : S36)]) false (wrap64 ((t539.length : Int) - 3)) (wrap64 (x11_1 + 1))) else (none))) else (none)) else (none)) else (if 0 ≤ x11_1 then (if x11_1 < (l1.length : Int) then ((quoinref26_lined.f kj12 a0 ((rd_T36 l1 x11_1).f0) ((rd_T36 l1 x11_1).f1) ((rd_T36 l1 x11_1).f2)).bind fun t555 => (if t555 = true then (if 0 ≤ (wrap64 ((x8_1.length : Int) - 1)) then (if (wrap64 ((x8_1.length : Int) - 1)) < (x8_1.length : Int) then ((quoinref26_number.f kj12 (⟨#[115, 101, 109, 105]⟩ : ByteArray)).bind fun t557 => (if x8_1.length < 5864062014805 then (quoinref26_Insert.l0 kj12 a0 l1 (x8_1 ++ [(⟨t557, (rd_T36 x8_1 (wrap64 ((x8_1.length : Int) - 1))).f2, (rd_T36 x8_1 (wrap64 ((x8_1.length : Int) - 1))).f2⟩ : S36)]) false (wrap64 ((t539.length : Int) - 3)) (wrap64 (x11_1 + 1))) else (none))) else (none)) else (none)) else (quoinref26_Insert.l0 kj12 a0 l1 x8_1 true (wrap64 ((t539.length : Int) - 3)) (wrap64 (x11_1 + 1))))) else (none)) else (none))) = some (r1, r2) := by rw [if_pos rfl] at H; exact H
         clear H
         have H := H1
         clear H1
         by_cases c24 : x11_1 = (l1.length : Int)
         ·rw [if_pos c24] at H
          have c24b0 := e1 c24
          have c24b1 := e2 c24
          clear c24
          obtain ⟨ji25, hji25⟩ : ∃ j_ : Int, (wrap64 ((x8_1.length : Int) - 1)) = j_ := ⟨_, rfl⟩
          replace H : (if 0 ≤ (ji25) then (if (ji25) < (x8_1.length : Int) then ((quoinref26_number.f kj12 (⟨#[115, 101, 109, 105]⟩ : ByteArray)).bind fun t550 => (if x8_1.length < 5864062014805 then (quoinref26_Insert.l0 kj12 a0 l1 (x8_1 ++ [(⟨t550, (rd_T36 x8_1 (ji25)).f2, (rd_T36 x8_1 (ji25)).f2⟩ : S36)]) false (wrap64 ((t539.length : Int) - 3)) (wrap64 (x11_1 + 1))) else (none))) else (none)) else (none)) = some (r1, r2) := by first | (rw [hji25] at H; exact H) | (simp only [hji25] at H ⊢; exact H)
          have hji25w : (IntKind.i64.wrap ((x8_1.length : Int) - 1)) = ji25 := (i64_w _).trans hji25
          by_cases c26 : 0 ≤ (ji25)
          ·rw [if_pos c26] at H
           have c26b0 := decide_eq_true c26
           clear c26
           by_cases c27 : (ji25) < (x8_1.length : Int)
           ·rw [if_pos c27] at H
            have c27b0 := decide_eq_true c27
            clear c27
            replace H := Option.bind_eq_some_iff.mp H
            obtain ⟨t550, A280, H⟩ := H
            replace H : (if x8_1.length < 5864062014805 then (quoinref26_Insert.l0 kj12 a0 l1 (x8_1 ++ [(⟨t550, (rd_T36 x8_1 (ji25)).f2, (rd_T36 x8_1 (ji25)).f2⟩ : S36)]) false (wrap64 ((t539.length : Int) - 3)) (wrap64 (x11_1 + 1))) else (none)) = some (r1, r2) := H
            have A28 := Aside0.mk A280
            clear A280
            by_cases c29 : x8_1.length < 5864062014805
            ·rw [if_pos c29] at H
             have LMc29 := Aside0.mk c29
             clear c29
             obtain ⟨y551, hy551⟩ : ∃ y_ : List (S36), y_ = (x8_1 ++ [(⟨t550, (rd_T36 x8_1 (ji25)).f2, (rd_T36 x8_1 (ji25)).f2⟩ : S36)]) := ⟨_, rfl⟩
             replace H : (quoinref26_Insert.l0 kj12 a0 l1 y551 false (wrap64 ((t539.length : Int) - 3)) (wrap64 (x11_1 + 1))) = some (r1, r2) := by first | (rw [hy551]; with_reducible exact H) | (have H2_ := (Option.bind_some _ _).symm.trans H; rw [hy551]; with_reducible exact H2_) | (have H2_ := (Option.bind_some _ _).symm.trans H; with_reducible exact H2_) | with_reducible exact H | (rw [hy551]; exact H) | exact H
             have Ny551 := Aside0.mk hy551
             clear hy551
             have H' := Aside0.mk H
             clear H
             obtain ⟨Ao30, co30, eo30⟩ := Kd.R_slice HO_8.out
             subst eo30
             have p549 : 0 ≤ ((ji25) : Int) := of_decide_eq_true Z3
             have q549 : (ji25) < (x8_1.length : Int) := of_decide_eq_true Z3
             obtain ⟨ad549, e549, hx549_0, hx549_1, hx549_2⟩ := at_T36 (Kd.R_reads' HO_8.out).2.2 (ji25) p549 q549
             cases e549
             replace p549 := eq_true p549
             replace q549 := eq_true q549
             go_wp2_with (first | (refine gR (some 80) Try.func39 (quoinref26_number.calls A28.out) (h := ?_); rintro w31 hb; replace HO_8 := Aside0.mk (Kd.R_below (kK HO_8) hb); replace HB := Aside0.mk (below_step zB hb); (try clear hb); (try clear hb2); (try clear hk); (try clear hi)) | ((with_reducible refine gate_builtin (b := .append) (xs := #[.tmp 79, .tmp 84]) rfl ?_); (try (refine gate_guard Z67 ?_; dsimp only)); at_builtin; refine Kd.R_append k36 (w0 := w) w.heap.size rfl (.tmp 79) (.tmp 84) 22 36 (.agg #[(.int .i64 0), (.int .i64 0), (.int .i64 0)]) 24 rfl Try.underlying22 info36 rfl Z43 Z57 (.slice (some ad549) x8_1.length co30) x8_1 (⟨t550, (rd_T36 x8_1 (ji25)).f2, (rd_T36 x8_1 (ji25)).f2⟩ : S36) [.int .i64 t550, .int .i64 ((rd_T36 x8_1 (ji25)).f2), .int .i64 ((rd_T36 x8_1 (ji25)).f2)] (fun _ => True) (fun _ => False) rfl rfl ?aP (fun _ hk => hk.elim) ?aF ?aO ?aB ?aS ?aL ?_; (case aP => exact k36_mkM _ _ _ (⟨t550, (rd_T36 x8_1 (ji25)).f2, (rd_T36 x8_1 (ji25)).f2⟩ : S36)); (case aB => exact zB); (case aF => exact (fun _ _ => trivial)); (case aO => exact (kK HO_8)); (case aS => exact (below_size zB)); (case aL => have := LMc29.out; omega); intro v552 w32 ho hb hg hat; rw [← Ny551.out] at ho; have n0_ := Aside0.mk (hb); have n1_ := Aside0.mk (ho); clear HB; clear HO_8; have HB := n0_; have HO553 := n1_; clear n0_ n1_; clear ho hb hg hat))
             go_roundg kj12
             case measure => have := HK1.out; have := HJ12.out; omega
             case rel => exact ⟨(y551), (false), (wrap64 (x11_1 + 1)), Z1, Z1, H', ⟨by have := HK1.out; have := HJ12.out; omega⟩, ⟨by (with_reducible repeat (first | apply Kd.R_alloc | apply Kd.R_drewN | apply Kd.R_drew)); exact HO553.out⟩, ⟨Z0⟩⟩
            ·rw [if_neg c29] at H
             exact absurd H Z61
           ·rw [if_neg c27] at H
            exact absurd H Z61
          ·rw [if_neg c26] at H
           exact absurd H Z61
         ·rw [if_neg c24] at H
          have c24b0 := e3 c24
          have c24b1 := e4 c24
          by_cases c33 : 0 ≤ x11_1
          ·rw [if_pos c33] at H
           have c33b0 := decide_eq_true c33
           clear c33
           by_cases c34 : x11_1 < (l1.length : Int)
           ·rw [if_pos c34] at H
            have c34b0 := decide_eq_true c34
            clear c34
            replace H := Option.bind_eq_some_iff.mp H
            obtain ⟨t555, A350, H⟩ := H
            replace H : (if t555 = true then (if 0 ≤ (wrap64 ((x8_1.length : Int) - 1)) then (if (wrap64 ((x8_1.length : Int) - 1)) < (x8_1.length : Int) then ((quoinref26_number.f kj12 (⟨#[115, 101, 109, 105]⟩ : ByteArray)).bind fun t557 => (if x8_1.length < 5864062014805 then (quoinref26_Insert.l0 kj12 a0 l1 (x8_1 ++ [(⟨t557, (rd_T36 x8_1 (wrap64 ((x8_1.length : Int) - 1))).f2, (rd_T36 x8_1 (wrap64 ((x8_1.length : Int) - 1))).f2⟩ : S36)]) false (wrap64 ((t539.length : Int) - 3)) (wrap64 (x11_1 + 1))) else (none))) else (none)) else (none)) else (quoinref26_Insert.l0 kj12 a0 l1 x8_1 true (wrap64 ((t539.length : Int) - 3)) (wrap64 (x11_1 + 1)))) = some (r1, r2) := H
            have A35 := Aside0.mk A350
            clear A350
            by_cases c36 : t555 = true
            ·subst c36
             have H1 : (if 0 ≤ (wrap64 ((x8_1.length : Int) - 1)) then (if (wrap64 ((x8_1.length : Int) - 1)) < (x8_1.length : Int) then ((quoinref26_number.f kj12 (⟨#[115, 101, 109, 105]⟩ : ByteArray)).bind fun t557 => (if x8_1.length < 5864062014805 then (quoinref26_Insert.l0 kj12 a0 l1 (x8_1 ++ [(⟨t557, (rd_T36 x8_1 (wrap64 ((x8_1.length : Int) - 1))).f2, (rd_T36 x8_1 (wrap64 ((x8_1.length : Int) - 1))).f2⟩ : S36)]) false (wrap64 ((t539.length : Int) - 3)) (wrap64 (x11_1 + 1))) else (none))) else (none)) else (none)) = some (r1, r2) := by rw [if_pos rfl] at H; exact H
             clear H
             have H := H1
             clear H1
             obtain ⟨ji37, hji37⟩ : ∃ j_ : Int, (wrap64 ((x8_1.length : Int) - 1)) = j_ := ⟨_, rfl⟩
             replace H : (if 0 ≤ (ji37) then (if (ji37) < (x8_1.length : Int) then ((quoinref26_number.f kj12 (⟨#[115, 101, 109, 105]⟩ : ByteArray)).bind fun t557 => (if x8_1.length < 5864062014805 then (quoinref26_Insert.l0 kj12 a0 l1 (x8_1 ++ [(⟨t557, (rd_T36 x8_1 (ji37)).f2, (rd_T36 x8_1 (ji37)).f2⟩ : S36)]) false (wrap64 ((t539.length : Int) - 3)) (wrap64 (x11_1 + 1))) else (none))) else (none)) else (none)) = some (r1, r2) := by first | (rw [hji37] at H; exact H) | (simp only [hji37] at H ⊢; exact H)
             (try rw [hji37] at A35)
             have hji37w : (IntKind.i64.wrap ((x8_1.length : Int) - 1)) = ji37 := (i64_w _).trans hji37
             by_cases c38 : 0 ≤ (ji37)
             ·rw [if_pos c38] at H
              have c38b0 := decide_eq_true c38
              clear c38
              by_cases c39 : (ji37) < (x8_1.length : Int)
              ·rw [if_pos c39] at H
               have c39b0 := decide_eq_true c39
               clear c39
               replace H := Option.bind_eq_some_iff.mp H
               obtain ⟨t557, A400, H⟩ := H
               replace H : (if x8_1.length < 5864062014805 then (quoinref26_Insert.l0 kj12 a0 l1 (x8_1 ++ [(⟨t557, (rd_T36 x8_1 (ji37)).f2, (rd_T36 x8_1 (ji37)).f2⟩ : S36)]) false (wrap64 ((t539.length : Int) - 3)) (wrap64 (x11_1 + 1))) else (none)) = some (r1, r2) := H
               have A40 := Aside0.mk A400
               clear A400
               by_cases c41 : x8_1.length < 5864062014805
               ·rw [if_pos c41] at H
                have LMc41 := Aside0.mk c41
                clear c41
                obtain ⟨y558, hy558⟩ : ∃ y_ : List (S36), y_ = (x8_1 ++ [(⟨t557, (rd_T36 x8_1 (ji37)).f2, (rd_T36 x8_1 (ji37)).f2⟩ : S36)]) := ⟨_, rfl⟩
                replace H : (quoinref26_Insert.l0 kj12 a0 l1 y558 false (wrap64 ((t539.length : Int) - 3)) (wrap64 (x11_1 + 1))) = some (r1, r2) := by first | (rw [hy558]; with_reducible exact H) | (have H2_ := (Option.bind_some _ _).symm.trans H; rw [hy558]; with_reducible exact H2_) | (have H2_ := (Option.bind_some _ _).symm.trans H; with_reducible exact H2_) | with_reducible exact H | (rw [hy558]; exact H) | exact H
                have Ny558 := Aside0.mk hy558
                clear hy558
                have H' := Aside0.mk H
                clear H
                have p554 : 0 ≤ (x11_1 : Int) := of_decide_eq_true Z3
                have q554 : x11_1 < (l1.length : Int) := of_decide_eq_true Z3
                obtain ⟨ad554, e554, hx554_0, hx554_1, hx554_2⟩ := at_T36 HR1.out x11_1 p554 q554
                cases e554
                replace hx554_0 := (HB.out.cell (World.block_lt_of_cell? w _ hx554_0)).trans hx554_0
                replace hx554_1 := (HB.out.cell (World.block_lt_of_cell? w _ hx554_1)).trans hx554_1
                replace hx554_2 := (HB.out.cell (World.block_lt_of_cell? w _ hx554_2)).trans hx554_2
                replace p554 := eq_true p554
                replace q554 := eq_true q554
                go_wp2_with (first | (go_at_call 38; (with_reducible refine (quoinref26_lined.calls A35.out).mono ?_); rintro e w42 ⟨rfl, hb⟩; replace HO_8 := Aside0.mk (Kd.R_below (kK HO_8) hb); replace HB := Aside0.mk (below_step zB hb); (try clear hb); (try clear hb2); (try clear hk); (try clear hi); obtain ⟨Ao43, co43, eo43⟩ := Kd.R_slice HO_8.out; subst eo43; have p556 : 0 ≤ ((ji37) : Int) := of_decide_eq_true Z3; have q556 : (ji37) < (x8_1.length : Int) := of_decide_eq_true Z3; obtain ⟨ad556, e556, hx556_0, hx556_1, hx556_2⟩ := at_T36 (Kd.R_reads' HO_8.out).2.2 (ji37) p556 q556; cases e556; replace p556 := eq_true p556; replace q556 := eq_true q556) | (refine gR (some 80) Try.func39 (quoinref26_number.calls A40.out) (h := ?_); rintro w44 hb; replace HO_8 := Aside0.mk (Kd.R_below (kK HO_8) hb); replace HB := Aside0.mk (below_step zB hb); (try clear hb); (try clear hb2); (try clear hk); (try clear hi)) | ((with_reducible refine gate_builtin (b := .append) (xs := #[.tmp 79, .tmp 84]) rfl ?_); (try (refine gate_guard Z67 ?_; dsimp only)); at_builtin; refine Kd.R_append k36 (w0 := w) w.heap.size rfl (.tmp 79) (.tmp 84) 22 36 (.agg #[(.int .i64 0), (.int .i64 0), (.int .i64 0)]) 24 rfl Try.underlying22 info36 rfl Z43 Z57 (.slice (some ad556) x8_1.length co43) x8_1 (⟨t557, (rd_T36 x8_1 (ji37)).f2, (rd_T36 x8_1 (ji37)).f2⟩ : S36) [.int .i64 t557, .int .i64 ((rd_T36 x8_1 (ji37)).f2), .int .i64 ((rd_T36 x8_1 (ji37)).f2)] (fun _ => True) (fun _ => False) rfl rfl ?aP (fun _ hk => hk.elim) ?aF ?aO ?aB ?aS ?aL ?_; (case aP => exact k36_mkM _ _ _ (⟨t557, (rd_T36 x8_1 (ji37)).f2, (rd_T36 x8_1 (ji37)).f2⟩ : S36)); (case aB => exact zB); (case aF => exact (fun _ _ => trivial)); (case aO => exact (kK HO_8)); (case aS => exact (below_size zB)); (case aL => have := LMc41.out; omega); intro v559 w45 ho hb hg hat; rw [← Ny558.out] at ho; have n0_ := Aside0.mk (hb); have n1_ := Aside0.mk (ho); clear HB; clear HO_8; have HB := n0_; have HO560 := n1_; clear n0_ n1_; clear ho hb hg hat))
                go_roundg kj12
                case measure => have := HK1.out; have := HJ12.out; omega
                case rel => exact ⟨(y558), (false), (wrap64 (x11_1 + 1)), Z1, Z1, H', ⟨by have := HK1.out; have := HJ12.out; omega⟩, ⟨by (with_reducible repeat (first | apply Kd.R_alloc | apply Kd.R_drewN | apply Kd.R_drew)); exact HO560.out⟩, ⟨Z0⟩⟩
               ·rw [if_neg c41] at H
                exact absurd H Z61
              ·rw [if_neg c39] at H
               exact absurd H Z61
             ·rw [if_neg c38] at H
              exact absurd H Z61
            ·replace c36 := Bool.eq_false_iff.mpr c36
             subst c36
             have H1 : (quoinref26_Insert.l0 kj12 a0 l1 x8_1 true (wrap64 ((t539.length : Int) - 3)) (wrap64 (x11_1 + 1))) = some (r1, r2) := by rw [if_neg (show ¬ (false = true) by decide)] at H; exact H
             clear H
             have H := H1
             clear H1
             have H' := Aside0.mk H
             clear H
             have p554 : 0 ≤ (x11_1 : Int) := of_decide_eq_true Z3
             have q554 : x11_1 < (l1.length : Int) := of_decide_eq_true Z3
             obtain ⟨ad554, e554, hx554_0, hx554_1, hx554_2⟩ := at_T36 HR1.out x11_1 p554 q554
             cases e554
             replace hx554_0 := (HB.out.cell (World.block_lt_of_cell? w _ hx554_0)).trans hx554_0
             replace hx554_1 := (HB.out.cell (World.block_lt_of_cell? w _ hx554_1)).trans hx554_1
             replace hx554_2 := (HB.out.cell (World.block_lt_of_cell? w _ hx554_2)).trans hx554_2
             replace p554 := eq_true p554
             replace q554 := eq_true q554
             go_wp2_with (first | (go_at_call 38; (with_reducible refine (quoinref26_lined.calls A35.out).mono ?_); rintro e w46 ⟨rfl, hb⟩; replace HO_8 := Aside0.mk (Kd.R_below (kK HO_8) hb); replace HB := Aside0.mk (below_step zB hb); (try clear hb); (try clear hb2); (try clear hk); (try clear hi)))
             go_roundg kj12
             case measure => have := HK1.out; have := HJ12.out; omega
             case rel => exact ⟨(x8_1), (true), (wrap64 (x11_1 + 1)), Z1, Z1, H', ⟨by have := HK1.out; have := HJ12.out; omega⟩, ⟨Z62⟩, ⟨Z0⟩⟩
           ·rw [if_neg c34] at H
            exact absurd H Z61
          ·rw [if_neg c33] at H
           exact absurd H Z61
        ·replace c23 := Bool.eq_false_iff.mpr c23
         subst c23
         have H1 : (quoinref26_Insert.l0 kj12 a0 l1 x8_1 false (wrap64 ((t539.length : Int) - 3)) (wrap64 (x11_1 + 1))) = some (r1, r2) := by rw [if_neg (show ¬ (false = true) by decide)] at H; exact H
         clear H
         have H := H1
         clear H1
         have H' := Aside0.mk H
         clear H
         go_wp2
         go_roundg kj12
         case measure => have := HK1.out; have := HJ12.out; omega
         case rel => exact ⟨(x8_1), (false), (wrap64 (x11_1 + 1)), Z1, Z1, H', ⟨by have := HK1.out; have := HJ12.out; omega⟩, ⟨Z62⟩, ⟨Z0⟩⟩
    ·rw [if_neg c12] at H
     have c12b0 := decide_eq_false c12
     clear c12
     by_cases c47 : (x8_1.length : Int) > 65536
     ·rw [if_pos c47] at H
      have c47b0 : decide (65536 < (x8_1.length : Int)) = true := decide_eq_true c47
      have c47b1 : decide (65536 < x8_1.length) = true := decide_eq_true Z57
      clear c47
      simp only [Option.some.injEq, Prod.mk.injEq] at H
      obtain ⟨rfl, rfl⟩ := H
      obtain ⟨Ao48, co48, eo48⟩ := Kd.R_slice HO_8.out
      subst eo48
      go_wp2
      go_ret2
      exact ⟨_, Z2, Z10, Z0⟩
     ·rw [if_neg c47] at H
      have c47b0 : decide (65536 < (x8_1.length : Int)) = false := decide_eq_false c47
      have c47b1 : decide (65536 < x8_1.length) = false := decide_eq_false Z57
      clear c47
      simp only [Option.some.injEq, Prod.mk.injEq] at H
      obtain ⟨rfl, rfl⟩ := H
      obtain ⟨Ao49, co49, eo49⟩ := Kd.R_slice HO_8.out
      subst eo49
      go_wp2
      go_ret2
      exact ⟨_, Z2, Z62, Z0⟩
 ·rw [if_neg c5] at H
  have c5b0 := e3 c5
  have c5b1 := e4 c5
  simp only [Option.some.injEq, Prod.mk.injEq] at H
  obtain ⟨rfl, rfl⟩ := H
  go_enter Try.func14, Try.ntmps14
  go_wp2_with (first | (refine gQ (some 14) Try.func18 (quoinref26_Kinds.calls A3.out) (h := ?_); rintro v535 w50 ⟨ho0, hb⟩; have HO536 := Aside0.mk (Kd.R_lower ho0 (below_size zB)); replace HB := Aside0.mk (below_step zB hb); (try clear hb); (try clear hb2); (try clear hk); (try clear hi); (try clear ho0); obtain ⟨Ao51, co51, eo51⟩ := Kd.R_slice HO536.out; subst eo51) | (refine gL (some 17) Try.func37 #[.slice Ao51 t534.length co51, .string a0, .slice A1 l1.length c1] (h := ?_); (with_reducible refine (quoinref07_Check.calls k _ _ t534 a0 _ _ l1 t537 t538 _ ?side1 ?side2 ?side3 ?side4 A4.out).mono ?_); (case side1 => repeat (first | exact (Kd.R_reads' HO536.out).2.2 | (with_reducible refine Kd.C_alloc ?_ _) | (with_reducible refine Kd.C_drewN ?_ _) | (with_reducible refine Kd.C_drew ?_))); (case side2 => exact (Kd.R_reads' HO536.out).2.1); (case side3 => repeat (first | exact (Kd.C_below HR1.out HB.out) | (with_reducible refine Kd.C_alloc ?_ _) | (with_reducible refine Kd.C_drewN ?_ _) | (with_reducible refine Kd.C_drew ?_))); (case side4 => exact HC1.out); rintro e w52 ⟨rfl, hb⟩; refine ⟨_, rfl, ?_⟩; replace HO536 := Aside0.mk (Kd.R_below (kK HO536) hb); replace HB := Aside0.mk (below_step zB hb); (try clear hb); (try clear hb2); (try clear hk); (try clear hi)))
  go_ret2
  exact ⟨_, Z2, Z10, Z0⟩
end Go.Proofs.Ytcajiapjdlphmaa.H
