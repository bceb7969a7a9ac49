import Derived.Test.YtaccleilcdfapaaGreatPPre
import Derived.Test.YtaccleilcdfapaaGreatPax13
import Derived.Test.YtaccleilcdfapaaGreatPax5
import Derived.Test.YtaccleilcdfapaaGreatPax9
namespace Go.Proofs.YtaccleilcdfapaaGreat.G
open Go.RowKit Go.Proofs.YtaccleilcdfapaaGreatW.PrintWords Go.Proofs.YtaccleilcdfapaaGreatW.PrintLast Go.Proofs.YtaccleilcdfapaaGreatW.PrintMore
attribute [local go_sem] dJ dH dT dS da cZ dI dG
set_option linter.unusedVariables false
set_option maxHeartbeats 8000000
set_option maxRecDepth 100000
set_option linter.unusedSimpArgs false
def aG.j0 : Nat → Bool → Int → Bool → Int → List (S51) → List (S25) → Option (Bool)
 | 0, _, _, _, _, _, _ => none
 | k + 1, x3, x4, x5, x986000, x986001, x986002 => (bj.f k x986000 x986001 x986002).bind fun t989 => (if (t989 == x3) = true then ((fh.f k x986000 x986001 x986002).bind fun t990 => (if t990 = x4 then ((dK.f k x986000 x986001 x986002).bind fun t991 => (if (t991 == x5) = true then ((ay.f k).bind fun t992 => (some t992)) else (some false))) else (some false))) else (some false))
def aG.f (k : Nat) (a0_0 : Int) (l0_1 : List (S51)) (l0_2 : List (S25)) : Option (Bool) := (cT.f k a0_0 l0_1 l0_2).bind fun t986 => (if t986 = true then ((aZ.f k a0_0 l0_1 l0_2).bind fun t987 => ((aA.f k a0_0 l0_1 l0_2).bind fun t988 => (aG.j0 k t986 t987 t988 a0_0 l0_1 l0_2))) else (aG.j0 k t986 0 false a0_0 l0_1 l0_2))
theorem aG.calls (k : Nat) (a0_0 : Int) (A0_1 : Option Addr) (c0_1 : Nat) (l0_1 : List (S51)) (A0_2 : Option Addr) (c0_2 : Nat) (l0_2 : List (S25)) (r : Bool) (w : World) (hr0_1 : Kd.C k51 w A0_1 l0_1.length l0_1) (hc0_1 : l0_1.length ≤ c0_1) (hr0_2 : Kd.C k25 w A0_2 l0_2.length l0_2) (hc0_2 : l0_2.length ≤ c0_2) (h : aG.f k a0_0 l0_1 l0_2 = some r) :
  Calls Tryz.prog 4 #[.agg #[.int .i64 a0_0, .slice A0_1 l0_1.length c0_1, .slice A0_2 l0_2.length c0_2]] w fun e w' => e = .returned (.bool r) ∧ Below w.heap.size w w' := by
 have hu25 := Tryz.underlying25
 have HR0_1 := gz hr0_1
 have HC0_1 := gz hc0_1
 clear hr0_1 hc0_1
 have HR0_2 := gz hr0_2
 have HC0_2 := gz hc0_2
 clear hr0_2 hc0_2
 have HB := gz (Below.refl w.heap.size w)
 have H : ((cT.f k a0_0 l0_1 l0_2).bind fun t986 => (if t986 = true then ((aZ.f k a0_0 l0_1 l0_2).bind fun t987 => ((aA.f k a0_0 l0_1 l0_2).bind fun t988 => (aG.j0 k t986 t987 t988 a0_0 l0_1 l0_2))) else (aG.j0 k t986 0 false a0_0 l0_1 l0_2))) = some r := h
 clear h
 replace H := bS H
 obtain ⟨t986, A2, H⟩ := H
 try dsimp only at H
 have HC3 := gz H
 clear H
 go_enter Tryz.func4, Tryz.ntmps4
 go_upto_if 8 with (first | ((with_reducible refine bT (N := 1) rfl ?_); refine cA ?hg (N := 1) ?hd (cs := #[.int .i64 a0_0, .slice A0_1 l0_1.length c0_1, .slice A0_2 l0_2.length c0_2]) (t := 25) ?hr ?_; (case hd => rfl); (case hg => rfl); (case hr => first | (go_simp; done) | (go_simp; rfl)); intro gb985 hg w4 hbox hb; have BK985 := gz (hbox); have GW985 := gE hg zB; have GE985 := gE hg zB; replace HB := gz (ai zB hb); clear hb hbox hg; have hcz5_0 := bC BK985 0 (.int .i64 a0_0); have hcz5_1 := bC BK985 1 (.slice A0_1 l0_1.length c0_1); have hcz5_2 := bC BK985 2 (.slice A0_2 l0_2.length c0_2); have hfz5_0 := ag BK985.out 0; have hfz5_1 := ag BK985.out 1; have hfz5_2 := ag BK985.out 2) | ((with_reducible refine gC 6 rfl ?_); refine bA (some 7) rfl rfl Tryz.func6 Z5 rfl #[.agg #[.int .i64 a0_0, .slice A0_1 l0_1.length c0_1, .slice A0_2 l0_2.length c0_2]] rfl Z1 ?_; (with_reducible refine (cT.calls k a0_0 _ _ l0_1 _ _ l0_2 t986 _ ?side1 ?side2 ?side3 ?side4 A2.out).mono ?_); (case side1 => repeat (first | exact (Kd.C_below HR0_1.out HB.out) | (with_reducible refine Kd.C_alloc ?_ _) | (with_reducible refine Kd.C_drewN ?_ _) | (with_reducible refine Kd.C_drew ?_))); (case side2 => exact HC0_1.out); (case side3 => repeat (first | exact (Kd.C_below HR0_2.out HB.out) | (with_reducible refine Kd.C_alloc ?_ _) | (with_reducible refine Kd.C_drewN ?_ _) | (with_reducible refine Kd.C_drew ?_))); (case side4 => exact HC0_2.out); rintro e w6 ⟨rfl, hb⟩; refine ⟨_, rfl, ?_⟩; replace BK985 := gz (aq (g := gb985) (o := .cells #[.int .i64 a0_0, .slice A0_1 l0_1.length c0_1, .slice A0_2 l0_2.length c0_2] 25 (0, 0)) (bK BK985) hb); replace HB := gz (ai zB hb); (try clear hb); (try clear hb2); (try clear hk); (try clear hi)))
 (try simp only [Act.put, List.setIfInBounds_toArray, List.set_cons_zero, List.set_cons_succ])
 go_cut [4, 5] (fun v4 v5 wc => ∃ (kq : Nat) (x4_2 : Int) (x5_2 : Bool), v4 = .int .i64 x4_2 ∧ v5 = .bool x5_2 ∧ aa (aG.j0 kq t986 x4_2 x5_2 a0_0 l0_1 l0_2 = some r) ∧ aa (kq ≤ k) ∧ aa (wc.heap[gb985]? = some (.cells #[.int .i64 a0_0, (.slice A0_1 l0_1.length c0_1), (.slice A0_2 l0_2.length c0_2)] 25 (0, 0))) ∧ aa (Below w.heap.size w wc))
 case first =>
  have H := HC3.out
  clear HC3
  by_cases c7 : t986 = true
  ·subst c7
   have H1 : ((aZ.f k a0_0 l0_1 l0_2).bind fun t987 => ((aA.f k a0_0 l0_1 l0_2).bind fun t988 => (aG.j0 k true t987 t988 a0_0 l0_1 l0_2))) = some r := by rw [if_pos rfl] at H; exact H
   clear H
   have H := H1
   clear H1
   replace H := bS H
   obtain ⟨t987, A8, H⟩ := H
   try dsimp only at H
   replace H := bS H
   obtain ⟨t988, A9, H⟩ := H
   try dsimp only at H
   have H' := gz H
   clear H
   try go_wp2
   replace BK985 := gz (aV BK985.out)
   replace HB := gz (aW HB.out)
   refine fV (n := 6) (S := fun w' => w'.cell? ⟨gb985, 0, none⟩ = some (.int .i64 a0_0) ∧ w'.cell? ⟨gb985, 1, none⟩ = some (.slice A0_1 l0_1.length c0_1) ∧ w'.cell? ⟨gb985, 2, none⟩ = some (.slice A0_2 l0_2.length c0_2)) (ds := []) #[false, false, false, false, false, false] Z5 rfl rfl ⟨(ah BK985.out 0).trans rfl, (ah BK985.out 1).trans rfl, (ah BK985.out 2).trans rfl⟩ (fun hHeld => ?_)
   generalize w6.drew = w10 at BK985 HB hHeld ⊢
   refine take_ (i := 0) (N := some 9) (v := ?_) (a' := ?_) #[true, false, false, false, false, false] rfl rfl Z5 (fun _ _ _ h => h) (Or.inl ⟨by rfl, ?_⟩) hHeld ?_ ?_
   rotate_left
   ·rintro w' ⟨s0, s1, s2⟩
    go_simp
    with_reducible rfl
   rotate_left
   ·simp only [Act.put, List.setIfInBounds_toArray, List.set_cons_zero, List.set_cons_succ, dc, dC]
    rfl
   refine take_ (i := 2) (N := some 11) (v := ?_) (a' := ?_) #[true, false, true, false, false, false] rfl rfl Z5 (fun _ _ _ h => h) (Or.inl ⟨by rfl, ?_⟩) hHeld ?_ ?_
   rotate_left
   ·rintro w' ⟨s0, s1, s2⟩
    go_simp
    with_reducible rfl
   rotate_left
   ·simp only [Act.put, List.setIfInBounds_toArray, List.set_cons_zero, List.set_cons_succ, dc, dC]
    rfl
   refine oN 1 (some 10) (hc := Z5) (h := fun K hK => ?_)
   refine goes_ Tryz.func10 Z5 rfl #[.agg #[.int .i64 a0_0, .slice A0_1 l0_1.length c0_1, .slice A0_2 l0_2.length c0_2]] (by rfl) rfl rfl Z1 ?_
   with_reducible refine (aZ.calls k a0_0 _ _ l0_1 _ _ l0_2 t987 _ ?side1 ?side2 ?side3 ?side4 A8.out).mono ?_
   (case side1 => repeat (first | exact (Kd.C_below HR0_1.out HB.out) | (with_reducible refine Kd.C_alloc ?_ _) | (with_reducible refine Kd.C_drewN ?_ _) | (with_reducible refine Kd.C_drew ?_)))
   (case side2 => exact HC0_1.out)
   (case side3 => repeat (first | exact (Kd.C_below HR0_2.out HB.out) | (with_reducible refine Kd.C_alloc ?_ _) | (with_reducible refine Kd.C_drewN ?_ _) | (with_reducible refine Kd.C_drew ?_)))
   (case side4 => exact HC0_2.out)
   rintro e w11 ⟨rfl, hb⟩
   refine ⟨_, rfl, ?_⟩
   replace BK985 := gz (aq (g := gb985) (o := .cells #[.int .i64 a0_0, .slice A0_1 l0_1.length c0_1, .slice A0_2 l0_2.length c0_2] 25 (0, 0)) (bK BK985) hb)
   replace HB := gz (ai zB hb)
   (try clear hb)
   (try clear hb2)
   (try clear hk)
   (try clear hi)
   refine hK.out _ _ ⟨(ah BK985.out 0).trans rfl, (ah BK985.out 1).trans rfl, (ah BK985.out 2).trans rfl⟩ (fun hHeld => ?_)
   clear hK K
   refine nO 10 (h := ?_)
   refine oN 3 (some 12) (hc := Z5) (h := fun K hK => ?_)
   refine goes_ Tryz.func11 Z5 rfl #[.agg #[.int .i64 a0_0, .slice A0_1 l0_1.length c0_1, .slice A0_2 l0_2.length c0_2]] (by rfl) rfl rfl Z1 ?_
   with_reducible refine (aA.calls k a0_0 _ _ l0_1 _ _ l0_2 t988 _ ?side1 ?side2 ?side3 ?side4 A9.out).mono ?_
   (case side1 => repeat (first | exact (Kd.C_below HR0_1.out HB.out) | (with_reducible refine Kd.C_alloc ?_ _) | (with_reducible refine Kd.C_drewN ?_ _) | (with_reducible refine Kd.C_drew ?_)))
   (case side2 => exact HC0_1.out)
   (case side3 => repeat (first | exact (Kd.C_below HR0_2.out HB.out) | (with_reducible refine Kd.C_alloc ?_ _) | (with_reducible refine Kd.C_drewN ?_ _) | (with_reducible refine Kd.C_drew ?_)))
   (case side4 => exact HC0_2.out)
   rintro e w12 ⟨rfl, hb⟩
   refine ⟨_, rfl, ?_⟩
   replace BK985 := gz (aq (g := gb985) (o := .cells #[.int .i64 a0_0, .slice A0_1 l0_1.length c0_1, .slice A0_2 l0_2.length c0_2] 25 (0, 0)) (bK BK985) hb)
   replace HB := gz (ai zB hb)
   (try clear hb)
   (try clear hb2)
   (try clear hk)
   (try clear hi)
   refine hK.out _ _ ⟨(ah BK985.out 0).trans rfl, (ah BK985.out 1).trans rfl, (ah BK985.out 2).trans rfl⟩ (fun hHeld => ?_)
   clear hK K
   refine nO 12 (h := ?_)
   refine pU 4 4 (hc := Z5) (h := ?_)
   refine pU 5 5 (hc := Z5) (h := ?_)
   refine done_ Z5 ?_
   try go_wp2
   go_meet
   case rel => exact ⟨_, (t987), (t988), Z2, Z2, H', ⟨by first | omega | exact Nat.le_refl _⟩, ⟨by (with_reducible repeat (first | refine aJ ?_ _ | refine aV ?_ | refine ax ?_ _)); exact BK985.out⟩, ⟨Z0⟩⟩
  ·replace c7 := Bool.eq_false_iff.mpr c7
   subst c7
   have H1 : (aG.j0 k false 0 false a0_0 l0_1 l0_2) = some r := by rw [if_neg (show ¬ (false = true) by decide)] at H; exact H
   clear H
   have H := H1
   clear H1
   have H' := gz H
   clear H
   go_wp2
   go_meet
   case rel => exact ⟨_, (0), (false), Z2, Z2, H', ⟨by first | omega | exact Nat.le_refl _⟩, ⟨by (with_reducible repeat (first | refine aJ ?_ _ | refine aV ?_ | refine ax ?_ _)); exact BK985.out⟩, ⟨Z0⟩⟩
 case rest =>
  clear HC3
  try clear c1
  try clear p2
  try clear c4
  try clear c6
  try clear c7
  try clear c10
  try clear c11
  try clear hcz5_0
  try clear hcz5_1
  try clear hcz5_2
  try clear hfz5_0
  try clear hfz5_1
  try clear hfz5_2
  obtain ⟨kq, x4_2, x5_2, rfl, rfl, HA, HJ2, BK985, HB⟩ := hcut
  cases kq with
  | zero => exact absurd HA.out (by simp [aG.j0])
  | succ kj2 =>
   have H := HA.out
   clear HA
   simp only [aG.j0] at H
   replace H := bS H
   obtain ⟨t989, A13, H⟩ := H
   try dsimp only at H
   by_cases c14 : (t989 == t986) = true
   ·rw [if_pos c14] at H
    have c14b0 : (t989 == t986) = true := c14
    (try (have c14b1 : decide (t989 = t986) = true := by simpa using c14))
    (try (have c14b2 : (t989 == t986) = true := by simpa using c14))
    clear c14
    replace H := bS H
    obtain ⟨t990, A15, H⟩ := H
    try dsimp only at H
    by_cases c16 : t990 = x4_2
    ·rw [if_pos c16] at H
     have c16b0 := e1 c16
     have c16b1 := e2 c16
     clear c16
     replace H := bS H
     obtain ⟨t991, A17, H⟩ := H
     try dsimp only at H
     by_cases c18 : (t991 == x5_2) = true
     ·rw [if_pos c18] at H
      have c18b0 : (t991 == x5_2) = true := c18
      (try (have c18b1 : decide (t991 = x5_2) = true := by simpa using c18))
      (try (have c18b2 : (t991 == x5_2) = true := by simpa using c18))
      clear c18
      replace H := bS H
      obtain ⟨t992, A19, H⟩ := H
      try dsimp only at H
      obtain rfl := Option.some.inj H
      have hcz20_0 := bC BK985 0 (.int .i64 a0_0)
      have hcz20_1 := bC BK985 1 (.slice A0_1 l0_1.length c0_1)
      have hcz20_2 := bC BK985 2 (.slice A0_2 l0_2.length c0_2)
      have hfz20_0 := ag BK985.out 0
      have hfz20_1 := ag BK985.out 1
      have hfz20_2 := ag BK985.out 2
      go_wp2_with (first | ((with_reducible refine gC 12 rfl ?_); refine bA (some 14) rfl rfl Tryz.func12 Z5 rfl #[.agg #[.int .i64 a0_0, .slice A0_1 l0_1.length c0_1, .slice A0_2 l0_2.length c0_2]] rfl Z1 ?_; (with_reducible refine (bj.calls kj2 a0_0 _ _ l0_1 _ _ l0_2 t989 _ ?side1 ?side2 ?side3 ?side4 A13.out).mono ?_); (case side1 => repeat (first | exact (Kd.C_below HR0_1.out HB.out) | (with_reducible refine Kd.C_alloc ?_ _) | (with_reducible refine Kd.C_drewN ?_ _) | (with_reducible refine Kd.C_drew ?_))); (case side2 => exact HC0_1.out); (case side3 => repeat (first | exact (Kd.C_below HR0_2.out HB.out) | (with_reducible refine Kd.C_alloc ?_ _) | (with_reducible refine Kd.C_drewN ?_ _) | (with_reducible refine Kd.C_drew ?_))); (case side4 => exact HC0_2.out); rintro e w21 ⟨rfl, hb⟩; refine ⟨_, rfl, ?_⟩; replace BK985 := gz (aq (g := gb985) (o := .cells #[.int .i64 a0_0, .slice A0_1 l0_1.length c0_1, .slice A0_2 l0_2.length c0_2] 25 (0, 0)) (bK BK985) hb); replace HB := gz (ai zB hb); (try clear hb); (try clear hb2); (try clear hk); (try clear hi); have hcz22_0 := bC BK985 0 (.int .i64 a0_0); have hcz22_1 := bC BK985 1 (.slice A0_1 l0_1.length c0_1); have hcz22_2 := bC BK985 2 (.slice A0_2 l0_2.length c0_2); have hfz22_0 := ag BK985.out 0; have hfz22_1 := ag BK985.out 1; have hfz22_2 := ag BK985.out 2) | (go_at_call 13; (with_reducible refine (fh.calls kj2 a0_0 _ _ l0_1 _ _ l0_2 t990 _ ?side1 ?side2 ?side3 ?side4 A15.out).mono ?_); (case side1 => repeat (first | exact (Kd.C_below HR0_1.out HB.out) | (with_reducible refine Kd.C_alloc ?_ _) | (with_reducible refine Kd.C_drewN ?_ _) | (with_reducible refine Kd.C_drew ?_))); (case side2 => exact HC0_1.out); (case side3 => repeat (first | exact (Kd.C_below HR0_2.out HB.out) | (with_reducible refine Kd.C_alloc ?_ _) | (with_reducible refine Kd.C_drewN ?_ _) | (with_reducible refine Kd.C_drew ?_))); (case side4 => exact HC0_2.out); rintro e w23 ⟨rfl, hb⟩; replace BK985 := gz (aq (g := gb985) (o := .cells #[.int .i64 a0_0, .slice A0_1 l0_1.length c0_1, .slice A0_2 l0_2.length c0_2] 25 (0, 0)) (bK BK985) hb); replace HB := gz (ai zB hb); (try clear hb); (try clear hb2); (try clear hk); (try clear hi); have hcz24_0 := bC BK985 0 (.int .i64 a0_0); have hcz24_1 := bC BK985 1 (.slice A0_1 l0_1.length c0_1); have hcz24_2 := bC BK985 2 (.slice A0_2 l0_2.length c0_2); have hfz24_0 := ag BK985.out 0; have hfz24_1 := ag BK985.out 1; have hfz24_2 := ag BK985.out 2) | (go_at_call 14; (with_reducible refine (dK.calls kj2 a0_0 _ _ l0_1 _ _ l0_2 t991 _ ?side1 ?side2 ?side3 ?side4 A17.out).mono ?_); (case side1 => repeat (first | exact (Kd.C_below HR0_1.out HB.out) | (with_reducible refine Kd.C_alloc ?_ _) | (with_reducible refine Kd.C_drewN ?_ _) | (with_reducible refine Kd.C_drew ?_))); (case side2 => exact HC0_1.out); (case side3 => repeat (first | exact (Kd.C_below HR0_2.out HB.out) | (with_reducible refine Kd.C_alloc ?_ _) | (with_reducible refine Kd.C_drewN ?_ _) | (with_reducible refine Kd.C_drew ?_))); (case side4 => exact HC0_2.out); rintro e w25 ⟨rfl, hb⟩; replace BK985 := gz (aq (g := gb985) (o := .cells #[.int .i64 a0_0, .slice A0_1 l0_1.length c0_1, .slice A0_2 l0_2.length c0_2] 25 (0, 0)) (bK BK985) hb); replace HB := gz (ai zB hb); (try clear hb); (try clear hb2); (try clear hk); (try clear hi)) | (go_at_call 9; (with_reducible refine (ay.calls A19.out).mono ?_); rintro e w26 ⟨rfl, hb⟩; replace BK985 := gz (aq (g := gb985) (o := .cells #[.int .i64 a0_0, .slice A0_1 l0_1.length c0_1, .slice A0_2 l0_2.length c0_2] 25 (0, 0)) (bK BK985) hb); replace HB := gz (ai zB hb); (try clear hb); (try clear hb2); (try clear hk); (try clear hi)))
      go_ret
      exact ⟨Z3, Z0⟩
     ·rw [if_neg c18] at H
      have c18b0 : (t991 == x5_2) = false := by simpa using c18
      (try (have c18b1 : decide (t991 = x5_2) = false := by simpa using c18))
      (try (have c18b2 : (t991 == x5_2) = false := by simpa using c18))
      (try (have c18b3 : ¬ (t991 = x5_2) := by simpa using c18))
      clear c18
      obtain rfl := Option.some.inj H
      have hcz27_0 := bC BK985 0 (.int .i64 a0_0)
      have hcz27_1 := bC BK985 1 (.slice A0_1 l0_1.length c0_1)
      have hcz27_2 := bC BK985 2 (.slice A0_2 l0_2.length c0_2)
      have hfz27_0 := ag BK985.out 0
      have hfz27_1 := ag BK985.out 1
      have hfz27_2 := ag BK985.out 2
      go_wp2_with (first | ((with_reducible refine gC 12 rfl ?_); refine bA (some 14) rfl rfl Tryz.func12 Z5 rfl #[.agg #[.int .i64 a0_0, .slice A0_1 l0_1.length c0_1, .slice A0_2 l0_2.length c0_2]] rfl Z1 ?_; (with_reducible refine (bj.calls kj2 a0_0 _ _ l0_1 _ _ l0_2 t989 _ ?side1 ?side2 ?side3 ?side4 A13.out).mono ?_); (case side1 => repeat (first | exact (Kd.C_below HR0_1.out HB.out) | (with_reducible refine Kd.C_alloc ?_ _) | (with_reducible refine Kd.C_drewN ?_ _) | (with_reducible refine Kd.C_drew ?_))); (case side2 => exact HC0_1.out); (case side3 => repeat (first | exact (Kd.C_below HR0_2.out HB.out) | (with_reducible refine Kd.C_alloc ?_ _) | (with_reducible refine Kd.C_drewN ?_ _) | (with_reducible refine Kd.C_drew ?_))); (case side4 => exact HC0_2.out); rintro e w28 ⟨rfl, hb⟩; refine ⟨_, rfl, ?_⟩; replace BK985 := gz (aq (g := gb985) (o := .cells #[.int .i64 a0_0, .slice A0_1 l0_1.length c0_1, .slice A0_2 l0_2.length c0_2] 25 (0, 0)) (bK BK985) hb); replace HB := gz (ai zB hb); (try clear hb); (try clear hb2); (try clear hk); (try clear hi); have hcz29_0 := bC BK985 0 (.int .i64 a0_0); have hcz29_1 := bC BK985 1 (.slice A0_1 l0_1.length c0_1); have hcz29_2 := bC BK985 2 (.slice A0_2 l0_2.length c0_2); have hfz29_0 := ag BK985.out 0; have hfz29_1 := ag BK985.out 1; have hfz29_2 := ag BK985.out 2) | (go_at_call 13; (with_reducible refine (fh.calls kj2 a0_0 _ _ l0_1 _ _ l0_2 t990 _ ?side1 ?side2 ?side3 ?side4 A15.out).mono ?_); (case side1 => repeat (first | exact (Kd.C_below HR0_1.out HB.out) | (with_reducible refine Kd.C_alloc ?_ _) | (with_reducible refine Kd.C_drewN ?_ _) | (with_reducible refine Kd.C_drew ?_))); (case side2 => exact HC0_1.out); (case side3 => repeat (first | exact (Kd.C_below HR0_2.out HB.out) | (with_reducible refine Kd.C_alloc ?_ _) | (with_reducible refine Kd.C_drewN ?_ _) | (with_reducible refine Kd.C_drew ?_))); (case side4 => exact HC0_2.out); rintro e w30 ⟨rfl, hb⟩; replace BK985 := gz (aq (g := gb985) (o := .cells #[.int .i64 a0_0, .slice A0_1 l0_1.length c0_1, .slice A0_2 l0_2.length c0_2] 25 (0, 0)) (bK BK985) hb); replace HB := gz (ai zB hb); (try clear hb); (try clear hb2); (try clear hk); (try clear hi); have hcz31_0 := bC BK985 0 (.int .i64 a0_0); have hcz31_1 := bC BK985 1 (.slice A0_1 l0_1.length c0_1); have hcz31_2 := bC BK985 2 (.slice A0_2 l0_2.length c0_2); have hfz31_0 := ag BK985.out 0; have hfz31_1 := ag BK985.out 1; have hfz31_2 := ag BK985.out 2) | (go_at_call 14; (with_reducible refine (dK.calls kj2 a0_0 _ _ l0_1 _ _ l0_2 t991 _ ?side1 ?side2 ?side3 ?side4 A17.out).mono ?_); (case side1 => repeat (first | exact (Kd.C_below HR0_1.out HB.out) | (with_reducible refine Kd.C_alloc ?_ _) | (with_reducible refine Kd.C_drewN ?_ _) | (with_reducible refine Kd.C_drew ?_))); (case side2 => exact HC0_1.out); (case side3 => repeat (first | exact (Kd.C_below HR0_2.out HB.out) | (with_reducible refine Kd.C_alloc ?_ _) | (with_reducible refine Kd.C_drewN ?_ _) | (with_reducible refine Kd.C_drew ?_))); (case side4 => exact HC0_2.out); rintro e w32 ⟨rfl, hb⟩; replace BK985 := gz (aq (g := gb985) (o := .cells #[.int .i64 a0_0, .slice A0_1 l0_1.length c0_1, .slice A0_2 l0_2.length c0_2] 25 (0, 0)) (bK BK985) hb); replace HB := gz (ai zB hb); (try clear hb); (try clear hb2); (try clear hk); (try clear hi)))
      go_ret
      exact ⟨Z3, Z0⟩
    ·rw [if_neg c16] at H
     have c16b0 := e3 c16
     have c16b1 := e4 c16
     obtain rfl := Option.some.inj H
     have hcz33_0 := bC BK985 0 (.int .i64 a0_0)
     have hcz33_1 := bC BK985 1 (.slice A0_1 l0_1.length c0_1)
     have hcz33_2 := bC BK985 2 (.slice A0_2 l0_2.length c0_2)
     have hfz33_0 := ag BK985.out 0
     have hfz33_1 := ag BK985.out 1
     have hfz33_2 := ag BK985.out 2
     go_wp2_with (first | ((with_reducible refine gC 12 rfl ?_); refine bA (some 14) rfl rfl Tryz.func12 Z5 rfl #[.agg #[.int .i64 a0_0, .slice A0_1 l0_1.length c0_1, .slice A0_2 l0_2.length c0_2]] rfl Z1 ?_; (with_reducible refine (bj.calls kj2 a0_0 _ _ l0_1 _ _ l0_2 t989 _ ?side1 ?side2 ?side3 ?side4 A13.out).mono ?_); (case side1 => repeat (first | exact (Kd.C_below HR0_1.out HB.out) | (with_reducible refine Kd.C_alloc ?_ _) | (with_reducible refine Kd.C_drewN ?_ _) | (with_reducible refine Kd.C_drew ?_))); (case side2 => exact HC0_1.out); (case side3 => repeat (first | exact (Kd.C_below HR0_2.out HB.out) | (with_reducible refine Kd.C_alloc ?_ _) | (with_reducible refine Kd.C_drewN ?_ _) | (with_reducible refine Kd.C_drew ?_))); (case side4 => exact HC0_2.out); rintro e w34 ⟨rfl, hb⟩; refine ⟨_, rfl, ?_⟩; replace BK985 := gz (aq (g := gb985) (o := .cells #[.int .i64 a0_0, .slice A0_1 l0_1.length c0_1, .slice A0_2 l0_2.length c0_2] 25 (0, 0)) (bK BK985) hb); replace HB := gz (ai zB hb); (try clear hb); (try clear hb2); (try clear hk); (try clear hi); have hcz35_0 := bC BK985 0 (.int .i64 a0_0); have hcz35_1 := bC BK985 1 (.slice A0_1 l0_1.length c0_1); have hcz35_2 := bC BK985 2 (.slice A0_2 l0_2.length c0_2); have hfz35_0 := ag BK985.out 0; have hfz35_1 := ag BK985.out 1; have hfz35_2 := ag BK985.out 2) | (go_at_call 13; (with_reducible refine (fh.calls kj2 a0_0 _ _ l0_1 _ _ l0_2 t990 _ ?side1 ?side2 ?side3 ?side4 A15.out).mono ?_); (case side1 => repeat (first | exact (Kd.C_below HR0_1.out HB.out) | (with_reducible refine Kd.C_alloc ?_ _) | (with_reducible refine Kd.C_drewN ?_ _) | (with_reducible refine Kd.C_drew ?_))); (case side2 => exact HC0_1.out); (case side3 => repeat (first | exact (Kd.C_below HR0_2.out HB.out) | (with_reducible refine Kd.C_alloc ?_ _) | (with_reducible refine Kd.C_drewN ?_ _) | (with_reducible refine Kd.C_drew ?_))); (case side4 => exact HC0_2.out); rintro e w36 ⟨rfl, hb⟩; replace BK985 := gz (aq (g := gb985) (o := .cells #[.int .i64 a0_0, .slice A0_1 l0_1.length c0_1, .slice A0_2 l0_2.length c0_2] 25 (0, 0)) (bK BK985) hb); replace HB := gz (ai zB hb); (try clear hb); (try clear hb2); (try clear hk); (try clear hi)))
     go_ret
     exact ⟨Z3, Z0⟩
   ·rw [if_neg c14] at H
    have c14b0 : (t989 == t986) = false := by simpa using c14
    (try (have c14b1 : decide (t989 = t986) = false := by simpa using c14))
    (try (have c14b2 : (t989 == t986) = false := by simpa using c14))
    (try (have c14b3 : ¬ (t989 = t986) := by simpa using c14))
    clear c14
    obtain rfl := Option.some.inj H
    have hcz37_0 := bC BK985 0 (.int .i64 a0_0)
    have hcz37_1 := bC BK985 1 (.slice A0_1 l0_1.length c0_1)
    have hcz37_2 := bC BK985 2 (.slice A0_2 l0_2.length c0_2)
    have hfz37_0 := ag BK985.out 0
    have hfz37_1 := ag BK985.out 1
    have hfz37_2 := ag BK985.out 2
    go_wp2_with (first | ((with_reducible refine gC 12 rfl ?_); refine bA (some 14) rfl rfl Tryz.func12 Z5 rfl #[.agg #[.int .i64 a0_0, .slice A0_1 l0_1.length c0_1, .slice A0_2 l0_2.length c0_2]] rfl Z1 ?_; (with_reducible refine (bj.calls kj2 a0_0 _ _ l0_1 _ _ l0_2 t989 _ ?side1 ?side2 ?side3 ?side4 A13.out).mono ?_); (case side1 => repeat (first | exact (Kd.C_below HR0_1.out HB.out) | (with_reducible refine Kd.C_alloc ?_ _) | (with_reducible refine Kd.C_drewN ?_ _) | (with_reducible refine Kd.C_drew ?_))); (case side2 => exact HC0_1.out); (case side3 => repeat (first | exact (Kd.C_below HR0_2.out HB.out) | (with_reducible refine Kd.C_alloc ?_ _) | (with_reducible refine Kd.C_drewN ?_ _) | (with_reducible refine Kd.C_drew ?_))); (case side4 => exact HC0_2.out); rintro e w38 ⟨rfl, hb⟩; refine ⟨_, rfl, ?_⟩; replace BK985 := gz (aq (g := gb985) (o := .cells #[.int .i64 a0_0, .slice A0_1 l0_1.length c0_1, .slice A0_2 l0_2.length c0_2] 25 (0, 0)) (bK BK985) hb); replace HB := gz (ai zB hb); (try clear hb); (try clear hb2); (try clear hk); (try clear hi)))
    go_ret
    exact ⟨Z3, Z0⟩
def aG.PureU : Prop := ∀ (x0 : S25), wf25 x0 → bk25 x0 ≤ 1048576 → ∃ k, aG.f k x0.f0 x0.f1 x0.f2 = some true
theorem aG.walkU (P : aG.PureU) (x0 : S25) (w : World) (A0_1 : Option Addr) (c0_1 : Nat) (A0_2 : Option Addr) (c0_2 : Nat) (hr0_1 : Kd.C k51 w A0_1 x0.f1.length x0.f1) (hc0_1 : x0.f1.length ≤ c0_1) (hr0_2 : Kd.C k25 w A0_2 x0.f2.length x0.f2) (hc0_2 : x0.f2.length ≤ c0_2) (ub0 : wf25 x0) (ub1 : bk25 x0 ≤ 1048576) :
  Calls Tryz.prog 4 #[.agg #[.int .i64 x0.f0, .slice A0_1 x0.f1.length c0_1, .slice A0_2 x0.f2.length c0_2]] w fun e w' => e = .returned (.bool true) ∧ Below w.heap.size w w' := by
 obtain ⟨k, h⟩ := P x0 ub0 ub1
 refine (aG.calls k x0.f0 A0_1 c0_1 x0.f1 A0_2 c0_2 x0.f2 true w hr0_1 hc0_1 hr0_2 hc0_2 h).mono ?_
 rintro e w' ⟨rfl, hd⟩
 exact ⟨rfl, hd⟩
end Go.Proofs.YtaccleilcdfapaaGreat.G
