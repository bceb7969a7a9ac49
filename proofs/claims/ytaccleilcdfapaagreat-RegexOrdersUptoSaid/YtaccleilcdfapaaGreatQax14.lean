import Derived.Test.YtaccleilcdfapaaGreatQPre
import Derived.Test.YtaccleilcdfapaaGreatQax0
import Derived.Test.YtaccleilcdfapaaGreatQax13
import Derived.Test.YtaccleilcdfapaaGreatQax5
namespace Go.Proofs.YtaccleilcdfapaaGreat.G
open Go.RowKit Go.Proofs.YtaccleilcdfapaaGreatW.PrintWords Go.Proofs.YtaccleilcdfapaaGreatW.PrintLast Go.Proofs.YtaccleilcdfapaaGreatW.PrintMore
attribute [local go_sem] dH dF dR dQ da cZ dG dE
set_option linter.unusedVariables false
set_option maxHeartbeats 8000000
set_option maxRecDepth 100000
set_option linter.unusedSimpArgs false
def aD.j0 : Nat → Int → Bool → Int → List (S51) → List (S25) → Int → List (S51) → List (S25) → Option (Bool)
 | 0, _, _, _, _, _, _, _, _ => none
 | k + 1, x5, x11, x1004000, x1004001, x1004002, x1005000, x1005001, x1005002 => if x11 = true then ((aj.f k x1004000 x1004001 x1004002 x1005000 x1005001 x1005002).bind fun t1007 => ((cJ.f k x1004000 x1004001 x1004002 x1005000 x1005001 x1005002).bind fun t1008 => (if t1008 = t1007 then ((ax.f k).bind fun t1009 => (some t1009)) else (some false)))) else ((cJ.f k x1004000 x1004001 x1004002 x1005000 x1005001 x1005002).bind fun t1010 => (if t1010 = x5 then ((ax.f k).bind fun t1011 => (some t1011)) else (some false)))
def aD.f (k : Nat) (a0_0 : Int) (l0_1 : List (S51)) (l0_2 : List (S25)) (a1_0 : Int) (l1_1 : List (S51)) (l1_2 : List (S25)) : Option (Bool) := (cA.f k a0_0 l0_1 l0_2).bind fun t1005 => (if t1005 = true then ((cA.f k a1_0 l1_1 l1_2).bind fun t1006 => (aD.j0 k 0 t1006 a0_0 l0_1 l0_2 a1_0 l1_1 l1_2)) else (aD.j0 k 0 false a0_0 l0_1 l0_2 a1_0 l1_1 l1_2))
theorem aD.calls (k : Nat) (a0_0 : Int) (A0_1 : Option Addr) (c0_1 : Nat) (l0_1 : List (S51)) (A0_2 : Option Addr) (c0_2 : Nat) (l0_2 : List (S25)) (a1_0 : Int) (A1_1 : Option Addr) (c1_1 : Nat) (l1_1 : List (S51)) (A1_2 : Option Addr) (c1_2 : Nat) (l1_2 : List (S25)) (r : Bool) (w : World) (hr0_1 : Kd.C k51 w A0_1 l0_1.length l0_1) (hc0_1 : l0_1.length ≤ c0_1) (hr0_2 : Kd.C k25 w A0_2 l0_2.length l0_2) (hc0_2 : l0_2.length ≤ c0_2) (hr1_1 : Kd.C k51 w A1_1 l1_1.length l1_1) (hc1_1 : l1_1.length ≤ c1_1) (hr1_2 : Kd.C k25 w A1_2 l1_2.length l1_2) (hc1_2 : l1_2.length ≤ c1_2) (h : aD.f k a0_0 l0_1 l0_2 a1_0 l1_1 l1_2 = some r) :
  Calls Tryz.prog 3 #[.agg #[.int .i64 a0_0, .slice A0_1 l0_1.length c0_1, .slice A0_2 l0_2.length c0_2], .agg #[.int .i64 a1_0, .slice A1_1 l1_1.length c1_1, .slice A1_2 l1_2.length c1_2]] w fun e w' => e = .returned (.bool r) ∧ Below w.heap.size w w' := by
 have hu25 := Tryz.underlying25
 have HR0_1 := gz hr0_1
 have HC0_1 := gz hc0_1
 clear hr0_1 hc0_1
 have HR0_2 := gz hr0_2
 have HC0_2 := gz hc0_2
 clear hr0_2 hc0_2
 have HR1_1 := gz hr1_1
 have HC1_1 := gz hc1_1
 clear hr1_1 hc1_1
 have HR1_2 := gz hr1_2
 have HC1_2 := gz hc1_2
 clear hr1_2 hc1_2
 have HB := gz (Below.refl w.heap.size w)
 have H : ((cA.f k a0_0 l0_1 l0_2).bind fun t1005 => (if t1005 = true then ((cA.f k a1_0 l1_1 l1_2).bind fun t1006 => (aD.j0 k 0 t1006 a0_0 l0_1 l0_2 a1_0 l1_1 l1_2)) else (aD.j0 k 0 false a0_0 l0_1 l0_2 a1_0 l1_1 l1_2))) = some r := h
 clear h
 have HC3 := gz H
 clear H
 go_enter Tryz.func3, Tryz.ntmps3
 go_upto_region 2 with (first | ((with_reducible refine bI (N := 2) rfl ?_); refine bQ ?hg (N := 2) ?hd (cs := #[.int .i64 a0_0, .slice A0_1 l0_1.length c0_1, .slice A0_2 l0_2.length c0_2]) (t := 25) ?hr ?_; (case hd => rfl); (case hg => rfl); (case hr => first | (go_simp; done) | (go_simp; rfl)); intro gb1003 hg w4 hbox hb; have BK1003 := gz (hbox); have GW1003 := gE hg zB; have GE1003 := gE hg zB; replace HB := gz (ai zB hb); clear hb hbox hg) | ((with_reducible refine bI (N := 3) rfl ?_); refine bQ ?hg (N := 3) ?hd (cs := #[.int .i64 a1_0, .slice A1_1 l1_1.length c1_1, .slice A1_2 l1_2.length c1_2]) (t := 25) ?hr ?_; (case hd => rfl); (case hg => rfl); (case hr => first | (go_simp; done) | (go_simp; rfl)); intro gb1004 hg w5 hbox hb; have n0_ := gz (ao (g := gb1003) (o := .cells #[.int .i64 a0_0, .slice A0_1 l0_1.length c0_1, .slice A0_2 l0_2.length c0_2] 25 (0, 0)) (bK BK1003) hb); have n1_ := gz (ai zB hb); have n2_ := gz (hbox); have n3_ := gE hg zB; have n4_ := gE hg zB; have n5_ := gz ((by rw [hg]; exact Nat.ne_of_lt (bB (g := gb1003) (o := .cells #[.int .i64 a0_0, .slice A0_1 l0_1.length c0_1, .slice A0_2 l0_2.length c0_2] 25 (0, 0)) (bK BK1003)) : gb1003 ≠ gb1004)); have n6_ := gz ((by rw [hg]; exact Nat.ne_of_gt (bB (g := gb1003) (o := .cells #[.int .i64 a0_0, .slice A0_1 l0_1.length c0_1, .slice A0_2 l0_2.length c0_2] 25 (0, 0)) (bK BK1003)) : gb1004 ≠ gb1003)); clear BK1003; clear HB; have BK1003 := n0_; have HB := n1_; have BK1004 := n2_; have GW1004 := n3_; have GE1004 := n4_; have NB1003_1004 := n5_; have NB1004_1003 := n6_; clear n0_ n1_ n2_ n3_ n4_ n5_ n6_; clear hb hbox hg))
 (try simp only [Act.put, List.setIfInBounds_toArray, List.set_cons_zero, List.set_cons_succ])
 go_cut [11] (fun v11 wc => ∃ (kq : Nat) (x11_2 : Bool), v11 = .bool x11_2 ∧ aa (aD.j0 kq 0 x11_2 a0_0 l0_1 l0_2 a1_0 l1_1 l1_2 = some r) ∧ aa (kq ≤ k) ∧ aa (wc.heap[gb1003]? = some (.cells #[.int .i64 a0_0, (.slice A0_1 l0_1.length c0_1), (.slice A0_2 l0_2.length c0_2)] 25 (0, 0))) ∧ aa (wc.heap[gb1004]? = some (.cells #[.int .i64 a1_0, (.slice A1_1 l1_1.length c1_1), (.slice A1_2 l1_2.length c1_2)] 25 (0, 0))) ∧ aa (Below w.heap.size w wc))
 case first =>
  have H := HC3.out
  clear HC3
  replace H := bS H
  obtain ⟨t1005, A6, H⟩ := H
  try dsimp only at H
  by_cases c7 : t1005 = true
  ·subst c7
   have H1 : ((cA.f k a1_0 l1_1 l1_2).bind fun t1006 => (aD.j0 k 0 t1006 a0_0 l0_1 l0_2 a1_0 l1_1 l1_2)) = some r := by rw [if_pos rfl] at H; exact H
   clear H
   have H := H1
   clear H1
   replace H := bS H
   obtain ⟨t1006, A8, H⟩ := H
   try dsimp only at H
   have H' := gz H
   clear H
   have hnb9 := NB1003_1004.out
   have hnc9 := NB1004_1003.out
   have hcz10_0 := bC BK1003 0 (.int .i64 a0_0)
   have hcz10_1 := bC BK1003 1 (.slice A0_1 l0_1.length c0_1)
   have hcz10_2 := bC BK1003 2 (.slice A0_2 l0_2.length c0_2)
   have hfz10_0 := ag BK1003.out 0
   have hfz10_1 := ag BK1003.out 1
   have hfz10_2 := ag BK1003.out 2
   go_wp2_with (first | ((with_reducible refine gC 6 rfl ?_); refine bl (some 7) rfl rfl Tryz.func6 Z5 rfl #[.agg #[.int .i64 a0_0, .slice A0_1 l0_1.length c0_1, .slice A0_2 l0_2.length c0_2]] rfl Z1 ?_; (with_reducible refine (cA.calls k a0_0 _ _ l0_1 _ _ l0_2 true _ ?side1 ?side2 ?side3 ?side4 A6.out).mono ?_); (case side1 => repeat (first | exact (Kd.C_below HR0_1.out HB.out) | (with_reducible refine Kd.C_alloc ?_ _) | (with_reducible refine Kd.C_drewN ?_ _) | (with_reducible refine Kd.C_drew ?_))); (case side2 => exact HC0_1.out); (case side3 => repeat (first | exact (Kd.C_below HR0_2.out HB.out) | (with_reducible refine Kd.C_alloc ?_ _) | (with_reducible refine Kd.C_drewN ?_ _) | (with_reducible refine Kd.C_drew ?_))); (case side4 => exact HC0_2.out); rintro e w11 ⟨rfl, hb⟩; refine ⟨_, rfl, ?_⟩; replace BK1003 := gz (ao (g := gb1003) (o := .cells #[.int .i64 a0_0, .slice A0_1 l0_1.length c0_1, .slice A0_2 l0_2.length c0_2] 25 (0, 0)) (bK BK1003) hb); replace BK1004 := gz (ao (g := gb1004) (o := .cells #[.int .i64 a1_0, .slice A1_1 l1_1.length c1_1, .slice A1_2 l1_2.length c1_2] 25 (0, 0)) (bK BK1004) hb); replace HB := gz (ai zB hb); (try clear hb); (try clear hb2); (try clear hk); (try clear hi); have hcz12_0 := bC BK1004 0 (.int .i64 a1_0); have hcz12_1 := bC BK1004 1 (.slice A1_1 l1_1.length c1_1); have hcz12_2 := bC BK1004 2 (.slice A1_2 l1_2.length c1_2); have hfz12_0 := ag BK1004.out 0; have hfz12_1 := ag BK1004.out 1; have hfz12_2 := ag BK1004.out 2) | (go_at_call 6; (with_reducible refine (cA.calls k a1_0 _ _ l1_1 _ _ l1_2 t1006 _ ?side1 ?side2 ?side3 ?side4 A8.out).mono ?_); (case side1 => repeat (first | exact (Kd.C_below HR1_1.out HB.out) | (with_reducible refine Kd.C_alloc ?_ _) | (with_reducible refine Kd.C_drewN ?_ _) | (with_reducible refine Kd.C_drew ?_))); (case side2 => exact HC1_1.out); (case side3 => repeat (first | exact (Kd.C_below HR1_2.out HB.out) | (with_reducible refine Kd.C_alloc ?_ _) | (with_reducible refine Kd.C_drewN ?_ _) | (with_reducible refine Kd.C_drew ?_))); (case side4 => exact HC1_2.out); rintro e w13 ⟨rfl, hb⟩; replace BK1003 := gz (ao (g := gb1003) (o := .cells #[.int .i64 a0_0, .slice A0_1 l0_1.length c0_1, .slice A0_2 l0_2.length c0_2] 25 (0, 0)) (bK BK1003) hb); replace BK1004 := gz (ao (g := gb1004) (o := .cells #[.int .i64 a1_0, .slice A1_1 l1_1.length c1_1, .slice A1_2 l1_2.length c1_2] 25 (0, 0)) (bK BK1004) hb); replace HB := gz (ai zB hb); (try clear hb); (try clear hb2); (try clear hk); (try clear hi)))
   go_meet
   case rel => exact ⟨_, (t1006), Z2, H', ⟨by first | omega | exact Nat.le_refl _⟩, ⟨by (with_reducible repeat (first | refine az ?_ _ | refine aI ?_ | refine au ?_ _)); exact BK1003.out⟩, ⟨by (with_reducible repeat (first | refine az ?_ _ | refine aI ?_ | refine au ?_ _)); exact BK1004.out⟩, ⟨Z0⟩⟩
  ·replace c7 := Bool.eq_false_iff.mpr c7
   subst c7
   have H1 : (aD.j0 k 0 false a0_0 l0_1 l0_2 a1_0 l1_1 l1_2) = some r := by rw [if_neg (show ¬ (false = true) by decide)] at H; exact H
   clear H
   have H := H1
   clear H1
   have H' := gz H
   clear H
   have hnb14 := NB1003_1004.out
   have hnc14 := NB1004_1003.out
   have hcz15_0 := bC BK1003 0 (.int .i64 a0_0)
   have hcz15_1 := bC BK1003 1 (.slice A0_1 l0_1.length c0_1)
   have hcz15_2 := bC BK1003 2 (.slice A0_2 l0_2.length c0_2)
   have hfz15_0 := ag BK1003.out 0
   have hfz15_1 := ag BK1003.out 1
   have hfz15_2 := ag BK1003.out 2
   go_wp2_with (first | ((with_reducible refine gC 6 rfl ?_); refine bl (some 7) rfl rfl Tryz.func6 Z5 rfl #[.agg #[.int .i64 a0_0, .slice A0_1 l0_1.length c0_1, .slice A0_2 l0_2.length c0_2]] rfl Z1 ?_; (with_reducible refine (cA.calls k a0_0 _ _ l0_1 _ _ l0_2 false _ ?side1 ?side2 ?side3 ?side4 A6.out).mono ?_); (case side1 => repeat (first | exact (Kd.C_below HR0_1.out HB.out) | (with_reducible refine Kd.C_alloc ?_ _) | (with_reducible refine Kd.C_drewN ?_ _) | (with_reducible refine Kd.C_drew ?_))); (case side2 => exact HC0_1.out); (case side3 => repeat (first | exact (Kd.C_below HR0_2.out HB.out) | (with_reducible refine Kd.C_alloc ?_ _) | (with_reducible refine Kd.C_drewN ?_ _) | (with_reducible refine Kd.C_drew ?_))); (case side4 => exact HC0_2.out); rintro e w16 ⟨rfl, hb⟩; refine ⟨_, rfl, ?_⟩; replace BK1003 := gz (ao (g := gb1003) (o := .cells #[.int .i64 a0_0, .slice A0_1 l0_1.length c0_1, .slice A0_2 l0_2.length c0_2] 25 (0, 0)) (bK BK1003) hb); replace BK1004 := gz (ao (g := gb1004) (o := .cells #[.int .i64 a1_0, .slice A1_1 l1_1.length c1_1, .slice A1_2 l1_2.length c1_2] 25 (0, 0)) (bK BK1004) hb); replace HB := gz (ai zB hb); (try clear hb); (try clear hb2); (try clear hk); (try clear hi)))
   go_meet
   case rel => exact ⟨_, (false), Z2, H', ⟨by first | omega | exact Nat.le_refl _⟩, ⟨by (with_reducible repeat (first | refine az ?_ _ | refine aI ?_ | refine au ?_ _)); exact BK1003.out⟩, ⟨by (with_reducible repeat (first | refine az ?_ _ | refine aI ?_ | refine au ?_ _)); exact BK1004.out⟩, ⟨Z0⟩⟩
 case rest =>
  clear HC3
  try clear c1
  try clear p2
  try clear c3
  try clear c6
  try clear c7
  try clear c9
  try clear c14
  try clear hcz10_0
  try clear hcz10_1
  try clear hcz10_2
  try clear hcz12_0
  try clear hcz12_1
  try clear hcz12_2
  try clear hcz15_0
  try clear hcz15_1
  try clear hcz15_2
  try clear hfz10_0
  try clear hfz10_1
  try clear hfz10_2
  try clear hfz12_0
  try clear hfz12_1
  try clear hfz12_2
  try clear hfz15_0
  try clear hfz15_1
  try clear hfz15_2
  obtain ⟨kq, x11_2, rfl, HA, HJ2, BK1003, BK1004, HB⟩ := hcut
  cases kq with
  | zero => exact absurd HA.out (by simp [aD.j0])
  | succ kj2 =>
   have H := HA.out
   clear HA
   simp only [aD.j0] at H
   by_cases c17 : x11_2 = true
   ·subst c17
    have H1 : ((aj.f kj2 a0_0 l0_1 l0_2 a1_0 l1_1 l1_2).bind fun t1007 => ((cJ.f kj2 a0_0 l0_1 l0_2 a1_0 l1_1 l1_2).bind fun t1008 => (if t1008 = t1007 then ((ax.f kj2).bind fun t1009 => (some t1009)) else (some false)))) = some r := by rw [if_pos rfl] at H; exact H
    clear H
    have H := H1
    clear H1
    replace H := bS H
    obtain ⟨t1007, A18, H⟩ := H
    try dsimp only at H
    replace H := bS H
    obtain ⟨t1008, A19, H⟩ := H
    try dsimp only at H
    by_cases c20 : t1008 = t1007
    ·rw [if_pos c20] at H
     have c20b0 := e1 c20
     have c20b1 := e2 c20
     clear c20
     replace H := bS H
     obtain ⟨t1009, A21, H⟩ := H
     try dsimp only at H
     obtain rfl := Option.some.inj H
     have hnb22 := NB1003_1004.out
     have hnc22 := NB1004_1003.out
     have hcz23_0 := bC BK1003 0 (.int .i64 a0_0)
     have hcz23_1 := bC BK1003 1 (.slice A0_1 l0_1.length c0_1)
     have hcz23_2 := bC BK1003 2 (.slice A0_2 l0_2.length c0_2)
     have hfz23_0 := ag BK1003.out 0
     have hfz23_1 := ag BK1003.out 1
     have hfz23_2 := ag BK1003.out 2
     have hcz24_0 := bC BK1004 0 (.int .i64 a1_0)
     have hcz24_1 := bC BK1004 1 (.slice A1_1 l1_1.length c1_1)
     have hcz24_2 := bC BK1004 2 (.slice A1_2 l1_2.length c1_2)
     have hfz24_0 := ag BK1004.out 0
     have hfz24_1 := ag BK1004.out 1
     have hfz24_2 := ag BK1004.out 2
     go_wp2_with (first | ((with_reducible refine gC 7 rfl ?_); refine bl (some 14) rfl rfl Tryz.func7 Z5 rfl #[.agg #[.int .i64 a0_0, .slice A0_1 l0_1.length c0_1, .slice A0_2 l0_2.length c0_2], .agg #[.int .i64 a1_0, .slice A1_1 l1_1.length c1_1, .slice A1_2 l1_2.length c1_2]] rfl Z1 ?_; (with_reducible refine (aj.calls kj2 a0_0 _ _ l0_1 _ _ l0_2 a1_0 _ _ l1_1 _ _ l1_2 t1007 _ ?side1 ?side2 ?side3 ?side4 ?side5 ?side6 ?side7 ?side8 A18.out).mono ?_); (case side1 => repeat (first | exact (Kd.C_below HR0_1.out HB.out) | (with_reducible refine Kd.C_alloc ?_ _) | (with_reducible refine Kd.C_drewN ?_ _) | (with_reducible refine Kd.C_drew ?_))); (case side2 => exact HC0_1.out); (case side3 => repeat (first | exact (Kd.C_below HR0_2.out HB.out) | (with_reducible refine Kd.C_alloc ?_ _) | (with_reducible refine Kd.C_drewN ?_ _) | (with_reducible refine Kd.C_drew ?_))); (case side4 => exact HC0_2.out); (case side5 => repeat (first | exact (Kd.C_below HR1_1.out HB.out) | (with_reducible refine Kd.C_alloc ?_ _) | (with_reducible refine Kd.C_drewN ?_ _) | (with_reducible refine Kd.C_drew ?_))); (case side6 => exact HC1_1.out); (case side7 => repeat (first | exact (Kd.C_below HR1_2.out HB.out) | (with_reducible refine Kd.C_alloc ?_ _) | (with_reducible refine Kd.C_drewN ?_ _) | (with_reducible refine Kd.C_drew ?_))); (case side8 => exact HC1_2.out); rintro e w25 ⟨rfl, hb⟩; refine ⟨_, rfl, ?_⟩; replace BK1003 := gz (ao (g := gb1003) (o := .cells #[.int .i64 a0_0, .slice A0_1 l0_1.length c0_1, .slice A0_2 l0_2.length c0_2] 25 (0, 0)) (bK BK1003) hb); replace BK1004 := gz (ao (g := gb1004) (o := .cells #[.int .i64 a1_0, .slice A1_1 l1_1.length c1_1, .slice A1_2 l1_2.length c1_2] 25 (0, 0)) (bK BK1004) hb); replace HB := gz (ai zB hb); (try clear hb); (try clear hb2); (try clear hk); (try clear hi); have hcz26_0 := bC BK1003 0 (.int .i64 a0_0); have hcz26_1 := bC BK1003 1 (.slice A0_1 l0_1.length c0_1); have hcz26_2 := bC BK1003 2 (.slice A0_2 l0_2.length c0_2); have hfz26_0 := ag BK1003.out 0; have hfz26_1 := ag BK1003.out 1; have hfz26_2 := ag BK1003.out 2; have hcz27_0 := bC BK1004 0 (.int .i64 a1_0); have hcz27_1 := bC BK1004 1 (.slice A1_1 l1_1.length c1_1); have hcz27_2 := bC BK1004 2 (.slice A1_2 l1_2.length c1_2); have hfz27_0 := ag BK1004.out 0; have hfz27_1 := ag BK1004.out 1; have hfz27_2 := ag BK1004.out 2) | ((with_reducible refine gC 8 rfl ?_); refine bl (some 17) rfl rfl Tryz.func8 Z5 rfl #[.agg #[.int .i64 a0_0, .slice A0_1 l0_1.length c0_1, .slice A0_2 l0_2.length c0_2], .agg #[.int .i64 a1_0, .slice A1_1 l1_1.length c1_1, .slice A1_2 l1_2.length c1_2]] rfl Z1 ?_; (with_reducible refine (cJ.calls kj2 a0_0 (fun k_ => k_ < w.heap.size) _ _ l0_1 (fun k_ => k_ < w.heap.size) _ _ l0_2 a1_0 (fun k_ => k_ < w.heap.size) _ _ l1_1 (fun k_ => k_ < w.heap.size) _ _ l1_2 t1008 _ ?side1 ?side2 ?side3 ?side4 A19.out).mono ?_); (case side1 => exact Kd.V_mk HC0_1.out (Kd.F_below (Kd.C_F fl HR0_1.out) zB)); (case side2 => exact Kd.V_mk HC0_2.out (Kd.F_below (Kd.C_F fv HR0_2.out) zB)); (case side3 => exact Kd.V_mk HC1_1.out (Kd.F_below (Kd.C_F fl HR1_1.out) zB)); (case side4 => exact Kd.V_mk HC1_2.out (Kd.F_below (Kd.C_F fv HR1_2.out) zB)); rintro e w28 ⟨rfl, hb⟩; refine ⟨_, rfl, ?_⟩; replace BK1003 := gz (ao (g := gb1003) (o := .cells #[.int .i64 a0_0, .slice A0_1 l0_1.length c0_1, .slice A0_2 l0_2.length c0_2] 25 (0, 0)) (bK BK1003) hb); replace BK1004 := gz (ao (g := gb1004) (o := .cells #[.int .i64 a1_0, .slice A1_1 l1_1.length c1_1, .slice A1_2 l1_2.length c1_2] 25 (0, 0)) (bK BK1004) hb); replace HB := gz (ai zB hb); (try clear hb); (try clear hb2); (try clear hk); (try clear hi)) | (go_at_call 9; (with_reducible refine (ax.calls A21.out).mono ?_); rintro e w29 ⟨rfl, hb⟩; replace BK1003 := gz (ao (g := gb1003) (o := .cells #[.int .i64 a0_0, .slice A0_1 l0_1.length c0_1, .slice A0_2 l0_2.length c0_2] 25 (0, 0)) (bK BK1003) hb); replace BK1004 := gz (ao (g := gb1004) (o := .cells #[.int .i64 a1_0, .slice A1_1 l1_1.length c1_1, .slice A1_2 l1_2.length c1_2] 25 (0, 0)) (bK BK1004) hb); replace HB := gz (ai zB hb); (try clear hb); (try clear hb2); (try clear hk); (try clear hi)))
     go_ret
     exact ⟨Z3, Z0⟩
    ·rw [if_neg c20] at H
     have c20b0 := e3 c20
     have c20b1 := e4 c20
     obtain rfl := Option.some.inj H
     have hnb30 := NB1003_1004.out
     have hnc30 := NB1004_1003.out
     have hcz31_0 := bC BK1003 0 (.int .i64 a0_0)
     have hcz31_1 := bC BK1003 1 (.slice A0_1 l0_1.length c0_1)
     have hcz31_2 := bC BK1003 2 (.slice A0_2 l0_2.length c0_2)
     have hfz31_0 := ag BK1003.out 0
     have hfz31_1 := ag BK1003.out 1
     have hfz31_2 := ag BK1003.out 2
     have hcz32_0 := bC BK1004 0 (.int .i64 a1_0)
     have hcz32_1 := bC BK1004 1 (.slice A1_1 l1_1.length c1_1)
     have hcz32_2 := bC BK1004 2 (.slice A1_2 l1_2.length c1_2)
     have hfz32_0 := ag BK1004.out 0
     have hfz32_1 := ag BK1004.out 1
     have hfz32_2 := ag BK1004.out 2
     go_wp2_with (first | ((with_reducible refine gC 7 rfl ?_); refine bl (some 14) rfl rfl Tryz.func7 Z5 rfl #[.agg #[.int .i64 a0_0, .slice A0_1 l0_1.length c0_1, .slice A0_2 l0_2.length c0_2], .agg #[.int .i64 a1_0, .slice A1_1 l1_1.length c1_1, .slice A1_2 l1_2.length c1_2]] rfl Z1 ?_; (with_reducible refine (aj.calls kj2 a0_0 _ _ l0_1 _ _ l0_2 a1_0 _ _ l1_1 _ _ l1_2 t1007 _ ?side1 ?side2 ?side3 ?side4 ?side5 ?side6 ?side7 ?side8 A18.out).mono ?_); (case side1 => repeat (first | exact (Kd.C_below HR0_1.out HB.out) | (with_reducible refine Kd.C_alloc ?_ _) | (with_reducible refine Kd.C_drewN ?_ _) | (with_reducible refine Kd.C_drew ?_))); (case side2 => exact HC0_1.out); (case side3 => repeat (first | exact (Kd.C_below HR0_2.out HB.out) | (with_reducible refine Kd.C_alloc ?_ _) | (with_reducible refine Kd.C_drewN ?_ _) | (with_reducible refine Kd.C_drew ?_))); (case side4 => exact HC0_2.out); (case side5 => repeat (first | exact (Kd.C_below HR1_1.out HB.out) | (with_reducible refine Kd.C_alloc ?_ _) | (with_reducible refine Kd.C_drewN ?_ _) | (with_reducible refine Kd.C_drew ?_))); (case side6 => exact HC1_1.out); (case side7 => repeat (first | exact (Kd.C_below HR1_2.out HB.out) | (with_reducible refine Kd.C_alloc ?_ _) | (with_reducible refine Kd.C_drewN ?_ _) | (with_reducible refine Kd.C_drew ?_))); (case side8 => exact HC1_2.out); rintro e w33 ⟨rfl, hb⟩; refine ⟨_, rfl, ?_⟩; replace BK1003 := gz (ao (g := gb1003) (o := .cells #[.int .i64 a0_0, .slice A0_1 l0_1.length c0_1, .slice A0_2 l0_2.length c0_2] 25 (0, 0)) (bK BK1003) hb); replace BK1004 := gz (ao (g := gb1004) (o := .cells #[.int .i64 a1_0, .slice A1_1 l1_1.length c1_1, .slice A1_2 l1_2.length c1_2] 25 (0, 0)) (bK BK1004) hb); replace HB := gz (ai zB hb); (try clear hb); (try clear hb2); (try clear hk); (try clear hi); have hcz34_0 := bC BK1003 0 (.int .i64 a0_0); have hcz34_1 := bC BK1003 1 (.slice A0_1 l0_1.length c0_1); have hcz34_2 := bC BK1003 2 (.slice A0_2 l0_2.length c0_2); have hfz34_0 := ag BK1003.out 0; have hfz34_1 := ag BK1003.out 1; have hfz34_2 := ag BK1003.out 2; have hcz35_0 := bC BK1004 0 (.int .i64 a1_0); have hcz35_1 := bC BK1004 1 (.slice A1_1 l1_1.length c1_1); have hcz35_2 := bC BK1004 2 (.slice A1_2 l1_2.length c1_2); have hfz35_0 := ag BK1004.out 0; have hfz35_1 := ag BK1004.out 1; have hfz35_2 := ag BK1004.out 2) | ((with_reducible refine gC 8 rfl ?_); refine bl (some 17) rfl rfl Tryz.func8 Z5 rfl #[.agg #[.int .i64 a0_0, .slice A0_1 l0_1.length c0_1, .slice A0_2 l0_2.length c0_2], .agg #[.int .i64 a1_0, .slice A1_1 l1_1.length c1_1, .slice A1_2 l1_2.length c1_2]] rfl Z1 ?_; (with_reducible refine (cJ.calls kj2 a0_0 (fun k_ => k_ < w.heap.size) _ _ l0_1 (fun k_ => k_ < w.heap.size) _ _ l0_2 a1_0 (fun k_ => k_ < w.heap.size) _ _ l1_1 (fun k_ => k_ < w.heap.size) _ _ l1_2 t1008 _ ?side1 ?side2 ?side3 ?side4 A19.out).mono ?_); (case side1 => exact Kd.V_mk HC0_1.out (Kd.F_below (Kd.C_F fl HR0_1.out) zB)); (case side2 => exact Kd.V_mk HC0_2.out (Kd.F_below (Kd.C_F fv HR0_2.out) zB)); (case side3 => exact Kd.V_mk HC1_1.out (Kd.F_below (Kd.C_F fl HR1_1.out) zB)); (case side4 => exact Kd.V_mk HC1_2.out (Kd.F_below (Kd.C_F fv HR1_2.out) zB)); rintro e w36 ⟨rfl, hb⟩; refine ⟨_, rfl, ?_⟩; replace BK1003 := gz (ao (g := gb1003) (o := .cells #[.int .i64 a0_0, .slice A0_1 l0_1.length c0_1, .slice A0_2 l0_2.length c0_2] 25 (0, 0)) (bK BK1003) hb); replace BK1004 := gz (ao (g := gb1004) (o := .cells #[.int .i64 a1_0, .slice A1_1 l1_1.length c1_1, .slice A1_2 l1_2.length c1_2] 25 (0, 0)) (bK BK1004) hb); replace HB := gz (ai zB hb); (try clear hb); (try clear hb2); (try clear hk); (try clear hi)))
     go_ret
     exact ⟨Z3, Z0⟩
   ·replace c17 := Bool.eq_false_iff.mpr c17
    subst c17
    have H1 : ((cJ.f kj2 a0_0 l0_1 l0_2 a1_0 l1_1 l1_2).bind fun t1010 => (if t1010 = 0 then ((ax.f kj2).bind fun t1011 => (some t1011)) else (some false))) = some r := by rw [if_neg (show ¬ (false = true) by decide)] at H; exact H
    clear H
    have H := H1
    clear H1
    replace H := bS H
    obtain ⟨t1010, A37, H⟩ := H
    try dsimp only at H
    by_cases c38 : t1010 = 0
    ·rw [if_pos c38] at H
     have c38b0 := e1 c38
     have c38b1 := e2 c38
     clear c38
     replace H := bS H
     obtain ⟨t1011, A39, H⟩ := H
     try dsimp only at H
     obtain rfl := Option.some.inj H
     have hnb40 := NB1003_1004.out
     have hnc40 := NB1004_1003.out
     have hcz41_0 := bC BK1003 0 (.int .i64 a0_0)
     have hcz41_1 := bC BK1003 1 (.slice A0_1 l0_1.length c0_1)
     have hcz41_2 := bC BK1003 2 (.slice A0_2 l0_2.length c0_2)
     have hfz41_0 := ag BK1003.out 0
     have hfz41_1 := ag BK1003.out 1
     have hfz41_2 := ag BK1003.out 2
     have hcz42_0 := bC BK1004 0 (.int .i64 a1_0)
     have hcz42_1 := bC BK1004 1 (.slice A1_1 l1_1.length c1_1)
     have hcz42_2 := bC BK1004 2 (.slice A1_2 l1_2.length c1_2)
     have hfz42_0 := ag BK1004.out 0
     have hfz42_1 := ag BK1004.out 1
     have hfz42_2 := ag BK1004.out 2
     go_wp2_with (first | ((with_reducible refine gC 8 rfl ?_); refine bl (some 17) rfl rfl Tryz.func8 Z5 rfl #[.agg #[.int .i64 a0_0, .slice A0_1 l0_1.length c0_1, .slice A0_2 l0_2.length c0_2], .agg #[.int .i64 a1_0, .slice A1_1 l1_1.length c1_1, .slice A1_2 l1_2.length c1_2]] rfl Z1 ?_; (with_reducible refine (cJ.calls kj2 a0_0 (fun k_ => k_ < w.heap.size) _ _ l0_1 (fun k_ => k_ < w.heap.size) _ _ l0_2 a1_0 (fun k_ => k_ < w.heap.size) _ _ l1_1 (fun k_ => k_ < w.heap.size) _ _ l1_2 t1010 _ ?side1 ?side2 ?side3 ?side4 A37.out).mono ?_); (case side1 => exact Kd.V_mk HC0_1.out (Kd.F_below (Kd.C_F fl HR0_1.out) zB)); (case side2 => exact Kd.V_mk HC0_2.out (Kd.F_below (Kd.C_F fv HR0_2.out) zB)); (case side3 => exact Kd.V_mk HC1_1.out (Kd.F_below (Kd.C_F fl HR1_1.out) zB)); (case side4 => exact Kd.V_mk HC1_2.out (Kd.F_below (Kd.C_F fv HR1_2.out) zB)); rintro e w43 ⟨rfl, hb⟩; refine ⟨_, rfl, ?_⟩; replace BK1003 := gz (ao (g := gb1003) (o := .cells #[.int .i64 a0_0, .slice A0_1 l0_1.length c0_1, .slice A0_2 l0_2.length c0_2] 25 (0, 0)) (bK BK1003) hb); replace BK1004 := gz (ao (g := gb1004) (o := .cells #[.int .i64 a1_0, .slice A1_1 l1_1.length c1_1, .slice A1_2 l1_2.length c1_2] 25 (0, 0)) (bK BK1004) hb); replace HB := gz (ai zB hb); (try clear hb); (try clear hb2); (try clear hk); (try clear hi)) | (go_at_call 9; (with_reducible refine (ax.calls A39.out).mono ?_); rintro e w44 ⟨rfl, hb⟩; replace BK1003 := gz (ao (g := gb1003) (o := .cells #[.int .i64 a0_0, .slice A0_1 l0_1.length c0_1, .slice A0_2 l0_2.length c0_2] 25 (0, 0)) (bK BK1003) hb); replace BK1004 := gz (ao (g := gb1004) (o := .cells #[.int .i64 a1_0, .slice A1_1 l1_1.length c1_1, .slice A1_2 l1_2.length c1_2] 25 (0, 0)) (bK BK1004) hb); replace HB := gz (ai zB hb); (try clear hb); (try clear hb2); (try clear hk); (try clear hi)))
     go_ret
     exact ⟨Z3, Z0⟩
    ·rw [if_neg c38] at H
     have c38b0 := e3 c38
     have c38b1 := e4 c38
     obtain rfl := Option.some.inj H
     have hnb45 := NB1003_1004.out
     have hnc45 := NB1004_1003.out
     have hcz46_0 := bC BK1003 0 (.int .i64 a0_0)
     have hcz46_1 := bC BK1003 1 (.slice A0_1 l0_1.length c0_1)
     have hcz46_2 := bC BK1003 2 (.slice A0_2 l0_2.length c0_2)
     have hfz46_0 := ag BK1003.out 0
     have hfz46_1 := ag BK1003.out 1
     have hfz46_2 := ag BK1003.out 2
     have hcz47_0 := bC BK1004 0 (.int .i64 a1_0)
     have hcz47_1 := bC BK1004 1 (.slice A1_1 l1_1.length c1_1)
     have hcz47_2 := bC BK1004 2 (.slice A1_2 l1_2.length c1_2)
     have hfz47_0 := ag BK1004.out 0
     have hfz47_1 := ag BK1004.out 1
     have hfz47_2 := ag BK1004.out 2
     go_wp2_with (first | ((with_reducible refine gC 8 rfl ?_); refine bl (some 17) rfl rfl Tryz.func8 Z5 rfl #[.agg #[.int .i64 a0_0, .slice A0_1 l0_1.length c0_1, .slice A0_2 l0_2.length c0_2], .agg #[.int .i64 a1_0, .slice A1_1 l1_1.length c1_1, .slice A1_2 l1_2.length c1_2]] rfl Z1 ?_; (with_reducible refine (cJ.calls kj2 a0_0 (fun k_ => k_ < w.heap.size) _ _ l0_1 (fun k_ => k_ < w.heap.size) _ _ l0_2 a1_0 (fun k_ => k_ < w.heap.size) _ _ l1_1 (fun k_ => k_ < w.heap.size) _ _ l1_2 t1010 _ ?side1 ?side2 ?side3 ?side4 A37.out).mono ?_); (case side1 => exact Kd.V_mk HC0_1.out (Kd.F_below (Kd.C_F fl HR0_1.out) zB)); (case side2 => exact Kd.V_mk HC0_2.out (Kd.F_below (Kd.C_F fv HR0_2.out) zB)); (case side3 => exact Kd.V_mk HC1_1.out (Kd.F_below (Kd.C_F fl HR1_1.out) zB)); (case side4 => exact Kd.V_mk HC1_2.out (Kd.F_below (Kd.C_F fv HR1_2.out) zB)); rintro e w48 ⟨rfl, hb⟩; refine ⟨_, rfl, ?_⟩; replace BK1003 := gz (ao (g := gb1003) (o := .cells #[.int .i64 a0_0, .slice A0_1 l0_1.length c0_1, .slice A0_2 l0_2.length c0_2] 25 (0, 0)) (bK BK1003) hb); replace BK1004 := gz (ao (g := gb1004) (o := .cells #[.int .i64 a1_0, .slice A1_1 l1_1.length c1_1, .slice A1_2 l1_2.length c1_2] 25 (0, 0)) (bK BK1004) hb); replace HB := gz (ai zB hb); (try clear hb); (try clear hb2); (try clear hk); (try clear hi)))
     go_ret
     exact ⟨Z3, Z0⟩
def aD.PureU : Prop := ∀ (x0 : S25) (x1 : S25), wf25 x0 → bk25 x0 ≤ 1048576 → wf25 x1 → bk25 x1 ≤ 1048576 → ∃ k, aD.f k x0.f0 x0.f1 x0.f2 x1.f0 x1.f1 x1.f2 = some true
theorem aD.walkU (P : aD.PureU) (x0 : S25) (x1 : S25) (w : World) (A0_1 : Option Addr) (c0_1 : Nat) (A0_2 : Option Addr) (c0_2 : Nat) (hr0_1 : Kd.C k51 w A0_1 x0.f1.length x0.f1) (hc0_1 : x0.f1.length ≤ c0_1) (hr0_2 : Kd.C k25 w A0_2 x0.f2.length x0.f2) (hc0_2 : x0.f2.length ≤ c0_2) (A1_1 : Option Addr) (c1_1 : Nat) (A1_2 : Option Addr) (c1_2 : Nat) (hr1_1 : Kd.C k51 w A1_1 x1.f1.length x1.f1) (hc1_1 : x1.f1.length ≤ c1_1) (hr1_2 : Kd.C k25 w A1_2 x1.f2.length x1.f2) (hc1_2 : x1.f2.length ≤ c1_2) (ub0 : wf25 x0) (ub1 : bk25 x0 ≤ 1048576) (ub2 : wf25 x1) (ub3 : bk25 x1 ≤ 1048576) :
  Calls Tryz.prog 3 #[.agg #[.int .i64 x0.f0, .slice A0_1 x0.f1.length c0_1, .slice A0_2 x0.f2.length c0_2], .agg #[.int .i64 x1.f0, .slice A1_1 x1.f1.length c1_1, .slice A1_2 x1.f2.length c1_2]] w fun e w' => e = .returned (.bool true) ∧ Below w.heap.size w w' := by
 obtain ⟨k, h⟩ := P x0 x1 ub0 ub1 ub2 ub3
 refine (aD.calls k x0.f0 A0_1 c0_1 x0.f1 A0_2 c0_2 x0.f2 x1.f0 A1_1 c1_1 x1.f1 A1_2 c1_2 x1.f2 true w hr0_1 hc0_1 hr0_2 hc0_2 hr1_1 hc1_1 hr1_2 hc1_2 h).mono ?_
 rintro e w' ⟨rfl, hd⟩
 exact ⟨rfl, hd⟩
end Go.Proofs.YtaccleilcdfapaaGreat.G
