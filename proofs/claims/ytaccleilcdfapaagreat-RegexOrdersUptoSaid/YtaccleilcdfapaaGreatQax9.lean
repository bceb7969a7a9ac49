import Derived.Test.YtaccleilcdfapaaGreatQPre
import Derived.Test.YtaccleilcdfapaaGreatQax5
import Derived.Test.YtaccleilcdfapaaGreatQax6
import Derived.Test.YtaccleilcdfapaaGreatQax8
namespace Go.Proofs.YtaccleilcdfapaaGreat.G
open Go.RowKit Go.Proofs.YtaccleilcdfapaaGreatW.PrintWords Go.Proofs.YtaccleilcdfapaaGreatW.PrintLast Go.Proofs.YtaccleilcdfapaaGreatW.PrintMore
attribute [local go_sem] dH dF dR dQ da cZ dG dE
set_option linter.unusedVariables false
set_option maxHeartbeats 8000000
set_option maxRecDepth 100000
set_option linter.unusedSimpArgs false
def fh.f (a0_0 : Int) (l0_1 : List (S51)) (l0_2 : List (S25)) : Option (Int × (List (S51)) × (List (S25))) := if a0_0 = 6 then (if 0 < (l0_2.length : Int) then (some ((an l0_2 0).f0, (an l0_2 0).f1, (an l0_2 0).f2)) else (none)) else (some (6, ([] : List (S51)), (([(⟨a0_0, l0_1, l0_2⟩ : S25)] : List (S25)))))
theorem fh.calls (a0_0 : Int) (P0_1_ : Nat → Prop) (A0_1 : Option Addr) (c0_1 : Nat) (l0_1 : List (S51)) (P0_2_ : Nat → Prop) (A0_2 : Option Addr) (c0_2 : Nat) (l0_2 : List (S25)) (r1 : Int) (r2 : List (S51)) (r3 : List (S25)) (w : World) (hs0_1 : Kd.V k51 51 w w.heap.size (fun k_ => P0_1_ k_) (.slice A0_1 l0_1.length c0_1) l0_1) (hs0_2 : Kd.V k25 25 w w.heap.size (fun k_ => P0_2_ k_) (.slice A0_2 l0_2.length c0_2) l0_2) (h : fh.f a0_0 l0_1 l0_2 = some (r1, r2, r3)) :
  Calls Tryz.prog 79 #[.agg #[.int .i64 a0_0, .slice A0_1 l0_1.length c0_1, .slice A0_2 l0_2.length c0_2]] w fun e w' => ∃ v1_ v2_ : Value, e = .returned (.agg #[.int .i64 r1, v1_, v2_]) ∧ Kd.V k51 51 w' w.heap.size (fun k_ => ((P0_1_ k_ ∨ P0_2_ k_) ∨ w.heap.size ≤ k_)) v1_ r2 ∧ Kd.V k25 25 w' w.heap.size (fun k_ => ((P0_1_ k_ ∨ P0_2_ k_) ∨ w.heap.size ≤ k_)) v2_ r3 ∧ Below w.heap.size w w' := by
 have hu25 := Tryz.underlying25
 have H1 := gz hs0_1
 have H2 := gz hs0_2
 clear hs0_1 hs0_2
 unfold fh.f at h
 go_enter Tryz.func79, Tryz.ntmps79
 by_cases c6 : a0_0 = 6
 ·rw [if_pos c6] at h
  by_cases c : 0 < (l0_2.length : Int)
  ·rw [if_pos c] at h
   simp only [Option.some.injEq, Prod.mk.injEq] at h
   obtain ⟨rfl, rfl, rfl⟩ := h
   subst c6
   go_upto_region 2 with (fail)
   have hh := hd w (bx 6 A0_1 l0_1 c0_1 A0_2 l0_2 c0_2) zx
   generalize (w.alloc (bx 6 A0_1 l0_1 c0_1 A0_2 l0_2 c0_2)).alloc zx = X at hh ⊢
   obtain ⟨HB, B0, B1, hs⟩ := hh
   have p := b3 B0.out
   have q := b3 B1.out
   obtain ⟨ad, A1, c1, A2, c2, rfl, x0, x1, x2, F1, F2⟩ := V_el0 (vO H2 HB.out) c
   go_wp2
   exact fin1 (dT B1.out) (vS F1) (vS F2) zb
  ·rw [if_neg c] at h
   cases h
 ·rw [if_neg c6] at h
  have d6 := e3 c6
  simp only [Option.some.injEq, Prod.mk.injEq] at h
  obtain ⟨rfl, rfl, rfl⟩ := h
  go_wp2
  exact fin1 (g := w.heap.size + 1) (au bN _) (dA _ _ _ _ _ _ _) (V_one (x := ⟨a0_0, l0_1, l0_2⟩) bN (vW H1) (vW H2) (.inr Z8)) zb
def dV.f (a0_0 : Int) (l0_1 : List (S51)) (l0_2 : List (S25)) : Option (Int × (List (S51)) × (List (S25))) := if a0_0 = 7 then (some (a0_0, l0_1, l0_2)) else (if a0_0 = 1 then ((dw.f).bind fun bt766 => (some (bt766.1, bt766.2.1, bt766.2.2))) else (if a0_0 = 0 then ((dw.f).bind fun bt773 => (some (bt773.1, bt773.2.1, bt773.2.2))) else (some (7, ([] : List (S51)), (([(⟨a0_0, l0_1, l0_2⟩ : S25)] : List (S25)))))))
theorem dV.calls (a0_0 : Int) (P0_1_ : Nat → Prop) (A0_1 : Option Addr) (c0_1 : Nat) (l0_1 : List (S51)) (P0_2_ : Nat → Prop) (A0_2 : Option Addr) (c0_2 : Nat) (l0_2 : List (S25)) (r1 : Int) (r2 : List (S51)) (r3 : List (S25)) (w : World) (hs0_1 : Kd.V k51 51 w w.heap.size (fun k_ => P0_1_ k_) (.slice A0_1 l0_1.length c0_1) l0_1) (hs0_2 : Kd.V k25 25 w w.heap.size (fun k_ => P0_2_ k_) (.slice A0_2 l0_2.length c0_2) l0_2) (h : dV.f a0_0 l0_1 l0_2 = some (r1, r2, r3)) :
  Calls Tryz.prog 80 #[.agg #[.int .i64 a0_0, .slice A0_1 l0_1.length c0_1, .slice A0_2 l0_2.length c0_2]] w fun e w' => ∃ v1_ v2_ : Value, e = .returned (.agg #[.int .i64 r1, v1_, v2_]) ∧ Kd.V k51 51 w' w.heap.size (fun k_ => ((P0_1_ k_ ∨ P0_2_ k_) ∨ w.heap.size ≤ k_)) v1_ r2 ∧ Kd.V k25 25 w' w.heap.size (fun k_ => ((P0_1_ k_ ∨ P0_2_ k_) ∨ w.heap.size ≤ k_)) v2_ r3 ∧ Below w.heap.size w w' := by
 have hu25 := Tryz.underlying25
 have H1 := gz hs0_1
 have H2 := gz hs0_2
 clear hs0_1 hs0_2
 unfold dV.f at h
 go_enter Tryz.func80, Tryz.ntmps80
 by_cases c7 : a0_0 = 7
 ·rw [if_pos c7] at h
  simp only [Option.some.injEq, Prod.mk.injEq] at h
  obtain ⟨rfl, rfl, rfl⟩ := h
  subst c7
  go_wp2
  exact fin1 (g := w.heap.size + 1) bN (vW H1) (vW H2) zb
 ·rw [if_neg c7] at h
  have d7 := e3 c7
  by_cases c10 : a0_0 = 1 ∨ a0_0 = 0
  ·obtain ⟨rfl, rfl, rfl⟩ : r1 = 1 ∧ r2 = [] ∧ r3 = [] := by rcases c10 with rfl | rfl <;> simp [dw.f] at h <;> simp [h]
   have hx : (a0_0 == 1) = true ∨ (a0_0 == 1) = false ∧ (a0_0 == 0) = true := by rcases c10 with rfl | rfl <;> simp
   rcases hx with hx | ⟨hx, hy⟩
   all_goals
    go_wp2_with fail
    refine (c58 _).mono ?_
    rintro e w9 ⟨A1, c1, A2, c2, rfl, hb⟩
    obtain ⟨p0, p1, p2, q0, q1, q2⟩ := b3 (ao (bN (n := w.heap.size + 1)) hb)
    have HB := gz (ai (ak (ak (Below.refl w.heap.size w) _) _) hb)
    have BK := gz (ao (bN (n := w.heap.size + 1)) hb)
    go_wp2
    exact fin1 (dT BK.out) (dA _ _ _ _ _ _ _) (dA _ _ _ _ _ _ _) zb
  ·have d1 := e3 (fun e => c10 (.inl e))
   have d0 := e3 (fun e => c10 (.inr e))
   rw [if_neg (fun e => c10 (.inl e)), if_neg (fun e => c10 (.inr e))] at h
   simp only [Option.some.injEq, Prod.mk.injEq] at h
   obtain ⟨rfl, rfl, rfl⟩ := h
   go_wp2
   exact fin1 (g := w.heap.size + 1) (au bN _) (dA _ _ _ _ _ _ _) (V_one (x := ⟨a0_0, l0_1, l0_2⟩) bN (vW H1) (vW H2) (.inr Z8)) zb
def cH.j0 : Nat → Int → List (S25) → Int → Bool → Option (Int × (List (S51)) × (List (S25)) × Int)
 | 0, _, _, _, _ => none
 | k + 1, x0, x2, x8, x20 => if x20 = true then ((ac.f k x0 x2).bind fun bt805 => (some (bt805.1, bt805.2.1, bt805.2.2.1, bt805.2.2.2))) else (if x8 = 6 then (if 0 < (x2.length : Int) then ((fh.f ((an x2 0).f0) ((an x2 0).f1) ((an x2 0).f2)).bind fun bt814 => (some (bt814.1, bt814.2.1, bt814.2.2, 0))) else (none)) else (if x8 = 7 then (if 0 < (x2.length : Int) then ((dV.f ((an x2 0).f0) ((an x2 0).f1) ((an x2 0).f2)).bind fun bt822 => (some (bt822.1, bt822.2.1, bt822.2.2, 0))) else (none)) else ((cS.f).bind fun bt829 => (some (bt829.1, bt829.2.1, bt829.2.2, 0)))))
def cH.f (k : Nat) (a0 : Int) (l1 : List (S51)) (l2 : List (S25)) : Option (Int × (List (S51)) × (List (S25)) × Int) := if a0 = 1 then ((dw.f).bind fun bt784 => (some (bt784.1, bt784.2.1, bt784.2.2, 0))) else (if a0 = 2 then ((cT.f l1).bind fun bt791 => (some (bt791.1, bt791.2.1, bt791.2.2, 0))) else (if a0 = 3 then ((cq.f k l2).bind fun bt798 => (some (bt798.1, bt798.2.1, bt798.2.2, 0))) else (if a0 = 4 then (cH.j0 k a0 l2 a0 (a0 == 4)) else (cH.j0 k a0 l2 a0 (a0 == 5)))))
theorem cH.calls (k : Nat) (a0 : Int) (P1_ : Nat → Prop) (A1 : Option Addr) (c1 : Nat) (l1 : List (S51)) (P2_ : Nat → Prop) (A2 : Option Addr) (c2 : Nat) (l2 : List (S25)) (r1 : Int) (r2 : List (S51)) (r3 : List (S25)) (r4 : Int) (w : World) (hs1 : Kd.V k51 51 w w.heap.size (fun k_ => P1_ k_) (.slice A1 l1.length c1) l1) (hs2 : Kd.V k25 25 w w.heap.size (fun k_ => P2_ k_) (.slice A2 l2.length c2) l2) (h : cH.f k a0 l1 l2 = some (r1, r2, r3, r4)) :
  Calls Tryz.prog 55 #[.int .i64 a0, .slice A1 l1.length c1, .slice A2 l2.length c2] w fun e w' => ∃ v1_ v2_ : Value, e = .returned (.tuple #[.agg #[.int .i64 r1, v1_, v2_], .int .i64 r4]) ∧ Kd.V k51 51 w' w.heap.size (fun k_ => ((P1_ k_ ∨ P2_ k_) ∨ w.heap.size ≤ k_)) v1_ r2 ∧ Kd.V k25 25 w' w.heap.size (fun k_ => ((P1_ k_ ∨ P2_ k_) ∨ w.heap.size ≤ k_)) v2_ r3 ∧ Below w.heap.size w w' := by
 have hu25 := Tryz.underlying25
 have hQ : ∀ k, ((P1_ k ∨ P2_ k) ∧ k < w.heap.size) → ((P1_ k ∨ P2_ k) ∨ w.heap.size ≤ k) ∧ k ≠ w.heap.size := fun k hk => ⟨.inl hk.1, Z8⟩
 have hR : ∀ k, ((P1_ k ∨ P2_ k) ∧ k < w.heap.size) ∨ ((P1_ k ∨ P2_ k) ∧ k < w.heap.size) → ((P1_ k ∨ P2_ k) ∨ w.heap.size ≤ k) ∧ k ≠ w.heap.size := fun k hk => hQ k (Or.elim hk id id)
 have HQ := gz (And.intro hQ hR)
 have B1 : aa ((w.alloc zx).heap[w.heap.size]? = some zx) := ⟨bN⟩
 have HB : aa (Below w.heap.size w (w.alloc zx)) := ⟨zb⟩
 have V1 : aa (Kd.V k51 51 (w.alloc zx) (w.alloc zx).heap.size (fun k => (P1_ k ∨ P2_ k) ∧ k < w.heap.size) (.slice A1 l1.length c1) l1) := ⟨V_W (V_cap hs1) zb (fun k hk => ⟨.inl hk.1, hk.2⟩)⟩
 have V2 : aa (Kd.V k25 25 (w.alloc zx) (w.alloc zx).heap.size (fun k => (P1_ k ∨ P2_ k) ∧ k < w.heap.size) (.slice A2 l2.length c2) l2) := ⟨V_W (V_cap hs2) zb (fun k hk => ⟨.inr hk.1, hk.2⟩)⟩
 clear hs1 hs2 hQ hR
 unfold cH.f at h
 go_enter Tryz.func55, Tryz.ntmps55
 by_cases k1 : a0 = 1
 ·rw [if_pos k1] at h
  obtain ⟨rfl, rfl, rfl, rfl⟩ : 1 = r1 ∧ [] = r2 ∧ [] = r3 ∧ 0 = r4 := by simpa [dw.f] using h
  subst k1
  go_wp2_with fail
  refine (c58 _).mono ?_
  rintro ee w9 hr
  obtain ⟨D1, d1, D2, d2, rfl, T⟩ := tlz (E := fun k => P1_ k ∨ P2_ k) B1 HB hr
  have q := T.2.2.2.2
  go_wp2
  exact end2 T (Nat.le_refl _)
 rw [if_neg k1] at h
 have d1 := e3 k1
 by_cases k2 : a0 = 2
 ·rw [if_pos k2] at h
  obtain ⟨⟨t1, t2, t3⟩, A, h⟩ := cC h
  simp only [Option.some.injEq, Prod.mk.injEq] at h
  obtain ⟨rfl, rfl, rfl, rfl⟩ := h
  subst k2
  go_wp2_with fail
  refine (cT.calls (fun k => (P1_ k ∨ P2_ k) ∧ k < w.heap.size) _ _ l1 t1 t2 t3 _ V1.out A).mono ?_
  rintro ee w9 hr
  obtain ⟨D1, d1, D2, d2, rfl, T⟩ := tl1 (E := fun k => P1_ k ∨ P2_ k) B1 HB HQ.out.1 hr
  have q := T.2.2.2.2
  go_wp2
  exact end2 T (Nat.le_refl _)
 rw [if_neg k2] at h
 have d2 := e3 k2
 by_cases k3 : a0 = 3
 ·rw [if_pos k3] at h
  obtain ⟨⟨t1, t2, t3⟩, A, h⟩ := cC h
  simp only [Option.some.injEq, Prod.mk.injEq] at h
  obtain ⟨rfl, rfl, rfl, rfl⟩ := h
  subst k3
  go_wp2_with fail
  refine (cq.calls k (fun k => (P1_ k ∨ P2_ k) ∧ k < w.heap.size) _ _ l2 t1 t2 t3 _ V2.out A).mono ?_
  rintro ee w9 hr
  obtain ⟨D1, d1, D2, d2, rfl, T⟩ := tl1 (E := fun k => P1_ k ∨ P2_ k) B1 HB HQ.out.1 hr
  have q := T.2.2.2.2
  go_wp2
  exact end2 T (Nat.le_refl _)
 rw [if_neg k3] at h
 have d3 := e3 k3
 have hj : ∀ a : Int, a0 = a → (a = 4 ∨ a = 5) → ∃ k1 t1 t2 t3 t4, ac.f k1 a0 l2 = some (t1, t2, t3, t4) ∧ t1 = r1 ∧ t2 = r2 ∧ t3 = r3 ∧ t4 = r4 := by
  intro a e ha
  subst e
  have h2 : ∃ b, b = true ∧ cH.j0 k a0 l2 a0 b = some (r1, r2, r3, r4) := by
   rcases ha with rfl | rfl
   ·exact ⟨true, rfl, by simpa using h⟩
   ·exact ⟨true, rfl, by simpa using h⟩
  obtain ⟨b, rfl, h2⟩ := h2
  cases k with
  | zero => simp [cH.j0] at h2
  | succ k =>
   simp only [cH.j0, if_true] at h2
   obtain ⟨⟨t1, t2, t3, t4⟩, A, h2⟩ := cC h2
   simp only [Option.some.injEq, Prod.mk.injEq] at h2
   exact ⟨k, t1, t2, t3, t4, A, h2⟩
 by_cases k4 : a0 = 4
 ·obtain ⟨kb, t1, t2, t3, t4, A, rfl, rfl, rfl, rfl⟩ := hj _ k4 (.inl rfl)
  subst k4
  clear h hj
  go_wp2_with fail
  refine (ac.calls kb _ (fun k => (P1_ k ∨ P2_ k) ∧ k < w.heap.size) _ _ l2 t1 t2 t3 t4 _ V2.out A).mono ?_
  rintro ee w9 hr
  obtain ⟨D1, d1, D2, d2, rfl, T⟩ := tl2 (E := fun k => P1_ k ∨ P2_ k) B1 HB HQ.out.1 hr
  have q := T.2.2.2.2
  go_wp2
  exact end2 T (Nat.le_refl _)
 have d4 := e3 k4
 by_cases k5 : a0 = 5
 ·obtain ⟨kb, t1, t2, t3, t4, A, rfl, rfl, rfl, rfl⟩ := hj _ k5 (.inr rfl)
  subst k5
  clear h hj
  go_wp2_with fail
  refine (ac.calls kb _ (fun k => (P1_ k ∨ P2_ k) ∧ k < w.heap.size) _ _ l2 t1 t2 t3 t4 _ V2.out A).mono ?_
  rintro ee w9 hr
  obtain ⟨D1, d1, D2, d2, rfl, T⟩ := tl2 (E := fun k => P1_ k ∨ P2_ k) B1 HB HQ.out.1 hr
  have q := T.2.2.2.2
  go_wp2
  exact end2 T (Nat.le_refl _)
 have d5 := e3 k5
 clear hj
 rw [if_neg k4, d5] at h
 cases k with
 | zero => simp [cH.j0] at h
 | succ k =>
 simp only [cH.j0, if_neg (show ¬ false = true by decide)] at h
 by_cases k6 : a0 = 6
 ·rw [if_pos k6] at h
  by_cases cl : 0 < (l2.length : Int)
  ·rw [if_pos cl] at h
   obtain ⟨⟨t1, t2, t3⟩, A, h⟩ := cC h
   simp only [Option.some.injEq, Prod.mk.injEq] at h
   obtain ⟨rfl, rfl, rfl, rfl⟩ := h
   subst k6
   go_upto_region 1 with (fail)
   generalize w.alloc zx = X at *
   obtain ⟨ad, B1', b1, B2', b2, rfl, x0, x1, x2, F1, F2⟩ := V_el0 V2 cl
   go_wp2_with fail
   refine (fh.calls _ (fun k => (P1_ k ∨ P2_ k) ∧ k < w.heap.size) _ _ _ (fun k => (P1_ k ∨ P2_ k) ∧ k < w.heap.size) _ _ _ t1 t2 t3 _ F1.out F2.out A).mono ?_
   rintro ee w9 hr
   obtain ⟨D1, d1, D2, d2, rfl, T⟩ := tl1 (E := fun k => P1_ k ∨ P2_ k) B1 HB HQ.out.2 hr
   have q := T.2.2.2.2
   go_wp2
   exact end2 T (Nat.le_refl _)
  ·rw [if_neg cl] at h
   cases h
 rw [if_neg k6] at h
 have d6 := e3 k6
 by_cases k7 : a0 = 7
 ·rw [if_pos k7] at h
  by_cases cl : 0 < (l2.length : Int)
  ·rw [if_pos cl] at h
   obtain ⟨⟨t1, t2, t3⟩, A, h⟩ := cC h
   simp only [Option.some.injEq, Prod.mk.injEq] at h
   obtain ⟨rfl, rfl, rfl, rfl⟩ := h
   subst k7
   go_upto_region 1 with (fail)
   generalize w.alloc zx = X at *
   obtain ⟨ad, B1', b1, B2', b2, rfl, x0, x1, x2, F1, F2⟩ := V_el0 V2 cl
   go_wp2_with fail
   refine (dV.calls _ (fun k => (P1_ k ∨ P2_ k) ∧ k < w.heap.size) _ _ _ (fun k => (P1_ k ∨ P2_ k) ∧ k < w.heap.size) _ _ _ t1 t2 t3 _ F1.out F2.out A).mono ?_
   rintro ee w9 hr
   obtain ⟨D1, d1, D2, d2, rfl, T⟩ := tl1 (E := fun k => P1_ k ∨ P2_ k) B1 HB HQ.out.2 hr
   have q := T.2.2.2.2
   go_wp2
   exact end2 T (Nat.le_refl _)
  ·rw [if_neg cl] at h
   cases h
 rw [if_neg k7] at h
 have d7 := e3 k7
 obtain ⟨rfl, rfl, rfl, rfl⟩ : 0 = r1 ∧ [] = r2 ∧ [] = r3 ∧ 0 = r4 := by simpa [cS.f] using h
 go_wp2_with fail
 refine (c34 _).mono ?_
 rintro ee w9 hr
 obtain ⟨D1, d1, D2, d2, rfl, T⟩ := tlz (E := fun k => P1_ k ∨ P2_ k) B1 HB hr
 have q := T.2.2.2.2
 go_wp2
 exact end2 T (Nat.le_refl _)
mutual
def cd.l0 : Nat → List (S25) → List (S25) → Int → Int → Int → List (S51) → List (S25) → Option (Int × (List (S51)) × (List (S25)) × Int)
 | 0, _, _, _, _, _, _, _ => none
 | k + 1, x4, x10, x11, x12, x837000, x837001, x837002 => if x12 < x11 then (if 0 ≤ x12 then (if x12 < (x10.length : Int) then ((cd.f k ((an x10 x12).f0) ((an x10 x12).f1) ((an x10 x12).f2)).bind fun bt848 => (if bt848.2.2.2 = 0 then (if x4.length < 2513169434916 then (cd.l0 k (x4 ++ [(⟨bt848.1, bt848.2.1, bt848.2.2.1⟩ : S25)]) x10 x11 (wrap64 (x12 + 1)) x837000 x837001 x837002) else (none)) else ((cS.f).bind fun bt860 => (some (bt860.1, bt860.2.1, bt860.2.2, bt848.2.2.2))))) else (none)) else (none)) else ((cH.f k x837000 x837001 x4).bind fun bt838 => (some (bt838.1, bt838.2.1, bt838.2.2.1, bt838.2.2.2)))
def cd.f : Nat → Int → List (S51) → List (S25) → Option (Int × (List (S51)) × (List (S25)) × Int)
 | 0, _, _, _ => none
 | k + 1, a0_0, l0_1, l0_2 => cd.l0 k ([] : List (S25)) l0_2 (l0_2.length : Int) 0 a0_0 l0_1 l0_2
end
theorem cd.calls (k : Nat) : ∀ (a0_0 : Int) (P0_1_ : Nat → Prop) (A0_1 : Option Addr) (c0_1 : Nat) (l0_1 : List (S51)) (P0_2_ : Nat → Prop) (A0_2 : Option Addr) (c0_2 : Nat) (l0_2 : List (S25)) (r1 : Int) (r2 : List (S51)) (r3 : List (S25)) (r4 : Int) (w : World) (hs0_1 : Kd.V k51 51 w w.heap.size (fun k_ => P0_1_ k_) (.slice A0_1 l0_1.length c0_1) l0_1) (hs0_2 : Kd.V k25 25 w w.heap.size (fun k_ => P0_2_ k_) (.slice A0_2 l0_2.length c0_2) l0_2) (h : cd.f k a0_0 l0_1 l0_2 = some (r1, r2, r3, r4)),
  Calls Tryz.prog 30 #[.agg #[.int .i64 a0_0, .slice A0_1 l0_1.length c0_1, .slice A0_2 l0_2.length c0_2]] w fun e w' => ∃ v1_ v2_ : Value, e = .returned (.tuple #[.agg #[.int .i64 r1, v1_, v2_], .int .i64 r4]) ∧ Kd.V k51 51 w' w.heap.size (fun k_ => ((P0_1_ k_ ∨ P0_2_ k_) ∨ w.heap.size ≤ k_)) v1_ r2 ∧ Kd.V k25 25 w' w.heap.size (fun k_ => ((P0_1_ k_ ∨ P0_2_ k_) ∨ w.heap.size ≤ k_)) v2_ r3 ∧ Below w.heap.size w w' := by
 induction k using Nat.strongRecOn with
 | _ k ih =>
 intro a0_0 P0_1_ A0_1 c0_1 l0_1 P0_2_ A0_2 c0_2 l0_2 r1 r2 r3 r4 w hs0_1 hs0_2 h
 cases k with
 | zero => exact absurd h (by simp [cd.f])
 | succ k =>
 simp only [cd.f] at h
 have hu25 := Tryz.underlying25
 have H1 := gz hs0_1
 have H2 := gz hs0_2
 have H := gz h
 clear hs0_1 hs0_2 h
 go_enter Tryz.func30, Tryz.ntmps30
 go_upto_region 1 with (fail)
 have hh := hd w (bx a0_0 A0_1 l0_1 c0_1 A0_2 l0_2 c0_2) zx
 generalize (w.alloc (bx a0_0 A0_1 l0_1 c0_1 A0_2 l0_2 c0_2)).alloc zx = X at hh ⊢
 obtain ⟨HB, B0, B1, hs⟩ := hh
 have p := b3 B0.out
 go_wp2
 go_loopg [4, 12] k (fun kq v4 v12 wr => ∃ (acc : List S25) (i : Int), v12 = .int .i64 i ∧ aa (cd.l0 kq acc l0_2 (l0_2.length : Int) i a0_0 l0_1 l0_2 = some (r1, r2, r3, r4)) ∧ aa (kq ≤ k) ∧ aa (Kd.N k25 25 wr w.heap.size (GG P0_1_ P0_2_ w.heap.size) v4 acc) ∧ aa (Below w.heap.size w wr) ∧ aa (wr.heap[w.heap.size]? = some (bx a0_0 A0_1 l0_1 c0_1 A0_2 l0_2 c0_2)) ∧ aa (wr.heap[w.heap.size + 1]? = some zx))
 case atStart => exact ⟨[], 0, rfl, H, ⟨Nat.le_refl _⟩, ⟨Kd.N_nil _ _ _ _ _⟩, HB, B0, B1⟩
 case round =>
  clear H HB B0 B1 p hs
  obtain ⟨acc, i, rfl, HA, HK, HN, HB, B0, B1⟩ := hrel
  cases gk with
  | zero => exact absurd HA.out (by simp [cd.l0])
  | succ k1 =>
  have h := HA.out
  clear HA
  simp only [cd.l0] at h
  by_cases c : i < (l0_2.length : Int)
  ·rw [if_pos c] at h
   by_cases c0 : 0 ≤ i
   ·rw [if_pos c0, if_pos c] at h
    obtain ⟨⟨t1, t2, t3, e⟩, A, h⟩ := cC h
    have h := gz h
    obtain ⟨ad, A1, c1, A2, c2, e0, x0, x1, x2, F1, F2⟩ := V_el (vO H2 HB.out) i c0 c
    cases e0
    have d := decide_eq_true c
    go_wp2_with fail
    refine (ih k1 Z20 _ (fun k => (P0_1_ k ∨ P0_2_ k) ∧ k < w.heap.size) _ _ _ (fun k => (P0_1_ k ∨ P0_2_ k) ∧ k < w.heap.size) _ _ _ t1 t2 t3 e _ (vW F1) (vW F2) A).mono ?_
    rintro ee w9 ⟨v1, v2, rfl, V1, V2, hb⟩
    obtain ⟨D1, d1, rfl⟩ := Kd.V_slice V1
    obtain ⟨D2, d2, rfl⟩ := Kd.V_slice V2
    have V1 := gz V1
    have V2 := gz V2
    have HR := gz (show Below wr.heap.size wr w9 from ai zb hb)
    have HB9 := gz (ai HB.out HR.out)
    have HZ := gz (And.intro HR.out.size (bB B1.out))
    clear hb F1 F2 x0 x1 x2 A
    have h := h.out
    by_cases ce : e = 0
    ·rw [if_pos ce] at h
     have g := e2 ce
     by_cases ca : acc.length < 2513169434916
     ·rw [if_pos ca] at h
      have h := gz h
      go_wp2_with (first | ((with_reducible refine aK (b := .append) (xs := #[.tmp 25, .tmp 27]) rfl ?_); at_builtin; refine apN (w0 := w) (x := ⟨t1, t2, t3⟩) (okp := fun k => ((P0_1_ k ∨ P0_2_ k) ∧ k < w.heap.size) ∨ wr.heap.size + 1 ≤ k) (.tmp 25) (.tmp 27) (Kd.N_below HN.out zb) (vW V1) (vW V2) ?aP ?aF zb ?aS ca ?_; (case aP => intro k hk; have := HZ.out; exact ⟨by unfold GG; grind, own_no HN.out k Z8⟩); (case aF => intro k hk; have := HZ.out; simp only [bL] at hk; exact .inr Z8); (case aS => have := HZ.out; simp only [bL]; omega); intro v5 w5 N5 b5 g5))
      go_roundg k1
      case measure => have := HK.out; omega
      case rel => exact ⟨acc ++ [⟨t1, t2, t3⟩], wrap64 (i + 1), rfl, h, ⟨Z20⟩, ⟨N5⟩, ⟨b5⟩, bkG ⟨au (ao B0.out HR.out) _⟩ g5 (own_no HN.out _ Z8), bkG ⟨au (ao B1.out HR.out) _⟩ g5 (own_no HN.out _ Z8)⟩
     ·rw [if_neg ca] at h
      cases h
    ·rw [if_neg ce] at h
     have g := e4 ce
     obtain ⟨rfl, rfl, rfl, rfl⟩ : 0 = r1 ∧ [] = r2 ∧ [] = r3 ∧ e = r4 := by simpa [cS.f] using h
     go_wp2_with fail
     refine (c34 _).mono ?_
     rintro ee w8 ⟨Z1, z1, Z2, z2, rfl, hb⟩
     have HB8 := gz (show Below w.heap.size w w8 from ai zb hb)
     have B8 := gz (ao (au (ao B1.out HR.out) _) hb)
     have q := b3 B8.out
     go_wp2
     exact fin2 (dT B8.out) (dA _ _ _ _ _ _ _) (dA _ _ _ _ _ _ _) zb
   ·rw [if_neg c0] at h
    cases h
  ·rw [if_neg c] at h
   have d := decide_eq_false c
   obtain ⟨⟨t1, t2, t3, e⟩, A, h⟩ := cC h
   simp only [Option.some.injEq, Prod.mk.injEq] at h
   obtain ⟨rfl, rfl, rfl, rfl⟩ := h
   obtain ⟨Ak, ck, rfl⟩ := Kd.N_slice HN.out
   have p := b3 B0.out
   go_wp2_with fail
   refine (cH.calls k1 a0_0 (fun k => P0_1_ k ∧ k < w.heap.size) _ _ l0_1 (GG P0_1_ P0_2_ w.heap.size) _ _ acc t1 t2 t3 e wr (vO H1 HB.out).out (Kd.N_V HN.out) A).mono ?_
   rintro ee w9 ⟨v1, v2, rfl, V1, V2, hb⟩
   obtain ⟨D1, d1, rfl⟩ := Kd.V_slice V1
   obtain ⟨D2, d2, rfl⟩ := Kd.V_slice V2
   have V1 := gz V1
   have V2 := gz V2
   have HZ := gz (bB B1.out)
   have HB9 := gz (ai HB.out hb)
   have B9 := gz (ao B1.out hb)
   have q := b3 B9.out
   go_wp2
   exact fin2 (dT B9.out) (vS V1 (fun k hk => okM HZ.out hk)) (vS V2 (fun k hk => okM HZ.out hk)) zb
def bX.j0 : Nat → Bool → Int → List (S51) → List (S25) → Option (Bool)
 | 0, _, _, _, _ => none
 | k + 1, x12, x868000, x868001, x868002 => if x12 = true then (some false) else ((cd.f k x868000 x868001 x868002).bind fun bt870 => (if bt870.2.2.2 = 0 then ((cE.f k bt870.1 bt870.2.1 bt870.2.2.1 x868000 x868001 x868002).bind fun t879 => (some t879)) else (some false)))
def bX.f (k : Nat) (a0_0 : Int) (l0_1 : List (S51)) (l0_2 : List (S25)) : Option (Bool) := (dv.f k a0_0 l0_1 l0_2).bind fun t868 => (if t868 = 0 then ((aV.f k a0_0 l0_1 l0_2).bind fun t869 => (bX.j0 k (!t869) a0_0 l0_1 l0_2)) else (bX.j0 k true a0_0 l0_1 l0_2))
theorem bX.calls (k : Nat) (a0_0 : Int) (A0_1 : Option Addr) (c0_1 : Nat) (l0_1 : List (S51)) (A0_2 : Option Addr) (c0_2 : Nat) (l0_2 : List (S25)) (r : Bool) (w : World) (hr0_1 : Kd.C k51 w A0_1 l0_1.length l0_1) (hc0_1 : l0_1.length ≤ c0_1) (hr0_2 : Kd.C k25 w A0_2 l0_2.length l0_2) (hc0_2 : l0_2.length ≤ c0_2) (h : bX.f k a0_0 l0_1 l0_2 = some r) :
  Calls Tryz.prog 12 #[.agg #[.int .i64 a0_0, .slice A0_1 l0_1.length c0_1, .slice A0_2 l0_2.length c0_2]] w fun e w' => e = .returned (.bool r) ∧ Below w.heap.size w w' := by
 have hu25 := Tryz.underlying25
 have H1 := cV51 hr0_1 hc0_1
 have H2 := cV25 hr0_2 hc0_2
 clear hr0_1 hc0_1 hr0_2 hc0_2
 unfold bX.f at h
 obtain ⟨z, A, h⟩ := cC h
 replace h := gz h
 go_enter Tryz.func12, Tryz.ntmps12
 go_wp2_with fail
 refine (dv.calls k a0_0 _ _ l0_1 _ _ l0_2 z _ (vC H1) (vL H1) (vC H2) (vL H2) A).mono ?_
 rintro ee w1 ⟨rfl, hb⟩
 have HB := below_a hb
 have B0 := blk_a hb
 have p := b3 B0.out
 clear hb A
 replace h := h.out
 have hj : ∀ j, bX.j0 j true a0_0 l0_1 l0_2 = some r → false = r := fun j e => by
  cases j with
  | zero => simp [bX.j0] at e
  | succ j => simpa [bX.j0] using e
 by_cases c : z = 0
 ·rw [if_pos c] at h
  have d := e2 c
  obtain ⟨m, A, h⟩ := cC h
  replace h := gz h
  go_wp2_with fail
  refine (aV.calls k a0_0 _ _ l0_1 _ _ l0_2 m _ (vC H1) (vL H1) (vC H2) (vL H2) A).mono ?_
  rintro ee w2 ⟨rfl, hb⟩
  replace HB := dP HB hb
  replace B0 := dO B0 hb
  clear hb A p
  have p := b3 B0.out
  replace h := h.out
  cases m with
  | false =>
   obtain rfl := hj k (by simpa using h)
   go_wp2
   go_ret
   exact ⟨rfl, HB.out⟩
  | true =>
   clear hj
   cases k with
   | zero => simp [bX.j0] at h
   | succ k =>
   simp only [bX.j0, Bool.not_true, if_neg (show ¬ false = true by decide)] at h
   obtain ⟨⟨t1, t2, t3, t4⟩, A, h⟩ := cC h
   replace h := gz h
   go_wp2_with fail
   refine (cd.calls k a0_0 (fun k => k < w.heap.size) _ _ l0_1 (fun k => k < w.heap.size) _ _ l0_2 t1 t2 t3 t4 _ (vW H1) (vW H2) A).mono ?_
   rintro ee w1 ⟨v1, v2, rfl, V1, V2, hb⟩
   obtain ⟨D1, d1, rfl⟩ := Kd.V_slice V1
   obtain ⟨D2, d2, rfl⟩ := Kd.V_slice V2
   have V1 := gz V1
   have V2 := gz V2
   replace HB := dP HB hb
   replace B0 := dO B0 hb
   clear hb A p
   have p := b3 B0.out
   replace h := h.out
   by_cases ct : t4 = 0
   ·rw [if_pos ct] at h
    have dt := e1 ct
    obtain ⟨u, A, h⟩ := cC h
    obtain rfl := Option.some.inj h
    go_upto_region 4 with (fail)
    have HX : aa (Below w1.heap.size w1 (w1.alloc (bx t1 D1 t2 d1 D2 t3 d2))) := ⟨zb⟩
    have BX : aa ((w1.alloc (bx t1 D1 t2 d1 D2 t3 d2)).heap[w1.heap.size]? = some (bx t1 D1 t2 d1 D2 t3 d2)) := ⟨bN⟩
    generalize w1.alloc (bx t1 D1 t2 d1 D2 t3 d2) = X at HX BX ⊢
    replace p := b3 (dO B0 HX.out).out
    have q := b3 BX.out
    replace HB := dP HB HX.out
    go_wp2_with fail
    refine (cE.calls k t1 _ _ t2 _ _ t3 a0_0 _ _ l0_1 _ _ l0_2 u _ (vC V1) (vL V1) (vC V2) (vL V2) (vC H1) (vL H1) (vC H2) (vL H2) A).mono ?_
    rintro ee w2 ⟨rfl, hb⟩
    replace HB := dP HB hb
    go_wp2
    go_ret
    exact ⟨rfl, HB.out⟩
   ·rw [if_neg ct] at h
    obtain rfl := Option.some.inj h
    have dt := e3 ct
    go_wp2
    go_ret
    exact ⟨rfl, ak HB.out _⟩
 ·rw [if_neg c] at h
  obtain rfl := hj k h
  have d := e4 c
  go_wp2
  go_ret
  exact ⟨rfl, HB.out⟩
def dc.f (a0 : ByteArray) (a1 : Int) : Option (Int) := some (Lib.indexByte a0.data.toList a1.toNat.toUInt8)
set_option maxHeartbeats 1000000 in
theorem dc.calls {a0 : ByteArray} {a1 : Int} {r : Int} {w : World} (h : dc.f a0 a1 = some r) :
  Calls Tryz.prog 90 #[.string a0, .int .u8 a1] w fun e w' => e = .returned (.int .i64 r) ∧ Drawn0 w w' := by
 obtain rfl := Option.some.inj h
 go_enter Tryz.func90, Tryz.ntmps90
 go_wp2
 rw [run_callFunc_extern Tryz.func105 Z5 Z5 Z5 (e := Extern.BytealgIndexByte.indexByte) Z5, Lib.run_indexByteString]
 simp only [Result.andThen]
 rw [Oper.upon_value]
 go_wp2
 go_ret
 exact ⟨rfl, Drawn0.refl _⟩
def bY.f (a0 : ByteArray) (a1 : Int) : Option (Int) := (dc.f a0 a1).bind fun t880 => (some t880)
theorem bY.calls {a0 : ByteArray} {a1 : Int} {r : Int} {w : World} (h : bY.f a0 a1 = some r) :
  Calls Tryz.prog 74 #[.string a0, .int .u8 a1] w fun e w' => e = .returned (.int .i64 r) ∧ Drawn0 w w' := by
 have H : ((dc.f a0 a1).bind fun t880 => (some t880)) = some r := h
 clear h
 replace H := bS H
 obtain ⟨t880, A3, H⟩ := H
 try dsimp only at H
 obtain rfl := Option.some.inj H
 go_enter Tryz.func74, Tryz.ntmps74
 go_wp2_with (first | ((with_reducible refine gC 90 rfl ?_); refine bl (some 7) rfl rfl Tryz.func90 Z5 rfl #[.string a0, .int .u8 a1] rfl Z1 ?_; (with_reducible refine (dc.calls A3.out).mono ?_); rintro e w' ⟨rfl, ⟨nd, rfl⟩⟩; refine ⟨_, rfl, ?_⟩))
 go_ret
 exact ⟨Z2, Z6⟩
def IsS64 (w0 W : World) (g : Nat) (f0 : ByteArray) (f1 : Int) (f2 : Int) (f3 : Int) (f4 : Int) : Prop := W.heap[g]? = some (.cells #[.string f0, .int .i64 f1, .int .i64 f2, .int .i64 f3, .int .i64 f4] 64 (0, 0)) ∧ w0.heap.size ≤ g
theorem IsS64.grown {w0 W : World} {g : Nat} {f0 : ByteArray} {f1 : Int} {f2 : Int} {f3 : Int} {f4 : Int} {W1 : World} {row : Option Nat} (h : IsS64 w0 W g f0 f1 f2 f3 f4) (hw : W.grownBy W1 row) (hne : some g ≠ row) : IsS64 w0 W1 g f0 f1 f2 f3 f4 := by
 obtain ⟨hb, hg⟩ := h
 exact ⟨blk_grown hb hw hne, hg⟩
theorem IsS64.own_neN {w0 W : World} {g : Nat} {f0 : ByteArray} {f1 : Int} {f2 : Int} {f3 : Int} {f4 : Int} {α : Type} {d : Kd α} {e : Nat} {base : Nat} {ok : Nat → Prop} {v : Value} {xs : List α} (h : IsS64 w0 W g f0 f1 f2 f3 f4) (ho : Kd.N d e W base ok v xs) (ht : e ≠ 64) : some g ≠ v.ownBlock := by
 obtain ⟨hb, hg⟩ := h
 exact Kd.N_ne ho hb ht
theorem IsS64.fresh {w0 W : World} {g : Nat} {f0 : ByteArray} {f1 : Int} {f2 : Int} {f3 : Int} {f4 : Int} (h : IsS64 w0 W g f0 f1 f2 f3 f4) : ∀ k, W.heap.size ≤ k → k ≠ g := by
 obtain ⟨hb, hg⟩ := h
 exact Kd.freshB hb
theorem IsS64.kept {w0 W : World} {g : Nat} {f0 : ByteArray} {f1 : Int} {f2 : Int} {f3 : Int} {f4 : Int} {W1 : World} {S : Nat → Prop} (h : IsS64 w0 W g f0 f1 f2 f3 f4) (hk : Kept W W1 S) (hne : ¬ S g) : IsS64 w0 W1 g f0 f1 f2 f3 f4 := by
 obtain ⟨hb, hg⟩ := h
 exact ⟨blk_kept hb hk hne, hg⟩
theorem IsS64.below {w0 W : World} {g : Nat} {f0 : ByteArray} {f1 : Int} {f2 : Int} {f3 : Int} {f4 : Int} {W1 : World} (h : IsS64 w0 W g f0 f1 f2 f3 f4) (hw : Below W.heap.size W W1) : IsS64 w0 W1 g f0 f1 f2 f3 f4 := h.grown (fg hw none) Z24
theorem IsS64.alloc {w0 W : World} {g : Nat} {f0 : ByteArray} {f1 : Int} {f2 : Int} {f3 : Int} {f4 : Int} (h : IsS64 w0 W g f0 f1 f2 f3 f4) (o : Obj) : IsS64 w0 (W.alloc o) g f0 f1 f2 f3 f4 := h.below (ak (Below.refl _ _) o)
theorem IsS64.drewN {w0 W : World} {g : Nat} {f0 : ByteArray} {f1 : Int} {f2 : Int} {f3 : Int} {f4 : Int} (h : IsS64 w0 W g f0 f1 f2 f3 f4) (m : Nat) : IsS64 w0 (W.drewN m) g f0 f1 f2 f3 f4 := h
theorem IsS64.drew {w0 W : World} {g : Nat} {f0 : ByteArray} {f1 : Int} {f2 : Int} {f3 : Int} {f4 : Int} (h : IsS64 w0 W g f0 f1 f2 f3 f4) : IsS64 w0 W.drew g f0 f1 f2 f3 f4 := h
theorem IsS64.at_ {w0 W : World} {g : Nat} {f0 : ByteArray} {f1 : Int} {f2 : Int} {f3 : Int} {f4 : Int} {w' : World} {m : Nat} (hq : W.drewN m = w') (h : IsS64 w0 W g f0 f1 f2 f3 f4) : IsS64 w0 w' g f0 f1 f2 f3 f4 := by subst hq; exact IsS64.drewN h m
theorem IsS64.apart {w0 W : World} {g : Nat} {f0 : ByteArray} {f1 : Int} {f2 : Int} {f3 : Int} {f4 : Int} {α : Type} {d : Kd α} {e : Nat} {base : Nat} {ok : Nat → Prop} {v : Value} {xs : List α} (h : IsS64 w0 W g f0 f1 f2 f3 f4) (ho : d.R e W base ok v xs) (ht : ∀ q, q ∈ e :: d.E → q ≠ 64) : d.R e W base (fun k => ok k ∧ k ≠ g) v xs := by
 obtain ⟨hb, hg⟩ := h
 exact Kd.R_types ho hb ht
theorem IsS64.own_ne {w0 W : World} {g : Nat} {f0 : ByteArray} {f1 : Int} {f2 : Int} {f3 : Int} {f4 : Int} {α : Type} {d : Kd α} {e : Nat} {base : Nat} {ok : Nat → Prop} {v : Value} {xs : List α} (h : IsS64 w0 W g f0 f1 f2 f3 f4) (ho : d.R e W base ok v xs) (ht : e ≠ 64) : some g ≠ v.ownBlock := by
 obtain ⟨hb, hg⟩ := h
 exact Kd.R_ne ho hb ht
theorem IsS64.apartQ {w0 W : World} {g : Nat} {f0 : ByteArray} {f1 : Int} {f2 : Int} {f3 : Int} {f4 : Int} {α : Type} {d : Kd α} {e : Nat} {base : Nat} {ok : Nat → Prop} {v : Value} {xs : List α} (h : IsS64 w0 W g f0 f1 f2 f3 f4) (ho : d.Q e W base ok v xs) (ht : ∀ q, q ∈ e :: d.E → q ≠ 64) : d.Q e W base (fun k => ok k ∧ k ≠ g) v xs := by
 obtain ⟨hb, hg⟩ := h
 exact Kd.Q_types ho hb ht
theorem IsS64.own_neQ {w0 W : World} {g : Nat} {f0 : ByteArray} {f1 : Int} {f2 : Int} {f3 : Int} {f4 : Int} {α : Type} {d : Kd α} {e : Nat} {base : Nat} {ok : Nat → Prop} {v : Value} {xs : List α} (h : IsS64 w0 W g f0 f1 f2 f3 f4) (ho : d.Q e W base ok v xs) (ht : e ≠ 64) : some g ≠ v.ownBlock := by
 obtain ⟨hb, hg⟩ := h
 exact Kd.Q_ne ho hb ht
theorem IsS64.apartS {w0 W : World} {g : Nat} {f0 : ByteArray} {f1 : Int} {f2 : Int} {f3 : Int} {f4 : Int} {α : Type} {d : Kd α} {e : Nat} {base : Nat} {ok : Nat → Prop} {v : Value} {xs : List α} (h : IsS64 w0 W g f0 f1 f2 f3 f4) (ho : d.S e W base ok v xs) (ht : ∀ q, q ∈ e :: d.E → q ≠ 64) : d.S e W base (fun k => ok k ∧ k ≠ g) v xs := by
 obtain ⟨hb, hg⟩ := h
 exact Kd.S_types ho hb ht
theorem IsS64.own_neS {w0 W : World} {g : Nat} {f0 : ByteArray} {f1 : Int} {f2 : Int} {f3 : Int} {f4 : Int} {α : Type} {d : Kd α} {e : Nat} {base : Nat} {ok : Nat → Prop} {v : Value} {xs : List α} (h : IsS64 w0 W g f0 f1 f2 f3 f4) (ho : d.S e W base ok v xs) (ht : e ≠ 64) : some g ≠ v.ownBlock := by
 obtain ⟨hb, hg⟩ := h
 exact Kd.S_ne ho hb ht
theorem IsS64.lt {w0 W : World} {g : Nat} {f0 : ByteArray} {f1 : Int} {f2 : Int} {f3 : Int} {f4 : Int} (h : IsS64 w0 W g f0 f1 f2 f3 f4) : g < W.heap.size := by
 obtain ⟨hb, hg⟩ := h
 exact bB hb
theorem IsS64.ge {w0 W : World} {g : Nat} {f0 : ByteArray} {f1 : Int} {f2 : Int} {f3 : Int} {f4 : Int} (h : IsS64 w0 W g f0 f1 f2 f3 f4) : w0.heap.size ≤ g := by
 obtain ⟨hb, hg⟩ := h
 exact hg
theorem IsS64.ne_blk {w0 W : World} {g : Nat} {f0 : ByteArray} {f1 : Int} {f2 : Int} {f3 : Int} {f4 : Int} {a : Nat} {cs : Array Value} {t : TypeId} {fr : Nat × Nat} (h : IsS64 w0 W g f0 f1 f2 f3 f4) (hb2 : W.heap[a]? = some (.cells cs t fr)) (ht : t ≠ 64) : g ≠ a := by
 obtain ⟨hb, hg⟩ := h
 rintro rfl
 rw [hb] at hb2
 injection hb2 with hb2
 injection hb2 with _ ht2
 exact ht ht2.symm
theorem IsS64.far {w0 W : World} {g : Nat} {f0 : ByteArray} {f1 : Int} {f2 : Int} {f3 : Int} {f4 : Int} {p : Addr} (h : IsS64 w0 W g f0 f1 f2 f3 f4) (hne : g ≠ p.block) (u : Value) : IsS64 w0 (W.setCell p u) g f0 f1 f2 f3 f4 := by
 obtain ⟨hb, hg⟩ := h
 exact ⟨fB hb hne u, hg⟩
theorem gl {W : World} {g : Nat} {f0 : ByteArray} {f1 : Int} {f2 : Int} {f3 : Int} {f4 : Int} (h : W.heap[g]? = some (.cells #[.string f0, .int .i64 f1, .int .i64 f2, .int .i64 f3, .int .i64 f4] 64 (0, 0))) : W.cell? ⟨g, 0, none⟩ = some (.string f0) := (ah h 0).trans rfl
theorem IsS64.set_0 {w0 W : World} {g : Nat} {f0 : ByteArray} {f1 : Int} {f2 : Int} {f3 : Int} {f4 : Int} (h : IsS64 w0 W g f0 f1 f2 f3 f4) (x : ByteArray) : IsS64 w0 (W.setCell ⟨g, 0, none⟩ (.string x)) g x f1 f2 f3 f4 := by
 obtain ⟨hb, hg⟩ := h
 exact ⟨by simpa using fi hb 0 (.string x), hg⟩
theorem gj {W : World} {g : Nat} {f0 : ByteArray} {f1 : Int} {f2 : Int} {f3 : Int} {f4 : Int} (h : W.heap[g]? = some (.cells #[.string f0, .int .i64 f1, .int .i64 f2, .int .i64 f3, .int .i64 f4] 64 (0, 0))) : W.cell? ⟨g, 1, none⟩ = some (.int .i64 f1) := (ah h 1).trans rfl
theorem IsS64.set_1 {w0 W : World} {g : Nat} {f0 : ByteArray} {f1 : Int} {f2 : Int} {f3 : Int} {f4 : Int} (h : IsS64 w0 W g f0 f1 f2 f3 f4) (x : Int) : IsS64 w0 (W.setCell ⟨g, 1, none⟩ (.int .i64 x)) g f0 x f2 f3 f4 := by
 obtain ⟨hb, hg⟩ := h
 exact ⟨by simpa using fi hb 1 (.int .i64 x), hg⟩
theorem gi {W : World} {g : Nat} {f0 : ByteArray} {f1 : Int} {f2 : Int} {f3 : Int} {f4 : Int} (h : W.heap[g]? = some (.cells #[.string f0, .int .i64 f1, .int .i64 f2, .int .i64 f3, .int .i64 f4] 64 (0, 0))) : W.cell? ⟨g, 2, none⟩ = some (.int .i64 f2) := (ah h 2).trans rfl
theorem IsS64.set_2 {w0 W : World} {g : Nat} {f0 : ByteArray} {f1 : Int} {f2 : Int} {f3 : Int} {f4 : Int} (h : IsS64 w0 W g f0 f1 f2 f3 f4) (x : Int) : IsS64 w0 (W.setCell ⟨g, 2, none⟩ (.int .i64 x)) g f0 f1 x f3 f4 := by
 obtain ⟨hb, hg⟩ := h
 exact ⟨by simpa using fi hb 2 (.int .i64 x), hg⟩
theorem gh {W : World} {g : Nat} {f0 : ByteArray} {f1 : Int} {f2 : Int} {f3 : Int} {f4 : Int} (h : W.heap[g]? = some (.cells #[.string f0, .int .i64 f1, .int .i64 f2, .int .i64 f3, .int .i64 f4] 64 (0, 0))) : W.cell? ⟨g, 3, none⟩ = some (.int .i64 f3) := (ah h 3).trans rfl
theorem IsS64.set_3 {w0 W : World} {g : Nat} {f0 : ByteArray} {f1 : Int} {f2 : Int} {f3 : Int} {f4 : Int} (h : IsS64 w0 W g f0 f1 f2 f3 f4) (x : Int) : IsS64 w0 (W.setCell ⟨g, 3, none⟩ (.int .i64 x)) g f0 f1 f2 x f4 := by
 obtain ⟨hb, hg⟩ := h
 exact ⟨by simpa using fi hb 3 (.int .i64 x), hg⟩
theorem gg {W : World} {g : Nat} {f0 : ByteArray} {f1 : Int} {f2 : Int} {f3 : Int} {f4 : Int} (h : W.heap[g]? = some (.cells #[.string f0, .int .i64 f1, .int .i64 f2, .int .i64 f3, .int .i64 f4] 64 (0, 0))) : W.cell? ⟨g, 4, none⟩ = some (.int .i64 f4) := (ah h 4).trans rfl
theorem IsS64.set_4 {w0 W : World} {g : Nat} {f0 : ByteArray} {f1 : Int} {f2 : Int} {f3 : Int} {f4 : Int} (h : IsS64 w0 W g f0 f1 f2 f3 f4) (x : Int) : IsS64 w0 (W.setCell ⟨g, 4, none⟩ (.int .i64 x)) g f0 f1 f2 f3 x := by
 obtain ⟨hb, hg⟩ := h
 exact ⟨by simpa using fi hb 4 (.int .i64 x), hg⟩
theorem IsS64.new (w0 W : World) (f0 : ByteArray) (f1 : Int) (f2 : Int) (f3 : Int) (f4 : Int) (hB : Below w0.heap.size w0 W) : IsS64 w0 (W.alloc (.cells #[.string f0, .int .i64 f1, .int .i64 f2, .int .i64 f3, .int .i64 f4] 64)) W.heap.size f0 f1 f2 f3 f4 := ⟨by simpa using heap_alloc_new W _, hB.size⟩
def bo.l0 : Nat → ByteArray → Int → Int → Int → Int → Option (Int × ByteArray × Int × Int × Int × Int)
 | 0, _, _, _, _, _ => none
 | k + 1, x1000, x1001, x1002, x1003, x1004 => if x1001 < (x1000.size : Int) then (if 0 ≤ x1001 then ((bY.f (⟨#[32, 9, 10, 13]⟩ : ByteArray) (bt x1000 x1001)).bind fun t881 => (if t881 ≥ 0 then (bo.l0 k x1000 (wrap64 (x1001 + 1)) x1002 x1003 x1004) else (if x1001 = (x1000.size : Int) then (some (0, x1000, x1001, x1002, x1003, x1004)) else (some (bt x1000 x1001, x1000, x1001, x1002, x1003, x1004))))) else (none)) else (if x1001 = (x1000.size : Int) then (some (0, x1000, x1001, x1002, x1003, x1004)) else (if 0 ≤ x1001 then (none) else (none)))
def bo.f (k : Nat) (s0_0 : ByteArray) (s0_1 : Int) (s0_2 : Int) (s0_3 : Int) (s0_4 : Int) : Option (Int × ByteArray × Int × Int × Int × Int) := bo.l0 k s0_0 s0_1 s0_2 s0_3 s0_4
theorem bo.calls (k : Nat) (g : Nat) (s0_0 : ByteArray) (s0_1 : Int) (s0_2 : Int) (s0_3 : Int) (s0_4 : Int) (r1 : Int) (r2 : ByteArray) (r3 : Int) (r4 : Int) (r5 : Int) (r6 : Int) (w0 w : World) (hI : IsS64 w0 w g s0_0 s0_1 s0_2 s0_3 s0_4) (hB : Below w0.heap.size w0 w) (h : bo.f k s0_0 s0_1 s0_2 s0_3 s0_4 = some (r1, r2, r3, r4, r5, r6)) :
  Calls Tryz.prog 49 #[.pointer (some ⟨g, 0, none⟩)] w fun e w' => e = .returned (.int .u8 r1) ∧ IsS64 w0 w' g r2 r3 r4 r5 r6 ∧ Below w0.heap.size w0 w' ∧ KeepBut w w' g none := by
 have HI0 := gz hI
 have HK := gz (KeepBut.refl w g none)
 have HL := gz hB.size
 clear hI
 have HW0 := gz hB.size
 have HB := gz hB
 clear hB
 have H : (bo.l0 k s0_0 s0_1 s0_2 s0_3 s0_4) = some (r1, r2, r3, r4, r5, r6) := h
 clear h
 have H' := gz H
 clear H
 go_enter Tryz.func49, Tryz.ntmps49
 go_wp2
 repeat (go_quiet (fail); try go_wp2)
 go_loopg [] k (fun kq w' => ∃ (x1001_1 : Int), aa (bo.l0 kq s0_0 x1001_1 s0_2 s0_3 s0_4 = some (r1, r2, r3, r4, r5, r6)) ∧ aa (kq ≤ k) ∧ aa (IsS64 w0 w' g s0_0 x1001_1 s0_2 s0_3 s0_4) ∧ aa (KeepBut w w' g none) ∧ aa (Below w0.heap.size w0 w'))
 case atStart => exact ⟨(s0_1), H', ⟨Nat.le_refl _⟩, ⟨Z10⟩, ⟨Z9⟩, ⟨Z12⟩⟩
 case round =>
  clear H'
  obtain ⟨x1001_1, HA, HK1, HI0, HK, HB⟩ := hrel
  cases gk with
  | zero => exact absurd HA.out (by simp [bo.l0])
  | succ k1 =>
   have H := HA.out
   clear HA
   simp only [bo.l0] at H
   by_cases c2 : x1001_1 < (s0_0.size : Int)
   ·rw [if_pos c2] at H
    have c2b0 := decide_eq_true c2
    clear c2
    by_cases c3 : 0 ≤ x1001_1
    ·rw [if_pos c3] at H
     have c3b0 := decide_eq_true c3
     clear c3
     replace H := bS H
     obtain ⟨t881, A5, H⟩ := H
     try dsimp only at H
     by_cases c6 : t881 ≥ 0
     ·rw [if_pos c6] at H
      have c6b0 : decide (0 ≤ t881) = true := decide_eq_true c6
      clear c6
      have H' := gz H
      clear H
      obtain ⟨HGz7, hgz7⟩ := HI0.out
      have hcz7_0 := gl HGz7
      have hcz7_1 := gj HGz7
      have hcz7_2 := gi HGz7
      have hcz7_3 := gh HGz7
      have hcz7_4 := gg HGz7
      have hfz7_0 := ag HGz7 0
      have hfz7_1 := ag HGz7 1
      have hfz7_2 := ag HGz7 2
      have hfz7_3 := ag HGz7 3
      have hfz7_4 := ag HGz7 4
      clear HGz7 hgz7
      have p4 : 0 ≤ (x1001_1 : Int) := of_decide_eq_true Z4
      have q4 : x1001_1 < (s0_0.size : Int) := of_decide_eq_true Z4
      have hx4 := bt_at s0_0 x1001_1
      replace p4 := eq_true p4
      replace q4 := eq_true q4
      go_wp2_with (fail)
      repeat (go_quiet (first | (go_at_call 74; (with_reducible refine (bY.calls A5.out).mono ?_); rintro e w' ⟨rfl, ⟨nd, rfl⟩⟩; (try first | exact ⟨rfl, _, World.drewN_drewN _ _ _⟩ | exact ⟨rfl, _, Eq.trans (World.drewN_drewN _ _ _) (congrArg (World.drewN _) (Nat.add_assoc _ _ _))⟩))); try go_wp2_with (fail))
      go_roundg k1
      case measure => have := HK1.out; omega
      case rel => exact ⟨(wrap64 (x1001_1 + 1)), H', ⟨Z22⟩, ⟨Z10⟩, ⟨Z9⟩, ⟨Z12⟩⟩
     ·rw [if_neg c6] at H
      have c6b0 : decide (0 ≤ t881) = false := decide_eq_false c6
      clear c6
      by_cases c8 : x1001_1 = (s0_0.size : Int)
      ·rw [if_pos c8] at H
       have c8b0 := e1 c8
       have c8b1 := e2 c8
       clear c8
       simp only [Option.some.injEq, Prod.mk.injEq] at H
       obtain ⟨rfl, rfl, rfl, rfl, rfl, rfl⟩ := H
       obtain ⟨HGz9, hgz9⟩ := HI0.out
       have hcz9_0 := gl HGz9
       have hcz9_1 := gj HGz9
       have hcz9_2 := gi HGz9
       have hcz9_3 := gh HGz9
       have hcz9_4 := gg HGz9
       have hfz9_0 := ag HGz9 0
       have hfz9_1 := ag HGz9 1
       have hfz9_2 := ag HGz9 2
       have hfz9_3 := ag HGz9 3
       have hfz9_4 := ag HGz9 4
       clear HGz9 hgz9
       have p4 : 0 ≤ (x1001_1 : Int) := of_decide_eq_true Z4
       have q4 : x1001_1 < (s0_0.size : Int) := of_decide_eq_true Z4
       have hx4 := bt_at s0_0 x1001_1
       replace p4 := eq_true p4
       replace q4 := eq_true q4
       go_wp2_with (fail)
       repeat (go_quiet (first | (go_at_call 74; (with_reducible refine (bY.calls A5.out).mono ?_); rintro e w' ⟨rfl, ⟨nd, rfl⟩⟩; (try first | exact ⟨rfl, _, World.drewN_drewN _ _ _⟩ | exact ⟨rfl, _, Eq.trans (World.drewN_drewN _ _ _) (congrArg (World.drewN _) (Nat.add_assoc _ _ _))⟩))); try go_wp2_with (fail))
       go_ret
       exact ⟨Z3, Z10, Z12, Z9⟩
      ·rw [if_neg c8] at H
       have c8b0 := e3 c8
       have c8b1 := e4 c8
       simp only [Option.some.injEq, Prod.mk.injEq] at H
       obtain ⟨rfl, rfl, rfl, rfl, rfl, rfl⟩ := H
       obtain ⟨HGz11, hgz11⟩ := HI0.out
       have hcz11_0 := gl HGz11
       have hcz11_1 := gj HGz11
       have hcz11_2 := gi HGz11
       have hcz11_3 := gh HGz11
       have hcz11_4 := gg HGz11
       have hfz11_0 := ag HGz11 0
       have hfz11_1 := ag HGz11 1
       have hfz11_2 := ag HGz11 2
       have hfz11_3 := ag HGz11 3
       have hfz11_4 := ag HGz11 4
       clear HGz11 hgz11
       have p4 : 0 ≤ (x1001_1 : Int) := of_decide_eq_true Z4
       have q4 : x1001_1 < (s0_0.size : Int) := of_decide_eq_true Z4
       have hx4 := bt_at s0_0 x1001_1
       replace p4 := eq_true p4
       replace q4 := eq_true q4
       go_wp2_with (fail)
       repeat (go_quiet (first | (go_at_call 74; (with_reducible refine (bY.calls A5.out).mono ?_); rintro e w' ⟨rfl, ⟨nd, rfl⟩⟩; (try first | exact ⟨rfl, _, World.drewN_drewN _ _ _⟩ | exact ⟨rfl, _, Eq.trans (World.drewN_drewN _ _ _) (congrArg (World.drewN _) (Nat.add_assoc _ _ _))⟩); have p10 : 0 ≤ (x1001_1 : Int) := of_decide_eq_true Z4; have q10 : x1001_1 < (s0_0.size : Int) := of_decide_eq_true Z4; have hx10 := bt_at s0_0 x1001_1; replace p10 := eq_true p10; replace q10 := eq_true q10)); try go_wp2_with (fail))
       go_ret
       exact ⟨Z3, Z10, Z12, Z9⟩
    ·rw [if_neg c3] at H
     exact absurd H Z24
   ·rw [if_neg c2] at H
    have c2b0 := decide_eq_false c2
    clear c2
    by_cases c12 : x1001_1 = (s0_0.size : Int)
    ·rw [if_pos c12] at H
     have c12b0 := e1 c12
     have c12b1 := e2 c12
     clear c12
     simp only [Option.some.injEq, Prod.mk.injEq] at H
     obtain ⟨rfl, rfl, rfl, rfl, rfl, rfl⟩ := H
     obtain ⟨HGz13, hgz13⟩ := HI0.out
     have hcz13_0 := gl HGz13
     have hcz13_1 := gj HGz13
     have hcz13_2 := gi HGz13
     have hcz13_3 := gh HGz13
     have hcz13_4 := gg HGz13
     have hfz13_0 := ag HGz13 0
     have hfz13_1 := ag HGz13 1
     have hfz13_2 := ag HGz13 2
     have hfz13_3 := ag HGz13 3
     have hfz13_4 := ag HGz13 4
     clear HGz13 hgz13
     go_wp2
     repeat (go_quiet (fail); try go_wp2)
     go_ret
     exact ⟨Z3, Z10, Z12, Z9⟩
    ·rw [if_neg c12] at H
     have c12b0 := e3 c12
     have c12b1 := e4 c12
     by_cases c14 : 0 ≤ x1001_1
     ·rw [if_pos c14] at H
      exact absurd H Z24
     ·rw [if_neg c14] at H
      exact absurd H Z24
mutual
def cK.l0 : Nat → List (S25) → List (S25) → Int → Int → Int → List (S51) → List (S25) → Option (Int × (List (S51)) × (List (S25)))
 | 0, _, _, _, _, _, _, _ => none
 | k + 1, x3, x11, x12, x13, x883000, x883001, x883002 => if x13 < x12 then (if 0 ≤ x13 then (if x13 < (x11.length : Int) then ((cK.f k ((an x11 x13).f0) ((an x11 x13).f1) ((an x11 x13).f2)).bind fun bt889 => (if x3.length < 2513169434916 then (cK.l0 k (x3 ++ [(⟨bt889.1, bt889.2.1, bt889.2.2⟩ : S25)]) x11 x12 (wrap64 (x13 + 1)) x883000 x883001 x883002) else (none))) else (none)) else (none)) else (some (x883000, x883001, x3))
def cK.f : Nat → Int → List (S51) → List (S25) → Option (Int × (List (S51)) × (List (S25)))
 | 0, _, _, _ => none
 | k + 1, a0_0, l0_1, l0_2 => (cY.f l0_1).bind fun t884 => (cK.l0 k ([] : List (S25)) l0_2 (l0_2.length : Int) 0 a0_0 t884 l0_2)
end
theorem cK.calls (k : Nat) : ∀ (a0_0 : Int) (A0_1 : Option Addr) (c0_1 : Nat) (l0_1 : List (S51)) (A0_2 : Option Addr) (c0_2 : Nat) (l0_2 : List (S25)) (r1 : Int) (r2 : List (S51)) (r3 : List (S25)) (w : World) (hr0_1 : Kd.C k51 w A0_1 l0_1.length l0_1) (hc0_1 : l0_1.length ≤ c0_1) (hr0_2 : Kd.C k25 w A0_2 l0_2.length l0_2) (hc0_2 : l0_2.length ≤ c0_2) (h : cK.f k a0_0 l0_1 l0_2 = some (r1, r2, r3)),
  Calls Tryz.prog 50 #[.agg #[.int .i64 a0_0, .slice A0_1 l0_1.length c0_1, .slice A0_2 l0_2.length c0_2]] w fun e w' => ∃ v1_ v2_ : Value, e = .returned (.agg #[.int .i64 r1, v1_, v2_]) ∧ Kd.R k51 51 w' w.heap.size (fun _ => True) v1_ r2 ∧ Kd.R k25 25 w' w.heap.size (fun k_ => some k_ ≠ (v1_ : Value).ownBlock) v2_ r3 ∧ Below w.heap.size w w' := by
 induction k using Nat.strongRecOn with
 | _ k ih =>
 intro a0_0 A0_1 c0_1 l0_1 A0_2 c0_2 l0_2 r1 r2 r3 w hr0_1 hc0_1 hr0_2 hc0_2 h
 cases k with
 | zero => exact absurd h (by simp [cK.f])
 | succ k =>
 simp only [cK.f] at h
 obtain ⟨t, A2, h⟩ := cC h
 have hu25 := Tryz.underlying25
 have HR1 := gz hr0_1
 have HC1 := gz hc0_1
 have HR2 := gz hr0_2
 have H := gz h
 have A2 := gz A2
 clear hr0_1 hc0_1 hr0_2 hc0_2 h
 go_enter Tryz.func50, Tryz.ntmps50
 go_wp2_with fail
 obtain ⟨hb0, hk1, hk2, hs⟩ := hd w (bx a0_0 A0_1 l0_1 c0_1 A0_2 l0_2 c0_2) zx
 refine (cY.calls _ _ l0_1 t _ (Kd.C_below HR1.out hb0.out) HC1.out A2.out).mono ?_
 rintro e w2 ⟨v, rfl, ho, hb⟩
 obtain ⟨A, c, rfl⟩ := Kd.R_slice ho
 have hsz := hs.out
 have hge := hb.size
 have B1 := dO hk1 hb
 have B2 := dO hk2 hb
 have HW := dP hb0 hb
 have HV := gz (Kd.R_far (p := ⟨w.heap.size, 1, none⟩) (Kd.R_mono (Kd.R_bound ho) (fun k hk => show w.heap.size + 2 ≤ k by have := hk.2.1; omega)) (fun k hk => by show k ≠ w.heap.size; omega) (.slice A t.length c))
 replace HV := gz (Kd.R_lower HV.out (show w.heap.size ≤ _ by omega))
 have p := b3 B1.out
 have hlt : w.heap.size + 2 ≤ w2.heap.size := by omega
 replace hlt := gz hlt
 clear ho hb hk1 hk2 hb0 hs hsz hge A2
 go_wp2_with fail
 replace B1 := gz (bG (cs := #[.int .i64 a0_0, .slice A0_1 l0_1.length c0_1, .slice A0_2 l0_2.length c0_2]) B1.out 1 (.slice A t.length c) rfl)
 replace B2 := gz ((Below.heap_setCell w2 ⟨w.heap.size, 1, none⟩ (.slice A t.length c) (w.heap.size + 1) (by show _ ≠ w.heap.size; omega)).trans B2.out)
 replace HW := gz (cx (j := 1) (v := .slice A t.length c) HW.out (Nat.le_refl w.heap.size))
 replace hlt := gz (show w.heap.size + 2 ≤ (w2.setCell ⟨w.heap.size, 1, none⟩ (.slice A t.length c)).heap.size by simpa using hlt.out)
 clear p
 generalize w2.setCell ⟨w.heap.size, 1, none⟩ (.slice A t.length c) = W2 at HV B1 B2 HW hlt ⊢
 go_loopg [3, 13] k (fun kq v3 v13 wr => ∃ (x3 : List S25) (i : Int), v13 = .int .i64 i ∧ aa (cK.l0 kq x3 l0_2 (l0_2.length : Int) i a0_0 t l0_2 = some (r1, r2, r3)) ∧ aa (kq ≤ k) ∧ aa (Kd.R k25 25 wr W2.heap.size (fun _ => True) v3 x3) ∧ aa (Below W2.heap.size W2 wr))
 case atStart => exact ⟨[], 0, rfl, H, ⟨Nat.le_refl _⟩, ⟨Kd.R_nil _ _ _ _ _⟩, ⟨Below.refl _ _⟩⟩
 case round =>
  clear H
  obtain ⟨x3, i, rfl, HA, HK, HO, HB⟩ := hrel
  cases gk with
  | zero => exact absurd HA.out (by simp [cK.l0])
  | succ k1 =>
  have h := HA.out
  clear HA
  simp only [cK.l0] at h
  obtain ⟨A7, c7, rfl⟩ := Kd.R_slice HO.out
  by_cases c : i < (l0_2.length : Int)
  ·rw [if_pos c] at h
   have d := decide_eq_true c
   by_cases hi0 : 0 ≤ i
   case neg => rw [if_neg hi0] at h; cases h
   rw [if_pos hi0, if_pos c] at h
   obtain ⟨⟨t1, t2, t3⟩, A, h⟩ := cC h
   simp only [Option.ite_none_right_eq_some] at h
   have L := gz h.1
   obtain ⟨ad, X1, x1, X2, x2, e0, g0, g1, g2, n1, f1, n2, f2⟩ := d8 (Kd.C_below HR2.out (ai HW.out HB.out)) i hi0 c
   cases e0
   have F := gz (And.intro n1 (And.intro f1 (And.intro n2 f2)))
   clear n1 f1 n2 f2
   have A := gz A
   have I := gz (ih k1 Z20)
   have hm := gz (Kd.R_lt HO.out)
   replace h := gz h.2
   go_wp2_with fail
   refine (I.out _ _ _ _ _ _ _ t1 t2 t3 _ (Kd.C_alloc F.out.2.1 _) F.out.1 (Kd.C_alloc F.out.2.2.2 _) F.out.2.2.1 A.out).mono ?_
   rintro ee w5 ⟨v1, v2, rfl, h1, h2, hb⟩
   obtain ⟨Y1, y1, rfl⟩ := Kd.R_slice h1
   obtain ⟨Y2, y2, rfl⟩ := Kd.R_slice h2
   have hs : W2.heap.size ≤ wr.heap.size := HB.out.size
   have hs' := hb.size
   simp only [bL] at hs'
   replace HO := gz (Kd.R_below (Kd.R_alloc HO.out _) hb)
   replace HB := dP HB (ai zb hb)
   replace h1 := gz (Kd.R_lower (Kd.R_mono (Kd.R_bound h1) (fun k hk => show wr.heap.size ≤ k by have := hk.2.1; simp only [bL] at this; omega)) (show W2.heap.size ≤ _ by simp only [bL]; omega))
   replace h2 := gz (Kd.R_lower (Kd.R_mono (Kd.R_bound h2) (fun k hk => show wr.heap.size ≤ k by have := hk.2.1; simp only [bL] at this; omega)) (show W2.heap.size ≤ _ by simp only [bL]; omega))
   clear hb hs hs'
   go_wp2_with (first | ((with_reducible refine aK (b := .append) (xs := #[.tmp 17, .tmp 20]) rfl ?_); at_builtin; refine apM (w0 := W2) (x := ⟨t1, t2, t3⟩) (.tmp 17) (.tmp 20) HO h1.out h2.out hm.out HB HB.out.size L.out ?_; intro v6 w6 n6 b6 g6; clear g6))
   go_roundg k1
   case measure => have := HK.out; omega
   case rel => exact ⟨_, wrap64 (i + 1), rfl, h, ⟨Z20⟩, ⟨n6⟩, ⟨b6⟩⟩
  ·rw [if_neg c] at h
   have d := decide_eq_false c
   simp only [Option.some.injEq, Prod.mk.injEq] at h
   obtain ⟨rfl, rfl, rfl⟩ := h
   have p := b3 (ao B1.out HB.out)
   have p' := b3 (ao B2.out HB.out)
   go_wp2
   have hv := Kd.R_lt HV.out
   have hl := hlt.out
   have b2 := (Below.heap_setCell wr ⟨w.heap.size, 2, none⟩ (.slice A7 x3.length c7) (w.heap.size + 1) (by show _ ≠ w.heap.size; omega)).trans (ao B2.out HB.out)
   exact finC (dT b2) ⟨_, _, rfl, Kd.R_mono (R_st (g := w.heap.size + 1) (Kd.R_far (p := ⟨w.heap.size, 2, none⟩) (Kd.R_below HV.out HB.out) (fun k hk => by show k ≠ w.heap.size; omega) _) (fun k hk => by omega)) (fun _ _ => trivial),
    Kd.R_lower (R_st (g := w.heap.size + 1) (Kd.R_far (p := ⟨w.heap.size, 2, none⟩) (Kd.R_mono (ok' := fun k => some k ≠ Value.ownBlock (.slice A t.length _) ∧ w.heap.size + 2 ≤ k) (Kd.R_bound HO.out) (fun k hk => ⟨fun e => by have := hv k e.symm; have := hk.2.1; omega, by have := hk.2.1; omega⟩)) (fun k hk => by show k ≠ w.heap.size; omega) _) (fun k hk => by omega)) Z8 |> fun h => Kd.R_mono h (fun _ hk => hk.1),
    cx (cx (cx (cx (ai HW.out HB.out) (Nat.le_refl _)) (Nat.le_succ _)) (Nat.le_succ _)) (Nat.le_succ _)⟩
def ft.f (s0_0 : ByteArray) (s0_1 : Int) (s0_2 : Int) (s0_3 : Int) (s0_4 : Int) (a1 : Int) : Option (ByteArray × Int × Int × Int × Int) := some (s0_0, wrap64 (s0_1 + a1), wrap64 (s0_1 + a1), s0_3, s0_4)
theorem ft.calls (g : Nat) (s0_0 : ByteArray) (s0_1 : Int) (s0_2 : Int) (s0_3 : Int) (s0_4 : Int) (a1 : Int) (r1 : ByteArray) (r2 : Int) (r3 : Int) (r4 : Int) (r5 : Int) (w0 w : World) (hI : IsS64 w0 w g s0_0 s0_1 s0_2 s0_3 s0_4) (hB : Below w0.heap.size w0 w) (h : ft.f s0_0 s0_1 s0_2 s0_3 s0_4 a1 = some (r1, r2, r3, r4, r5)) :
  Calls Tryz.prog 102 #[.pointer (some ⟨g, 0, none⟩), .int .i64 a1] w fun e w' => e = .returned (.tuple #[]) ∧ IsS64 w0 w' g r1 r2 r3 r4 r5 ∧ Below w0.heap.size w0 w' ∧ KeepBut w w' g none := by
 have HI0 := gz hI
 have HK := gz (KeepBut.refl w g none)
 have HL := gz hB.size
 clear hI
 have HW0 := gz hB.size
 have HB := gz hB
 clear hB
 have H : (some (s0_0, wrap64 (s0_1 + a1), wrap64 (s0_1 + a1), s0_3, s0_4)) = some (r1, r2, r3, r4, r5) := h
 clear h
 simp only [Option.some.injEq, Prod.mk.injEq] at H
 obtain ⟨rfl, rfl, rfl, rfl, rfl⟩ := H
 obtain ⟨HGz3, hgz3⟩ := HI0.out
 have hcz3_0 := gl HGz3
 have hcz3_1 := gj HGz3
 have hcz3_2 := gi HGz3
 have hcz3_3 := gh HGz3
 have hcz3_4 := gg HGz3
 have hfz3_0 := ag HGz3 0
 have hfz3_1 := ag HGz3 1
 have hfz3_2 := ag HGz3 2
 have hfz3_3 := ag HGz3 3
 have hfz3_4 := ag HGz3 4
 clear HGz3 hgz3
 go_enter Tryz.func102, Tryz.ntmps102
 go_wp2
 first | go_end0 | ((try simp only [Exit.inBlock, Exit.then]); refine bodyPost_ret (results_none rfl _ _ _) rfl ?_)
 exact ⟨Z3, Z10, Z12, Z9⟩
def dh.l0 : Nat → List (S51) → Int → List (S51) → Int → Int → Option ((List (S51)))
 | 0, _, _, _, _, _ => none
 | k + 1, x3, x4, x7, x8, x9 => if x9 < x8 then (if 0 ≤ x9 then (if x9 < (x7.length : Int) then (if ((aA x7 x9).f0) > x4 then (if x3.length < 17592186044416 then (dh.l0 k (x3 ++ [(⟨x4, wrap32 (((aA x7 x9).f0) - 1)⟩ : S51)]) (wrap32 (((aA x7 x9).f1) + 1)) x7 x8 (wrap64 (x9 + 1))) else (none)) else (dh.l0 k x3 (wrap32 (((aA x7 x9).f1) + 1)) x7 x8 (wrap64 (x9 + 1)))) else (none)) else (none)) else (if x4 ≤ 1114111 then (if x3.length < 17592186044416 then (some (x3 ++ [(⟨x4, 1114111⟩ : S51)])) else (none)) else (some x3))
def dh.f (k : Nat) (l0 : List (S51)) : Option ((List (S51))) := dh.l0 k ([] : List (S51)) 0 l0 (l0.length : Int) 0
theorem dh.calls (k : Nat) (A0 : Option Addr) (c0 : Nat) (l0 : List (S51)) (r : List (S51)) (w : World) (hr0 : Kd.C k51 w A0 l0.length l0) (hc0 : l0.length ≤ c0) (h : dh.f k l0 = some r) :
  Calls Tryz.prog 169 #[.slice A0 l0.length c0] w fun e w' => ∃ v0_ : Value, e = .returned (v0_) ∧ Kd.R k51 51 w' w.heap.size (fun _ => True) v0_ r ∧ Below w.heap.size w w' := by
 have hu51 := Tryz.underlying51
 have HR0 := gz hr0
 have HC0 := gz hc0
 clear hr0 hc0
 have HB := gz (Below.refl w.heap.size w)
 have H : (dh.l0 k ([] : List (S51)) 0 l0 (l0.length : Int) 0) = some r := h
 clear h
 have H' := gz H
 clear H
 go_enter Tryz.func169, Tryz.ntmps169
 go_wp2
 go_loopg [3, 4, 9] k (fun kq v3 v4 v9 w' => ∃ (x3_1 : List (S51)) (x4_1 : Int) (x9_1 : Int), v4 = .int .i32 x4_1 ∧ v9 = .int .i64 x9_1 ∧ aa (dh.l0 kq x3_1 x4_1 l0 (l0.length : Int) x9_1 = some r) ∧ aa (kq ≤ k) ∧ aa (Kd.R k51 51 w' w.heap.size (fun _ => True) v3 x3_1) ∧ aa (Below w.heap.size w w'))
 case atStart => exact ⟨(([] : List (S51))), (0), (0), Z2, Z2, H', ⟨Nat.le_refl _⟩, ⟨Z7⟩, ⟨Z0⟩⟩
 case round =>
  clear H'
  try clear c1
  obtain ⟨x3_1, x4_1, x9_1, rfl, rfl, HA, HK1, HO_3, HB⟩ := hrel
  cases gk with
  | zero => exact absurd HA.out (by simp [dh.l0])
  | succ k1 =>
   have H := HA.out
   clear HA
   simp only [dh.l0] at H
   by_cases c2 : x9_1 < (l0.length : Int)
   ·rw [if_pos c2] at H
    have c2b0 := decide_eq_true c2
    clear c2
    by_cases c3 : 0 ≤ x9_1
    ·rw [if_pos c3] at H
     have c3b0 := decide_eq_true c3
     clear c3
     by_cases c4 : x9_1 < (l0.length : Int)
     ·rw [if_pos c4] at H
      have c4b0 := decide_eq_true c4
      clear c4
      by_cases c5 : ((aA l0 x9_1).f0) > x4_1
      ·rw [if_pos c5] at H
       have c5b0 : decide (x4_1 < ((aA l0 x9_1).f0)) = true := decide_eq_true c5
       clear c5
       by_cases c6 : x3_1.length < 17592186044416
       ·rw [if_pos c6] at H
        have LMc6 := gz c6
        clear c6
        obtain ⟨y901, hy901⟩ : ∃ y_ : List (S51), y_ = (x3_1 ++ [(⟨x4_1, wrap32 (((aA l0 x9_1).f0) - 1)⟩ : S51)]) := ⟨_, rfl⟩
        replace H : (dh.l0 k1 y901 (wrap32 (((aA l0 x9_1).f1) + 1)) l0 (l0.length : Int) (wrap64 (x9_1 + 1))) = some r := by first | (rw [hy901]; with_reducible exact H) | (have H2_ := (Option.bind_some _ _).symm.trans H; rw [hy901]; with_reducible exact H2_) | (have H2_ := (Option.bind_some _ _).symm.trans H; with_reducible exact H2_) | with_reducible exact H | (rw [hy901]; exact H) | exact H
        have Ny901 := gz hy901
        clear hy901
        have H' := gz H
        clear H
        have p899 : 0 ≤ (x9_1 : Int) := of_decide_eq_true Z4
        have q899 : x9_1 < (l0.length : Int) := of_decide_eq_true Z4
        obtain ⟨ad899, e899, hx899_0, hx899_1⟩ := cI HR0.out x9_1 p899 q899
        cases e899
        replace hx899_0 := (HB.out.cell (World.block_lt_of_cell? w _ hx899_0)).trans hx899_0
        replace hx899_1 := (HB.out.cell (World.block_lt_of_cell? w _ hx899_1)).trans hx899_1
        replace p899 := eq_true p899
        replace q899 := eq_true q899
        go_wp2_with (first | ((with_reducible refine bI (N := 6) rfl ?_); refine bQ ?hg (N := 6) ?hd (cs := #[.int .i32 0, .int .i32 0]) (t := 51) ?hr ?_; (case hd => rfl); (case hg => rfl); (case hr => first | (go_simp; done) | (go_simp; rfl)); intro gb900 hg w7 hbox hb; replace HO_3 := gz (Kd.R_below (Kd.R_elderB (kK HO_3) gb900 (Nat.le_of_eq hg.symm)) hb); have BK900 := gz (hbox); have GW900 := gE hg zB; have GE900 := gE hg zB; replace HB := gz (ai zB hb); clear hb hbox hg; have hcz8_0 := bC BK900 0 (.int .i32 0); have hcz8_1 := bC BK900 1 (.int .i32 0); have hfz8_0 := ag BK900.out 0; have hfz8_1 := ag BK900.out 1) | ((with_reducible refine aK (b := .append) (xs := #[.tmp 17, .tmp 23]) rfl ?_); at_builtin; refine Kd.R_append k51 (w0 := w) w.heap.size rfl (.tmp 17) (.tmp 23) 22 51 (.agg #[(.int .i32 0), (.int .i32 0)]) 8 rfl Tryz.underlying22 info51 rfl Z27 Z8 u3 x3_1 (⟨x4_1, wrap32 (((aA l0 x9_1).f0) - 1)⟩ : S51) [.int .i32 x4_1, .int .i32 (wrap32 (((aA l0 x9_1).f0) - 1))] (fun k_ => k_ ≠ gb900) (fun _ => False) rfl (by first | (go_simp; done) | (go_simp; rfl)) ?aP (fun _ hk => hk.elim) ?aF ?aO ?aB ?aS ?aL ?_; (case aP => exact k51_mkM _ _ _ (⟨x4_1, wrap32 (((aA l0 x9_1).f0) - 1)⟩ : S51)); (case aB => exact zB); (case aF => exact (fun k_ hk => Kd.freshB (g := gb900) (o := .cells #[.int .i32 ((aA l0 x9_1).f0), .int .i32 ((aA l0 x9_1).f1)] 51 (0, 0)) (by (with_reducible repeat (first | refine az ?_ _ | refine aI ?_ | refine au ?_ _)); refine bG (cs := #[.int .i32 ((aA l0 x9_1).f0), .int .i32 0]) ?_ 1 _ rfl; (with_reducible repeat (first | refine az ?_ _ | refine aI ?_ | refine au ?_ _)); refine bG (cs := #[.int .i32 0, .int .i32 0]) ?_ 0 _ rfl; (with_reducible repeat (first | refine az ?_ _ | refine aI ?_ | refine au ?_ _)); exact BK900.out) k_ hk)); (case aO => exact (by (with_reducible repeat (first | apply Kd.R_alloc | apply Kd.R_drewN | apply Kd.R_drew)); exact Kd.R_mono (Kd.R_far (p := ⟨gb900, 1, none⟩) (Kd.R_far (p := ⟨gb900, 0, none⟩) (Kd.R_mono HO_3.out (fun k_ hk => (⟨hk, hk.2⟩ : _ ∧ k_ ≠ gb900))) (fun _ hk => hk.2) (.int .i32 ((aA l0 x9_1).f0))) (fun _ hk => hk.2) (.int .i32 ((aA l0 x9_1).f1))) (fun _ hk => hk.1.2))); (case aS => exact (aU zB)); (case aL => have := LMc6.out; omega); intro v902 w9 ho hb hg hat; rw [← Ny901.out] at ho; have n0_ := gz (blk_grown (g := gb900) (o := .cells #[.int .i32 ((aA l0 x9_1).f0), .int .i32 ((aA l0 x9_1).f1)] 51 (0, 0)) (by (with_reducible repeat (first | refine az ?_ _ | refine aI ?_ | refine au ?_ _)); refine bG (cs := #[.int .i32 ((aA l0 x9_1).f0), .int .i32 0]) ?_ 1 _ rfl; (with_reducible repeat (first | refine az ?_ _ | refine aI ?_ | refine au ?_ _)); refine bG (cs := #[.int .i32 0, .int .i32 0]) ?_ 0 _ rfl; (with_reducible repeat (first | refine az ?_ _ | refine aI ?_ | refine au ?_ _)); exact BK900.out) hg (Kd.R_away HO_3.out (fun _ hk => hk.2))); have n1_ := gz (hb); have n2_ := gz (ho); clear BK900; clear HB; clear HO_3; have BK900 := n0_; have HB := n1_; have HO903 := n2_; clear n0_ n1_ n2_; clear ho hb hg hat; have hcz10_0 := bC BK900 0 (.int .i32 ((aA l0 x9_1).f0)); have hcz10_1 := bC BK900 1 (.int .i32 ((aA l0 x9_1).f1)); have hfz10_0 := ag BK900.out 0; have hfz10_1 := ag BK900.out 1))
        go_roundg k1
        case measure => have := HK1.out; omega
        case rel => exact ⟨(y901), (wrap32 (((aA l0 x9_1).f1) + 1)), (wrap64 (x9_1 + 1)), Z2, Z2, H', ⟨Z22⟩, ⟨by (with_reducible repeat (first | apply Kd.R_alloc | apply Kd.R_drewN | apply Kd.R_drew)); exact Kd.R_mono HO903.out (fun _ hk => trivial)⟩, ⟨Z0⟩⟩
       ·rw [if_neg c6] at H
        exact absurd H Z24
      ·rw [if_neg c5] at H
       have c5b0 : decide (x4_1 < ((aA l0 x9_1).f0)) = false := decide_eq_false c5
       clear c5
       have H' := gz H
       clear H
       have p899 : 0 ≤ (x9_1 : Int) := of_decide_eq_true Z4
       have q899 : x9_1 < (l0.length : Int) := of_decide_eq_true Z4
       obtain ⟨ad899, e899, hx899_0, hx899_1⟩ := cI HR0.out x9_1 p899 q899
       cases e899
       replace hx899_0 := (HB.out.cell (World.block_lt_of_cell? w _ hx899_0)).trans hx899_0
       replace hx899_1 := (HB.out.cell (World.block_lt_of_cell? w _ hx899_1)).trans hx899_1
       replace p899 := eq_true p899
       replace q899 := eq_true q899
       go_wp2_with (first | ((with_reducible refine bI (N := 6) rfl ?_); refine bQ ?hg (N := 6) ?hd (cs := #[.int .i32 0, .int .i32 0]) (t := 51) ?hr ?_; (case hd => rfl); (case hg => rfl); (case hr => first | (go_simp; done) | (go_simp; rfl)); intro gb900 hg w11 hbox hb; replace HO_3 := gz (Kd.R_below (Kd.R_elderB (kK HO_3) gb900 (Nat.le_of_eq hg.symm)) hb); have BK900 := gz (hbox); have GW900 := gE hg zB; have GE900 := gE hg zB; replace HB := gz (ai zB hb); clear hb hbox hg; have hcz12_0 := bC BK900 0 (.int .i32 0); have hcz12_1 := bC BK900 1 (.int .i32 0); have hfz12_0 := ag BK900.out 0; have hfz12_1 := ag BK900.out 1))
       go_roundg k1
       case measure => have := HK1.out; omega
       case rel => exact ⟨(x3_1), (wrap32 (((aA l0 x9_1).f1) + 1)), (wrap64 (x9_1 + 1)), Z2, Z2, H', ⟨Z22⟩, ⟨by (with_reducible repeat (first | apply Kd.R_alloc | apply Kd.R_drewN | apply Kd.R_drew)); exact Kd.R_mono (Kd.R_far (p := ⟨gb900, 1, none⟩) (Kd.R_far (p := ⟨gb900, 0, none⟩) (Kd.R_mono HO_3.out (fun k_ hk => (⟨hk, hk.2⟩ : _ ∧ k_ ≠ gb900))) (fun _ hk => hk.2) (.int .i32 ((aA l0 x9_1).f0))) (fun _ hk => hk.2) (.int .i32 ((aA l0 x9_1).f1))) (fun _ hk => trivial)⟩, ⟨Z0⟩⟩
     ·rw [if_neg c4] at H
      exact absurd H Z24
    ·rw [if_neg c3] at H
     exact absurd H Z24
   ·rw [if_neg c2] at H
    have c2b0 := decide_eq_false c2
    clear c2
    by_cases c13 : x4_1 ≤ 1114111
    ·rw [if_pos c13] at H
     have c13b0 := decide_eq_true c13
     clear c13
     by_cases c14 : x3_1.length < 17592186044416
     ·rw [if_pos c14] at H
      have LMc14 := gz c14
      clear c14
      obtain ⟨y904, hy904⟩ : ∃ y_ : List (S51), y_ = (x3_1 ++ [(⟨x4_1, 1114111⟩ : S51)]) := ⟨_, rfl⟩
      replace H : (some y904) = some r := by first | (rw [hy904]; with_reducible exact H) | (have H2_ := (Option.bind_some _ _).symm.trans H; rw [hy904]; with_reducible exact H2_) | (have H2_ := (Option.bind_some _ _).symm.trans H; with_reducible exact H2_) | with_reducible exact H | (rw [hy904]; exact H) | exact H
      have Ny904 := gz hy904
      clear hy904
      obtain rfl := Option.some.inj H
      go_wp2_with (first | ((with_reducible refine aK (b := .append) (xs := #[.tmp 31, .tmp 34]) rfl ?_); at_builtin; refine Kd.R_append k51 (w0 := w) w.heap.size rfl (.tmp 31) (.tmp 34) 22 51 (.agg #[(.int .i32 0), (.int .i32 0)]) 8 rfl Tryz.underlying22 info51 rfl Z27 Z8 u3 x3_1 (⟨x4_1, 1114111⟩ : S51) [.int .i32 x4_1, .int .i32 1114111] (fun _ => True) (fun _ => False) rfl rfl ?aP (fun _ hk => hk.elim) ?aF ?aO ?aB ?aS ?aL ?_; (case aP => exact k51_mkM _ _ _ (⟨x4_1, 1114111⟩ : S51)); (case aB => exact zB); (case aF => exact (fun _ _ => trivial)); (case aO => exact (kK HO_3)); (case aS => exact (aU zB)); (case aL => have := LMc14.out; omega); intro v905 w15 ho hb hg hat; rw [← Ny904.out] at ho; have n0_ := gz (hb); have n1_ := gz (ho); clear HB; clear HO_3; have HB := n0_; have HO906 := n1_; clear n0_ n1_; clear ho hb hg hat))
      go_ret
      exact ⟨_, Z3, by (with_reducible repeat (first | apply Kd.R_alloc | apply Kd.R_drewN | apply Kd.R_drew)); exact HO906.out, Z0⟩
     ·rw [if_neg c14] at H
      exact absurd H Z24
    ·rw [if_neg c13] at H
     have c13b0 := decide_eq_false c13
     clear c13
     obtain rfl := Option.some.inj H
     go_wp2
     go_ret
     exact ⟨_, Z3, by (with_reducible repeat (first | apply Kd.R_alloc | apply Kd.R_drewN | apply Kd.R_drew)); exact HO_3.out, Z0⟩
end Go.Proofs.YtaccleilcdfapaaGreat.G
