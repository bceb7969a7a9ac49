import Derived.Test.YtaccleilcdfapaaGreatQPre
import Derived.Test.YtaccleilcdfapaaGreatQax0
import Derived.Test.YtaccleilcdfapaaGreatQax1
import Derived.Test.YtaccleilcdfapaaGreatQax4
namespace Go.Proofs.YtaccleilcdfapaaGreat.G
open Go.RowKit Go.Proofs.YtaccleilcdfapaaGreatW.PrintWords Go.Proofs.YtaccleilcdfapaaGreatW.PrintLast Go.Proofs.YtaccleilcdfapaaGreatW.PrintMore
attribute [local go_sem] dH dF dR dQ da cZ dG dE
set_option linter.unusedVariables false
set_option maxHeartbeats 8000000
set_option maxRecDepth 100000
set_option linter.unusedSimpArgs false
def cR.f (a0_0 : Int) (l0_1 : List (S51)) (l0_2 : List (S25)) : Option (Int × (List (S51)) × (List (S25))) := if a0_0 = 7 then (some (a0_0, l0_1, l0_2)) else (if a0_0 = 1 then ((cL.f).bind fun bt434 => (some (bt434.1, bt434.2.1, bt434.2.2))) else (if a0_0 = 0 then ((cL.f).bind fun bt441 => (some (bt441.1, bt441.2.1, bt441.2.2))) else (some (7, ([] : List (S51)), (([(⟨a0_0, l0_1, l0_2⟩ : S25)] : List (S25)))))))
theorem cR.calls (a0_0 : Int) (P0_1_ : Nat → Prop) (A0_1 : Option Addr) (c0_1 : Nat) (l0_1 : List (S51)) (P0_2_ : Nat → Prop) (A0_2 : Option Addr) (c0_2 : Nat) (l0_2 : List (S25)) (r1 : Int) (r2 : List (S51)) (r3 : List (S25)) (w : World) (hs0_1 : Kd.V k51 51 w w.heap.size (fun k_ => P0_1_ k_) (.slice A0_1 l0_1.length c0_1) l0_1) (hs0_2 : Kd.V k25 25 w w.heap.size (fun k_ => P0_2_ k_) (.slice A0_2 l0_2.length c0_2) l0_2) (h : cR.f a0_0 l0_1 l0_2 = some (r1, r2, r3)) :
  Calls Tryz.prog 68 #[.agg #[.int .i64 a0_0, .slice A0_1 l0_1.length c0_1, .slice A0_2 l0_2.length c0_2]] w fun e w' => ∃ v1_ v2_ : Value, e = .returned (.agg #[.int .i64 r1, v1_, v2_]) ∧ Kd.V k51 51 w' w.heap.size (fun k_ => ((P0_1_ k_ ∨ P0_2_ k_) ∨ w.heap.size ≤ k_)) v1_ r2 ∧ Kd.V k25 25 w' w.heap.size (fun k_ => ((P0_1_ k_ ∨ P0_2_ k_) ∨ w.heap.size ≤ k_)) v2_ r3 ∧ Below w.heap.size w w' := by
 have hu25 := Tryz.underlying25
 have H1 := gz hs0_1
 have H2 := gz hs0_2
 clear hs0_1 hs0_2
 unfold cR.f at h
 go_enter Tryz.func68, Tryz.ntmps68
 by_cases c7 : a0_0 = 7
 ·rw [if_pos c7] at h
  simp only [Option.some.injEq, Prod.mk.injEq] at h
  obtain ⟨rfl, rfl, rfl⟩ := h
  subst c7
  go_wp2
  exact fin1 (g := w.heap.size + 1) bN (vW H1) (vW H2) zb
 ·rw [if_neg c7] at h
  have d7 := e3 c7
  by_cases c10 : a0_0 = 1 ∨ a0_0 = 0
  ·obtain ⟨rfl, rfl, rfl⟩ : r1 = 1 ∧ r2 = [] ∧ r3 = [] := by rcases c10 with rfl | rfl <;> simp [cL.f] at h <;> simp [h]
   have hx : (a0_0 == 1) = true ∨ (a0_0 == 1) = false ∧ (a0_0 == 0) = true := by rcases c10 with rfl | rfl <;> simp
   rcases hx with hx | ⟨hx, hy⟩
   all_goals
    go_wp2_with fail
    refine (c84 _).mono ?_
    rintro e w9 ⟨A1, c1, A2, c2, rfl, hb⟩
    obtain ⟨p0, p1, p2, q0, q1, q2⟩ := b3 (ao (bN (n := w.heap.size + 1)) hb)
    have HB := gz (ai (ak (ak (Below.refl w.heap.size w) _) _) hb)
    have BK := gz (ao (bN (n := w.heap.size + 1)) hb)
    go_wp2
    exact fin1 (dT BK.out) (dA _ _ _ _ _ _ _) (dA _ _ _ _ _ _ _) zb
  ·have d1 := e3 (fun e => c10 (.inl e))
   have d0 := e3 (fun e => c10 (.inr e))
   rw [if_neg (fun e => c10 (.inl e)), if_neg (fun e => c10 (.inr e))] at h
   simp only [Option.some.injEq, Prod.mk.injEq] at h
   obtain ⟨rfl, rfl, rfl⟩ := h
   go_wp2
   exact fin1 (g := w.heap.size + 1) (au bN _) (dA _ _ _ _ _ _ _) (V_one (x := ⟨a0_0, l0_1, l0_2⟩) bN (vW H1) (vW H2) (.inr Z8)) zb
mutual
def aZ.l0 : Nat → List (S25) → Int → Int → List (S51) → List (S25) → Option (Int × (List (S51)) × (List (S25)) × Int)
 | 0, _, _, _, _, _ => none
 | k + 1, x4, x5, x452000, x452001, x452002 => if x5 < (x452002.length : Int) then (if 0 ≤ x5 then ((aZ.f k ((an x452002 x5).f0) ((an x452002 x5).f1) ((an x452002 x5).f2)).bind fun bt454 => (if bt454.2.2.2 = 0 then (if x4.length < 2513169434916 then (aZ.l0 k (x4 ++ [(⟨bt454.1, bt454.2.1, bt454.2.2.1⟩ : S25)]) (wrap64 (x5 + 1)) x452000 x452001 x452002) else (none)) else (some (bt454.1, bt454.2.1, bt454.2.2.1, bt454.2.2.2)))) else (none)) else (if x452000 = 2 then ((cG.f x452001).bind fun bt466 => (some (bt466.1, bt466.2.1, bt466.2.2, 0))) else (if x452000 = 3 then ((bH.f k x4).bind fun bt473 => (some (bt473.1, bt473.2.1, bt473.2.2, 0))) else (if x452000 = 4 then ((cX.f k x4).bind fun bt480 => (some (bt480.1, bt480.2.1, bt480.2.2.1, bt480.2.2.2))) else (if x452000 = 5 then ((cW.f k x4).bind fun bt488 => (some (bt488.1, bt488.2.1, bt488.2.2.1, bt488.2.2.2))) else (if x452000 = 6 then (if 0 < (x4.length : Int) then ((cU.f ((an x4 0).f0) ((an x4 0).f1) ((an x4 0).f2)).bind fun bt497 => (some (bt497.1, bt497.2.1, bt497.2.2, 0))) else (none)) else (if x452000 = 7 then (if 0 < (x4.length : Int) then ((cR.f ((an x4 0).f0) ((an x4 0).f1) ((an x4 0).f2)).bind fun bt505 => (some (bt505.1, bt505.2.1, bt505.2.2, 0))) else (none)) else (some (x452000, x452001, x452002, 0))))))))
def aZ.f : Nat → Int → List (S51) → List (S25) → Option (Int × (List (S51)) × (List (S25)) × Int)
 | 0, _, _, _ => none
 | k + 1, a0_0, l0_1, l0_2 => aZ.l0 k ([] : List (S25)) 0 a0_0 l0_1 l0_2
end
theorem aZ.calls (k : Nat) : ∀ (a0_0 : Int) (P0_1_ : Nat → Prop) (A0_1 : Option Addr) (c0_1 : Nat) (l0_1 : List (S51)) (P0_2_ : Nat → Prop) (A0_2 : Option Addr) (c0_2 : Nat) (l0_2 : List (S25)) (r1 : Int) (r2 : List (S51)) (r3 : List (S25)) (r4 : Int) (w : World) (hs0_1 : Kd.V k51 51 w w.heap.size (fun k_ => P0_1_ k_) (.slice A0_1 l0_1.length c0_1) l0_1) (hs0_2 : Kd.V k25 25 w w.heap.size (fun k_ => P0_2_ k_) (.slice A0_2 l0_2.length c0_2) l0_2) (h : aZ.f k a0_0 l0_1 l0_2 = some (r1, r2, r3, r4)),
  Calls Tryz.prog 40 #[.agg #[.int .i64 a0_0, .slice A0_1 l0_1.length c0_1, .slice A0_2 l0_2.length c0_2]] w fun e w' => ∃ v1_ v2_ : Value, e = .returned (.tuple #[.agg #[.int .i64 r1, v1_, v2_], .int .i64 r4]) ∧ Kd.V k51 51 w' w.heap.size (fun k_ => ((P0_1_ k_ ∨ P0_2_ k_) ∨ w.heap.size ≤ k_)) v1_ r2 ∧ Kd.V k25 25 w' w.heap.size (fun k_ => ((P0_1_ k_ ∨ P0_2_ k_) ∨ w.heap.size ≤ k_)) v2_ r3 ∧ Below w.heap.size w w' := by
 induction k using Nat.strongRecOn with
 | _ k ih =>
 intro a0_0 P0_1_ A0_1 c0_1 l0_1 P0_2_ A0_2 c0_2 l0_2 r1 r2 r3 r4 w hs0_1 hs0_2 h
 cases k with
 | zero => exact absurd h (by simp [aZ.f])
 | succ k =>
 simp only [aZ.f] at h
 have hu25 := Tryz.underlying25
 have H1 := gz hs0_1
 have H2 := gz hs0_2
 have H := gz h
 clear hs0_1 hs0_2 h
 go_enter Tryz.func40, Tryz.ntmps40
 go_upto_region 1 with (fail)
 have hh := hd w (bx a0_0 A0_1 l0_1 c0_1 A0_2 l0_2 c0_2) zx
 generalize (w.alloc (bx a0_0 A0_1 l0_1 c0_1 A0_2 l0_2 c0_2)).alloc zx = X at hh ⊢
 obtain ⟨HB, B0, B1, hs⟩ := hh
 go_wp2
 go_loopg [4, 5] k (fun kq v4 v5 wr => ∃ (acc : List S25) (i : Int), v5 = .int .i64 i ∧ aa (aZ.l0 kq acc i a0_0 l0_1 l0_2 = some (r1, r2, r3, r4)) ∧ aa (kq ≤ k) ∧ aa (Kd.N k25 25 wr w.heap.size (GG P0_1_ P0_2_ w.heap.size) v4 acc) ∧ aa (Below w.heap.size w wr) ∧ aa (wr.heap[w.heap.size]? = some (bx a0_0 A0_1 l0_1 c0_1 A0_2 l0_2 c0_2)) ∧ aa (wr.heap[w.heap.size + 1]? = some zx))
 case atStart => exact ⟨[], 0, rfl, H, ⟨Nat.le_refl _⟩, ⟨Kd.N_nil _ _ _ _ _⟩, HB, B0, B1⟩
 case round =>
  clear H HB B0 B1 hs
  obtain ⟨acc, i, rfl, HA, HK, HN, HB, B0, B1⟩ := hrel
  cases gk with
  | zero => exact absurd HA.out (by simp [aZ.l0])
  | succ k1 =>
  have h := HA.out
  clear HA
  simp only [aZ.l0] at h
  have p := b3 B0.out
  by_cases c : i < (l0_2.length : Int)
  ·rw [if_pos c] at h
   by_cases c0 : 0 ≤ i
   ·rw [if_pos c0] at h
    obtain ⟨⟨t1, t2, t3, e⟩, A, h⟩ := cC h
    have h := gz h
    obtain ⟨ad, A1, c1, A2, c2, e0, x0, x1, x2, F1, F2⟩ := V_el (vO H2 HB.out) i c0 c
    cases e0
    have d := decide_eq_true c
    go_wp2_with fail
    refine (ih k1 Z20 _ (fun k => (P0_1_ k ∨ P0_2_ k) ∧ k < w.heap.size) _ _ _ (fun k => (P0_1_ k ∨ P0_2_ k) ∧ k < w.heap.size) _ _ _ t1 t2 t3 e _ (vW F1) (vW F2) A).mono ?_
    rintro ee w9 ⟨v1, v2, rfl, V1, V2, hb⟩
    obtain ⟨D1, d1, rfl⟩ := Kd.V_slice V1
    obtain ⟨D2, d2, rfl⟩ := Kd.V_slice V2
    have V1 := gz V1
    have V2 := gz V2
    have HR := gz hb
    have HB9 := gz (ai HB.out HR.out)
    have HZ := gz (And.intro HR.out.size (bB B1.out))
    clear hb F1 F2 x0 x1 x2 A p
    have h := h.out
    by_cases ce : e = 0
    ·rw [if_pos ce] at h
     have g := e2 ce
     by_cases ca : acc.length < 2513169434916
     ·rw [if_pos ca] at h
      have h := gz h
      go_wp2_with (first | ((with_reducible refine aK (b := .append) (xs := #[.tmp 28, .tmp 30]) rfl ?_); at_builtin; refine apN (w0 := w) (x := ⟨t1, t2, t3⟩) (okp := fun k => ((P0_1_ k ∨ P0_2_ k) ∧ k < w.heap.size) ∨ wr.heap.size ≤ k) (.tmp 28) (.tmp 30) (Kd.N_below HN.out zb) (vW V1) (vW V2) ?aP ?aF zb ?aS ca ?_; (case aP => intro k hk; have := HZ.out; exact ⟨by unfold GG; grind, own_no HN.out k Z8⟩); (case aF => intro k hk; have := HZ.out; simp only [bL] at hk; exact .inr Z8); (case aS => have := HZ.out; simp only [bL]; omega); intro v5 w5 N5 b5 g5))
      go_roundg k1
      case measure => have := HK.out; omega
      case rel => exact ⟨acc ++ [⟨t1, t2, t3⟩], wrap64 (i + 1), rfl, h, ⟨Z20⟩, ⟨N5⟩, ⟨b5⟩, bkG ⟨au (ao B0.out HR.out) _⟩ g5 (own_no HN.out _ Z8), bkG ⟨au (ao B1.out HR.out) _⟩ g5 (own_no HN.out _ Z8)⟩
     ·rw [if_neg ca] at h
      cases h
    ·rw [if_neg ce] at h
     have g := e4 ce
     simp only [Option.some.injEq, Prod.mk.injEq] at h
     obtain ⟨rfl, rfl, rfl, rfl⟩ := h
     have B9 := gz (ao B1.out HR.out)
     go_upto_region 6 with (fail)
     have B8 := gz (au B9.out (bx t1 D1 t2 d1 D2 t3 d2))
     have q := b3 B8.out
     have V1 := gz (vW (base' := 0) (ok' := fun k => ((P0_1_ k ∨ P0_2_ k) ∧ k < w.heap.size) ∨ wr.heap.size ≤ k) (W' := w9.alloc (bx t1 D1 t2 d1 D2 t3 d2)) V1)
     have V2 := gz (vW (base' := 0) (ok' := fun k => ((P0_1_ k ∨ P0_2_ k) ∧ k < w.heap.size) ∨ wr.heap.size ≤ k) (W' := w9.alloc (bx t1 D1 t2 d1 D2 t3 d2)) V2)
     go_wp2
     exact fin2 (dT B8.out) (vS V1 (fun k hk => okR HZ.out.2 hk)) (vS V2 (fun k hk => okR HZ.out.2 hk)) zb
   ·rw [if_neg c0] at h
    cases h
  ·rw [if_neg c] at h
   have d := decide_eq_false c
   obtain ⟨Ak, ck, rfl⟩ := Kd.N_slice HN.out
   have VA := gz (Kd.N_V (base' := wr.heap.size) HN.out)
   have V1 := gz (Kd.V_mono (ok' := GG P0_1_ P0_2_ w.heap.size) (vO H1 HB.out).out (fun k hk => .inl ⟨.inl hk.1, hk.2⟩))
   by_cases k2 : a0_0 = 2
   ·rw [if_pos k2] at h
    obtain ⟨⟨t1, t2, t3⟩, A, h⟩ := cC h
    simp only [Option.some.injEq, Prod.mk.injEq] at h
    obtain ⟨rfl, rfl, rfl, rfl⟩ := h
    subst k2
    go_wp2_with fail
    refine (cG.calls (GG P0_1_ P0_2_ w.heap.size) _ _ l0_1 t1 t2 t3 wr V1.out A).mono ?_
    rintro ee w9 hr
    obtain ⟨D1, d1, D2, d2, rfl, T⟩ := tl1 (E := fun k => P0_1_ k ∨ P0_2_ k) B1 HB (fun k => GGq) hr
    have q := T.2.2.2.2
    go_wp2
    exact end2 T Z8
   rw [if_neg k2] at h
   have d2 := e3 k2
   by_cases k3 : a0_0 = 3
   ·rw [if_pos k3] at h
    obtain ⟨⟨t1, t2, t3⟩, A, h⟩ := cC h
    simp only [Option.some.injEq, Prod.mk.injEq] at h
    obtain ⟨rfl, rfl, rfl, rfl⟩ := h
    subst k3
    go_wp2_with fail
    refine (bH.calls k1 (GG P0_1_ P0_2_ w.heap.size) _ _ acc t1 t2 t3 wr VA.out A).mono ?_
    rintro ee w9 hr
    obtain ⟨D1, d1, D2, d2, rfl, T⟩ := tl1 (E := fun k => P0_1_ k ∨ P0_2_ k) B1 HB (fun k => GGq) hr
    have q := T.2.2.2.2
    go_wp2
    exact end2 T Z8
   rw [if_neg k3] at h
   have d3 := e3 k3
   by_cases k4 : a0_0 = 4
   ·rw [if_pos k4] at h
    obtain ⟨⟨t1, t2, t3, t4⟩, A, h⟩ := cC h
    simp only [Option.some.injEq, Prod.mk.injEq] at h
    obtain ⟨rfl, rfl, rfl, rfl⟩ := h
    subst k4
    go_wp2_with fail
    refine (cX.calls k1 (GG P0_1_ P0_2_ w.heap.size) _ _ acc t1 t2 t3 t4 wr VA.out A).mono ?_
    rintro ee w9 hr
    obtain ⟨D1, d1, D2, d2, rfl, T⟩ := tl2 (E := fun k => P0_1_ k ∨ P0_2_ k) B1 HB (fun k => GGq) hr
    have q := T.2.2.2.2
    go_wp2
    exact end2 T Z8
   rw [if_neg k4] at h
   have d4 := e3 k4
   by_cases k5 : a0_0 = 5
   ·rw [if_pos k5] at h
    obtain ⟨⟨t1, t2, t3, t4⟩, A, h⟩ := cC h
    simp only [Option.some.injEq, Prod.mk.injEq] at h
    obtain ⟨rfl, rfl, rfl, rfl⟩ := h
    subst k5
    go_wp2_with fail
    refine (cW.calls k1 (GG P0_1_ P0_2_ w.heap.size) _ _ acc t1 t2 t3 t4 wr VA.out A).mono ?_
    rintro ee w9 hr
    obtain ⟨D1, d1, D2, d2, rfl, T⟩ := tl2 (E := fun k => P0_1_ k ∨ P0_2_ k) B1 HB (fun k => GGq) hr
    have q := T.2.2.2.2
    go_wp2
    exact end2 T Z8
   rw [if_neg k5] at h
   have d5 := e3 k5
   by_cases k6 : a0_0 = 6
   ·rw [if_pos k6] at h
    by_cases cl : 0 < (acc.length : Int)
    ·rw [if_pos cl] at h
     obtain ⟨⟨t1, t2, t3⟩, A, h⟩ := cC h
     simp only [Option.some.injEq, Prod.mk.injEq] at h
     obtain ⟨rfl, rfl, rfl, rfl⟩ := h
     subst k6
     obtain ⟨ad, A1, c1, A2, c2, rfl, x0, x1, x2, F1, F2⟩ := V_el0 VA cl
     go_wp2_with fail
     refine (cU.calls _ (GG P0_1_ P0_2_ w.heap.size) _ _ _ (GG P0_1_ P0_2_ w.heap.size) _ _ _ t1 t2 t3 wr F1.out F2.out A).mono ?_
     rintro ee w9 hr
     obtain ⟨D1, d1, D2, d2, rfl, T⟩ := tl1 (E := fun k => P0_1_ k ∨ P0_2_ k) B1 HB (fun k => GG2) hr
     have q := T.2.2.2.2
     go_wp2
     exact end2 T Z8
    ·rw [if_neg cl] at h
     cases h
   rw [if_neg k6] at h
   have d6 := e3 k6
   by_cases k7 : a0_0 = 7
   ·rw [if_pos k7] at h
    by_cases cl : 0 < (acc.length : Int)
    ·rw [if_pos cl] at h
     obtain ⟨⟨t1, t2, t3⟩, A, h⟩ := cC h
     simp only [Option.some.injEq, Prod.mk.injEq] at h
     obtain ⟨rfl, rfl, rfl, rfl⟩ := h
     subst k7
     obtain ⟨ad, A1, c1, A2, c2, rfl, x0, x1, x2, F1, F2⟩ := V_el0 VA cl
     go_wp2_with fail
     refine (cR.calls _ (GG P0_1_ P0_2_ w.heap.size) _ _ _ (GG P0_1_ P0_2_ w.heap.size) _ _ _ t1 t2 t3 wr F1.out F2.out A).mono ?_
     rintro ee w9 hr
     obtain ⟨D1, d1, D2, d2, rfl, T⟩ := tl1 (E := fun k => P0_1_ k ∨ P0_2_ k) B1 HB (fun k => GG2) hr
     have q := T.2.2.2.2
     go_wp2
     exact end2 T Z8
    ·rw [if_neg cl] at h
     cases h
   rw [if_neg k7] at h
   have d7 := e3 k7
   simp only [Option.some.injEq, Prod.mk.injEq] at h
   obtain ⟨rfl, rfl, rfl, rfl⟩ := h
   have q := b3 B1.out
   go_wp2
   exact fin2 (dT B1.out) (vS V1 (fun k => GGq)) (vS (vO H2 HB.out) (fun k hk => ⟨.inl (.inr hk.1), Z29⟩)) zb
mutual
def bi.l0 : Nat → Int → Int → Int → List (S51) → List (S25) → Option (Int)
 | 0, _, _, _, _, _ => none
 | k + 1, x3, x4, x513000, x513001, x513002 => if x4 < (x513002.length : Int) then (if 0 ≤ x4 then ((bi.f k ((an x513002 x4).f0) ((an x513002 x4).f1) ((an x513002 x4).f2)).bind fun t514 => (bi.l0 k (wrap64 (x3 + t514)) (wrap64 (x4 + 1)) x513000 x513001 x513002)) else (none)) else (some x3)
def bi.f : Nat → Int → List (S51) → List (S25) → Option (Int)
 | 0, _, _, _ => none
 | k + 1, a0_0, l0_1, l0_2 => bi.l0 k (wrap64 (1 + (l0_1.length : Int))) 0 a0_0 l0_1 l0_2
end
theorem bi.calls (k : Nat) : ∀ (a0_0 : Int) (A0_1 : Option Addr) (c0_1 : Nat) (l0_1 : List (S51)) (A0_2 : Option Addr) (c0_2 : Nat) (l0_2 : List (S25)) (r : Int) (w : World) (hr0_1 : Kd.C k51 w A0_1 l0_1.length l0_1) (hc0_1 : l0_1.length ≤ c0_1) (hr0_2 : Kd.C k25 w A0_2 l0_2.length l0_2) (hc0_2 : l0_2.length ≤ c0_2) (h : bi.f k a0_0 l0_1 l0_2 = some r),
  Calls Tryz.prog 10 #[.agg #[.int .i64 a0_0, .slice A0_1 l0_1.length c0_1, .slice A0_2 l0_2.length c0_2]] w fun e w' => e = .returned (.int .i64 r) ∧ Below w.heap.size w w' := by
 induction k using Nat.strongRecOn with
 | _ k ih =>
 intro a0_0 A0_1 c0_1 l0_1 A0_2 c0_2 l0_2 r w hr0_1 hc0_1 hr0_2 hc0_2 h
 cases k with
 | zero => exact absurd h (by simp [bi.f])
 | succ k =>
 simp only [bi.f] at h
 have hu25 := Tryz.underlying25
 have HR0_1 := gz hr0_1
 have HC0_1 := gz hc0_1
 clear hr0_1 hc0_1
 have HR0_2 := gz hr0_2
 have HC0_2 := gz hc0_2
 clear hr0_2 hc0_2
 have HB := gz (Below.refl w.heap.size w)
 have H : (bi.l0 k (wrap64 (1 + (l0_1.length : Int))) 0 a0_0 l0_1 l0_2) = some r := h
 clear h
 have H' := gz H
 clear H
 go_enter Tryz.func10, Tryz.ntmps10
 go_wp2_with (first | ((with_reducible refine bI (N := 1) rfl ?_); refine bQ ?hg (N := 1) ?hd (cs := #[.int .i64 a0_0, .slice A0_1 l0_1.length c0_1, .slice A0_2 l0_2.length c0_2]) (t := 25) ?hr ?_; (case hd => rfl); (case hg => rfl); (case hr => first | (go_simp; done) | (go_simp; rfl)); intro gb512 hg w2 hbox hb; have BK512 := gz (hbox); have GW512 := gE hg zB; have GE512 := gE hg zB; replace HB := gz (ai zB hb); clear hb hbox hg; have hcz3_0 := bC BK512 0 (.int .i64 a0_0); have hcz3_1 := bC BK512 1 (.slice A0_1 l0_1.length c0_1); have hcz3_2 := bC BK512 2 (.slice A0_2 l0_2.length c0_2); have hfz3_0 := ag BK512.out 0; have hfz3_1 := ag BK512.out 1; have hfz3_2 := ag BK512.out 2))
 go_loopg [3, 4] k (fun kq v3 v4 w' => ∃ (x3_1 : Int) (x4_1 : Int), v3 = .int .i64 x3_1 ∧ v4 = .int .i64 x4_1 ∧ aa (bi.l0 kq x3_1 x4_1 a0_0 l0_1 l0_2 = some r) ∧ aa (kq ≤ k) ∧ aa (w'.heap[gb512]? = some (.cells #[.int .i64 a0_0, (.slice A0_1 l0_1.length c0_1), (.slice A0_2 l0_2.length c0_2)] 25 (0, 0))) ∧ aa (Below w.heap.size w w'))
 case atStart => exact ⟨(wrap64 (1 + (l0_1.length : Int))), (0), Z2, Z2, H', ⟨Nat.le_refl _⟩, ⟨by (with_reducible repeat (first | refine az ?_ _ | refine aI ?_ | refine au ?_ _)); exact BK512.out⟩, ⟨Z0⟩⟩
 case round =>
  clear H'
  try clear c1
  try clear p2
  try clear hcz3_0
  try clear hcz3_1
  try clear hcz3_2
  try clear hfz3_0
  try clear hfz3_1
  try clear hfz3_2
  obtain ⟨x3_1, x4_1, rfl, rfl, HA, HK1, BK512, HB⟩ := hrel
  cases gk with
  | zero => exact absurd HA.out (by simp [bi.l0])
  | succ k1 =>
   have H := HA.out
   clear HA
   simp only [bi.l0] at H
   by_cases c4 : x4_1 < (l0_2.length : Int)
   ·rw [if_pos c4] at H
    have c4b0 := decide_eq_true c4
    clear c4
    by_cases c5 : 0 ≤ x4_1
    ·rw [if_pos c5] at H
     have c5b0 := decide_eq_true c5
     clear c5
     replace H := bS H
     obtain ⟨t514, A6, H⟩ := H
     try dsimp only at H
     have H' := gz H
     clear H
     have hcz7_0 := bC BK512 0 (.int .i64 a0_0)
     have hcz7_1 := bC BK512 1 (.slice A0_1 l0_1.length c0_1)
     have hcz7_2 := bC BK512 2 (.slice A0_2 l0_2.length c0_2)
     have hfz7_0 := ag BK512.out 0
     have hfz7_1 := ag BK512.out 1
     have hfz7_2 := ag BK512.out 2
     have p513 : 0 ≤ (x4_1 : Int) := of_decide_eq_true Z4
     have q513 : x4_1 < (l0_2.length : Int) := of_decide_eq_true Z4
     obtain ⟨ad513, A513_1, c513_1, A513_2, c513_2, e513, hx513_0, hx513_1, hx513_2, hl513_1, hi513_1, hl513_2, hi513_2⟩ := d8 HR0_2.out x4_1 p513 q513
     cases e513
     replace hx513_0 := (HB.out.cell (World.block_lt_of_cell? w _ hx513_0)).trans hx513_0
     replace hx513_1 := (HB.out.cell (World.block_lt_of_cell? w _ hx513_1)).trans hx513_1
     replace hx513_2 := (HB.out.cell (World.block_lt_of_cell? w _ hx513_2)).trans hx513_2
     have HR513_1 := gz hi513_1
     have HC513_1 := gz hl513_1
     clear hi513_1 hl513_1
     have HR513_2 := gz hi513_2
     have HC513_2 := gz hl513_2
     clear hi513_2 hl513_2
     replace p513 := eq_true p513
     replace q513 := eq_true q513
     go_wp2_with (first | ((with_reducible refine gC 10 rfl ?_); refine bl (some 22) rfl rfl Tryz.func10 Z5 rfl #[.agg #[.int .i64 ((an l0_2 x4_1).f0), .slice A513_1 ((an l0_2 x4_1).f1).length c513_1, .slice A513_2 ((an l0_2 x4_1).f2).length c513_2]] rfl Z1 ?_; (with_reducible refine (ih k1 Z22 ((an l0_2 x4_1).f0) _ _ ((an l0_2 x4_1).f1) _ _ ((an l0_2 x4_1).f2) t514 _ ?side1 ?side2 ?side3 ?side4 A6.out).mono ?_); (case side1 => repeat (first | exact (Kd.C_below HR513_1.out HB.out) | (with_reducible refine Kd.C_alloc ?_ _) | (with_reducible refine Kd.C_drewN ?_ _) | (with_reducible refine Kd.C_drew ?_))); (case side2 => exact HC513_1.out); (case side3 => repeat (first | exact (Kd.C_below HR513_2.out HB.out) | (with_reducible refine Kd.C_alloc ?_ _) | (with_reducible refine Kd.C_drewN ?_ _) | (with_reducible refine Kd.C_drew ?_))); (case side4 => exact HC513_2.out); rintro e w8 ⟨rfl, hb⟩; refine ⟨_, rfl, ?_⟩; replace BK512 := gz (ao (g := gb512) (o := .cells #[.int .i64 a0_0, .slice A0_1 l0_1.length c0_1, .slice (some ad513) l0_2.length c0_2] 25 (0, 0)) (bK BK512) hb); replace HB := gz (ai zB hb); (try clear hb); (try clear hb2); (try clear hk); (try clear hi)))
     go_roundg k1
     case measure => have := HK1.out; omega
     case rel => exact ⟨(wrap64 (x3_1 + t514)), (wrap64 (x4_1 + 1)), Z2, Z2, H', ⟨Z22⟩, ⟨by (with_reducible repeat (first | refine az ?_ _ | refine aI ?_ | refine au ?_ _)); exact BK512.out⟩, ⟨Z0⟩⟩
    ·rw [if_neg c5] at H
     exact absurd H Z24
   ·rw [if_neg c4] at H
    have c4b0 := decide_eq_false c4
    clear c4
    obtain rfl := Option.some.inj H
    have hcz9_0 := bC BK512 0 (.int .i64 a0_0)
    have hcz9_1 := bC BK512 1 (.slice A0_1 l0_1.length c0_1)
    have hcz9_2 := bC BK512 2 (.slice A0_2 l0_2.length c0_2)
    have hfz9_0 := ag BK512.out 0
    have hfz9_1 := ag BK512.out 1
    have hfz9_2 := ag BK512.out 2
    go_wp2
    go_ret
    exact ⟨Z3, Z0⟩
mutual
def bn.l0 : Nat → Int → Int → Int → List (S51) → List (S25) → Option (Int)
 | 0, _, _, _, _, _ => none
 | k + 1, x3, x4, x516000, x516001, x516002 => if x4 < (x516002.length : Int) then (if 0 ≤ x4 then ((bn.f k ((an x516002 x4).f0) ((an x516002 x4).f1) ((an x516002 x4).f2)).bind fun t517 => (bn.l0 k (mx x3 t517) (wrap64 (x4 + 1)) x516000 x516001 x516002)) else (none)) else (some (wrap64 (x3 + 1)))
def bn.f : Nat → Int → List (S51) → List (S25) → Option (Int)
 | 0, _, _, _ => none
 | k + 1, a0_0, l0_1, l0_2 => bn.l0 k 0 0 a0_0 l0_1 l0_2
end
theorem bn.calls (k : Nat) : ∀ (a0_0 : Int) (A0_1 : Option Addr) (c0_1 : Nat) (l0_1 : List (S51)) (A0_2 : Option Addr) (c0_2 : Nat) (l0_2 : List (S25)) (r : Int) (w : World) (hr0_1 : Kd.C k51 w A0_1 l0_1.length l0_1) (hc0_1 : l0_1.length ≤ c0_1) (hr0_2 : Kd.C k25 w A0_2 l0_2.length l0_2) (hc0_2 : l0_2.length ≤ c0_2) (h : bn.f k a0_0 l0_1 l0_2 = some r),
  Calls Tryz.prog 69 #[.agg #[.int .i64 a0_0, .slice A0_1 l0_1.length c0_1, .slice A0_2 l0_2.length c0_2]] w fun e w' => e = .returned (.int .i64 r) ∧ Below w.heap.size w w' := by
 induction k using Nat.strongRecOn with
 | _ k ih =>
 intro a0_0 A0_1 c0_1 l0_1 A0_2 c0_2 l0_2 r w hr0_1 hc0_1 hr0_2 hc0_2 h
 cases k with
 | zero => exact absurd h (by simp [bn.f])
 | succ k =>
 simp only [bn.f] at h
 have hu25 := Tryz.underlying25
 have HR0_1 := gz hr0_1
 have HC0_1 := gz hc0_1
 clear hr0_1 hc0_1
 have HR0_2 := gz hr0_2
 have HC0_2 := gz hc0_2
 clear hr0_2 hc0_2
 have HB := gz (Below.refl w.heap.size w)
 have H : (bn.l0 k 0 0 a0_0 l0_1 l0_2) = some r := h
 clear h
 have H' := gz H
 clear H
 go_enter Tryz.func69, Tryz.ntmps69
 go_wp2_with (first | ((with_reducible refine bI (N := 1) rfl ?_); refine bQ ?hg (N := 1) ?hd (cs := #[.int .i64 a0_0, .slice A0_1 l0_1.length c0_1, .slice A0_2 l0_2.length c0_2]) (t := 25) ?hr ?_; (case hd => rfl); (case hg => rfl); (case hr => first | (go_simp; done) | (go_simp; rfl)); intro gb515 hg w2 hbox hb; have BK515 := gz (hbox); have GW515 := gE hg zB; have GE515 := gE hg zB; replace HB := gz (ai zB hb); clear hb hbox hg))
 go_loopg [3, 4] k (fun kq v3 v4 w' => ∃ (x3_1 : Int) (x4_1 : Int), v3 = .int .i64 x3_1 ∧ v4 = .int .i64 x4_1 ∧ aa (bn.l0 kq x3_1 x4_1 a0_0 l0_1 l0_2 = some r) ∧ aa (kq ≤ k) ∧ aa (w'.heap[gb515]? = some (.cells #[.int .i64 a0_0, (.slice A0_1 l0_1.length c0_1), (.slice A0_2 l0_2.length c0_2)] 25 (0, 0))) ∧ aa (Below w.heap.size w w'))
 case atStart => exact ⟨(0), (0), Z2, Z2, H', ⟨Nat.le_refl _⟩, ⟨by (with_reducible repeat (first | refine az ?_ _ | refine aI ?_ | refine au ?_ _)); exact BK515.out⟩, ⟨Z0⟩⟩
 case round =>
  clear H'
  try clear p2
  obtain ⟨x3_1, x4_1, rfl, rfl, HA, HK1, BK515, HB⟩ := hrel
  cases gk with
  | zero => exact absurd HA.out (by simp [bn.l0])
  | succ k1 =>
   have H := HA.out
   clear HA
   simp only [bn.l0] at H
   by_cases c3 : x4_1 < (l0_2.length : Int)
   ·rw [if_pos c3] at H
    have c3b0 := decide_eq_true c3
    clear c3
    by_cases c4 : 0 ≤ x4_1
    ·rw [if_pos c4] at H
     have c4b0 := decide_eq_true c4
     clear c4
     replace H := bS H
     obtain ⟨t517, A5, H⟩ := H
     try dsimp only at H
     obtain ⟨ji6, hji6⟩ : ∃ j_ : Int, (mx x3_1 t517) = j_ := ⟨_, rfl⟩
     replace H : (bn.l0 k1 ji6 (wrap64 (x4_1 + 1)) a0_0 l0_1 l0_2) = some r := by first | (rw [hji6] at H; exact H) | (simp only [hji6] at H ⊢; exact H)
     (try rw [hji6] at A5)
     have hji6_ : (if x3_1 < t517 then t517 else x3_1) = ji6 := hji6
     have H' := gz H
     clear H
     have hcz7_0 := bC BK515 0 (.int .i64 a0_0)
     have hcz7_1 := bC BK515 1 (.slice A0_1 l0_1.length c0_1)
     have hcz7_2 := bC BK515 2 (.slice A0_2 l0_2.length c0_2)
     have hfz7_0 := ag BK515.out 0
     have hfz7_1 := ag BK515.out 1
     have hfz7_2 := ag BK515.out 2
     have p516 : 0 ≤ (x4_1 : Int) := of_decide_eq_true Z4
     have q516 : x4_1 < (l0_2.length : Int) := of_decide_eq_true Z4
     obtain ⟨ad516, A516_1, c516_1, A516_2, c516_2, e516, hx516_0, hx516_1, hx516_2, hl516_1, hi516_1, hl516_2, hi516_2⟩ := d8 HR0_2.out x4_1 p516 q516
     cases e516
     replace hx516_0 := (HB.out.cell (World.block_lt_of_cell? w _ hx516_0)).trans hx516_0
     replace hx516_1 := (HB.out.cell (World.block_lt_of_cell? w _ hx516_1)).trans hx516_1
     replace hx516_2 := (HB.out.cell (World.block_lt_of_cell? w _ hx516_2)).trans hx516_2
     have HR516_1 := gz hi516_1
     have HC516_1 := gz hl516_1
     clear hi516_1 hl516_1
     have HR516_2 := gz hi516_2
     have HC516_2 := gz hl516_2
     clear hi516_2 hl516_2
     replace p516 := eq_true p516
     replace q516 := eq_true q516
     go_wp2_with (first | ((with_reducible refine gC 69 rfl ?_); refine bl (some 18) rfl rfl Tryz.func69 Z5 rfl #[.agg #[.int .i64 ((an l0_2 x4_1).f0), .slice A516_1 ((an l0_2 x4_1).f1).length c516_1, .slice A516_2 ((an l0_2 x4_1).f2).length c516_2]] rfl Z1 ?_; (with_reducible refine (ih k1 Z22 ((an l0_2 x4_1).f0) _ _ ((an l0_2 x4_1).f1) _ _ ((an l0_2 x4_1).f2) t517 _ ?side1 ?side2 ?side3 ?side4 A5.out).mono ?_); (case side1 => repeat (first | exact (Kd.C_below HR516_1.out HB.out) | (with_reducible refine Kd.C_alloc ?_ _) | (with_reducible refine Kd.C_drewN ?_ _) | (with_reducible refine Kd.C_drew ?_))); (case side2 => exact HC516_1.out); (case side3 => repeat (first | exact (Kd.C_below HR516_2.out HB.out) | (with_reducible refine Kd.C_alloc ?_ _) | (with_reducible refine Kd.C_drewN ?_ _) | (with_reducible refine Kd.C_drew ?_))); (case side4 => exact HC516_2.out); rintro e w8 ⟨rfl, hb⟩; refine ⟨_, rfl, ?_⟩; replace BK515 := gz (ao (g := gb515) (o := .cells #[.int .i64 a0_0, .slice A0_1 l0_1.length c0_1, .slice (some ad516) l0_2.length c0_2] 25 (0, 0)) (bK BK515) hb); replace HB := gz (ai zB hb); (try clear hb); (try clear hb2); (try clear hk); (try clear hi)))
     go_roundg k1
     case measure => have := HK1.out; omega
     case rel => exact ⟨(ji6), (wrap64 (x4_1 + 1)), (by first | rfl | (simp; done) | (simp only [← hji6] <;> (first | rfl | (simp; done))) | (simp only [← hji6] <;> rw [fN]) | (simp only [← hji6] <;> simp <;> omega) | (simp [*]; done) | (simp <;> omega) | rw [fN]), Z2, H', ⟨Z22⟩, ⟨by (with_reducible repeat (first | refine az ?_ _ | refine aI ?_ | refine au ?_ _)); exact BK515.out⟩, ⟨Z0⟩⟩
    ·rw [if_neg c4] at H
     exact absurd H Z24
   ·rw [if_neg c3] at H
    have c3b0 := decide_eq_false c3
    clear c3
    obtain rfl := Option.some.inj H
    have hcz9_0 := bC BK515 0 (.int .i64 a0_0)
    have hcz9_1 := bC BK515 1 (.slice A0_1 l0_1.length c0_1)
    have hcz9_2 := bC BK515 2 (.slice A0_2 l0_2.length c0_2)
    have hfz9_0 := ag BK515.out 0
    have hfz9_1 := ag BK515.out 1
    have hfz9_2 := ag BK515.out 2
    go_wp2
    go_ret
    exact ⟨Z3, Z0⟩
def cV.f (k : Nat) (a0_0 : Int) (l0_1 : List (S51)) (l0_2 : List (S25)) : Option (Int) := (bi.f k a0_0 l0_1 l0_2).bind fun t519 => (if t519 > 4096 then (some 41) else ((bn.f k a0_0 l0_1 l0_2).bind fun t520 => (if t520 > 64 then (some 42) else (some 0))))
theorem cV.calls (k : Nat) (a0_0 : Int) (A0_1 : Option Addr) (c0_1 : Nat) (l0_1 : List (S51)) (A0_2 : Option Addr) (c0_2 : Nat) (l0_2 : List (S25)) (r : Int) (w : World) (hr0_1 : Kd.C k51 w A0_1 l0_1.length l0_1) (hc0_1 : l0_1.length ≤ c0_1) (hr0_2 : Kd.C k25 w A0_2 l0_2.length l0_2) (hc0_2 : l0_2.length ≤ c0_2) (h : cV.f k a0_0 l0_1 l0_2 = some r) :
  Calls Tryz.prog 41 #[.agg #[.int .i64 a0_0, .slice A0_1 l0_1.length c0_1, .slice A0_2 l0_2.length c0_2]] w fun e w' => e = .returned (.int .i64 r) ∧ Below w.heap.size w w' := by
 have hu25 := Tryz.underlying25
 have H1 := cV51 hr0_1 hc0_1
 have H2 := cV25 hr0_2 hc0_2
 clear hr0_1 hc0_1 hr0_2 hc0_2
 unfold cV.f at h
 obtain ⟨t, A, h⟩ := cC h
 replace h := gz h
 go_enter Tryz.func41, Tryz.ntmps41
 go_wp2_with fail
 refine (bi.calls k a0_0 _ _ l0_1 _ _ l0_2 t _ (vC H1) (vL H1) (vC H2) (vL H2) A).mono ?_
 rintro ee w1 ⟨rfl, hb⟩
 have HB := below_a hb
 have B0 := blk_a hb
 have p := b3 B0.out
 clear hb A
 replace h := h.out
 by_cases c : t > 4096
 ·rw [if_pos c] at h
  obtain rfl := Option.some.inj h
  have d := decide_eq_true c
  go_wp2
  go_ret
  exact ⟨rfl, HB.out⟩
 ·rw [if_neg c] at h
  have d := decide_eq_false c
  obtain ⟨u, A, h⟩ := cC h
  replace h := gz h
  go_wp2_with fail
  refine (bn.calls k a0_0 _ _ l0_1 _ _ l0_2 u _ (vC H1) (vL H1) (vC H2) (vL H2) A).mono ?_
  rintro ee w2 ⟨rfl, hb⟩
  have HB := dP HB hb
  clear hb A p
  replace h := h.out
  by_cases c : u > 64
  ·rw [if_pos c] at h
   obtain rfl := Option.some.inj h
   have d := decide_eq_true c
   go_wp2
   go_ret
   exact ⟨rfl, HB.out⟩
  ·rw [if_neg c] at h
   obtain rfl := Option.some.inj h
   have d := decide_eq_false c
   go_wp2
   go_ret
   exact ⟨rfl, HB.out⟩
def bg.j0 : Nat → Bool → Int → List (S51) → List (S25) → Option (Int × (List (S51)) × (List (S25)) × Int)
 | 0, _, _, _, _ => none
 | k + 1, x13, x522000, x522001, x522002 => if x13 = true then (some (0, ([] : List (S51)), ([] : List (S25)), 40)) else ((aZ.f k x522000 x522001 x522002).bind fun bt525 => (if bt525.2.2.2 = 0 then ((cV.f k bt525.1 bt525.2.1 bt525.2.2.1).bind fun t534 => (if t534 = 0 then (some (bt525.1, bt525.2.1, bt525.2.2.1, t534)) else (some (0, ([] : List (S51)), ([] : List (S25)), t534)))) else (some (0, ([] : List (S51)), ([] : List (S25)), bt525.2.2.2))))
def bg.f (k : Nat) (a0_0 : Int) (l0_1 : List (S51)) (l0_2 : List (S25)) : Option (Int × (List (S51)) × (List (S25)) × Int) := (dM.f k a0_0 l0_1 l0_2).bind fun t523 => (if t523 = true then ((br.f k a0_0 l0_1 l0_2).bind fun t524 => (bg.j0 k (!t524) a0_0 l0_1 l0_2)) else (bg.j0 k true a0_0 l0_1 l0_2))
theorem bg.calls (k : Nat) (a0_0 : Int) (P0_1_ : Nat → Prop) (A0_1 : Option Addr) (c0_1 : Nat) (l0_1 : List (S51)) (P0_2_ : Nat → Prop) (A0_2 : Option Addr) (c0_2 : Nat) (l0_2 : List (S25)) (r1 : Int) (r2 : List (S51)) (r3 : List (S25)) (r4 : Int) (w : World) (hs0_1 : Kd.V k51 51 w w.heap.size (fun k_ => P0_1_ k_) (.slice A0_1 l0_1.length c0_1) l0_1) (hs0_2 : Kd.V k25 25 w w.heap.size (fun k_ => P0_2_ k_) (.slice A0_2 l0_2.length c0_2) l0_2) (h : bg.f k a0_0 l0_1 l0_2 = some (r1, r2, r3, r4)) :
  Calls Tryz.prog 22 #[.agg #[.int .i64 a0_0, .slice A0_1 l0_1.length c0_1, .slice A0_2 l0_2.length c0_2]] w fun e w' => ∃ v1_ v2_ : Value, e = .returned (.tuple #[.agg #[.int .i64 r1, v1_, v2_], .int .i64 r4]) ∧ Kd.V k51 51 w' w.heap.size (fun k_ => ((P0_1_ k_ ∨ P0_2_ k_) ∨ w.heap.size ≤ k_)) v1_ r2 ∧ Kd.V k25 25 w' w.heap.size (fun k_ => ((P0_1_ k_ ∨ P0_2_ k_) ∨ w.heap.size ≤ k_)) v2_ r3 ∧ Below w.heap.size w w' := by
 have hu25 := Tryz.underlying25
 have H1 := gz hs0_1
 have H2 := gz hs0_2
 clear hs0_1 hs0_2
 unfold bg.f at h
 obtain ⟨bf, Af, h⟩ := cC h
 have Af := gz Af
 replace h := gz h
 go_enter Tryz.func22, Tryz.ntmps22
 go_upto_region 1 with (fail)
 have hh := hd w (bx a0_0 A0_1 l0_1 c0_1 A0_2 l0_2 c0_2) zx
 generalize (w.alloc (bx a0_0 A0_1 l0_1 c0_1 A0_2 l0_2 c0_2)).alloc zx = X at hh ⊢
 obtain ⟨HB, B0, B1, hs⟩ := hh
 have p := b3 B0.out
 go_wp2_with fail
 refine (dM.calls k a0_0 _ _ l0_1 _ _ l0_2 bf X (vC H1) (vL H1) (vC H2) (vL H2) Af.out).mono ?_
 rintro ee X1 ⟨rfl, hb⟩
 replace HB := dP HB hb
 replace B0 := dO B0 hb
 replace B1 := dO B1 hb
 clear hb p hs Af
 have p := b3 B0.out
 have q := b3 B1.out
 replace h := h.out
 have her : ∀ j, bg.j0 j true a0_0 l0_1 l0_2 = some (r1, r2, r3, r4) → 0 = r1 ∧ [] = r2 ∧ [] = r3 ∧ 40 = r4 := fun j e => by
  cases j with
  | zero => simp [bg.j0] at e
  | succ j => simpa [bg.j0] using e
 cases bf with
 | false =>
  obtain ⟨rfl, rfl, rfl, rfl⟩ := her k (by simpa using h)
  clear h her
  go_wp2
  exact fin2 (dT B1.out) (dA _ _ _ _ _ _ _) (dA _ _ _ _ _ _ _) zb
 | true =>
  rw [if_pos rfl] at h
  obtain ⟨bm, Am, h⟩ := cC h
  replace h := gz h
  go_wp2_with fail
  refine (br.calls k a0_0 _ _ l0_1 _ _ l0_2 bm X1 (vC H1) (vL H1) (vC H2) (vL H2) Am).mono ?_
  rintro ee X2 ⟨rfl, hb⟩
  replace HB := dP HB hb
  replace B0 := dO B0 hb
  replace B1 := dO B1 hb
  clear hb p q Am
  have p := b3 B0.out
  have q := b3 B1.out
  replace h := h.out
  cases bm with
  | false =>
   obtain ⟨rfl, rfl, rfl, rfl⟩ := her k (by simpa using h)
   clear h her
   go_wp2
   exact fin2 (dT B1.out) (dA _ _ _ _ _ _ _) (dA _ _ _ _ _ _ _) zb
  | true =>
   clear her
   cases k with
   | zero => simp [bg.j0] at h
   | succ k =>
   simp only [bg.j0, Bool.not_true, if_neg (show ¬ false = true by decide)] at h
   obtain ⟨⟨t1, t2, t3, t4⟩, A, h⟩ := cC h
   replace h := gz h
   go_wp2_with fail
   refine (aZ.calls k a0_0 (fun k => (P0_1_ k ∨ P0_2_ k) ∧ k < w.heap.size) _ _ l0_1 (fun k => (P0_1_ k ∨ P0_2_ k) ∧ k < w.heap.size) _ _ l0_2 t1 t2 t3 t4 X2 (fC (vO H1 HB.out) (fun k hk => ⟨.inl hk.1, hk.2⟩)) (fC (vO H2 HB.out) (fun k hk => ⟨.inr hk.1, hk.2⟩)) A).mono ?_
   rintro ee w9 hr
   obtain ⟨D1, d1, D2, d2, rfl, T⟩ := tl2 (E := fun k => P0_1_ k ∨ P0_2_ k) B1 HB (fun k hk => ⟨.inl (Or.elim hk (fun x => x.1) (fun x => x.1)), by rcases hk with hk | hk <;> (have := hk.2; omega)⟩) hr
   clear p q A B0 B1 HB
   go_upto_region 4 with (fail)
   replace T := Tl.al T (bx t1 D1 t2 d1 D2 t3 d2)
   have B4 : aa ((w9.alloc (bx t1 D1 t2 d1 D2 t3 d2)).heap[w9.heap.size]? = some (bx t1 D1 t2 d1 D2 t3 d2)) := ⟨bN⟩
   generalize w9.alloc (bx t1 D1 t2 d1 D2 t3 d2) = w8 at T B4 ⊢
   have q := T.2.2.2.2
   have p := b3 B4.out
   replace h := h.out
   by_cases ce : t4 = 0
   ·rw [if_pos ce] at h
    obtain ⟨u, A, h⟩ := cC h
    subst ce
    replace h := gz h
    go_wp2_with fail
    refine (cV.calls k t1 _ _ t2 _ _ t3 u w8 (vC T.1) (vL T.1) (vC T.2.1) (vL T.2.1) A).mono ?_
    rintro ee w7 ⟨rfl, hb⟩
    replace T := Tl.st T hb
    replace B4 := dO B4 hb
    clear hb p q A
    have q := T.2.2.2.2
    have p := b3 B4.out
    replace h := h.out
    by_cases cu : u = 0
    ·rw [if_pos cu] at h
     simp only [Option.some.injEq, Prod.mk.injEq] at h
     obtain ⟨rfl, rfl, rfl, rfl⟩ := h
     subst cu
     go_wp2
     exact end2 T Z8
    ·rw [if_neg cu] at h
     simp only [Option.some.injEq, Prod.mk.injEq] at h
     obtain ⟨rfl, rfl, rfl, rfl⟩ := h
     have g := e4 cu
     go_wp2
     exact fin2 (dT T.2.2.2.1.out) (dA _ _ _ _ _ _ _) (dA _ _ _ _ _ _ _) (st3_below T.2.2.1.out Z8)
   ·rw [if_neg ce] at h
    simp only [Option.some.injEq, Prod.mk.injEq] at h
    obtain ⟨rfl, rfl, rfl, rfl⟩ := h
    have g := e4 ce
    have g2 := e3 ce
    go_wp2
    exact fin2 (dT T.2.2.2.1.out) (dA _ _ _ _ _ _ _) (dA _ _ _ _ _ _ _) (st3_below T.2.2.1.out Z8)
def cA.f (k : Nat) (a0_0 : Int) (l0_1 : List (S51)) (l0_2 : List (S25)) : Option (Bool) := (bg.f k a0_0 l0_1 l0_2).bind fun bt536 => (if bt536.2.2.2 = 0 then ((bO.f k bt536.1 bt536.2.1 bt536.2.2.1 a0_0 l0_1 l0_2).bind fun t545 => (some t545)) else (some false))
theorem cA.calls (k : Nat) (a0_0 : Int) (A0_1 : Option Addr) (c0_1 : Nat) (l0_1 : List (S51)) (A0_2 : Option Addr) (c0_2 : Nat) (l0_2 : List (S25)) (r : Bool) (w : World) (hr0_1 : Kd.C k51 w A0_1 l0_1.length l0_1) (hc0_1 : l0_1.length ≤ c0_1) (hr0_2 : Kd.C k25 w A0_2 l0_2.length l0_2) (hc0_2 : l0_2.length ≤ c0_2) (h : cA.f k a0_0 l0_1 l0_2 = some r) :
  Calls Tryz.prog 6 #[.agg #[.int .i64 a0_0, .slice A0_1 l0_1.length c0_1, .slice A0_2 l0_2.length c0_2]] w fun e w' => e = .returned (.bool r) ∧ Below w.heap.size w w' := by
 have hu25 := Tryz.underlying25
 have H1 := cV51 hr0_1 hc0_1
 have H2 := cV25 hr0_2 hc0_2
 clear hr0_1 hc0_1 hr0_2 hc0_2
 unfold cA.f at h
 obtain ⟨⟨t1, t2, t3, t4⟩, A, h⟩ := cC h
 replace h := gz h
 go_enter Tryz.func6, Tryz.ntmps6
 go_wp2_with fail
 refine (bg.calls k a0_0 (fun k => k < w.heap.size) _ _ l0_1 (fun k => k < w.heap.size) _ _ l0_2 t1 t2 t3 t4 _ (vW H1) (vW H2) A).mono ?_
 rintro ee w1 ⟨v1, v2, rfl, V1, V2, hb⟩
 obtain ⟨D1, d1, rfl⟩ := Kd.V_slice V1
 obtain ⟨D2, d2, rfl⟩ := Kd.V_slice V2
 have V1 := gz V1
 have V2 := gz V2
 have HB := below_a hb
 have B0 := blk_a hb
 have p := b3 B0.out
 clear hb A
 replace h := h.out
 by_cases c : t4 = 0
 ·rw [if_pos c] at h
  have d := e1 c
  obtain ⟨u, A, h⟩ := cC h
  obtain rfl := Option.some.inj h
  go_upto_region 2 with (fail)
  have HX : aa (Below w1.heap.size w1 (w1.alloc (bx t1 D1 t2 d1 D2 t3 d2))) := ⟨zb⟩
  have BX : aa ((w1.alloc (bx t1 D1 t2 d1 D2 t3 d2)).heap[w1.heap.size]? = some (bx t1 D1 t2 d1 D2 t3 d2)) := ⟨bN⟩
  generalize w1.alloc (bx t1 D1 t2 d1 D2 t3 d2) = X at HX BX ⊢
  replace p := b3 (dO B0 HX.out).out
  have q := b3 BX.out
  replace HB := dP HB HX.out
  go_wp2_with fail
  refine (bO.calls k t1 _ _ t2 _ _ t3 a0_0 _ _ l0_1 _ _ l0_2 u _ (vC V1) (vL V1) (vC V2) (vL V2) (vC H1) (vL H1) (vC H2) (vL H2) A).mono ?_
  rintro ee w2 ⟨rfl, hb⟩
  replace HB := dP HB hb
  go_wp2
  go_ret
  exact ⟨rfl, HB.out⟩
 ·rw [if_neg c] at h
  obtain rfl := Option.some.inj h
  have d := e3 c
  go_wp2
  go_ret
  exact ⟨rfl, ak HB.out _⟩
mutual
def cB.l0 : Nat → Int → List (S25) → Int → Int → Option (Int)
 | 0, _, _, _, _ => none
 | k + 1, x3, x11, x12, x13 => if x13 < x12 then (if 0 ≤ x13 then (if x13 < (x11.length : Int) then ((cB.f k ((an x11 x13).f0) ((an x11 x13).f1) ((an x11 x13).f2)).bind fun t549 => (cB.l0 k (wrap64 (x3 + t549)) x11 x12 (wrap64 (x13 + 1)))) else (none)) else (none)) else (some x3)
def cB.f : Nat → Int → List (S51) → List (S25) → Option (Int)
 | 0, _, _, _ => none
 | k + 1, a0_0, l0_1, l0_2 => cB.l0 k (wrap64 (1 + (l0_1.length : Int))) l0_2 (l0_2.length : Int) 0
end
theorem cB.calls (k : Nat) : ∀ (a0_0 : Int) (A0_1 : Option Addr) (c0_1 : Nat) (l0_1 : List (S51)) (A0_2 : Option Addr) (c0_2 : Nat) (l0_2 : List (S25)) (r : Int) (w : World) (hr0_1 : Kd.C k51 w A0_1 l0_1.length l0_1) (hc0_1 : l0_1.length ≤ c0_1) (hr0_2 : Kd.C k25 w A0_2 l0_2.length l0_2) (hc0_2 : l0_2.length ≤ c0_2) (h : cB.f k a0_0 l0_1 l0_2 = some r),
  Calls Tryz.prog 32 #[.agg #[.int .i64 a0_0, .slice A0_1 l0_1.length c0_1, .slice A0_2 l0_2.length c0_2]] w fun e w' => e = .returned (.int .i64 r) ∧ Below w.heap.size w w' := by
 induction k using Nat.strongRecOn with
 | _ k ih =>
 intro a0_0 A0_1 c0_1 l0_1 A0_2 c0_2 l0_2 r w hr0_1 hc0_1 hr0_2 hc0_2 h
 cases k with
 | zero => exact absurd h (by simp [cB.f])
 | succ k =>
 simp only [cB.f] at h
 have hu25 := Tryz.underlying25
 have HR0_1 := gz hr0_1
 have HC0_1 := gz hc0_1
 clear hr0_1 hc0_1
 have HR0_2 := gz hr0_2
 have HC0_2 := gz hc0_2
 clear hr0_2 hc0_2
 have HB := gz (Below.refl w.heap.size w)
 have H : (cB.l0 k (wrap64 (1 + (l0_1.length : Int))) l0_2 (l0_2.length : Int) 0) = some r := h
 clear h
 have H' := gz H
 clear H
 go_enter Tryz.func32, Tryz.ntmps32
 go_wp2_with (first | ((with_reducible refine bI (N := 1) rfl ?_); refine bQ ?hg (N := 1) ?hd (cs := #[.int .i64 a0_0, .slice A0_1 l0_1.length c0_1, .slice A0_2 l0_2.length c0_2]) (t := 25) ?hr ?_; (case hd => rfl); (case hg => rfl); (case hr => first | (go_simp; done) | (go_simp; rfl)); intro gb546 hg w2 hbox hb; have BK546 := gz (hbox); have GW546 := gE hg zB; have GE546 := gE hg zB; replace HB := gz (ai zB hb); clear hb hbox hg; have hcz3_0 := bC BK546 0 (.int .i64 a0_0); have hcz3_1 := bC BK546 1 (.slice A0_1 l0_1.length c0_1); have hcz3_2 := bC BK546 2 (.slice A0_2 l0_2.length c0_2); have hfz3_0 := ag BK546.out 0; have hfz3_1 := ag BK546.out 1; have hfz3_2 := ag BK546.out 2))
 go_loopg [3, 13] k (fun kq v3 v13 w' => ∃ (x3_1 : Int) (x13_1 : Int), v3 = .int .i64 x3_1 ∧ v13 = .int .i64 x13_1 ∧ aa (cB.l0 kq x3_1 l0_2 (l0_2.length : Int) x13_1 = some r) ∧ aa (kq ≤ k) ∧ aa (w'.heap[gb546]? = some (.cells #[.int .i64 a0_0, (.slice A0_1 l0_1.length c0_1), (.slice A0_2 l0_2.length c0_2)] 25 (0, 0))) ∧ aa (Below w.heap.size w w'))
 case atStart => exact ⟨(wrap64 (1 + (l0_1.length : Int))), (0), Z2, Z2, H', ⟨Nat.le_refl _⟩, ⟨by (with_reducible repeat (first | refine az ?_ _ | refine aI ?_ | refine au ?_ _)); exact BK546.out⟩, ⟨Z0⟩⟩
 case round =>
  clear H'
  try clear p2
  try clear c3
  try clear hcz3_0
  try clear hcz3_1
  try clear hcz3_2
  try clear hfz3_0
  try clear hfz3_1
  try clear hfz3_2
  obtain ⟨x3_1, x13_1, rfl, rfl, HA, HK1, BK546, HB⟩ := hrel
  cases gk with
  | zero => exact absurd HA.out (by simp [cB.l0])
  | succ k1 =>
   have H := HA.out
   clear HA
   simp only [cB.l0] at H
   by_cases c4 : x13_1 < (l0_2.length : Int)
   ·rw [if_pos c4] at H
    have c4b0 := decide_eq_true c4
    clear c4
    by_cases c5 : 0 ≤ x13_1
    ·rw [if_pos c5] at H
     have c5b0 := decide_eq_true c5
     clear c5
     by_cases c6 : x13_1 < (l0_2.length : Int)
     ·rw [if_pos c6] at H
      have c6b0 := decide_eq_true c6
      clear c6
      replace H := bS H
      obtain ⟨t549, A7, H⟩ := H
      try dsimp only at H
      have H' := gz H
      clear H
      have p547 : 0 ≤ (x13_1 : Int) := of_decide_eq_true Z4
      have q547 : x13_1 < (l0_2.length : Int) := of_decide_eq_true Z4
      obtain ⟨ad547, A547_1, c547_1, A547_2, c547_2, e547, hx547_0, hx547_1, hx547_2, hl547_1, hi547_1, hl547_2, hi547_2⟩ := d8 HR0_2.out x13_1 p547 q547
      cases e547
      replace hx547_0 := (HB.out.cell (World.block_lt_of_cell? w _ hx547_0)).trans hx547_0
      replace hx547_1 := (HB.out.cell (World.block_lt_of_cell? w _ hx547_1)).trans hx547_1
      replace hx547_2 := (HB.out.cell (World.block_lt_of_cell? w _ hx547_2)).trans hx547_2
      have HR547_1 := gz hi547_1
      have HC547_1 := gz hl547_1
      clear hi547_1 hl547_1
      have HR547_2 := gz hi547_2
      have HC547_2 := gz hl547_2
      clear hi547_2 hl547_2
      replace p547 := eq_true p547
      replace q547 := eq_true q547
      go_wp2_with (first | ((with_reducible refine bI (N := 5) rfl ?_); refine bQ ?hg (N := 5) ?hd (cs := #[.int .i64 0, .slice none 0 0, .slice none 0 0]) (t := 25) ?hr ?_; (case hd => rfl); (case hg => rfl); (case hr => first | (go_simp; done) | (go_simp; rfl)); intro gb548 hg w8 hbox hb; have n0_ := gz (ao (g := gb546) (o := .cells #[.int .i64 a0_0, .slice A0_1 l0_1.length c0_1, .slice (some ad547) l0_2.length c0_2] 25 (0, 0)) (bK BK546) hb); have n1_ := gz (ai zB hb); have n2_ := gz (hbox); have n3_ := gE hg zB; have n4_ := gE hg zB; have n5_ := gz ((by rw [hg]; exact Nat.ne_of_lt (bB (g := gb546) (o := .cells #[.int .i64 a0_0, .slice A0_1 l0_1.length c0_1, .slice (some ad547) l0_2.length c0_2] 25 (0, 0)) (bK BK546)) : gb546 ≠ gb548)); have n6_ := gz ((by rw [hg]; exact Nat.ne_of_gt (bB (g := gb546) (o := .cells #[.int .i64 a0_0, .slice A0_1 l0_1.length c0_1, .slice (some ad547) l0_2.length c0_2] 25 (0, 0)) (bK BK546)) : gb548 ≠ gb546)); clear BK546; clear HB; have BK546 := n0_; have HB := n1_; have BK548 := n2_; have GW548 := n3_; have GE548 := n4_; have NB546_548 := n5_; have NB548_546 := n6_; clear n0_ n1_ n2_ n3_ n4_ n5_ n6_; clear hb hbox hg; have hnb9 := NB548_546.out; have hnc9 := NB546_548.out; have hcz10_0 := bC BK548 0 (.int .i64 0); have hcz10_1 := bC BK548 1 (.slice none 0 0); have hcz10_2 := bC BK548 2 (.slice none 0 0); have hfz10_0 := ag BK548.out 0; have hfz10_1 := ag BK548.out 1; have hfz10_2 := ag BK548.out 2) | ((with_reducible refine gC 32 rfl ?_); refine bl (some 19) rfl rfl Tryz.func32 Z5 rfl #[.agg #[.int .i64 ((an l0_2 x13_1).f0), .slice A547_1 ((an l0_2 x13_1).f1).length c547_1, .slice A547_2 ((an l0_2 x13_1).f2).length c547_2]] rfl Z1 ?_; (with_reducible refine (ih k1 Z22 ((an l0_2 x13_1).f0) _ _ ((an l0_2 x13_1).f1) _ _ ((an l0_2 x13_1).f2) t549 _ ?side1 ?side2 ?side3 ?side4 A7.out).mono ?_); (case side1 => exact Kd.C_below HR547_1.out zB); (case side2 => exact HC547_1.out); (case side3 => exact Kd.C_below HR547_2.out zB); (case side4 => exact HC547_2.out); rintro e w11 ⟨rfl, hb⟩; refine ⟨_, rfl, ?_⟩; have n0_ := gz (ao (g := gb546) (o := .cells #[.int .i64 a0_0, .slice A0_1 l0_1.length c0_1, .slice (some ad547) l0_2.length c0_2] 25 (0, 0)) (by (with_reducible repeat (first | refine az ?_ _ | refine aI ?_ | refine au ?_ _)); refine fB ?_ NB546_548.out _; (with_reducible repeat (first | refine az ?_ _ | refine aI ?_ | refine au ?_ _)); refine fB ?_ NB546_548.out _; (with_reducible repeat (first | refine az ?_ _ | refine aI ?_ | refine au ?_ _)); refine fB ?_ NB546_548.out _; (with_reducible repeat (first | refine az ?_ _ | refine aI ?_ | refine au ?_ _)); exact BK546.out) hb); have n1_ := gz (ao (g := gb548) (o := .cells #[.int .i64 ((an l0_2 x13_1).f0), .slice A547_1 ((an l0_2 x13_1).f1).length c547_1, .slice A547_2 ((an l0_2 x13_1).f2).length c547_2] 25 (0, 0)) (by (with_reducible repeat (first | refine az ?_ _ | refine aI ?_ | refine au ?_ _)); refine bG (cs := #[.int .i64 ((an l0_2 x13_1).f0), .slice A547_1 ((an l0_2 x13_1).f1).length c547_1, .slice none 0 0]) ?_ 2 _ rfl; (with_reducible repeat (first | refine az ?_ _ | refine aI ?_ | refine au ?_ _)); refine bG (cs := #[.int .i64 ((an l0_2 x13_1).f0), .slice none 0 0, .slice none 0 0]) ?_ 1 _ rfl; (with_reducible repeat (first | refine az ?_ _ | refine aI ?_ | refine au ?_ _)); refine bG (cs := #[.int .i64 0, .slice none 0 0, .slice none 0 0]) ?_ 0 _ rfl; (with_reducible repeat (first | refine az ?_ _ | refine aI ?_ | refine au ?_ _)); exact BK548.out) hb); have n2_ := gz (ai zB hb); clear BK546; clear BK548; clear HB; have BK546 := n0_; have BK548 := n1_; have HB := n2_; clear n0_ n1_ n2_; (try clear hb); (try clear hb2); (try clear hk); (try clear hi)))
      go_roundg k1
      case measure => have := HK1.out; omega
      case rel => exact ⟨(wrap64 (x3_1 + t549)), (wrap64 (x13_1 + 1)), Z2, Z2, H', ⟨Z22⟩, ⟨by (with_reducible repeat (first | refine az ?_ _ | refine aI ?_ | refine au ?_ _)); exact BK546.out⟩, ⟨Z0⟩⟩
     ·rw [if_neg c6] at H
      exact absurd H Z24
    ·rw [if_neg c5] at H
     exact absurd H Z24
   ·rw [if_neg c4] at H
    have c4b0 := decide_eq_false c4
    clear c4
    obtain rfl := Option.some.inj H
    go_wp2
    go_ret
    exact ⟨Z3, Z0⟩
mutual
def cF.l0 : Nat → Int → List (S25) → Int → Int → Option (Int)
 | 0, _, _, _, _ => none
 | k + 1, x3, x7, x8, x9 => if x9 < x8 then (if 0 ≤ x9 then (if x9 < (x7.length : Int) then ((cF.f k ((an x7 x9).f0) ((an x7 x9).f1) ((an x7 x9).f2)).bind fun t553 => (cF.l0 k (mx x3 t553) x7 x8 (wrap64 (x9 + 1)))) else (none)) else (none)) else (some (wrap64 (x3 + 1)))
def cF.f : Nat → Int → List (S51) → List (S25) → Option (Int)
 | 0, _, _, _ => none
 | k + 1, a0_0, l0_1, l0_2 => cF.l0 k 0 l0_2 (l0_2.length : Int) 0
end
theorem cF.calls (k : Nat) : ∀ (a0_0 : Int) (A0_1 : Option Addr) (c0_1 : Nat) (l0_1 : List (S51)) (A0_2 : Option Addr) (c0_2 : Nat) (l0_2 : List (S25)) (r : Int) (w : World) (hr0_1 : Kd.C k51 w A0_1 l0_1.length l0_1) (hc0_1 : l0_1.length ≤ c0_1) (hr0_2 : Kd.C k25 w A0_2 l0_2.length l0_2) (hc0_2 : l0_2.length ≤ c0_2) (h : cF.f k a0_0 l0_1 l0_2 = some r),
  Calls Tryz.prog 53 #[.agg #[.int .i64 a0_0, .slice A0_1 l0_1.length c0_1, .slice A0_2 l0_2.length c0_2]] w fun e w' => e = .returned (.int .i64 r) ∧ Below w.heap.size w w' := by
 induction k using Nat.strongRecOn with
 | _ k ih =>
 intro a0_0 A0_1 c0_1 l0_1 A0_2 c0_2 l0_2 r w hr0_1 hc0_1 hr0_2 hc0_2 h
 cases k with
 | zero => exact absurd h (by simp [cF.f])
 | succ k =>
 simp only [cF.f] at h
 have hu25 := Tryz.underlying25
 have HR0_1 := gz hr0_1
 have HC0_1 := gz hc0_1
 clear hr0_1 hc0_1
 have HR0_2 := gz hr0_2
 have HC0_2 := gz hc0_2
 clear hr0_2 hc0_2
 have HB := gz (Below.refl w.heap.size w)
 have H : (cF.l0 k 0 l0_2 (l0_2.length : Int) 0) = some r := h
 clear h
 have H' := gz H
 clear H
 go_enter Tryz.func53, Tryz.ntmps53
 go_wp2_with (first | ((with_reducible refine bI (N := 1) rfl ?_); refine bQ ?hg (N := 1) ?hd (cs := #[.int .i64 a0_0, .slice A0_1 l0_1.length c0_1, .slice A0_2 l0_2.length c0_2]) (t := 25) ?hr ?_; (case hd => rfl); (case hg => rfl); (case hr => first | (go_simp; done) | (go_simp; rfl)); intro gb550 hg w2 hbox hb; have BK550 := gz (hbox); have GW550 := gE hg zB; have GE550 := gE hg zB; replace HB := gz (ai zB hb); clear hb hbox hg; have hcz3_0 := bC BK550 0 (.int .i64 a0_0); have hcz3_1 := bC BK550 1 (.slice A0_1 l0_1.length c0_1); have hcz3_2 := bC BK550 2 (.slice A0_2 l0_2.length c0_2); have hfz3_0 := ag BK550.out 0; have hfz3_1 := ag BK550.out 1; have hfz3_2 := ag BK550.out 2))
 go_loopg [3, 9] k (fun kq v3 v9 w' => ∃ (x3_1 : Int) (x9_1 : Int), v3 = .int .i64 x3_1 ∧ v9 = .int .i64 x9_1 ∧ aa (cF.l0 kq x3_1 l0_2 (l0_2.length : Int) x9_1 = some r) ∧ aa (kq ≤ k) ∧ aa (w'.heap[gb550]? = some (.cells #[.int .i64 a0_0, (.slice A0_1 l0_1.length c0_1), (.slice A0_2 l0_2.length c0_2)] 25 (0, 0))) ∧ aa (Below w.heap.size w w'))
 case atStart => exact ⟨(0), (0), Z2, Z2, H', ⟨Nat.le_refl _⟩, ⟨by (with_reducible repeat (first | refine az ?_ _ | refine aI ?_ | refine au ?_ _)); exact BK550.out⟩, ⟨Z0⟩⟩
 case round =>
  clear H'
  try clear p2
  try clear hcz3_0
  try clear hcz3_1
  try clear hcz3_2
  try clear hfz3_0
  try clear hfz3_1
  try clear hfz3_2
  obtain ⟨x3_1, x9_1, rfl, rfl, HA, HK1, BK550, HB⟩ := hrel
  cases gk with
  | zero => exact absurd HA.out (by simp [cF.l0])
  | succ k1 =>
   have H := HA.out
   clear HA
   simp only [cF.l0] at H
   by_cases c4 : x9_1 < (l0_2.length : Int)
   ·rw [if_pos c4] at H
    have c4b0 := decide_eq_true c4
    clear c4
    by_cases c5 : 0 ≤ x9_1
    ·rw [if_pos c5] at H
     have c5b0 := decide_eq_true c5
     clear c5
     by_cases c6 : x9_1 < (l0_2.length : Int)
     ·rw [if_pos c6] at H
      have c6b0 := decide_eq_true c6
      clear c6
      replace H := bS H
      obtain ⟨t553, A7, H⟩ := H
      try dsimp only at H
      obtain ⟨ji8, hji8⟩ : ∃ j_ : Int, (mx x3_1 t553) = j_ := ⟨_, rfl⟩
      replace H : (cF.l0 k1 ji8 l0_2 (l0_2.length : Int) (wrap64 (x9_1 + 1))) = some r := by first | (rw [hji8] at H; exact H) | (simp only [hji8] at H ⊢; exact H)
      (try rw [hji8] at A7)
      have hji8_ : (if x3_1 < t553 then t553 else x3_1) = ji8 := hji8
      have H' := gz H
      clear H
      have p551 : 0 ≤ (x9_1 : Int) := of_decide_eq_true Z4
      have q551 : x9_1 < (l0_2.length : Int) := of_decide_eq_true Z4
      obtain ⟨ad551, A551_1, c551_1, A551_2, c551_2, e551, hx551_0, hx551_1, hx551_2, hl551_1, hi551_1, hl551_2, hi551_2⟩ := d8 HR0_2.out x9_1 p551 q551
      cases e551
      replace hx551_0 := (HB.out.cell (World.block_lt_of_cell? w _ hx551_0)).trans hx551_0
      replace hx551_1 := (HB.out.cell (World.block_lt_of_cell? w _ hx551_1)).trans hx551_1
      replace hx551_2 := (HB.out.cell (World.block_lt_of_cell? w _ hx551_2)).trans hx551_2
      have HR551_1 := gz hi551_1
      have HC551_1 := gz hl551_1
      clear hi551_1 hl551_1
      have HR551_2 := gz hi551_2
      have HC551_2 := gz hl551_2
      clear hi551_2 hl551_2
      replace p551 := eq_true p551
      replace q551 := eq_true q551
      go_wp2_with (first | ((with_reducible refine bI (N := 5) rfl ?_); refine bQ ?hg (N := 5) ?hd (cs := #[.int .i64 0, .slice none 0 0, .slice none 0 0]) (t := 25) ?hr ?_; (case hd => rfl); (case hg => rfl); (case hr => first | (go_simp; done) | (go_simp; rfl)); intro gb552 hg w9 hbox hb; have n0_ := gz (ao (g := gb550) (o := .cells #[.int .i64 a0_0, .slice A0_1 l0_1.length c0_1, .slice (some ad551) l0_2.length c0_2] 25 (0, 0)) (bK BK550) hb); have n1_ := gz (ai zB hb); have n2_ := gz (hbox); have n3_ := gE hg zB; have n4_ := gE hg zB; have n5_ := gz ((by rw [hg]; exact Nat.ne_of_lt (bB (g := gb550) (o := .cells #[.int .i64 a0_0, .slice A0_1 l0_1.length c0_1, .slice (some ad551) l0_2.length c0_2] 25 (0, 0)) (bK BK550)) : gb550 ≠ gb552)); have n6_ := gz ((by rw [hg]; exact Nat.ne_of_gt (bB (g := gb550) (o := .cells #[.int .i64 a0_0, .slice A0_1 l0_1.length c0_1, .slice (some ad551) l0_2.length c0_2] 25 (0, 0)) (bK BK550)) : gb552 ≠ gb550)); clear BK550; clear HB; have BK550 := n0_; have HB := n1_; have BK552 := n2_; have GW552 := n3_; have GE552 := n4_; have NB550_552 := n5_; have NB552_550 := n6_; clear n0_ n1_ n2_ n3_ n4_ n5_ n6_; clear hb hbox hg; have hnb10 := NB552_550.out; have hnc10 := NB550_552.out; have hcz11_0 := bC BK552 0 (.int .i64 0); have hcz11_1 := bC BK552 1 (.slice none 0 0); have hcz11_2 := bC BK552 2 (.slice none 0 0); have hfz11_0 := ag BK552.out 0; have hfz11_1 := ag BK552.out 1; have hfz11_2 := ag BK552.out 2) | ((with_reducible refine gC 53 rfl ?_); refine bl (some 15) rfl rfl Tryz.func53 Z5 rfl #[.agg #[.int .i64 ((an l0_2 x9_1).f0), .slice A551_1 ((an l0_2 x9_1).f1).length c551_1, .slice A551_2 ((an l0_2 x9_1).f2).length c551_2]] rfl Z1 ?_; (with_reducible refine (ih k1 Z22 ((an l0_2 x9_1).f0) _ _ ((an l0_2 x9_1).f1) _ _ ((an l0_2 x9_1).f2) t553 _ ?side1 ?side2 ?side3 ?side4 A7.out).mono ?_); (case side1 => exact Kd.C_below HR551_1.out zB); (case side2 => exact HC551_1.out); (case side3 => exact Kd.C_below HR551_2.out zB); (case side4 => exact HC551_2.out); rintro e w12 ⟨rfl, hb⟩; refine ⟨_, rfl, ?_⟩; have n0_ := gz (ao (g := gb550) (o := .cells #[.int .i64 a0_0, .slice A0_1 l0_1.length c0_1, .slice (some ad551) l0_2.length c0_2] 25 (0, 0)) (by (with_reducible repeat (first | refine az ?_ _ | refine aI ?_ | refine au ?_ _)); refine fB ?_ NB550_552.out _; (with_reducible repeat (first | refine az ?_ _ | refine aI ?_ | refine au ?_ _)); refine fB ?_ NB550_552.out _; (with_reducible repeat (first | refine az ?_ _ | refine aI ?_ | refine au ?_ _)); refine fB ?_ NB550_552.out _; (with_reducible repeat (first | refine az ?_ _ | refine aI ?_ | refine au ?_ _)); exact BK550.out) hb); have n1_ := gz (ao (g := gb552) (o := .cells #[.int .i64 ((an l0_2 x9_1).f0), .slice A551_1 ((an l0_2 x9_1).f1).length c551_1, .slice A551_2 ((an l0_2 x9_1).f2).length c551_2] 25 (0, 0)) (by (with_reducible repeat (first | refine az ?_ _ | refine aI ?_ | refine au ?_ _)); refine bG (cs := #[.int .i64 ((an l0_2 x9_1).f0), .slice A551_1 ((an l0_2 x9_1).f1).length c551_1, .slice none 0 0]) ?_ 2 _ rfl; (with_reducible repeat (first | refine az ?_ _ | refine aI ?_ | refine au ?_ _)); refine bG (cs := #[.int .i64 ((an l0_2 x9_1).f0), .slice none 0 0, .slice none 0 0]) ?_ 1 _ rfl; (with_reducible repeat (first | refine az ?_ _ | refine aI ?_ | refine au ?_ _)); refine bG (cs := #[.int .i64 0, .slice none 0 0, .slice none 0 0]) ?_ 0 _ rfl; (with_reducible repeat (first | refine az ?_ _ | refine aI ?_ | refine au ?_ _)); exact BK552.out) hb); have n2_ := gz (ai zB hb); clear BK550; clear BK552; clear HB; have BK550 := n0_; have BK552 := n1_; have HB := n2_; clear n0_ n1_ n2_; (try clear hb); (try clear hb2); (try clear hk); (try clear hi)))
      go_roundg k1
      case measure => have := HK1.out; omega
      case rel => exact ⟨(ji8), (wrap64 (x9_1 + 1)), (by first | rfl | (simp; done) | (simp only [← hji8] <;> (first | rfl | (simp; done))) | (simp only [← hji8] <;> rw [fN]) | (simp only [← hji8] <;> simp <;> omega) | (simp [*]; done) | (simp <;> omega) | rw [fN]), Z2, H', ⟨Z22⟩, ⟨by (with_reducible repeat (first | refine az ?_ _ | refine aI ?_ | refine au ?_ _)); exact BK550.out⟩, ⟨Z0⟩⟩
     ·rw [if_neg c6] at H
      exact absurd H Z24
    ·rw [if_neg c5] at H
     exact absurd H Z24
   ·rw [if_neg c4] at H
    have c4b0 := decide_eq_false c4
    clear c4
    obtain rfl := Option.some.inj H
    go_wp2
    go_ret
    exact ⟨Z3, Z0⟩
def dv.f (k : Nat) (a0_0 : Int) (l0_1 : List (S51)) (l0_2 : List (S25)) : Option (Int) := (cB.f k a0_0 l0_1 l0_2).bind fun t555 => (if t555 > 4096 then (some 41) else ((cF.f k a0_0 l0_1 l0_2).bind fun t556 => (if t556 > 64 then (some 42) else (some 0))))
theorem dv.calls (k : Nat) (a0_0 : Int) (A0_1 : Option Addr) (c0_1 : Nat) (l0_1 : List (S51)) (A0_2 : Option Addr) (c0_2 : Nat) (l0_2 : List (S25)) (r : Int) (w : World) (hr0_1 : Kd.C k51 w A0_1 l0_1.length l0_1) (hc0_1 : l0_1.length ≤ c0_1) (hr0_2 : Kd.C k25 w A0_2 l0_2.length l0_2) (hc0_2 : l0_2.length ≤ c0_2) (h : dv.f k a0_0 l0_1 l0_2 = some r) :
  Calls Tryz.prog 28 #[.agg #[.int .i64 a0_0, .slice A0_1 l0_1.length c0_1, .slice A0_2 l0_2.length c0_2]] w fun e w' => e = .returned (.int .i64 r) ∧ Below w.heap.size w w' := by
 have hu25 := Tryz.underlying25
 have H1 := cV51 hr0_1 hc0_1
 have H2 := cV25 hr0_2 hc0_2
 clear hr0_1 hc0_1 hr0_2 hc0_2
 unfold dv.f at h
 obtain ⟨t, A, h⟩ := cC h
 replace h := gz h
 go_enter Tryz.func28, Tryz.ntmps28
 go_wp2_with fail
 refine (cB.calls k a0_0 _ _ l0_1 _ _ l0_2 t _ (vC H1) (vL H1) (vC H2) (vL H2) A).mono ?_
 rintro ee w1 ⟨rfl, hb⟩
 have HB := below_a hb
 have B0 := blk_a hb
 have p := b3 B0.out
 clear hb A
 replace h := h.out
 by_cases c : t > 4096
 ·rw [if_pos c] at h
  obtain rfl := Option.some.inj h
  have d := decide_eq_true c
  go_wp2
  go_ret
  exact ⟨rfl, HB.out⟩
 ·rw [if_neg c] at h
  have d := decide_eq_false c
  obtain ⟨u, A, h⟩ := cC h
  replace h := gz h
  go_wp2_with fail
  refine (cF.calls k a0_0 _ _ l0_1 _ _ l0_2 u _ (vC H1) (vL H1) (vC H2) (vL H2) A).mono ?_
  rintro ee w2 ⟨rfl, hb⟩
  have HB := dP HB hb
  clear hb A p
  replace h := h.out
  by_cases c : u > 64
  ·rw [if_pos c] at h
   obtain rfl := Option.some.inj h
   have d := decide_eq_true c
   go_wp2
   go_ret
   exact ⟨rfl, HB.out⟩
  ·rw [if_neg c] at h
   obtain rfl := Option.some.inj h
   have d := decide_eq_false c
   go_wp2
   go_ret
   exact ⟨rfl, HB.out⟩
def bh.l0 : Nat → List (S51) → List (S51) → Int → Int → Option (Int)
 | 0, _, _, _, _ => none
 | k + 1, x0, x5, x6, x7 => if x7 < x6 then (if 0 ≤ x7 then (if x7 < (x5.length : Int) then (if ((aA x5 x7).f0) < 0 then (some 20) else (if ((aA x5 x7).f1) > 1114111 then (some 20) else (if ((aA x5 x7).f0) > ((aA x5 x7).f1) then (some 20) else (if x7 > 0 then (if 0 ≤ (wrap64 (x7 - 1)) then (if (wrap64 (x7 - 1)) < (x0.length : Int) then (if (wrap32 (((aA x5 x7).f0) - 1)) ≤ ((aA x0 (wrap64 (x7 - 1))).f1) then (some 20) else (bh.l0 k x0 x5 x6 (wrap64 (x7 + 1)))) else (none)) else (none)) else (bh.l0 k x0 x5 x6 (wrap64 (x7 + 1))))))) else (none)) else (none)) else (if (x0.length : Int) > 2048 then (some 21) else (some 0))
def bh.f (k : Nat) (l0 : List (S51)) : Option (Int) := bh.l0 k l0 l0 (l0.length : Int) 0
theorem bh.mono_l : ∀ k, (∀ y0 y1 y2 y3, LeO (bh.l0 k y0 y1 y2 y3) (bh.l0 (k + 1) y0 y1 y2 y3))
 | 0 => fun _ _ _ _ r h => by simp [bh.l0] at h
 | k + 1 => by
  have ih0 := bh.mono_l k
  ·intro y0 y1 y2 y3
   unfold bh.l0
   exact mO
theorem bh.mono : ∀ a0 k, LeO (bh.f k a0) (bh.f (k + 1) a0) := by
 intro a0 k
 have ih0 := bh.mono_l k
 unfold bh.f
 exact mO
theorem bh.calls (k : Nat) (A0 : Option Addr) (c0 : Nat) (l0 : List (S51)) (r : Int) (w : World) (hr0 : Kd.C k51 w A0 l0.length l0) (hc0 : l0.length ≤ c0) (h : bh.f k l0 = some r) :
  Calls Tryz.prog 54 #[.slice A0 l0.length c0] w fun e w' => e = .returned (.int .i64 r) ∧ Below w.heap.size w w' := by
 have hu51 := Tryz.underlying51
 have HR := gz hr0
 have H := gz h
 clear hr0 hc0 h
 unfold bh.f at H
 go_enter Tryz.func54, Tryz.ntmps54
 go_wp2_with fail
 go_loopg [7] k (fun kq v7 wr => ∃ i : Int, v7 = .int .i64 i ∧ aa (bh.l0 kq l0 l0 (l0.length : Int) i = some r) ∧ aa (kq ≤ k) ∧ aa (Below w.heap.size w wr))
 case atStart => exact ⟨0, rfl, H, ⟨Nat.le_refl _⟩, ⟨Below.refl _ _⟩⟩
 case round =>
  clear H
  obtain ⟨i, rfl, HA, HK, HB⟩ := hrel
  cases gk with
  | zero => exact absurd HA.out (by simp [bh.l0])
  | succ k1 =>
  have h := HA.out
  clear HA
  simp only [bh.l0] at h
  by_cases c : i < (l0.length : Int)
  ·rw [if_pos c] at h
   have d := decide_eq_true c
   by_cases hi0 : 0 ≤ i
   case neg => rw [if_neg hi0] at h; cases h
   rw [if_pos hi0, if_pos c] at h
   obtain ⟨ad, e0, g0, g1⟩ := cI (Kd.C_below HR.out HB.out) i hi0 c
   cases e0
   generalize (aA l0 i).f0 = f0 at g0 h
   generalize (aA l0 i).f1 = f1 at g1 h
   replace h := gz h
   go_wp2_with fail
   have B0 : aa ((wr.alloc (.cells #[.int .i32 f0, .int .i32 f1] 51)).heap[wr.heap.size]? = some (.cells #[.int .i32 f0, .int .i32 f1] 51)) := ⟨bN⟩
   replace HB := gz (ak HB.out (.cells #[.int .i32 f0, .int .i32 f1] 51))
   clear g0 g1
   generalize wr.heap.size = gb at B0 ⊢
   generalize wr.alloc (.cells #[.int .i32 f0, .int .i32 f1] 51) = W at HB B0 ⊢
   obtain ⟨q0, q1⟩ := b2 B0
   replace h := h.out
   by_cases c1 : f0 < 0
   ·rw [if_pos c1] at h
    have dc1 : decide (f0 < 0) = true := decide_eq_true c1
    clear c1
    obtain rfl := Option.some.inj h
    go_wp2_with fail
    go_quiet (fail)
    go_wp2
    go_ret
    exact ⟨rfl, aC HB.out nq⟩
   rw [if_neg c1] at h
   have dc1 : decide (f0 < 0) = false := decide_eq_false c1
   by_cases c2 : f1 > 1114111
   ·rw [if_pos c2] at h
    have dc2 : decide (1114111 < f1) = true := decide_eq_true c2
    clear c2
    obtain rfl := Option.some.inj h
    go_wp2_with fail
    go_quiet (fail)
    go_wp2
    go_ret
    exact ⟨rfl, aC HB.out nq⟩
   rw [if_neg c2] at h
   have dc2 : decide (1114111 < f1) = false := decide_eq_false c2
   by_cases c3 : f0 > f1
   ·rw [if_pos c3] at h
    have dc3 : decide (f1 < f0) = true := decide_eq_true c3
    clear c3
    obtain rfl := Option.some.inj h
    go_wp2_with fail
    go_quiet (fail)
    go_wp2
    go_ret
    exact ⟨rfl, aC HB.out nq⟩
   rw [if_neg c3] at h
   have dc3 : decide (f1 < f0) = false := decide_eq_false c3
   by_cases c4 : i > 0
   ·rw [if_pos c4] at h
    have d4 : decide (0 < i) = true := decide_eq_true c4
    obtain ⟨j, hj⟩ : ∃ j, wrap64 (i - 1) = j := ⟨_, rfl⟩
    obtain ⟨m, hm⟩ : ∃ j, wrap32 (f0 - 1) = j := ⟨_, rfl⟩
    have hw : IntKind.i64.wrap (i - 1) = j := (dq _).trans hj
    have hw' : IntKind.i32.wrap (f0 - 1) = m := (dJ _).trans hm
    rw [hj, hm] at h
    clear hj hm c1 c2 c3 c4
    by_cases hj0 : 0 ≤ j
    case neg => rw [if_neg hj0] at h; cases h
    rw [if_pos hj0] at h
    by_cases hj1 : j < (l0.length : Int)
    case neg => rw [if_neg hj1] at h; cases h
    rw [if_pos hj1] at h
    obtain ⟨_, e0, y0, y1⟩ := cI (Kd.C_below HR.out HB.out) j hj0 hj1
    cases e0
    by_cases c5 : m ≤ (aA l0 j).f1
    ·rw [if_pos c5] at h
     have d5 := decide_eq_true c5
     clear c5
     obtain rfl := Option.some.inj h
     go_wp2_with fail
     go_quiet (fail)
     go_wp2
     go_ret
     exact ⟨rfl, aC HB.out nq⟩
    rw [if_neg c5] at h
    have d5 := decide_eq_false c5
    clear c5
    replace h := gz h
    go_wp2_with fail
    go_quiet (fail)
    go_wp2
    go_roundg k1
    case measure => have := HK.out; omega
    case rel => exact ⟨wrap64 (i + 1), rfl, h, ⟨Z20⟩, ⟨aC HB.out nq⟩⟩
   ·rw [if_neg c4] at h
    have d4 : decide (0 < i) = false := decide_eq_false c4
    clear c1 c2 c3 c4
    replace h := gz h
    go_wp2_with fail
    go_quiet (fail)
    go_wp2
    go_roundg k1
    case measure => have := HK.out; omega
    case rel => exact ⟨wrap64 (i + 1), rfl, h, ⟨Z20⟩, ⟨aC HB.out nq⟩⟩
  ·rw [if_neg c] at h
   have d := decide_eq_false c
   by_cases cl : (l0.length : Int) > 2048
   ·rw [if_pos cl] at h
    obtain rfl := Option.some.inj h
    have dl : decide (2048 < (l0.length : Int)) = true := decide_eq_true cl
    go_wp2
    go_ret
    exact ⟨rfl, HB.out⟩
   ·rw [if_neg cl] at h
    obtain rfl := Option.some.inj h
    have dl : decide (2048 < (l0.length : Int)) = false := decide_eq_false cl
    go_wp2
    go_ret
    exact ⟨rfl, HB.out⟩
end Go.Proofs.YtaccleilcdfapaaGreat.G
