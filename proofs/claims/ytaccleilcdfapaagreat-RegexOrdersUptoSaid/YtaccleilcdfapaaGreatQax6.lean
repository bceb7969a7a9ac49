import Derived.Test.YtaccleilcdfapaaGreatQPre
import Derived.Test.YtaccleilcdfapaaGreatQax2
import Derived.Test.YtaccleilcdfapaaGreatQax5
namespace Go.Proofs.YtaccleilcdfapaaGreat.G
open Go.RowKit Go.Proofs.YtaccleilcdfapaaGreatW.PrintWords Go.Proofs.YtaccleilcdfapaaGreatW.PrintLast Go.Proofs.YtaccleilcdfapaaGreatW.PrintMore
attribute [local go_sem] dH dF dR dQ da cZ dG dE
set_option linter.unusedVariables false
set_option maxHeartbeats 8000000
set_option maxRecDepth 100000
set_option linter.unusedSimpArgs false
mutual
def aV.l0 : Nat → List (S25) → Int → Int → Int → List (S51) → List (S25) → Option (Bool)
 | 0, _, _, _, _, _, _ => none
 | k + 1, x7, x8, x9, x561000, x561001, x561002 => if x9 < x8 then (if 0 ≤ x9 then (if x9 < (x7.length : Int) then ((aV.f k ((an x7 x9).f0) ((an x7 x9).f1) ((an x7 x9).f2)).bind fun t563 => (if t563 = true then (aV.l0 k x7 x8 (wrap64 (x9 + 1)) x561000 x561001 x561002) else (some false))) else (none)) else (none)) else (if x561000 = 0 then (aV.j1 k (x561002.length : Int) x561000 (x561000 == 0) x561000 x561001 x561002) else (aV.j1 k (x561002.length : Int) x561000 (x561000 == 1) x561000 x561001 x561002))
def aV.j1 : Nat → Int → Int → Bool → Int → List (S51) → List (S25) → Option (Bool)
 | 0, _, _, _, _, _, _ => none
 | k + 1, x5, x21, x22, x561000, x561001, x561002 => if x22 = true then (if x5 = 0 then (some ((x561001.length : Int) == 0)) else (some false)) else (if x21 = 2 then (if x5 = 0 then ((bh.f k x561001).bind fun t564 => (some (t564 == 0))) else (some false)) else (if x21 = 3 then (aV.j2 k x5 x21 (x21 == 3) x561000 x561001 x561002) else (if x21 = 4 then (aV.j2 k x5 x21 (x21 == 4) x561000 x561001 x561002) else (aV.j2 k x5 x21 (x21 == 5) x561000 x561001 x561002))))
def aV.j2 : Nat → Int → Int → Bool → Int → List (S51) → List (S25) → Option (Bool)
 | 0, _, _, _, _, _, _ => none
 | k + 1, x5, x21, x43, x561000, x561001, x561002 => if x43 = true then (if x5 > 0 then (some ((x561001.length : Int) == 0)) else (some false)) else (if x21 = 6 then (if x5 = 1 then (some ((x561001.length : Int) == 0)) else (some false)) else (if x21 = 7 then (if x5 = 1 then (some ((x561001.length : Int) == 0)) else (some false)) else (some false)))
def aV.f : Nat → Int → List (S51) → List (S25) → Option (Bool)
 | 0, _, _, _ => none
 | k + 1, a0_0, l0_1, l0_2 => aV.l0 k l0_2 (l0_2.length : Int) 0 a0_0 l0_1 l0_2
end
theorem aV.calls (k : Nat) : ∀ (a0_0 : Int) (A0_1 : Option Addr) (c0_1 : Nat) (l0_1 : List (S51)) (A0_2 : Option Addr) (c0_2 : Nat) (l0_2 : List (S25)) (r : Bool) (w : World) (hr0_1 : Kd.C k51 w A0_1 l0_1.length l0_1) (hc0_1 : l0_1.length ≤ c0_1) (hr0_2 : Kd.C k25 w A0_2 l0_2.length l0_2) (hc0_2 : l0_2.length ≤ c0_2) (h : aV.f k a0_0 l0_1 l0_2 = some r),
  Calls Tryz.prog 29 #[.agg #[.int .i64 a0_0, .slice A0_1 l0_1.length c0_1, .slice A0_2 l0_2.length c0_2]] w fun e w' => e = .returned (.bool r) ∧ Below w.heap.size w w' := by
 induction k using Nat.strongRecOn with
 | _ k ih =>
 intro a0_0 A0_1 c0_1 l0_1 A0_2 c0_2 l0_2 r w hr0_1 hc0_1 hr0_2 hc0_2 h
 cases k with
 | zero => exact absurd h (by simp [aV.f])
 | succ k =>
 simp only [aV.f] at h
 have hu25 := Tryz.underlying25
 have HR1 := gz hr0_1
 have HC1 := gz hc0_1
 have HR2 := gz hr0_2
 have H := gz h
 clear hr0_1 hc0_1 hr0_2 hc0_2 h
 go_enter Tryz.func29, Tryz.ntmps29
 go_wp2_with fail
 go_loopg [9] k (fun kq v9 wr => ∃ i : Int, v9 = .int .i64 i ∧ aa (aV.l0 kq l0_2 (l0_2.length : Int) i a0_0 l0_1 l0_2 = some r) ∧ aa (kq ≤ k) ∧ aa (Below w.heap.size w wr) ∧ aa (wr.heap[w.heap.size]? = some (bx a0_0 A0_1 l0_1 c0_1 A0_2 l0_2 c0_2)))
 case atStart => exact ⟨0, rfl, H, ⟨Nat.le_refl _⟩, ⟨zb⟩, ⟨bN⟩⟩
 case round =>
  clear H
  obtain ⟨i, rfl, HA, HK, HB, B0⟩ := hrel
  cases gk with
  | zero => exact absurd HA.out (by simp [aV.l0])
  | succ k1 =>
  have h := HA.out
  clear HA
  simp only [aV.l0] at h
  by_cases c : i < (l0_2.length : Int)
  ·rw [if_pos c] at h
   have d := decide_eq_true c
   by_cases hi0 : 0 ≤ i
   case neg => rw [if_neg hi0] at h; cases h
   rw [if_pos hi0, if_pos c] at h
   obtain ⟨t, A, h⟩ := cC h
   obtain ⟨ad, X1, x1, X2, x2, e0, g0, g1, g2, n1, f1, n2, f2⟩ := d8 (Kd.C_below HR2.out HB.out) i hi0 c
   cases e0
   have F := gz (And.intro n1 (And.intro f1 (And.intro n2 f2)))
   clear n1 f1 n2 f2
   have A := gz A
   have I := gz (ih k1 Z20)
   replace h := gz h
   go_wp2_with fail
   refine (I.out _ _ _ _ _ _ _ t _ (Kd.C_alloc F.out.2.1 _) F.out.1 (Kd.C_alloc F.out.2.2.2 _) F.out.2.2.1 A.out).mono ?_
   rintro ee w1 ⟨rfl, hb⟩
   replace HB := dP HB (ai zb hb)
   replace B0 := dO B0 (ai zb hb)
   clear hb
   replace h := h.out
   cases t with
   | true =>
    rw [if_pos rfl] at h
    replace h := gz h
    go_wp2
    go_roundg k1
    case measure => have := HK.out; omega
    case rel => exact ⟨wrap64 (i + 1), rfl, h, ⟨Z20⟩, HB, B0⟩
   | false =>
    rw [if_neg Z24] at h
    obtain rfl := Option.some.inj h
    go_wp2
    go_ret
    exact ⟨rfl, HB.out⟩
  ·rw [if_neg c] at h
   have d := decide_eq_false c
   have p := b3 B0.out
   clear ih c
   obtain ⟨k2, rfl⟩ : ∃ n, k1 = n + 1 := by
    cases k1 with
    | zero => simp [aV.j1] at h
    | succ n => exact ⟨n, rfl⟩
   simp only [aV.j1] at h
   by_cases k0 : a0_0 = 0 ∨ a0_0 = 1
   ·have hh : (if (l0_2.length : Int) = 0 then some ((l0_1.length : Int) == 0) else some false) = some r := by rcases k0 with rfl | rfl <;> simpa using h
    by_cases cz : (l0_2.length : Int) = 0
    ·rw [if_pos cz] at hh
     obtain rfl := Option.some.inj hh
     have dz := e1 cz
     clear cz h hh
     rcases k0 with rfl | rfl
     all_goals (go_wp2; go_ret; exact ⟨rfl, HB.out⟩)
    ·rw [if_neg cz] at hh
     obtain rfl := Option.some.inj hh
     have dz := e3 cz
     clear cz h hh
     rcases k0 with rfl | rfl
     all_goals (go_wp2; go_ret; exact ⟨rfl, HB.out⟩)
   by_cases k0 : a0_0 = 2
   ·subst k0
    simp only [if_neg (show ¬ (2 : Int) = 0 by decide), if_neg (show ¬ ((2 : Int) == 1) = true by decide), if_true] at h
    by_cases cz : (l0_2.length : Int) = 0
    ·rw [if_pos cz] at h
     have dz := e1 cz
     obtain ⟨t, A, h⟩ := cC h
     obtain rfl := Option.some.inj h
     have A := gz A
     clear cz
     go_wp2_with fail
     refine (bh.calls _ _ _ _ t _ (Kd.C_below HR1.out HB.out) HC1.out A.out).mono ?_
     rintro ee w1 ⟨rfl, hb⟩
     replace HB := dP HB hb
     clear hb
     go_wp2
     go_ret
     exact ⟨rfl, HB.out⟩
    ·rw [if_neg cz] at h
     obtain rfl := Option.some.inj h
     have dz := e3 cz
     clear cz
     go_wp2
     go_ret
     exact ⟨rfl, HB.out⟩
   by_cases k0 : a0_0 = 3 ∨ a0_0 = 4 ∨ a0_0 = 5
   ·have hh : (if (l0_2.length : Int) > 0 then some ((l0_1.length : Int) == 0) else some false) = some r := by
     cases k2 with
     | zero => rcases k0 with rfl | rfl | rfl <;> simp [aV.j2] at h
     | succ k3 => rcases k0 with rfl | rfl | rfl <;> simpa [aV.j2] using h
    by_cases cz : (l0_2.length : Int) > 0
    ·rw [if_pos cz] at hh
     obtain rfl := Option.some.inj hh
     have dz : decide (0 < l0_2.length) = true := decide_eq_true Z8
     clear cz h hh
     rcases k0 with rfl | rfl | rfl
     all_goals (go_wp2; go_ret; exact ⟨rfl, HB.out⟩)
    ·rw [if_neg cz] at hh
     obtain rfl := Option.some.inj hh
     have dz : decide (0 < l0_2.length) = false := decide_eq_false Z8
     clear cz h hh
     rcases k0 with rfl | rfl | rfl
     all_goals (go_wp2; go_ret; exact ⟨rfl, HB.out⟩)
   by_cases k0 : a0_0 = 6 ∨ a0_0 = 7
   ·have hh : (if (l0_2.length : Int) = 1 then some ((l0_1.length : Int) == 0) else some false) = some r := by
     cases k2 with
     | zero => rcases k0 with rfl | rfl <;> simp [aV.j2] at h
     | succ k3 => rcases k0 with rfl | rfl <;> simpa [aV.j2] using h
    by_cases cz : (l0_2.length : Int) = 1
    ·rw [if_pos cz] at hh
     obtain rfl := Option.some.inj hh
     have dz := e1 cz
     clear cz h hh
     rcases k0 with rfl | rfl
     all_goals (go_wp2; go_ret; exact ⟨rfl, HB.out⟩)
    ·rw [if_neg cz] at hh
     obtain rfl := Option.some.inj hh
     have dz := e3 cz
     clear cz h hh
     rcases k0 with rfl | rfl
     all_goals (go_wp2; go_ret; exact ⟨rfl, HB.out⟩)
   have hh : some false = some r := by
    cases k2 with
    | zero => simp_all [aV.j2]
    | succ k3 => simp_all [aV.j2]
   obtain rfl := Option.some.inj hh
   have q0 := e3 (show ¬ a0_0 = 0 by omega)
   have q1 := e3 (show ¬ a0_0 = 1 by omega)
   have q2 := e3 (show ¬ a0_0 = 2 by omega)
   have q3 := e3 (show ¬ a0_0 = 3 by omega)
   have q4 := e3 (show ¬ a0_0 = 4 by omega)
   have q5 := e3 (show ¬ a0_0 = 5 by omega)
   have q6 := e3 (show ¬ a0_0 = 6 by omega)
   have q7 := e3 (show ¬ a0_0 = 7 by omega)
   clear h hh
   go_wp2
   go_ret
   exact ⟨rfl, HB.out⟩
def cS.f  : Option (Int × (List (S51)) × (List (S25))) := some (0, ([] : List (S51)), ([] : List (S25)))
theorem cS.calls  {r1 : Int} {r2 : List (S51)} {r3 : List (S25)} {w : World} (h : cS.f  = some (r1, r2, r3)) :
  Calls Tryz.prog 34 #[] w fun e w' => ∃ v1_ v2_ : Value, e = .returned (.agg #[.int .i64 r1, v1_, v2_]) ∧ Kd.R k51 51 w' w.heap.size (fun _ => True) v1_ r2 ∧ Kd.R k25 25 w' w.heap.size (fun k_ => some k_ ≠ (v1_ : Value).ownBlock) v2_ r3 ∧ Below w.heap.size w w' := by
 have hu25 := Tryz.underlying25
 have HB := gz (Below.refl w.heap.size w)
 have H : (some (0, ([] : List (S51)), ([] : List (S25)))) = some (r1, r2, r3) := h
 clear h
 simp only [Option.some.injEq, Prod.mk.injEq] at H
 obtain ⟨rfl, rfl, rfl⟩ := H
 go_enter Tryz.func34, Tryz.ntmps34
 go_wp2_with (first | ((with_reducible refine bI (N := 0) rfl ?_); refine bQ ?hg (N := 0) ?hd (cs := #[.int .i64 0, .slice none 0 0, .slice none 0 0]) (t := 25) ?hr ?_; (case hd => rfl); (case hg => rfl); (case hr => first | (go_simp; done) | (go_simp; rfl)); intro gb565 hg w1 hbox hb; have BK565 := gz (hbox); have GW565 := gE hg zB; have GE565 := gE hg zB; replace HB := gz (ai zB hb); clear hb hbox hg; have hcz2_0 := bC BK565 0 (.int .i64 0); have hcz2_1 := bC BK565 1 (.slice none 0 0); have hcz2_2 := bC BK565 2 (.slice none 0 0); have hfz2_0 := ag BK565.out 0; have hfz2_1 := ag BK565.out 1; have hfz2_2 := ag BK565.out 2))
 refine bodyPost_ret (results_cell_row rfl _ _ gb565 25 #[.int .i64 0, .slice none 0 0, .slice none 0 0] (0, 0) _ rfl (by (with_reducible repeat (first | refine az ?_ _ | refine aI ?_ | refine au ?_ _)); refine bG (cs := #[.int .i64 0, .slice none 0 0, .slice none 0 0]) ?_ 2 _ rfl; (with_reducible repeat (first | refine az ?_ _ | refine aI ?_ | refine au ?_ _)); refine bG (cs := #[.int .i64 0, .slice none 0 0, .slice none 0 0]) ?_ 1 _ rfl; (with_reducible repeat (first | refine az ?_ _ | refine aI ?_ | refine au ?_ _)); refine bG (cs := #[.int .i64 0, .slice none 0 0, .slice none 0 0]) ?_ 0 _ rfl; (with_reducible repeat (first | refine az ?_ _ | refine aI ?_ | refine au ?_ _)); exact BK565.out) Tryz.underlying25 rfl Z5) rfl ?_
 exact ⟨_, _, Z3, Z7, Z7, Z0⟩
theorem c34 (w : World) : Calls Tryz.prog 34 #[] w (Zer 0 w) := (cS.calls rfl).mono (fun e w' ⟨v1, v2, he, h1, h2, hb⟩ => by obtain ⟨A1, c1, rfl⟩ := Kd.R_slice h1; obtain ⟨A2, c2, rfl⟩ := Kd.R_slice h2; exact ⟨A1, c1, A2, c2, he, hb⟩)
def dw.f  : Option (Int × (List (S51)) × (List (S25))) := some (1, ([] : List (S51)), ([] : List (S25)))
theorem dw.calls  {r1 : Int} {r2 : List (S51)} {r3 : List (S25)} {w : World} (h : dw.f  = some (r1, r2, r3)) :
  Calls Tryz.prog 58 #[] w fun e w' => ∃ v1_ v2_ : Value, e = .returned (.agg #[.int .i64 r1, v1_, v2_]) ∧ Kd.R k51 51 w' w.heap.size (fun _ => True) v1_ r2 ∧ Kd.R k25 25 w' w.heap.size (fun k_ => some k_ ≠ (v1_ : Value).ownBlock) v2_ r3 ∧ Below w.heap.size w w' := by
 have hu25 := Tryz.underlying25
 have HB := gz (Below.refl w.heap.size w)
 have H : (some (1, ([] : List (S51)), ([] : List (S25)))) = some (r1, r2, r3) := h
 clear h
 simp only [Option.some.injEq, Prod.mk.injEq] at H
 obtain ⟨rfl, rfl, rfl⟩ := H
 go_enter Tryz.func58, Tryz.ntmps58
 go_wp2_with (first | ((with_reducible refine bI (N := 0) rfl ?_); refine bQ ?hg (N := 0) ?hd (cs := #[.int .i64 0, .slice none 0 0, .slice none 0 0]) (t := 25) ?hr ?_; (case hd => rfl); (case hg => rfl); (case hr => first | (go_simp; done) | (go_simp; rfl)); intro gb566 hg w1 hbox hb; have BK566 := gz (hbox); have GW566 := gE hg zB; have GE566 := gE hg zB; replace HB := gz (ai zB hb); clear hb hbox hg; have hcz2_0 := bC BK566 0 (.int .i64 0); have hcz2_1 := bC BK566 1 (.slice none 0 0); have hcz2_2 := bC BK566 2 (.slice none 0 0); have hfz2_0 := ag BK566.out 0; have hfz2_1 := ag BK566.out 1; have hfz2_2 := ag BK566.out 2))
 refine bodyPost_ret (results_cell_row rfl _ _ gb566 25 #[.int .i64 1, .slice none 0 0, .slice none 0 0] (0, 0) _ rfl (by (with_reducible repeat (first | refine az ?_ _ | refine aI ?_ | refine au ?_ _)); refine bG (cs := #[.int .i64 1, .slice none 0 0, .slice none 0 0]) ?_ 2 _ rfl; (with_reducible repeat (first | refine az ?_ _ | refine aI ?_ | refine au ?_ _)); refine bG (cs := #[.int .i64 1, .slice none 0 0, .slice none 0 0]) ?_ 1 _ rfl; (with_reducible repeat (first | refine az ?_ _ | refine aI ?_ | refine au ?_ _)); refine bG (cs := #[.int .i64 0, .slice none 0 0, .slice none 0 0]) ?_ 0 _ rfl; (with_reducible repeat (first | refine az ?_ _ | refine aI ?_ | refine au ?_ _)); exact BK566.out) Tryz.underlying25 rfl Z5) rfl ?_
 exact ⟨_, _, Z3, Z7, Z7, Z0⟩
theorem c58 (w : World) : Calls Tryz.prog 58 #[] w (Zer 1 w) := (dw.calls rfl).mono (fun e w' ⟨v1, v2, he, h1, h2, hb⟩ => by obtain ⟨A1, c1, rfl⟩ := Kd.R_slice h1; obtain ⟨A2, c2, rfl⟩ := Kd.R_slice h2; exact ⟨A1, c1, A2, c2, he, hb⟩)
def cq.l0 : Nat → List (S25) → List (S25) → Int → Int → Option (Int × (List (S51)) × (List (S25)))
 | 0, _, _, _, _ => none
 | k + 1, x3, x6, x7, x8 => if x8 < x7 then (if 0 ≤ x8 then (if x8 < (x6.length : Int) then (if ((an x6 x8).f0) = 0 then ((cS.f).bind fun bt570 => (some (bt570.1, bt570.2.1, bt570.2.2))) else (if ((an x6 x8).f0) = 1 then (cq.l0 k x3 x6 x7 (wrap64 (x8 + 1))) else (if ((an x6 x8).f0) = 3 then (if x3.length + ((an x6 x8).f2).length < 2513169434916 then (cq.l0 k (x3 ++ ((an x6 x8).f2)) x6 x7 (wrap64 (x8 + 1))) else (none)) else (if x3.length < 2513169434916 then (cq.l0 k (x3 ++ [(⟨(an x6 x8).f0, (an x6 x8).f1, (an x6 x8).f2⟩ : S25)]) x6 x7 (wrap64 (x8 + 1))) else (none))))) else (none)) else (none)) else (if (x3.length : Int) = 0 then ((dw.f).bind fun bt583 => (some (bt583.1, bt583.2.1, bt583.2.2))) else (if (x3.length : Int) = 1 then (if 0 < (x3.length : Int) then (some ((an x3 0).f0, (an x3 0).f1, (an x3 0).f2)) else (none)) else (some (3, ([] : List (S51)), x3))))
def cq.f (k : Nat) (l0 : List (S25)) : Option (Int × (List (S51)) × (List (S25))) := cq.l0 k ([] : List (S25)) l0 (l0.length : Int) 0
theorem cq.calls (k : Nat) (P0_ : Nat → Prop) (A0 : Option Addr) (c0 : Nat) (l0 : List (S25)) (r1 : Int) (r2 : List (S51)) (r3 : List (S25)) (w : World) (hs0 : Kd.V k25 25 w w.heap.size (fun k_ => P0_ k_) (.slice A0 l0.length c0) l0) (h : cq.f k l0 = some (r1, r2, r3)) :
  Calls Tryz.prog 60 #[.slice A0 l0.length c0] w fun e w' => ∃ v1_ v2_ : Value, e = .returned (.agg #[.int .i64 r1, v1_, v2_]) ∧ Kd.V k51 51 w' w.heap.size (fun k_ => (P0_ k_ ∨ w.heap.size ≤ k_)) v1_ r2 ∧ Kd.V k25 25 w' w.heap.size (fun k_ => (P0_ k_ ∨ w.heap.size ≤ k_)) v2_ r3 ∧ Below w.heap.size w w' := by
 have hu25 := Tryz.underlying25
 have H0 := gz hs0
 have H := gz h
 clear hs0 h
 unfold cq.f at H
 go_enter Tryz.func60, Tryz.ntmps60
 go_wp2
 go_loopg [3, 8] k (fun kq v3 v8 wr => ∃ (acc : List S25) (i : Int), v8 = .int .i64 i ∧ aa (cq.l0 kq acc l0 (l0.length : Int) i = some (r1, r2, r3)) ∧ aa (kq ≤ k) ∧ aa (Kd.N k25 25 wr w.heap.size (G1 P0_ w.heap.size) v3 acc) ∧ aa (Below w.heap.size w wr) ∧ aa (wr.heap[w.heap.size]? = some zx))
 case atStart => exact ⟨[], 0, rfl, H, ⟨Nat.le_refl _⟩, ⟨Kd.N_nil _ _ _ _ _⟩, ⟨zb⟩, ⟨bN⟩⟩
 case round =>
  clear H
  obtain ⟨acc, i, rfl, HA, HK, HN, HB, B0⟩ := hrel
  cases gk with
  | zero => exact absurd HA.out (by simp [cq.l0])
  | succ k1 =>
  have h := HA.out
  clear HA
  simp only [cq.l0] at h
  have HZ := gz (And.intro HB.out.size (bB B0.out))
  by_cases c : i < (l0.length : Int)
  ·rw [if_pos c] at h
   by_cases c0 : 0 ≤ i
   ·rw [if_pos c0, if_pos c] at h
    obtain ⟨ad, A1, c1, A2, c2, e0, x0, x1, x2, F1, F2⟩ := V_el (vO H0 HB.out) i c0 c
    cases e0
    have d := decide_eq_true c
    generalize an l0 i = t at h x0 x1 x2 F1 F2
    obtain ⟨t0, t1, t2⟩ := t
    dsimp only at h x0 x1 x2 F1 F2
    have HB8 : aa (Below wr.heap.size wr (wr.alloc (bx t0 A1 t1 c1 A2 t2 c2))) := ⟨zb⟩
    have G1' := gz (vW (base' := w.heap.size) (ok' := fun k => P0_ k ∧ k < w.heap.size) (W' := wr.alloc (bx t0 A1 t1 c1 A2 t2 c2)) F1)
    have G2' := gz (vW (base' := w.heap.size) (ok' := fun k => P0_ k ∧ k < w.heap.size) (W' := wr.alloc (bx t0 A1 t1 c1 A2 t2 c2)) F2)
    replace h := gz h
    by_cases k0 : t0 = 0
    ·obtain ⟨rfl, rfl, rfl⟩ : 0 = r1 ∧ [] = r2 ∧ [] = r3 := by have h := h.out; rw [if_pos k0] at h; simpa [cS.f] using h
     subst k0
     go_wp2_with fail
     refine (c34 _).mono ?_
     rintro ee w9 hr
     obtain ⟨D1, d1, D2, d2, rfl, T⟩ := tlz (E := P0_) (dO B0 HB8.out) (dP HB HB8.out) hr
     have q := T.2.2.2.2
     go_wp2
     exact end1 T (Nat.le_refl _)
    ·replace h := h.out
     rw [if_neg k0] at h
     have d0 := e3 k0
     by_cases k1' : t0 = 1
     ·rw [if_pos k1'] at h
      subst k1'
      replace h := gz h
      go_wp2
      go_roundg k1
      case measure => have := HK.out; omega
      case rel => exact ⟨acc, wrap64 (i + 1), rfl, h, ⟨Z20⟩, stepN HN HB8.out, dP HB HB8.out, dO B0 HB8.out⟩
     ·rw [if_neg k1'] at h
      have d1 := e3 k1'
      by_cases k3 : t0 = 3
      ·rw [if_pos k3] at h
       by_cases ca : acc.length + t2.length < 2513169434916
       ·rw [if_pos ca] at h
        subst k3
        replace h := gz h
        go_wp2_with (first | ((with_reducible refine aK (b := .append) (xs := #[.tmp 25, .tmp 27]) rfl ?_); at_builtin; refine apR (w0 := w) (okp := fun k => P0_ k ∧ k < w.heap.size) (.tmp 25) (.tmp 27) (stepN HN HB8.out).out G2'.out ?aP ?aF (dP HB HB8.out).out ?aS ca ?_; (case aP => exact fun k hk => ⟨.inl hk, dK HN (.inl Z29)⟩); (case aF => intro k hk; have := HZ.out; simp only [bL] at hk; exact .inr Z8); (case aS => have := HZ.out; simp only [bL]; omega); intro v5 w5 N5 b5 g5))
        go_roundg k1
        case measure => have := HK.out; omega
        case rel => exact ⟨acc ++ t2, wrap64 (i + 1), rfl, h, ⟨Z20⟩, ⟨N5⟩, ⟨b5⟩, bkG (dO B0 HB8.out) g5 (dK HN (.inl Z8))⟩
       ·rw [if_neg ca] at h
        cases h
      ·rw [if_neg k3] at h
       have d3 := e3 k3
       by_cases ca : acc.length < 2513169434916
       ·rw [if_pos ca] at h
        replace h := gz h
        go_wp2_with (first | ((with_reducible refine aK (b := .append) (xs := #[.tmp 14, .tmp 16]) rfl ?_); at_builtin; refine apN (w0 := w) (x := ⟨t0, t1, t2⟩) (okp := fun k => P0_ k ∧ k < w.heap.size) (.tmp 14) (.tmp 16) (stepN HN HB8.out).out G1'.out G2'.out ?aP ?aF (dP HB HB8.out).out ?aS ca ?_; (case aP => exact fun k hk => ⟨.inl hk, dK HN (.inl Z29)⟩); (case aF => intro k hk; have := HZ.out; simp only [bL] at hk; exact .inr Z8); (case aS => have := HZ.out; simp only [bL]; omega); intro v5 w5 N5 b5 g5))
        go_roundg k1
        case measure => have := HK.out; omega
        case rel => exact ⟨acc ++ [⟨t0, t1, t2⟩], wrap64 (i + 1), rfl, h, ⟨Z20⟩, ⟨N5⟩, ⟨b5⟩, bkG (dO B0 HB8.out) g5 (dK HN (.inl Z8))⟩
       ·rw [if_neg ca] at h
        cases h
   ·rw [if_neg c0] at h
    cases h
  ·rw [if_neg c] at h
   have d := decide_eq_false c
   obtain ⟨Ak, ck, rfl⟩ := Kd.N_slice HN.out
   have VA := gz (Kd.N_V (base' := w.heap.size) HN.out)
   by_cases l0' : (acc.length : Int) = 0
   ·obtain ⟨rfl, rfl, rfl⟩ : 1 = r1 ∧ [] = r2 ∧ [] = r3 := by rw [if_pos l0'] at h; simpa [dw.f] using h
    have g0 := e1 l0'
    go_wp2_with fail
    refine (c58 _).mono ?_
    rintro ee w9 hr
    obtain ⟨D1, d1, D2, d2, rfl, T⟩ := tlz (E := P0_) B0 HB hr
    have q := T.2.2.2.2
    go_wp2
    exact end1 T (Nat.le_refl _)
   ·rw [if_neg l0'] at h
    have g0 := e3 l0'
    have q := b3 B0.out
    by_cases l1' : (acc.length : Int) = 1
    ·rw [if_pos l1', if_pos Z8] at h
     simp only [Option.some.injEq, Prod.mk.injEq] at h
     obtain ⟨rfl, rfl, rfl⟩ := h
     have g1 := e1 l1'
     obtain ⟨ad, A1, c1, A2, c2, rfl, x0, x1, x2, F1, F2⟩ := V_el0 VA Z8
     go_wp2
     exact fin1 (dT B0.out) (vS F1 (fun k => G1q)) (vS F2 (fun k => G1q)) zb
    ·rw [if_neg l1'] at h
     simp only [Option.some.injEq, Prod.mk.injEq] at h
     obtain ⟨rfl, rfl, rfl⟩ := h
     have g1 := e3 l1'
     go_wp2
     exact fin1 (dT B0.out) (dA _ _ _ _ _ _ _) (vS VA (fun k => G1q)) zb
def cT.f (l0 : List S51) : Option (Int × List S51 × List S25) := if (l0.length : Int) = 0 then some (0, [], []) else some (2, l0, [])
theorem cT.vnil {α : Type} (d : Kd α) (e : Nat) (W : World) (base : Nat) (ok : Nat → Prop) (A : Option Addr) (c : Nat) : Kd.V d e W base ok (.slice A ([] : List α).length c) [] := ⟨A, c, rfl, Nat.zero_le _, fun _ _ => ⟨rfl, Z24, fun h => absurd h (Nat.lt_irrefl 0)⟩⟩
set_option maxHeartbeats 4000000 in
theorem cT.calls (P0_ : Nat → Prop) (A0 : Option Addr) (c0 : Nat) (l0 : List S51) (r1 : Int) (r2 : List S51) (r3 : List S25) (w : World) (hs0 : Kd.V k51 51 w w.heap.size (fun k_ => P0_ k_) (.slice A0 l0.length c0) l0) (h : cT.f l0 = some (r1, r2, r3)) :
  Calls Tryz.prog 77 #[.slice A0 l0.length c0] w fun e w' => ∃ v1_ v2_ : Value, e = .returned (.agg #[.int .i64 r1, v1_, v2_]) ∧ Kd.V k51 51 w' w.heap.size (fun k_ => (P0_ k_ ∨ w.heap.size ≤ k_)) v1_ r2 ∧ Kd.V k25 25 w' w.heap.size (fun k_ => (P0_ k_ ∨ w.heap.size ≤ k_)) v2_ r3 ∧ Below w.heap.size w w' := by
 have HV := gz hs0
 clear hs0
 unfold cT.f at h
 by_cases c : (l0.length : Int) = 0
 ·rw [if_pos c] at h
  obtain ⟨rfl, rfl, rfl⟩ : 0 = r1 ∧ [] = r2 ∧ [] = r3 := by simpa using h
  clear h
  have c0b : ((l0.length : Int) == 0) = true := beq_iff_eq.2 c
  clear c
  have B1 := gz (ak (Below.refl w.heap.size w) (.cells #[.int .i64 0, .slice none 0 0, .slice none 0 0] 25))
  have K1 := gz (a8 w (.cells #[.int .i64 0, .slice none 0 0, .slice none 0 0] 25))
  go_enter Tryz.func77, Tryz.ntmps77
  go_upto_region 1 with (fail)
  generalize w.alloc (.cells #[.int .i64 0, .slice none 0 0, .slice none 0 0] 25) = w1 at B1 K1 ⊢
  generalize hq : w.heap.size = q at K1 ⊢
  go_wp2_with (go_at_call 34; with_reducible refine (cS.calls rfl).mono ?_; rintro e2 w2 ⟨v1, v2, rfl, hR1, hR2, hb2⟩; have K2 := gz (ao K1.out hb2); have B2 := gz (ai B1.out hb2); obtain ⟨X1, y1, rfl⟩ := Kd.R_slice hR1; obtain ⟨X2, y2, rfl⟩ := Kd.R_slice hR2; clear hR1 hR2 hb2; have c20 := (ah K2.out 0).trans rfl; have c21 := (ah K2.out 1).trans rfl; have c22 := (ah K2.out 2).trans rfl; have f20 := ag K2.out 0; have f21 := ag K2.out 1; have f22 := ag K2.out 2)
  subst hq
  exact bodyPost_ret (v := .agg #[.int .i64 0, .slice X1 0 y1, .slice X2 0 y2]) (by simp [results, Tryz.results77, go_sem, c20, c21, c22]) rfl ⟨_, _, rfl, cT.vnil _ _ _ _ _ _ _, cT.vnil _ _ _ _ _ _ _, ((B2.out.setCell (Nat.le_refl _) _).setCell (Nat.le_refl _) _).setCell (Nat.le_refl _) _⟩
 ·rw [if_neg c] at h
  obtain ⟨rfl, rfl, rfl⟩ : 2 = r1 ∧ l0 = r2 ∧ [] = r3 := by simpa using h
  clear h
  have c0b : ((l0.length : Int) == 0) = false := beq_eq_false_iff_ne.2 c
  clear c
  have B1 := gz (ak (Below.refl w.heap.size w) (.cells #[.int .i64 0, .slice none 0 0, .slice none 0 0] 25))
  have K1 := gz (a8 w (.cells #[.int .i64 0, .slice none 0 0, .slice none 0 0] 25))
  have V1 := gz (Kd.V_alloc (Kd.V_bound HV.out) (.cells #[.int .i64 0, .slice none 0 0, .slice none 0 0] 25))
  go_enter Tryz.func77, Tryz.ntmps77
  go_upto_region 1 with (fail)
  generalize w.alloc (.cells #[.int .i64 0, .slice none 0 0, .slice none 0 0] 25) = w1 at B1 K1 V1 ⊢
  generalize hq : w.heap.size = q at K1 ⊢
  have c20 := (ah K1.out 0).trans rfl
  have c21 := (ah K1.out 1).trans rfl
  have c22 := (ah K1.out 2).trans rfl
  have f20 := ag K1.out 0
  have f21 := ag K1.out 1
  have f22 := ag K1.out 2
  go_wp2
  subst hq
  exact bodyPost_ret (v := .agg #[.int .i64 2, .slice A0 l0.length c0, .slice none 0 0]) (by simp [results, Tryz.results77, go_sem, c20, c21, c22]) rfl ⟨_, _, rfl, Kd.V_mono (Kd.V_far (Kd.V_far (Kd.V_far V1.out (fun k hk => Nat.ne_of_lt hk.2) _) (fun k hk => Nat.ne_of_lt hk.2) _) (fun k hk => Nat.ne_of_lt hk.2) _) (fun k hk => .inl hk.1), Kd.V_nil _ _ _ _ _, ((B1.out.setCell (Nat.le_refl _) _).setCell (Nat.le_refl _) _).setCell (Nat.le_refl _) _⟩
def cE.f (k : Nat) (a0_0 : Int) (l0_1 : List (S51)) (l0_2 : List (S25)) (a1_0 : Int) (l1_1 : List (S51)) (l1_2 : List (S25)) : Option (Bool) := (am.f k a0_0 l0_1 l0_2 a1_0 l1_1 l1_2).bind fun t593 => (some (t593 == 0))
theorem cE.mono : ∀ a0 a1 a2 a3 a4 a5 k, LeO (cE.f k a0 a1 a2 a3 a4 a5) (cE.f (k + 1) a0 a1 a2 a3 a4 a5) := by
 intro a0 a1 a2 a3 a4 a5 k
 unfold cE.f
 have m0 := @am.mono
 exact mO
theorem cE.calls (k : Nat) (a0_0 : Int) (A0_1 : Option Addr) (c0_1 : Nat) (l0_1 : List (S51)) (A0_2 : Option Addr) (c0_2 : Nat) (l0_2 : List (S25)) (a1_0 : Int) (A1_1 : Option Addr) (c1_1 : Nat) (l1_1 : List (S51)) (A1_2 : Option Addr) (c1_2 : Nat) (l1_2 : List (S25)) (r : Bool) (w : World) (hr0_1 : Kd.C k51 w A0_1 l0_1.length l0_1) (hc0_1 : l0_1.length ≤ c0_1) (hr0_2 : Kd.C k25 w A0_2 l0_2.length l0_2) (hc0_2 : l0_2.length ≤ c0_2) (hr1_1 : Kd.C k51 w A1_1 l1_1.length l1_1) (hc1_1 : l1_1.length ≤ c1_1) (hr1_2 : Kd.C k25 w A1_2 l1_2.length l1_2) (hc1_2 : l1_2.length ≤ c1_2) (h : cE.f k a0_0 l0_1 l0_2 a1_0 l1_1 l1_2 = some r) :
  Calls Tryz.prog 31 #[.agg #[.int .i64 a0_0, .slice A0_1 l0_1.length c0_1, .slice A0_2 l0_2.length c0_2], .agg #[.int .i64 a1_0, .slice A1_1 l1_1.length c1_1, .slice A1_2 l1_2.length c1_2]] w fun e w' => e = .returned (.bool r) ∧ Below w.heap.size w w' := by
 have hu25 := Tryz.underlying25
 have HR0_1 := gz hr0_1
 have HC0_1 := gz hc0_1
 clear hr0_1 hc0_1
 have HR0_2 := gz hr0_2
 have HC0_2 := gz hc0_2
 clear hr0_2 hc0_2
 have HR1_1 := gz hr1_1
 have HC1_1 := gz hc1_1
 clear hr1_1 hc1_1
 have HR1_2 := gz hr1_2
 have HC1_2 := gz hc1_2
 clear hr1_2 hc1_2
 have HB := gz (Below.refl w.heap.size w)
 have H : ((am.f k a0_0 l0_1 l0_2 a1_0 l1_1 l1_2).bind fun t593 => (some (t593 == 0))) = some r := h
 clear h
 replace H := bS H
 obtain ⟨t593, A3, H⟩ := H
 try dsimp only at H
 obtain rfl := Option.some.inj H
 go_enter Tryz.func31, Tryz.ntmps31
 go_wp2_with (first | ((with_reducible refine bI (N := 2) rfl ?_); refine bQ ?hg (N := 2) ?hd (cs := #[.int .i64 a0_0, .slice A0_1 l0_1.length c0_1, .slice A0_2 l0_2.length c0_2]) (t := 25) ?hr ?_; (case hd => rfl); (case hg => rfl); (case hr => first | (go_simp; done) | (go_simp; rfl)); intro gb591 hg w4 hbox hb; have BK591 := gz (hbox); have GW591 := gE hg zB; have GE591 := gE hg zB; replace HB := gz (ai zB hb); clear hb hbox hg) | ((with_reducible refine bI (N := 3) rfl ?_); refine bQ ?hg (N := 3) ?hd (cs := #[.int .i64 a1_0, .slice A1_1 l1_1.length c1_1, .slice A1_2 l1_2.length c1_2]) (t := 25) ?hr ?_; (case hd => rfl); (case hg => rfl); (case hr => first | (go_simp; done) | (go_simp; rfl)); intro gb592 hg w5 hbox hb; have n0_ := gz (ao (g := gb591) (o := .cells #[.int .i64 a0_0, .slice A0_1 l0_1.length c0_1, .slice A0_2 l0_2.length c0_2] 25 (0, 0)) (bK BK591) hb); have n1_ := gz (ai zB hb); have n2_ := gz (hbox); have n3_ := gE hg zB; have n4_ := gE hg zB; have n5_ := gz ((by rw [hg]; exact Nat.ne_of_lt (bB (g := gb591) (o := .cells #[.int .i64 a0_0, .slice A0_1 l0_1.length c0_1, .slice A0_2 l0_2.length c0_2] 25 (0, 0)) (bK BK591)) : gb591 ≠ gb592)); have n6_ := gz ((by rw [hg]; exact Nat.ne_of_gt (bB (g := gb591) (o := .cells #[.int .i64 a0_0, .slice A0_1 l0_1.length c0_1, .slice A0_2 l0_2.length c0_2] 25 (0, 0)) (bK BK591)) : gb592 ≠ gb591)); clear BK591; clear HB; have BK591 := n0_; have HB := n1_; have BK592 := n2_; have GW592 := n3_; have GE592 := n4_; have NB591_592 := n5_; have NB592_591 := n6_; clear n0_ n1_ n2_ n3_ n4_ n5_ n6_; clear hb hbox hg; have hnb6 := NB591_592.out; have hnc6 := NB592_591.out; have hcz7_0 := bC BK591 0 (.int .i64 a0_0); have hcz7_1 := bC BK591 1 (.slice A0_1 l0_1.length c0_1); have hcz7_2 := bC BK591 2 (.slice A0_2 l0_2.length c0_2); have hfz7_0 := ag BK591.out 0; have hfz7_1 := ag BK591.out 1; have hfz7_2 := ag BK591.out 2; have hcz8_0 := bC BK592 0 (.int .i64 a1_0); have hcz8_1 := bC BK592 1 (.slice A1_1 l1_1.length c1_1); have hcz8_2 := bC BK592 2 (.slice A1_2 l1_2.length c1_2); have hfz8_0 := ag BK592.out 0; have hfz8_1 := ag BK592.out 1; have hfz8_2 := ag BK592.out 2) | ((with_reducible refine gC 25 rfl ?_); refine bl (some 7) rfl rfl Tryz.func25 Z5 rfl #[.agg #[.int .i64 a0_0, .slice A0_1 l0_1.length c0_1, .slice A0_2 l0_2.length c0_2], .agg #[.int .i64 a1_0, .slice A1_1 l1_1.length c1_1, .slice A1_2 l1_2.length c1_2]] rfl Z1 ?_; (with_reducible refine (am.calls k a0_0 _ _ l0_1 _ _ l0_2 a1_0 _ _ l1_1 _ _ l1_2 t593 _ ?side1 ?side2 ?side3 ?side4 ?side5 ?side6 ?side7 ?side8 A3.out).mono ?_); (case side1 => repeat (first | exact (Kd.C_below HR0_1.out HB.out) | (with_reducible refine Kd.C_alloc ?_ _) | (with_reducible refine Kd.C_drewN ?_ _) | (with_reducible refine Kd.C_drew ?_))); (case side2 => exact HC0_1.out); (case side3 => repeat (first | exact (Kd.C_below HR0_2.out HB.out) | (with_reducible refine Kd.C_alloc ?_ _) | (with_reducible refine Kd.C_drewN ?_ _) | (with_reducible refine Kd.C_drew ?_))); (case side4 => exact HC0_2.out); (case side5 => repeat (first | exact (Kd.C_below HR1_1.out HB.out) | (with_reducible refine Kd.C_alloc ?_ _) | (with_reducible refine Kd.C_drewN ?_ _) | (with_reducible refine Kd.C_drew ?_))); (case side6 => exact HC1_1.out); (case side7 => repeat (first | exact (Kd.C_below HR1_2.out HB.out) | (with_reducible refine Kd.C_alloc ?_ _) | (with_reducible refine Kd.C_drewN ?_ _) | (with_reducible refine Kd.C_drew ?_))); (case side8 => exact HC1_2.out); rintro e w9 ⟨rfl, hb⟩; refine ⟨_, rfl, ?_⟩; replace BK591 := gz (ao (g := gb591) (o := .cells #[.int .i64 a0_0, .slice A0_1 l0_1.length c0_1, .slice A0_2 l0_2.length c0_2] 25 (0, 0)) (bK BK591) hb); replace BK592 := gz (ao (g := gb592) (o := .cells #[.int .i64 a1_0, .slice A1_1 l1_1.length c1_1, .slice A1_2 l1_2.length c1_2] 25 (0, 0)) (bK BK592) hb); replace HB := gz (ai zB hb); (try clear hb); (try clear hb2); (try clear hk); (try clear hi)))
 go_ret
 exact ⟨Z3, Z0⟩
def regex_every.f  : Option (Int × (List (S51)) × (List (S25))) := (cS.f).bind fun bt595 => (some (6, ([] : List (S51)), (([(⟨bt595.1, bt595.2.1, bt595.2.2⟩ : S25)] : List (S25)))))
theorem regex_every.calls  {r1 : Int} {r2 : List (S51)} {r3 : List (S25)} {w : World} (h : regex_every.f  = some (r1, r2, r3)) :
  Calls Tryz.prog 92 #[] w fun e w' => ∃ v1_ v2_ : Value, e = .returned (.agg #[.int .i64 r1, v1_, v2_]) ∧ Kd.R k51 51 w' w.heap.size (fun k_ => (w.heap.size ≤ k_)) v1_ r2 ∧ Kd.N k25 25 w' w.heap.size (fun k_ => (w.heap.size ≤ k_) ∧ some k_ ≠ (v1_ : Value).ownBlock) v2_ r3 ∧ Below w.heap.size w w' := by
 have hu25 := Tryz.underlying25
 have HB := gz (Below.refl w.heap.size w)
 have H : ((cS.f).bind fun bt595 => (some (6, ([] : List (S51)), (([(⟨bt595.1, bt595.2.1, bt595.2.2⟩ : S25)] : List (S25)))))) = some (r1, r2, r3) := h
 clear h
 replace H := Option.bind_eq_some_iff.mp H
 obtain ⟨⟨t595, t596, t599⟩, A10, H⟩ := H
 replace H : (some (6, ([] : List (S51)), (([(⟨t595, t596, t599⟩ : S25)] : List (S25))))) = some (r1, r2, r3) := H
 have A1 := gz A10
 clear A10
 obtain ⟨y602, hy602⟩ : ∃ y_ : List (S25), y_ = (([(⟨t595, t596, t599⟩ : S25)] : List (S25))) := ⟨_, rfl⟩
 replace H : (some (6, ([] : List (S51)), y602)) = some (r1, r2, r3) := by first | (rw [hy602]; with_reducible exact H) | (have H2_ := (Option.bind_some _ _).symm.trans H; rw [hy602]; with_reducible exact H2_) | (have H2_ := (Option.bind_some _ _).symm.trans H; with_reducible exact H2_) | with_reducible exact H | (rw [hy602]; exact H) | exact H
 have Ny602 := gz hy602
 clear hy602
 simp only [Option.some.injEq, Prod.mk.injEq] at H
 obtain ⟨rfl, rfl, rfl⟩ := H
 go_enter Tryz.func92, Tryz.ntmps92
 go_wp2_with (first | ((with_reducible refine bI (N := 0) rfl ?_); refine bQ ?hg (N := 0) ?hd (cs := #[.int .i64 0, .slice none 0 0, .slice none 0 0]) (t := 25) ?hr ?_; (case hd => rfl); (case hg => rfl); (case hr => first | (go_simp; done) | (go_simp; rfl)); intro gb594 hg w2 hbox hb; have BK594 := gz (hbox); have GW594 := gE hg zB; have GE594 := gE hg zB; replace HB := gz (ai zB hb); clear hb hbox hg) | ((with_reducible refine gC 34 rfl ?_); refine bl (some 1) rfl rfl Tryz.func34 Z5 rfl #[] rfl Z1 ?_; (with_reducible refine (cS.calls A1.out).mono ?_); rintro e w3 ⟨v597, v600, rfl, ho0, ho1, hb⟩; refine ⟨_, rfl, ?_⟩; have HO598 := gz (Kd.R_lower (Kd.R_newM (M := fun k_ => (w.heap.size ≤ k_)) ho0 (aU zB) (fun k_ h_ => h_)) (aU zB)); have HO601 := gz (Kd.N_lower (Kd.N_mono (ok' := fun k_ => (w.heap.size ≤ k_) ∧ some k_ ≠ (v597 : Value).ownBlock ∧ k_ ≠ gb594) (Kd.R_N (Kd.R_bound ho1)) (fun k_ hk_ => ⟨(Nat.le_trans (aU zB) hk_.2.1), hk_.1, (Kd.freshB (g := gb594) (o := .cells #[.int .i64 0, .slice none 0 0, .slice none 0 0] 25 (0, 0)) (bK BK594) k_ hk_.2.1)⟩)) (aU zB)); replace BK594 := gz (ao (g := gb594) (o := .cells #[.int .i64 0, .slice none 0 0, .slice none 0 0] 25 (0, 0)) (bK BK594) hb); replace HB := gz (ai zB hb); (try clear hb); (try clear hb2); (try clear hk); (try clear hi); (try clear ho0); (try clear ho1); obtain ⟨Ao4, co4, eo4⟩ := Kd.R_slice HO598.out; subst eo4; obtain ⟨Ao5, co5, eo5⟩ := Kd.N_slice HO601.out; subst eo5) | ((with_reducible refine bI (N := 2) rfl ?_); refine Kd.N_lit k25 _ 25 ?hg (N' := 2) ?hd (xs := ([(⟨t595, t596, t599⟩ : S25)] : List (S25))) (inner := [.int .i64 t595, .slice Ao4 t596.length co4, .slice Ao5 t599.length co5]) (ok := (fun k_ => (w.heap.size ≤ k_) ∧ k_ ≠ gb594)) (okp := (fun k_ => (w.heap.size ≤ k_) ∧ k_ ≠ gb594)) ?hr ?hp (fun _ hk => hk) ((show ∀ k_, w3.heap.size ≤ k_ → (fun k_ => (w.heap.size ≤ k_) ∧ k_ ≠ gb594) k_ from fun k_ hk => ⟨(Nat.le_trans (aU zB) hk), Kd.freshB (g := gb594) (o := .cells #[.int .i64 0, .slice none 0 0, .slice none 0 0] 25 (0, 0)) (bK BK594) k_ hk⟩) _ (Nat.le_refl _)) (Below.refl _ _) (Nat.le_refl _) Z24 ?_; (case hd => rfl); (case hg => rfl); (case hr => first | (go_simp; done) | (go_simp; rfl)); (case hp => exact (Reps.c3 (show Kd.FK k25 _ _ (⟨t595, t596, t599⟩ : S25) [.int .i64 t595, .slice Ao4 t596.length co4, .slice Ao5 t599.length co5] from (bP _ _ (⟨t595, t596, t599⟩ : S25) (Kd.R_reads' (Kd.R_mono (ok' := (fun k_ => (w.heap.size ≤ k_) ∧ k_ ≠ gb594)) (Kd.R_types (HO598.out) BK594.out Z27) (fun k_ hk => ⟨hk.1.1, hk.2⟩))).2.1 (Kd.R_F (Kd.R_mono (ok' := (fun k_ => (w.heap.size ≤ k_) ∧ k_ ≠ gb594)) (Kd.R_types (HO598.out) BK594.out Z27) (fun k_ hk => ⟨hk.1.1, hk.2⟩))) (Kd.N_reads' (Kd.N_mono (ok' := (fun k_ => (w.heap.size ≤ k_) ∧ k_ ≠ gb594)) (HO601.out) (fun k_ hk => ⟨hk.1, hk.2.2⟩))).2.1 (Kd.N_F (Kd.N_mono (ok' := (fun k_ => (w.heap.size ≤ k_) ∧ k_ ≠ gb594)) (HO601.out) (fun k_ hk => ⟨hk.1, hk.2.2⟩))))) (Reps.none _ _))); intro v603 w6 ho7 hb hg_ hnew_; clear hg_ hnew_; (first | rw [← Ny602.out] at ho7 | (simp only [Int.reduceToNat] at ho7; rw [← Ny602.out] at ho7)); have n0_ := gz (Kd.N_lower ho7 (aU zB)); have n1_ := gz (ao (g := gb594) (o := .cells #[.int .i64 0, .slice none 0 0, .slice none 0 0] 25 (0, 0)) (bK BK594) hb); have n2_ := gz (ai zB hb); clear BK594; clear HB; clear HO598; clear HO601; have HO604 := n0_; have BK594 := n1_; have HB := n2_; clear n0_ n1_ n2_; clear hb ho7; obtain ⟨Ao8, co8, eo8⟩ := Kd.N_slice HO604.out; subst eo8; have hcz9_0 := bC BK594 0 (.int .i64 0); have hcz9_1 := bC BK594 1 (.slice none 0 0); have hcz9_2 := bC BK594 2 (.slice none 0 0); have hfz9_0 := ag BK594.out 0; have hfz9_1 := ag BK594.out 1; have hfz9_2 := ag BK594.out 2))
 refine bodyPost_ret (results_cell_row rfl _ _ gb594 25 #[.int .i64 6, .slice none 0 0, .slice Ao8 y602.length co8] (0, 0) _ rfl (by (with_reducible repeat (first | refine az ?_ _ | refine aI ?_ | refine au ?_ _)); refine bG (cs := #[.int .i64 6, .slice none 0 0, .slice none 0 0]) ?_ 2 _ rfl; (with_reducible repeat (first | refine az ?_ _ | refine aI ?_ | refine au ?_ _)); refine bG (cs := #[.int .i64 6, .slice none 0 0, .slice none 0 0]) ?_ 1 _ rfl; (with_reducible repeat (first | refine az ?_ _ | refine aI ?_ | refine au ?_ _)); refine bG (cs := #[.int .i64 0, .slice none 0 0, .slice none 0 0]) ?_ 0 _ rfl; (with_reducible repeat (first | refine az ?_ _ | refine aI ?_ | refine au ?_ _)); exact BK594.out) Tryz.underlying25 rfl Z5) rfl ?_
 exact ⟨_, _, Z3, Z7, by (with_reducible repeat (first | apply Kd.N_alloc | apply Kd.N_drewN | apply Kd.N_drew)); exact Kd.N_mono (Kd.N_far (p := ⟨gb594, 2, none⟩) (Kd.N_far (p := ⟨gb594, 1, none⟩) (Kd.N_far (p := ⟨gb594, 0, none⟩) (Kd.N_mono HO604.out (fun k_ hk => (⟨hk, hk.2⟩ : _ ∧ k_ ≠ gb594))) (fun _ hk => hk.2) (.int .i64 6)) (fun _ hk => hk.2) (.slice none 0 0)) (fun _ hk => hk.2) (.slice Ao8 y602.length co8)) (fun _ hk => ⟨hk.1.1, (by simp [Value.ownBlock])⟩), Z0⟩
def aQ.l0 : Nat → List (List (S51)) → Int → Int → Option (Int)
 | 0, _, _, _ => none
 | k + 1, x6, x7, x8 => if x8 < x7 then (if 0 ≤ x8 then (if x8 < (x6.length : Int) then ((bh.f k (cP x6 x8)).bind fun t606 => (if t606 = 0 then (aQ.l0 k x6 x7 (wrap64 (x8 + 1))) else (some t606))) else (none)) else (none)) else (some 0)
def aQ.f (k : Nat) (l0 : List (List (S51))) : Option (Int) := aQ.l0 k l0 (l0.length : Int) 0
theorem aQ.mono_l : ∀ k, (∀ y0 y1 y2, LeO (aQ.l0 k y0 y1 y2) (aQ.l0 (k + 1) y0 y1 y2))
 | 0 => fun _ _ _ r h => by simp [aQ.l0] at h
 | k + 1 => by
  have ih0 := aQ.mono_l k
  ·intro y0 y1 y2
   unfold aQ.l0
   have m0 := @bh.mono
   exact mO
theorem aQ.mono : ∀ a0 k, LeO (aQ.f k a0) (aQ.f (k + 1) a0) := by
 intro a0 k
 have ih0 := aQ.mono_l k
 unfold aQ.f
 have m0 := @bh.mono
 exact mO
theorem aQ.calls (k : Nat) (A0 : Option Addr) (c0 : Nat) (l0 : List (List (S51))) (r : Int) (w : World) (hr0 : Kd.C (Kd.slice 51 k51) w A0 l0.length l0) (hc0 : l0.length ≤ c0) (h : aQ.f k l0 = some r) :
  Calls Tryz.prog 106 #[.slice A0 l0.length c0] w fun e w' => e = .returned (.int .i64 r) ∧ Below w.heap.size w w' := by
 have HR0 := gz hr0
 have HC0 := gz hc0
 clear hr0 hc0
 have HB := gz (Below.refl w.heap.size w)
 have H : (aQ.l0 k l0 (l0.length : Int) 0) = some r := h
 clear h
 have H' := gz H
 clear H
 go_enter Tryz.func106, Tryz.ntmps106
 go_wp2
 go_loopg [8] k (fun kq v8 w' => ∃ (x8_1 : Int), v8 = .int .i64 x8_1 ∧ aa (aQ.l0 kq l0 (l0.length : Int) x8_1 = some r) ∧ aa (kq ≤ k) ∧ aa (Below w.heap.size w w'))
 case atStart => exact ⟨(0), Z2, H', ⟨Nat.le_refl _⟩, ⟨Z0⟩⟩
 case round =>
  clear H'
  try clear c1
  obtain ⟨x8_1, rfl, HA, HK1, HB⟩ := hrel
  cases gk with
  | zero => exact absurd HA.out (by simp [aQ.l0])
  | succ k1 =>
   have H := HA.out
   clear HA
   simp only [aQ.l0] at H
   by_cases c2 : x8_1 < (l0.length : Int)
   ·rw [if_pos c2] at H
    have c2b0 := decide_eq_true c2
    clear c2
    by_cases c3 : 0 ≤ x8_1
    ·rw [if_pos c3] at H
     have c3b0 := decide_eq_true c3
     clear c3
     by_cases c4 : x8_1 < (l0.length : Int)
     ·rw [if_pos c4] at H
      have c4b0 := decide_eq_true c4
      clear c4
      replace H := bS H
      obtain ⟨t606, A5, H⟩ := H
      try dsimp only at H
      by_cases c6 : t606 = 0
      ·rw [if_pos c6] at H
       have c6b0 := e1 c6
       have c6b1 := e2 c6
       clear c6
       have H' := gz H
       clear H
       have p605 : 0 ≤ (x8_1 : Int) := of_decide_eq_true Z4
       have q605 : x8_1 < (l0.length : Int) := of_decide_eq_true Z4
       obtain ⟨ad605, A605_0, c605_0, e605, hx605_0, hl605_0, hi605_0⟩ := fV HR0.out x8_1 p605 q605
       cases e605
       replace hx605_0 := (HB.out.cell (World.block_lt_of_cell? w _ hx605_0)).trans hx605_0
       have HR605_0 := gz hi605_0
       have HC605_0 := gz hl605_0
       clear hi605_0 hl605_0
       replace p605 := eq_true p605
       replace q605 := eq_true q605
       go_wp2_with (first | ((with_reducible refine gC 54 rfl ?_); refine bl (some 13) rfl rfl Tryz.func54 Z5 rfl #[.slice A605_0 (cP l0 x8_1).length c605_0] rfl Z1 ?_; (with_reducible refine (bh.calls k1 _ _ (cP l0 x8_1) t606 _ ?side1 ?side2 A5.out).mono ?_); (case side1 => repeat (first | exact (Kd.C_below HR605_0.out HB.out) | (with_reducible refine Kd.C_alloc ?_ _) | (with_reducible refine Kd.C_drewN ?_ _) | (with_reducible refine Kd.C_drew ?_))); (case side2 => exact HC605_0.out); rintro e w7 ⟨rfl, hb⟩; refine ⟨_, rfl, ?_⟩; replace HB := gz (ai zB hb); (try clear hb); (try clear hb2); (try clear hk); (try clear hi)))
       go_roundg k1
       case measure => have := HK1.out; omega
       case rel => exact ⟨(wrap64 (x8_1 + 1)), Z2, H', ⟨Z22⟩, ⟨Z0⟩⟩
      ·rw [if_neg c6] at H
       have c6b0 := e3 c6
       have c6b1 := e4 c6
       obtain rfl := Option.some.inj H
       have p605 : 0 ≤ (x8_1 : Int) := of_decide_eq_true Z4
       have q605 : x8_1 < (l0.length : Int) := of_decide_eq_true Z4
       obtain ⟨ad605, A605_0, c605_0, e605, hx605_0, hl605_0, hi605_0⟩ := fV HR0.out x8_1 p605 q605
       cases e605
       replace hx605_0 := (HB.out.cell (World.block_lt_of_cell? w _ hx605_0)).trans hx605_0
       have HR605_0 := gz hi605_0
       have HC605_0 := gz hl605_0
       clear hi605_0 hl605_0
       replace p605 := eq_true p605
       replace q605 := eq_true q605
       go_wp2_with (first | ((with_reducible refine gC 54 rfl ?_); refine bl (some 13) rfl rfl Tryz.func54 Z5 rfl #[.slice A605_0 (cP l0 x8_1).length c605_0] rfl Z1 ?_; (with_reducible refine (bh.calls k1 _ _ (cP l0 x8_1) t606 _ ?side1 ?side2 A5.out).mono ?_); (case side1 => repeat (first | exact (Kd.C_below HR605_0.out HB.out) | (with_reducible refine Kd.C_alloc ?_ _) | (with_reducible refine Kd.C_drewN ?_ _) | (with_reducible refine Kd.C_drew ?_))); (case side2 => exact HC605_0.out); rintro e w8 ⟨rfl, hb⟩; refine ⟨_, rfl, ?_⟩; replace HB := gz (ai zB hb); (try clear hb); (try clear hb2); (try clear hk); (try clear hi)))
       go_ret
       exact ⟨Z3, Z0⟩
     ·rw [if_neg c4] at H
      exact absurd H Z24
    ·rw [if_neg c3] at H
     exact absurd H Z24
   ·rw [if_neg c2] at H
    have c2b0 := decide_eq_false c2
    clear c2
    obtain rfl := Option.some.inj H
    go_wp2
    go_ret
    exact ⟨Z3, Z0⟩
def cY.f (l0 : List (S51)) : Option ((List (S51))) := (some (([] : List (S51)) : List (S51))).bind fun y607 => (if y607.length + l0.length < 17592186044416 then (some (y607 ++ l0)) else (none))
theorem cY.calls (A0 : Option Addr) (c0 : Nat) (l0 : List (S51)) (r : List (S51)) (w : World) (hr0 : Kd.C k51 w A0 l0.length l0) (hc0 : l0.length ≤ c0) (h : cY.f l0 = some r) :
  Calls Tryz.prog 75 #[.slice A0 l0.length c0] w fun e w' => ∃ v0_ : Value, e = .returned (v0_) ∧ Kd.R k51 51 w' w.heap.size (fun _ => True) v0_ r ∧ Below w.heap.size w w' := by
 have q22 : ∀ (w : World) (a : Option Addr) (n c n' c' : Nat), (binOp .eql 22 (.slice a n c) (.slice none n' c')).run Tryz.prog w = .ok (.bool a.isNone) w := fun w a n c n' c' => Lib.run_eql_slice_nil w _ _ a n c n' c' Tryz.underlying22
 by_cases hA : A0 = none
 ·subst hA
  have e0 : l0 = [] := by
   rcases Nat.eq_zero_or_pos l0.length with e | e
   ·exact List.eq_nil_of_length_eq_zero e
   ·obtain ⟨ad, e1, _⟩ := hr0.2.2 e
    exact absurd e1 Z24
  subst e0
  obtain rfl : r = [] := by simpa [cY.f, eq_comm] using h
  clear h hr0 hc0
  go_enter Tryz.func75, Tryz.ntmps75
  go_wp2
  go_ret
  exact ⟨_, rfl, Kd.R_nil _ _ _ _ _, by first | exact Below.refl _ _ | exact ⟨rfl, rfl, rfl, Nat.le_refl _, fun _ _ => rfl⟩⟩
 obtain ⟨A1, rfl⟩ : ∃ A1, A0 = some A1 := by cases A0 with
  | none => exact absurd rfl hA
  | some A1 => exact ⟨A1, rfl⟩
 clear hA
 have HR0 := gz hr0
 have HC0 := gz hc0
 clear hr0 hc0
 have HB := gz (Below.refl w.heap.size w)
 have H : ((some (([] : List (S51)) : List (S51))).bind fun y607 => (if y607.length + l0.length < 17592186044416 then (some (y607 ++ l0)) else (none))) = some r := h
 clear h
 obtain ⟨y607, hy607⟩ : ∃ y_ : List (S51), y_ = (([] : List (S51))) := ⟨_, rfl⟩
 replace H : (if y607.length + l0.length < 17592186044416 then (some (y607 ++ l0)) else (none)) = some r := by first | (rw [hy607]; with_reducible exact H) | (have H2_ := (Option.bind_some _ _).symm.trans H; rw [hy607]; with_reducible exact H2_) | (have H2_ := (Option.bind_some _ _).symm.trans H; with_reducible exact H2_) | with_reducible exact H | (rw [hy607]; exact H) | exact H
 have Ny607 := gz hy607
 clear hy607
 by_cases c2 : y607.length + l0.length < 17592186044416
 ·rw [if_pos c2] at H
  have LMc2 := gz c2
  clear c2
  obtain ⟨y610, hy610⟩ : ∃ y_ : List (S51), y_ = (y607 ++ l0) := ⟨_, rfl⟩
  replace H : (some y610) = some r := by first | (rw [hy610]; with_reducible exact H) | (have H2_ := (Option.bind_some _ _).symm.trans H; rw [hy610]; with_reducible exact H2_) | (have H2_ := (Option.bind_some _ _).symm.trans H; with_reducible exact H2_) | with_reducible exact H | (rw [hy610]; exact H) | exact H
  have Ny610 := gz hy610
  clear hy610
  obtain rfl := Option.some.inj H
  go_enter Tryz.func75, Tryz.ntmps75
  go_wp2_with (first | ((with_reducible refine bI (N := 5) rfl ?_); refine Kd.R_lit k51 _ 51 ?hg (N := 5) ?hd (xs := ([] : List (S51))) (inner := []) (ok := fun _ => True) (okp := fun _ => True) ?hr ?hp (fun _ hk => hk) trivial (Below.refl _ _) (Nat.le_refl _) Z24 ?_; (case hd => rfl); (case hg => rfl); (case hr => first | (go_simp; done) | (go_simp; rfl)); (case hp => exact (Reps.none _ _)); intro v608 w3 ho4 hb hg_ hnew_; clear hg_ hnew_; (first | rw [← Ny607.out] at ho4 | (simp only [Int.reduceToNat] at ho4; rw [← Ny607.out] at ho4)); have HO609 := gz (Kd.R_lower ho4 (aU zB)); replace HB := gz (ai zB hb); clear hb ho4) | ((with_reducible refine aK (b := .append) (xs := #[.tmp 5, .tmp 6]) rfl ?_); at_builtin; refine Kd.R_append_rows k51 (w0 := w) w.heap.size rfl (.tmp 5) (.tmp 6) 22 51 (.agg #[(.int .i32 0), (.int .i32 0)]) 8 rfl Tryz.underlying22 info51 rfl Z27 Z8 v608 y607 l0 _ _ _ (fun _ => True) (fun _ => False) rfl rfl ?aO ?aR (fun _ _ h => h) (fun _ h => h.elim) ?aF ?aB ?aS ?aL ?_; (case aR => repeat (first | exact (Kd.C_below HR0.out HB.out) | (with_reducible refine Kd.C_alloc ?_ _) | (with_reducible refine Kd.C_drewN ?_ _) | (with_reducible refine Kd.C_drew ?_))); (case aB => exact zB); (case aF => exact (fun _ _ => trivial)); (case aO => exact (kK HO609)); (case aS => exact (aU zB)); (case aL => have := LMc2.out; omega); intro v611 w5 ho hb hg hat; rw [← Ny610.out] at ho; have n0_ := gz (hb); have n1_ := gz (ho); clear HB; clear HO609; have HB := n0_; have HO612 := n1_; clear n0_ n1_; clear ho hb hg hat))
  go_ret
  exact ⟨_, Z3, by (with_reducible repeat (first | apply Kd.R_alloc | apply Kd.R_drewN | apply Kd.R_drew)); exact HO612.out, Z0⟩
 ·rw [if_neg c2] at H
  exact absurd H Z24
instance : Inhabited S51 := ⟨z51⟩
def bV.cf (x y : S51) : Int := Lib.compareInt x.f0 y.f0
def bV.enc (x : S51) : List Value := [.int .i32 x.f0, .int .i32 x.f1]
def bV (l : List S51) : List S51 := (Go.Sort.pdq (ltOf bV.cf) l.toArray 0 l.toArray.size (Lib.bitLen l.toArray.size) true true).toList
theorem bV.lt (x y : S51) : ltOf bV.cf x y = decide (x.f0 < y.f0) := by
 unfold ltOf bV.cf Lib.compareInt
 by_cases h1 : x.f0 < y.f0
 ·simp [h1]
 ·by_cases h2 : y.f0 < x.f0 <;> simp [h1, h2]
theorem bV.swo : Go.Sort.SWO (ltOf bV.cf) where
 irrefl x := by rw [bV.lt]; simp
 trans x y z h1 h2 := by rw [bV.lt] at *; simp at *; omega
 ntrans x y z h1 h2 := by rw [bV.lt] at *; simp at *; omega
theorem bV.closure (x y : S51) (W : World) : Calls Tryz.prog 135 #[.agg #[.int .i32 x.f0, .int .i32 x.f1], .agg #[.int .i32 y.f0, .int .i32 y.f1]] W fun e w' => e = .returned (.int .i64 (bV.cf x y)) ∧ ∃ q os', w' = Go.Sort.grow (W.drewN q) os' := by
 obtain ⟨x0, x1⟩ := x
 obtain ⟨y0, y1⟩ := y
 unfold bV.cf Lib.compareInt
 dsimp only
 have hx : (x0 != x0) = false := by simp
 have hy : (y0 != y0) = false := by simp
 by_cases c1 : x0 < y0
 ·rw [if_pos c1]
  have d1 : decide (x0 < y0) = true := decide_eq_true c1
  go_enter Tryz.func135, Tryz.ntmps135
  go_wp2
  go_ret
  exact ⟨rfl, 0, _, by rw [Go.Sort.alloc_eq_grow, Go.Sort.alloc_eq_grow, Go.Sort.grow_grow]; rfl⟩
 rw [if_neg c1]
 have d1 : decide (x0 < y0) = false := decide_eq_false c1
 by_cases c2 : y0 < x0
 ·rw [if_pos c2]
  have d2 : decide (y0 < x0) = true := decide_eq_true c2
  go_enter Tryz.func135, Tryz.ntmps135
  go_wp2
  go_ret
  exact ⟨rfl, 0, _, by rw [Go.Sort.alloc_eq_grow, Go.Sort.alloc_eq_grow, Go.Sort.grow_grow]; rfl⟩
 rw [if_neg c2]
 have d2 : decide (y0 < x0) = false := decide_eq_false c2
 go_enter Tryz.func135, Tryz.ntmps135
 go_wp2
 go_ret
 exact ⟨rfl, 0, _, by rw [Go.Sort.alloc_eq_grow, Go.Sort.alloc_eq_grow, Go.Sort.grow_grow]; rfl⟩
theorem bV.pair {cs : List Value} {j : Nat} {a b : Value} (h0 : cs[j * 2]? = some a) (h1 : cs[j * 2 + 1]? = some b) : (cs.drop (j * 2)).take 2 = [a, b] := by
 have e0 : j * 2 < cs.length := by
  rcases Nat.lt_or_ge (j * 2) cs.length with h | h
  ·exact h
  ·rw [List.getElem?_eq_none h] at h0; simp at h0
 have e1 : j * 2 + 1 < cs.length := by
  rcases Nat.lt_or_ge (j * 2 + 1) cs.length with h | h
  ·exact h
  ·rw [List.getElem?_eq_none h] at h1; simp at h1
 rw [List.drop_eq_getElem_cons e0, List.drop_eq_getElem_cons e1]
 rw [List.getElem?_eq_getElem e0] at h0
 rw [List.getElem?_eq_getElem e1] at h1
 obtain rfl := Option.some.inj h0
 obtain rfl := Option.some.inj h1
 rfl
theorem bV.unpair {cs : List Value} {j : Nat} {a b : Value} (h : (cs.drop (j * 2)).take 2 = [a, b]) : cs[j * 2]? = some a ∧ cs[j * 2 + 1]? = some b := by
 have h0 := congrArg (fun l : List Value => l[0]?) h
 have h1 := congrArg (fun l : List Value => l[1]?) h
 simp only [List.getElem?_take, List.getElem?_drop] at h0 h1
 constructor
 ·simpa using h0
 ·simpa using h1
theorem bV.flat (d : Array S51) (t : Nat) (h : t < d.size * 2) : (Go.Sort.flatK bV.enc 2 d)[t]! = if t % 2 = 0 then .int .i32 d[t / 2]!.f0 else .int .i32 d[t / 2]!.f1 := by
 rw [Go.Sort.get_flatK _ _ _ _ h]
 rcases Nat.mod_two_eq_zero_or_one t with e | e <;> rw [e] <;> rfl
theorem bV.size_eq (l : List S51) : (bV l).length = l.length := by
 have h := (Go.Sort.pdq_sorts (ltOf bV.cf) bV.swo l.toArray 0 l.toArray.size (Lib.bitLen l.toArray.size) true true (Nat.zero_le _) (Nat.le_refl _) (.inl rfl)).1.1
 simpa [bV] using h
theorem bV.reps {w : World} {base : Nat} {ok : Nat → Prop} {d : Array S51} {cs : List Value} (hl : cs.length = d.size * 2) (h : ∀ t, t < d.size * 2 → cs[t]? = some (Go.Sort.flatK bV.enc 2 d)[t]!) : Reps (Kd.M k51 w base ok) 2 d.toList cs := by
 refine ⟨by rw [hl]; simp, fun j p hj => ?_⟩
 have hj' : j < d.size := by
  rcases Nat.lt_or_ge j d.size with h | h
  ·exact h
  ·rw [List.getElem?_eq_none (by simpa using h)] at hj; simp at hj
 have hp : d[j]! = p := by
  rw [getElem!_pos d j hj']
  rw [Array.getElem?_toList, Array.getElem?_eq_getElem hj'] at hj
  exact Option.some.inj hj
 have h0 := h (j * 2) Z8
 have h1 := h (j * 2 + 1) Z8
 rw [bV.flat d _ Z8, if_pos Z8, show j * 2 / 2 = j by omega, hp] at h0
 rw [bV.flat d _ Z8, if_neg Z8, show (j * 2 + 1) / 2 = j by omega, hp] at h1
 rw [bV.pair h0 h1]
 exact k51_mkM w base ok p
theorem bV.unreps {w : World} {base : Nat} {ok : Nat → Prop} {d : Array S51} {cs : List Value} (h : Reps (Kd.M k51 w base ok) 2 d.toList cs) (t : Nat) (ht : t < d.size * 2) : cs[t]? = some (Go.Sort.flatK bV.enc 2 d)[t]! := by
 have hj : d.toList[t / 2]? = some d[t / 2]! := by
  rw [Array.getElem?_toList, Array.getElem?_eq_getElem Z8, getElem!_pos d (t / 2) Z8]
 have := k51_openM (h.2 (t / 2) _ hj)
 obtain ⟨h0, h1⟩ := bV.unpair this
 rw [bV.flat d _ ht]
 rcases Nat.mod_two_eq_zero_or_one t with e | e
 ·rw [if_pos e]
  rwa [show t / 2 * 2 = t by omega] at h0
 ·rw [if_neg Z8]
  rwa [show t / 2 * 2 + 1 = t by omega] at h1
theorem bV.calls {w W : World} {ok : Nat → Prop} {v : Value} {xs : List S51} (HO : Kd.R k51 51 W w.heap.size ok v xs) (HB : Below w.heap.size w W) (hx : xs.length < 4611686018427387904) :
  Calls Tryz.prog 134 #[v, .func (.func 135) #[] #[]] W fun e w' => e = .returned (.tuple #[]) ∧ Kd.R k51 51 w' w.heap.size ok v (bV xs) ∧ Below w.heap.size w w' := by
 obtain ⟨h0, inner, ho, hr⟩ := HO
 rcases ho.2 with ⟨rfl, hn⟩ | ⟨g, cap, cur, rfl, hg, hh, hc, hm, hs, ht⟩
 ·obtain rfl := List.eq_nil_of_length_eq_zero hn
  refine (AnyF.slices_SortFunc_none Tryz.sortL none 0 _ W).mono ?_
  rintro e w' ⟨rfl, rfl⟩
  have e0 : bV [] = [] := List.eq_nil_of_length_eq_zero (bV.size_eq [])
  rw [e0]
  exact ⟨rfl, Kd.R_nil _ _ _ _ _, HB⟩
 ·have eg : ∀ args w, (callFunc 135 args).run Tryz.prog w = .ok (.enter 135 args) w := enters_of Tryz.func135 Z5 rfl
  have hlt : g < W.heap.size := bB hh
  have hr' : Reps (Kd.M k51 W w.heap.size (fun k => ok k ∧ some k ≠ (Value.slice (some ⟨g, 0, none⟩) xs.length cap).ownBlock)) 2 xs.toArray.toList inner := hr
  have hcell : ∀ t, t < xs.length * 2 → cur[t]? = some (Go.Sort.flatK bV.enc 2 xs.toArray)[t]! := by
   intro t h
   have := bV.unreps hr' t (by simpa using h)
   rw [← ht, List.getElem?_take, if_pos (show t < xs.length * k51.sz from h), Array.getElem?_toList] at this
   exact this
  have hH : Go.Sort.HoldsK bV.enc 2 W g 0 xs.toArray := by
   intro t h
   rw [Nat.zero_add, ah hh, ag hh]
   exact ⟨hcell t (by simpa using h), rfl⟩
  have hsz : xs.toArray.size < 4611686018427387904 := by simpa using hx
  have hcon := AnyQ.slices_SortFunc_eq Tryz.sortL 2 Tryz.isAgg51 Tryz.sizeOf51 bV.enc (fun _ => rfl) (fun x v hv => by simp [bV.enc] at hv; rcases hv with rfl | rfl <;> rfl) bV.cf bV.swo 135 #[] g 0 cap xs.toArray W eg (fun _ _ _ _ x y => bV.closure x y _) hH hlt hsz
  refine hcon.mono ?_
  rintro e w' ⟨rfl, n, os, rfl⟩
  obtain ⟨d', hd'⟩ : ∃ d', Go.Sort.pdq (ltOf bV.cf) xs.toArray 0 xs.toArray.size (Lib.bitLen xs.toArray.size) true true = d' := ⟨_, rfl⟩
  have hsr : bV xs = d'.toList := by unfold bV; rw [hd']
  have hds : d'.size = xs.length := by
   have := bV.size_eq xs
   rw [hsr] at this
   simpa using this
  have hdl : d'.toList.length = xs.length := by rw [← hsr]; exact bV.size_eq xs
  rw [hd', hsr]
  obtain ⟨cur', hcur⟩ : ∃ c, Go.Sort.putCells id 0 (Go.Sort.flatK bV.enc 2 d') cur = c := ⟨_, rfl⟩
  have hsz' : cur'.size = cur.size := by rw [← hcur]; simp [Go.Sort.putCells]
  have hs2 : cur.size = cap * 2 := hs
  have hh' : (sortWorldK bV.enc 2 W g 0 n d' os).heap[g]? = some (.cells cur' 51 (0, 0)) := by
   have e1 : (Go.Sort.putRowK bV.enc 2 (Go.Sort.ahead W n) g 0 d').heap[g]? = some (.cells cur' 51 (0, 0)) := by
    show (W.heap.modify g (Go.Sort.onCells (Go.Sort.putCells id 0 (Go.Sort.flatK bV.enc 2 d'))))[g]? = _
    rw [Array.getElem?_modify, if_pos rfl, hh, Option.map_some, ← hcur]
    rfl
   show ((Go.Sort.putRowK bV.enc 2 (Go.Sort.ahead W n) g 0 d').heap ++ os)[g]? = _
   rw [Array.getElem?_append_left]
   ·exact e1
   ·show g < (W.heap.modify g _).size
    rw [Array.size_modify]; exact hlt
  have hget : ∀ t, t < d'.size * 2 → cur'[t]? = some (Go.Sort.flatK bV.enc 2 d')[t]! := by
   intro t h
   have hlc : t < cur.size := by omega
   rw [← hcur]
   unfold Go.Sort.putCells
   rw [Array.getElem?_mapIdx, Array.getElem?_eq_getElem hlc, Option.map_some, if_pos ⟨Nat.zero_le _, by rw [Go.Sort.size_flatK]; omega⟩]
   rfl
  refine ⟨rfl, ⟨h0, cur'.toList.take (d'.size * 2), ⟨?_, .inr ⟨g, cap, cur', ?_, hg, hh', ?_, hm, by rw [hsz']; exact hs, ?_⟩⟩, ?_⟩, ?_⟩
  ·rw [List.length_take, Array.length_toList, hsz', Array.length_toList]
   show min (d'.size * 2) cur.size = d'.size * 2
   omega
  ·rw [hdl]
  ·rw [hdl]; exact hc
  ·rw [hdl, ← hds]; rfl
  ·refine bV.reps ?_ ?_
   ·rw [List.length_take, Array.length_toList, hsz']; omega
   ·intro t h
    rw [List.getElem?_take, if_pos h, Array.getElem?_toList]
    exact hget t h
  ·refine HB.trans ⟨rfl, rfl, rfl, ?_, ?_⟩
   ·show W.heap.size ≤ ((W.heap.modify g _) ++ os).size
    rw [Array.size_append, Array.size_modify]; omega
   ·intro k hk
    show ((W.heap.modify g _) ++ os)[k]? = _
    have : k < W.heap.size := Nat.lt_of_lt_of_le hk HB.size
    rw [Array.getElem?_append_left (by rw [Array.size_modify]; exact this), Array.getElem?_modify, if_neg Z8]
theorem aJ.room {l t : List S51} (h : cY.f l = some t) : t.length < 17592186044416 := by
 unfold cY.f at h
 simp only [Option.bind_some] at h
 split at h
 ·rename_i c
  obtain rfl := Option.some.inj h
  rw [List.length_append]; exact c
 ·exact absurd h Z24
def aJ.l0 : Nat → List (S51) → List (S51) → Int → Int → Option ((List (S51)))
 | 0, _, _, _, _ => none
 | k + 1, x3, x11, x12, x13 => if x13 < x12 then (if 0 ≤ x13 then (if x13 < (x11.length : Int) then (if (x3.length : Int) > 0 then (if 0 ≤ (wrap64 ((x3.length : Int) - 1)) then (if (wrap64 ((x3.length : Int) - 1)) < (x3.length : Int) then (if ((aA x11 x13).f0) ≤ (wrap32 (((aA x3 (wrap64 ((x3.length : Int) - 1))).f1) + 1)) then (aJ.l0 k (x3.set ((wrap64 ((x3.length : Int) - 1)) : Int).toNat (⟨(aA x3 (wrap64 ((x3.length : Int) - 1))).f0, mx ((aA x3 (wrap64 ((x3.length : Int) - 1))).f1) ((aA x11 x13).f1)⟩ : S51)) x11 x12 (wrap64 (x13 + 1))) else (if x3.length < 17592186044416 then (aJ.l0 k (x3 ++ [(⟨(aA x11 x13).f0, (aA x11 x13).f1⟩ : S51)]) x11 x12 (wrap64 (x13 + 1))) else (none))) else (none)) else (none)) else (if x3.length < 17592186044416 then (aJ.l0 k (x3 ++ [(⟨(aA x11 x13).f0, (aA x11 x13).f1⟩ : S51)]) x11 x12 (wrap64 (x13 + 1))) else (none))) else (none)) else (none)) else (some x3)
def aJ.f (k : Nat) (l0 : List (S51)) : Option ((List (S51))) := ((cY.f l0).map bV).bind fun t613 => (aJ.l0 k ([] : List (S51)) t613 (t613.length : Int) 0)
theorem aJ.mono_l : ∀ k, (∀ y0 y1 y2 y3, LeO (aJ.l0 k y0 y1 y2 y3) (aJ.l0 (k + 1) y0 y1 y2 y3))
 | 0 => fun _ _ _ _ r h => by simp [aJ.l0] at h
 | k + 1 => by
  have ih0 := aJ.mono_l k
  ·intro y0 y1 y2 y3
   unfold aJ.l0
   exact mO
theorem aJ.mono : ∀ a0 k, LeO (aJ.f k a0) (aJ.f (k + 1) a0) := by
 intro a0 k
 have ih0 := aJ.mono_l k
 unfold aJ.f
 exact mO
theorem aJ.calls (k : Nat) (A0 : Option Addr) (c0 : Nat) (l0 : List (S51)) (r : List (S51)) (w : World) (hr0 : Kd.C k51 w A0 l0.length l0) (hc0 : l0.length ≤ c0) (h : aJ.f k l0 = some r) :
  Calls Tryz.prog 116 #[.slice A0 l0.length c0] w fun e w' => ∃ v0_ : Value, e = .returned (v0_) ∧ Kd.R k51 51 w' w.heap.size (fun _ => True) v0_ r ∧ Below w.heap.size w w' := by
 have HR := gz hr0
 have HC := gz hc0
 clear hr0 hc0
 unfold aJ.f at h
 obtain ⟨t, A2, h⟩ := cC h
 obtain ⟨t0, A3, eS⟩ := Option.map_eq_some_iff.mp A2
 have H := gz h
 have A3 := gz A3
 have eS := gz eS
 have hz := gz (Nat.lt_of_lt_of_le (aJ.room A3.out) (by decide : 17592186044416 ≤ 4611686018427387904))
 clear h A2
 go_enter Tryz.func116, Tryz.ntmps116
 go_wp2_with fail
 refine (cY.calls _ _ l0 t0 _ HR.out HC.out A3.out).mono ?_
 rintro e w3 ⟨v, rfl, ho, hb⟩
 have HO := gz ho
 have HB := gz hb
 clear ho hb
 go_wp2_with fail
 refine (bV.calls HO.out HB.out hz.out).mono ?_
 rintro e w4 ⟨rfl, ho, hb⟩
 rw [eS.out] at ho
 obtain ⟨A, c, rfl⟩ := Kd.R_slice ho
 have H6 := gz (Kd.R_reads' ho).2.2
 have HW := gz hb
 clear ho hb HO HB
 go_wp2_with fail
 go_loopg [3, 13] k (fun kq v3 v13 wr => ∃ (x3 : List S51) (i : Int), v13 = .int .i64 i ∧ aa (aJ.l0 kq x3 t (t.length : Int) i = some r) ∧ aa (kq ≤ k) ∧ aa (Kd.R k51 51 wr w4.heap.size (fun _ => True) v3 x3) ∧ aa (Below w4.heap.size w4 wr))
 case atStart => exact ⟨[], 0, rfl, H, ⟨Nat.le_refl _⟩, ⟨Kd.R_nil _ _ _ _ _⟩, ⟨Below.refl _ _⟩⟩
 case round =>
  clear H
  obtain ⟨x3, i, rfl, HA, HK, HO, HB⟩ := hrel
  cases gk with
  | zero => exact absurd HA.out (by simp [aJ.l0])
  | succ k1 =>
  have h := HA.out
  clear HA
  simp only [aJ.l0] at h
  obtain ⟨A7, c7, rfl⟩ := Kd.R_slice HO.out
  by_cases c : i < (t.length : Int)
  ·rw [if_pos c] at h
   have d := decide_eq_true c
   by_cases hi0 : 0 ≤ i
   case neg => rw [if_neg hi0] at h; cases h
   rw [if_pos hi0, if_pos c] at h
   obtain ⟨ad, e0, g0, g1⟩ := cI (Kd.C_below H6.out HB.out) i hi0 c
   cases e0
   generalize (aA t i).f0 = f0 at g0 h
   generalize (aA t i).f1 = f1 at g1 h
   replace h := gz h
   go_wp2_with fail
   replace HO := gz (Kd.R_alloc HO.out (.cells #[.int .i32 f0, .int .i32 f1] 51))
   have B0 : aa ((wr.alloc (.cells #[.int .i32 f0, .int .i32 f1] 51)).heap[wr.heap.size]? = some (.cells #[.int .i32 f0, .int .i32 f1] 51)) := ⟨bN⟩
   replace HB := gz (ak HB.out (.cells #[.int .i32 f0, .int .i32 f1] 51))
   clear g0 g1
   generalize wr.heap.size = gb at B0 ⊢
   generalize wr.alloc (.cells #[.int .i32 f0, .int .i32 f1] 51) = W at HO HB B0 ⊢
   obtain ⟨q0, q1⟩ := b2 B0
   replace h := h.out
   by_cases cl : (x3.length : Int) > 0
   ·rw [if_pos cl] at h
    have dl : decide (0 < (x3.length : Int)) = true := decide_eq_true cl
    have dl' : decide (0 < x3.length) = true := decide_eq_true Z8
    obtain ⟨j, hj⟩ : ∃ j, wrap64 ((x3.length : Int) - 1) = j := ⟨_, rfl⟩
    have hw : IntKind.i64.wrap ((x3.length : Int) - 1) = j := (dq _).trans hj
    simp only [hj] at h
    clear hj
    by_cases hj0 : 0 ≤ j
    case neg => rw [if_neg hj0] at h; cases h
    rw [if_pos hj0] at h
    by_cases hj1 : j < (x3.length : Int)
    case neg => rw [if_neg hj1] at h; cases h
    rw [if_pos hj1] at h
    obtain ⟨g, e0, y0, y1, z1, hg, hW⟩ := R51 HO _ hj0 hj1
    cases e0
    clear hW
    by_cases ce : f0 ≤ wrap32 ((aA x3 j).f1 + 1)
    ·rw [if_pos ce] at h
     obtain ⟨m, hm⟩ : ∃ m, mx (aA x3 j).f1 f1 = m := ⟨_, rfl⟩
     have hmw : (if (aA x3 j).f1 < f1 then f1 else (aA x3 j).f1) = m := hm
     rw [hm] at h
     clear hm
     have de := decide_eq_true ce
     replace h := gz h
     clear ce
     go_wp2_with fail
     go_quiet (fail)
     replace HO := gz (Kd.R_drewN HO.out nq)
     replace HB := gz (aC HB.out nq)
     replace B0 : aa ((World.drewN W nq).heap[gb]? = _) := B0
     clear q0 q1 y0 y1 z1
     generalize World.drewN W nq = W2 at HO HB B0 ⊢
     obtain ⟨q0, q1⟩ := b2 B0
     obtain ⟨_, e0, y0, y1, z1, _, hW⟩ := R51 HO _ hj0 hj1
     cases e0
     go_wp2_with fail
     go_still_tail 14, Z5
     change wpList _ _ _ _ _ W2.drew
     go_wp2
     go_roundg k1
     case measure => have := HK.out; omega
     case rel => exact ⟨_, wrap64 (i + 1), rfl, h, ⟨Z20⟩, ⟨Kd.R_drew (hW.out _).1⟩, ⟨aX (cx HB.out hg.out)⟩⟩
    ·rw [if_neg ce] at h
     have de := decide_eq_false ce
     simp only [Option.ite_none_right_eq_some] at h
     have L := gz h.1
     replace h := gz h.2
     clear ce
     go_wp2_with fail
     go_quiet (fail)
     replace HO := gz (Kd.R_drewN HO.out nq)
     replace HB := gz (aC HB.out nq)
     go_wp2_with (first | ((with_reducible refine aK (b := .append) (xs := #[.tmp 47, .tmp 49]) rfl ?_); at_builtin; refine ap51 (w0 := w4) (x := ⟨f0, f1⟩) (.tmp 47) (.tmp 49) HO HB HB.out.size L.out ?_; intro v1 w1 n1 b1 g1; clear g1))
     go_roundg k1
     case measure => have := HK.out; omega
     case rel => exact ⟨_, wrap64 (i + 1), rfl, h, ⟨Z20⟩, ⟨n1⟩, ⟨b1⟩⟩
   ·rw [if_neg cl] at h
    have dl : decide (0 < (x3.length : Int)) = false := decide_eq_false cl
    have dl' : decide (0 < x3.length) = false := decide_eq_false Z8
    simp only [Option.ite_none_right_eq_some] at h
    have L := gz h.1
    replace h := gz h.2
    clear cl
    go_wp2_with fail
    go_quiet (fail)
    replace HO := gz (Kd.R_drewN HO.out nq)
    replace HB := gz (aC HB.out nq)
    go_wp2_with (first | ((with_reducible refine aK (b := .append) (xs := #[.tmp 47, .tmp 49]) rfl ?_); at_builtin; refine ap51 (w0 := w4) (x := ⟨f0, f1⟩) (.tmp 47) (.tmp 49) HO HB HB.out.size L.out ?_; intro v1 w1 n1 b1 g1; clear g1))
    go_roundg k1
    case measure => have := HK.out; omega
    case rel => exact ⟨_, wrap64 (i + 1), rfl, h, ⟨Z20⟩, ⟨n1⟩, ⟨b1⟩⟩
  ·rw [if_neg c] at h
   have d := decide_eq_false c
   obtain rfl := Option.some.inj h
   go_wp2
   go_ret
   exact ⟨_, rfl, Kd.R_lower HO.out HW.out.size, ai HW.out HB.out⟩
end Go.Proofs.YtaccleilcdfapaaGreat.G
