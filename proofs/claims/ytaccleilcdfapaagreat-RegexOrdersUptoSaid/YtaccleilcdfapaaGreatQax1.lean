import Derived.Test.YtaccleilcdfapaaGreatQPre
import Derived.Test.YtaccleilcdfapaaGreatQax0
namespace Go.Proofs.YtaccleilcdfapaaGreat.G
open Go.RowKit Go.Proofs.YtaccleilcdfapaaGreatW.PrintWords Go.Proofs.YtaccleilcdfapaaGreatW.PrintLast Go.Proofs.YtaccleilcdfapaaGreatW.PrintMore
attribute [local go_sem] dH dF dR dQ da cZ dG dE
set_option linter.unusedVariables false
set_option maxHeartbeats 8000000
set_option maxRecDepth 100000
set_option linter.unusedSimpArgs false
mutual
def br.l0 : Nat → Int → Int → List (S51) → List (S25) → Option (Bool)
 | 0, _, _, _, _ => none
 | k + 1, x3, x124000, x124001, x124002 => if x3 < (x124002.length : Int) then (if 0 ≤ x3 then ((br.f k ((an x124002 x3).f0) ((an x124002 x3).f1) ((an x124002 x3).f2)).bind fun t125 => (if t125 = true then (br.l0 k (wrap64 (x3 + 1)) x124000 x124001 x124002) else (some false))) else (none)) else ((aw.f k x124000 x124001 x124002).bind fun t126 => (some t126))
def br.f : Nat → Int → List (S51) → List (S25) → Option (Bool)
 | 0, _, _, _ => none
 | k + 1, a0_0, l0_1, l0_2 => br.l0 k 0 a0_0 l0_1 l0_2
end
theorem br.calls (k : Nat) : ∀ (a0_0 : Int) (A0_1 : Option Addr) (c0_1 : Nat) (l0_1 : List (S51)) (A0_2 : Option Addr) (c0_2 : Nat) (l0_2 : List (S25)) (r : Bool) (w : World) (hr0_1 : Kd.C k51 w A0_1 l0_1.length l0_1) (hc0_1 : l0_1.length ≤ c0_1) (hr0_2 : Kd.C k25 w A0_2 l0_2.length l0_2) (hc0_2 : l0_2.length ≤ c0_2) (h : br.f k a0_0 l0_1 l0_2 = some r),
  Calls Tryz.prog 39 #[.agg #[.int .i64 a0_0, .slice A0_1 l0_1.length c0_1, .slice A0_2 l0_2.length c0_2]] w fun e w' => e = .returned (.bool r) ∧ Below w.heap.size w w' := by
 induction k using Nat.strongRecOn with
 | _ k ih =>
 intro a0_0 A0_1 c0_1 l0_1 A0_2 c0_2 l0_2 r w hr0_1 hc0_1 hr0_2 hc0_2 h
 cases k with
 | zero => exact absurd h (by simp [br.f])
 | succ k =>
 simp only [br.f] at h
 have hu25 := Tryz.underlying25
 have HR0_1 := gz hr0_1
 have HC0_1 := gz hc0_1
 clear hr0_1 hc0_1
 have HR0_2 := gz hr0_2
 have HC0_2 := gz hc0_2
 clear hr0_2 hc0_2
 have HB := gz (Below.refl w.heap.size w)
 have H : (br.l0 k 0 a0_0 l0_1 l0_2) = some r := h
 clear h
 have H' := gz H
 clear H
 go_enter Tryz.func39, Tryz.ntmps39
 go_wp2_with (first | ((with_reducible refine bI (N := 1) rfl ?_); refine bQ ?hg (N := 1) ?hd (cs := #[.int .i64 a0_0, .slice A0_1 l0_1.length c0_1, .slice A0_2 l0_2.length c0_2]) (t := 25) ?hr ?_; (case hd => rfl); (case hg => rfl); (case hr => first | (go_simp; done) | (go_simp; rfl)); intro gb123 hg w2 hbox hb; have BK123 := gz (hbox); have GW123 := gE hg zB; have GE123 := gE hg zB; replace HB := gz (ai zB hb); clear hb hbox hg))
 go_loopg [3] k (fun kq v3 w' => ∃ (x3_1 : Int), v3 = .int .i64 x3_1 ∧ aa (br.l0 kq x3_1 a0_0 l0_1 l0_2 = some r) ∧ aa (kq ≤ k) ∧ aa (w'.heap[gb123]? = some (.cells #[.int .i64 a0_0, (.slice A0_1 l0_1.length c0_1), (.slice A0_2 l0_2.length c0_2)] 25 (0, 0))) ∧ aa (Below w.heap.size w w'))
 case atStart => exact ⟨(0), Z2, H', ⟨Nat.le_refl _⟩, ⟨by (with_reducible repeat (first | refine az ?_ _ | refine aI ?_ | refine au ?_ _)); exact BK123.out⟩, ⟨Z0⟩⟩
 case round =>
  clear H'
  try clear p2
  obtain ⟨x3_1, rfl, HA, HK1, BK123, HB⟩ := hrel
  cases gk with
  | zero => exact absurd HA.out (by simp [br.l0])
  | succ k1 =>
   have H := HA.out
   clear HA
   simp only [br.l0] at H
   by_cases c3 : x3_1 < (l0_2.length : Int)
   ·rw [if_pos c3] at H
    have c3b0 := decide_eq_true c3
    clear c3
    by_cases c4 : 0 ≤ x3_1
    ·rw [if_pos c4] at H
     have c4b0 := decide_eq_true c4
     clear c4
     replace H := bS H
     obtain ⟨t125, A5, H⟩ := H
     try dsimp only at H
     by_cases c6 : t125 = true
     ·subst c6
      have H1 : (br.l0 k1 (wrap64 (x3_1 + 1)) a0_0 l0_1 l0_2) = some r := by rw [if_pos rfl] at H; exact H
      clear H
      have H := H1
      clear H1
      have H' := gz H
      clear H
      have hcz7_0 := bC BK123 0 (.int .i64 a0_0)
      have hcz7_1 := bC BK123 1 (.slice A0_1 l0_1.length c0_1)
      have hcz7_2 := bC BK123 2 (.slice A0_2 l0_2.length c0_2)
      have hfz7_0 := ag BK123.out 0
      have hfz7_1 := ag BK123.out 1
      have hfz7_2 := ag BK123.out 2
      have p124 : 0 ≤ (x3_1 : Int) := of_decide_eq_true Z4
      have q124 : x3_1 < (l0_2.length : Int) := of_decide_eq_true Z4
      obtain ⟨ad124, A124_1, c124_1, A124_2, c124_2, e124, hx124_0, hx124_1, hx124_2, hl124_1, hi124_1, hl124_2, hi124_2⟩ := d8 HR0_2.out x3_1 p124 q124
      cases e124
      replace hx124_0 := (HB.out.cell (World.block_lt_of_cell? w _ hx124_0)).trans hx124_0
      replace hx124_1 := (HB.out.cell (World.block_lt_of_cell? w _ hx124_1)).trans hx124_1
      replace hx124_2 := (HB.out.cell (World.block_lt_of_cell? w _ hx124_2)).trans hx124_2
      have HR124_1 := gz hi124_1
      have HC124_1 := gz hl124_1
      clear hi124_1 hl124_1
      have HR124_2 := gz hi124_2
      have HC124_2 := gz hl124_2
      clear hi124_2 hl124_2
      replace p124 := eq_true p124
      replace q124 := eq_true q124
      go_wp2_with (first | ((with_reducible refine gC 39 rfl ?_); refine bl (some 16) rfl rfl Tryz.func39 Z5 rfl #[.agg #[.int .i64 ((an l0_2 x3_1).f0), .slice A124_1 ((an l0_2 x3_1).f1).length c124_1, .slice A124_2 ((an l0_2 x3_1).f2).length c124_2]] rfl Z1 ?_; (with_reducible refine (ih k1 Z22 ((an l0_2 x3_1).f0) _ _ ((an l0_2 x3_1).f1) _ _ ((an l0_2 x3_1).f2) true _ ?side1 ?side2 ?side3 ?side4 A5.out).mono ?_); (case side1 => repeat (first | exact (Kd.C_below HR124_1.out HB.out) | (with_reducible refine Kd.C_alloc ?_ _) | (with_reducible refine Kd.C_drewN ?_ _) | (with_reducible refine Kd.C_drew ?_))); (case side2 => exact HC124_1.out); (case side3 => repeat (first | exact (Kd.C_below HR124_2.out HB.out) | (with_reducible refine Kd.C_alloc ?_ _) | (with_reducible refine Kd.C_drewN ?_ _) | (with_reducible refine Kd.C_drew ?_))); (case side4 => exact HC124_2.out); rintro e w8 ⟨rfl, hb⟩; refine ⟨_, rfl, ?_⟩; replace BK123 := gz (ao (g := gb123) (o := .cells #[.int .i64 a0_0, .slice A0_1 l0_1.length c0_1, .slice (some ad124) l0_2.length c0_2] 25 (0, 0)) (bK BK123) hb); replace HB := gz (ai zB hb); (try clear hb); (try clear hb2); (try clear hk); (try clear hi)))
      go_roundg k1
      case measure => have := HK1.out; omega
      case rel => exact ⟨(wrap64 (x3_1 + 1)), Z2, H', ⟨Z22⟩, ⟨by (with_reducible repeat (first | refine az ?_ _ | refine aI ?_ | refine au ?_ _)); exact BK123.out⟩, ⟨Z0⟩⟩
     ·replace c6 := Bool.eq_false_iff.mpr c6
      subst c6
      have H1 : (some false) = some r := by rw [if_neg (show ¬ (false = true) by decide)] at H; exact H
      clear H
      have H := H1
      clear H1
      obtain rfl := Option.some.inj H
      have hcz9_0 := bC BK123 0 (.int .i64 a0_0)
      have hcz9_1 := bC BK123 1 (.slice A0_1 l0_1.length c0_1)
      have hcz9_2 := bC BK123 2 (.slice A0_2 l0_2.length c0_2)
      have hfz9_0 := ag BK123.out 0
      have hfz9_1 := ag BK123.out 1
      have hfz9_2 := ag BK123.out 2
      have p124 : 0 ≤ (x3_1 : Int) := of_decide_eq_true Z4
      have q124 : x3_1 < (l0_2.length : Int) := of_decide_eq_true Z4
      obtain ⟨ad124, A124_1, c124_1, A124_2, c124_2, e124, hx124_0, hx124_1, hx124_2, hl124_1, hi124_1, hl124_2, hi124_2⟩ := d8 HR0_2.out x3_1 p124 q124
      cases e124
      replace hx124_0 := (HB.out.cell (World.block_lt_of_cell? w _ hx124_0)).trans hx124_0
      replace hx124_1 := (HB.out.cell (World.block_lt_of_cell? w _ hx124_1)).trans hx124_1
      replace hx124_2 := (HB.out.cell (World.block_lt_of_cell? w _ hx124_2)).trans hx124_2
      have HR124_1 := gz hi124_1
      have HC124_1 := gz hl124_1
      clear hi124_1 hl124_1
      have HR124_2 := gz hi124_2
      have HC124_2 := gz hl124_2
      clear hi124_2 hl124_2
      replace p124 := eq_true p124
      replace q124 := eq_true q124
      go_wp2_with (first | ((with_reducible refine gC 39 rfl ?_); refine bl (some 16) rfl rfl Tryz.func39 Z5 rfl #[.agg #[.int .i64 ((an l0_2 x3_1).f0), .slice A124_1 ((an l0_2 x3_1).f1).length c124_1, .slice A124_2 ((an l0_2 x3_1).f2).length c124_2]] rfl Z1 ?_; (with_reducible refine (ih k1 Z22 ((an l0_2 x3_1).f0) _ _ ((an l0_2 x3_1).f1) _ _ ((an l0_2 x3_1).f2) false _ ?side1 ?side2 ?side3 ?side4 A5.out).mono ?_); (case side1 => repeat (first | exact (Kd.C_below HR124_1.out HB.out) | (with_reducible refine Kd.C_alloc ?_ _) | (with_reducible refine Kd.C_drewN ?_ _) | (with_reducible refine Kd.C_drew ?_))); (case side2 => exact HC124_1.out); (case side3 => repeat (first | exact (Kd.C_below HR124_2.out HB.out) | (with_reducible refine Kd.C_alloc ?_ _) | (with_reducible refine Kd.C_drewN ?_ _) | (with_reducible refine Kd.C_drew ?_))); (case side4 => exact HC124_2.out); rintro e w10 ⟨rfl, hb⟩; refine ⟨_, rfl, ?_⟩; replace BK123 := gz (ao (g := gb123) (o := .cells #[.int .i64 a0_0, .slice A0_1 l0_1.length c0_1, .slice (some ad124) l0_2.length c0_2] 25 (0, 0)) (bK BK123) hb); replace HB := gz (ai zB hb); (try clear hb); (try clear hb2); (try clear hk); (try clear hi)))
      go_ret
      exact ⟨Z3, Z0⟩
    ·rw [if_neg c4] at H
     exact absurd H Z24
   ·rw [if_neg c3] at H
    have c3b0 := decide_eq_false c3
    clear c3
    replace H := bS H
    obtain ⟨t126, A11, H⟩ := H
    try dsimp only at H
    obtain rfl := Option.some.inj H
    have hcz12_0 := bC BK123 0 (.int .i64 a0_0)
    have hcz12_1 := bC BK123 1 (.slice A0_1 l0_1.length c0_1)
    have hcz12_2 := bC BK123 2 (.slice A0_2 l0_2.length c0_2)
    have hfz12_0 := ag BK123.out 0
    have hfz12_1 := ag BK123.out 1
    have hfz12_2 := ag BK123.out 2
    go_wp2_with (first | ((with_reducible refine gC 62 rfl ?_); refine bl (some 19) rfl rfl Tryz.func62 Z5 rfl #[.agg #[.int .i64 a0_0, .slice A0_1 l0_1.length c0_1, .slice A0_2 l0_2.length c0_2]] rfl Z1 ?_; (with_reducible refine (aw.calls k1 a0_0 _ _ l0_1 _ _ l0_2 t126 _ ?side1 ?side2 ?side3 ?side4 A11.out).mono ?_); (case side1 => repeat (first | exact (Kd.C_below HR0_1.out HB.out) | (with_reducible refine Kd.C_alloc ?_ _) | (with_reducible refine Kd.C_drewN ?_ _) | (with_reducible refine Kd.C_drew ?_))); (case side2 => exact HC0_1.out); (case side3 => repeat (first | exact (Kd.C_below HR0_2.out HB.out) | (with_reducible refine Kd.C_alloc ?_ _) | (with_reducible refine Kd.C_drewN ?_ _) | (with_reducible refine Kd.C_drew ?_))); (case side4 => exact HC0_2.out); rintro e w13 ⟨rfl, hb⟩; refine ⟨_, rfl, ?_⟩; replace BK123 := gz (ao (g := gb123) (o := .cells #[.int .i64 a0_0, .slice A0_1 l0_1.length c0_1, .slice A0_2 l0_2.length c0_2] 25 (0, 0)) (bK BK123) hb); replace HB := gz (ai zB hb); (try clear hb); (try clear hb2); (try clear hk); (try clear hi)))
    go_ret
    exact ⟨Z3, Z0⟩
def bT.f  : Option (Int × (List (S51)) × (List (S25))) := some (0, ([] : List (S51)), ([] : List (S25)))
theorem bT.calls  {r1 : Int} {r2 : List (S51)} {r3 : List (S25)} {w : World} (h : bT.f  = some (r1, r2, r3)) :
  Calls Tryz.prog 83 #[] w fun e w' => ∃ v1_ v2_ : Value, e = .returned (.agg #[.int .i64 r1, v1_, v2_]) ∧ Kd.R k51 51 w' w.heap.size (fun _ => True) v1_ r2 ∧ Kd.R k25 25 w' w.heap.size (fun k_ => some k_ ≠ (v1_ : Value).ownBlock) v2_ r3 ∧ Below w.heap.size w w' := by
 have hu25 := Tryz.underlying25
 have HB := gz (Below.refl w.heap.size w)
 have H : (some (0, ([] : List (S51)), ([] : List (S25)))) = some (r1, r2, r3) := h
 clear h
 simp only [Option.some.injEq, Prod.mk.injEq] at H
 obtain ⟨rfl, rfl, rfl⟩ := H
 go_enter Tryz.func83, Tryz.ntmps83
 go_wp2_with (first | ((with_reducible refine bI (N := 0) rfl ?_); refine bQ ?hg (N := 0) ?hd (cs := #[.int .i64 0, .slice none 0 0, .slice none 0 0]) (t := 25) ?hr ?_; (case hd => rfl); (case hg => rfl); (case hr => first | (go_simp; done) | (go_simp; rfl)); intro gb127 hg w1 hbox hb; have BK127 := gz (hbox); have GW127 := gE hg zB; have GE127 := gE hg zB; replace HB := gz (ai zB hb); clear hb hbox hg; have hcz2_0 := bC BK127 0 (.int .i64 0); have hcz2_1 := bC BK127 1 (.slice none 0 0); have hcz2_2 := bC BK127 2 (.slice none 0 0); have hfz2_0 := ag BK127.out 0; have hfz2_1 := ag BK127.out 1; have hfz2_2 := ag BK127.out 2))
 refine bodyPost_ret (results_cell_row rfl _ _ gb127 25 #[.int .i64 0, .slice none 0 0, .slice none 0 0] (0, 0) _ rfl (by (with_reducible repeat (first | refine az ?_ _ | refine aI ?_ | refine au ?_ _)); refine bG (cs := #[.int .i64 0, .slice none 0 0, .slice none 0 0]) ?_ 2 _ rfl; (with_reducible repeat (first | refine az ?_ _ | refine aI ?_ | refine au ?_ _)); refine bG (cs := #[.int .i64 0, .slice none 0 0, .slice none 0 0]) ?_ 1 _ rfl; (with_reducible repeat (first | refine az ?_ _ | refine aI ?_ | refine au ?_ _)); refine bG (cs := #[.int .i64 0, .slice none 0 0, .slice none 0 0]) ?_ 0 _ rfl; (with_reducible repeat (first | refine az ?_ _ | refine aI ?_ | refine au ?_ _)); exact BK127.out) Tryz.underlying25 rfl Z5) rfl ?_
 exact ⟨_, _, Z3, Z7, Z7, Z0⟩
theorem c83 (w : World) : Calls Tryz.prog 83 #[] w (Zer 0 w) := (bT.calls rfl).mono (fun e w' ⟨v1, v2, he, h1, h2, hb⟩ => by obtain ⟨A1, c1, rfl⟩ := Kd.R_slice h1; obtain ⟨A2, c2, rfl⟩ := Kd.R_slice h2; exact ⟨A1, c1, A2, c2, he, hb⟩)
def cG.f (l0 : List S51) : Option (Int × List S51 × List S25) := if (l0.length : Int) = 0 then some (0, [], []) else some (2, l0, [])
theorem cG.vnil {α : Type} (d : Kd α) (e : Nat) (W : World) (base : Nat) (ok : Nat → Prop) (A : Option Addr) (c : Nat) : Kd.V d e W base ok (.slice A ([] : List α).length c) [] := ⟨A, c, rfl, Nat.zero_le _, fun _ _ => ⟨rfl, Z24, fun h => absurd h (Nat.lt_irrefl 0)⟩⟩
set_option maxHeartbeats 4000000 in
theorem cG.calls (P0_ : Nat → Prop) (A0 : Option Addr) (c0 : Nat) (l0 : List S51) (r1 : Int) (r2 : List S51) (r3 : List S25) (w : World) (hs0 : Kd.V k51 51 w w.heap.size (fun k_ => P0_ k_) (.slice A0 l0.length c0) l0) (h : cG.f l0 = some (r1, r2, r3)) :
  Calls Tryz.prog 63 #[.slice A0 l0.length c0] w fun e w' => ∃ v1_ v2_ : Value, e = .returned (.agg #[.int .i64 r1, v1_, v2_]) ∧ Kd.V k51 51 w' w.heap.size (fun k_ => (P0_ k_ ∨ w.heap.size ≤ k_)) v1_ r2 ∧ Kd.V k25 25 w' w.heap.size (fun k_ => (P0_ k_ ∨ w.heap.size ≤ k_)) v2_ r3 ∧ Below w.heap.size w w' := by
 have HV := gz hs0
 clear hs0
 unfold cG.f at h
 by_cases c : (l0.length : Int) = 0
 ·rw [if_pos c] at h
  obtain ⟨rfl, rfl, rfl⟩ : 0 = r1 ∧ [] = r2 ∧ [] = r3 := by simpa using h
  clear h
  have c0b : ((l0.length : Int) == 0) = true := beq_iff_eq.2 c
  clear c
  have B1 := gz (ak (Below.refl w.heap.size w) (.cells #[.int .i64 0, .slice none 0 0, .slice none 0 0] 25))
  have K1 := gz (a8 w (.cells #[.int .i64 0, .slice none 0 0, .slice none 0 0] 25))
  go_enter Tryz.func63, Tryz.ntmps63
  go_upto_region 1 with (fail)
  generalize w.alloc (.cells #[.int .i64 0, .slice none 0 0, .slice none 0 0] 25) = w1 at B1 K1 ⊢
  generalize hq : w.heap.size = q at K1 ⊢
  go_wp2_with (go_at_call 83; with_reducible refine (bT.calls rfl).mono ?_; rintro e2 w2 ⟨v1, v2, rfl, hR1, hR2, hb2⟩; have K2 := gz (ao K1.out hb2); have B2 := gz (ai B1.out hb2); obtain ⟨X1, y1, rfl⟩ := Kd.R_slice hR1; obtain ⟨X2, y2, rfl⟩ := Kd.R_slice hR2; clear hR1 hR2 hb2; have c20 := (ah K2.out 0).trans rfl; have c21 := (ah K2.out 1).trans rfl; have c22 := (ah K2.out 2).trans rfl; have f20 := ag K2.out 0; have f21 := ag K2.out 1; have f22 := ag K2.out 2)
  subst hq
  exact bodyPost_ret (v := .agg #[.int .i64 0, .slice X1 0 y1, .slice X2 0 y2]) (by simp [results, Tryz.results63, go_sem, c20, c21, c22]) rfl ⟨_, _, rfl, cG.vnil _ _ _ _ _ _ _, cG.vnil _ _ _ _ _ _ _, ((B2.out.setCell (Nat.le_refl _) _).setCell (Nat.le_refl _) _).setCell (Nat.le_refl _) _⟩
 ·rw [if_neg c] at h
  obtain ⟨rfl, rfl, rfl⟩ : 2 = r1 ∧ l0 = r2 ∧ [] = r3 := by simpa using h
  clear h
  have c0b : ((l0.length : Int) == 0) = false := beq_eq_false_iff_ne.2 c
  clear c
  have B1 := gz (ak (Below.refl w.heap.size w) (.cells #[.int .i64 0, .slice none 0 0, .slice none 0 0] 25))
  have K1 := gz (a8 w (.cells #[.int .i64 0, .slice none 0 0, .slice none 0 0] 25))
  have V1 := gz (Kd.V_alloc (Kd.V_bound HV.out) (.cells #[.int .i64 0, .slice none 0 0, .slice none 0 0] 25))
  go_enter Tryz.func63, Tryz.ntmps63
  go_upto_region 1 with (fail)
  generalize w.alloc (.cells #[.int .i64 0, .slice none 0 0, .slice none 0 0] 25) = w1 at B1 K1 V1 ⊢
  generalize hq : w.heap.size = q at K1 ⊢
  have c20 := (ah K1.out 0).trans rfl
  have c21 := (ah K1.out 1).trans rfl
  have c22 := (ah K1.out 2).trans rfl
  have f20 := ag K1.out 0
  have f21 := ag K1.out 1
  have f22 := ag K1.out 2
  go_wp2
  subst hq
  exact bodyPost_ret (v := .agg #[.int .i64 2, .slice A0 l0.length c0, .slice none 0 0]) (by simp [results, Tryz.results63, go_sem, c20, c21, c22]) rfl ⟨_, _, rfl, Kd.V_mono (Kd.V_far (Kd.V_far (Kd.V_far V1.out (fun k hk => Nat.ne_of_lt hk.2) _) (fun k hk => Nat.ne_of_lt hk.2) _) (fun k hk => Nat.ne_of_lt hk.2) _) (fun k hk => .inl hk.1), Kd.V_nil _ _ _ _ _, ((B1.out.setCell (Nat.le_refl _) _).setCell (Nat.le_refl _) _).setCell (Nat.le_refl _) _⟩
def cL.f  : Option (Int × (List (S51)) × (List (S25))) := some (1, ([] : List (S51)), ([] : List (S25)))
theorem cL.calls  {r1 : Int} {r2 : List (S51)} {r3 : List (S25)} {w : World} (h : cL.f  = some (r1, r2, r3)) :
  Calls Tryz.prog 84 #[] w fun e w' => ∃ v1_ v2_ : Value, e = .returned (.agg #[.int .i64 r1, v1_, v2_]) ∧ Kd.R k51 51 w' w.heap.size (fun _ => True) v1_ r2 ∧ Kd.R k25 25 w' w.heap.size (fun k_ => some k_ ≠ (v1_ : Value).ownBlock) v2_ r3 ∧ Below w.heap.size w w' := by
 have hu25 := Tryz.underlying25
 have HB := gz (Below.refl w.heap.size w)
 have H : (some (1, ([] : List (S51)), ([] : List (S25)))) = some (r1, r2, r3) := h
 clear h
 simp only [Option.some.injEq, Prod.mk.injEq] at H
 obtain ⟨rfl, rfl, rfl⟩ := H
 go_enter Tryz.func84, Tryz.ntmps84
 go_wp2_with (first | ((with_reducible refine bI (N := 0) rfl ?_); refine bQ ?hg (N := 0) ?hd (cs := #[.int .i64 0, .slice none 0 0, .slice none 0 0]) (t := 25) ?hr ?_; (case hd => rfl); (case hg => rfl); (case hr => first | (go_simp; done) | (go_simp; rfl)); intro gb128 hg w1 hbox hb; have BK128 := gz (hbox); have GW128 := gE hg zB; have GE128 := gE hg zB; replace HB := gz (ai zB hb); clear hb hbox hg; have hcz2_0 := bC BK128 0 (.int .i64 0); have hcz2_1 := bC BK128 1 (.slice none 0 0); have hcz2_2 := bC BK128 2 (.slice none 0 0); have hfz2_0 := ag BK128.out 0; have hfz2_1 := ag BK128.out 1; have hfz2_2 := ag BK128.out 2))
 refine bodyPost_ret (results_cell_row rfl _ _ gb128 25 #[.int .i64 1, .slice none 0 0, .slice none 0 0] (0, 0) _ rfl (by (with_reducible repeat (first | refine az ?_ _ | refine aI ?_ | refine au ?_ _)); refine bG (cs := #[.int .i64 1, .slice none 0 0, .slice none 0 0]) ?_ 2 _ rfl; (with_reducible repeat (first | refine az ?_ _ | refine aI ?_ | refine au ?_ _)); refine bG (cs := #[.int .i64 1, .slice none 0 0, .slice none 0 0]) ?_ 1 _ rfl; (with_reducible repeat (first | refine az ?_ _ | refine aI ?_ | refine au ?_ _)); refine bG (cs := #[.int .i64 0, .slice none 0 0, .slice none 0 0]) ?_ 0 _ rfl; (with_reducible repeat (first | refine az ?_ _ | refine aI ?_ | refine au ?_ _)); exact BK128.out) Tryz.underlying25 rfl Z5) rfl ?_
 exact ⟨_, _, Z3, Z7, Z7, Z0⟩
theorem c84 (w : World) : Calls Tryz.prog 84 #[] w (Zer 1 w) := (cL.calls rfl).mono (fun e w' ⟨v1, v2, he, h1, h2, hb⟩ => by obtain ⟨A1, c1, rfl⟩ := Kd.R_slice h1; obtain ⟨A2, c2, rfl⟩ := Kd.R_slice h2; exact ⟨A1, c1, A2, c2, he, hb⟩)
def bH.l0 : Nat → List (S25) → List (S25) → Int → Option (Int × (List (S51)) × (List (S25)))
 | 0, _, _, _ => none
 | k + 1, x0, x3, x4 => if x4 < (x0.length : Int) then (if 0 ≤ x4 then (if ((an x0 x4).f0) = 0 then ((bT.f).bind fun bt131 => (some (bt131.1, bt131.2.1, bt131.2.2))) else (if ((an x0 x4).f0) = 1 then (bH.l0 k x0 x3 (wrap64 (x4 + 1))) else (if ((an x0 x4).f0) = 3 then (if x3.length + ((an x0 x4).f2).length < 2513169434916 then (bH.l0 k x0 (x3 ++ ((an x0 x4).f2)) (wrap64 (x4 + 1))) else (none)) else (if x3.length < 2513169434916 then (bH.l0 k x0 (x3 ++ [(⟨(an x0 x4).f0, (an x0 x4).f1, (an x0 x4).f2⟩ : S25)]) (wrap64 (x4 + 1))) else (none))))) else (none)) else (if (x3.length : Int) = 0 then ((cL.f).bind fun bt146 => (some (bt146.1, bt146.2.1, bt146.2.2))) else (if (x3.length : Int) = 1 then (if 0 < (x3.length : Int) then (some ((an x3 0).f0, (an x3 0).f1, (an x3 0).f2)) else (none)) else (some (3, ([] : List (S51)), x3))))
def bH.f (k : Nat) (l0 : List (S25)) : Option (Int × (List (S51)) × (List (S25))) := bH.l0 k l0 ([] : List (S25)) 0
theorem bH.calls (k : Nat) (P0_ : Nat → Prop) (A0 : Option Addr) (c0 : Nat) (l0 : List (S25)) (r1 : Int) (r2 : List (S51)) (r3 : List (S25)) (w : World) (hs0 : Kd.V k25 25 w w.heap.size (fun k_ => P0_ k_) (.slice A0 l0.length c0) l0) (h : bH.f k l0 = some (r1, r2, r3)) :
  Calls Tryz.prog 64 #[.slice A0 l0.length c0] w fun e w' => ∃ v1_ v2_ : Value, e = .returned (.agg #[.int .i64 r1, v1_, v2_]) ∧ Kd.V k51 51 w' w.heap.size (fun k_ => (P0_ k_ ∨ w.heap.size ≤ k_)) v1_ r2 ∧ Kd.V k25 25 w' w.heap.size (fun k_ => (P0_ k_ ∨ w.heap.size ≤ k_)) v2_ r3 ∧ Below w.heap.size w w' := by
 have hu25 := Tryz.underlying25
 have H0 := gz hs0
 have H := gz h
 clear hs0 h
 unfold bH.f at H
 go_enter Tryz.func64, Tryz.ntmps64
 go_wp2
 go_loopg [3, 4] k (fun kq v3 v4 wr => ∃ (acc : List S25) (i : Int), v4 = .int .i64 i ∧ aa (bH.l0 kq l0 acc i = some (r1, r2, r3)) ∧ aa (kq ≤ k) ∧ aa (Kd.N k25 25 wr w.heap.size (G1 P0_ w.heap.size) v3 acc) ∧ aa (Below w.heap.size w wr) ∧ aa (wr.heap[w.heap.size]? = some zx))
 case atStart => exact ⟨[], 0, rfl, H, ⟨Nat.le_refl _⟩, ⟨Kd.N_nil _ _ _ _ _⟩, ⟨zb⟩, ⟨bN⟩⟩
 case round =>
  clear H
  obtain ⟨acc, i, rfl, HA, HK, HN, HB, B0⟩ := hrel
  cases gk with
  | zero => exact absurd HA.out (by simp [bH.l0])
  | succ k1 =>
  have h := HA.out
  clear HA
  simp only [bH.l0] at h
  have HZ := gz (And.intro HB.out.size (bB B0.out))
  by_cases c : i < (l0.length : Int)
  ·rw [if_pos c] at h
   by_cases c0 : 0 ≤ i
   ·rw [if_pos c0] at h
    obtain ⟨ad, A1, c1, A2, c2, e0, x0, x1, x2, F1, F2⟩ := V_el (vO H0 HB.out) i c0 c
    cases e0
    have d := decide_eq_true c
    generalize an l0 i = t at h x0 x1 x2 F1 F2
    obtain ⟨t0, t1, t2⟩ := t
    dsimp only at h x0 x1 x2 F1 F2
    replace h := gz h
    by_cases k0 : t0 = 0
    ·obtain ⟨rfl, rfl, rfl⟩ : 0 = r1 ∧ [] = r2 ∧ [] = r3 := by have h := h.out; rw [if_pos k0] at h; simpa [bT.f] using h
     subst k0
     go_wp2_with fail
     refine (c83 _).mono ?_
     rintro ee w9 hr
     obtain ⟨D1, d1, D2, d2, rfl, T⟩ := tlz (E := P0_) B0 HB hr
     have q := T.2.2.2.2
     go_wp2
     exact end1 T (Nat.le_refl _)
    ·replace h := h.out
     rw [if_neg k0] at h
     have d0 := e3 k0
     by_cases k1' : t0 = 1
     ·rw [if_pos k1'] at h
      subst k1'
      replace h := gz h
      go_wp2
      go_roundg k1
      case measure => have := HK.out; omega
      case rel => exact ⟨acc, wrap64 (i + 1), rfl, h, ⟨Z20⟩, HN, HB, B0⟩
     ·rw [if_neg k1'] at h
      have d1 := e3 k1'
      by_cases k3 : t0 = 3
      ·rw [if_pos k3] at h
       by_cases ca : acc.length + t2.length < 2513169434916
       ·rw [if_pos ca] at h
        subst k3
        replace h := gz h
        go_wp2_with (first | ((with_reducible refine aK (b := .append) (xs := #[.tmp 30, .tmp 35]) rfl ?_); at_builtin; refine apR (w0 := w) (okp := fun k => P0_ k ∧ k < w.heap.size) (.tmp 30) (.tmp 35) HN.out F2.out ?aP ?aF HB.out ?aS ca ?_; (case aP => exact fun k hk => ⟨.inl hk, dK HN (.inl Z29)⟩); (case aF => intro k hk; have := HZ.out; exact .inr Z8); (case aS => have := HZ.out; omega); intro v5 w5 N5 b5 g5))
        go_roundg k1
        case measure => have := HK.out; omega
        case rel => exact ⟨acc ++ t2, wrap64 (i + 1), rfl, h, ⟨Z20⟩, ⟨N5⟩, ⟨b5⟩, bkG B0 g5 (dK HN (.inl Z8))⟩
       ·rw [if_neg ca] at h
        cases h
      ·rw [if_neg k3] at h
       have d3 := e3 k3
       by_cases ca : acc.length < 2513169434916
       ·rw [if_pos ca] at h
        replace h := gz h
        go_wp2_with (first | ((with_reducible refine aK (b := .append) (xs := #[.tmp 16, .tmp 21]) rfl ?_); at_builtin; refine apN (w0 := w) (x := ⟨t0, t1, t2⟩) (okp := fun k => P0_ k ∧ k < w.heap.size) (.tmp 16) (.tmp 21) HN.out F1.out F2.out ?aP ?aF HB.out ?aS ca ?_; (case aP => exact fun k hk => ⟨.inl hk, dK HN (.inl Z29)⟩); (case aF => intro k hk; have := HZ.out; exact .inr Z8); (case aS => have := HZ.out; omega); intro v5 w5 N5 b5 g5))
        go_roundg k1
        case measure => have := HK.out; omega
        case rel => exact ⟨acc ++ [⟨t0, t1, t2⟩], wrap64 (i + 1), rfl, h, ⟨Z20⟩, ⟨N5⟩, ⟨b5⟩, bkG B0 g5 (dK HN (.inl Z8))⟩
       ·rw [if_neg ca] at h
        cases h
   ·rw [if_neg c0] at h
    cases h
  ·rw [if_neg c] at h
   have d := decide_eq_false c
   obtain ⟨Ak, ck, rfl⟩ := Kd.N_slice HN.out
   have VA := gz (Kd.N_V (base' := w.heap.size) HN.out)
   by_cases l0' : (acc.length : Int) = 0
   ·obtain ⟨rfl, rfl, rfl⟩ : 1 = r1 ∧ [] = r2 ∧ [] = r3 := by rw [if_pos l0'] at h; simpa [cL.f] using h
    have g0 := e1 l0'
    go_wp2_with fail
    refine (c84 _).mono ?_
    rintro ee w9 hr
    obtain ⟨D1, d1, D2, d2, rfl, T⟩ := tlz (E := P0_) B0 HB hr
    have q := T.2.2.2.2
    go_wp2
    exact end1 T (Nat.le_refl _)
   ·rw [if_neg l0'] at h
    have g0 := e3 l0'
    have q := b3 B0.out
    by_cases l1' : (acc.length : Int) = 1
    ·rw [if_pos l1', if_pos Z8] at h
     simp only [Option.some.injEq, Prod.mk.injEq] at h
     obtain ⟨rfl, rfl, rfl⟩ := h
     have g1 := e1 l1'
     obtain ⟨ad, A1, c1, A2, c2, rfl, x0, x1, x2, F1, F2⟩ := V_el0 VA Z8
     go_wp2
     exact fin1 (dT B0.out) (vS F1 (fun k => G1q)) (vS F2 (fun k => G1q)) zb
    ·rw [if_neg l1'] at h
     simp only [Option.some.injEq, Prod.mk.injEq] at h
     obtain ⟨rfl, rfl, rfl⟩ := h
     have g1 := e3 l1'
     go_wp2
     exact fin1 (dT B0.out) (dA _ _ _ _ _ _ _) (vS VA (fun k => G1q)) zb
def bU.f (a0 : Int) : Option (Bool) := some (a0 != a0)
theorem bU.calls {a0 : Int} {r : Bool} {w : World} (h : bU.f a0 = some r) :
  Calls Tryz.prog 70 #[.int .i64 a0] w fun e w' => e = .returned (.bool r) ∧ Drawn0 w w' := by
 have H : (some (a0 != a0)) = some r := h
 clear h
 obtain rfl := Option.some.inj H
 go_enter Tryz.func70, Tryz.ntmps70
 go_wp2
 go_ret
 exact ⟨Z2, Z6⟩
def fo.f (a0 : Int) (a1 : Int) : Option (Int) := (bU.f a0).bind fun t154 => ((bU.f a1).bind fun t155 => (if t154 = true then (if t155 = true then (some 0) else (some (-1))) else (if t155 = true then (some 1) else (if a0 < a1 then (some (-1)) else (if a0 > a1 then (some 1) else (some 0))))))
theorem fo.calls {a0 : Int} {a1 : Int} {r : Int} {w : World} (h : fo.f a0 a1 = some r) :
  Calls Tryz.prog 42 #[.int .i64 a0, .int .i64 a1] w fun e w' => e = .returned (.int .i64 r) ∧ Drawn0 w w' := by
 have H : ((bU.f a0).bind fun t154 => ((bU.f a1).bind fun t155 => (if t154 = true then (if t155 = true then (some 0) else (some (-1))) else (if t155 = true then (some 1) else (if a0 < a1 then (some (-1)) else (if a0 > a1 then (some 1) else (some 0))))))) = some r := h
 clear h
 replace H := bS H
 obtain ⟨t154, A3, H⟩ := H
 try dsimp only at H
 replace H := bS H
 obtain ⟨t155, A4, H⟩ := H
 try dsimp only at H
 by_cases c5 : t154 = true
 ·subst c5
  have H1 : (if t155 = true then (some 0) else (some (-1))) = some r := by rw [if_pos rfl] at H; exact H
  clear H
  have H := H1
  clear H1
  by_cases c6 : t155 = true
  ·subst c6
   have H1 : (some 0) = some r := by rw [if_pos rfl] at H; exact H
   clear H
   have H := H1
   clear H1
   obtain rfl := Option.some.inj H
   go_enter Tryz.func42, Tryz.ntmps42
   go_wp2_with (first | ((with_reducible refine gC 70 rfl ?_); refine bl (some 8) rfl rfl Tryz.func70 Z5 rfl #[.int .i64 a0] rfl Z1 ?_; (with_reducible refine (bU.calls A3.out).mono ?_); rintro e w' ⟨rfl, ⟨nd, rfl⟩⟩; refine ⟨_, rfl, ?_⟩) | ((with_reducible refine gC 70 rfl ?_); refine bl (some 10) rfl rfl Tryz.func70 Z5 rfl #[.int .i64 a1] rfl Z1 ?_; (with_reducible refine (bU.calls A4.out).mono ?_); rintro e w' ⟨rfl, ⟨nd, rfl⟩⟩; refine ⟨_, rfl, ?_⟩))
   go_ret
   exact ⟨Z2, Z6⟩
  ·replace c6 := Bool.eq_false_iff.mpr c6
   subst c6
   have H1 : (some (-1)) = some r := by rw [if_neg (show ¬ (false = true) by decide)] at H; exact H
   clear H
   have H := H1
   clear H1
   obtain rfl := Option.some.inj H
   go_enter Tryz.func42, Tryz.ntmps42
   go_wp2_with (first | ((with_reducible refine gC 70 rfl ?_); refine bl (some 8) rfl rfl Tryz.func70 Z5 rfl #[.int .i64 a0] rfl Z1 ?_; (with_reducible refine (bU.calls A3.out).mono ?_); rintro e w' ⟨rfl, ⟨nd, rfl⟩⟩; refine ⟨_, rfl, ?_⟩) | ((with_reducible refine gC 70 rfl ?_); refine bl (some 10) rfl rfl Tryz.func70 Z5 rfl #[.int .i64 a1] rfl Z1 ?_; (with_reducible refine (bU.calls A4.out).mono ?_); rintro e w' ⟨rfl, ⟨nd, rfl⟩⟩; refine ⟨_, rfl, ?_⟩))
   go_ret
   exact ⟨Z2, Z6⟩
 ·replace c5 := Bool.eq_false_iff.mpr c5
  subst c5
  have H1 : (if t155 = true then (some 1) else (if a0 < a1 then (some (-1)) else (if a0 > a1 then (some 1) else (some 0)))) = some r := by rw [if_neg (show ¬ (false = true) by decide)] at H; exact H
  clear H
  have H := H1
  clear H1
  by_cases c7 : t155 = true
  ·subst c7
   have H1 : (some 1) = some r := by rw [if_pos rfl] at H; exact H
   clear H
   have H := H1
   clear H1
   obtain rfl := Option.some.inj H
   go_enter Tryz.func42, Tryz.ntmps42
   go_wp2_with (first | ((with_reducible refine gC 70 rfl ?_); refine bl (some 8) rfl rfl Tryz.func70 Z5 rfl #[.int .i64 a0] rfl Z1 ?_; (with_reducible refine (bU.calls A3.out).mono ?_); rintro e w' ⟨rfl, ⟨nd, rfl⟩⟩; refine ⟨_, rfl, ?_⟩) | ((with_reducible refine gC 70 rfl ?_); refine bl (some 10) rfl rfl Tryz.func70 Z5 rfl #[.int .i64 a1] rfl Z1 ?_; (with_reducible refine (bU.calls A4.out).mono ?_); rintro e w' ⟨rfl, ⟨nd, rfl⟩⟩; refine ⟨_, rfl, ?_⟩))
   go_ret
   exact ⟨Z2, Z6⟩
  ·replace c7 := Bool.eq_false_iff.mpr c7
   subst c7
   have H1 : (if a0 < a1 then (some (-1)) else (if a0 > a1 then (some 1) else (some 0))) = some r := by rw [if_neg (show ¬ (false = true) by decide)] at H; exact H
   clear H
   have H := H1
   clear H1
   by_cases c8 : a0 < a1
   ·rw [if_pos c8] at H
    have c8b0 := decide_eq_true c8
    clear c8
    obtain rfl := Option.some.inj H
    go_enter Tryz.func42, Tryz.ntmps42
    go_wp2_with (first | ((with_reducible refine gC 70 rfl ?_); refine bl (some 8) rfl rfl Tryz.func70 Z5 rfl #[.int .i64 a0] rfl Z1 ?_; (with_reducible refine (bU.calls A3.out).mono ?_); rintro e w' ⟨rfl, ⟨nd, rfl⟩⟩; refine ⟨_, rfl, ?_⟩) | ((with_reducible refine gC 70 rfl ?_); refine bl (some 10) rfl rfl Tryz.func70 Z5 rfl #[.int .i64 a1] rfl Z1 ?_; (with_reducible refine (bU.calls A4.out).mono ?_); rintro e w' ⟨rfl, ⟨nd, rfl⟩⟩; refine ⟨_, rfl, ?_⟩))
    go_ret
    exact ⟨Z2, Z6⟩
   ·rw [if_neg c8] at H
    have c8b0 := decide_eq_false c8
    clear c8
    by_cases c9 : a0 > a1
    ·rw [if_pos c9] at H
     have c9b0 : decide (a1 < a0) = true := decide_eq_true c9
     clear c9
     obtain rfl := Option.some.inj H
     go_enter Tryz.func42, Tryz.ntmps42
     go_wp2_with (first | ((with_reducible refine gC 70 rfl ?_); refine bl (some 8) rfl rfl Tryz.func70 Z5 rfl #[.int .i64 a0] rfl Z1 ?_; (with_reducible refine (bU.calls A3.out).mono ?_); rintro e w' ⟨rfl, ⟨nd, rfl⟩⟩; refine ⟨_, rfl, ?_⟩) | ((with_reducible refine gC 70 rfl ?_); refine bl (some 10) rfl rfl Tryz.func70 Z5 rfl #[.int .i64 a1] rfl Z1 ?_; (with_reducible refine (bU.calls A4.out).mono ?_); rintro e w' ⟨rfl, ⟨nd, rfl⟩⟩; refine ⟨_, rfl, ?_⟩))
     go_ret
     exact ⟨Z2, Z6⟩
    ·rw [if_neg c9] at H
     have c9b0 : decide (a1 < a0) = false := decide_eq_false c9
     clear c9
     obtain rfl := Option.some.inj H
     go_enter Tryz.func42, Tryz.ntmps42
     go_wp2_with (first | ((with_reducible refine gC 70 rfl ?_); refine bl (some 8) rfl rfl Tryz.func70 Z5 rfl #[.int .i64 a0] rfl Z1 ?_; (with_reducible refine (bU.calls A3.out).mono ?_); rintro e w' ⟨rfl, ⟨nd, rfl⟩⟩; refine ⟨_, rfl, ?_⟩) | ((with_reducible refine gC 70 rfl ?_); refine bl (some 10) rfl rfl Tryz.func70 Z5 rfl #[.int .i64 a1] rfl Z1 ?_; (with_reducible refine (bU.calls A4.out).mono ?_); rintro e w' ⟨rfl, ⟨nd, rfl⟩⟩; refine ⟨_, rfl, ?_⟩))
     go_ret
     exact ⟨Z2, Z6⟩
def bA.f (l0 l1 : List S51) : Option Int := some (av.ord l0 l1)
def bA.cf (x y : S51) : Int := if x.f0 < y.f0 then -1 else if x.f0 > y.f0 then 1 else if x.f1 < y.f1 then -1 else if x.f1 > y.f1 then 1 else 0
theorem bA.cmp (x y r : Int) (hr : (if x < y then (-1 : Int) else if x > y then 1 else 0) = r) (w : World) : Calls Tryz.prog 46 #[.int .i32 x, .int .i32 y] w fun e w' => e = .returned (.int .i64 r) ∧ Drawn0 w w' := by
 have hx : (x != x) = false := by simp
 have hy : (y != y) = false := by simp
 by_cases c1 : x < y
 ·rw [if_pos c1] at hr
  subst hr
  have d1 : decide (x < y) = true := decide_eq_true c1
  go_enter Tryz.func46, Tryz.ntmps46
  go_wp2
  go_ret
  exact ⟨rfl, Z6⟩
 rw [if_neg c1] at hr
 have d1 : decide (x < y) = false := decide_eq_false c1
 by_cases c2 : y < x
 ·rw [if_pos c2] at hr
  subst hr
  have d2 : decide (y < x) = true := decide_eq_true c2
  go_enter Tryz.func46, Tryz.ntmps46
  go_wp2
  go_ret
  exact ⟨rfl, Z6⟩
 rw [if_neg c2] at hr
 subst hr
 have d2 : decide (y < x) = false := decide_eq_false c2
 go_enter Tryz.func46, Tryz.ntmps46
 go_wp2
 go_ret
 exact ⟨rfl, Z6⟩
theorem bA.or (a b r : Int) (hr : (if a = 0 then b else a) = r) (q : Nat) (w : World) (h0 : w.cell? ⟨q, 0, none⟩ = some (.int .i64 a)) (h1 : w.cell? ⟨q, 1, none⟩ = some (.int .i64 b)) : Calls Tryz.prog 45 #[.slice (some ⟨q, 0, none⟩) 2 2] w fun e w' => e = .returned (.int .i64 r) ∧ Drawn0 w w' := by
 have HL := gz hr
 clear hr
 go_enter Tryz.func45, Tryz.ntmps45
 go_wp2
 go_loopw [8] (fun i wr => ∃ (j : Int), i = .int .i64 j ∧ aa (j = 0 ∨ (j = 1 ∧ a = 0) ∨ (j = 2 ∧ a = 0 ∧ b = 0)) ∧ w = wr) (fun i _ => 2 - (intOf i).toNat)
 case atStart => exact ⟨0, rfl, ⟨.inl rfl⟩, rfl⟩
 case round =>
  obtain ⟨j, rfl, HJ, rfl⟩ := hrel
  rcases HJ.out with rfl | ⟨rfl, rfl⟩ | ⟨rfl, rfl, rfl⟩
  ·clear HJ
   by_cases e : a = 0
   ·subst e
    go_wp2
    go_roundw
    case rel => exact ⟨1, rfl, ⟨Z24⟩, Z24⟩
    case measure => simp [intOf]
   ·have d : (a != 0) = true := bne_iff_ne.mpr e
    obtain rfl : a = r := by have := HL.out; rwa [if_neg e] at this
    go_wp2
    go_ret
    exact ⟨rfl, Drawn0.refl _⟩
  ·clear HJ
   obtain rfl : b = r := by have := HL.out; rwa [if_pos rfl] at this
   by_cases e : b = 0
   ·subst e
    go_wp2
    go_roundw
    case rel => exact ⟨2, rfl, ⟨Z24⟩, Z24⟩
    case measure => simp [intOf]
   ·have d : (b != 0) = true := bne_iff_ne.mpr e
    go_wp2
    go_ret
    exact ⟨rfl, Drawn0.refl _⟩
  ·clear HJ
   obtain rfl : 0 = r := by have := HL.out; rwa [if_pos rfl] at this
   go_wp2
   go_ret
   exact ⟨rfl, Drawn0.refl _⟩
theorem bA.closure (x0 x1 y0 y1 r : Int) (hr : bA.cf ⟨x0, x1⟩ ⟨y0, y1⟩ = r) (w : World) : Calls Tryz.prog 44 #[.agg #[.int .i32 x0, .int .i32 x1], .agg #[.int .i32 y0, .int .i32 y1]] w fun e w' => e = .returned (.int .i64 r) ∧ Below w.heap.size w w' := by
 have hr2 : (if (if x0 < y0 then (-1 : Int) else if x0 > y0 then 1 else 0) = 0 then (if x1 < y1 then (-1 : Int) else if x1 > y1 then 1 else 0) else (if x0 < y0 then (-1 : Int) else if x0 > y0 then 1 else 0)) = r := by
  rw [← hr]
  unfold bA.cf
  by_cases c1 : x0 < y0
  ·simp [c1]
  ·by_cases c2 : x0 > y0 <;> simp [c1, c2]
 clear hr
 go_enter Tryz.func44, Tryz.ntmps44
 go_wp2_with fail
 have B1 := a8 w (.cells #[.int .i32 x0, .int .i32 x1] 51)
 have B2 := a8 (w.alloc (.cells #[.int .i32 x0, .int .i32 x1] 51)) (.cells #[.int .i32 y0, .int .i32 y1] 51)
 have HB := gz (show Below w.heap.size w ((w.alloc (.cells #[.int .i32 x0, .int .i32 x1] 51)).alloc (.cells #[.int .i32 y0, .int .i32 y1] 51)) from by repeat (first | exact Below.refl _ _ | apply ak))
 have hs : (w.alloc (.cells #[.int .i32 x0, .int .i32 x1] 51)).heap.size = w.heap.size + 1 := Array.size_push _
 rw [hs] at B2
 have B3 : ((w.alloc (.cells #[.int .i32 x0, .int .i32 x1] 51)).alloc (.cells #[.int .i32 y0, .int .i32 y1] 51)).heap[w.heap.size]? = some (.cells #[.int .i32 x0, .int .i32 x1] 51 (0, 0)) := by
  rw [← B1]
  exact Below.heap_alloc _ _ _ (by rw [hs]; omega)
 clear hs B1
 generalize ((w.alloc (.cells #[.int .i32 x0, .int .i32 x1] 51)).alloc (.cells #[.int .i32 y0, .int .i32 y1] 51)) = wx at HB B2 B3 ⊢
 generalize hp : w.heap.size + 1 = p at B2 ⊢
 generalize hq : w.heap.size = q at B3 HB ⊢
 have c0 := (ah B3 0).trans rfl
 have c1 := (ah B3 1).trans rfl
 have c2 := (ah B2 0).trans rfl
 have c3 := (ah B2 1).trans rfl
 clear B2 B3 hp
 have n0 := World.new_ne wx _ c0
 have n1 := World.new_ne wx _ c1
 have n2 := World.new_ne wx _ c2
 have n3 := World.new_ne wx _ c3
 obtain ⟨u0, hu0⟩ : ∃ u, (if x0 < y0 then (-1 : Int) else if x0 > y0 then 1 else 0) = u := ⟨_, rfl⟩
 obtain ⟨u1, hu1⟩ : ∃ u, (if x1 < y1 then (-1 : Int) else if x1 > y1 then 1 else 0) = u := ⟨_, rfl⟩
 rw [hu0, hu1] at hr2
 replace hr2 := gz hr2
 replace hu0 := gz hu0
 replace hu1 := gz hu1
 go_region_held3 (fun w' => w'.cell? ⟨q, 0, none⟩ = some (.int .i32 x0) ∧ w'.cell? ⟨q, 1, none⟩ = some (.int .i32 x1) ∧ w'.cell? ⟨p, 0, none⟩ = some (.int .i32 y0) ∧ w'.cell? ⟨p, 1, none⟩ = some (.int .i32 y1)) (go_keep) (first | (go_at_call_of 46 (Value.int .i32 x0); refine (bA.cmp x0 y0 _ hu0.out _).mono ?_; rintro e w' ⟨rfl, ⟨n, rfl⟩⟩; dsimp only) | (go_at_call_of 46 (Value.int .i32 x1); refine (bA.cmp x1 y1 _ hu1.out _).mono ?_; rintro e w' ⟨rfl, ⟨n, rfl⟩⟩; dsimp only) | (go_at_call 45; refine (bA.or u0 u1 r hr2.out wx.heap.size _ ?_ ?_).mono ?_; (exact (ah (a8 _ _) 0).trans rfl); (exact (ah (a8 _ _) 1).trans rfl); rintro e w' ⟨rfl, ⟨n, rfl⟩⟩; dsimp only))
 go_wp2
 go_ret
 subst hq
 exact ⟨rfl, by repeat (first | exact HB.out | apply ak | apply aC | apply aX)⟩
theorem bA.drops (l : List S51) (x : Int) (h0 : 0 ≤ x) (h : x < (l.length : Int)) : l.drop x.toNat = aA l x :: l.drop (x + 1).toNat := by
 have hl : x.toNat < l.length := by omega
 rw [List.drop_eq_getElem_cons hl, show (x + 1).toNat = x.toNat + 1 from by omega]
 congr 1
 unfold aA
 rw [List.getD_eq_getElem?_getD, List.getElem?_eq_getElem hl]
 rfl
theorem bA.step (x y : S51) (a b : List S51) : av.ord (x :: a) (y :: b) = if bA.cf x y = 0 then av.ord a b else bA.cf x y := by
 unfold bA.cf
 rw [av.ord]
 by_cases c1 : x.f0 < y.f0
 ·simp [c1]
 by_cases c2 : x.f0 > y.f0
 ·simp [c1, c2]
 by_cases c3 : x.f1 < y.f1
 ·simp [c1, c2, c3]
 by_cases c4 : x.f1 > y.f1
 ·simp [c1, c2, c3, c4]
 ·simp [c1, c2, c3, c4]
theorem bA.calls (A0 : Option Addr) (c0 : Nat) (l0 : List (S51)) (A1 : Option Addr) (c1 : Nat) (l1 : List (S51)) (r : Int) (w : World) (hr0 : Kd.C k51 w A0 l0.length l0) (hc0 : l0.length ≤ c0) (hr1 : Kd.C k51 w A1 l1.length l1) (hc1 : l1.length ≤ c1) (h : bA.f l0 l1 = some r) :
  Calls Tryz.prog 43 #[.slice A0 l0.length c0, .slice A1 l1.length c1, .func (.func 44) #[] #[]] w fun e w' => e = .returned (.int .i64 r) ∧ Below w.heap.size w w' := by
 have HR0 := gz hr0
 have HR1 := gz hr1
 clear hr0 hc0 hr1 hc1
 have HB := gz (Below.refl w.heap.size w)
 have HL := gz (show av.ord (l0.drop (0 : Int).toNat) (l1.drop (0 : Int).toNat) = r from Option.some.inj h)
 clear h
 go_enter Tryz.func43, Tryz.ntmps43
 go_wp2
 go_loopw [13] (fun i wr => ∃ (x : Int), 0 ≤ x ∧ x ≤ (l0.length : Int) ∧ x ≤ (l1.length : Int) ∧ i = .int .i64 x ∧ aa (Below w.heap.size w wr) ∧ aa (av.ord (l0.drop x.toNat) (l1.drop x.toNat) = r)) (fun i _ => l0.length - (intOf i).toNat)
 case atStart => exact ⟨0, Z8, Z8, Z8, rfl, HB, HL⟩
 case round =>
  clear HB HL
  obtain ⟨x, hx0, hx1, hx2, rfl, HB, HL⟩ := hrel
  have hl := HL.out
  clear HL
  by_cases hlt : x < (l0.length : Int)
  ·have d1 : decide (x < (l0.length : Int)) = true := decide_eq_true hlt
   by_cases hlu : x < (l1.length : Int)
   ·have d2 : decide ((l1.length : Int) ≤ x) = false := decide_eq_false Z8
    have d3 : decide (x ≥ (l1.length : Int)) = false := decide_eq_false Z8
    rw [bA.drops l0 x hx0 hlt, bA.drops l1 x hx0 hlu, bA.step] at hl
    obtain ⟨ad, e0, h0, h1⟩ := cI (Kd.C_below HR0.out HB.out) x hx0 hlt
    obtain ⟨be, e1, g0, g1⟩ := cI (Kd.C_below HR1.out HB.out) x hx0 hlu
    cases e0
    cases e1
    obtain ⟨⟨t0, t1⟩, ht⟩ : ∃ t, aA l0 x = t := ⟨_, rfl⟩
    obtain ⟨⟨s0, s1⟩, hs⟩ : ∃ t, aA l1 x = t := ⟨_, rfl⟩
    rw [ht] at hl h0 h1
    rw [hs] at hl g0 g1
    clear ht hs
    dsimp only at h0 h1 g0 g1
    have hw : wrap64 (x + 1) = x + 1 := by unfold wrap64; have := HR0.out.2.1; omega
    have hw := gz hw
    obtain ⟨u, hu⟩ : ∃ u, bA.cf ⟨t0, t1⟩ ⟨s0, s1⟩ = u := ⟨_, rfl⟩
    rw [hu] at hl
    replace hl := gz hl
    replace hu := gz hu
    have p0 := eq_true hx0
    have q0 := eq_true hlt
    have q1 := eq_true hlu
    have n0 := World.new_ne wr _ h0
    have n1 := World.new_ne wr _ h1
    have n2 := World.new_ne wr _ g0
    have n3 := World.new_ne wr _ g1
    have f0 := ((ak (Below.refl wr.heap.size wr) (.cells #[.int .i32 t0, .int .i32 t1] 51)).cell (World.block_lt_of_cell? wr _ g0)).trans g0
    have f1 := ((ak (Below.refl wr.heap.size wr) (.cells #[.int .i32 t0, .int .i32 t1] 51)).cell (World.block_lt_of_cell? wr _ g1)).trans g1
    by_cases cu : u = 0
    ·have b1 : (u != 0) = false := bne_eq_false_iff_eq.mpr cu
     have hr := hl.out
     rw [if_pos cu] at hr
     clear hl cu
     replace hr := gz hr
     go_wp2_with fail
     refine (bA.closure t0 t1 s0 s1 _ hu.out _).mono ?_
     rintro e W1 ⟨rfl, hb⟩
     have HB2 := gz (show Below w.heap.size w W1 from below_then (by repeat (first | exact HB.out | apply ak)) (aU (by repeat (first | exact HB.out | apply ak))) hb)
     clear hb
     go_wp2
     go_roundw
     case rel => exact ⟨x + 1, Z8, Z8, Z8, by rw [hw.out], HB2, hr⟩
     case measure => simp [intOf]; omega
    ·have b1 : (u != 0) = true := bne_iff_ne.mpr cu
     obtain rfl : u = r := by have := hl.out; rwa [if_neg cu] at this
     clear hl cu
     go_wp2_with fail
     refine (bA.closure t0 t1 s0 s1 _ hu.out _).mono ?_
     rintro e W1 ⟨rfl, hb⟩
     have HB2 := gz (show Below w.heap.size w W1 from below_then (by repeat (first | exact HB.out | apply ak)) (aU (by repeat (first | exact HB.out | apply ak))) hb)
     clear hb
     go_wp2
     go_ret
     exact ⟨rfl, HB2.out⟩
   ·have d2 : decide ((l1.length : Int) ≤ x) = true := decide_eq_true Z8
    have d3 : decide (x ≥ (l1.length : Int)) = true := decide_eq_true Z8
    rw [bA.drops l0 x hx0 hlt, List.drop_eq_nil_of_le (show l1.length ≤ x.toNat by omega)] at hl
    unfold av.ord at hl
    subst hl
    obtain ⟨ad, e0, h0, h1⟩ := cI (Kd.C_below HR0.out HB.out) x hx0 hlt
    cases e0
    have p0 := eq_true hx0
    have q0 := eq_true hlt
    go_wp2
    go_ret
    exact ⟨rfl, by repeat (first | exact HB.out | apply ak | apply aC | apply aX)⟩
  ·have d1 : decide (x < (l0.length : Int)) = false := decide_eq_false hlt
   rw [List.drop_eq_nil_of_le (show l0.length ≤ x.toNat by omega)] at hl
   by_cases hlu : x < (l1.length : Int)
   ·have d3 : decide ((l0.length : Int) < (l1.length : Int)) = true := decide_eq_true Z8
    rw [bA.drops l1 x hx0 hlu] at hl
    unfold av.ord at hl
    subst hl
    go_wp2
    go_ret
    exact ⟨rfl, HB.out⟩
   ·have d3 : decide ((l0.length : Int) < (l1.length : Int)) = false := decide_eq_false Z8
    rw [List.drop_eq_nil_of_le (show l1.length ≤ x.toNat by omega)] at hl
    unfold av.ord at hl
    subst hl
    go_wp2
    go_ret
    exact ⟨rfl, HB.out⟩
end Go.Proofs.YtaccleilcdfapaaGreat.G
