import Derived.Test.YtaccleilcdfapaaGreatQPre
import Derived.Test.YtaccleilcdfapaaGreatQax11
import Derived.Test.YtaccleilcdfapaaGreatQax12
import Derived.Test.YtaccleilcdfapaaGreatQax2
import Derived.Test.YtaccleilcdfapaaGreatQax9
namespace Go.Proofs.YtaccleilcdfapaaGreat.G
open Go.RowKit Go.Proofs.YtaccleilcdfapaaGreatW.PrintWords Go.Proofs.YtaccleilcdfapaaGreatW.PrintLast Go.Proofs.YtaccleilcdfapaaGreatW.PrintMore
attribute [local go_sem] dH dF dR dQ da cZ dG dE
set_option linter.unusedVariables false
set_option maxHeartbeats 8000000
set_option maxRecDepth 100000
set_option linter.unusedSimpArgs false
def ax.txA : ByteArray := ⟨#[91, 97, 45, 99, 93, 42, 32, 38, 32, 33, 34, 98, 34]⟩
def ax.trA : S25 := ⟨5, [], [⟨6, [], [⟨2, [⟨98, 98⟩], []⟩]⟩, ⟨7, [], [⟨2, [⟨97, 99⟩], []⟩]⟩]⟩
theorem ax.awP : ab.parseP 30 3 ax.txA = some ax.trA := by kernel_rfl
theorem ax.awR : bX.f 30 ax.trA.f0 ax.trA.f1 ax.trA.f2 = some true := by kernel_rfl
theorem ax.small_mk {j : Nat} {x : S25} (h : x.f1.length + x.f2.length ≤ 1000000) (hk : ∀ y ∈ x.f2, af.Small j y) : af.Small (j + 1) x := ⟨h, fun i y hi => hk y (List.mem_of_getElem? hi)⟩
theorem ax.awS : af.Small 5 ax.trA := by
 refine ax.small_mk Z27 (fun y hy => ?_)
 simp only [ax.trA, List.mem_cons, List.not_mem_nil, or_false] at hy
 rcases hy with rfl | rfl
 all_goals
  refine ax.small_mk Z27 (fun y hy => ?_)
  simp only [List.mem_cons, List.not_mem_nil, or_false] at hy
  subst hy
  exact ax.small_mk Z27 (fun y hy => by simp at hy)
theorem ax.aw1 : ((af.TK [97, 98] 30 ax.trA 0 0 2 []).map (·.1)) = some true := by kernel_rfl
theorem ax.aw2 : ((af.TK [98] 30 ax.trA 0 0 1 []).map (·.1)) = some false := by kernel_rfl
theorem ax.aw3 : ((af.TK [100] 30 ax.trA 0 0 1 []).map (·.1)) = some false := by kernel_rfl
theorem ax.awZ : af.sizeT ax.trA ≤ 1000000 := by
 have h : af.sizeT ax.trA = 5 := by kernel_rfl
 omega
theorem ax.rowA {w : World} {g : Nat} {cs : Array Value} {row : List Int} (h : w.heap[g]? = some (.cells cs 21 (0, 0))) (hc : cs = (row.map (Value.int .i32)).toArray) : ∀ (i : Nat) (v : Int), row[i]? = some v → w.cell? ⟨g, i, none⟩ = some (.int .i32 v) := fun i v hi => by
 subst hc
 rw [ah h]
 simp [hi]
theorem ax.awakeR (w : World) : Calls Tryz.prog 9 #[] w fun e w' => e = .returned (.bool true) ∧ Below w.heap.size w w' := by
 obtain ⟨tx, htx⟩ : ∃ tx, ax.txA = tx := ⟨_, rfl⟩
 obtain ⟨x, hx⟩ : ∃ x, ax.trA = x := ⟨_, rfl⟩
 have HP := gz ax.awP
 have HR := gz ax.awR
 have HS := gz ax.awS
 have HZ := gz ax.awZ
 have H1 := gz ax.aw1
 have H2 := gz ax.aw2
 have H3 := gz ax.aw3
 rw [hx] at HP HR HS HZ H1 H2 H3
 clear hx
 go_enter Tryz.func9, Tryz.ntmps9
 go_wp2_with fail
 refine (ab.parseR HP.out w).mono ?_
 rintro ee w1 ⟨v, rfl, ⟨A1, c1, A2, c2, rfl, hf⟩, hb⟩
 have B1 := gz hb
 obtain ⟨A1', c1', A2', c2', hcs, l1, f1, l2, f2⟩ := dZ hf
 simp only [List.cons.injEq, Value.slice.injEq, true_and, and_true] at hcs
 obtain ⟨⟨rfl, rfl⟩, ⟨rfl, rfl⟩⟩ := hcs
 have C1 := gz (Kd.F_now f1)
 have C2 := gz (Kd.F_now f2)
 clear hf f1 f2 hb
 go_upto_region 2 with (fail)
 have B3 := gz (ak (ak (Below.refl w1.heap.size w1) (.cells #[.int .i64 x.f0, .slice A1 x.f1.length c1, .slice A2 x.f2.length c2] 25)) (.cells #[.int .i64 0, .int .i64 0] 42))
 have S1 := World.size_alloc w1 (.cells #[.int .i64 x.f0, .slice A1 x.f1.length c1, .slice A2 x.f2.length c2] 25)
 have D3 := gz (au (a8 w1 (.cells #[.int .i64 x.f0, .slice A1 x.f1.length c1, .slice A2 x.f2.length c2] 25)) (.cells #[.int .i64 0, .int .i64 0] 42))
 have N3 := a8 (w1.alloc (.cells #[.int .i64 x.f0, .slice A1 x.f1.length c1, .slice A2 x.f2.length c2] 25)) (.cells #[.int .i64 0, .int .i64 0] 42)
 rw [S1] at N3
 replace N3 := gz N3
 clear S1
 generalize (w1.alloc (.cells #[.int .i64 x.f0, .slice A1 x.f1.length c1, .slice A2 x.f2.length c2] 25)).alloc (.cells #[.int .i64 0, .int .i64 0] 42) = w3 at B3 D3 N3 ⊢
 have p0 := (ah D3.out 0).trans rfl
 have p1 := (ah D3.out 1).trans rfl
 have p2 := (ah D3.out 2).trans rfl
 have p3 := (ah N3.out 0).trans rfl
 have p4 := (ah N3.out 1).trans rfl
 go_wp2_with fail
 refine (bX.calls 30 x.f0 A1 c1 x.f1 A2 c2 x.f2 true w3 (Kd.C_below C1.out B3.out) l1 (Kd.C_below C2.out B3.out) l2 HR.out).mono ?_
 rintro ee w4 ⟨rfl, hb3⟩
 have B4 := gz (B3.out.trans (hb3.mono B3.out.size))
 have D4 := gz (ao D3.out hb3)
 clear hb3 p0 p1 p2 p3 p4 B3 D3 N3
 have p0 := (ah D4.out 0).trans rfl
 have p1 := (ah D4.out 1).trans rfl
 have p2 := (ah D4.out 2).trans rfl
 obtain ⟨⟨r4, M4⟩, hM4, hr4⟩ := Option.map_eq_some_iff.mp H1.out
 dsimp only at hr4
 subst hr4
 have HM4 := gz hM4
 have af.E4 := gz (ak B4.out (.cells #[.int .i32 97, .int .i32 98] 21))
 have F4 := gz (au D4.out (.cells #[.int .i32 97, .int .i32 98] 21))
 have G4 := gz (a8 w4 (.cells #[.int .i32 97, .int .i32 98] 21))
 clear hM4
 go_wp2_with fail
 refine (af.matchR 30 5 x A1 c1 A2 c2 w4.heap.size [97, 98] true M4 (w4.alloc (.cells #[.int .i32 97, .int .i32 98] 21)) (Kd.C_below C1.out af.E4.out) l1 (Kd.C_below C2.out af.E4.out) l2 HR.out HS.out HZ.out (ax.rowA G4.out rfl) Z27 Z27 HM4.out).mono ?_
 rintro ee w5 ⟨rfl, hb4⟩
 have B5 := gz (af.E4.out.trans (hb4.mono af.E4.out.size))
 have D5 := gz (ao F4.out hb4)
 clear hb4 p0 p1 p2 af.E4 F4 G4 HM4
 have p0 := (ah D5.out 0).trans rfl
 have p1 := (ah D5.out 1).trans rfl
 have p2 := (ah D5.out 2).trans rfl
 obtain ⟨⟨r5, M5⟩, hM5, hr5⟩ := Option.map_eq_some_iff.mp H2.out
 dsimp only at hr5
 subst hr5
 have HM5 := gz hM5
 have E5 := gz (ak B5.out (.cells #[.int .i32 98] 21))
 have F5 := gz (au D5.out (.cells #[.int .i32 98] 21))
 have G5 := gz (a8 w5 (.cells #[.int .i32 98] 21))
 clear hM5
 go_wp2_with fail
 refine (af.matchR 30 5 x A1 c1 A2 c2 w5.heap.size [98] false M5 (w5.alloc (.cells #[.int .i32 98] 21)) (Kd.C_below C1.out E5.out) l1 (Kd.C_below C2.out E5.out) l2 HR.out HS.out HZ.out (ax.rowA G5.out rfl) Z27 Z27 HM5.out).mono ?_
 rintro ee w6 ⟨rfl, hb5⟩
 have B6 := gz (E5.out.trans (hb5.mono E5.out.size))
 have D6 := gz (ao F5.out hb5)
 clear hb5 p0 p1 p2 E5 F5 G5 HM5
 have p0 := (ah D6.out 0).trans rfl
 have p1 := (ah D6.out 1).trans rfl
 have p2 := (ah D6.out 2).trans rfl
 obtain ⟨⟨r6, M6⟩, hM6, hr6⟩ := Option.map_eq_some_iff.mp H3.out
 dsimp only at hr6
 subst hr6
 have HM6 := gz hM6
 have E6 := gz (ak B6.out (.cells #[.int .i32 100] 21))
 have F6 := gz (au D6.out (.cells #[.int .i32 100] 21))
 have G6 := gz (a8 w6 (.cells #[.int .i32 100] 21))
 clear hM6
 go_wp2_with fail
 refine (af.matchR 30 5 x A1 c1 A2 c2 w6.heap.size [100] false M6 (w6.alloc (.cells #[.int .i32 100] 21)) (Kd.C_below C1.out E6.out) l1 (Kd.C_below C2.out E6.out) l2 HR.out HS.out HZ.out (ax.rowA G6.out rfl) Z27 Z27 HM6.out).mono ?_
 rintro ee w7 ⟨rfl, hb6⟩
 have B7 := gz (E6.out.trans (hb6.mono E6.out.size))
 have D7 := gz (ao F6.out hb6)
 clear hb6 p0 p1 p2 E6 F6 G6 HM6
 have p0 := (ah D7.out 0).trans rfl
 have p1 := (ah D7.out 1).trans rfl
 have p2 := (ah D7.out 2).trans rfl
 go_wp2
 go_ret
 exact ⟨rfl, B1.out.trans (B7.out.mono B1.out.size)⟩
def ax.f (_ : Nat) : Option Bool := some true
theorem ax.calls {k : Nat} {r : Bool} {w : World} (h : ax.f k = some r) :
  Calls Tryz.prog 9 #[] w fun e w' => e = .returned (.bool r) ∧ Below w.heap.size w w' := by
 obtain rfl := Option.some.inj h
 exact ax.awakeR w
def bZ.l0 : Nat → List (S25) → Int → Int → Option (Bool)
 | 0, _, _, _ => none
 | k + 1, x5, x6, x7 => if x7 < x6 then (if 0 ≤ x7 then (if x7 < (x5.length : Int) then ((bX.f k ((an x5 x7).f0) ((an x5 x7).f1) ((an x5 x7).f2)).bind fun t995 => (if t995 = true then (bZ.l0 k x5 x6 (wrap64 (x7 + 1))) else (some false))) else (none)) else (none)) else (some true)
def bZ.f (k : Nat) (l0 : List (S25)) : Option (Bool) := bZ.l0 k l0 (l0.length : Int) 0
theorem bZ.calls (k : Nat) (A0 : Option Addr) (c0 : Nat) (l0 : List (S25)) (r : Bool) (w : World) (hr0 : Kd.C k25 w A0 l0.length l0) (hc0 : l0.length ≤ c0) (h : bZ.f k l0 = some r) :
  Calls Tryz.prog 24 #[.slice A0 l0.length c0] w fun e w' => e = .returned (.bool r) ∧ Below w.heap.size w w' := by
 have hu25 := Tryz.underlying25
 have HR0 := gz hr0
 have HC0 := gz hc0
 clear hr0 hc0
 have HB := gz (Below.refl w.heap.size w)
 have H : (bZ.l0 k l0 (l0.length : Int) 0) = some r := h
 clear h
 have H' := gz H
 clear H
 go_enter Tryz.func24, Tryz.ntmps24
 go_wp2
 go_loopg [7] k (fun kq v7 w' => ∃ (x7_1 : Int), v7 = .int .i64 x7_1 ∧ aa (bZ.l0 kq l0 (l0.length : Int) x7_1 = some r) ∧ aa (kq ≤ k) ∧ aa (Below w.heap.size w w'))
 case atStart => exact ⟨(0), Z2, H', ⟨Nat.le_refl _⟩, ⟨Z0⟩⟩
 case round =>
  clear H'
  obtain ⟨x7_1, rfl, HA, HK1, HB⟩ := hrel
  cases gk with
  | zero => exact absurd HA.out (by simp [bZ.l0])
  | succ k1 =>
   have H := HA.out
   clear HA
   simp only [bZ.l0] at H
   by_cases c2 : x7_1 < (l0.length : Int)
   ·rw [if_pos c2] at H
    have c2b0 := decide_eq_true c2
    clear c2
    by_cases c3 : 0 ≤ x7_1
    ·rw [if_pos c3] at H
     have c3b0 := decide_eq_true c3
     clear c3
     by_cases c4 : x7_1 < (l0.length : Int)
     ·rw [if_pos c4] at H
      have c4b0 := decide_eq_true c4
      clear c4
      replace H := bS H
      obtain ⟨t995, A5, H⟩ := H
      try dsimp only at H
      by_cases c6 : t995 = true
      ·subst c6
       have H1 : (bZ.l0 k1 l0 (l0.length : Int) (wrap64 (x7_1 + 1))) = some r := by rw [if_pos rfl] at H; exact H
       clear H
       have H := H1
       clear H1
       have H' := gz H
       clear H
       have p993 : 0 ≤ (x7_1 : Int) := of_decide_eq_true Z4
       have q993 : x7_1 < (l0.length : Int) := of_decide_eq_true Z4
       obtain ⟨ad993, A993_1, c993_1, A993_2, c993_2, e993, hx993_0, hx993_1, hx993_2, hl993_1, hi993_1, hl993_2, hi993_2⟩ := d8 HR0.out x7_1 p993 q993
       cases e993
       replace hx993_0 := (HB.out.cell (World.block_lt_of_cell? w _ hx993_0)).trans hx993_0
       replace hx993_1 := (HB.out.cell (World.block_lt_of_cell? w _ hx993_1)).trans hx993_1
       replace hx993_2 := (HB.out.cell (World.block_lt_of_cell? w _ hx993_2)).trans hx993_2
       have HR993_1 := gz hi993_1
       have HC993_1 := gz hl993_1
       clear hi993_1 hl993_1
       have HR993_2 := gz hi993_2
       have HC993_2 := gz hl993_2
       clear hi993_2 hl993_2
       replace p993 := eq_true p993
       replace q993 := eq_true q993
       go_wp2_with (first | ((with_reducible refine bI (N := 4) rfl ?_); refine bQ ?hg (N := 4) ?hd (cs := #[.int .i64 0, .slice none 0 0, .slice none 0 0]) (t := 25) ?hr ?_; (case hd => rfl); (case hg => rfl); (case hr => first | (go_simp; done) | (go_simp; rfl)); intro gb994 hg w7 hbox hb; have BK994 := gz (hbox); have GW994 := gE hg zB; have GE994 := gE hg zB; replace HB := gz (ai zB hb); clear hb hbox hg; have hcz8_0 := bC BK994 0 (.int .i64 0); have hcz8_1 := bC BK994 1 (.slice none 0 0); have hcz8_2 := bC BK994 2 (.slice none 0 0); have hfz8_0 := ag BK994.out 0; have hfz8_1 := ag BK994.out 1; have hfz8_2 := ag BK994.out 2) | ((with_reducible refine gC 12 rfl ?_); refine bl (some 12) rfl rfl Tryz.func12 Z5 rfl #[.agg #[.int .i64 ((an l0 x7_1).f0), .slice A993_1 ((an l0 x7_1).f1).length c993_1, .slice A993_2 ((an l0 x7_1).f2).length c993_2]] rfl Z1 ?_; (with_reducible refine (bX.calls k1 ((an l0 x7_1).f0) _ _ ((an l0 x7_1).f1) _ _ ((an l0 x7_1).f2) true _ ?side1 ?side2 ?side3 ?side4 A5.out).mono ?_); (case side1 => exact Kd.C_below HR993_1.out zB); (case side2 => exact HC993_1.out); (case side3 => exact Kd.C_below HR993_2.out zB); (case side4 => exact HC993_2.out); rintro e w9 ⟨rfl, hb⟩; refine ⟨_, rfl, ?_⟩; have n0_ := gz (ao (g := gb994) (o := .cells #[.int .i64 ((an l0 x7_1).f0), .slice A993_1 ((an l0 x7_1).f1).length c993_1, .slice A993_2 ((an l0 x7_1).f2).length c993_2] 25 (0, 0)) (by (with_reducible repeat (first | refine az ?_ _ | refine aI ?_ | refine au ?_ _)); refine bG (cs := #[.int .i64 ((an l0 x7_1).f0), .slice A993_1 ((an l0 x7_1).f1).length c993_1, .slice none 0 0]) ?_ 2 _ rfl; (with_reducible repeat (first | refine az ?_ _ | refine aI ?_ | refine au ?_ _)); refine bG (cs := #[.int .i64 ((an l0 x7_1).f0), .slice none 0 0, .slice none 0 0]) ?_ 1 _ rfl; (with_reducible repeat (first | refine az ?_ _ | refine aI ?_ | refine au ?_ _)); refine bG (cs := #[.int .i64 0, .slice none 0 0, .slice none 0 0]) ?_ 0 _ rfl; (with_reducible repeat (first | refine az ?_ _ | refine aI ?_ | refine au ?_ _)); exact BK994.out) hb); have n1_ := gz (ai zB hb); clear BK994; clear HB; have BK994 := n0_; have HB := n1_; clear n0_ n1_; (try clear hb); (try clear hb2); (try clear hk); (try clear hi)))
       go_roundg k1
       case measure => have := HK1.out; omega
       case rel => exact ⟨(wrap64 (x7_1 + 1)), Z2, H', ⟨Z22⟩, ⟨Z0⟩⟩
      ·replace c6 := Bool.eq_false_iff.mpr c6
       subst c6
       have H1 : (some false) = some r := by rw [if_neg (show ¬ (false = true) by decide)] at H; exact H
       clear H
       have H := H1
       clear H1
       obtain rfl := Option.some.inj H
       have p993 : 0 ≤ (x7_1 : Int) := of_decide_eq_true Z4
       have q993 : x7_1 < (l0.length : Int) := of_decide_eq_true Z4
       obtain ⟨ad993, A993_1, c993_1, A993_2, c993_2, e993, hx993_0, hx993_1, hx993_2, hl993_1, hi993_1, hl993_2, hi993_2⟩ := d8 HR0.out x7_1 p993 q993
       cases e993
       replace hx993_0 := (HB.out.cell (World.block_lt_of_cell? w _ hx993_0)).trans hx993_0
       replace hx993_1 := (HB.out.cell (World.block_lt_of_cell? w _ hx993_1)).trans hx993_1
       replace hx993_2 := (HB.out.cell (World.block_lt_of_cell? w _ hx993_2)).trans hx993_2
       have HR993_1 := gz hi993_1
       have HC993_1 := gz hl993_1
       clear hi993_1 hl993_1
       have HR993_2 := gz hi993_2
       have HC993_2 := gz hl993_2
       clear hi993_2 hl993_2
       replace p993 := eq_true p993
       replace q993 := eq_true q993
       go_wp2_with (first | ((with_reducible refine bI (N := 4) rfl ?_); refine bQ ?hg (N := 4) ?hd (cs := #[.int .i64 0, .slice none 0 0, .slice none 0 0]) (t := 25) ?hr ?_; (case hd => rfl); (case hg => rfl); (case hr => first | (go_simp; done) | (go_simp; rfl)); intro gb994 hg w10 hbox hb; have BK994 := gz (hbox); have GW994 := gE hg zB; have GE994 := gE hg zB; replace HB := gz (ai zB hb); clear hb hbox hg; have hcz11_0 := bC BK994 0 (.int .i64 0); have hcz11_1 := bC BK994 1 (.slice none 0 0); have hcz11_2 := bC BK994 2 (.slice none 0 0); have hfz11_0 := ag BK994.out 0; have hfz11_1 := ag BK994.out 1; have hfz11_2 := ag BK994.out 2) | ((with_reducible refine gC 12 rfl ?_); refine bl (some 12) rfl rfl Tryz.func12 Z5 rfl #[.agg #[.int .i64 ((an l0 x7_1).f0), .slice A993_1 ((an l0 x7_1).f1).length c993_1, .slice A993_2 ((an l0 x7_1).f2).length c993_2]] rfl Z1 ?_; (with_reducible refine (bX.calls k1 ((an l0 x7_1).f0) _ _ ((an l0 x7_1).f1) _ _ ((an l0 x7_1).f2) false _ ?side1 ?side2 ?side3 ?side4 A5.out).mono ?_); (case side1 => exact Kd.C_below HR993_1.out zB); (case side2 => exact HC993_1.out); (case side3 => exact Kd.C_below HR993_2.out zB); (case side4 => exact HC993_2.out); rintro e w12 ⟨rfl, hb⟩; refine ⟨_, rfl, ?_⟩; have n0_ := gz (ao (g := gb994) (o := .cells #[.int .i64 ((an l0 x7_1).f0), .slice A993_1 ((an l0 x7_1).f1).length c993_1, .slice A993_2 ((an l0 x7_1).f2).length c993_2] 25 (0, 0)) (by (with_reducible repeat (first | refine az ?_ _ | refine aI ?_ | refine au ?_ _)); refine bG (cs := #[.int .i64 ((an l0 x7_1).f0), .slice A993_1 ((an l0 x7_1).f1).length c993_1, .slice none 0 0]) ?_ 2 _ rfl; (with_reducible repeat (first | refine az ?_ _ | refine aI ?_ | refine au ?_ _)); refine bG (cs := #[.int .i64 ((an l0 x7_1).f0), .slice none 0 0, .slice none 0 0]) ?_ 1 _ rfl; (with_reducible repeat (first | refine az ?_ _ | refine aI ?_ | refine au ?_ _)); refine bG (cs := #[.int .i64 0, .slice none 0 0, .slice none 0 0]) ?_ 0 _ rfl; (with_reducible repeat (first | refine az ?_ _ | refine aI ?_ | refine au ?_ _)); exact BK994.out) hb); have n1_ := gz (ai zB hb); clear BK994; clear HB; have BK994 := n0_; have HB := n1_; clear n0_ n1_; (try clear hb); (try clear hb2); (try clear hk); (try clear hi)))
       go_ret
       exact ⟨Z3, Z0⟩
     ·rw [if_neg c4] at H
      exact absurd H Z24
    ·rw [if_neg c3] at H
     exact absurd H Z24
   ·rw [if_neg c2] at H
    have c2b0 := decide_eq_false c2
    clear c2
    obtain rfl := Option.some.inj H
    go_wp2
    go_ret
    exact ⟨Z3, Z0⟩
def cJ.f (k : Nat) (a0_0 : Int) (l0_1 : List (S51)) (l0_2 : List (S25)) (a1_0 : Int) (l1_1 : List (S51)) (l1_2 : List (S25)) : Option (Int) := (bZ.f k (([(⟨a0_0, l0_1, l0_2⟩ : S25), (⟨a1_0, l1_1, l1_2⟩ : S25)] : List (S25)))).bind fun t1001 => (if t1001 = true then ((am.f k a0_0 l0_1 l0_2 a1_0 l1_1 l1_2).bind fun t1002 => (some t1002)) else (some 0))
theorem cJ.calls (k : Nat) (a0_0 : Int) (P0_1_ : Nat → Prop) (A0_1 : Option Addr) (c0_1 : Nat) (l0_1 : List (S51)) (P0_2_ : Nat → Prop) (A0_2 : Option Addr) (c0_2 : Nat) (l0_2 : List (S25)) (a1_0 : Int) (P1_1_ : Nat → Prop) (A1_1 : Option Addr) (c1_1 : Nat) (l1_1 : List (S51)) (P1_2_ : Nat → Prop) (A1_2 : Option Addr) (c1_2 : Nat) (l1_2 : List (S25)) (r : Int) (w : World) (hs0_1 : Kd.V k51 51 w w.heap.size (fun k_ => P0_1_ k_) (.slice A0_1 l0_1.length c0_1) l0_1) (hs0_2 : Kd.V k25 25 w w.heap.size (fun k_ => P0_2_ k_) (.slice A0_2 l0_2.length c0_2) l0_2) (hs1_1 : Kd.V k51 51 w w.heap.size (fun k_ => P1_1_ k_) (.slice A1_1 l1_1.length c1_1) l1_1) (hs1_2 : Kd.V k25 25 w w.heap.size (fun k_ => P1_2_ k_) (.slice A1_2 l1_2.length c1_2) l1_2) (h : cJ.f k a0_0 l0_1 l0_2 a1_0 l1_1 l1_2 = some r) :
  Calls Tryz.prog 8 #[.agg #[.int .i64 a0_0, .slice A0_1 l0_1.length c0_1, .slice A0_2 l0_2.length c0_2], .agg #[.int .i64 a1_0, .slice A1_1 l1_1.length c1_1, .slice A1_2 l1_2.length c1_2]] w fun e w' => e = .returned (.int .i64 r) ∧ Below w.heap.size w w' := by
 have hu25 := Tryz.underlying25
 have HO0_1 := gz (show Kd.V k51 51 w w.heap.size (fun k_ => ((P0_1_ k_ ∨ P0_2_ k_ ∨ P1_1_ k_ ∨ P1_2_ k_) ∨ w.heap.size ≤ k_)) (.slice A0_1 l0_1.length c0_1) l0_1 from Kd.V_mono hs0_1 (fun k_ hk => .inl (.inl hk)))
 have HO0_2 := gz (show Kd.V k25 25 w w.heap.size (fun k_ => ((P0_1_ k_ ∨ P0_2_ k_ ∨ P1_1_ k_ ∨ P1_2_ k_) ∨ w.heap.size ≤ k_)) (.slice A0_2 l0_2.length c0_2) l0_2 from Kd.V_mono hs0_2 (fun k_ hk => .inl (.inr (.inl hk))))
 have HO1_1 := gz (show Kd.V k51 51 w w.heap.size (fun k_ => ((P0_1_ k_ ∨ P0_2_ k_ ∨ P1_1_ k_ ∨ P1_2_ k_) ∨ w.heap.size ≤ k_)) (.slice A1_1 l1_1.length c1_1) l1_1 from Kd.V_mono hs1_1 (fun k_ hk => .inl (.inr (.inr (.inl hk)))))
 have HO1_2 := gz (show Kd.V k25 25 w w.heap.size (fun k_ => ((P0_1_ k_ ∨ P0_2_ k_ ∨ P1_1_ k_ ∨ P1_2_ k_) ∨ w.heap.size ≤ k_)) (.slice A1_2 l1_2.length c1_2) l1_2 from Kd.V_mono hs1_2 (fun k_ hk => .inl (.inr (.inr (.inr hk)))))
 have HB := gz (Below.refl w.heap.size w)
 have H : ((bZ.f k (([(⟨a0_0, l0_1, l0_2⟩ : S25), (⟨a1_0, l1_1, l1_2⟩ : S25)] : List (S25)))).bind fun t1001 => (if t1001 = true then ((am.f k a0_0 l0_1 l0_2 a1_0 l1_1 l1_2).bind fun t1002 => (some t1002)) else (some 0))) = some r := h
 clear h
 obtain ⟨y998, hy998⟩ : ∃ y_ : List (S25), y_ = (([(⟨a0_0, l0_1, l0_2⟩ : S25), (⟨a1_0, l1_1, l1_2⟩ : S25)] : List (S25))) := ⟨_, rfl⟩
 replace H : ((bZ.f k y998).bind fun t1001 => (if t1001 = true then ((am.f k a0_0 l0_1 l0_2 a1_0 l1_1 l1_2).bind fun t1002 => (some t1002)) else (some 0))) = some r := by first | (rw [hy998]; with_reducible exact H) | (have H2_ := (Option.bind_some _ _).symm.trans H; rw [hy998]; with_reducible exact H2_) | (have H2_ := (Option.bind_some _ _).symm.trans H; with_reducible exact H2_) | with_reducible exact H | (rw [hy998]; exact H) | exact H
 have Ny998 := gz hy998
 clear hy998
 replace H := bS H
 obtain ⟨t1001, A3, H⟩ := H
 try dsimp only at H
 by_cases c4 : t1001 = true
 ·subst c4
  have H1 : ((am.f k a0_0 l0_1 l0_2 a1_0 l1_1 l1_2).bind fun t1002 => (some t1002)) = some r := by rw [if_pos rfl] at H; exact H
  clear H
  have H := H1
  clear H1
  replace H := bS H
  obtain ⟨t1002, A5, H⟩ := H
  try dsimp only at H
  obtain rfl := Option.some.inj H
  go_enter Tryz.func8, Tryz.ntmps8
  go_wp2_with (first | ((with_reducible refine bI (N := 2) rfl ?_); refine bQ ?hg (N := 2) ?hd (cs := #[.int .i64 a0_0, .slice A0_1 l0_1.length c0_1, .slice A0_2 l0_2.length c0_2]) (t := 25) ?hr ?_; (case hd => rfl); (case hg => rfl); (case hr => first | (go_simp; done) | (go_simp; rfl)); intro gb996 hg w6 hbox hb; have n0_ := gz (Kd.V_below (Kd.V_elderB Z16 gb996 (Nat.le_of_eq hg.symm)) hb); have n1_ := gz (Kd.V_below (Kd.V_elderB Z15 gb996 (Nat.le_of_eq hg.symm)) hb); have n2_ := gz (Kd.V_below (Kd.V_elderB Z14 gb996 (Nat.le_of_eq hg.symm)) hb); have n3_ := gz (Kd.V_below (Kd.V_elderB Z13 gb996 (Nat.le_of_eq hg.symm)) hb); have n4_ := gz (ai zB hb); have n5_ := gz (hbox); have n6_ := gE hg zB; have n7_ := gE hg zB; clear HO0_1; clear HO0_2; clear HO1_1; clear HO1_2; clear HB; have HO0_1 := n0_; have HO0_2 := n1_; have HO1_1 := n2_; have HO1_2 := n3_; have HB := n4_; have BK996 := n5_; have GW996 := n6_; have GE996 := n7_; clear n0_ n1_ n2_ n3_ n4_ n5_ n6_ n7_; clear hb hbox hg) | ((with_reducible refine bI (N := 3) rfl ?_); refine bQ ?hg (N := 3) ?hd (cs := #[.int .i64 a1_0, .slice A1_1 l1_1.length c1_1, .slice A1_2 l1_2.length c1_2]) (t := 25) ?hr ?_; (case hd => rfl); (case hg => rfl); (case hr => first | (go_simp; done) | (go_simp; rfl)); intro gb997 hg w7 hbox hb; have n0_ := gz (Kd.V_below (Kd.V_elderB Z16 gb997 (Nat.le_of_eq hg.symm)) hb); have n1_ := gz (Kd.V_below (Kd.V_elderB Z15 gb997 (Nat.le_of_eq hg.symm)) hb); have n2_ := gz (Kd.V_below (Kd.V_elderB Z14 gb997 (Nat.le_of_eq hg.symm)) hb); have n3_ := gz (Kd.V_below (Kd.V_elderB Z13 gb997 (Nat.le_of_eq hg.symm)) hb); have n4_ := gz (ao (g := gb996) (o := .cells #[.int .i64 a0_0, .slice A0_1 l0_1.length c0_1, .slice A0_2 l0_2.length c0_2] 25 (0, 0)) (bK BK996) hb); have n5_ := gz (ai zB hb); have n6_ := gz (hbox); have n7_ := gE hg zB; have n8_ := gE hg zB; have n9_ := gz ((by rw [hg]; exact Nat.ne_of_lt (bB (g := gb996) (o := .cells #[.int .i64 a0_0, .slice A0_1 l0_1.length c0_1, .slice A0_2 l0_2.length c0_2] 25 (0, 0)) (bK BK996)) : gb996 ≠ gb997)); have n10_ := gz ((by rw [hg]; exact Nat.ne_of_gt (bB (g := gb996) (o := .cells #[.int .i64 a0_0, .slice A0_1 l0_1.length c0_1, .slice A0_2 l0_2.length c0_2] 25 (0, 0)) (bK BK996)) : gb997 ≠ gb996)); clear HO0_1; clear HO0_2; clear HO1_1; clear HO1_2; clear BK996; clear HB; have HO0_1 := n0_; have HO0_2 := n1_; have HO1_1 := n2_; have HO1_2 := n3_; have BK996 := n4_; have HB := n5_; have BK997 := n6_; have GW997 := n7_; have GE997 := n8_; have NB996_997 := n9_; have NB997_996 := n10_; clear n0_ n1_ n2_ n3_ n4_ n5_ n6_ n7_ n8_ n9_ n10_; clear hb hbox hg; have hnb8 := NB996_997.out; have hnc8 := NB997_996.out; have hcz9_0 := bC BK996 0 (.int .i64 a0_0); have hcz9_1 := bC BK996 1 (.slice A0_1 l0_1.length c0_1); have hcz9_2 := bC BK996 2 (.slice A0_2 l0_2.length c0_2); have hfz9_0 := ag BK996.out 0; have hfz9_1 := ag BK996.out 1; have hfz9_2 := ag BK996.out 2; have hcz10_0 := bC BK997 0 (.int .i64 a1_0); have hcz10_1 := bC BK997 1 (.slice A1_1 l1_1.length c1_1); have hcz10_2 := bC BK997 2 (.slice A1_2 l1_2.length c1_2); have hfz10_0 := ag BK997.out 0; have hfz10_1 := ag BK997.out 1; have hfz10_2 := ag BK997.out 2) | ((with_reducible refine bI (N := 7) rfl ?_); refine Kd.N_lit k25 _ 25 ?hg (N' := 7) ?hd (xs := ([(⟨a0_0, l0_1, l0_2⟩ : S25), (⟨a1_0, l1_1, l1_2⟩ : S25)] : List (S25))) (inner := [.int .i64 a0_0, .slice A0_1 l0_1.length c0_1, .slice A0_2 l0_2.length c0_2, .int .i64 a1_0, .slice A1_1 l1_1.length c1_1, .slice A1_2 l1_2.length c1_2]) (ok := (fun k_ => ((P0_1_ k_ ∨ P0_2_ k_ ∨ P1_1_ k_ ∨ P1_2_ k_) ∨ w.heap.size ≤ k_) ∧ k_ ≠ gb996 ∧ k_ ≠ gb997)) (okp := (fun k_ => ((P0_1_ k_ ∨ P0_2_ k_ ∨ P1_1_ k_ ∨ P1_2_ k_) ∨ w.heap.size ≤ k_) ∧ k_ ≠ gb996 ∧ k_ ≠ gb997)) ?hr ?hp (fun _ hk => hk) ((show ∀ k_, w7.heap.size ≤ k_ → (fun k_ => ((P0_1_ k_ ∨ P0_2_ k_ ∨ P1_1_ k_ ∨ P1_2_ k_) ∨ w.heap.size ≤ k_) ∧ k_ ≠ gb996 ∧ k_ ≠ gb997) k_ from fun k_ hk => ⟨(.inr (Nat.le_trans (aU zB) hk)), Kd.freshB (g := gb996) (o := .cells #[.int .i64 a0_0, .slice A0_1 l0_1.length c0_1, .slice A0_2 l0_2.length c0_2] 25 (0, 0)) (bK BK996) k_ hk, Kd.freshB (g := gb997) (o := .cells #[.int .i64 a1_0, .slice A1_1 l1_1.length c1_1, .slice A1_2 l1_2.length c1_2] 25 (0, 0)) (bK BK997) k_ hk⟩) _ (Nat.le_refl _)) (Below.refl _ _) (Nat.le_refl _) Z24 ?_; (case hd => rfl); (case hg => rfl); (case hr => first | (go_simp; done) | (go_simp; rfl)); (case hp => exact (Reps.c3 (show Kd.FK k25 _ _ (⟨a0_0, l0_1, l0_2⟩ : S25) [.int .i64 a0_0, .slice A0_1 l0_1.length c0_1, .slice A0_2 l0_2.length c0_2] from (bP _ _ (⟨a0_0, l0_1, l0_2⟩ : S25) (Kd.V_reads' (Kd.V_mono (ok' := (fun k_ => ((P0_1_ k_ ∨ P0_2_ k_ ∨ P1_1_ k_ ∨ P1_2_ k_) ∨ w.heap.size ≤ k_) ∧ k_ ≠ gb996 ∧ k_ ≠ gb997)) (HO0_1.out) (fun k_ hk => ⟨hk.1.1, ⟨hk.1.2, hk.2⟩⟩))).2.1 (Kd.V_F (Kd.V_mono (ok' := (fun k_ => ((P0_1_ k_ ∨ P0_2_ k_ ∨ P1_1_ k_ ∨ P1_2_ k_) ∨ w.heap.size ≤ k_) ∧ k_ ≠ gb996 ∧ k_ ≠ gb997)) (HO0_1.out) (fun k_ hk => ⟨hk.1.1, ⟨hk.1.2, hk.2⟩⟩))) (Kd.V_reads' (Kd.V_mono (ok' := (fun k_ => ((P0_1_ k_ ∨ P0_2_ k_ ∨ P1_1_ k_ ∨ P1_2_ k_) ∨ w.heap.size ≤ k_) ∧ k_ ≠ gb996 ∧ k_ ≠ gb997)) (HO0_2.out) (fun k_ hk => ⟨hk.1.1, ⟨hk.1.2, hk.2⟩⟩))).2.1 (Kd.V_F (Kd.V_mono (ok' := (fun k_ => ((P0_1_ k_ ∨ P0_2_ k_ ∨ P1_1_ k_ ∨ P1_2_ k_) ∨ w.heap.size ≤ k_) ∧ k_ ≠ gb996 ∧ k_ ≠ gb997)) (HO0_2.out) (fun k_ hk => ⟨hk.1.1, ⟨hk.1.2, hk.2⟩⟩))))) (Reps.c3 (show Kd.FK k25 _ _ (⟨a1_0, l1_1, l1_2⟩ : S25) [.int .i64 a1_0, .slice A1_1 l1_1.length c1_1, .slice A1_2 l1_2.length c1_2] from (bP _ _ (⟨a1_0, l1_1, l1_2⟩ : S25) (Kd.V_reads' (Kd.V_mono (ok' := (fun k_ => ((P0_1_ k_ ∨ P0_2_ k_ ∨ P1_1_ k_ ∨ P1_2_ k_) ∨ w.heap.size ≤ k_) ∧ k_ ≠ gb996 ∧ k_ ≠ gb997)) (HO1_1.out) (fun k_ hk => ⟨hk.1.1, ⟨hk.1.2, hk.2⟩⟩))).2.1 (Kd.V_F (Kd.V_mono (ok' := (fun k_ => ((P0_1_ k_ ∨ P0_2_ k_ ∨ P1_1_ k_ ∨ P1_2_ k_) ∨ w.heap.size ≤ k_) ∧ k_ ≠ gb996 ∧ k_ ≠ gb997)) (HO1_1.out) (fun k_ hk => ⟨hk.1.1, ⟨hk.1.2, hk.2⟩⟩))) (Kd.V_reads' (Kd.V_mono (ok' := (fun k_ => ((P0_1_ k_ ∨ P0_2_ k_ ∨ P1_1_ k_ ∨ P1_2_ k_) ∨ w.heap.size ≤ k_) ∧ k_ ≠ gb996 ∧ k_ ≠ gb997)) (HO1_2.out) (fun k_ hk => ⟨hk.1.1, ⟨hk.1.2, hk.2⟩⟩))).2.1 (Kd.V_F (Kd.V_mono (ok' := (fun k_ => ((P0_1_ k_ ∨ P0_2_ k_ ∨ P1_1_ k_ ∨ P1_2_ k_) ∨ w.heap.size ≤ k_) ∧ k_ ≠ gb996 ∧ k_ ≠ gb997)) (HO1_2.out) (fun k_ hk => ⟨hk.1.1, ⟨hk.1.2, hk.2⟩⟩))))) (Reps.none _ _)))); intro v999 w11 ho12 hb hg_ hnew_; clear hg_ hnew_; (first | rw [← Ny998.out] at ho12 | (simp only [Int.reduceToNat] at ho12; rw [← Ny998.out] at ho12)); have n0_ := gz (Kd.V_elder' Z16 (by first | exact Kd.N_base ho12 | exact Kd.R_base ho12) hb); have n1_ := gz (Kd.V_elder' Z15 (by first | exact Kd.N_base ho12 | exact Kd.R_base ho12) hb); have n2_ := gz (Kd.V_elder' Z14 (by first | exact Kd.N_base ho12 | exact Kd.R_base ho12) hb); have n3_ := gz (Kd.V_elder' Z13 (by first | exact Kd.N_base ho12 | exact Kd.R_base ho12) hb); have n4_ := gz (Kd.N_lower ho12 (aU zB)); have n5_ := gz (ao (g := gb996) (o := .cells #[.int .i64 a0_0, .slice A0_1 l0_1.length c0_1, .slice A0_2 l0_2.length c0_2] 25 (0, 0)) (bK BK996) hb); have n6_ := gz (ao (g := gb997) (o := .cells #[.int .i64 a1_0, .slice A1_1 l1_1.length c1_1, .slice A1_2 l1_2.length c1_2] 25 (0, 0)) (bK BK997) hb); have n7_ := gz (ai zB hb); clear HO0_1; clear HO0_2; clear HO1_1; clear HO1_2; clear BK996; clear BK997; clear HB; have HO0_1 := n0_; have HO0_2 := n1_; have HO1_1 := n2_; have HO1_2 := n3_; have HO1000 := n4_; have BK996 := n5_; have BK997 := n6_; have HB := n7_; clear n0_ n1_ n2_ n3_ n4_ n5_ n6_ n7_; clear hb ho12; obtain ⟨Ao13, co13, eo13⟩ := Kd.N_slice HO1000.out; subst eo13) | ((with_reducible refine gC 24 rfl ?_); refine bl (some 8) rfl rfl Tryz.func24 Z5 rfl #[.slice Ao13 y998.length co13] rfl Z1 ?_; (with_reducible refine (bZ.calls k _ _ y998 true _ ?side1 ?side2 A3.out).mono ?_); (case side1 => repeat (first | exact (Kd.N_reads' HO1000.out).2.2 | (with_reducible refine Kd.C_alloc ?_ _) | (with_reducible refine Kd.C_drewN ?_ _) | (with_reducible refine Kd.C_drew ?_))); (case side2 => exact (Kd.N_reads' HO1000.out).2.1); rintro e w14 ⟨rfl, hb⟩; refine ⟨_, rfl, ?_⟩; have n0_ := gz (Kd.V_below Z16 hb); have n1_ := gz (Kd.V_below Z15 hb); have n2_ := gz (Kd.V_below Z14 hb); have n3_ := gz (Kd.V_below Z13 hb); have n4_ := gz (Kd.N_below Z28 hb); have n5_ := gz (ao (g := gb996) (o := .cells #[.int .i64 a0_0, .slice A0_1 l0_1.length c0_1, .slice A0_2 l0_2.length c0_2] 25 (0, 0)) (bK BK996) hb); have n6_ := gz (ao (g := gb997) (o := .cells #[.int .i64 a1_0, .slice A1_1 l1_1.length c1_1, .slice A1_2 l1_2.length c1_2] 25 (0, 0)) (bK BK997) hb); have n7_ := gz (ai zB hb); clear HO0_1; clear HO0_2; clear HO1_1; clear HO1_2; clear HO1000; clear BK996; clear BK997; clear HB; have HO0_1 := n0_; have HO0_2 := n1_; have HO1_1 := n2_; have HO1_2 := n3_; have HO1000 := n4_; have BK996 := n5_; have BK997 := n6_; have HB := n7_; clear n0_ n1_ n2_ n3_ n4_ n5_ n6_ n7_; (try clear hb); (try clear hb2); (try clear hk); (try clear hi); have hcz15_0 := bC BK996 0 (.int .i64 a0_0); have hcz15_1 := bC BK996 1 (.slice A0_1 l0_1.length c0_1); have hcz15_2 := bC BK996 2 (.slice A0_2 l0_2.length c0_2); have hfz15_0 := ag BK996.out 0; have hfz15_1 := ag BK996.out 1; have hfz15_2 := ag BK996.out 2; have hcz16_0 := bC BK997 0 (.int .i64 a1_0); have hcz16_1 := bC BK997 1 (.slice A1_1 l1_1.length c1_1); have hcz16_2 := bC BK997 2 (.slice A1_2 l1_2.length c1_2); have hfz16_0 := ag BK997.out 0; have hfz16_1 := ag BK997.out 1; have hfz16_2 := ag BK997.out 2) | ((with_reducible refine gC 25 rfl ?_); refine bl (some 12) rfl rfl Tryz.func25 Z5 rfl #[.agg #[.int .i64 a0_0, .slice A0_1 l0_1.length c0_1, .slice A0_2 l0_2.length c0_2], .agg #[.int .i64 a1_0, .slice A1_1 l1_1.length c1_1, .slice A1_2 l1_2.length c1_2]] rfl Z1 ?_; (with_reducible refine (am.calls k a0_0 _ _ l0_1 _ _ l0_2 a1_0 _ _ l1_1 _ _ l1_2 t1002 _ ?side1 ?side2 ?side3 ?side4 ?side5 ?side6 ?side7 ?side8 A5.out).mono ?_); (case side1 => repeat (first | exact (Kd.V_reads' HO0_1.out).2.2 | (with_reducible refine Kd.C_alloc ?_ _) | (with_reducible refine Kd.C_drewN ?_ _) | (with_reducible refine Kd.C_drew ?_))); (case side2 => exact (Kd.V_reads' HO0_1.out).2.1); (case side3 => repeat (first | exact (Kd.V_reads' HO0_2.out).2.2 | (with_reducible refine Kd.C_alloc ?_ _) | (with_reducible refine Kd.C_drewN ?_ _) | (with_reducible refine Kd.C_drew ?_))); (case side4 => exact (Kd.V_reads' HO0_2.out).2.1); (case side5 => repeat (first | exact (Kd.V_reads' HO1_1.out).2.2 | (with_reducible refine Kd.C_alloc ?_ _) | (with_reducible refine Kd.C_drewN ?_ _) | (with_reducible refine Kd.C_drew ?_))); (case side6 => exact (Kd.V_reads' HO1_1.out).2.1); (case side7 => repeat (first | exact (Kd.V_reads' HO1_2.out).2.2 | (with_reducible refine Kd.C_alloc ?_ _) | (with_reducible refine Kd.C_drewN ?_ _) | (with_reducible refine Kd.C_drew ?_))); (case side8 => exact (Kd.V_reads' HO1_2.out).2.1); rintro e w17 ⟨rfl, hb⟩; refine ⟨_, rfl, ?_⟩; have n0_ := gz (Kd.V_below Z16 hb); have n1_ := gz (Kd.V_below Z15 hb); have n2_ := gz (Kd.V_below Z14 hb); have n3_ := gz (Kd.V_below Z13 hb); have n4_ := gz (Kd.N_below Z28 hb); have n5_ := gz (ao (g := gb996) (o := .cells #[.int .i64 a0_0, .slice A0_1 l0_1.length c0_1, .slice A0_2 l0_2.length c0_2] 25 (0, 0)) (bK BK996) hb); have n6_ := gz (ao (g := gb997) (o := .cells #[.int .i64 a1_0, .slice A1_1 l1_1.length c1_1, .slice A1_2 l1_2.length c1_2] 25 (0, 0)) (bK BK997) hb); have n7_ := gz (ai zB hb); clear HO0_1; clear HO0_2; clear HO1_1; clear HO1_2; clear HO1000; clear BK996; clear BK997; clear HB; have HO0_1 := n0_; have HO0_2 := n1_; have HO1_1 := n2_; have HO1_2 := n3_; have HO1000 := n4_; have BK996 := n5_; have BK997 := n6_; have HB := n7_; clear n0_ n1_ n2_ n3_ n4_ n5_ n6_ n7_; (try clear hb); (try clear hb2); (try clear hk); (try clear hi)))
  go_ret
  exact ⟨Z3, Z0⟩
 ·replace c4 := Bool.eq_false_iff.mpr c4
  subst c4
  have H1 : (some 0) = some r := by rw [if_neg (show ¬ (false = true) by decide)] at H; exact H
  clear H
  have H := H1
  clear H1
  obtain rfl := Option.some.inj H
  go_enter Tryz.func8, Tryz.ntmps8
  go_wp2_with (first | ((with_reducible refine bI (N := 2) rfl ?_); refine bQ ?hg (N := 2) ?hd (cs := #[.int .i64 a0_0, .slice A0_1 l0_1.length c0_1, .slice A0_2 l0_2.length c0_2]) (t := 25) ?hr ?_; (case hd => rfl); (case hg => rfl); (case hr => first | (go_simp; done) | (go_simp; rfl)); intro gb996 hg w18 hbox hb; have n0_ := gz (Kd.V_below (Kd.V_elderB Z16 gb996 (Nat.le_of_eq hg.symm)) hb); have n1_ := gz (Kd.V_below (Kd.V_elderB Z15 gb996 (Nat.le_of_eq hg.symm)) hb); have n2_ := gz (Kd.V_below (Kd.V_elderB Z14 gb996 (Nat.le_of_eq hg.symm)) hb); have n3_ := gz (Kd.V_below (Kd.V_elderB Z13 gb996 (Nat.le_of_eq hg.symm)) hb); have n4_ := gz (ai zB hb); have n5_ := gz (hbox); have n6_ := gE hg zB; have n7_ := gE hg zB; clear HO0_1; clear HO0_2; clear HO1_1; clear HO1_2; clear HB; have HO0_1 := n0_; have HO0_2 := n1_; have HO1_1 := n2_; have HO1_2 := n3_; have HB := n4_; have BK996 := n5_; have GW996 := n6_; have GE996 := n7_; clear n0_ n1_ n2_ n3_ n4_ n5_ n6_ n7_; clear hb hbox hg) | ((with_reducible refine bI (N := 3) rfl ?_); refine bQ ?hg (N := 3) ?hd (cs := #[.int .i64 a1_0, .slice A1_1 l1_1.length c1_1, .slice A1_2 l1_2.length c1_2]) (t := 25) ?hr ?_; (case hd => rfl); (case hg => rfl); (case hr => first | (go_simp; done) | (go_simp; rfl)); intro gb997 hg w19 hbox hb; have n0_ := gz (Kd.V_below (Kd.V_elderB Z16 gb997 (Nat.le_of_eq hg.symm)) hb); have n1_ := gz (Kd.V_below (Kd.V_elderB Z15 gb997 (Nat.le_of_eq hg.symm)) hb); have n2_ := gz (Kd.V_below (Kd.V_elderB Z14 gb997 (Nat.le_of_eq hg.symm)) hb); have n3_ := gz (Kd.V_below (Kd.V_elderB Z13 gb997 (Nat.le_of_eq hg.symm)) hb); have n4_ := gz (ao (g := gb996) (o := .cells #[.int .i64 a0_0, .slice A0_1 l0_1.length c0_1, .slice A0_2 l0_2.length c0_2] 25 (0, 0)) (bK BK996) hb); have n5_ := gz (ai zB hb); have n6_ := gz (hbox); have n7_ := gE hg zB; have n8_ := gE hg zB; have n9_ := gz ((by rw [hg]; exact Nat.ne_of_lt (bB (g := gb996) (o := .cells #[.int .i64 a0_0, .slice A0_1 l0_1.length c0_1, .slice A0_2 l0_2.length c0_2] 25 (0, 0)) (bK BK996)) : gb996 ≠ gb997)); have n10_ := gz ((by rw [hg]; exact Nat.ne_of_gt (bB (g := gb996) (o := .cells #[.int .i64 a0_0, .slice A0_1 l0_1.length c0_1, .slice A0_2 l0_2.length c0_2] 25 (0, 0)) (bK BK996)) : gb997 ≠ gb996)); clear HO0_1; clear HO0_2; clear HO1_1; clear HO1_2; clear BK996; clear HB; have HO0_1 := n0_; have HO0_2 := n1_; have HO1_1 := n2_; have HO1_2 := n3_; have BK996 := n4_; have HB := n5_; have BK997 := n6_; have GW997 := n7_; have GE997 := n8_; have NB996_997 := n9_; have NB997_996 := n10_; clear n0_ n1_ n2_ n3_ n4_ n5_ n6_ n7_ n8_ n9_ n10_; clear hb hbox hg; have hnb20 := NB996_997.out; have hnc20 := NB997_996.out; have hcz21_0 := bC BK996 0 (.int .i64 a0_0); have hcz21_1 := bC BK996 1 (.slice A0_1 l0_1.length c0_1); have hcz21_2 := bC BK996 2 (.slice A0_2 l0_2.length c0_2); have hfz21_0 := ag BK996.out 0; have hfz21_1 := ag BK996.out 1; have hfz21_2 := ag BK996.out 2; have hcz22_0 := bC BK997 0 (.int .i64 a1_0); have hcz22_1 := bC BK997 1 (.slice A1_1 l1_1.length c1_1); have hcz22_2 := bC BK997 2 (.slice A1_2 l1_2.length c1_2); have hfz22_0 := ag BK997.out 0; have hfz22_1 := ag BK997.out 1; have hfz22_2 := ag BK997.out 2) | ((with_reducible refine bI (N := 7) rfl ?_); refine Kd.N_lit k25 _ 25 ?hg (N' := 7) ?hd (xs := ([(⟨a0_0, l0_1, l0_2⟩ : S25), (⟨a1_0, l1_1, l1_2⟩ : S25)] : List (S25))) (inner := [.int .i64 a0_0, .slice A0_1 l0_1.length c0_1, .slice A0_2 l0_2.length c0_2, .int .i64 a1_0, .slice A1_1 l1_1.length c1_1, .slice A1_2 l1_2.length c1_2]) (ok := (fun k_ => ((P0_1_ k_ ∨ P0_2_ k_ ∨ P1_1_ k_ ∨ P1_2_ k_) ∨ w.heap.size ≤ k_) ∧ k_ ≠ gb996 ∧ k_ ≠ gb997)) (okp := (fun k_ => ((P0_1_ k_ ∨ P0_2_ k_ ∨ P1_1_ k_ ∨ P1_2_ k_) ∨ w.heap.size ≤ k_) ∧ k_ ≠ gb996 ∧ k_ ≠ gb997)) ?hr ?hp (fun _ hk => hk) ((show ∀ k_, w19.heap.size ≤ k_ → (fun k_ => ((P0_1_ k_ ∨ P0_2_ k_ ∨ P1_1_ k_ ∨ P1_2_ k_) ∨ w.heap.size ≤ k_) ∧ k_ ≠ gb996 ∧ k_ ≠ gb997) k_ from fun k_ hk => ⟨(.inr (Nat.le_trans (aU zB) hk)), Kd.freshB (g := gb996) (o := .cells #[.int .i64 a0_0, .slice A0_1 l0_1.length c0_1, .slice A0_2 l0_2.length c0_2] 25 (0, 0)) (bK BK996) k_ hk, Kd.freshB (g := gb997) (o := .cells #[.int .i64 a1_0, .slice A1_1 l1_1.length c1_1, .slice A1_2 l1_2.length c1_2] 25 (0, 0)) (bK BK997) k_ hk⟩) _ (Nat.le_refl _)) (Below.refl _ _) (Nat.le_refl _) Z24 ?_; (case hd => rfl); (case hg => rfl); (case hr => first | (go_simp; done) | (go_simp; rfl)); (case hp => exact (Reps.c3 (show Kd.FK k25 _ _ (⟨a0_0, l0_1, l0_2⟩ : S25) [.int .i64 a0_0, .slice A0_1 l0_1.length c0_1, .slice A0_2 l0_2.length c0_2] from (bP _ _ (⟨a0_0, l0_1, l0_2⟩ : S25) (Kd.V_reads' (Kd.V_mono (ok' := (fun k_ => ((P0_1_ k_ ∨ P0_2_ k_ ∨ P1_1_ k_ ∨ P1_2_ k_) ∨ w.heap.size ≤ k_) ∧ k_ ≠ gb996 ∧ k_ ≠ gb997)) (HO0_1.out) (fun k_ hk => ⟨hk.1.1, ⟨hk.1.2, hk.2⟩⟩))).2.1 (Kd.V_F (Kd.V_mono (ok' := (fun k_ => ((P0_1_ k_ ∨ P0_2_ k_ ∨ P1_1_ k_ ∨ P1_2_ k_) ∨ w.heap.size ≤ k_) ∧ k_ ≠ gb996 ∧ k_ ≠ gb997)) (HO0_1.out) (fun k_ hk => ⟨hk.1.1, ⟨hk.1.2, hk.2⟩⟩))) (Kd.V_reads' (Kd.V_mono (ok' := (fun k_ => ((P0_1_ k_ ∨ P0_2_ k_ ∨ P1_1_ k_ ∨ P1_2_ k_) ∨ w.heap.size ≤ k_) ∧ k_ ≠ gb996 ∧ k_ ≠ gb997)) (HO0_2.out) (fun k_ hk => ⟨hk.1.1, ⟨hk.1.2, hk.2⟩⟩))).2.1 (Kd.V_F (Kd.V_mono (ok' := (fun k_ => ((P0_1_ k_ ∨ P0_2_ k_ ∨ P1_1_ k_ ∨ P1_2_ k_) ∨ w.heap.size ≤ k_) ∧ k_ ≠ gb996 ∧ k_ ≠ gb997)) (HO0_2.out) (fun k_ hk => ⟨hk.1.1, ⟨hk.1.2, hk.2⟩⟩))))) (Reps.c3 (show Kd.FK k25 _ _ (⟨a1_0, l1_1, l1_2⟩ : S25) [.int .i64 a1_0, .slice A1_1 l1_1.length c1_1, .slice A1_2 l1_2.length c1_2] from (bP _ _ (⟨a1_0, l1_1, l1_2⟩ : S25) (Kd.V_reads' (Kd.V_mono (ok' := (fun k_ => ((P0_1_ k_ ∨ P0_2_ k_ ∨ P1_1_ k_ ∨ P1_2_ k_) ∨ w.heap.size ≤ k_) ∧ k_ ≠ gb996 ∧ k_ ≠ gb997)) (HO1_1.out) (fun k_ hk => ⟨hk.1.1, ⟨hk.1.2, hk.2⟩⟩))).2.1 (Kd.V_F (Kd.V_mono (ok' := (fun k_ => ((P0_1_ k_ ∨ P0_2_ k_ ∨ P1_1_ k_ ∨ P1_2_ k_) ∨ w.heap.size ≤ k_) ∧ k_ ≠ gb996 ∧ k_ ≠ gb997)) (HO1_1.out) (fun k_ hk => ⟨hk.1.1, ⟨hk.1.2, hk.2⟩⟩))) (Kd.V_reads' (Kd.V_mono (ok' := (fun k_ => ((P0_1_ k_ ∨ P0_2_ k_ ∨ P1_1_ k_ ∨ P1_2_ k_) ∨ w.heap.size ≤ k_) ∧ k_ ≠ gb996 ∧ k_ ≠ gb997)) (HO1_2.out) (fun k_ hk => ⟨hk.1.1, ⟨hk.1.2, hk.2⟩⟩))).2.1 (Kd.V_F (Kd.V_mono (ok' := (fun k_ => ((P0_1_ k_ ∨ P0_2_ k_ ∨ P1_1_ k_ ∨ P1_2_ k_) ∨ w.heap.size ≤ k_) ∧ k_ ≠ gb996 ∧ k_ ≠ gb997)) (HO1_2.out) (fun k_ hk => ⟨hk.1.1, ⟨hk.1.2, hk.2⟩⟩))))) (Reps.none _ _)))); intro v999 w23 ho24 hb hg_ hnew_; clear hg_ hnew_; (first | rw [← Ny998.out] at ho24 | (simp only [Int.reduceToNat] at ho24; rw [← Ny998.out] at ho24)); have n0_ := gz (Kd.V_elder' Z16 (by first | exact Kd.N_base ho24 | exact Kd.R_base ho24) hb); have n1_ := gz (Kd.V_elder' Z15 (by first | exact Kd.N_base ho24 | exact Kd.R_base ho24) hb); have n2_ := gz (Kd.V_elder' Z14 (by first | exact Kd.N_base ho24 | exact Kd.R_base ho24) hb); have n3_ := gz (Kd.V_elder' Z13 (by first | exact Kd.N_base ho24 | exact Kd.R_base ho24) hb); have n4_ := gz (Kd.N_lower ho24 (aU zB)); have n5_ := gz (ao (g := gb996) (o := .cells #[.int .i64 a0_0, .slice A0_1 l0_1.length c0_1, .slice A0_2 l0_2.length c0_2] 25 (0, 0)) (bK BK996) hb); have n6_ := gz (ao (g := gb997) (o := .cells #[.int .i64 a1_0, .slice A1_1 l1_1.length c1_1, .slice A1_2 l1_2.length c1_2] 25 (0, 0)) (bK BK997) hb); have n7_ := gz (ai zB hb); clear HO0_1; clear HO0_2; clear HO1_1; clear HO1_2; clear BK996; clear BK997; clear HB; have HO0_1 := n0_; have HO0_2 := n1_; have HO1_1 := n2_; have HO1_2 := n3_; have HO1000 := n4_; have BK996 := n5_; have BK997 := n6_; have HB := n7_; clear n0_ n1_ n2_ n3_ n4_ n5_ n6_ n7_; clear hb ho24; obtain ⟨Ao25, co25, eo25⟩ := Kd.N_slice HO1000.out; subst eo25) | ((with_reducible refine gC 24 rfl ?_); refine bl (some 8) rfl rfl Tryz.func24 Z5 rfl #[.slice Ao25 y998.length co25] rfl Z1 ?_; (with_reducible refine (bZ.calls k _ _ y998 false _ ?side1 ?side2 A3.out).mono ?_); (case side1 => repeat (first | exact (Kd.N_reads' HO1000.out).2.2 | (with_reducible refine Kd.C_alloc ?_ _) | (with_reducible refine Kd.C_drewN ?_ _) | (with_reducible refine Kd.C_drew ?_))); (case side2 => exact (Kd.N_reads' HO1000.out).2.1); rintro e w26 ⟨rfl, hb⟩; refine ⟨_, rfl, ?_⟩; have n0_ := gz (Kd.V_below Z16 hb); have n1_ := gz (Kd.V_below Z15 hb); have n2_ := gz (Kd.V_below Z14 hb); have n3_ := gz (Kd.V_below Z13 hb); have n4_ := gz (Kd.N_below Z28 hb); have n5_ := gz (ao (g := gb996) (o := .cells #[.int .i64 a0_0, .slice A0_1 l0_1.length c0_1, .slice A0_2 l0_2.length c0_2] 25 (0, 0)) (bK BK996) hb); have n6_ := gz (ao (g := gb997) (o := .cells #[.int .i64 a1_0, .slice A1_1 l1_1.length c1_1, .slice A1_2 l1_2.length c1_2] 25 (0, 0)) (bK BK997) hb); have n7_ := gz (ai zB hb); clear HO0_1; clear HO0_2; clear HO1_1; clear HO1_2; clear HO1000; clear BK996; clear BK997; clear HB; have HO0_1 := n0_; have HO0_2 := n1_; have HO1_1 := n2_; have HO1_2 := n3_; have HO1000 := n4_; have BK996 := n5_; have BK997 := n6_; have HB := n7_; clear n0_ n1_ n2_ n3_ n4_ n5_ n6_ n7_; (try clear hb); (try clear hb2); (try clear hk); (try clear hi)))
  go_ret
  exact ⟨Z3, Z0⟩
end Go.Proofs.YtaccleilcdfapaaGreat.G
