import Derived.Test.YtfnkboilepgmoaaDoorVPre
namespace Go.Proofs.YtfnkboilepgmoaaDoor.R
open Go.RowKit Go.Proofs.YtfnkboilepgmoaaDoorW.PrintWords Go.Proofs.YtfnkboilepgmoaaDoorW.PrintLast Go.Proofs.YtfnkboilepgmoaaDoorW.PrintMore
attribute [local go_sem] max2_int min2_int max_two min_two max_three min_three max_four min_four
set_option linter.unusedVariables false
set_option linter.unusedSimpArgs false
def quoinref02_Order.ord : List S36 → List S36 → Int
 | x :: a, y :: b => if x.f0 < y.f0 then -1 else if x.f0 > y.f0 then 1 else if x.f1 < y.f1 then -1 else if x.f1 > y.f1 then 1 else quoinref02_Order.ord a b
 | [], _ :: _ => -1
 | _ :: _, [] => 1
 | [], [] => 0
def quoinref02_Order.f (l0 l1 : List S36) : Option Int := some (quoinref02_Order.ord l0 l1)
theorem quoinref02_Order.drops (l : List S36) (x : Int) (h0 : 0 ≤ x) (h : x < (l.length : Int)) : l.drop x.toNat = rd_T36 l x :: l.drop (x + 1).toNat := by
 have hl : x.toNat < l.length := by omega
 rw [List.drop_eq_getElem_cons hl, show (x + 1).toNat = x.toNat + 1 from by omega]
 congr 1
 unfold rd_T36
 rw [List.getD_eq_getElem?_getD, List.getElem?_eq_getElem hl]
 rfl
set_option maxHeartbeats 8000000 in
set_option maxRecDepth 100000 in
theorem quoinref02_Order.calls (A0 : Option Addr) (c0 : Nat) (l0 : List (S36)) (A1 : Option Addr) (c1 : Nat) (l1 : List (S36)) (r : Int) (w : World) (hr0 : Kd.C k36 w A0 l0.length l0) (hc0 : l0.length ≤ c0) (hr1 : Kd.C k36 w A1 l1.length l1) (hc1 : l1.length ≤ c1) (h : quoinref02_Order.f l0 l1 = some r) :
  Calls Tryd.prog 43 #[.slice A0 l0.length c0, .slice A1 l1.length c1] w fun e w' => e = .returned (.int .i64 r) ∧ Below w.heap.size w w' := by
 have HR0 := Aside0.mk hr0
 have HR1 := Aside0.mk hr1
 clear hr0 hc0 hr1 hc1
 have HB := Aside0.mk (Below.refl w.heap.size w)
 have HL := Aside0.mk (show quoinref02_Order.ord (l0.drop (0 : Int).toNat) (l1.drop (0 : Int).toNat) = r from Option.some.inj h)
 clear h
 go_enter Tryd.func43, Tryd.ntmps43
 go_wp2
 repeat (go_quiet (fail); try go_wp2)
 go_loopw [5] (fun i wr => ∃ (x : Int), 0 ≤ x ∧ x ≤ (l0.length : Int) ∧ x ≤ (l1.length : Int) ∧ i = .int .i64 x ∧ Aside0 (Below w.heap.size w wr) ∧ Aside0 (quoinref02_Order.ord (l0.drop x.toNat) (l1.drop x.toNat) = r)) (fun i _ => l0.length - (intOf i).toNat)
 case atStart => exact ⟨0, Z21, Z21, Z21, rfl, HB, HL⟩
 case round =>
  clear HB HL
  obtain ⟨x, hx0, hx1, hx2, rfl, HB, HL⟩ := hrel
  have hl := HL.out
  clear HL
  by_cases hlt : x < (l0.length : Int)
  ·have d1 : decide (x < (l0.length : Int)) = true := decide_eq_true hlt
   by_cases hlu : x < (l1.length : Int)
   ·have d2 : decide (x < (l1.length : Int)) = true := decide_eq_true hlu
    rw [quoinref02_Order.drops l0 x hx0 hlt, quoinref02_Order.drops l1 x hx0 hlu] at hl
    obtain ⟨ad, e0, h0, h1⟩ := at_T36 (Kd.C_below HR0.out HB.out) x hx0 hlt
    obtain ⟨be, e1, g0, g1⟩ := at_T36 (Kd.C_below HR1.out HB.out) x hx0 hlu
    cases e0
    cases e1
    obtain ⟨⟨t0, t1⟩, ht⟩ : ∃ t, rd_T36 l0 x = t := ⟨_, rfl⟩
    obtain ⟨⟨s0, s1⟩, hs⟩ : ∃ t, rd_T36 l1 x = t := ⟨_, rfl⟩
    rw [ht] at hl h0 h1
    rw [hs] at hl g0 g1
    clear ht hs
    unfold quoinref02_Order.ord at hl
    dsimp only at hl h0 h1 g0 g1
    have hw : wrap64 (x + 1) = x + 1 := by unfold wrap64; have := HR0.out.2.1; omega
    have hw := Aside0.mk hw
    have hl := Aside0.mk hl
    have p0 := eq_true hx0
    have q0 := eq_true hlt
    have q1 := eq_true hlu
    have n0 := World.new_ne wr _ h0
    have n1 := World.new_ne wr _ h1
    have n2 := World.new_ne wr _ g0
    have n3 := World.new_ne wr _ g1
    go_wp2_with fail
    go_region_held3 (fun w' => w'.cell? (ad.add (x.toNat * 2)) = some (.int .i32 t0) ∧ w'.cell? { block := (ad.add (x.toNat * 2)).block, off := (ad.add (x.toNat * 2)).off + 1 } = some (.int .i32 t1) ∧ w'.cell? (be.add (x.toNat * 2)) = some (.int .i32 s0) ∧ w'.cell? { block := (be.add (x.toNat * 2)).block, off := (be.add (x.toNat * 2)).off + 1 } = some (.int .i32 s1)) (go_keep) (fail)
    have HBX := Aside0.mk (show Below w.heap.size w (wr.alloc (.cells #[.int .i32 t0, .int .i32 s0, .int .i32 t1, .int .i32 s1] 97)).drew from by repeat (first | exact HB.out | apply below_alloc | apply below_drew1))
    have BT := Aside0.mk (show (wr.alloc (.cells #[.int .i32 t0, .int .i32 s0, .int .i32 t1, .int .i32 s1] 97)).drew.heap[wr.heap.size]? = some (.cells #[.int .i32 t0, .int .i32 s0, .int .i32 t1, .int .i32 s1] 97 (0, 0)) from blk_new wr (.cells #[.int .i32 t0, .int .i32 s0, .int .i32 t1, .int .i32 s1] 97))
    clear n0 n1 n2 n3 h0 h1 g0 g1
    generalize (wr.alloc (.cells #[.int .i32 t0, .int .i32 s0, .int .i32 t1, .int .i32 s1] 97)).drew = wx at HBX BT ⊢
    generalize wr.heap.size = q at BT ⊢
    have ct0 := (blk_cell BT.out 0).trans rfl
    have ct1 := (blk_cell BT.out 1).trans rfl
    have ct2 := (blk_cell BT.out 2).trans rfl
    have ct3 := (blk_cell BT.out 3).trans rfl
    go_wp2
    go_loopw [7] (fun i wy => ∃ (j : Int), i = .int .i64 j ∧ Aside0 (j = 0 ∨ (j = 2 ∧ t0 = s0) ∨ (j = 4 ∧ t0 = s0 ∧ t1 = s1)) ∧ Drawn0 wx wy) (fun i _ => 4 - (intOf i).toNat)
    case atStart => exact ⟨0, rfl, ⟨.inl rfl⟩, Drawn0.refl _⟩
    case round =>
     obtain ⟨j, rfl, HJ, ⟨nj, rfl⟩⟩ := hrel
     rcases HJ.out with rfl | ⟨rfl, rfl⟩ | ⟨rfl, rfl, rfl⟩
     ·clear HJ
      by_cases e1 : t0 < s0
      ·have f1 : decide (t0 < s0) = true := decide_eq_true e1
       have hr := hl.out
       rw [if_pos e1] at hr
       subst hr
       go_wp2
       repeat (go_quiet (fail); try go_wp2)
       go_ret
       exact ⟨rfl, Z28⟩
      ·have f1 : decide (t0 < s0) = false := decide_eq_false e1
       by_cases e2 : s0 < t0
       ·have f2 : decide (s0 < t0) = true := decide_eq_true e2
        have hr := hl.out
        rw [if_neg e1, if_pos e2] at hr
        subst hr
        go_wp2
        repeat (go_quiet (fail); try go_wp2)
        go_ret
        exact ⟨rfl, Z28⟩
       ·have f2 : decide (s0 < t0) = false := decide_eq_false e2
        obtain rfl : t0 = s0 := by omega
        go_wp2
        repeat (go_quiet (fail); try go_wp2)
        go_roundw
        case rel => exact ⟨2, rfl, ⟨Z25⟩, Z7⟩
        case measure => simp [intOf]
     ·clear HJ
      by_cases e1 : t1 < s1
      ·have f1 : decide (t1 < s1) = true := decide_eq_true e1
       have hr := hl.out
       rw [if_neg (Int.lt_irrefl _), if_neg (Int.lt_irrefl _), if_pos e1] at hr
       subst hr
       go_wp2
       repeat (go_quiet (fail); try go_wp2)
       go_ret
       exact ⟨rfl, Z28⟩
      ·have f1 : decide (t1 < s1) = false := decide_eq_false e1
       by_cases e2 : s1 < t1
       ·have f2 : decide (s1 < t1) = true := decide_eq_true e2
        have hr := hl.out
        rw [if_neg (Int.lt_irrefl _), if_neg (Int.lt_irrefl _), if_neg e1, if_pos e2] at hr
        subst hr
        go_wp2
        repeat (go_quiet (fail); try go_wp2)
        go_ret
        exact ⟨rfl, Z28⟩
       ·have f2 : decide (s1 < t1) = false := decide_eq_false e2
        obtain rfl : t1 = s1 := by omega
        go_wp2
        repeat (go_quiet (fail); try go_wp2)
        go_roundw
        case rel => exact ⟨4, rfl, ⟨Z25⟩, Z7⟩
        case measure => simp [intOf]
     ·clear HJ
      have hr := hl.out
      rw [if_neg (Int.lt_irrefl _), if_neg (Int.lt_irrefl _), if_neg (Int.lt_irrefl _), if_neg (Int.lt_irrefl _)] at hr
      have hr := Aside0.mk hr
      go_wp2
      go_roundw
      case rel => exact ⟨x + 1, Z21, Z21, Z21, by rw [hw.out], ⟨Z28⟩, hr⟩
      case measure => simp [intOf]; omega
   ·have d2 : decide (x < (l1.length : Int)) = false := decide_eq_false hlu
    have hxb : x = (l1.length : Int) := by omega
    have d3 : decide ((l0.length : Int) < (l1.length : Int)) = false := decide_eq_false Z21
    have d4 : decide ((l1.length : Int) < (l0.length : Int)) = true := decide_eq_true Z21
    rw [quoinref02_Order.drops l0 x hx0 hlt, List.drop_eq_nil_of_le (show l1.length ≤ x.toNat by omega)] at hl
    unfold quoinref02_Order.ord at hl
    subst hl
    go_wp2
    go_ret
    exact ⟨rfl, HB.out⟩
  ·have d1 : decide (x < (l0.length : Int)) = false := decide_eq_false hlt
   rw [List.drop_eq_nil_of_le (show l0.length ≤ x.toNat by omega)] at hl
   by_cases hlu : x < (l1.length : Int)
   ·have d3 : decide ((l0.length : Int) < (l1.length : Int)) = true := decide_eq_true Z21
    rw [quoinref02_Order.drops l1 x hx0 hlu] at hl
    unfold quoinref02_Order.ord at hl
    subst hl
    go_wp2
    go_ret
    exact ⟨rfl, HB.out⟩
   ·have d3 : decide ((l0.length : Int) < (l1.length : Int)) = false := decide_eq_false Z21
    have d4 : decide ((l1.length : Int) < (l0.length : Int)) = false := decide_eq_false Z21
    rw [List.drop_eq_nil_of_le (show l1.length ≤ x.toNat by omega)] at hl
    unfold quoinref02_Order.ord at hl
    subst hl
    go_wp2
    go_ret
    exact ⟨rfl, HB.out⟩
def quoinref02_Same.f (l0 : List (S36)) (l1 : List (S36)) : Option (Bool) := if (l0.length : Int) = (l1.length : Int) then ((quoinref02_Order.f l0 l1).bind fun t235 => (some (t235 == 0))) else (some false)
set_option maxHeartbeats 8000000 in
set_option maxRecDepth 100000 in
theorem quoinref02_Same.calls (A0 : Option Addr) (c0 : Nat) (l0 : List (S36)) (A1 : Option Addr) (c1 : Nat) (l1 : List (S36)) (r : Bool) (w : World) (hr0 : Kd.C k36 w A0 l0.length l0) (hc0 : l0.length ≤ c0) (hr1 : Kd.C k36 w A1 l1.length l1) (hc1 : l1.length ≤ c1) (h : quoinref02_Same.f l0 l1 = some r) :
  Calls Tryd.prog 15 #[.slice A0 l0.length c0, .slice A1 l1.length c1] w fun e w' => e = .returned (.bool r) ∧ Below w.heap.size w w' := by
 have HR0 := Aside0.mk hr0
 have HC0 := Aside0.mk hc0
 clear hr0 hc0
 have HR1 := Aside0.mk hr1
 have HC1 := Aside0.mk hc1
 clear hr1 hc1
 have HB := Aside0.mk (Below.refl w.heap.size w)
 have H : (if (l0.length : Int) = (l1.length : Int) then ((quoinref02_Order.f l0 l1).bind fun t235 => (some (t235 == 0))) else (some false)) = some r := h
 clear h
 by_cases c3 : (l0.length : Int) = (l1.length : Int)
 ·rw [if_pos c3] at H
  have c3b0 := e1 c3
  have c3b1 := e2 c3
  have c3b2 : (l0.length == l1.length) = true := by first | simpa using c3 | (simp at c3 ⊢; omega)
  clear c3
  replace H := bS H
  obtain ⟨t235, A4, H⟩ := H
  try dsimp only at H
  obtain rfl := Option.some.inj H
  go_enter Tryd.func15, Tryd.ntmps15
  go_wp2_with (first | (go_at_call 43; (with_reducible refine (quoinref02_Order.calls _ _ l0 _ _ l1 t235 _ ?side1 ?side2 ?side3 ?side4 A4.out).mono ?_); (case side1 => repeat (first | exact HR0.out | (with_reducible refine Kd.C_alloc ?_ _) | (with_reducible refine Kd.C_drewN ?_ _) | (with_reducible refine Kd.C_drew ?_))); (case side2 => exact HC0.out); (case side3 => repeat (first | exact HR1.out | (with_reducible refine Kd.C_alloc ?_ _) | (with_reducible refine Kd.C_drewN ?_ _) | (with_reducible refine Kd.C_drew ?_))); (case side4 => exact HC1.out); rintro e w5 ⟨rfl, hb⟩; replace HB := Aside0.mk (below_step zB hb); (try clear hb); (try clear hb2); (try clear hk); (try clear hi)))
  go_ret
  exact ⟨Z4, Z1⟩
 ·rw [if_neg c3] at H
  have c3b0 := e3 c3
  have c3b1 := e4 c3
  have c3b2 : (l0.length == l1.length) = false := by first | simpa using c3 | (simp at c3 ⊢; omega)
  obtain rfl := Option.some.inj H
  go_enter Tryd.func15, Tryd.ntmps15
  go_wp2
  go_ret
  exact ⟨Z4, Z1⟩
def runes_Has.l0 : Nat → Int → List (S36) → Int → Int → Option (Bool)
 | 0, _, _, _, _ => none
 | k + 1, x1, x7, x8, x9 => if x9 < x8 then (if 0 ≤ x9 then (if x9 < (x7.length : Int) then (if ((rd_T36 x7 x9).f0) ≤ x1 then (if x1 ≤ ((rd_T36 x7 x9).f1) then (some true) else (runes_Has.l0 k x1 x7 x8 (wrap64 (x9 + 1)))) else (runes_Has.l0 k x1 x7 x8 (wrap64 (x9 + 1)))) else (none)) else (none)) else (some false)
def runes_Has.f (k : Nat) (l0 : List (S36)) (a1 : Int) : Option (Bool) := runes_Has.l0 k a1 l0 (l0.length : Int) 0
theorem runes_Has.mono_l : ∀ k, (∀ y0 y1 y2 y3, LeO (runes_Has.l0 k y0 y1 y2 y3) (runes_Has.l0 (k + 1) y0 y1 y2 y3))
 | 0 => fun _ _ _ _ r h => by simp [runes_Has.l0] at h
 | k + 1 => by
  have ih0 := runes_Has.mono_l k
  ·intro y0 y1 y2 y3
   unfold runes_Has.l0
   exact mO
theorem runes_Has.mono : ∀ a0 a1 k, LeO (runes_Has.f k a0 a1) (runes_Has.f (k + 1) a0 a1) := by
 intro a0 a1 k
 have ih0 := runes_Has.mono_l k
 unfold runes_Has.f
 exact mO
set_option maxHeartbeats 8000000 in
set_option maxRecDepth 100000 in
theorem runes_Has.calls (k : Nat) (A0 : Option Addr) (c0 : Nat) (l0 : List (S36)) (a1 : Int) (r : Bool) (w : World) (hr0 : Kd.C k36 w A0 l0.length l0) (hc0 : l0.length ≤ c0) (h : runes_Has.f k l0 a1 = some r) :
  Calls Tryd.prog 33 #[.slice A0 l0.length c0, .int .i32 a1] w fun e w' => e = .returned (.bool r) ∧ Below w.heap.size w w' := by
 have hu36 := Tryd.underlying36
 have HR0 := Aside0.mk hr0
 have HC0 := Aside0.mk hc0
 clear hr0 hc0
 have HB := Aside0.mk (Below.refl w.heap.size w)
 have H : (runes_Has.l0 k a1 l0 (l0.length : Int) 0) = some r := h
 clear h
 have H' := Aside0.mk H
 clear H
 go_enter Tryd.func33, Tryd.ntmps33
 go_wp2
 go_loopg [9] k (fun kq v9 w' => ∃ (x9_1 : Int), v9 = .int .i64 x9_1 ∧ Aside0 (runes_Has.l0 kq a1 l0 (l0.length : Int) x9_1 = some r) ∧ Aside0 (kq ≤ k) ∧ Aside0 (Below w.heap.size w w'))
 case atStart => exact ⟨(0), Z3, H', ⟨Nat.le_refl _⟩, ⟨Z1⟩⟩
 case round =>
  clear H'
  try clear p2
  obtain ⟨x9_1, rfl, HA, HK1, HB⟩ := hrel
  cases gk with
  | zero => exact absurd HA.out (by simp [runes_Has.l0])
  | succ k1 =>
   have H := HA.out
   clear HA
   simp only [runes_Has.l0] at H
   by_cases c3 : x9_1 < (l0.length : Int)
   ·rw [if_pos c3] at H
    have c3b0 := decide_eq_true c3
    clear c3
    by_cases c4 : 0 ≤ x9_1
    ·rw [if_pos c4] at H
     have c4b0 := decide_eq_true c4
     clear c4
     by_cases c5 : x9_1 < (l0.length : Int)
     ·rw [if_pos c5] at H
      have c5b0 := decide_eq_true c5
      clear c5
      by_cases c6 : ((rd_T36 l0 x9_1).f0) ≤ a1
      ·rw [if_pos c6] at H
       have c6b0 := decide_eq_true c6
       clear c6
       by_cases c7 : a1 ≤ ((rd_T36 l0 x9_1).f1)
       ·rw [if_pos c7] at H
        have c7b0 := decide_eq_true c7
        clear c7
        obtain rfl := Option.some.inj H
        have p236 : 0 ≤ (x9_1 : Int) := of_decide_eq_true Z0
        have q236 : x9_1 < (l0.length : Int) := of_decide_eq_true Z0
        obtain ⟨ad236, e236, hx236_0, hx236_1⟩ := at_T36 HR0.out x9_1 p236 q236
        cases e236
        replace hx236_0 := (HB.out.cell (World.block_lt_of_cell? w _ hx236_0)).trans hx236_0
        replace hx236_1 := (HB.out.cell (World.block_lt_of_cell? w _ hx236_1)).trans hx236_1
        replace p236 := eq_true p236
        replace q236 := eq_true q236
        go_wp2_with (first | ((with_reducible refine gate_dst (N := 6) rfl ?_); refine box_event ?hg (N := 6) ?hd (cs := #[.int .i32 0, .int .i32 0]) (t := 36) ?hr ?_; (case hd => rfl); (case hg => rfl); (case hr => first | (go_simp; done) | (go_simp; rfl)); intro gb237 hg w8 hbox hb; have BK237 := Aside0.mk (hbox); have GW237 := gE hg zB; have GE237 := gE hg zB; replace HB := Aside0.mk (below_step zB hb); clear hb hbox hg; have hcz9_0 := bC BK237 0 (.int .i32 0); have hcz9_1 := bC BK237 1 (.int .i32 0); have hfz9_0 := blk_frozen BK237.out 0; have hfz9_1 := blk_frozen BK237.out 1))
        go_ret
        exact ⟨Z4, Z1⟩
       ·rw [if_neg c7] at H
        have c7b0 := decide_eq_false c7
        clear c7
        have H' := Aside0.mk H
        clear H
        have p236 : 0 ≤ (x9_1 : Int) := of_decide_eq_true Z0
        have q236 : x9_1 < (l0.length : Int) := of_decide_eq_true Z0
        obtain ⟨ad236, e236, hx236_0, hx236_1⟩ := at_T36 HR0.out x9_1 p236 q236
        cases e236
        replace hx236_0 := (HB.out.cell (World.block_lt_of_cell? w _ hx236_0)).trans hx236_0
        replace hx236_1 := (HB.out.cell (World.block_lt_of_cell? w _ hx236_1)).trans hx236_1
        replace p236 := eq_true p236
        replace q236 := eq_true q236
        go_wp2_with (first | ((with_reducible refine gate_dst (N := 6) rfl ?_); refine box_event ?hg (N := 6) ?hd (cs := #[.int .i32 0, .int .i32 0]) (t := 36) ?hr ?_; (case hd => rfl); (case hg => rfl); (case hr => first | (go_simp; done) | (go_simp; rfl)); intro gb237 hg w10 hbox hb; have BK237 := Aside0.mk (hbox); have GW237 := gE hg zB; have GE237 := gE hg zB; replace HB := Aside0.mk (below_step zB hb); clear hb hbox hg; have hcz11_0 := bC BK237 0 (.int .i32 0); have hcz11_1 := bC BK237 1 (.int .i32 0); have hfz11_0 := blk_frozen BK237.out 0; have hfz11_1 := blk_frozen BK237.out 1))
        go_roundg k1
        case measure => have := HK1.out; omega
        case rel => exact ⟨(wrap64 (x9_1 + 1)), Z3, H', ⟨Z23⟩, ⟨Z1⟩⟩
      ·rw [if_neg c6] at H
       have c6b0 := decide_eq_false c6
       clear c6
       have H' := Aside0.mk H
       clear H
       have p236 : 0 ≤ (x9_1 : Int) := of_decide_eq_true Z0
       have q236 : x9_1 < (l0.length : Int) := of_decide_eq_true Z0
       obtain ⟨ad236, e236, hx236_0, hx236_1⟩ := at_T36 HR0.out x9_1 p236 q236
       cases e236
       replace hx236_0 := (HB.out.cell (World.block_lt_of_cell? w _ hx236_0)).trans hx236_0
       replace hx236_1 := (HB.out.cell (World.block_lt_of_cell? w _ hx236_1)).trans hx236_1
       replace p236 := eq_true p236
       replace q236 := eq_true q236
       go_wp2_with (first | ((with_reducible refine gate_dst (N := 6) rfl ?_); refine box_event ?hg (N := 6) ?hd (cs := #[.int .i32 0, .int .i32 0]) (t := 36) ?hr ?_; (case hd => rfl); (case hg => rfl); (case hr => first | (go_simp; done) | (go_simp; rfl)); intro gb237 hg w12 hbox hb; have BK237 := Aside0.mk (hbox); have GW237 := gE hg zB; have GE237 := gE hg zB; replace HB := Aside0.mk (below_step zB hb); clear hb hbox hg; have hcz13_0 := bC BK237 0 (.int .i32 0); have hcz13_1 := bC BK237 1 (.int .i32 0); have hfz13_0 := blk_frozen BK237.out 0; have hfz13_1 := blk_frozen BK237.out 1))
       go_roundg k1
       case measure => have := HK1.out; omega
       case rel => exact ⟨(wrap64 (x9_1 + 1)), Z3, H', ⟨Z23⟩, ⟨Z1⟩⟩
     ·rw [if_neg c5] at H
      exact absurd H Z25
    ·rw [if_neg c4] at H
     exact absurd H Z25
   ·rw [if_neg c3] at H
    have c3b0 := decide_eq_false c3
    clear c3
    obtain rfl := Option.some.inj H
    go_wp2
    go_ret
    exact ⟨Z4, Z1⟩
def runes_Check.l0 : Nat → List (S36) → List (S36) → Int → Int → Option (Int)
 | 0, _, _, _, _ => none
 | k + 1, x0, x5, x6, x7 => if x7 < x6 then (if 0 ≤ x7 then (if x7 < (x5.length : Int) then (if ((rd_T36 x5 x7).f0) < 0 then (some 20) else (if ((rd_T36 x5 x7).f1) > 1114111 then (some 20) else (if ((rd_T36 x5 x7).f0) > ((rd_T36 x5 x7).f1) then (some 20) else (if x7 > 0 then (if 0 ≤ (wrap64 (x7 - 1)) then (if (wrap64 (x7 - 1)) < (x0.length : Int) then (if (wrap32 (((rd_T36 x5 x7).f0) - 1)) ≤ ((rd_T36 x0 (wrap64 (x7 - 1))).f1) then (some 20) else (runes_Check.l0 k x0 x5 x6 (wrap64 (x7 + 1)))) else (none)) else (none)) else (runes_Check.l0 k x0 x5 x6 (wrap64 (x7 + 1))))))) else (none)) else (none)) else (if (x0.length : Int) > 2048 then (some 21) else (some 0))
def runes_Check.f (k : Nat) (l0 : List (S36)) : Option (Int) := runes_Check.l0 k l0 l0 (l0.length : Int) 0
theorem runes_Check.mono_l : ∀ k, (∀ y0 y1 y2 y3, LeO (runes_Check.l0 k y0 y1 y2 y3) (runes_Check.l0 (k + 1) y0 y1 y2 y3))
 | 0 => fun _ _ _ _ r h => by simp [runes_Check.l0] at h
 | k + 1 => by
  have ih0 := runes_Check.mono_l k
  ·intro y0 y1 y2 y3
   unfold runes_Check.l0
   exact mO
theorem runes_Check.mono : ∀ a0 k, LeO (runes_Check.f k a0) (runes_Check.f (k + 1) a0) := by
 intro a0 k
 have ih0 := runes_Check.mono_l k
 unfold runes_Check.f
 exact mO
set_option maxHeartbeats 8000000 in
set_option maxRecDepth 100000 in
theorem runes_Check.calls (k : Nat) (A0 : Option Addr) (c0 : Nat) (l0 : List (S36)) (r : Int) (w : World) (hr0 : Kd.C k36 w A0 l0.length l0) (hc0 : l0.length ≤ c0) (h : runes_Check.f k l0 = some r) :
  Calls Tryd.prog 17 #[.slice A0 l0.length c0] w fun e w' => e = .returned (.int .i64 r) ∧ Below w.heap.size w w' := by
 have hu36 := Tryd.underlying36
 have HR0 := Aside0.mk hr0
 have HC0 := Aside0.mk hc0
 clear hr0 hc0
 have HB := Aside0.mk (Below.refl w.heap.size w)
 have H : (runes_Check.l0 k l0 l0 (l0.length : Int) 0) = some r := h
 clear h
 have H' := Aside0.mk H
 clear H
 go_enter Tryd.func17, Tryd.ntmps17
 go_wp2
 repeat (go_quiet (fail); try go_wp2)
 go_loopg [7] k (fun kq v7 w' => ∃ (x7_1 : Int), v7 = .int .i64 x7_1 ∧ Aside0 (runes_Check.l0 kq l0 l0 (l0.length : Int) x7_1 = some r) ∧ Aside0 (kq ≤ k) ∧ Aside0 (Below w.heap.size w w'))
 case atStart => exact ⟨(0), Z3, H', ⟨Nat.le_refl _⟩, ⟨Z1⟩⟩
 case round =>
  clear H'
  try clear c1
  obtain ⟨x7_1, rfl, HA, HK1, HB⟩ := hrel
  cases gk with
  | zero => exact absurd HA.out (by simp [runes_Check.l0])
  | succ k1 =>
   have H := HA.out
   clear HA
   simp only [runes_Check.l0] at H
   by_cases c2 : x7_1 < (l0.length : Int)
   ·rw [if_pos c2] at H
    have c2b0 := decide_eq_true c2
    clear c2
    by_cases c3 : 0 ≤ x7_1
    ·rw [if_pos c3] at H
     have c3b0 := decide_eq_true c3
     clear c3
     by_cases c4 : x7_1 < (l0.length : Int)
     ·rw [if_pos c4] at H
      have c4b0 := decide_eq_true c4
      clear c4
      by_cases c5 : ((rd_T36 l0 x7_1).f0) < 0
      ·rw [if_pos c5] at H
       have c5b0 := decide_eq_true c5
       clear c5
       obtain rfl := Option.some.inj H
       have p238 : 0 ≤ (x7_1 : Int) := of_decide_eq_true Z0
       have q238 : x7_1 < (l0.length : Int) := of_decide_eq_true Z0
       obtain ⟨ad238, e238, hx238_0, hx238_1⟩ := at_T36 HR0.out x7_1 p238 q238
       cases e238
       replace hx238_0 := (HB.out.cell (World.block_lt_of_cell? w _ hx238_0)).trans hx238_0
       replace hx238_1 := (HB.out.cell (World.block_lt_of_cell? w _ hx238_1)).trans hx238_1
       replace p238 := eq_true p238
       replace q238 := eq_true q238
       go_wp2_with (first | ((with_reducible refine gate_dst (N := 4) rfl ?_); refine box_event ?hg (N := 4) ?hd (cs := #[.int .i32 0, .int .i32 0]) (t := 36) ?hr ?_; (case hd => rfl); (case hg => rfl); (case hr => first | (go_simp; done) | (go_simp; rfl)); intro gb239 hg w6 hbox hb; have BK239 := Aside0.mk (hbox); have GW239 := gE hg zB; have GE239 := gE hg zB; replace HB := Aside0.mk (below_step zB hb); clear hb hbox hg; have hcz7_0 := bC BK239 0 (.int .i32 0); have hcz7_1 := bC BK239 1 (.int .i32 0); have hfz7_0 := blk_frozen BK239.out 0; have hfz7_1 := blk_frozen BK239.out 1))
       repeat (go_quiet (first | ((with_reducible refine gate_dst (N := 4) rfl ?_); refine box_event ?hg (N := 4) ?hd (cs := #[.int .i32 0, .int .i32 0]) (t := 36) ?hr ?_; (case hd => rfl); (case hg => rfl); (case hr => first | (go_simp; done) | (go_simp; rfl)); intro gb239 hg w6 hbox hb; have BK239 := Aside0.mk (hbox); have GW239 := gE hg zB; have GE239 := gE hg zB; replace HB := Aside0.mk (below_step zB hb); clear hb hbox hg; have hcz7_0 := bC BK239 0 (.int .i32 0); have hcz7_1 := bC BK239 1 (.int .i32 0); have hfz7_0 := blk_frozen BK239.out 0; have hfz7_1 := blk_frozen BK239.out 1)); try go_wp2_with (first | ((with_reducible refine gate_dst (N := 4) rfl ?_); refine box_event ?hg (N := 4) ?hd (cs := #[.int .i32 0, .int .i32 0]) (t := 36) ?hr ?_; (case hd => rfl); (case hg => rfl); (case hr => first | (go_simp; done) | (go_simp; rfl)); intro gb239 hg w6 hbox hb; have BK239 := Aside0.mk (hbox); have GW239 := gE hg zB; have GE239 := gE hg zB; replace HB := Aside0.mk (below_step zB hb); clear hb hbox hg; have hcz7_0 := bC BK239 0 (.int .i32 0); have hcz7_1 := bC BK239 1 (.int .i32 0); have hfz7_0 := blk_frozen BK239.out 0; have hfz7_1 := blk_frozen BK239.out 1)))
       go_ret
       exact ⟨Z4, Z1⟩
      ·rw [if_neg c5] at H
       have c5b0 := decide_eq_false c5
       clear c5
       by_cases c8 : ((rd_T36 l0 x7_1).f1) > 1114111
       ·rw [if_pos c8] at H
        have c8b0 : decide (1114111 < ((rd_T36 l0 x7_1).f1)) = true := decide_eq_true c8
        clear c8
        obtain rfl := Option.some.inj H
        have p238 : 0 ≤ (x7_1 : Int) := of_decide_eq_true Z0
        have q238 : x7_1 < (l0.length : Int) := of_decide_eq_true Z0
        obtain ⟨ad238, e238, hx238_0, hx238_1⟩ := at_T36 HR0.out x7_1 p238 q238
        cases e238
        replace hx238_0 := (HB.out.cell (World.block_lt_of_cell? w _ hx238_0)).trans hx238_0
        replace hx238_1 := (HB.out.cell (World.block_lt_of_cell? w _ hx238_1)).trans hx238_1
        replace p238 := eq_true p238
        replace q238 := eq_true q238
        go_wp2_with (first | ((with_reducible refine gate_dst (N := 4) rfl ?_); refine box_event ?hg (N := 4) ?hd (cs := #[.int .i32 0, .int .i32 0]) (t := 36) ?hr ?_; (case hd => rfl); (case hg => rfl); (case hr => first | (go_simp; done) | (go_simp; rfl)); intro gb239 hg w9 hbox hb; have BK239 := Aside0.mk (hbox); have GW239 := gE hg zB; have GE239 := gE hg zB; replace HB := Aside0.mk (below_step zB hb); clear hb hbox hg; have hcz10_0 := bC BK239 0 (.int .i32 0); have hcz10_1 := bC BK239 1 (.int .i32 0); have hfz10_0 := blk_frozen BK239.out 0; have hfz10_1 := blk_frozen BK239.out 1))
        repeat (go_quiet (first | ((with_reducible refine gate_dst (N := 4) rfl ?_); refine box_event ?hg (N := 4) ?hd (cs := #[.int .i32 0, .int .i32 0]) (t := 36) ?hr ?_; (case hd => rfl); (case hg => rfl); (case hr => first | (go_simp; done) | (go_simp; rfl)); intro gb239 hg w9 hbox hb; have BK239 := Aside0.mk (hbox); have GW239 := gE hg zB; have GE239 := gE hg zB; replace HB := Aside0.mk (below_step zB hb); clear hb hbox hg; have hcz10_0 := bC BK239 0 (.int .i32 0); have hcz10_1 := bC BK239 1 (.int .i32 0); have hfz10_0 := blk_frozen BK239.out 0; have hfz10_1 := blk_frozen BK239.out 1)); try go_wp2_with (first | ((with_reducible refine gate_dst (N := 4) rfl ?_); refine box_event ?hg (N := 4) ?hd (cs := #[.int .i32 0, .int .i32 0]) (t := 36) ?hr ?_; (case hd => rfl); (case hg => rfl); (case hr => first | (go_simp; done) | (go_simp; rfl)); intro gb239 hg w9 hbox hb; have BK239 := Aside0.mk (hbox); have GW239 := gE hg zB; have GE239 := gE hg zB; replace HB := Aside0.mk (below_step zB hb); clear hb hbox hg; have hcz10_0 := bC BK239 0 (.int .i32 0); have hcz10_1 := bC BK239 1 (.int .i32 0); have hfz10_0 := blk_frozen BK239.out 0; have hfz10_1 := blk_frozen BK239.out 1)))
        go_ret
        exact ⟨Z4, Z1⟩
       ·rw [if_neg c8] at H
        have c8b0 : decide (1114111 < ((rd_T36 l0 x7_1).f1)) = false := decide_eq_false c8
        clear c8
        by_cases c11 : ((rd_T36 l0 x7_1).f0) > ((rd_T36 l0 x7_1).f1)
        ·rw [if_pos c11] at H
         have c11b0 : decide (((rd_T36 l0 x7_1).f1) < ((rd_T36 l0 x7_1).f0)) = true := decide_eq_true c11
         clear c11
         obtain rfl := Option.some.inj H
         have p238 : 0 ≤ (x7_1 : Int) := of_decide_eq_true Z0
         have q238 : x7_1 < (l0.length : Int) := of_decide_eq_true Z0
         obtain ⟨ad238, e238, hx238_0, hx238_1⟩ := at_T36 HR0.out x7_1 p238 q238
         cases e238
         replace hx238_0 := (HB.out.cell (World.block_lt_of_cell? w _ hx238_0)).trans hx238_0
         replace hx238_1 := (HB.out.cell (World.block_lt_of_cell? w _ hx238_1)).trans hx238_1
         replace p238 := eq_true p238
         replace q238 := eq_true q238
         go_wp2_with (first | ((with_reducible refine gate_dst (N := 4) rfl ?_); refine box_event ?hg (N := 4) ?hd (cs := #[.int .i32 0, .int .i32 0]) (t := 36) ?hr ?_; (case hd => rfl); (case hg => rfl); (case hr => first | (go_simp; done) | (go_simp; rfl)); intro gb239 hg w12 hbox hb; have BK239 := Aside0.mk (hbox); have GW239 := gE hg zB; have GE239 := gE hg zB; replace HB := Aside0.mk (below_step zB hb); clear hb hbox hg; have hcz13_0 := bC BK239 0 (.int .i32 0); have hcz13_1 := bC BK239 1 (.int .i32 0); have hfz13_0 := blk_frozen BK239.out 0; have hfz13_1 := blk_frozen BK239.out 1))
         repeat (go_quiet (first | ((with_reducible refine gate_dst (N := 4) rfl ?_); refine box_event ?hg (N := 4) ?hd (cs := #[.int .i32 0, .int .i32 0]) (t := 36) ?hr ?_; (case hd => rfl); (case hg => rfl); (case hr => first | (go_simp; done) | (go_simp; rfl)); intro gb239 hg w12 hbox hb; have BK239 := Aside0.mk (hbox); have GW239 := gE hg zB; have GE239 := gE hg zB; replace HB := Aside0.mk (below_step zB hb); clear hb hbox hg; have hcz13_0 := bC BK239 0 (.int .i32 0); have hcz13_1 := bC BK239 1 (.int .i32 0); have hfz13_0 := blk_frozen BK239.out 0; have hfz13_1 := blk_frozen BK239.out 1)); try go_wp2_with (first | ((with_reducible refine gate_dst (N := 4) rfl ?_); refine box_event ?hg (N := 4) ?hd (cs := #[.int .i32 0, .int .i32 0]) (t := 36) ?hr ?_; (case hd => rfl); (case hg => rfl); (case hr => first | (go_simp; done) | (go_simp; rfl)); intro gb239 hg w12 hbox hb; have BK239 := Aside0.mk (hbox); have GW239 := gE hg zB; have GE239 := gE hg zB; replace HB := Aside0.mk (below_step zB hb); clear hb hbox hg; have hcz13_0 := bC BK239 0 (.int .i32 0); have hcz13_1 := bC BK239 1 (.int .i32 0); have hfz13_0 := blk_frozen BK239.out 0; have hfz13_1 := blk_frozen BK239.out 1)))
         go_ret
         exact ⟨Z4, Z1⟩
        ·rw [if_neg c11] at H
         have c11b0 : decide (((rd_T36 l0 x7_1).f1) < ((rd_T36 l0 x7_1).f0)) = false := decide_eq_false c11
         clear c11
         by_cases c14 : x7_1 > 0
         ·rw [if_pos c14] at H
          have c14b0 : decide (0 < x7_1) = true := decide_eq_true c14
          clear c14
          obtain ⟨ji15, hji15⟩ : ∃ j_ : Int, (wrap64 (x7_1 - 1)) = j_ := ⟨_, rfl⟩
          replace H : (if 0 ≤ (ji15) then (if (ji15) < (l0.length : Int) then (if (wrap32 (((rd_T36 l0 x7_1).f0) - 1)) ≤ ((rd_T36 l0 (ji15)).f1) then (some 20) else (runes_Check.l0 k1 l0 l0 (l0.length : Int) (wrap64 (x7_1 + 1)))) else (none)) else (none)) = some r := by first | (rw [hji15] at H; exact H) | (simp only [hji15] at H ⊢; exact H)
          have hji15w : (IntKind.i64.wrap (x7_1 - 1)) = ji15 := (i64_w _).trans hji15
          by_cases c16 : 0 ≤ (ji15)
          ·rw [if_pos c16] at H
           have c16b0 := decide_eq_true c16
           clear c16
           by_cases c17 : (ji15) < (l0.length : Int)
           ·rw [if_pos c17] at H
            have c17b0 := decide_eq_true c17
            clear c17
            by_cases c18 : (wrap32 (((rd_T36 l0 x7_1).f0) - 1)) ≤ ((rd_T36 l0 (ji15)).f1)
            ·rw [if_pos c18] at H
             have c18b0 := decide_eq_true c18
             clear c18
             obtain rfl := Option.some.inj H
             have p238 : 0 ≤ (x7_1 : Int) := of_decide_eq_true Z0
             have q238 : x7_1 < (l0.length : Int) := of_decide_eq_true Z0
             obtain ⟨ad238, e238, hx238_0, hx238_1⟩ := at_T36 HR0.out x7_1 p238 q238
             cases e238
             replace hx238_0 := (HB.out.cell (World.block_lt_of_cell? w _ hx238_0)).trans hx238_0
             replace hx238_1 := (HB.out.cell (World.block_lt_of_cell? w _ hx238_1)).trans hx238_1
             replace p238 := eq_true p238
             replace q238 := eq_true q238
             go_wp2_with (first | ((with_reducible refine gate_dst (N := 4) rfl ?_); refine box_event ?hg (N := 4) ?hd (cs := #[.int .i32 0, .int .i32 0]) (t := 36) ?hr ?_; (case hd => rfl); (case hg => rfl); (case hr => first | (go_simp; done) | (go_simp; rfl)); intro gb239 hg w19 hbox hb; have BK239 := Aside0.mk (hbox); have GW239 := gE hg zB; have GE239 := gE hg zB; replace HB := Aside0.mk (below_step zB hb); clear hb hbox hg; have hcz20_0 := bC BK239 0 (.int .i32 0); have hcz20_1 := bC BK239 1 (.int .i32 0); have hfz20_0 := blk_frozen BK239.out 0; have hfz20_1 := blk_frozen BK239.out 1; have p240 : 0 ≤ ((ji15) : Int) := of_decide_eq_true Z0; have q240 : (ji15) < (l0.length : Int) := of_decide_eq_true Z0; obtain ⟨ad240, e240, hx240_0, hx240_1⟩ := at_T36 HR0.out (ji15) p240 q240; obtain rfl : ad238 = ad240 := (by injection e240); have hn240_0 : ad238.block ≠ gb239 := Nat.ne_of_lt (Nat.lt_of_lt_of_le Z15 GW239.out); have hn240_1 : ad238.block ≠ gb239 := Nat.ne_of_lt (Nat.lt_of_lt_of_le Z15 GW239.out); replace hx240_0 := (HB.out.cell (World.block_lt_of_cell? w _ hx240_0)).trans hx240_0; replace hx240_1 := (HB.out.cell (World.block_lt_of_cell? w _ hx240_1)).trans hx240_1; replace hx240_0 := (cell_far (p := ⟨gb239, 0, none⟩) Z12 (.int .i32 ((rd_T36 l0 x7_1).f0))).trans hx240_0; replace hx240_1 := (cell_far (p := ⟨gb239, 0, none⟩) Z12 (.int .i32 ((rd_T36 l0 x7_1).f0))).trans hx240_1; replace hx240_0 := (cell_far (p := ⟨gb239, 1, none⟩) Z11 (.int .i32 ((rd_T36 l0 x7_1).f1))).trans hx240_0; replace hx240_1 := (cell_far (p := ⟨gb239, 1, none⟩) Z11 (.int .i32 ((rd_T36 l0 x7_1).f1))).trans hx240_1; (try have hy240_0 := fun (n_ : Nat) => (show ((((w19.drewN n_).setCell ⟨gb239, 0, none⟩ (.int .i32 ((rd_T36 l0 x7_1).f0))).setCell ⟨gb239, 1, none⟩ (.int .i32 ((rd_T36 l0 x7_1).f1)))).cell? _ = some _ from hx240_0)); (try have hy240_1 := fun (n_ : Nat) => (show ((((w19.drewN n_).setCell ⟨gb239, 0, none⟩ (.int .i32 ((rd_T36 l0 x7_1).f0))).setCell ⟨gb239, 1, none⟩ (.int .i32 ((rd_T36 l0 x7_1).f1)))).cell? _ = some _ from hx240_1)); clear hn240_0; clear hn240_1; replace p240 := eq_true p240; replace q240 := eq_true q240))
             repeat (go_quiet (first | ((with_reducible refine gate_dst (N := 4) rfl ?_); refine box_event ?hg (N := 4) ?hd (cs := #[.int .i32 0, .int .i32 0]) (t := 36) ?hr ?_; (case hd => rfl); (case hg => rfl); (case hr => first | (go_simp; done) | (go_simp; rfl)); intro gb239 hg w19 hbox hb; have BK239 := Aside0.mk (hbox); have GW239 := gE hg zB; have GE239 := gE hg zB; replace HB := Aside0.mk (below_step zB hb); clear hb hbox hg; have hcz20_0 := bC BK239 0 (.int .i32 0); have hcz20_1 := bC BK239 1 (.int .i32 0); have hfz20_0 := blk_frozen BK239.out 0; have hfz20_1 := blk_frozen BK239.out 1; have p240 : 0 ≤ ((ji15) : Int) := of_decide_eq_true Z0; have q240 : (ji15) < (l0.length : Int) := of_decide_eq_true Z0; obtain ⟨ad240, e240, hx240_0, hx240_1⟩ := at_T36 HR0.out (ji15) p240 q240; obtain rfl : ad238 = ad240 := (by injection e240); have hn240_0 : ad238.block ≠ gb239 := Nat.ne_of_lt (Nat.lt_of_lt_of_le Z15 GW239.out); have hn240_1 : ad238.block ≠ gb239 := Nat.ne_of_lt (Nat.lt_of_lt_of_le Z15 GW239.out); replace hx240_0 := (HB.out.cell (World.block_lt_of_cell? w _ hx240_0)).trans hx240_0; replace hx240_1 := (HB.out.cell (World.block_lt_of_cell? w _ hx240_1)).trans hx240_1; replace hx240_0 := (cell_far (p := ⟨gb239, 0, none⟩) Z12 (.int .i32 ((rd_T36 l0 x7_1).f0))).trans hx240_0; replace hx240_1 := (cell_far (p := ⟨gb239, 0, none⟩) Z12 (.int .i32 ((rd_T36 l0 x7_1).f0))).trans hx240_1; replace hx240_0 := (cell_far (p := ⟨gb239, 1, none⟩) Z11 (.int .i32 ((rd_T36 l0 x7_1).f1))).trans hx240_0; replace hx240_1 := (cell_far (p := ⟨gb239, 1, none⟩) Z11 (.int .i32 ((rd_T36 l0 x7_1).f1))).trans hx240_1; (try have hy240_0 := fun (n_ : Nat) => (show ((((w19.drewN n_).setCell ⟨gb239, 0, none⟩ (.int .i32 ((rd_T36 l0 x7_1).f0))).setCell ⟨gb239, 1, none⟩ (.int .i32 ((rd_T36 l0 x7_1).f1)))).cell? _ = some _ from hx240_0)); (try have hy240_1 := fun (n_ : Nat) => (show ((((w19.drewN n_).setCell ⟨gb239, 0, none⟩ (.int .i32 ((rd_T36 l0 x7_1).f0))).setCell ⟨gb239, 1, none⟩ (.int .i32 ((rd_T36 l0 x7_1).f1)))).cell? _ = some _ from hx240_1)); clear hn240_0; clear hn240_1; replace p240 := eq_true p240; replace q240 := eq_true q240)); try go_wp2_with (first | ((with_reducible refine gate_dst (N := 4) rfl ?_); refine box_event ?hg (N := 4) ?hd (cs := #[.int .i32 0, .int .i32 0]) (t := 36) ?hr ?_; (case hd => rfl); (case hg => rfl); (case hr => first | (go_simp; done) | (go_simp; rfl)); intro gb239 hg w19 hbox hb; have BK239 := Aside0.mk (hbox); have GW239 := gE hg zB; have GE239 := gE hg zB; replace HB := Aside0.mk (below_step zB hb); clear hb hbox hg; have hcz20_0 := bC BK239 0 (.int .i32 0); have hcz20_1 := bC BK239 1 (.int .i32 0); have hfz20_0 := blk_frozen BK239.out 0; have hfz20_1 := blk_frozen BK239.out 1; have p240 : 0 ≤ ((ji15) : Int) := of_decide_eq_true Z0; have q240 : (ji15) < (l0.length : Int) := of_decide_eq_true Z0; obtain ⟨ad240, e240, hx240_0, hx240_1⟩ := at_T36 HR0.out (ji15) p240 q240; obtain rfl : ad238 = ad240 := (by injection e240); have hn240_0 : ad238.block ≠ gb239 := Nat.ne_of_lt (Nat.lt_of_lt_of_le Z15 GW239.out); have hn240_1 : ad238.block ≠ gb239 := Nat.ne_of_lt (Nat.lt_of_lt_of_le Z15 GW239.out); replace hx240_0 := (HB.out.cell (World.block_lt_of_cell? w _ hx240_0)).trans hx240_0; replace hx240_1 := (HB.out.cell (World.block_lt_of_cell? w _ hx240_1)).trans hx240_1; replace hx240_0 := (cell_far (p := ⟨gb239, 0, none⟩) Z12 (.int .i32 ((rd_T36 l0 x7_1).f0))).trans hx240_0; replace hx240_1 := (cell_far (p := ⟨gb239, 0, none⟩) Z12 (.int .i32 ((rd_T36 l0 x7_1).f0))).trans hx240_1; replace hx240_0 := (cell_far (p := ⟨gb239, 1, none⟩) Z11 (.int .i32 ((rd_T36 l0 x7_1).f1))).trans hx240_0; replace hx240_1 := (cell_far (p := ⟨gb239, 1, none⟩) Z11 (.int .i32 ((rd_T36 l0 x7_1).f1))).trans hx240_1; (try have hy240_0 := fun (n_ : Nat) => (show ((((w19.drewN n_).setCell ⟨gb239, 0, none⟩ (.int .i32 ((rd_T36 l0 x7_1).f0))).setCell ⟨gb239, 1, none⟩ (.int .i32 ((rd_T36 l0 x7_1).f1)))).cell? _ = some _ from hx240_0)); (try have hy240_1 := fun (n_ : Nat) => (show ((((w19.drewN n_).setCell ⟨gb239, 0, none⟩ (.int .i32 ((rd_T36 l0 x7_1).f0))).setCell ⟨gb239, 1, none⟩ (.int .i32 ((rd_T36 l0 x7_1).f1)))).cell? _ = some _ from hx240_1)); clear hn240_0; clear hn240_1; replace p240 := eq_true p240; replace q240 := eq_true q240)))
             go_ret
             exact ⟨by first | rfl | (simp [errW_none, errW_some] <;> rfl) | (simp only [← hji15]; first | rfl | (simp [errW_none, errW_some] <;> rfl)) | (simp [*, errW_none, errW_some] <;> rfl), Z1⟩
            ·rw [if_neg c18] at H
             have c18b0 := decide_eq_false c18
             clear c18
             have H' := Aside0.mk H
             clear H
             have p238 : 0 ≤ (x7_1 : Int) := of_decide_eq_true Z0
             have q238 : x7_1 < (l0.length : Int) := of_decide_eq_true Z0
             obtain ⟨ad238, e238, hx238_0, hx238_1⟩ := at_T36 HR0.out x7_1 p238 q238
             cases e238
             replace hx238_0 := (HB.out.cell (World.block_lt_of_cell? w _ hx238_0)).trans hx238_0
             replace hx238_1 := (HB.out.cell (World.block_lt_of_cell? w _ hx238_1)).trans hx238_1
             replace p238 := eq_true p238
             replace q238 := eq_true q238
             go_wp2_with (first | ((with_reducible refine gate_dst (N := 4) rfl ?_); refine box_event ?hg (N := 4) ?hd (cs := #[.int .i32 0, .int .i32 0]) (t := 36) ?hr ?_; (case hd => rfl); (case hg => rfl); (case hr => first | (go_simp; done) | (go_simp; rfl)); intro gb239 hg w21 hbox hb; have BK239 := Aside0.mk (hbox); have GW239 := gE hg zB; have GE239 := gE hg zB; replace HB := Aside0.mk (below_step zB hb); clear hb hbox hg; have hcz22_0 := bC BK239 0 (.int .i32 0); have hcz22_1 := bC BK239 1 (.int .i32 0); have hfz22_0 := blk_frozen BK239.out 0; have hfz22_1 := blk_frozen BK239.out 1; have p240 : 0 ≤ ((ji15) : Int) := of_decide_eq_true Z0; have q240 : (ji15) < (l0.length : Int) := of_decide_eq_true Z0; obtain ⟨ad240, e240, hx240_0, hx240_1⟩ := at_T36 HR0.out (ji15) p240 q240; obtain rfl : ad238 = ad240 := (by injection e240); have hn240_0 : ad238.block ≠ gb239 := Nat.ne_of_lt (Nat.lt_of_lt_of_le Z15 GW239.out); have hn240_1 : ad238.block ≠ gb239 := Nat.ne_of_lt (Nat.lt_of_lt_of_le Z15 GW239.out); replace hx240_0 := (HB.out.cell (World.block_lt_of_cell? w _ hx240_0)).trans hx240_0; replace hx240_1 := (HB.out.cell (World.block_lt_of_cell? w _ hx240_1)).trans hx240_1; replace hx240_0 := (cell_far (p := ⟨gb239, 0, none⟩) Z12 (.int .i32 ((rd_T36 l0 x7_1).f0))).trans hx240_0; replace hx240_1 := (cell_far (p := ⟨gb239, 0, none⟩) Z12 (.int .i32 ((rd_T36 l0 x7_1).f0))).trans hx240_1; replace hx240_0 := (cell_far (p := ⟨gb239, 1, none⟩) Z11 (.int .i32 ((rd_T36 l0 x7_1).f1))).trans hx240_0; replace hx240_1 := (cell_far (p := ⟨gb239, 1, none⟩) Z11 (.int .i32 ((rd_T36 l0 x7_1).f1))).trans hx240_1; (try have hy240_0 := fun (n_ : Nat) => (show ((((w21.drewN n_).setCell ⟨gb239, 0, none⟩ (.int .i32 ((rd_T36 l0 x7_1).f0))).setCell ⟨gb239, 1, none⟩ (.int .i32 ((rd_T36 l0 x7_1).f1)))).cell? _ = some _ from hx240_0)); (try have hy240_1 := fun (n_ : Nat) => (show ((((w21.drewN n_).setCell ⟨gb239, 0, none⟩ (.int .i32 ((rd_T36 l0 x7_1).f0))).setCell ⟨gb239, 1, none⟩ (.int .i32 ((rd_T36 l0 x7_1).f1)))).cell? _ = some _ from hx240_1)); clear hn240_0; clear hn240_1; replace p240 := eq_true p240; replace q240 := eq_true q240))
             repeat (go_quiet (first | ((with_reducible refine gate_dst (N := 4) rfl ?_); refine box_event ?hg (N := 4) ?hd (cs := #[.int .i32 0, .int .i32 0]) (t := 36) ?hr ?_; (case hd => rfl); (case hg => rfl); (case hr => first | (go_simp; done) | (go_simp; rfl)); intro gb239 hg w21 hbox hb; have BK239 := Aside0.mk (hbox); have GW239 := gE hg zB; have GE239 := gE hg zB; replace HB := Aside0.mk (below_step zB hb); clear hb hbox hg; have hcz22_0 := bC BK239 0 (.int .i32 0); have hcz22_1 := bC BK239 1 (.int .i32 0); have hfz22_0 := blk_frozen BK239.out 0; have hfz22_1 := blk_frozen BK239.out 1; have p240 : 0 ≤ ((ji15) : Int) := of_decide_eq_true Z0; have q240 : (ji15) < (l0.length : Int) := of_decide_eq_true Z0; obtain ⟨ad240, e240, hx240_0, hx240_1⟩ := at_T36 HR0.out (ji15) p240 q240; obtain rfl : ad238 = ad240 := (by injection e240); have hn240_0 : ad238.block ≠ gb239 := Nat.ne_of_lt (Nat.lt_of_lt_of_le Z15 GW239.out); have hn240_1 : ad238.block ≠ gb239 := Nat.ne_of_lt (Nat.lt_of_lt_of_le Z15 GW239.out); replace hx240_0 := (HB.out.cell (World.block_lt_of_cell? w _ hx240_0)).trans hx240_0; replace hx240_1 := (HB.out.cell (World.block_lt_of_cell? w _ hx240_1)).trans hx240_1; replace hx240_0 := (cell_far (p := ⟨gb239, 0, none⟩) Z12 (.int .i32 ((rd_T36 l0 x7_1).f0))).trans hx240_0; replace hx240_1 := (cell_far (p := ⟨gb239, 0, none⟩) Z12 (.int .i32 ((rd_T36 l0 x7_1).f0))).trans hx240_1; replace hx240_0 := (cell_far (p := ⟨gb239, 1, none⟩) Z11 (.int .i32 ((rd_T36 l0 x7_1).f1))).trans hx240_0; replace hx240_1 := (cell_far (p := ⟨gb239, 1, none⟩) Z11 (.int .i32 ((rd_T36 l0 x7_1).f1))).trans hx240_1; (try have hy240_0 := fun (n_ : Nat) => (show ((((w21.drewN n_).setCell ⟨gb239, 0, none⟩ (.int .i32 ((rd_T36 l0 x7_1).f0))).setCell ⟨gb239, 1, none⟩ (.int .i32 ((rd_T36 l0 x7_1).f1)))).cell? _ = some _ from hx240_0)); (try have hy240_1 := fun (n_ : Nat) => (show ((((w21.drewN n_).setCell ⟨gb239, 0, none⟩ (.int .i32 ((rd_T36 l0 x7_1).f0))).setCell ⟨gb239, 1, none⟩ (.int .i32 ((rd_T36 l0 x7_1).f1)))).cell? _ = some _ from hx240_1)); clear hn240_0; clear hn240_1; replace p240 := eq_true p240; replace q240 := eq_true q240)); try go_wp2_with (first | ((with_reducible refine gate_dst (N := 4) rfl ?_); refine box_event ?hg (N := 4) ?hd (cs := #[.int .i32 0, .int .i32 0]) (t := 36) ?hr ?_; (case hd => rfl); (case hg => rfl); (case hr => first | (go_simp; done) | (go_simp; rfl)); intro gb239 hg w21 hbox hb; have BK239 := Aside0.mk (hbox); have GW239 := gE hg zB; have GE239 := gE hg zB; replace HB := Aside0.mk (below_step zB hb); clear hb hbox hg; have hcz22_0 := bC BK239 0 (.int .i32 0); have hcz22_1 := bC BK239 1 (.int .i32 0); have hfz22_0 := blk_frozen BK239.out 0; have hfz22_1 := blk_frozen BK239.out 1; have p240 : 0 ≤ ((ji15) : Int) := of_decide_eq_true Z0; have q240 : (ji15) < (l0.length : Int) := of_decide_eq_true Z0; obtain ⟨ad240, e240, hx240_0, hx240_1⟩ := at_T36 HR0.out (ji15) p240 q240; obtain rfl : ad238 = ad240 := (by injection e240); have hn240_0 : ad238.block ≠ gb239 := Nat.ne_of_lt (Nat.lt_of_lt_of_le Z15 GW239.out); have hn240_1 : ad238.block ≠ gb239 := Nat.ne_of_lt (Nat.lt_of_lt_of_le Z15 GW239.out); replace hx240_0 := (HB.out.cell (World.block_lt_of_cell? w _ hx240_0)).trans hx240_0; replace hx240_1 := (HB.out.cell (World.block_lt_of_cell? w _ hx240_1)).trans hx240_1; replace hx240_0 := (cell_far (p := ⟨gb239, 0, none⟩) Z12 (.int .i32 ((rd_T36 l0 x7_1).f0))).trans hx240_0; replace hx240_1 := (cell_far (p := ⟨gb239, 0, none⟩) Z12 (.int .i32 ((rd_T36 l0 x7_1).f0))).trans hx240_1; replace hx240_0 := (cell_far (p := ⟨gb239, 1, none⟩) Z11 (.int .i32 ((rd_T36 l0 x7_1).f1))).trans hx240_0; replace hx240_1 := (cell_far (p := ⟨gb239, 1, none⟩) Z11 (.int .i32 ((rd_T36 l0 x7_1).f1))).trans hx240_1; (try have hy240_0 := fun (n_ : Nat) => (show ((((w21.drewN n_).setCell ⟨gb239, 0, none⟩ (.int .i32 ((rd_T36 l0 x7_1).f0))).setCell ⟨gb239, 1, none⟩ (.int .i32 ((rd_T36 l0 x7_1).f1)))).cell? _ = some _ from hx240_0)); (try have hy240_1 := fun (n_ : Nat) => (show ((((w21.drewN n_).setCell ⟨gb239, 0, none⟩ (.int .i32 ((rd_T36 l0 x7_1).f0))).setCell ⟨gb239, 1, none⟩ (.int .i32 ((rd_T36 l0 x7_1).f1)))).cell? _ = some _ from hx240_1)); clear hn240_0; clear hn240_1; replace p240 := eq_true p240; replace q240 := eq_true q240)))
             go_roundg k1
             case measure => have := HK1.out; omega
             case rel => exact ⟨(wrap64 (x7_1 + 1)), Z3, H', ⟨Z23⟩, ⟨Z1⟩⟩
           ·rw [if_neg c17] at H
            exact absurd H Z25
          ·rw [if_neg c16] at H
           exact absurd H Z25
         ·rw [if_neg c14] at H
          have c14b0 : decide (0 < x7_1) = false := decide_eq_false c14
          clear c14
          have H' := Aside0.mk H
          clear H
          have p238 : 0 ≤ (x7_1 : Int) := of_decide_eq_true Z0
          have q238 : x7_1 < (l0.length : Int) := of_decide_eq_true Z0
          obtain ⟨ad238, e238, hx238_0, hx238_1⟩ := at_T36 HR0.out x7_1 p238 q238
          cases e238
          replace hx238_0 := (HB.out.cell (World.block_lt_of_cell? w _ hx238_0)).trans hx238_0
          replace hx238_1 := (HB.out.cell (World.block_lt_of_cell? w _ hx238_1)).trans hx238_1
          replace p238 := eq_true p238
          replace q238 := eq_true q238
          go_wp2_with (first | ((with_reducible refine gate_dst (N := 4) rfl ?_); refine box_event ?hg (N := 4) ?hd (cs := #[.int .i32 0, .int .i32 0]) (t := 36) ?hr ?_; (case hd => rfl); (case hg => rfl); (case hr => first | (go_simp; done) | (go_simp; rfl)); intro gb239 hg w23 hbox hb; have BK239 := Aside0.mk (hbox); have GW239 := gE hg zB; have GE239 := gE hg zB; replace HB := Aside0.mk (below_step zB hb); clear hb hbox hg; have hcz24_0 := bC BK239 0 (.int .i32 0); have hcz24_1 := bC BK239 1 (.int .i32 0); have hfz24_0 := blk_frozen BK239.out 0; have hfz24_1 := blk_frozen BK239.out 1))
          repeat (go_quiet (first | ((with_reducible refine gate_dst (N := 4) rfl ?_); refine box_event ?hg (N := 4) ?hd (cs := #[.int .i32 0, .int .i32 0]) (t := 36) ?hr ?_; (case hd => rfl); (case hg => rfl); (case hr => first | (go_simp; done) | (go_simp; rfl)); intro gb239 hg w23 hbox hb; have BK239 := Aside0.mk (hbox); have GW239 := gE hg zB; have GE239 := gE hg zB; replace HB := Aside0.mk (below_step zB hb); clear hb hbox hg; have hcz24_0 := bC BK239 0 (.int .i32 0); have hcz24_1 := bC BK239 1 (.int .i32 0); have hfz24_0 := blk_frozen BK239.out 0; have hfz24_1 := blk_frozen BK239.out 1)); try go_wp2_with (first | ((with_reducible refine gate_dst (N := 4) rfl ?_); refine box_event ?hg (N := 4) ?hd (cs := #[.int .i32 0, .int .i32 0]) (t := 36) ?hr ?_; (case hd => rfl); (case hg => rfl); (case hr => first | (go_simp; done) | (go_simp; rfl)); intro gb239 hg w23 hbox hb; have BK239 := Aside0.mk (hbox); have GW239 := gE hg zB; have GE239 := gE hg zB; replace HB := Aside0.mk (below_step zB hb); clear hb hbox hg; have hcz24_0 := bC BK239 0 (.int .i32 0); have hcz24_1 := bC BK239 1 (.int .i32 0); have hfz24_0 := blk_frozen BK239.out 0; have hfz24_1 := blk_frozen BK239.out 1)))
          go_roundg k1
          case measure => have := HK1.out; omega
          case rel => exact ⟨(wrap64 (x7_1 + 1)), Z3, H', ⟨Z23⟩, ⟨Z1⟩⟩
     ·rw [if_neg c4] at H
      exact absurd H Z25
    ·rw [if_neg c3] at H
     exact absurd H Z25
   ·rw [if_neg c2] at H
    have c2b0 := decide_eq_false c2
    clear c2
    by_cases c25 : (l0.length : Int) > 2048
    ·rw [if_pos c25] at H
     have c25b0 : decide (2048 < (l0.length : Int)) = true := decide_eq_true c25
     have c25b1 : decide (2048 < l0.length) = true := decide_eq_true Z21
     clear c25
     obtain rfl := Option.some.inj H
     go_wp2
     repeat (go_quiet (fail); try go_wp2)
     go_ret
     exact ⟨Z4, Z1⟩
    ·rw [if_neg c25] at H
     have c25b0 : decide (2048 < (l0.length : Int)) = false := decide_eq_false c25
     have c25b1 : decide (2048 < l0.length) = false := decide_eq_false Z21
     clear c25
     obtain rfl := Option.some.inj H
     go_wp2
     repeat (go_quiet (fail); try go_wp2)
     go_ret
     exact ⟨Z4, Z1⟩
def strings_ContainsRune.f (a0 : ByteArray) (a1 : Int) : Option (Bool) := if 0 ≤ a1 then (if a1 < 128 then some (decide (0 ≤ Lib.indexByte a0.data.toList a1.toNat.toUInt8)) else none) else none
theorem strings_ContainsRune.calls {a0 : ByteArray} {a1 : Int} {r : Bool} {w : World} (h : strings_ContainsRune.f a0 a1 = some r) :
  Calls Tryd.prog 69 #[.string a0, .int .i32 a1] w fun e w' => e = .returned (.bool r) ∧ Drawn0 w w' := by
 unfold strings_ContainsRune.f at h
 by_cases c1 : 0 ≤ a1
 ·rw [if_pos c1] at h
  by_cases c2 : a1 < 128
  ·rw [if_pos c2] at h
   obtain rfl := Option.some.inj h
   refine (Tryd.strings_ContainsRune_ascii a0 a1 w c1 c2).mono ?_
   rintro e w' ⟨rfl, rfl⟩
   exact ⟨rfl, Drawn0.refl _⟩
  ·rw [if_neg c2] at h; exact absurd h Z25
 ·rw [if_neg c1] at h; exact absurd h Z25
def runes_one.f (a0 : Int) : Option (ByteArray) := if a0 = 10 then some ⟨#[92, 110]⟩ else if a0 = 9 then some ⟨#[92, 116]⟩ else if a0 = 13 then some ⟨#[92, 114]⟩ else (strings_ContainsRune.f ⟨#[91, 93, 45, 94, 92, 34]⟩ a0).bind fun b => if b = true then (if (Utf8.encode a0).size ≤ 4 then some (⟨#[92]⟩ ++ Utf8.encode a0) else none) else if 33 ≤ a0 then (if a0 ≤ 126 then some (Utf8.encode a0) else none) else none
set_option maxHeartbeats 8000000 in
set_option maxRecDepth 100000 in
theorem runes_one.calls {a0 : Int} {r : ByteArray} {w : World} (h : runes_one.f a0 = some r) :
  Calls Tryd.prog 56 #[.int .i32 a0] w fun e w' => e = .returned (.string r) ∧ Drawn0 w w' := by
 unfold runes_one.f at h
 by_cases c1 : a0 = 10
 ·rw [if_pos c1] at h
  obtain rfl := Option.some.inj h
  subst c1
  go_enter Tryd.func56, Tryd.ntmps56
  go_wp2
  go_ret
  exact ⟨rfl, Z7⟩
 rw [if_neg c1] at h
 have d1 : (a0 == 10) = false := beq_eq_false_iff_ne.mpr c1
 clear c1
 by_cases c2 : a0 = 9
 ·rw [if_pos c2] at h
  obtain rfl := Option.some.inj h
  subst c2
  go_enter Tryd.func56, Tryd.ntmps56
  go_wp2
  go_ret
  exact ⟨rfl, Z7⟩
 rw [if_neg c2] at h
 have d2 : (a0 == 9) = false := beq_eq_false_iff_ne.mpr c2
 clear c2
 by_cases c3 : a0 = 13
 ·rw [if_pos c3] at h
  obtain rfl := Option.some.inj h
  subst c3
  go_enter Tryd.func56, Tryd.ntmps56
  go_wp2
  go_ret
  exact ⟨rfl, Z7⟩
 rw [if_neg c3] at h
 have d3 : (a0 == 13) = false := beq_eq_false_iff_ne.mpr c3
 clear c3
 obtain ⟨b, hb, h⟩ := Option.bind_eq_some_iff.mp h
 have A1 := Aside0.mk hb
 clear hb
 cases b with
 | true =>
  rw [if_pos rfl] at h
  by_cases c4 : (Utf8.encode a0).size ≤ 4
  ·rw [if_pos c4] at h
   obtain rfl := Option.some.inj h
   go_enter Tryd.func56, Tryd.ntmps56
   go_wp2_with (go_at_call 69; refine (strings_ContainsRune.calls A1.out).mono ?_; rintro e w' ⟨rfl, ⟨nd, rfl⟩⟩)
   go_ret
   exact ⟨rfl, Z7⟩
  ·rw [if_neg c4] at h; exact absurd h Z25
 | false =>
  rw [if_neg Z27] at h
  by_cases c4 : 33 ≤ a0
  ·rw [if_pos c4] at h
   by_cases c5 : a0 ≤ 126
   ·rw [if_pos c5] at h
    obtain rfl := Option.some.inj h
    have d4 : decide (33 ≤ a0) = true := decide_eq_true c4
    have d5 : decide (a0 ≤ 126) = true := decide_eq_true c5
    clear c4 c5
    go_enter Tryd.func56, Tryd.ntmps56
    go_wp2_with (go_at_call 69; refine (strings_ContainsRune.calls A1.out).mono ?_; rintro e w' ⟨rfl, ⟨nd, rfl⟩⟩)
    go_ret
    exact ⟨rfl, Z7⟩
   ·rw [if_neg c5] at h; exact absurd h Z25
  ·rw [if_neg c4] at h; exact absurd h Z25
def runes_Text.loop : List S36 → List UInt8 → Option (List UInt8)
 | [], s => some s
 | t :: l, s => if s.length ≤ 1000000000 then (runes_one.f t.f0).bind fun a => (if a.size ≤ 1000 then (if t.f1 = t.f0 then runes_Text.loop l (s ++ a.data.toList) else (runes_one.f t.f1).bind fun b => (if b.size ≤ 1000 then runes_Text.loop l (s ++ a.data.toList ++ (⟨#[45]⟩ ++ b).data.toList) else none)) else none) else none
def runes_Text.f (k : Nat) (l0 : List S36) : Option (ByteArray × Int) := (runes_Check.f k l0).bind fun e => if e = 0 then (runes_Text.loop l0 [91]).bind fun s => (if s.length ≤ 1000000000 then some (⟨(s ++ [93]).toArray⟩, 0) else none) else some (⟨#[]⟩, e)
theorem runes_Text.mono : ∀ a0 k, LeO (runes_Text.f k a0) (runes_Text.f (k + 1) a0) := by
 intro a0 k
 unfold runes_Text.f
 exact LeO.bind (runes_Check.mono _ _) (fun _ => LeO.refl _)
theorem runes_Text.kept {B b : Nat} {bs : List Value} {w w1 : World} (h : Lib.IsBuilderF 78 5 B b bs w) (hb : Below w.heap.size w w1) : Lib.IsBuilderF 78 5 B b bs w1 := by
 have key : ∀ p, Lib.BuilderAtF 78 5 B b p bs w → Lib.BuilderAtF 78 5 B b p bs w1 := by
  rintro p ⟨h0, v, h1, h2, h3⟩
  exact ⟨h0, v, blk_below h1 hb, h2.kept (row := none) ⟨hb.os, hb.tape, hb.output, hb.size, fun k hk _ => hb.block k hk⟩ (by cases v.ownBlock <;> simp), h3⟩
 exact h.imp (key _) (key _)
theorem runes_Text.bcat (s : List UInt8) (a : ByteArray) : Lib.byteCells s ++ Lib.strCells a = Lib.byteCells (s ++ a.data.toList) := by simp [Lib.byteCells, Lib.strCells]
theorem runes_Text.step {B b : Nat} {s : List UInt8} {a : ByteArray} {w : World} (h : Lib.BuilderAtF 78 5 B b (.pointer (some ⟨b, 0, none⟩)) (Lib.byteCells s ++ Lib.strCells a) w) : Lib.IsBuilderF 78 5 B b (Lib.byteCells (s ++ a.data.toList)) w := .inr (by rw [← runes_Text.bcat]; exact h)
theorem runes_Text.fresh {B : Nat} {w : World} (h : B ≤ w.heap.size) : Lib.IsBuilderF 78 5 B w.heap.size [] (w.alloc (.cells #[.pointer none, .slice none 0 0] 78 (0, 0))) :=
 .inl (Lib.BuilderAtF.of ⟨h, .slice none 0 0, blk_new w _, own_nil _ _ _ _, by simp [Value.ownBlock]⟩)
set_option maxHeartbeats 8000000 in
set_option maxRecDepth 100000 in
theorem runes_Text.calls (k : Nat) (A0 : Option Addr) (c0 : Nat) (l0 : List (S36)) (r1 : ByteArray) (r2 : Int) (w : World) (hr0 : Kd.C k36 w A0 l0.length l0) (hc0 : l0.length ≤ c0) (h : runes_Text.f k l0 = some (r1, r2)) :
  Calls Tryd.prog 34 #[.slice A0 l0.length c0] w fun e w' => e = .returned (.tuple #[.string r1, .int .i64 r2]) ∧ Below w.heap.size w w' := by
 have HR0 := Aside0.mk hr0
 have HC0 := Aside0.mk hc0
 clear hr0 hc0
 unfold runes_Text.f at h
 obtain ⟨e0, Q1, h⟩ := Option.bind_eq_some_iff.mp h
 replace Q1 := Aside0.mk Q1
 by_cases c1 : e0 = 0
 rotate_left
 ·rw [if_neg c1] at h
  obtain ⟨rfl, rfl⟩ := Prod.mk.inj (Option.some.inj h)
  clear h
  have d1 : (e0 != 0) = true := bne_iff_ne.mpr c1
  clear c1
  go_enter Tryd.func34, Tryd.ntmps34
  go_wp2_with (go_at_call 17; refine (runes_Check.calls k _ _ _ _ _ HR0.out HC0.out Q1.out).mono ?_; rintro e W1 ⟨rfl, hb⟩; have B1 := Aside0.mk hb; clear hb)
  go_ret2
  exact ⟨rfl, B1.out⟩
 rw [if_pos c1] at h
 subst c1
 obtain ⟨S, L1, h⟩ := Option.bind_eq_some_iff.mp h
 replace L1 := Aside0.mk L1
 by_cases c2 : S.length ≤ 1000000000
 rotate_left
 ·rw [if_neg c2] at h; exact absurd h Z25
 rw [if_pos c2] at h
 obtain ⟨rfl, rfl⟩ := Prod.mk.inj (Option.some.inj h)
 clear h
 have c2 := Aside0.mk c2
 go_enter Tryd.func34, Tryd.ntmps34
 go_upto_region 5 with (go_at_call 17; refine (runes_Check.calls k _ _ _ _ _ HR0.out HC0.out Q1.out).mono ?_; rintro e W1 ⟨rfl, hb⟩; have B1 := Aside0.mk hb; clear hb)
 have hg : w.heap.size ≤ W1.heap.size := B1.out.size
 have I2 := Aside0.mk (runes_Text.fresh hg)
 have B2 := Aside0.mk (B1.out.alloc hg (.cells #[.pointer none, .slice none 0 0] 78 (0, 0)))
 generalize W1.alloc (.cells #[.pointer none, .slice none 0 0] 78 (0, 0)) = W2 at I2 B2 ⊢
 generalize hgg : W1.heap.size = g at I2 hg ⊢
 clear hgg B1
 go_wp2_with (go_at_call 55; refine (Tryd.Builder_WriteString w.heap.size g [] ⟨#[91]⟩ W2 I2.out (by simp [ByteArray.size]) B2.out.size).mono ?_; rintro e W3 ⟨rfl, hi, hb, -⟩; have I3 := Aside0.mk (show Lib.IsBuilderF 78 5 w.heap.size g (Lib.byteCells [91]) W3 from .inr hi); have B3 := Aside0.mk (B2.out.trans hb); clear hi hb)
 go_loopw [16] (fun i wr => ∃ (x : Int) (s : List UInt8), 0 ≤ x ∧ x ≤ (l0.length : Int) ∧ i = .int .i64 x ∧ Aside0 (Lib.IsBuilderF 78 5 w.heap.size g (Lib.byteCells s) wr) ∧ Aside0 (Below w.heap.size w wr) ∧ Aside0 (runes_Text.loop (l0.drop x.toNat) s = some S)) (fun i _ => l0.length - (intOf i).toNat)
 case atStart => exact ⟨0, _, Z21, Z21, rfl, I3, B3, L1⟩
 case round =>
  clear I2 B2 I3 B3 L1
  obtain ⟨x, s, hx0, hx1, rfl, HI, HB, HL⟩ := hrel
  by_cases hlt : x < (l0.length : Int)
  ·obtain ⟨ad, e0, h0, h1⟩ := at_T36 (Kd.C_below HR0.out HB.out) x hx0 hlt
   obtain rfl := e0
   have hd : l0.drop x.toNat = rd_T36 l0 x :: l0.drop (x + 1).toNat := by
    have hl : x.toNat < l0.length := by omega
    rw [List.drop_eq_getElem_cons hl, show (x + 1).toNat = x.toNat + 1 from by omega]
    congr 1
    unfold rd_T36
    rw [List.getD_eq_getElem?_getD, List.getElem?_eq_getElem hl]
    rfl
   have hl := HL.out
   clear HL
   rw [hd] at hl
   clear hd
   obtain ⟨⟨t0, t1⟩, ht⟩ : ∃ t, rd_T36 l0 x = t := ⟨_, rfl⟩
   rw [ht] at hl h0 h1
   clear ht
   unfold runes_Text.loop at hl
   dsimp only at hl h0 h1
   have hw : wrap64 (x + 1) = x + 1 := by unfold wrap64; have := HR0.out.2.1; omega
   have hw := Aside0.mk hw
   have hlb : decide (x < (l0.length : Int)) = true := decide_eq_true hlt
   by_cases d1 : s.length ≤ 1000000000
   rotate_left
   ·rw [if_neg d1] at hl; exact absurd hl Z25
   rw [if_pos d1] at hl
   obtain ⟨a, E1, hl⟩ := Option.bind_eq_some_iff.mp hl
   replace E1 := Aside0.mk E1
   by_cases d2 : a.size ≤ 1000
   rotate_left
   ·rw [if_neg d2] at hl; exact absurd hl Z25
   rw [if_pos d2] at hl
   have hl := Aside0.mk hl
   have d1 := Aside0.mk d1
   have d2 := Aside0.mk d2
   have hbx := (Below.refl wr.heap.size wr).alloc (Nat.le_refl _) (.cells #[.int .i32 t0, .int .i32 t1] 36)
   have HIX := Aside0.mk (runes_Text.kept HI.out hbx)
   have HBX := Aside0.mk (HB.out.trans (hbx.mono HB.out.size))
   have hgq : g < wr.heap.size := HI.out.elim (·.lt) (·.lt)
   clear hbx HI
   have BT := Aside0.mk (blk_new wr (.cells #[.int .i32 t0, .int .i32 t1] 36))
   go_upto_region 9 with (fail)
   generalize wr.alloc (.cells #[.int .i32 t0, .int .i32 t1] 36) = wx at HIX HBX BT ⊢
   generalize hq : wr.heap.size = q at BT hgq ⊢
   have ct0 := (blk_cell BT.out 0).trans rfl
   have ct1 := (blk_cell BT.out 1).trans rfl
   clear h0 h1
   have OK4 : ∀ {w1 w2 : World}, w1.heap[q]? = some (.cells #[.int .i32 t0, .int .i32 t1] 36 (0, 0)) → Lib.OthersKept 5 (some g) w1 w2 → w2.heap[q]? = some (.cells #[.int .i32 t0, .int .i32 t1] 36 (0, 0)) := fun h1 h2 => h2 q _ h1 (by simp; omega) (by rintro c fz h; simp at h)
   go_upto_region 10 with (first | (go_at_call 56; refine (runes_one.calls E1.out).mono ?_; rintro e w' ⟨rfl, ⟨nd, rfl⟩⟩) | (go_at_call 55; refine (Tryd.Builder_WriteString w.heap.size g _ a (wx.drewN nd) (show Lib.IsBuilderF 78 5 w.heap.size g (Lib.byteCells s) (wx.drewN nd) from HIX.out) (by rw [Lib.byteCells_length]; have := d1.out; have := d2.out; omega) HBX.out.size).mono ?_; rintro e W4 ⟨rfl, hi, hb, hk⟩; have I4 := Aside0.mk (show Lib.IsBuilderF 78 5 w.heap.size g (Lib.byteCells (s ++ a.data.toList)) W4 from .inr (by rw [← runes_Text.bcat]; exact hi)); have B4 := Aside0.mk (HBX.out.trans (show Below w.heap.size wx W4 from ⟨hb.os, hb.tape, hb.output, hb.size, hb.block⟩)); have BT4 := Aside0.mk (OK4 (show (wx.drewN nd).heap[q]? = _ from BT.out) hk); clear hi hb hk))
   have cu0 := (blk_cell BT4.out 0).trans rfl
   have cu1 := (blk_cell BT4.out 1).trans rfl
   clear HIX HBX BT ct0 ct1
   by_cases d3 : t1 = t0
   ·have hl' := hl.out
    rw [if_pos d3] at hl'
    have hl := Aside0.mk hl'
    clear hl'
    have d3b : (t1 != t0) = false := bne_eq_false_iff_eq.mpr d3
    clear d3
    go_wp2
    go_roundw
    case rel => exact ⟨x + 1, _, Z21, Z21, by rw [hw.out], I4, B4, hl⟩
    case measure => simp [intOf]; omega
   ·have hl' := hl.out
    rw [if_neg d3] at hl'
    obtain ⟨b, E2, hl'⟩ := Option.bind_eq_some_iff.mp hl'
    replace E2 := Aside0.mk E2
    by_cases d4 : b.size ≤ 1000
    rotate_left
    ·rw [if_neg d4] at hl'; exact absurd hl' Z25
    rw [if_pos d4] at hl'
    have hl := Aside0.mk hl'
    clear hl'
    have d3b : (t1 != t0) = true := bne_iff_ne.mpr d3
    clear d3
    go_wp2_with (first | (go_at_call 56; refine (runes_one.calls E2.out).mono ?_; rintro e w' ⟨rfl, ⟨ne, rfl⟩⟩) | (go_at_call 55; have hi4 : Lib.IsBuilderF 78 5 w.heap.size g (Lib.byteCells (s ++ a.data.toList)) (W4.drewN ne) := I4.out; refine Calls.mono (Tryd.Builder_WriteString w.heap.size g _ _ (W4.drewN ne) hi4 ?hz B4.out.size) ?_; (case hz => rw [Lib.byteCells_length, List.length_append, ByteArray.size_append]; have e1 : a.data.toList.length = a.size := rfl; have e2 : (⟨#[45]⟩ : ByteArray).size = 1 := rfl; have := d1.out; have := d2.out; omega); rintro e W5 ⟨rfl, hi, hb, -⟩; have I5 := Aside0.mk (runes_Text.step hi); have B5 := Aside0.mk (B4.out.trans (show Below w.heap.size W4 W5 from ⟨hb.os, hb.tape, hb.output, hb.size, hb.block⟩)); clear hi hi4 hb))
    go_roundw
    case rel => exact ⟨x + 1, _, Z21, Z21, by rw [hw.out], I5, B5, hl⟩
    case measure => simp [intOf]; omega
  ·have hlb : decide (x < (l0.length : Int)) = false := decide_eq_false hlt
   have hx : x = l0.length := by omega
   have hl := HL.out
   rw [List.drop_eq_nil_of_le Z21] at hl
   obtain rfl := Option.some.inj hl
   clear hl HL
   go_wp2_with (first | (go_at_call 55; refine (Tryd.Builder_WriteString w.heap.size g _ ⟨#[93]⟩ wr HI.out (by rw [Lib.byteCells_length]; have := c2.out; simp [ByteArray.size]; omega) HB.out.size).mono ?_; rintro e W3 ⟨rfl, hi, hb, -⟩; have I3 := Aside0.mk (show Lib.IsBuilderF 78 5 w.heap.size g (Lib.byteCells (s ++ (⟨#[93]⟩ : ByteArray).data.toList)) W3 from .inr (by rw [← runes_Text.bcat]; exact hi)); have B3 := Aside0.mk (HB.out.trans hb); clear hi hb) | (go_at_call 57; refine (Tryd.Builder_String_any w.heap.size g _ W3 I3.out B3.out.size).mono ?_; rintro e W4 ⟨rfl, hb⟩; have B4 := Aside0.mk (B3.out.trans hb); clear hb))
   go_ret2
   exact ⟨rfl, B4.out⟩
end Go.Proofs.YtfnkboilepgmoaaDoor.R
