import Derived.Test.YtaccleilcdfapaaGreatQPre
namespace Go.Proofs.YtaccleilcdfapaaGreat.G
open Go.RowKit Go.Proofs.YtaccleilcdfapaaGreatW.PrintWords Go.Proofs.YtaccleilcdfapaaGreatW.PrintLast Go.Proofs.YtaccleilcdfapaaGreatW.PrintMore
attribute [local go_sem] dH dF dR dQ da cZ dG dE
set_option linter.unusedVariables false
set_option maxHeartbeats 8000000
set_option maxRecDepth 100000
set_option linter.unusedSimpArgs false
def av.ord : List S51 → List S51 → Int
 | x :: a, y :: b => if x.f0 < y.f0 then -1 else if x.f0 > y.f0 then 1 else if x.f1 < y.f1 then -1 else if x.f1 > y.f1 then 1 else av.ord a b
 | [], _ :: _ => -1
 | _ :: _, [] => 1
 | [], [] => 0
def av.f (l0 l1 : List S51) : Option Int := some (av.ord l0 l1)
theorem av.drops (l : List S51) (x : Int) (h0 : 0 ≤ x) (h : x < (l.length : Int)) : l.drop x.toNat = aA l x :: l.drop (x + 1).toNat := by
 have hl : x.toNat < l.length := by omega
 rw [List.drop_eq_getElem_cons hl, show (x + 1).toNat = x.toNat + 1 from by omega]
 congr 1
 unfold aA
 rw [List.getD_eq_getElem?_getD, List.getElem?_eq_getElem hl]
 rfl
theorem av.calls (A0 : Option Addr) (c0 : Nat) (l0 : List (S51)) (A1 : Option Addr) (c1 : Nat) (l1 : List (S51)) (r : Int) (w : World) (hr0 : Kd.C k51 w A0 l0.length l0) (hc0 : l0.length ≤ c0) (hr1 : Kd.C k51 w A1 l1.length l1) (hc1 : l1.length ≤ c1) (h : av.f l0 l1 = some r) :
  Calls Tryz.prog 23 #[.slice A0 l0.length c0, .slice A1 l1.length c1] w fun e w' => e = .returned (.int .i64 r) ∧ Below w.heap.size w w' := by
 have HR0 := gz hr0
 have HR1 := gz hr1
 clear hr0 hc0 hr1 hc1
 have HB := gz (Below.refl w.heap.size w)
 have HL := gz (show av.ord (l0.drop (0 : Int).toNat) (l1.drop (0 : Int).toNat) = r from Option.some.inj h)
 clear h
 go_enter Tryz.func23, Tryz.ntmps23
 go_wp2
 repeat (go_quiet (fail); try go_wp2)
 go_loopw [5] (fun i wr => ∃ (x : Int), 0 ≤ x ∧ x ≤ (l0.length : Int) ∧ x ≤ (l1.length : Int) ∧ i = .int .i64 x ∧ aa (Below w.heap.size w wr) ∧ aa (av.ord (l0.drop x.toNat) (l1.drop x.toNat) = r)) (fun i _ => l0.length - (intOf i).toNat)
 case atStart => exact ⟨0, Z8, Z8, Z8, rfl, HB, HL⟩
 case round =>
  clear HB HL
  obtain ⟨x, hx0, hx1, hx2, rfl, HB, HL⟩ := hrel
  have hl := HL.out
  clear HL
  by_cases hlt : x < (l0.length : Int)
  ·have d1 : decide (x < (l0.length : Int)) = true := decide_eq_true hlt
   by_cases hlu : x < (l1.length : Int)
   ·have d2 : decide (x < (l1.length : Int)) = true := decide_eq_true hlu
    rw [av.drops l0 x hx0 hlt, av.drops l1 x hx0 hlu] at hl
    obtain ⟨ad, e0, h0, h1⟩ := cI (Kd.C_below HR0.out HB.out) x hx0 hlt
    obtain ⟨be, e1, g0, g1⟩ := cI (Kd.C_below HR1.out HB.out) x hx0 hlu
    cases e0
    cases e1
    obtain ⟨⟨t0, t1⟩, ht⟩ : ∃ t, aA l0 x = t := ⟨_, rfl⟩
    obtain ⟨⟨s0, s1⟩, hs⟩ : ∃ t, aA l1 x = t := ⟨_, rfl⟩
    rw [ht] at hl h0 h1
    rw [hs] at hl g0 g1
    clear ht hs
    unfold av.ord at hl
    dsimp only at hl h0 h1 g0 g1
    have hw : wrap64 (x + 1) = x + 1 := by unfold wrap64; have := HR0.out.2.1; omega
    have hw := gz hw
    have hl := gz hl
    have p0 := eq_true hx0
    have q0 := eq_true hlt
    have q1 := eq_true hlu
    have n0 := World.new_ne wr _ h0
    have n1 := World.new_ne wr _ h1
    have n2 := World.new_ne wr _ g0
    have n3 := World.new_ne wr _ g1
    go_wp2_with fail
    go_region_held3 (fun w' => w'.cell? (ad.add (x.toNat * 2)) = some (.int .i32 t0) ∧ w'.cell? { block := (ad.add (x.toNat * 2)).block, off := (ad.add (x.toNat * 2)).off + 1 } = some (.int .i32 t1) ∧ w'.cell? (be.add (x.toNat * 2)) = some (.int .i32 s0) ∧ w'.cell? { block := (be.add (x.toNat * 2)).block, off := (be.add (x.toNat * 2)).off + 1 } = some (.int .i32 s1)) (go_keep) (fail)
    have HBX := gz (show Below w.heap.size w (wr.alloc (.cells #[.int .i32 t0, .int .i32 s0, .int .i32 t1, .int .i32 s1] 52)).drew from by repeat (first | exact HB.out | apply ak | apply aX))
    have BT := gz (show (wr.alloc (.cells #[.int .i32 t0, .int .i32 s0, .int .i32 t1, .int .i32 s1] 52)).drew.heap[wr.heap.size]? = some (.cells #[.int .i32 t0, .int .i32 s0, .int .i32 t1, .int .i32 s1] 52 (0, 0)) from a8 wr (.cells #[.int .i32 t0, .int .i32 s0, .int .i32 t1, .int .i32 s1] 52))
    clear n0 n1 n2 n3 h0 h1 g0 g1
    generalize (wr.alloc (.cells #[.int .i32 t0, .int .i32 s0, .int .i32 t1, .int .i32 s1] 52)).drew = wx at HBX BT ⊢
    generalize wr.heap.size = q at BT ⊢
    have ct0 := (ah BT.out 0).trans rfl
    have ct1 := (ah BT.out 1).trans rfl
    have ct2 := (ah BT.out 2).trans rfl
    have ct3 := (ah BT.out 3).trans rfl
    go_wp2
    go_loopw [7] (fun i wy => ∃ (j : Int), i = .int .i64 j ∧ aa (j = 0 ∨ (j = 2 ∧ t0 = s0) ∨ (j = 4 ∧ t0 = s0 ∧ t1 = s1)) ∧ Drawn0 wx wy) (fun i _ => 4 - (intOf i).toNat)
    case atStart => exact ⟨0, rfl, ⟨.inl rfl⟩, Drawn0.refl _⟩
    case round =>
     obtain ⟨j, rfl, HJ, ⟨nj, rfl⟩⟩ := hrel
     rcases HJ.out with rfl | ⟨rfl, rfl⟩ | ⟨rfl, rfl, rfl⟩
     ·clear HJ
      by_cases e1 : t0 < s0
      ·have f1 : decide (t0 < s0) = true := decide_eq_true e1
       have hr := hl.out
       rw [if_pos e1] at hr
       subst hr
       go_wp2
       repeat (go_quiet (fail); try go_wp2)
       go_ret
       exact ⟨rfl, Z25⟩
      ·have f1 : decide (t0 < s0) = false := decide_eq_false e1
       by_cases e2 : s0 < t0
       ·have f2 : decide (s0 < t0) = true := decide_eq_true e2
        have hr := hl.out
        rw [if_neg e1, if_pos e2] at hr
        subst hr
        go_wp2
        repeat (go_quiet (fail); try go_wp2)
        go_ret
        exact ⟨rfl, Z25⟩
       ·have f2 : decide (s0 < t0) = false := decide_eq_false e2
        obtain rfl : t0 = s0 := by omega
        go_wp2
        repeat (go_quiet (fail); try go_wp2)
        go_roundw
        case rel => exact ⟨2, rfl, ⟨Z24⟩, Z6⟩
        case measure => simp [intOf]
     ·clear HJ
      by_cases e1 : t1 < s1
      ·have f1 : decide (t1 < s1) = true := decide_eq_true e1
       have hr := hl.out
       rw [if_neg (Int.lt_irrefl _), if_neg (Int.lt_irrefl _), if_pos e1] at hr
       subst hr
       go_wp2
       repeat (go_quiet (fail); try go_wp2)
       go_ret
       exact ⟨rfl, Z25⟩
      ·have f1 : decide (t1 < s1) = false := decide_eq_false e1
       by_cases e2 : s1 < t1
       ·have f2 : decide (s1 < t1) = true := decide_eq_true e2
        have hr := hl.out
        rw [if_neg (Int.lt_irrefl _), if_neg (Int.lt_irrefl _), if_neg e1, if_pos e2] at hr
        subst hr
        go_wp2
        repeat (go_quiet (fail); try go_wp2)
        go_ret
        exact ⟨rfl, Z25⟩
       ·have f2 : decide (s1 < t1) = false := decide_eq_false e2
        obtain rfl : t1 = s1 := by omega
        go_wp2
        repeat (go_quiet (fail); try go_wp2)
        go_roundw
        case rel => exact ⟨4, rfl, ⟨Z24⟩, Z6⟩
        case measure => simp [intOf]
     ·clear HJ
      have hr := hl.out
      rw [if_neg (Int.lt_irrefl _), if_neg (Int.lt_irrefl _), if_neg (Int.lt_irrefl _), if_neg (Int.lt_irrefl _)] at hr
      have hr := gz hr
      go_wp2
      go_roundw
      case rel => exact ⟨x + 1, Z8, Z8, Z8, by rw [hw.out], ⟨Z25⟩, hr⟩
      case measure => simp [intOf]; omega
   ·have d2 : decide (x < (l1.length : Int)) = false := decide_eq_false hlu
    have hxb : x = (l1.length : Int) := by omega
    have d3 : decide ((l0.length : Int) < (l1.length : Int)) = false := decide_eq_false Z8
    have d4 : decide ((l1.length : Int) < (l0.length : Int)) = true := decide_eq_true Z8
    rw [av.drops l0 x hx0 hlt, List.drop_eq_nil_of_le (show l1.length ≤ x.toNat by omega)] at hl
    unfold av.ord at hl
    subst hl
    go_wp2
    go_ret
    exact ⟨rfl, HB.out⟩
  ·have d1 : decide (x < (l0.length : Int)) = false := decide_eq_false hlt
   rw [List.drop_eq_nil_of_le (show l0.length ≤ x.toNat by omega)] at hl
   by_cases hlu : x < (l1.length : Int)
   ·have d3 : decide ((l0.length : Int) < (l1.length : Int)) = true := decide_eq_true Z8
    rw [av.drops l1 x hx0 hlu] at hl
    unfold av.ord at hl
    subst hl
    go_wp2
    go_ret
    exact ⟨rfl, HB.out⟩
   ·have d3 : decide ((l0.length : Int) < (l1.length : Int)) = false := decide_eq_false Z8
    have d4 : decide ((l1.length : Int) < (l0.length : Int)) = false := decide_eq_false Z8
    rw [List.drop_eq_nil_of_le (show l1.length ≤ x.toNat by omega)] at hl
    unfold av.ord at hl
    subst hl
    go_wp2
    go_ret
    exact ⟨rfl, HB.out⟩
mutual
def aj.l0 : Nat → Int → Int → List (S51) → List (S25) → Int → List (S51) → List (S25) → Option (Int)
 | 0, _, _, _, _, _, _, _ => none
 | k + 1, x6, x102000, x102001, x102002, x103000, x103001, x103002 => if x6 < (x102002.length : Int) then (aj.j1 k x6 (decide (x6 < (x103002.length : Int))) x102000 x102001 x102002 x103000 x103001 x103002) else (aj.j1 k x6 false x102000 x102001 x102002 x103000 x103001 x103002)
def aj.j1 : Nat → Int → Bool → Int → List (S51) → List (S25) → Int → List (S51) → List (S25) → Option (Int)
 | 0, _, _, _, _, _, _, _, _ => none
 | k + 1, x6, x37, x102000, x102001, x102002, x103000, x103001, x103002 => if x37 = true then (if 0 ≤ x6 then (if x6 < (x102002.length : Int) then (if x6 < (x103002.length : Int) then ((aj.f k ((an x102002 x6).f0) ((an x102002 x6).f1) ((an x102002 x6).f2) ((an x103002 x6).f0) ((an x103002 x6).f1) ((an x103002 x6).f2)).bind fun t106 => (if t106 = 0 then (aj.l0 k (wrap64 (x6 + 1)) x102000 x102001 x102002 x103000 x103001 x103002) else (some t106))) else (none)) else (none)) else (none)) else (if (x102002.length : Int) < (x103002.length : Int) then (some (-1)) else (if (x102002.length : Int) > (x103002.length : Int) then (some 1) else (some 0)))
def aj.f : Nat → Int → List (S51) → List (S25) → Int → List (S51) → List (S25) → Option (Int)
 | 0, _, _, _, _, _, _ => none
 | k + 1, a0_0, l0_1, l0_2, a1_0, l1_1, l1_2 => if a0_0 < a1_0 then (some (-1)) else (if a0_0 > a1_0 then (some 1) else ((av.f l0_1 l1_1).bind fun t103 => (if t103 = 0 then (aj.l0 k 0 a0_0 l0_1 l0_2 a1_0 l1_1 l1_2) else (some t103))))
end
theorem aj.mono_l : ∀ k, (∀ y0 y1 y2 y3 y4 y5, LeO (aj.f k y0 y1 y2 y3 y4 y5) (aj.f (k + 1) y0 y1 y2 y3 y4 y5)) ∧ (∀ y0 y1 y2 y3 y4 y5 y6, LeO (aj.l0 k y0 y1 y2 y3 y4 y5 y6) (aj.l0 (k + 1) y0 y1 y2 y3 y4 y5 y6)) ∧ (∀ y0 y1 y2 y3 y4 y5 y6 y7, LeO (aj.j1 k y0 y1 y2 y3 y4 y5 y6 y7) (aj.j1 (k + 1) y0 y1 y2 y3 y4 y5 y6 y7))
 | 0 => ⟨fun _ _ _ _ _ _ r h => by simp [aj.f] at h, fun _ _ _ _ _ _ _ r h => by simp [aj.l0] at h, fun _ _ _ _ _ _ _ _ r h => by simp [aj.j1] at h⟩
 | k + 1 => by
  obtain ⟨ih0, ih1, ih2⟩ := aj.mono_l k
  refine ⟨?_, ?_, ?_⟩
  ·intro y0 y1 y2 y3 y4 y5
   unfold aj.f
   exact mO
  ·intro y0 y1 y2 y3 y4 y5 y6
   unfold aj.l0
   exact mO
  ·intro y0 y1 y2 y3 y4 y5 y6 y7
   unfold aj.j1
   exact mO
theorem aj.mono : ∀ a0 a1 a2 a3 a4 a5 k, LeO (aj.f k a0 a1 a2 a3 a4 a5) (aj.f (k + 1) a0 a1 a2 a3 a4 a5) := by
 intro a0 a1 a2 a3 a4 a5 k
 obtain ⟨ih0, ih1, ih2⟩ := aj.mono_l k
 exact ih0 a0 a1 a2 a3 a4 a5
theorem aj.calls (k : Nat) : ∀ (a0_0 : Int) (A0_1 : Option Addr) (c0_1 : Nat) (l0_1 : List (S51)) (A0_2 : Option Addr) (c0_2 : Nat) (l0_2 : List (S25)) (a1_0 : Int) (A1_1 : Option Addr) (c1_1 : Nat) (l1_1 : List (S51)) (A1_2 : Option Addr) (c1_2 : Nat) (l1_2 : List (S25)) (r : Int) (w : World) (hr0_1 : Kd.C k51 w A0_1 l0_1.length l0_1) (hc0_1 : l0_1.length ≤ c0_1) (hr0_2 : Kd.C k25 w A0_2 l0_2.length l0_2) (hc0_2 : l0_2.length ≤ c0_2) (hr1_1 : Kd.C k51 w A1_1 l1_1.length l1_1) (hc1_1 : l1_1.length ≤ c1_1) (hr1_2 : Kd.C k25 w A1_2 l1_2.length l1_2) (hc1_2 : l1_2.length ≤ c1_2) (h : aj.f k a0_0 l0_1 l0_2 a1_0 l1_1 l1_2 = some r),
  Calls Tryz.prog 7 #[.agg #[.int .i64 a0_0, .slice A0_1 l0_1.length c0_1, .slice A0_2 l0_2.length c0_2], .agg #[.int .i64 a1_0, .slice A1_1 l1_1.length c1_1, .slice A1_2 l1_2.length c1_2]] w fun e w' => e = .returned (.int .i64 r) ∧ Below w.heap.size w w' := by
 induction k using Nat.strongRecOn with
 | _ k ih =>
 intro a0_0 A0_1 c0_1 l0_1 A0_2 c0_2 l0_2 a1_0 A1_1 c1_1 l1_1 A1_2 c1_2 l1_2 r w hr0_1 hc0_1 hr0_2 hc0_2 hr1_1 hc1_1 hr1_2 hc1_2 h
 cases k with
 | zero => exact absurd h (by simp [aj.f])
 | succ k =>
 simp only [aj.f] at h
 have hu25 := Tryz.underlying25
 have H1 := cV51 hr0_1 hc0_1
 have H2 := cV25 hr0_2 hc0_2
 have H3 := cV51 hr1_1 hc1_1
 have H4 := cV25 hr1_2 hc1_2
 clear hr0_1 hc0_1 hr0_2 hc0_2 hr1_1 hc1_1 hr1_2 hc1_2
 replace h := gz h
 go_enter Tryz.func7, Tryz.ntmps7
 go_upto_region 1 with (fail)
 have hh := hd w (bx a0_0 A0_1 l0_1 c0_1 A0_2 l0_2 c0_2) (bx a1_0 A1_1 l1_1 c1_1 A1_2 l1_2 c1_2)
 generalize (w.alloc (bx a0_0 A0_1 l0_1 c0_1 A0_2 l0_2 c0_2)).alloc (bx a1_0 A1_1 l1_1 c1_1 A1_2 l1_2 c1_2) = X at hh ⊢
 obtain ⟨HB, B0, B1, _⟩ := hh
 have p := b3 B0.out
 have q := b3 B1.out
 replace h := h.out
 by_cases c : a0_0 < a1_0
 ·rw [if_pos c] at h
  obtain rfl := Option.some.inj h
  have d := decide_eq_true c
  go_wp2
  go_ret
  exact ⟨rfl, HB.out⟩
 rw [if_neg c] at h
 have d := decide_eq_false c
 by_cases c' : a0_0 > a1_0
 ·rw [if_pos c'] at h
  obtain rfl := Option.some.inj h
  have d' := decide_eq_true c'
  go_wp2
  go_ret
  exact ⟨rfl, HB.out⟩
 rw [if_neg c'] at h
 have d' := decide_eq_false c'
 obtain ⟨t, A, h⟩ := cC h
 replace h := gz h
 go_wp2_with fail
 refine (av.calls _ _ l0_1 _ _ l1_1 t _ (vC H1) (vL H1) (vC H3) (vL H3) A).mono ?_
 rintro ee X1 ⟨rfl, hb⟩
 replace HB := dP HB hb
 replace B0 := dO B0 hb
 replace B1 := dO B1 hb
 clear hb p q A
 have p := b3 B0.out
 have q := b3 B1.out
 replace h := h.out
 by_cases ct : t = 0
 case neg =>
  rw [if_neg ct] at h
  obtain rfl := Option.some.inj h
  have dt := e4 ct
  go_wp2
  go_ret
  exact ⟨rfl, HB.out⟩
 rw [if_pos ct] at h
 have dt := e2 ct
 replace h := gz h
 go_wp2
 go_loopg [6] k (fun kq v6 wr => ∃ (i : Int), v6 = .int .i64 i ∧ aa (aj.l0 kq i a0_0 l0_1 l0_2 a1_0 l1_1 l1_2 = some r) ∧ aa (kq ≤ k) ∧ aa (Below w.heap.size w wr) ∧ aa (wr.heap[w.heap.size]? = some (bx a0_0 A0_1 l0_1 c0_1 A0_2 l0_2 c0_2)) ∧ aa (wr.heap[w.heap.size + 1]? = some (bx a1_0 A1_1 l1_1 c1_1 A1_2 l1_2 c1_2)))
 case atStart => exact ⟨0, rfl, h, ⟨Nat.le_refl _⟩, HB, B0, B1⟩
 case round =>
  clear h HB B0 B1 p q c d c' d' ct dt
  obtain ⟨i, rfl, HA, HK, HB, B0, B1⟩ := hrel
  cases gk with
  | zero => exact absurd HA.out (by simp [aj.l0])
  | succ k1 =>
  have h := HA.out
  clear HA
  simp only [aj.l0] at h
  have p := b3 B0.out
  have q := b3 B1.out
  by_cases c : i < (l0_2.length : Int)
  ·rw [if_pos c] at h
   have d := decide_eq_true c
   cases k1 with
   | zero => exact absurd h (by simp [aj.j1])
   | succ k2 =>
   simp only [aj.j1, decide_eq_true_eq] at h
   by_cases c' : i < (l1_2.length : Int)
   ·have d' := decide_eq_true c'
    by_cases c0 : 0 ≤ i
    ·rw [if_pos c', if_pos c0, if_pos c, if_pos c'] at h
     obtain ⟨t, A, h⟩ := cC h
     obtain ⟨ad, X1, x1, X2, x2, e0, g0, g1, g2, F1, F2⟩ := V_el (vO H2 HB.out) i c0 c
     cases e0
     obtain ⟨bd, Y1, y1, Y2, y2, e0, k0, k1', k2', F3, F4⟩ := V_el (vO H4 HB.out) i c0 c'
     cases e0
     generalize an l0_2 i = s at A g0 g1 g2 F1 F2
     generalize an l1_2 i = s' at A k0 k1' k2' F3 F4
     obtain ⟨t0, t1, t2⟩ := s
     obtain ⟨u0, u1, u2⟩ := s'
     dsimp only at A g0 g1 g2 k0 k1' k2' F1 F2 F3 F4
     replace h := gz h
     have A := gz A
     go_wp2_with fail
     go_region_held3 (fun w' => w'.cell? ⟨w.heap.size, 2, none⟩ = some (.slice (some ad) l0_2.length c0_2) ∧ w'.cell? ⟨w.heap.size + 1, 2, none⟩ = some (.slice (some bd) l1_2.length c1_2) ∧ w'.cell? (ad.add (i.toNat * 3)) = some (.int .i64 t0) ∧ w'.cell? ⟨(ad.add (i.toNat * 3)).block, (ad.add (i.toNat * 3)).off + 1, none⟩ = some (.slice X1 t1.length x1) ∧ w'.cell? ⟨(ad.add (i.toNat * 3)).block, (ad.add (i.toNat * 3)).off + 2, none⟩ = some (.slice X2 t2.length x2) ∧ w'.cell? (bd.add (i.toNat * 3)) = some (.int .i64 u0) ∧ w'.cell? ⟨(bd.add (i.toNat * 3)).block, (bd.add (i.toNat * 3)).off + 1, none⟩ = some (.slice Y1 u1.length y1) ∧ w'.cell? ⟨(bd.add (i.toNat * 3)).block, (bd.add (i.toNat * 3)).off + 2, none⟩ = some (.slice Y2 u2.length y2)) (go_keep) ((go_at_call 7; refine (ih k2 Z20 t0 X1 x1 t1 X2 x2 t2 u0 Y1 y1 u1 Y2 y2 u2 t _ (vC F1) (vL F1) (vC F2) (vL F2) (vC F3) (vL F3) (vC F4) (vL F4) A.out).mono ?_; rintro ee w1 ⟨rfl, hb⟩; have f0 := (hb.cell (World.block_lt_of_cell? _ _ (p.2.2.1))).trans (p.2.2.1); have f1 := (hb.cell (World.block_lt_of_cell? _ _ (q.2.2.1))).trans (q.2.2.1); have f2 := (hb.cell (World.block_lt_of_cell? _ _ (g0))).trans (g0); have f3 := (hb.cell (World.block_lt_of_cell? _ _ (g1))).trans (g1); have f4 := (hb.cell (World.block_lt_of_cell? _ _ (g2))).trans (g2); have f5 := (hb.cell (World.block_lt_of_cell? _ _ (k0))).trans (k0); have f6 := (hb.cell (World.block_lt_of_cell? _ _ (k1'))).trans (k1'); have f7 := (hb.cell (World.block_lt_of_cell? _ _ (k2'))).trans (k2')))
     replace HB := dP HB (ai (aX (Below.refl _ _)) hb)
     replace B0 := dO B0 (ai (aX (Below.refl _ _)) hb)
     replace B1 := dO B1 (ai (aX (Below.refl _ _)) hb)
     replace h := h.out
     by_cases ct : t = 0
     ·rw [if_pos ct] at h
      have dt := e2 ct
      replace h := gz h
      go_wp2
      go_roundg k2
      case measure => have := HK.out; omega
      case rel => exact ⟨wrap64 (i + 1), rfl, h, ⟨Z20⟩, HB, B0, B1⟩
     ·rw [if_neg ct] at h
      obtain rfl := Option.some.inj h
      have dt := e4 ct
      go_wp2
      go_ret
      exact ⟨rfl, HB.out⟩
    ·rw [if_pos c', if_neg c0] at h
     cases h
   ·rw [if_neg c'] at h
    have d' := decide_eq_false c'
    rw [if_neg (show ¬ (l0_2.length : Int) < (l1_2.length : Int) by omega), if_pos (show (l0_2.length : Int) > (l1_2.length : Int) by omega)] at h
    obtain rfl := Option.some.inj h
    have d1 := decide_eq_false (show ¬ l0_2.length < l1_2.length by omega)
    have d2 := decide_eq_true (show l1_2.length < l0_2.length by omega)
    go_wp2
    go_ret
    exact ⟨rfl, HB.out⟩
  ·rw [if_neg c] at h
   have d := decide_eq_false c
   cases k1 with
   | zero => exact absurd h (by simp [aj.j1])
   | succ k2 =>
   simp only [aj.j1, if_neg (show ¬ false = true by decide)] at h
   by_cases e1' : (l0_2.length : Int) < (l1_2.length : Int)
   ·rw [if_pos e1'] at h
    obtain rfl := Option.some.inj h
    have d1 := decide_eq_true (show l0_2.length < l1_2.length by omega)
    go_wp2
    go_ret
    exact ⟨rfl, HB.out⟩
   ·rw [if_neg e1'] at h
    have d1 := decide_eq_false (show ¬ l0_2.length < l1_2.length by omega)
    by_cases e2' : (l0_2.length : Int) > (l1_2.length : Int)
    ·rw [if_pos e2'] at h
     obtain rfl := Option.some.inj h
     have d2 := decide_eq_true (show l1_2.length < l0_2.length by omega)
     go_wp2
     go_ret
     exact ⟨rfl, HB.out⟩
    ·rw [if_neg e2'] at h
     obtain rfl := Option.some.inj h
     have d2 := decide_eq_false (show ¬ l1_2.length < l0_2.length by omega)
     go_wp2
     go_ret
     exact ⟨rfl, HB.out⟩
def bO.f (k : Nat) (a0_0 : Int) (l0_1 : List (S51)) (l0_2 : List (S25)) (a1_0 : Int) (l1_1 : List (S51)) (l1_2 : List (S25)) : Option (Bool) := (aj.f k a0_0 l0_1 l0_2 a1_0 l1_1 l1_2).bind fun t109 => (some (t109 == 0))
theorem bO.mono : ∀ a0 a1 a2 a3 a4 a5 k, LeO (bO.f k a0 a1 a2 a3 a4 a5) (bO.f (k + 1) a0 a1 a2 a3 a4 a5) := by
 intro a0 a1 a2 a3 a4 a5 k
 unfold bO.f
 have m0 := @aj.mono
 exact mO
theorem bO.calls (k : Nat) (a0_0 : Int) (A0_1 : Option Addr) (c0_1 : Nat) (l0_1 : List (S51)) (A0_2 : Option Addr) (c0_2 : Nat) (l0_2 : List (S25)) (a1_0 : Int) (A1_1 : Option Addr) (c1_1 : Nat) (l1_1 : List (S51)) (A1_2 : Option Addr) (c1_2 : Nat) (l1_2 : List (S25)) (r : Bool) (w : World) (hr0_1 : Kd.C k51 w A0_1 l0_1.length l0_1) (hc0_1 : l0_1.length ≤ c0_1) (hr0_2 : Kd.C k25 w A0_2 l0_2.length l0_2) (hc0_2 : l0_2.length ≤ c0_2) (hr1_1 : Kd.C k51 w A1_1 l1_1.length l1_1) (hc1_1 : l1_1.length ≤ c1_1) (hr1_2 : Kd.C k25 w A1_2 l1_2.length l1_2) (hc1_2 : l1_2.length ≤ c1_2) (h : bO.f k a0_0 l0_1 l0_2 a1_0 l1_1 l1_2 = some r) :
  Calls Tryz.prog 21 #[.agg #[.int .i64 a0_0, .slice A0_1 l0_1.length c0_1, .slice A0_2 l0_2.length c0_2], .agg #[.int .i64 a1_0, .slice A1_1 l1_1.length c1_1, .slice A1_2 l1_2.length c1_2]] w fun e w' => e = .returned (.bool r) ∧ Below w.heap.size w w' := by
 have hu25 := Tryz.underlying25
 have HR0_1 := gz hr0_1
 have HC0_1 := gz hc0_1
 clear hr0_1 hc0_1
 have HR0_2 := gz hr0_2
 have HC0_2 := gz hc0_2
 clear hr0_2 hc0_2
 have HR1_1 := gz hr1_1
 have HC1_1 := gz hc1_1
 clear hr1_1 hc1_1
 have HR1_2 := gz hr1_2
 have HC1_2 := gz hc1_2
 clear hr1_2 hc1_2
 have HB := gz (Below.refl w.heap.size w)
 have H : ((aj.f k a0_0 l0_1 l0_2 a1_0 l1_1 l1_2).bind fun t109 => (some (t109 == 0))) = some r := h
 clear h
 replace H := bS H
 obtain ⟨t109, A3, H⟩ := H
 try dsimp only at H
 obtain rfl := Option.some.inj H
 go_enter Tryz.func21, Tryz.ntmps21
 go_wp2_with (first | ((with_reducible refine bI (N := 2) rfl ?_); refine bQ ?hg (N := 2) ?hd (cs := #[.int .i64 a0_0, .slice A0_1 l0_1.length c0_1, .slice A0_2 l0_2.length c0_2]) (t := 25) ?hr ?_; (case hd => rfl); (case hg => rfl); (case hr => first | (go_simp; done) | (go_simp; rfl)); intro gb107 hg w4 hbox hb; have BK107 := gz (hbox); have GW107 := gE hg zB; have GE107 := gE hg zB; replace HB := gz (ai zB hb); clear hb hbox hg) | ((with_reducible refine bI (N := 3) rfl ?_); refine bQ ?hg (N := 3) ?hd (cs := #[.int .i64 a1_0, .slice A1_1 l1_1.length c1_1, .slice A1_2 l1_2.length c1_2]) (t := 25) ?hr ?_; (case hd => rfl); (case hg => rfl); (case hr => first | (go_simp; done) | (go_simp; rfl)); intro gb108 hg w5 hbox hb; have n0_ := gz (ao (g := gb107) (o := .cells #[.int .i64 a0_0, .slice A0_1 l0_1.length c0_1, .slice A0_2 l0_2.length c0_2] 25 (0, 0)) (bK BK107) hb); have n1_ := gz (ai zB hb); have n2_ := gz (hbox); have n3_ := gE hg zB; have n4_ := gE hg zB; have n5_ := gz ((by rw [hg]; exact Nat.ne_of_lt (bB (g := gb107) (o := .cells #[.int .i64 a0_0, .slice A0_1 l0_1.length c0_1, .slice A0_2 l0_2.length c0_2] 25 (0, 0)) (bK BK107)) : gb107 ≠ gb108)); have n6_ := gz ((by rw [hg]; exact Nat.ne_of_gt (bB (g := gb107) (o := .cells #[.int .i64 a0_0, .slice A0_1 l0_1.length c0_1, .slice A0_2 l0_2.length c0_2] 25 (0, 0)) (bK BK107)) : gb108 ≠ gb107)); clear BK107; clear HB; have BK107 := n0_; have HB := n1_; have BK108 := n2_; have GW108 := n3_; have GE108 := n4_; have NB107_108 := n5_; have NB108_107 := n6_; clear n0_ n1_ n2_ n3_ n4_ n5_ n6_; clear hb hbox hg; have hnb6 := NB107_108.out; have hnc6 := NB108_107.out; have hcz7_0 := bC BK107 0 (.int .i64 a0_0); have hcz7_1 := bC BK107 1 (.slice A0_1 l0_1.length c0_1); have hcz7_2 := bC BK107 2 (.slice A0_2 l0_2.length c0_2); have hfz7_0 := ag BK107.out 0; have hfz7_1 := ag BK107.out 1; have hfz7_2 := ag BK107.out 2; have hcz8_0 := bC BK108 0 (.int .i64 a1_0); have hcz8_1 := bC BK108 1 (.slice A1_1 l1_1.length c1_1); have hcz8_2 := bC BK108 2 (.slice A1_2 l1_2.length c1_2); have hfz8_0 := ag BK108.out 0; have hfz8_1 := ag BK108.out 1; have hfz8_2 := ag BK108.out 2) | ((with_reducible refine gC 7 rfl ?_); refine bl (some 7) rfl rfl Tryz.func7 Z5 rfl #[.agg #[.int .i64 a0_0, .slice A0_1 l0_1.length c0_1, .slice A0_2 l0_2.length c0_2], .agg #[.int .i64 a1_0, .slice A1_1 l1_1.length c1_1, .slice A1_2 l1_2.length c1_2]] rfl Z1 ?_; (with_reducible refine (aj.calls k a0_0 _ _ l0_1 _ _ l0_2 a1_0 _ _ l1_1 _ _ l1_2 t109 _ ?side1 ?side2 ?side3 ?side4 ?side5 ?side6 ?side7 ?side8 A3.out).mono ?_); (case side1 => repeat (first | exact (Kd.C_below HR0_1.out HB.out) | (with_reducible refine Kd.C_alloc ?_ _) | (with_reducible refine Kd.C_drewN ?_ _) | (with_reducible refine Kd.C_drew ?_))); (case side2 => exact HC0_1.out); (case side3 => repeat (first | exact (Kd.C_below HR0_2.out HB.out) | (with_reducible refine Kd.C_alloc ?_ _) | (with_reducible refine Kd.C_drewN ?_ _) | (with_reducible refine Kd.C_drew ?_))); (case side4 => exact HC0_2.out); (case side5 => repeat (first | exact (Kd.C_below HR1_1.out HB.out) | (with_reducible refine Kd.C_alloc ?_ _) | (with_reducible refine Kd.C_drewN ?_ _) | (with_reducible refine Kd.C_drew ?_))); (case side6 => exact HC1_1.out); (case side7 => repeat (first | exact (Kd.C_below HR1_2.out HB.out) | (with_reducible refine Kd.C_alloc ?_ _) | (with_reducible refine Kd.C_drewN ?_ _) | (with_reducible refine Kd.C_drew ?_))); (case side8 => exact HC1_2.out); rintro e w9 ⟨rfl, hb⟩; refine ⟨_, rfl, ?_⟩; replace BK107 := gz (ao (g := gb107) (o := .cells #[.int .i64 a0_0, .slice A0_1 l0_1.length c0_1, .slice A0_2 l0_2.length c0_2] 25 (0, 0)) (bK BK107) hb); replace BK108 := gz (ao (g := gb108) (o := .cells #[.int .i64 a1_0, .slice A1_1 l1_1.length c1_1, .slice A1_2 l1_2.length c1_2] 25 (0, 0)) (bK BK108) hb); replace HB := gz (ai zB hb); (try clear hb); (try clear hb2); (try clear hk); (try clear hi)))
 go_ret
 exact ⟨Z3, Z0⟩
mutual
def aT.l0 : Nat → Int → Int → Int → Int → List (S51) → List (S25) → Option (Int)
 | 0, _, _, _, _, _, _ => none
 | k + 1, x1, x2, x7, x111000, x111001, x111002 => if x7 < (x111002.length : Int) then (if x1 ≥ 0 then (if 0 ≤ x7 then ((aT.f k ((an x111002 x7).f0) ((an x111002 x7).f1) ((an x111002 x7).f2) x1 (wrap64 (x2 + 1))).bind fun t112 => (aT.l0 k t112 x2 (wrap64 (x7 + 1)) x111000 x111001 x111002)) else (none)) else (some x1)) else (some x1)
def aT.f : Nat → Int → List (S51) → List (S25) → Int → Int → Option (Int)
 | 0, _, _, _, _, _ => none
 | k + 1, a0_0, l0_1, l0_2, a1, a2 => if a2 > 64 then (some (-1)) else (aT.l0 k (wrap64 ((wrap64 (a1 - 1)) - (l0_1.length : Int))) a2 0 a0_0 l0_1 l0_2)
end
theorem aT.calls (k : Nat) : ∀ (a0_0 : Int) (A0_1 : Option Addr) (c0_1 : Nat) (l0_1 : List (S51)) (A0_2 : Option Addr) (c0_2 : Nat) (l0_2 : List (S25)) (a1 : Int) (a2 : Int) (r : Int) (w : World) (hr0_1 : Kd.C k51 w A0_1 l0_1.length l0_1) (hc0_1 : l0_1.length ≤ c0_1) (hr0_2 : Kd.C k25 w A0_2 l0_2.length l0_2) (hc0_2 : l0_2.length ≤ c0_2) (h : aT.f k a0_0 l0_1 l0_2 a1 a2 = some r),
  Calls Tryz.prog 61 #[.agg #[.int .i64 a0_0, .slice A0_1 l0_1.length c0_1, .slice A0_2 l0_2.length c0_2], .int .i64 a1, .int .i64 a2] w fun e w' => e = .returned (.int .i64 r) ∧ Below w.heap.size w w' := by
 induction k using Nat.strongRecOn with
 | _ k ih =>
 intro a0_0 A0_1 c0_1 l0_1 A0_2 c0_2 l0_2 a1 a2 r w hr0_1 hc0_1 hr0_2 hc0_2 h
 cases k with
 | zero => exact absurd h (by simp [aT.f])
 | succ k =>
 simp only [aT.f] at h
 have hu25 := Tryz.underlying25
 have HR0_1 := gz hr0_1
 have HC0_1 := gz hc0_1
 clear hr0_1 hc0_1
 have HR0_2 := gz hr0_2
 have HC0_2 := gz hc0_2
 clear hr0_2 hc0_2
 have HB := gz (Below.refl w.heap.size w)
 have H : (if a2 > 64 then (some (-1)) else (aT.l0 k (wrap64 ((wrap64 (a1 - 1)) - (l0_1.length : Int))) a2 0 a0_0 l0_1 l0_2)) = some r := h
 clear h
 by_cases c4 : a2 > 64
 ·rw [if_pos c4] at H
  have c4b0 : decide (64 < a2) = true := decide_eq_true c4
  clear c4
  obtain rfl := Option.some.inj H
  go_enter Tryz.func61, Tryz.ntmps61
  go_wp2_with (first | ((with_reducible refine bI (N := 3) rfl ?_); refine bQ ?hg (N := 3) ?hd (cs := #[.int .i64 a0_0, .slice A0_1 l0_1.length c0_1, .slice A0_2 l0_2.length c0_2]) (t := 25) ?hr ?_; (case hd => rfl); (case hg => rfl); (case hr => first | (go_simp; done) | (go_simp; rfl)); intro gb110 hg w5 hbox hb; have BK110 := gz (hbox); have GW110 := gE hg zB; have GE110 := gE hg zB; replace HB := gz (ai zB hb); clear hb hbox hg; have hcz6_0 := bC BK110 0 (.int .i64 a0_0); have hcz6_1 := bC BK110 1 (.slice A0_1 l0_1.length c0_1); have hcz6_2 := bC BK110 2 (.slice A0_2 l0_2.length c0_2); have hfz6_0 := ag BK110.out 0; have hfz6_1 := ag BK110.out 1; have hfz6_2 := ag BK110.out 2))
  go_ret
  exact ⟨Z3, Z0⟩
 ·rw [if_neg c4] at H
  have c4b0 : decide (64 < a2) = false := decide_eq_false c4
  clear c4
  have H' := gz H
  clear H
  go_enter Tryz.func61, Tryz.ntmps61
  go_wp2_with (first | ((with_reducible refine bI (N := 3) rfl ?_); refine bQ ?hg (N := 3) ?hd (cs := #[.int .i64 a0_0, .slice A0_1 l0_1.length c0_1, .slice A0_2 l0_2.length c0_2]) (t := 25) ?hr ?_; (case hd => rfl); (case hg => rfl); (case hr => first | (go_simp; done) | (go_simp; rfl)); intro gb110 hg w7 hbox hb; have BK110 := gz (hbox); have GW110 := gE hg zB; have GE110 := gE hg zB; replace HB := gz (ai zB hb); clear hb hbox hg; have hcz8_0 := bC BK110 0 (.int .i64 a0_0); have hcz8_1 := bC BK110 1 (.slice A0_1 l0_1.length c0_1); have hcz8_2 := bC BK110 2 (.slice A0_2 l0_2.length c0_2); have hfz8_0 := ag BK110.out 0; have hfz8_1 := ag BK110.out 1; have hfz8_2 := ag BK110.out 2))
  go_loopg [1, 7] k (fun kq v1 v7 w' => ∃ (x1_1 : Int) (x7_1 : Int), v1 = .int .i64 x1_1 ∧ v7 = .int .i64 x7_1 ∧ aa (aT.l0 kq x1_1 a2 x7_1 a0_0 l0_1 l0_2 = some r) ∧ aa (kq ≤ k) ∧ aa (w'.heap[gb110]? = some (.cells #[.int .i64 a0_0, (.slice A0_1 l0_1.length c0_1), (.slice A0_2 l0_2.length c0_2)] 25 (0, 0))) ∧ aa (Below w.heap.size w w'))
  case atStart => exact ⟨(wrap64 ((wrap64 (a1 - 1)) - (l0_1.length : Int))), (0), Z2, Z2, H', ⟨Nat.le_refl _⟩, ⟨by (with_reducible repeat (first | refine az ?_ _ | refine aI ?_ | refine au ?_ _)); exact BK110.out⟩, ⟨Z0⟩⟩
  case round =>
   clear H'
   try clear p2
   try clear c4
   try clear c4b0
   try clear c6
   try clear p6
   try clear hcz6_0
   try clear hcz6_1
   try clear hcz6_2
   try clear hcz8_0
   try clear hcz8_1
   try clear hcz8_2
   try clear hfz6_0
   try clear hfz6_1
   try clear hfz6_2
   try clear hfz8_0
   try clear hfz8_1
   try clear hfz8_2
   obtain ⟨x1_1, x7_1, rfl, rfl, HA, HK1, BK110, HB⟩ := hrel
   cases gk with
   | zero => exact absurd HA.out (by simp [aT.l0])
   | succ k1 =>
    have H := HA.out
    clear HA
    simp only [aT.l0] at H
    by_cases c9 : x7_1 < (l0_2.length : Int)
    ·rw [if_pos c9] at H
     have c9b0 := decide_eq_true c9
     clear c9
     by_cases c10 : x1_1 ≥ 0
     ·rw [if_pos c10] at H
      have c10b0 : decide (0 ≤ x1_1) = true := decide_eq_true c10
      clear c10
      by_cases c11 : 0 ≤ x7_1
      ·rw [if_pos c11] at H
       have c11b0 := decide_eq_true c11
       clear c11
       replace H := bS H
       obtain ⟨t112, A12, H⟩ := H
       try dsimp only at H
       have H' := gz H
       clear H
       have hcz13_0 := bC BK110 0 (.int .i64 a0_0)
       have hcz13_1 := bC BK110 1 (.slice A0_1 l0_1.length c0_1)
       have hcz13_2 := bC BK110 2 (.slice A0_2 l0_2.length c0_2)
       have hfz13_0 := ag BK110.out 0
       have hfz13_1 := ag BK110.out 1
       have hfz13_2 := ag BK110.out 2
       have p111 : 0 ≤ (x7_1 : Int) := of_decide_eq_true Z4
       have q111 : x7_1 < (l0_2.length : Int) := of_decide_eq_true Z4
       obtain ⟨ad111, A111_1, c111_1, A111_2, c111_2, e111, hx111_0, hx111_1, hx111_2, hl111_1, hi111_1, hl111_2, hi111_2⟩ := d8 HR0_2.out x7_1 p111 q111
       cases e111
       replace hx111_0 := (HB.out.cell (World.block_lt_of_cell? w _ hx111_0)).trans hx111_0
       replace hx111_1 := (HB.out.cell (World.block_lt_of_cell? w _ hx111_1)).trans hx111_1
       replace hx111_2 := (HB.out.cell (World.block_lt_of_cell? w _ hx111_2)).trans hx111_2
       have HR111_1 := gz hi111_1
       have HC111_1 := gz hl111_1
       clear hi111_1 hl111_1
       have HR111_2 := gz hi111_2
       have HC111_2 := gz hl111_2
       clear hi111_2 hl111_2
       replace p111 := eq_true p111
       replace q111 := eq_true q111
       go_wp2_with (first | ((with_reducible refine gC 61 rfl ?_); refine bl (some 35) rfl rfl Tryz.func61 Z5 rfl #[.agg #[.int .i64 ((an l0_2 x7_1).f0), .slice A111_1 ((an l0_2 x7_1).f1).length c111_1, .slice A111_2 ((an l0_2 x7_1).f2).length c111_2], .int .i64 x1_1, .int .i64 (wrap64 (a2 + 1))] rfl Z1 ?_; (with_reducible refine (ih k1 Z22 ((an l0_2 x7_1).f0) _ _ ((an l0_2 x7_1).f1) _ _ ((an l0_2 x7_1).f2) x1_1 (wrap64 (a2 + 1)) t112 _ ?side1 ?side2 ?side3 ?side4 A12.out).mono ?_); (case side1 => repeat (first | exact (Kd.C_below HR111_1.out HB.out) | (with_reducible refine Kd.C_alloc ?_ _) | (with_reducible refine Kd.C_drewN ?_ _) | (with_reducible refine Kd.C_drew ?_))); (case side2 => exact HC111_1.out); (case side3 => repeat (first | exact (Kd.C_below HR111_2.out HB.out) | (with_reducible refine Kd.C_alloc ?_ _) | (with_reducible refine Kd.C_drewN ?_ _) | (with_reducible refine Kd.C_drew ?_))); (case side4 => exact HC111_2.out); rintro e w14 ⟨rfl, hb⟩; refine ⟨_, rfl, ?_⟩; replace BK110 := gz (ao (g := gb110) (o := .cells #[.int .i64 a0_0, .slice A0_1 l0_1.length c0_1, .slice (some ad111) l0_2.length c0_2] 25 (0, 0)) (bK BK110) hb); replace HB := gz (ai zB hb); (try clear hb); (try clear hb2); (try clear hk); (try clear hi)))
       go_roundg k1
       case measure => have := HK1.out; omega
       case rel => exact ⟨(t112), (wrap64 (x7_1 + 1)), Z2, Z2, H', ⟨Z22⟩, ⟨by (with_reducible repeat (first | refine az ?_ _ | refine aI ?_ | refine au ?_ _)); exact BK110.out⟩, ⟨Z0⟩⟩
      ·rw [if_neg c11] at H
       exact absurd H Z24
     ·rw [if_neg c10] at H
      have c10b0 : decide (0 ≤ x1_1) = false := decide_eq_false c10
      clear c10
      obtain rfl := Option.some.inj H
      have hcz15_0 := bC BK110 0 (.int .i64 a0_0)
      have hcz15_1 := bC BK110 1 (.slice A0_1 l0_1.length c0_1)
      have hcz15_2 := bC BK110 2 (.slice A0_2 l0_2.length c0_2)
      have hfz15_0 := ag BK110.out 0
      have hfz15_1 := ag BK110.out 1
      have hfz15_2 := ag BK110.out 2
      go_wp2
      go_ret
      exact ⟨Z3, Z0⟩
    ·rw [if_neg c9] at H
     have c9b0 := decide_eq_false c9
     clear c9
     obtain rfl := Option.some.inj H
     have hcz16_0 := bC BK110 0 (.int .i64 a0_0)
     have hcz16_1 := bC BK110 1 (.slice A0_1 l0_1.length c0_1)
     have hcz16_2 := bC BK110 2 (.slice A0_2 l0_2.length c0_2)
     have hfz16_0 := ag BK110.out 0
     have hfz16_1 := ag BK110.out 1
     have hfz16_2 := ag BK110.out 2
     go_wp2
     go_ret
     exact ⟨Z3, Z0⟩
def dM.f (k : Nat) (a0_0 : Int) (l0_1 : List (S51)) (l0_2 : List (S25)) : Option (Bool) := (aT.f k a0_0 l0_1 l0_2 4096 1).bind fun t114 => (some (decide (t114 ≥ 0)))
theorem dM.calls (k : Nat) (a0_0 : Int) (A0_1 : Option Addr) (c0_1 : Nat) (l0_1 : List (S51)) (A0_2 : Option Addr) (c0_2 : Nat) (l0_2 : List (S25)) (r : Bool) (w : World) (hr0_1 : Kd.C k51 w A0_1 l0_1.length l0_1) (hc0_1 : l0_1.length ≤ c0_1) (hr0_2 : Kd.C k25 w A0_2 l0_2.length l0_2) (hc0_2 : l0_2.length ≤ c0_2) (h : dM.f k a0_0 l0_1 l0_2 = some r) :
  Calls Tryz.prog 38 #[.agg #[.int .i64 a0_0, .slice A0_1 l0_1.length c0_1, .slice A0_2 l0_2.length c0_2]] w fun e w' => e = .returned (.bool r) ∧ Below w.heap.size w w' := by
 have hu25 := Tryz.underlying25
 have HR0_1 := gz hr0_1
 have HC0_1 := gz hc0_1
 clear hr0_1 hc0_1
 have HR0_2 := gz hr0_2
 have HC0_2 := gz hc0_2
 clear hr0_2 hc0_2
 have HB := gz (Below.refl w.heap.size w)
 have H : ((aT.f k a0_0 l0_1 l0_2 4096 1).bind fun t114 => (some (decide (t114 ≥ 0)))) = some r := h
 clear h
 replace H := bS H
 obtain ⟨t114, A2, H⟩ := H
 try dsimp only at H
 obtain rfl := Option.some.inj H
 go_enter Tryz.func38, Tryz.ntmps38
 go_wp2_with (first | ((with_reducible refine bI (N := 1) rfl ?_); refine bQ ?hg (N := 1) ?hd (cs := #[.int .i64 a0_0, .slice A0_1 l0_1.length c0_1, .slice A0_2 l0_2.length c0_2]) (t := 25) ?hr ?_; (case hd => rfl); (case hg => rfl); (case hr => first | (go_simp; done) | (go_simp; rfl)); intro gb113 hg w3 hbox hb; have BK113 := gz (hbox); have GW113 := gE hg zB; have GE113 := gE hg zB; replace HB := gz (ai zB hb); clear hb hbox hg; have hcz4_0 := bC BK113 0 (.int .i64 a0_0); have hcz4_1 := bC BK113 1 (.slice A0_1 l0_1.length c0_1); have hcz4_2 := bC BK113 2 (.slice A0_2 l0_2.length c0_2); have hfz4_0 := ag BK113.out 0; have hfz4_1 := ag BK113.out 1; have hfz4_2 := ag BK113.out 2) | ((with_reducible refine gC 61 rfl ?_); refine bl (some 4) rfl rfl Tryz.func61 Z5 rfl #[.agg #[.int .i64 a0_0, .slice A0_1 l0_1.length c0_1, .slice A0_2 l0_2.length c0_2], .int .i64 4096, .int .i64 1] rfl Z1 ?_; (with_reducible refine (aT.calls k a0_0 _ _ l0_1 _ _ l0_2 4096 1 t114 _ ?side1 ?side2 ?side3 ?side4 A2.out).mono ?_); (case side1 => repeat (first | exact (Kd.C_below HR0_1.out HB.out) | (with_reducible refine Kd.C_alloc ?_ _) | (with_reducible refine Kd.C_drewN ?_ _) | (with_reducible refine Kd.C_drew ?_))); (case side2 => exact HC0_1.out); (case side3 => repeat (first | exact (Kd.C_below HR0_2.out HB.out) | (with_reducible refine Kd.C_alloc ?_ _) | (with_reducible refine Kd.C_drewN ?_ _) | (with_reducible refine Kd.C_drew ?_))); (case side4 => exact HC0_2.out); rintro e w5 ⟨rfl, hb⟩; refine ⟨_, rfl, ?_⟩; replace BK113 := gz (ao (g := gb113) (o := .cells #[.int .i64 a0_0, .slice A0_1 l0_1.length c0_1, .slice A0_2 l0_2.length c0_2] 25 (0, 0)) (bK BK113) hb); replace HB := gz (ai zB hb); (try clear hb); (try clear hb2); (try clear hk); (try clear hi)))
 go_ret
 exact ⟨Z3, Z0⟩
mutual
def aE.l0 : Nat → List (S51) → Int → Option (Int)
 | 0, _, _ => none
 | k + 1, x0, x3 => if x3 < (x0.length : Int) then (if 0 ≤ x3 then (if ((aA x0 x3).f0) < 0 then (aE.j1 k x0 x3 true) else (if ((aA x0 x3).f0) > ((aA x0 x3).f1) then (aE.j1 k x0 x3 true) else (aE.j1 k x0 x3 (decide (((aA x0 x3).f1) > 1114111))))) else (none)) else (if (x0.length : Int) > 2048 then (some 21) else (some 0))
def aE.j1 : Nat → List (S51) → Int → Bool → Option (Int)
 | 0, _, _, _ => none
 | k + 1, x0, x3, x36 => if x36 = true then (some 20) else (if x3 > 0 then (if 0 ≤ x3 then (if x3 < (x0.length : Int) then (if 0 ≤ (wrap64 (x3 - 1)) then (if (wrap64 (x3 - 1)) < (x0.length : Int) then (if ((aA x0 x3).f0) < (wrap32 (((aA x0 (wrap64 (x3 - 1))).f1) + 2)) then (some 20) else (aE.l0 k x0 (wrap64 (x3 + 1)))) else (none)) else (none)) else (none)) else (none)) else (aE.l0 k x0 (wrap64 (x3 + 1))))
end
def aE.f (k : Nat) (l0 : List (S51)) : Option (Int) := aE.l0 k l0 0
theorem aE.calls (k : Nat) (A0 : Option Addr) (c0 : Nat) (l0 : List (S51)) (r : Int) (w : World) (hr0 : Kd.C k51 w A0 l0.length l0) (hc0 : l0.length ≤ c0) (h : aE.f k l0 = some r) :
  Calls Tryz.prog 82 #[.slice A0 l0.length c0] w fun e w' => e = .returned (.int .i64 r) ∧ Drawn0 w w' := by
 have HR0 := gz hr0
 have HC0 := gz hc0
 clear hr0 hc0
 have H : (aE.l0 k l0 0) = some r := h
 clear h
 have H' := gz H
 clear H
 go_enter Tryz.func82, Tryz.ntmps82
 go_wp2
 repeat (go_quiet (fail); try go_wp2)
 go_loopg [3] k (fun kq v3 w' => ∃ (x3_1 : Int), v3 = .int .i64 x3_1 ∧ aa (aE.l0 kq l0 x3_1 = some r) ∧ aa (kq ≤ k) ∧ Drawn0 w w')
 case atStart => exact ⟨(0), Z2, H', ⟨Nat.le_refl _⟩, Z6⟩
 case round =>
  clear H'
  obtain ⟨x3_1, rfl, HA, HK1, ⟨m1, rfl⟩⟩ := hrel
  cases gk with
  | zero => exact absurd HA.out (by simp [aE.l0])
  | succ k1 =>
   have H := HA.out
   clear HA
   simp only [aE.l0] at H
   by_cases c2 : x3_1 < (l0.length : Int)
   ·rw [if_pos c2] at H
    have c2b0 := decide_eq_true c2
    clear c2
    have HC3 := gz H
    clear H
    go_upto_region 4 with (fail)
    repeat (go_quiet (fail); go_upto_region 4 with (fail))
    go_cut [36] (fun v36 wc => ∃ (kq : Nat) (x36_2 : Bool), v36 = .bool x36_2 ∧ aa (aE.j1 kq l0 x3_1 x36_2 = some r) ∧ aa (kq ≤ k1) ∧ Drawn0 w wc)
    case first =>
     have H := HC3.out
     clear HC3
     by_cases c4 : 0 ≤ x3_1
     ·rw [if_pos c4] at H
      have c4b0 := decide_eq_true c4
      clear c4
      (first | rw [c4b0] | (simp only [dq, dJ]; rw [c4b0]) | skip)
      by_cases c5 : ((aA l0 x3_1).f0) < 0
      ·rw [if_pos c5] at H
       have c5b0 := decide_eq_true c5
       clear c5
       have H' := gz H
       clear H
       have p115 : 0 ≤ (x3_1 : Int) := of_decide_eq_true Z4
       have q115 : x3_1 < (l0.length : Int) := of_decide_eq_true Z4
       obtain ⟨ad115, e115, hx115_0, hx115_1⟩ := cI HR0.out x3_1 p115 q115
       cases e115
       replace p115 := eq_true p115
       replace q115 := eq_true q115
       go_wp2
       repeat (go_quiet (fail); try go_wp2)
       go_meet
       case rel => exact ⟨_, (true), Z2, H', ⟨by have := HK1.out; first | omega | exact Nat.le_refl _⟩, Z6⟩
      ·rw [if_neg c5] at H
       have c5b0 := decide_eq_false c5
       clear c5
       by_cases c6 : ((aA l0 x3_1).f0) > ((aA l0 x3_1).f1)
       ·rw [if_pos c6] at H
        have c6b0 : decide (((aA l0 x3_1).f1) < ((aA l0 x3_1).f0)) = true := decide_eq_true c6
        clear c6
        have H' := gz H
        clear H
        have p115 : 0 ≤ (x3_1 : Int) := of_decide_eq_true Z4
        have q115 : x3_1 < (l0.length : Int) := of_decide_eq_true Z4
        obtain ⟨ad115, e115, hx115_0, hx115_1⟩ := cI HR0.out x3_1 p115 q115
        cases e115
        replace p115 := eq_true p115
        replace q115 := eq_true q115
        have p116 : 0 ≤ (x3_1 : Int) := of_decide_eq_true Z4
        have q116 : x3_1 < (l0.length : Int) := of_decide_eq_true Z4
        obtain ⟨ad116, e116, hx116_0, hx116_1⟩ := cI HR0.out x3_1 p116 q116
        obtain rfl : ad115 = ad116 := (by injection e116)
        replace p116 := eq_true p116
        replace q116 := eq_true q116
        have p117 : 0 ≤ (x3_1 : Int) := of_decide_eq_true Z4
        have q117 : x3_1 < (l0.length : Int) := of_decide_eq_true Z4
        obtain ⟨ad117, e117, hx117_0, hx117_1⟩ := cI HR0.out x3_1 p117 q117
        obtain rfl : ad115 = ad117 := (by injection e117)
        replace p117 := eq_true p117
        replace q117 := eq_true q117
        go_wp2
        repeat (go_quiet (fail); try go_wp2)
        go_meet
        case rel => exact ⟨_, (true), Z2, H', ⟨by have := HK1.out; first | omega | exact Nat.le_refl _⟩, Z6⟩
       ·rw [if_neg c6] at H
        have c6b0 : decide (((aA l0 x3_1).f1) < ((aA l0 x3_1).f0)) = false := decide_eq_false c6
        clear c6
        have H' := gz H
        clear H
        have p115 : 0 ≤ (x3_1 : Int) := of_decide_eq_true Z4
        have q115 : x3_1 < (l0.length : Int) := of_decide_eq_true Z4
        obtain ⟨ad115, e115, hx115_0, hx115_1⟩ := cI HR0.out x3_1 p115 q115
        cases e115
        replace p115 := eq_true p115
        replace q115 := eq_true q115
        have p116 : 0 ≤ (x3_1 : Int) := of_decide_eq_true Z4
        have q116 : x3_1 < (l0.length : Int) := of_decide_eq_true Z4
        obtain ⟨ad116, e116, hx116_0, hx116_1⟩ := cI HR0.out x3_1 p116 q116
        obtain rfl : ad115 = ad116 := (by injection e116)
        replace p116 := eq_true p116
        replace q116 := eq_true q116
        have p117 : 0 ≤ (x3_1 : Int) := of_decide_eq_true Z4
        have q117 : x3_1 < (l0.length : Int) := of_decide_eq_true Z4
        obtain ⟨ad117, e117, hx117_0, hx117_1⟩ := cI HR0.out x3_1 p117 q117
        obtain rfl : ad115 = ad117 := (by injection e117)
        replace p117 := eq_true p117
        replace q117 := eq_true q117
        have p118 : 0 ≤ (x3_1 : Int) := of_decide_eq_true Z4
        have q118 : x3_1 < (l0.length : Int) := of_decide_eq_true Z4
        obtain ⟨ad118, e118, hx118_0, hx118_1⟩ := cI HR0.out x3_1 p118 q118
        obtain rfl : ad115 = ad118 := (by injection e118)
        replace p118 := eq_true p118
        replace q118 := eq_true q118
        go_wp2
        repeat (go_quiet (fail); try go_wp2)
        go_meet
        case rel => exact ⟨_, (decide (((aA l0 x3_1).f1) > 1114111)), Z2, H', ⟨by have := HK1.out; first | omega | exact Nat.le_refl _⟩, Z6⟩
     ·rw [if_neg c4] at H
      exact absurd H Z24
    case rest =>
     clear HC3
     try clear p1
     try clear q1
     try clear hx1
     try clear c2
     try clear c2b0
     try clear p2
     try clear c4
     try clear c4b0
     try clear c5
     try clear c5b0
     try clear c6
     try clear c6b0
     try clear hx115_0
     try clear hx115_1
     try clear hx116_0
     try clear hx116_1
     try clear hx117_0
     try clear hx117_1
     try clear hx118_0
     try clear hx118_1
     try clear p115
     try clear p116
     try clear p117
     try clear p118
     try clear q115
     try clear q116
     try clear q117
     try clear q118
     obtain ⟨kq, x36_2, rfl, HA, HJ2, ⟨mc2, rfl⟩⟩ := hcut
     cases kq with
     | zero => exact absurd HA.out (by simp [aE.j1])
     | succ kj2 =>
      have H := HA.out
      clear HA
      simp only [aE.j1] at H
      by_cases c7 : x36_2 = true
      ·subst c7
       have H1 : (some 20) = some r := by rw [if_pos rfl] at H; exact H
       clear H
       have H := H1
       clear H1
       obtain rfl := Option.some.inj H
       go_wp2
       repeat (go_quiet (fail); try go_wp2)
       go_ret
       exact ⟨Z2, Z6⟩
      ·replace c7 := Bool.eq_false_iff.mpr c7
       subst c7
       have H1 : (if x3_1 > 0 then (if 0 ≤ x3_1 then (if x3_1 < (l0.length : Int) then (if 0 ≤ (wrap64 (x3_1 - 1)) then (if (wrap64 (x3_1 - 1)) < (l0.length : Int) then (if ((aA l0 x3_1).f0) < (wrap32 (((aA l0 (wrap64 (x3_1 - 1))).f1) + 2)) then (some 20) else (aE.l0 kj2 l0 (wrap64 (x3_1 + 1)))) else (none)) else (none)) else (none)) else (none)) else (aE.l0 kj2 l0 (wrap64 (x3_1 + 1)))) = some r := by rw [if_neg (show ¬ (false = true) by decide)] at H; exact H
       clear H
       have H := H1
       clear H1
       by_cases c8 : x3_1 > 0
       ·rw [if_pos c8] at H
        have c8b0 : decide (0 < x3_1) = true := decide_eq_true c8
        clear c8
        by_cases c9 : 0 ≤ x3_1
        ·rw [if_pos c9] at H
         have c9b0 := decide_eq_true c9
         clear c9
         by_cases c10 : x3_1 < (l0.length : Int)
         ·rw [if_pos c10] at H
          have c10b0 := decide_eq_true c10
          clear c10
          obtain ⟨ji11, hji11⟩ : ∃ j_ : Int, (wrap64 (x3_1 - 1)) = j_ := ⟨_, rfl⟩
          replace H : (if 0 ≤ (ji11) then (if (ji11) < (l0.length : Int) then (if ((aA l0 x3_1).f0) < (wrap32 (((aA l0 (ji11)).f1) + 2)) then (some 20) else (aE.l0 kj2 l0 (wrap64 (x3_1 + 1)))) else (none)) else (none)) = some r := by first | (rw [hji11] at H; exact H) | (simp only [hji11] at H ⊢; exact H)
          have hji11w : (IntKind.i64.wrap (x3_1 - 1)) = ji11 := (dq _).trans hji11
          by_cases c12 : 0 ≤ (ji11)
          ·rw [if_pos c12] at H
           have c12b0 := decide_eq_true c12
           clear c12
           by_cases c13 : (ji11) < (l0.length : Int)
           ·rw [if_pos c13] at H
            have c13b0 := decide_eq_true c13
            clear c13
            by_cases c14 : ((aA l0 x3_1).f0) < (wrap32 (((aA l0 (ji11)).f1) + 2))
            ·rw [if_pos c14] at H
             have c14b0 := decide_eq_true c14
             clear c14
             obtain rfl := Option.some.inj H
             have p119 : 0 ≤ (x3_1 : Int) := of_decide_eq_true Z4
             have q119 : x3_1 < (l0.length : Int) := of_decide_eq_true Z4
             obtain ⟨ad119, e119, hx119_0, hx119_1⟩ := cI HR0.out x3_1 p119 q119
             cases e119
             replace p119 := eq_true p119
             replace q119 := eq_true q119
             have p120 : 0 ≤ ((ji11) : Int) := of_decide_eq_true Z4
             have q120 : (ji11) < (l0.length : Int) := of_decide_eq_true Z4
             obtain ⟨ad120, e120, hx120_0, hx120_1⟩ := cI HR0.out (ji11) p120 q120
             obtain rfl : ad119 = ad120 := (by injection e120)
             replace p120 := eq_true p120
             replace q120 := eq_true q120
             go_wp2
             repeat (go_quiet (fail); try go_wp2)
             go_ret
             exact ⟨by first | rfl | (simp; done) | (simp only [← hji11] <;> (first | rfl | (simp; done))) | (simp only [← hji11] <;> rw [fN]) | (simp only [← hji11] <;> simp <;> omega) | (simp [*]; done) | (simp <;> omega) | rw [fN], Z6⟩
            ·rw [if_neg c14] at H
             have c14b0 := decide_eq_false c14
             clear c14
             have H' := gz H
             clear H
             have p119 : 0 ≤ (x3_1 : Int) := of_decide_eq_true Z4
             have q119 : x3_1 < (l0.length : Int) := of_decide_eq_true Z4
             obtain ⟨ad119, e119, hx119_0, hx119_1⟩ := cI HR0.out x3_1 p119 q119
             cases e119
             replace p119 := eq_true p119
             replace q119 := eq_true q119
             have p120 : 0 ≤ ((ji11) : Int) := of_decide_eq_true Z4
             have q120 : (ji11) < (l0.length : Int) := of_decide_eq_true Z4
             obtain ⟨ad120, e120, hx120_0, hx120_1⟩ := cI HR0.out (ji11) p120 q120
             obtain rfl : ad119 = ad120 := (by injection e120)
             replace p120 := eq_true p120
             replace q120 := eq_true q120
             go_wp2
             repeat (go_quiet (fail); try go_wp2)
             go_roundg kj2
             case measure => have := HK1.out; have := HJ2.out; omega
             case rel => exact ⟨(wrap64 (x3_1 + 1)), Z2, H', ⟨by have := HK1.out; have := HJ2.out; omega⟩, Z6⟩
           ·rw [if_neg c13] at H
            exact absurd H Z24
          ·rw [if_neg c12] at H
           exact absurd H Z24
         ·rw [if_neg c10] at H
          exact absurd H Z24
        ·rw [if_neg c9] at H
         exact absurd H Z24
       ·rw [if_neg c8] at H
        have c8b0 : decide (0 < x3_1) = false := decide_eq_false c8
        clear c8
        have H' := gz H
        clear H
        go_wp2
        repeat (go_quiet (fail); try go_wp2)
        go_roundg kj2
        case measure => have := HK1.out; have := HJ2.out; omega
        case rel => exact ⟨(wrap64 (x3_1 + 1)), Z2, H', ⟨by have := HK1.out; have := HJ2.out; omega⟩, Z6⟩
   ·rw [if_neg c2] at H
    have c2b0 := decide_eq_false c2
    clear c2
    by_cases c15 : (l0.length : Int) > 2048
    ·rw [if_pos c15] at H
     have c15b0 : decide (2048 < (l0.length : Int)) = true := decide_eq_true c15
     have c15b1 : decide (2048 < l0.length) = true := decide_eq_true Z8
     clear c15
     obtain rfl := Option.some.inj H
     go_wp2
     repeat (go_quiet (fail); try go_wp2)
     go_ret
     exact ⟨Z2, Z6⟩
    ·rw [if_neg c15] at H
     have c15b0 : decide (2048 < (l0.length : Int)) = false := decide_eq_false c15
     have c15b1 : decide (2048 < l0.length) = false := decide_eq_false Z8
     clear c15
     obtain rfl := Option.some.inj H
     go_wp2
     repeat (go_quiet (fail); try go_wp2)
     go_ret
     exact ⟨Z2, Z6⟩
mutual
def aw.j0 : Nat → Bool → Int → List (S51) → List (S25) → Option (Bool)
 | 0, _, _, _, _ => none
 | k + 1, x21, x122000, x122001, x122002 => if x21 = true then (some false) else (if x122000 = 0 then (aw.j1 k x122000 (x122000 == 0) x122000 x122001 x122002) else (if x122000 = 1 then (aw.j1 k x122000 (x122000 == 1) x122000 x122001 x122002) else (aw.j1 k x122000 (x122000 == 2) x122000 x122001 x122002)))
def aw.j1 : Nat → Int → Bool → Int → List (S51) → List (S25) → Option (Bool)
 | 0, _, _, _, _, _ => none
 | k + 1, x23, x24, x122000, x122001, x122002 => if x24 = true then (if (x122002.length : Int) = 0 then (if x122000 = 2 then ((aE.f k x122001).bind fun t122 => (some (t122 == 0))) else (some true)) else (some false)) else (if x23 = 6 then (some ((x122002.length : Int) == 1)) else (if x23 = 7 then (some ((x122002.length : Int) == 1)) else (some (decide ((x122002.length : Int) ≥ 1)))))
end
def aw.f (k : Nat) (a0_0 : Int) (l0_1 : List (S51)) (l0_2 : List (S25)) : Option (Bool) := if a0_0 < 0 then (aw.j0 k true a0_0 l0_1 l0_2) else (if a0_0 > 7 then (aw.j0 k true a0_0 l0_1 l0_2) else (if a0_0 = 2 then (aw.j0 k false a0_0 l0_1 l0_2) else (aw.j0 k (decide ((l0_1.length : Int) > 0)) a0_0 l0_1 l0_2)))
theorem aw.calls (k : Nat) (a0_0 : Int) (A0_1 : Option Addr) (c0_1 : Nat) (l0_1 : List (S51)) (A0_2 : Option Addr) (c0_2 : Nat) (l0_2 : List (S25)) (r : Bool) (w : World) (hr0_1 : Kd.C k51 w A0_1 l0_1.length l0_1) (hc0_1 : l0_1.length ≤ c0_1) (hr0_2 : Kd.C k25 w A0_2 l0_2.length l0_2) (hc0_2 : l0_2.length ≤ c0_2) (h : aw.f k a0_0 l0_1 l0_2 = some r) :
  Calls Tryz.prog 62 #[.agg #[.int .i64 a0_0, .slice A0_1 l0_1.length c0_1, .slice A0_2 l0_2.length c0_2]] w fun e w' => e = .returned (.bool r) ∧ Below w.heap.size w w' := by
 have hu25 := Tryz.underlying25
 have HR0_1 := gz hr0_1
 have HC0_1 := gz hc0_1
 clear hr0_1 hc0_1
 have HR0_2 := gz hr0_2
 have HC0_2 := gz hc0_2
 clear hr0_2 hc0_2
 have HB := gz (Below.refl w.heap.size w)
 have H : (if a0_0 < 0 then (aw.j0 k true a0_0 l0_1 l0_2) else (if a0_0 > 7 then (aw.j0 k true a0_0 l0_1 l0_2) else (if a0_0 = 2 then (aw.j0 k false a0_0 l0_1 l0_2) else (aw.j0 k (decide ((l0_1.length : Int) > 0)) a0_0 l0_1 l0_2)))) = some r := h
 clear h
 have HC2 := gz H
 clear H
 go_enter Tryz.func62, Tryz.ntmps62
 go_upto_region 1 with (first | ((with_reducible refine bI (N := 1) rfl ?_); (try (refine gate_guard (by rfl) ?_; dsimp only)); refine bQ ?hg (N := 1) ?hd (cs := #[.int .i64 a0_0, .slice A0_1 l0_1.length c0_1, .slice A0_2 l0_2.length c0_2]) (t := 25) ?hr ?_; (case hd => rfl); (case hg => rfl); (case hr => first | (go_simp; done) | (go_simp; rfl)); intro gb121 hg w3 hbox hb; have BK121 := gz (hbox); have GW121 := gE hg zB; have GE121 := gE hg zB; replace HB := gz (ai zB hb); clear hb hbox hg))
 (try simp only [Act.put, List.setIfInBounds_toArray, List.set_cons_zero, List.set_cons_succ])
 go_cut [21] (fun v21 wc => ∃ (kq : Nat) (x21_1 : Bool), v21 = .bool x21_1 ∧ aa (aw.j0 kq x21_1 a0_0 l0_1 l0_2 = some r) ∧ aa (kq ≤ k) ∧ aa (wc.heap[gb121]? = some (.cells #[.int .i64 a0_0, (.slice A0_1 l0_1.length c0_1), (.slice A0_2 l0_2.length c0_2)] 25 (0, 0))) ∧ aa (Below w.heap.size w wc))
 case first =>
  have H := HC2.out
  clear HC2
  by_cases c4 : a0_0 < 0
  ·rw [if_pos c4] at H
   have c4b0 := decide_eq_true c4
   clear c4
   (first | rw [c4b0] | (simp only [dq, dJ]; rw [c4b0]) | skip)
   have H' := gz H
   clear H
   have hcz5_0 := bC BK121 0 (.int .i64 a0_0)
   have hcz5_1 := bC BK121 1 (.slice A0_1 l0_1.length c0_1)
   have hcz5_2 := bC BK121 2 (.slice A0_2 l0_2.length c0_2)
   have hfz5_0 := ag BK121.out 0
   have hfz5_1 := ag BK121.out 1
   have hfz5_2 := ag BK121.out 2
   go_wp2
   go_meet
   case rel => exact ⟨_, (true), Z2, H', ⟨by first | omega | exact Nat.le_refl _⟩, ⟨Z19⟩, ⟨Z0⟩⟩
  ·rw [if_neg c4] at H
   have c4b0 := decide_eq_false c4
   clear c4
   (first | rw [c4b0] | (simp only [dq, dJ]; rw [c4b0]) | skip)
   by_cases c6 : a0_0 > 7
   ·rw [if_pos c6] at H
    have c6b0 : decide (7 < a0_0) = true := decide_eq_true c6
    clear c6
    have H' := gz H
    clear H
    have hcz7_0 := bC BK121 0 (.int .i64 a0_0)
    have hcz7_1 := bC BK121 1 (.slice A0_1 l0_1.length c0_1)
    have hcz7_2 := bC BK121 2 (.slice A0_2 l0_2.length c0_2)
    have hfz7_0 := ag BK121.out 0
    have hfz7_1 := ag BK121.out 1
    have hfz7_2 := ag BK121.out 2
    go_wp2
    go_meet
    case rel => exact ⟨_, (true), Z2, H', ⟨by first | omega | exact Nat.le_refl _⟩, ⟨Z19⟩, ⟨Z0⟩⟩
   ·rw [if_neg c6] at H
    have c6b0 : decide (7 < a0_0) = false := decide_eq_false c6
    clear c6
    by_cases c8 : a0_0 = 2
    ·rw [if_pos c8] at H
     have c8b0 := e1 c8
     have c8b1 := e2 c8
     clear c8
     have H' := gz H
     clear H
     have hcz9_0 := bC BK121 0 (.int .i64 a0_0)
     have hcz9_1 := bC BK121 1 (.slice A0_1 l0_1.length c0_1)
     have hcz9_2 := bC BK121 2 (.slice A0_2 l0_2.length c0_2)
     have hfz9_0 := ag BK121.out 0
     have hfz9_1 := ag BK121.out 1
     have hfz9_2 := ag BK121.out 2
     go_wp2
     go_meet
     case rel => exact ⟨_, (false), Z2, H', ⟨by first | omega | exact Nat.le_refl _⟩, ⟨Z19⟩, ⟨Z0⟩⟩
    ·rw [if_neg c8] at H
     have c8b0 := e3 c8
     have c8b1 := e4 c8
     have H' := gz H
     clear H
     have hcz10_0 := bC BK121 0 (.int .i64 a0_0)
     have hcz10_1 := bC BK121 1 (.slice A0_1 l0_1.length c0_1)
     have hcz10_2 := bC BK121 2 (.slice A0_2 l0_2.length c0_2)
     have hfz10_0 := ag BK121.out 0
     have hfz10_1 := ag BK121.out 1
     have hfz10_2 := ag BK121.out 2
     go_wp2
     go_meet
     case rel => exact ⟨_, (decide ((l0_1.length : Int) > 0)), Z2, H', ⟨by first | omega | exact Nat.le_refl _⟩, ⟨Z19⟩, ⟨Z0⟩⟩
 case rest =>
  clear HC2
  try clear p2
  try clear c4
  try clear c4b0
  try clear c6
  try clear c6b0
  try clear c8
  try clear c8b0
  try clear c8b1
  try clear hcz10_0
  try clear hcz10_1
  try clear hcz10_2
  try clear hcz5_0
  try clear hcz5_1
  try clear hcz5_2
  try clear hcz7_0
  try clear hcz7_1
  try clear hcz7_2
  try clear hcz9_0
  try clear hcz9_1
  try clear hcz9_2
  try clear hfz10_0
  try clear hfz10_1
  try clear hfz10_2
  try clear hfz5_0
  try clear hfz5_1
  try clear hfz5_2
  try clear hfz7_0
  try clear hfz7_1
  try clear hfz7_2
  try clear hfz9_0
  try clear hfz9_1
  try clear hfz9_2
  obtain ⟨kq, x21_1, rfl, HA, HJ1, BK121, HB⟩ := hcut
  cases kq with
  | zero => exact absurd HA.out (by simp [aw.j0])
  | succ kj1 =>
   have H := HA.out
   clear HA
   simp only [aw.j0] at H
   by_cases c11 : x21_1 = true
   ·subst c11
    have H1 : (some false) = some r := by rw [if_pos rfl] at H; exact H
    clear H
    have H := H1
    clear H1
    obtain rfl := Option.some.inj H
    go_wp2
    go_ret
    exact ⟨Z3, Z0⟩
   ·replace c11 := Bool.eq_false_iff.mpr c11
    subst c11
    have H1 : (if a0_0 = 0 then (aw.j1 kj1 a0_0 (a0_0 == 0) a0_0 l0_1 l0_2) else (if a0_0 = 1 then (aw.j1 kj1 a0_0 (a0_0 == 1) a0_0 l0_1 l0_2) else (aw.j1 kj1 a0_0 (a0_0 == 2) a0_0 l0_1 l0_2))) = some r := by rw [if_neg (show ¬ (false = true) by decide)] at H; exact H
    clear H
    have H := H1
    clear H1
    have HC12 := gz H
    clear H
    have hcz13_0 := bC BK121 0 (.int .i64 a0_0)
    have hcz13_1 := bC BK121 1 (.slice A0_1 l0_1.length c0_1)
    have hcz13_2 := bC BK121 2 (.slice A0_2 l0_2.length c0_2)
    have hfz13_0 := ag BK121.out 0
    have hfz13_1 := ag BK121.out 1
    have hfz13_2 := ag BK121.out 2
    go_upto_if 24 with (fail)
    go_cut [24] (fun v24 wc => ∃ (kq : Nat) (x24_11 : Bool), v24 = .bool x24_11 ∧ aa (aw.j1 kq a0_0 x24_11 a0_0 l0_1 l0_2 = some r) ∧ aa (kq ≤ kj1) ∧ aa (wc.heap[gb121]? = some (.cells #[.int .i64 a0_0, (.slice A0_1 l0_1.length c0_1), (.slice A0_2 l0_2.length c0_2)] 25 (0, 0))) ∧ aa (Below w.heap.size w wc))
    case first =>
     have H := HC12.out
     clear HC12
     by_cases c14 : a0_0 = 0
     ·rw [if_pos c14] at H
      have c14b0 := e1 c14
      have c14b1 := e2 c14
      clear c14
      (first | rw [c14b0] | (simp only [dq, dJ]; rw [c14b0]) | skip)
      have H' := gz H
      clear H
      go_wp2
      go_meet
      case rel => exact ⟨_, ((a0_0 == 0)), Z2, H', ⟨by have := HJ1.out; first | omega | exact Nat.le_refl _⟩, ⟨Z19⟩, ⟨Z0⟩⟩
     ·rw [if_neg c14] at H
      have c14b0 := e3 c14
      have c14b1 := e4 c14
      (first | rw [c14b0] | (simp only [dq, dJ]; rw [c14b0]) | skip)
      by_cases c15 : a0_0 = 1
      ·rw [if_pos c15] at H
       have c15b0 := e1 c15
       have c15b1 := e2 c15
       clear c15
       have H' := gz H
       clear H
       go_wp2
       go_meet
       case rel => exact ⟨_, ((a0_0 == 1)), Z2, H', ⟨by have := HJ1.out; first | omega | exact Nat.le_refl _⟩, ⟨Z19⟩, ⟨Z0⟩⟩
      ·rw [if_neg c15] at H
       have c15b0 := e3 c15
       have c15b1 := e4 c15
       have H' := gz H
       clear H
       go_wp2
       go_meet
       case rel => exact ⟨_, ((a0_0 == 2)), Z2, H', ⟨by have := HJ1.out; first | omega | exact Nat.le_refl _⟩, ⟨Z19⟩, ⟨Z0⟩⟩
    case rest =>
     clear HC12
     try clear c1
     try clear p2
     try clear c4
     try clear c4b0
     try clear c6
     try clear c6b0
     try clear c8
     try clear c8b0
     try clear c8b1
     try clear c11
     try clear c14
     try clear c14b0
     try clear c14b1
     try clear c15
     try clear c15b0
     try clear c15b1
     try clear hcz10_0
     try clear hcz10_1
     try clear hcz10_2
     try clear hcz13_0
     try clear hcz13_1
     try clear hcz13_2
     try clear hcz5_0
     try clear hcz5_1
     try clear hcz5_2
     try clear hcz7_0
     try clear hcz7_1
     try clear hcz7_2
     try clear hcz9_0
     try clear hcz9_1
     try clear hcz9_2
     try clear hfz10_0
     try clear hfz10_1
     try clear hfz10_2
     try clear hfz13_0
     try clear hfz13_1
     try clear hfz13_2
     try clear hfz5_0
     try clear hfz5_1
     try clear hfz5_2
     try clear hfz7_0
     try clear hfz7_1
     try clear hfz7_2
     try clear hfz9_0
     try clear hfz9_1
     try clear hfz9_2
     try clear p2
     obtain ⟨kq, x24_11, rfl, HA, HJ11, BK121, HB⟩ := hcut
     cases kq with
     | zero => exact absurd HA.out (by simp [aw.j1])
     | succ kj11 =>
      have H := HA.out
      clear HA
      simp only [aw.j1] at H
      by_cases c16 : x24_11 = true
      ·subst c16
       have H1 : (if (l0_2.length : Int) = 0 then (if a0_0 = 2 then ((aE.f kj11 l0_1).bind fun t122 => (some (t122 == 0))) else (some true)) else (some false)) = some r := by rw [if_pos rfl] at H; exact H
       clear H
       have H := H1
       clear H1
       by_cases c17 : (l0_2.length : Int) = 0
       ·rw [if_pos c17] at H
        have c17b0 := e1 c17
        have c17b1 := e2 c17
        clear c17
        by_cases c18 : a0_0 = 2
        ·rw [if_pos c18] at H
         have c18b0 := e1 c18
         have c18b1 := e2 c18
         clear c18
         replace H := bS H
         obtain ⟨t122, A19, H⟩ := H
         try dsimp only at H
         obtain rfl := Option.some.inj H
         have hcz20_0 := bC BK121 0 (.int .i64 a0_0)
         have hcz20_1 := bC BK121 1 (.slice A0_1 l0_1.length c0_1)
         have hcz20_2 := bC BK121 2 (.slice A0_2 l0_2.length c0_2)
         have hfz20_0 := ag BK121.out 0
         have hfz20_1 := ag BK121.out 1
         have hfz20_2 := ag BK121.out 2
         go_wp2_with (first | (go_at_call 82; (with_reducible refine (aE.calls kj11 _ _ l0_1 t122 _ ?side1 ?side2 A19.out).mono ?_); (case side1 => repeat (first | exact (Kd.C_below HR0_1.out HB.out) | (with_reducible refine Kd.C_alloc ?_ _) | (with_reducible refine Kd.C_drewN ?_ _) | (with_reducible refine Kd.C_drew ?_))); (case side2 => exact HC0_1.out); rintro e w' ⟨rfl, ⟨nd, rfl⟩⟩))
         go_ret
         exact ⟨Z3, Z0⟩
        ·rw [if_neg c18] at H
         have c18b0 := e3 c18
         have c18b1 := e4 c18
         obtain rfl := Option.some.inj H
         have hcz21_0 := bC BK121 0 (.int .i64 a0_0)
         have hcz21_1 := bC BK121 1 (.slice A0_1 l0_1.length c0_1)
         have hcz21_2 := bC BK121 2 (.slice A0_2 l0_2.length c0_2)
         have hfz21_0 := ag BK121.out 0
         have hfz21_1 := ag BK121.out 1
         have hfz21_2 := ag BK121.out 2
         go_wp2
         go_ret
         exact ⟨Z3, Z0⟩
       ·rw [if_neg c17] at H
        have c17b0 := e3 c17
        have c17b1 := e4 c17
        have c17b2 : ¬ (l0_2 = []) := fun h_ => c17 (by rw [h_]; rfl)
        obtain rfl := Option.some.inj H
        have hcz22_0 := bC BK121 0 (.int .i64 a0_0)
        have hcz22_1 := bC BK121 1 (.slice A0_1 l0_1.length c0_1)
        have hcz22_2 := bC BK121 2 (.slice A0_2 l0_2.length c0_2)
        have hfz22_0 := ag BK121.out 0
        have hfz22_1 := ag BK121.out 1
        have hfz22_2 := ag BK121.out 2
        go_wp2
        go_ret
        exact ⟨Z3, Z0⟩
      ·replace c16 := Bool.eq_false_iff.mpr c16
       subst c16
       have H1 : (if a0_0 = 6 then (some ((l0_2.length : Int) == 1)) else (if a0_0 = 7 then (some ((l0_2.length : Int) == 1)) else (some (decide ((l0_2.length : Int) ≥ 1))))) = some r := by rw [if_neg (show ¬ (false = true) by decide)] at H; exact H
       clear H
       have H := H1
       clear H1
       by_cases c23 : a0_0 = 6
       ·rw [if_pos c23] at H
        have c23b0 := e1 c23
        have c23b1 := e2 c23
        clear c23
        obtain rfl := Option.some.inj H
        have hcz24_0 := bC BK121 0 (.int .i64 a0_0)
        have hcz24_1 := bC BK121 1 (.slice A0_1 l0_1.length c0_1)
        have hcz24_2 := bC BK121 2 (.slice A0_2 l0_2.length c0_2)
        have hfz24_0 := ag BK121.out 0
        have hfz24_1 := ag BK121.out 1
        have hfz24_2 := ag BK121.out 2
        go_wp2
        go_ret
        exact ⟨Z3, Z0⟩
       ·rw [if_neg c23] at H
        have c23b0 := e3 c23
        have c23b1 := e4 c23
        by_cases c25 : a0_0 = 7
        ·rw [if_pos c25] at H
         have c25b0 := e1 c25
         have c25b1 := e2 c25
         clear c25
         obtain rfl := Option.some.inj H
         have hcz26_0 := bC BK121 0 (.int .i64 a0_0)
         have hcz26_1 := bC BK121 1 (.slice A0_1 l0_1.length c0_1)
         have hcz26_2 := bC BK121 2 (.slice A0_2 l0_2.length c0_2)
         have hfz26_0 := ag BK121.out 0
         have hfz26_1 := ag BK121.out 1
         have hfz26_2 := ag BK121.out 2
         go_wp2
         go_ret
         exact ⟨Z3, Z0⟩
        ·rw [if_neg c25] at H
         have c25b0 := e3 c25
         have c25b1 := e4 c25
         obtain rfl := Option.some.inj H
         have hcz27_0 := bC BK121 0 (.int .i64 a0_0)
         have hcz27_1 := bC BK121 1 (.slice A0_1 l0_1.length c0_1)
         have hcz27_2 := bC BK121 2 (.slice A0_2 l0_2.length c0_2)
         have hfz27_0 := ag BK121.out 0
         have hfz27_1 := ag BK121.out 1
         have hfz27_2 := ag BK121.out 2
         go_wp2
         go_ret
         exact ⟨Z3, Z0⟩
end Go.Proofs.YtaccleilcdfapaaGreat.G
