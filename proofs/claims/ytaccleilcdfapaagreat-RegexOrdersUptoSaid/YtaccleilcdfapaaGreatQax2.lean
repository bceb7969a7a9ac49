import Derived.Test.YtaccleilcdfapaaGreatQPre
import Derived.Test.YtaccleilcdfapaaGreatQax0
import Derived.Test.YtaccleilcdfapaaGreatQax1
namespace Go.Proofs.YtaccleilcdfapaaGreat.G
open Go.RowKit Go.Proofs.YtaccleilcdfapaaGreatW.PrintWords Go.Proofs.YtaccleilcdfapaaGreatW.PrintLast Go.Proofs.YtaccleilcdfapaaGreatW.PrintMore
attribute [local go_sem] dH dF dR dQ da cZ dG dE
set_option linter.unusedVariables false
set_option maxHeartbeats 8000000
set_option maxRecDepth 100000
set_option linter.unusedSimpArgs false
structure am.BG (w w' : World) : Prop where
 below : Below w.heap.size w w'
 drawn : w.drawn ≤ w'.drawn
theorem am.BG.refl (w : World) : am.BG w w := ⟨Below.refl _ _, Nat.le_refl _⟩
theorem am.BG.alloc {w W : World} (h : am.BG w W) (o : Obj) : am.BG w (W.alloc o) := ⟨ak h.1 o, h.2⟩
theorem am.BG.drew {w W : World} (h : am.BG w W) : am.BG w W.drew := ⟨aX h.1, Nat.le_succ_of_le h.2⟩
theorem am.BG.drewN {w W : World} (h : am.BG w W) (n : Nat) : am.BG w (W.drewN n) := ⟨aC h.1 n, Nat.le_trans h.2 (Nat.le_add_right _ _)⟩
theorem am.BG.step {w W w2 : World} (h : am.BG w W) (k : am.BG W w2) : am.BG w w2 := ⟨ai h.1 k.1, Nat.le_trans h.2 k.2⟩
theorem am.BG.grown {w w' : World} (h : am.BG w w') : ∃ q os', w' = Go.Sort.grow (w.drewN q) os' := by
 obtain ⟨⟨h1, h2, h3, h4, h5⟩, h6⟩ := h
 refine ⟨w'.drawn - w.drawn, w'.heap.extract w.heap.size w'.heap.size, ?_⟩
 have e1 : w.heap ++ w'.heap.extract w.heap.size w'.heap.size = w'.heap := by
  apply Array.ext_getElem?
  intro i
  by_cases hi : i < w.heap.size
  ·rw [Array.getElem?_append_left hi, h5 i hi]
  ·rw [Array.getElem?_append_right Z8, Array.getElem?_extract]
   by_cases hj : i < w'.heap.size
   ·rw [if_pos Z8]
    congr 1
    omega
   ·rw [if_neg Z8, Array.getElem?_eq_none Z8]
 have e2 : w.drawn + (w'.drawn - w.drawn) = w'.drawn := by omega
 show w' = { w with drawn := w.drawn + (w'.drawn - w.drawn), heap := w.heap ++ w'.heap.extract w.heap.size w'.heap.size }
 rw [e1, e2]
 cases w'
 cases w
 simp only at h1 h2 h3
 subst h1 h2 h3
 rfl
def am.cr_cf (x y : S51) : Int := if x.f0 < y.f0 then -1 else if x.f0 > y.f0 then 1 else if x.f1 < y.f1 then -1 else if x.f1 > y.f1 then 1 else 0
theorem am.cr_cmp (x y r : Int) (hr : (if x < y then (-1 : Int) else if x > y then 1 else 0) = r) (w : World) : Calls Tryz.prog 46 #[.int .i32 x, .int .i32 y] w fun e w' => e = .returned (.int .i64 r) ∧ Drawn0 w w' := by
 have hx : (x != x) = false := by simp
 have hy : (y != y) = false := by simp
 by_cases c1 : x < y
 ·rw [if_pos c1] at hr
  subst hr
  have d1 : decide (x < y) = true := decide_eq_true c1
  go_enter Tryz.func46, Tryz.ntmps46
  go_wp2
  go_ret
  exact ⟨rfl, Z6⟩
 rw [if_neg c1] at hr
 have d1 : decide (x < y) = false := decide_eq_false c1
 by_cases c2 : y < x
 ·rw [if_pos c2] at hr
  subst hr
  have d2 : decide (y < x) = true := decide_eq_true c2
  go_enter Tryz.func46, Tryz.ntmps46
  go_wp2
  go_ret
  exact ⟨rfl, Z6⟩
 rw [if_neg c2] at hr
 subst hr
 have d2 : decide (y < x) = false := decide_eq_false c2
 go_enter Tryz.func46, Tryz.ntmps46
 go_wp2
 go_ret
 exact ⟨rfl, Z6⟩
theorem am.cr_or (a b r : Int) (hr : (if a = 0 then b else a) = r) (q : Nat) (w : World) (h0 : w.cell? ⟨q, 0, none⟩ = some (.int .i64 a)) (h1 : w.cell? ⟨q, 1, none⟩ = some (.int .i64 b)) : Calls Tryz.prog 45 #[.slice (some ⟨q, 0, none⟩) 2 2] w fun e w' => e = .returned (.int .i64 r) ∧ Drawn0 w w' := by
 have HL := gz hr
 clear hr
 go_enter Tryz.func45, Tryz.ntmps45
 go_wp2
 go_loopw [8] (fun i wr => ∃ (j : Int), i = .int .i64 j ∧ aa (j = 0 ∨ (j = 1 ∧ a = 0) ∨ (j = 2 ∧ a = 0 ∧ b = 0)) ∧ w = wr) (fun i _ => 2 - (intOf i).toNat)
 case atStart => exact ⟨0, rfl, ⟨.inl rfl⟩, rfl⟩
 case round =>
  obtain ⟨j, rfl, HJ, rfl⟩ := hrel
  rcases HJ.out with rfl | ⟨rfl, rfl⟩ | ⟨rfl, rfl, rfl⟩
  ·clear HJ
   by_cases e : a = 0
   ·subst e
    go_wp2
    go_roundw
    case rel => exact ⟨1, rfl, ⟨Z24⟩, Z24⟩
    case measure => simp [intOf]
   ·have d : (a != 0) = true := bne_iff_ne.mpr e
    obtain rfl : a = r := by have := HL.out; rwa [if_neg e] at this
    go_wp2
    go_ret
    exact ⟨rfl, Drawn0.refl _⟩
  ·clear HJ
   obtain rfl : b = r := by have := HL.out; rwa [if_pos rfl] at this
   by_cases e : b = 0
   ·subst e
    go_wp2
    go_roundw
    case rel => exact ⟨2, rfl, ⟨Z24⟩, Z24⟩
    case measure => simp [intOf]
   ·have d : (b != 0) = true := bne_iff_ne.mpr e
    go_wp2
    go_ret
    exact ⟨rfl, Drawn0.refl _⟩
  ·clear HJ
   obtain rfl : 0 = r := by have := HL.out; rwa [if_pos rfl] at this
   go_wp2
   go_ret
   exact ⟨rfl, Drawn0.refl _⟩
theorem am.cr_closure (x0 x1 y0 y1 r : Int) (hr : am.cr_cf ⟨x0, x1⟩ ⟨y0, y1⟩ = r) (w : World) : Calls Tryz.prog 44 #[.agg #[.int .i32 x0, .int .i32 x1], .agg #[.int .i32 y0, .int .i32 y1]] w fun e w' => e = .returned (.int .i64 r) ∧ am.BG w w' := by
 have hr2 : (if (if x0 < y0 then (-1 : Int) else if x0 > y0 then 1 else 0) = 0 then (if x1 < y1 then (-1 : Int) else if x1 > y1 then 1 else 0) else (if x0 < y0 then (-1 : Int) else if x0 > y0 then 1 else 0)) = r := by
  rw [← hr]
  unfold am.cr_cf
  by_cases c1 : x0 < y0
  ·simp [c1]
  ·by_cases c2 : x0 > y0 <;> simp [c1, c2]
 clear hr
 go_enter Tryz.func44, Tryz.ntmps44
 go_wp2_with fail
 have B1 := a8 w (.cells #[.int .i32 x0, .int .i32 x1] 51)
 have B2 := a8 (w.alloc (.cells #[.int .i32 x0, .int .i32 x1] 51)) (.cells #[.int .i32 y0, .int .i32 y1] 51)
 have HB := gz (show am.BG w ((w.alloc (.cells #[.int .i32 x0, .int .i32 x1] 51)).alloc (.cells #[.int .i32 y0, .int .i32 y1] 51)) from by repeat (first | exact am.BG.refl _ | apply am.BG.alloc))
 have hs : (w.alloc (.cells #[.int .i32 x0, .int .i32 x1] 51)).heap.size = w.heap.size + 1 := Array.size_push _
 rw [hs] at B2
 have B3 : ((w.alloc (.cells #[.int .i32 x0, .int .i32 x1] 51)).alloc (.cells #[.int .i32 y0, .int .i32 y1] 51)).heap[w.heap.size]? = some (.cells #[.int .i32 x0, .int .i32 x1] 51 (0, 0)) := by
  rw [← B1]
  exact Below.heap_alloc _ _ _ (by rw [hs]; omega)
 clear hs B1
 generalize ((w.alloc (.cells #[.int .i32 x0, .int .i32 x1] 51)).alloc (.cells #[.int .i32 y0, .int .i32 y1] 51)) = wx at HB B2 B3 ⊢
 generalize hp : w.heap.size + 1 = p at B2 ⊢
 generalize hq : w.heap.size = q at B3 ⊢
 have c0 := (ah B3 0).trans rfl
 have c1 := (ah B3 1).trans rfl
 have c2 := (ah B2 0).trans rfl
 have c3 := (ah B2 1).trans rfl
 clear B2 B3 hp
 have n0 := World.new_ne wx _ c0
 have n1 := World.new_ne wx _ c1
 have n2 := World.new_ne wx _ c2
 have n3 := World.new_ne wx _ c3
 obtain ⟨u0, hu0⟩ : ∃ u, (if x0 < y0 then (-1 : Int) else if x0 > y0 then 1 else 0) = u := ⟨_, rfl⟩
 obtain ⟨u1, hu1⟩ : ∃ u, (if x1 < y1 then (-1 : Int) else if x1 > y1 then 1 else 0) = u := ⟨_, rfl⟩
 rw [hu0, hu1] at hr2
 replace hr2 := gz hr2
 replace hu0 := gz hu0
 replace hu1 := gz hu1
 go_region_held3 (fun w' => w'.cell? ⟨q, 0, none⟩ = some (.int .i32 x0) ∧ w'.cell? ⟨q, 1, none⟩ = some (.int .i32 x1) ∧ w'.cell? ⟨p, 0, none⟩ = some (.int .i32 y0) ∧ w'.cell? ⟨p, 1, none⟩ = some (.int .i32 y1)) (go_keep) (first | (go_at_call_of 46 (Value.int .i32 x0); refine (am.cr_cmp x0 y0 _ hu0.out _).mono ?_; rintro e w' ⟨rfl, ⟨n, rfl⟩⟩; dsimp only) | (go_at_call_of 46 (Value.int .i32 x1); refine (am.cr_cmp x1 y1 _ hu1.out _).mono ?_; rintro e w' ⟨rfl, ⟨n, rfl⟩⟩; dsimp only) | (go_at_call 45; refine (am.cr_or u0 u1 r hr2.out wx.heap.size _ ?_ ?_).mono ?_; (exact (ah (a8 _ _) 0).trans rfl); (exact (ah (a8 _ _) 1).trans rfl); rintro e w' ⟨rfl, ⟨n, rfl⟩⟩; dsimp only))
 go_wp2
 go_ret
 subst hq
 exact ⟨rfl, Z26⟩
theorem am.cr_drops (l : List S51) (x : Int) (h0 : 0 ≤ x) (h : x < (l.length : Int)) : l.drop x.toNat = aA l x :: l.drop (x + 1).toNat := by
 have hl : x.toNat < l.length := by omega
 rw [List.drop_eq_getElem_cons hl, show (x + 1).toNat = x.toNat + 1 from by omega]
 congr 1
 unfold aA
 rw [List.getD_eq_getElem?_getD, List.getElem?_eq_getElem hl]
 rfl
theorem am.cr_step (x y : S51) (a b : List S51) : av.ord (x :: a) (y :: b) = if am.cr_cf x y = 0 then av.ord a b else am.cr_cf x y := by
 unfold am.cr_cf
 rw [av.ord]
 by_cases c1 : x.f0 < y.f0
 ·simp [c1]
 by_cases c2 : x.f0 > y.f0
 ·simp [c1, c2]
 by_cases c3 : x.f1 < y.f1
 ·simp [c1, c2, c3]
 by_cases c4 : x.f1 > y.f1
 ·simp [c1, c2, c3, c4]
 ·simp [c1, c2, c3, c4]
theorem am.callsG (A0 : Option Addr) (c0 : Nat) (l0 : List (S51)) (A1 : Option Addr) (c1 : Nat) (l1 : List (S51)) (r : Int) (w : World) (hr0 : Kd.C k51 w A0 l0.length l0) (hc0 : l0.length ≤ c0) (hr1 : Kd.C k51 w A1 l1.length l1) (hc1 : l1.length ≤ c1) (h : bA.f l0 l1 = some r) :
  Calls Tryz.prog 43 #[.slice A0 l0.length c0, .slice A1 l1.length c1, .func (.func 44) #[] #[]] w fun e w' => e = .returned (.int .i64 r) ∧ am.BG w w' := by
 have HR0 := gz hr0
 have HR1 := gz hr1
 clear hr0 hc0 hr1 hc1
 have HB := gz (am.BG.refl w)
 have HL := gz (show av.ord (l0.drop (0 : Int).toNat) (l1.drop (0 : Int).toNat) = r from Option.some.inj h)
 clear h
 go_enter Tryz.func43, Tryz.ntmps43
 go_wp2
 go_loopw [13] (fun i wr => ∃ (x : Int), 0 ≤ x ∧ x ≤ (l0.length : Int) ∧ x ≤ (l1.length : Int) ∧ i = .int .i64 x ∧ aa (am.BG w wr) ∧ aa (av.ord (l0.drop x.toNat) (l1.drop x.toNat) = r)) (fun i _ => l0.length - (intOf i).toNat)
 case atStart => exact ⟨0, Z8, Z8, Z8, rfl, HB, HL⟩
 case round =>
  clear HB HL
  obtain ⟨x, hx0, hx1, hx2, rfl, HB, HL⟩ := hrel
  have hl := HL.out
  clear HL
  by_cases hlt : x < (l0.length : Int)
  ·have d1 : decide (x < (l0.length : Int)) = true := decide_eq_true hlt
   by_cases hlu : x < (l1.length : Int)
   ·have d2 : decide ((l1.length : Int) ≤ x) = false := decide_eq_false Z8
    have d3 : decide (x ≥ (l1.length : Int)) = false := decide_eq_false Z8
    rw [am.cr_drops l0 x hx0 hlt, am.cr_drops l1 x hx0 hlu, am.cr_step] at hl
    obtain ⟨ad, e0, h0, h1⟩ := cI (Kd.C_below HR0.out HB.out.1) x hx0 hlt
    obtain ⟨be, e1, g0, g1⟩ := cI (Kd.C_below HR1.out HB.out.1) x hx0 hlu
    cases e0
    cases e1
    obtain ⟨⟨t0, t1⟩, ht⟩ : ∃ t, aA l0 x = t := ⟨_, rfl⟩
    obtain ⟨⟨s0, s1⟩, hs⟩ : ∃ t, aA l1 x = t := ⟨_, rfl⟩
    rw [ht] at hl h0 h1
    rw [hs] at hl g0 g1
    clear ht hs
    dsimp only at h0 h1 g0 g1
    have hw : wrap64 (x + 1) = x + 1 := by unfold wrap64; have := HR0.out.2.1; omega
    have hw := gz hw
    obtain ⟨u, hu⟩ : ∃ u, am.cr_cf ⟨t0, t1⟩ ⟨s0, s1⟩ = u := ⟨_, rfl⟩
    rw [hu] at hl
    replace hl := gz hl
    replace hu := gz hu
    have p0 := eq_true hx0
    have q0 := eq_true hlt
    have q1 := eq_true hlu
    have n0 := World.new_ne wr _ h0
    have n1 := World.new_ne wr _ h1
    have n2 := World.new_ne wr _ g0
    have n3 := World.new_ne wr _ g1
    have f0 := ((ak (Below.refl wr.heap.size wr) (.cells #[.int .i32 t0, .int .i32 t1] 51)).cell (World.block_lt_of_cell? wr _ g0)).trans g0
    have f1 := ((ak (Below.refl wr.heap.size wr) (.cells #[.int .i32 t0, .int .i32 t1] 51)).cell (World.block_lt_of_cell? wr _ g1)).trans g1
    by_cases cu : u = 0
    ·have b1 : (u != 0) = false := bne_eq_false_iff_eq.mpr cu
     have hr := hl.out
     rw [if_pos cu] at hr
     clear hl cu
     replace hr := gz hr
     go_wp2_with fail
     refine (am.cr_closure t0 t1 s0 s1 _ hu.out _).mono ?_
     rintro e W1 ⟨rfl, hb⟩
     have HB2 := gz (show am.BG w W1 from am.BG.step (by repeat (first | exact HB.out | apply am.BG.alloc)) hb)
     clear hb
     go_wp2
     go_roundw
     case rel => exact ⟨x + 1, Z8, Z8, Z8, by rw [hw.out], HB2, hr⟩
     case measure => simp [intOf]; omega
    ·have b1 : (u != 0) = true := bne_iff_ne.mpr cu
     obtain rfl : u = r := by have := hl.out; rwa [if_neg cu] at this
     clear hl cu
     go_wp2_with fail
     refine (am.cr_closure t0 t1 s0 s1 _ hu.out _).mono ?_
     rintro e W1 ⟨rfl, hb⟩
     have HB2 := gz (show am.BG w W1 from am.BG.step (by repeat (first | exact HB.out | apply am.BG.alloc)) hb)
     clear hb
     go_wp2
     go_ret
     exact ⟨rfl, HB2.out⟩
   ·have d2 : decide ((l1.length : Int) ≤ x) = true := decide_eq_true Z8
    have d3 : decide (x ≥ (l1.length : Int)) = true := decide_eq_true Z8
    rw [am.cr_drops l0 x hx0 hlt, List.drop_eq_nil_of_le (show l1.length ≤ x.toNat by omega)] at hl
    unfold av.ord at hl
    subst hl
    obtain ⟨ad, e0, h0, h1⟩ := cI (Kd.C_below HR0.out HB.out.1) x hx0 hlt
    cases e0
    have p0 := eq_true hx0
    have q0 := eq_true hlt
    go_wp2
    go_ret
    exact ⟨rfl, Z26⟩
  ·have d1 : decide (x < (l0.length : Int)) = false := decide_eq_false hlt
   rw [List.drop_eq_nil_of_le (show l0.length ≤ x.toNat by omega)] at hl
   by_cases hlu : x < (l1.length : Int)
   ·have d3 : decide ((l0.length : Int) < (l1.length : Int)) = true := decide_eq_true Z8
    rw [am.cr_drops l1 x hx0 hlu] at hl
    unfold av.ord at hl
    subst hl
    go_wp2
    go_ret
    exact ⟨rfl, HB.out⟩
   ·have d3 : decide ((l0.length : Int) < (l1.length : Int)) = false := decide_eq_false Z8
    rw [List.drop_eq_nil_of_le (show l1.length ≤ x.toNat by omega)] at hl
    unfold av.ord at hl
    subst hl
    go_wp2
    go_ret
    exact ⟨rfl, HB.out⟩
def am.OrdAt (j : Nat) : Prop := ∀ (a0 : Int) (A1 : Option Addr) (c1 : Nat) (l1 : List S51) (A2 : Option Addr) (c2 : Nat) (l2 : List S25) (b0 : Int) (B1 : Option Addr) (d1 : Nat) (m1 : List S51) (B2 : Option Addr) (d2 : Nat) (m2 : List S25) (r : Int) (w : World) (_ : Kd.C k51 w A1 l1.length l1) (_ : l1.length ≤ c1) (_ : Kd.C k25 w A2 l2.length l2) (_ : l2.length ≤ c2) (_ : Kd.C k51 w B1 m1.length m1) (_ : m1.length ≤ d1) (_ : Kd.C k25 w B2 m2.length m2) (_ : m2.length ≤ d2) (_ : aj.f j a0 l1 l2 b0 m1 m2 = some r),
 Calls Tryz.prog 25 #[.agg #[.int .i64 a0, .slice A1 l1.length c1, .slice A2 l2.length c2], .agg #[.int .i64 b0, .slice B1 m1.length d1, .slice B2 m2.length d2]] w fun e w' => e = .returned (.int .i64 r) ∧ am.BG w w'
theorem am.cmpKids (k : Nat) (IH : ∀ j, j < k → am.OrdAt j) (a0 : Int) (a1 : List S51) (b0 : Int) (b1 : List S51) (A0 : Option Addr) (c0 : Nat) (l0 : List S25) (A1 : Option Addr) (c1 : Nat) (l1 : List S25) (r : Int) (w : World) (hr0 : Kd.C k25 w A0 l0.length l0) (hc0 : l0.length ≤ c0) (hr1 : Kd.C k25 w A1 l1.length l1) (hc1 : l1.length ≤ c1) (h : aj.l0 k 0 a0 a1 l0 b0 b1 l1 = some r) :
  Calls Tryz.prog 47 #[.slice A0 l0.length c0, .slice A1 l1.length c1, .func (.func 25) #[] #[]] w fun e w' => e = .returned (.int .i64 r) ∧ am.BG w w' := by
 have HR0 := gz hr0
 have HR1 := gz hr1
 have HC0 := gz hc0
 have HC1 := gz hc1
 have HL := gz h
 have HB := gz (am.BG.refl w)
 have hIH := gz IH
 clear hr0 hr1 hc0 hc1 h IH
 go_enter Tryz.func47, Tryz.ntmps47
 go_wp2
 go_loopg [13] k (fun kq i wr => ∃ (x : Int), 0 ≤ x ∧ x ≤ (l0.length : Int) ∧ x ≤ (l1.length : Int) ∧ i = .int .i64 x ∧ aa (kq ≤ k) ∧ aa (am.BG w wr) ∧ aa (aj.l0 kq x a0 a1 l0 b0 b1 l1 = some r))
 case atStart => exact ⟨0, Z8, Z8, Z8, rfl, ⟨Nat.le_refl _⟩, HB, HL⟩
 case round =>
  clear HB HL
  obtain ⟨x, hx0, hx1, hx2, rfl, HK, HB, HL⟩ := hrel
  have hl := HL.out
  clear HL
  cases gk with
  | zero => exact absurd hl (by simp [aj.l0])
  | succ gk =>
  simp only [aj.l0] at hl
  by_cases hlt : x < (l0.length : Int)
  ·have d1 : decide (x < (l0.length : Int)) = true := decide_eq_true hlt
   rw [if_pos hlt] at hl
   cases gk with
   | zero => exact absurd hl (by simp [aj.j1])
   | succ gk =>
   obtain ⟨ad, E1, e1, E2, e2, e0, h0, h1, h2, hq1, hC1, hq2, hC2⟩ := d8 (Kd.C_below HR0.out HB.out.1) x hx0 hlt
   cases e0
   by_cases hlu : x < (l1.length : Int)
   ·have d2 : decide ((l1.length : Int) ≤ x) = false := decide_eq_false Z8
    have d3 : decide (x ≥ (l1.length : Int)) = false := decide_eq_false Z8
    simp only [aj.j1, decide_eq_true hlu, if_true, if_pos hx0, if_pos hlt, if_pos hlu] at hl
    obtain ⟨u, hu, hl⟩ := Option.bind_eq_some_iff.mp hl
    obtain ⟨be, G1, s1, G2, s2, e0, g0, g1, g2, hp1, hD1, hp2, hD2⟩ := d8 (Kd.C_below HR1.out HB.out.1) x hx0 hlu
    cases e0
    obtain ⟨⟨t0, t1, t2⟩, ht⟩ : ∃ t, an l0 x = t := ⟨_, rfl⟩
    obtain ⟨⟨v0, v1, v2⟩, hv⟩ : ∃ t, an l1 x = t := ⟨_, rfl⟩
    rw [ht] at hu h0 h1 h2 hq1 hC1 hq2 hC2
    rw [hv] at hu g0 g1 g2 hp1 hD1 hp2 hD2
    clear ht hv
    dsimp only at h0 h1 h2 g0 g1 g2 hu hq1 hC1 hq2 hC2 hp1 hD1 hp2 hD2
    have hw : wrap64 (x + 1) = x + 1 := by unfold wrap64; have := HR0.out.2.1; omega
    rw [hw] at hl
    have hw := gz hw
    have hi := gz (hIH.out gk Z20)
    replace hl := gz hl
    replace hu := gz hu
    have Q1 := gz hC1
    have Q2 := gz hC2
    have Q3 := gz hD1
    have Q4 := gz hD2
    have q1 := gz hq1
    have q2 := gz hq2
    have q3 := gz hp1
    have q4 := gz hp2
    clear hC1 hC2 hD1 hD2 hq1 hq2 hp1 hp2
    have p0 := eq_true hx0
    have r0 := eq_true hlt
    have r1 := eq_true hlu
    have n0 := World.new_ne wr _ h0
    have n1 := World.new_ne wr _ h1
    have n2 := World.new_ne wr _ h2
    have n3 := World.new_ne wr _ g0
    have n4 := World.new_ne wr _ g1
    have n5 := World.new_ne wr _ g2
    have bx := (ak (Below.refl wr.heap.size wr) (.cells #[.int .i64 t0, .slice E1 t1.length e1, .slice E2 t2.length e2] 25))
    have f0 := (bx.cell (World.block_lt_of_cell? wr _ g0)).trans g0
    have f1 := (bx.cell (World.block_lt_of_cell? wr _ g1)).trans g1
    have f2 := (bx.cell (World.block_lt_of_cell? wr _ g2)).trans g2
    clear bx
    have bz := gz (show am.BG wr ((wr.alloc (.cells #[.int .i64 t0, .slice E1 t1.length e1, .slice E2 t2.length e2] 25)).alloc (.cells #[.int .i64 v0, .slice G1 v1.length s1, .slice G2 v2.length s2] 25)) from by repeat (first | exact am.BG.refl _ | apply am.BG.alloc))
    by_cases cu : u = 0
    ·have b1 : (u != 0) = false := bne_eq_false_iff_eq.mpr cu
     have hr := hl.out
     rw [if_pos cu] at hr
     clear hl cu
     replace hr := gz hr
     go_wp2_with fail
     refine (hi.out _ _ _ _ _ _ _ _ _ _ _ _ _ _ u _ (Kd.C_below Q1.out bz.out.1) q1.out (Kd.C_below Q2.out bz.out.1) q2.out (Kd.C_below Q3.out bz.out.1) q3.out (Kd.C_below Q4.out bz.out.1) q4.out hu.out).mono ?_
     rintro e W1 ⟨rfl, hb⟩
     have HB2 := gz (am.BG.step HB.out (am.BG.step bz.out hb))
     clear hb
     go_wp2
     go_roundg gk
     case measure => omega
     case rel => exact ⟨x + 1, Z8, Z8, Z8, by rw [hw.out], ⟨Z20⟩, HB2, hr⟩
    ·have b1 : (u != 0) = true := bne_iff_ne.mpr cu
     obtain rfl : u = r := by have h9 := hl.out; rw [if_neg cu] at h9; exact Option.some.inj h9
     clear hl cu
     go_wp2_with fail
     refine (hi.out _ _ _ _ _ _ _ _ _ _ _ _ _ _ u _ (Kd.C_below Q1.out bz.out.1) q1.out (Kd.C_below Q2.out bz.out.1) q2.out (Kd.C_below Q3.out bz.out.1) q3.out (Kd.C_below Q4.out bz.out.1) q4.out hu.out).mono ?_
     rintro e W1 ⟨rfl, hb⟩
     have HB2 := gz (am.BG.step HB.out (am.BG.step bz.out hb))
     clear hb
     go_wp2
     go_ret
     exact ⟨rfl, HB2.out⟩
   ·have d2 : decide ((l1.length : Int) ≤ x) = true := decide_eq_true Z8
    have d3 : decide (x ≥ (l1.length : Int)) = true := decide_eq_true Z8
    simp only [aj.j1, decide_eq_false hlu, if_neg (show ¬ (false = true) by decide), if_neg (show ¬ (l0.length : Int) < (l1.length : Int) by omega), if_pos (show (l0.length : Int) > (l1.length : Int) by omega)] at hl
    obtain rfl : 1 = r := Option.some.inj hl
    clear hl
    have p0 := eq_true hx0
    have q0 := eq_true hlt
    go_wp2
    go_ret
    exact ⟨rfl, Z26⟩
  ·have d1 : decide (x < (l0.length : Int)) = false := decide_eq_false hlt
   rw [if_neg hlt] at hl
   cases gk with
   | zero => exact absurd hl (by simp [aj.j1])
   | succ gk =>
   simp only [aj.j1, if_neg (show ¬ (false = true) by decide)] at hl
   by_cases hlu : (l0.length : Int) < (l1.length : Int)
   ·have d3 : decide ((l0.length : Int) < (l1.length : Int)) = true := decide_eq_true hlu
    rw [if_pos hlu] at hl
    obtain rfl : -1 = r := Option.some.inj hl
    go_wp2
    go_ret
    exact ⟨rfl, HB.out⟩
   ·have d3 : decide ((l0.length : Int) < (l1.length : Int)) = false := decide_eq_false hlu
    rw [if_neg hlu, if_neg Z8] at hl
    obtain rfl : 0 = r := Option.some.inj hl
    go_wp2
    go_ret
    exact ⟨rfl, HB.out⟩
theorem am.cmpInt (x y r : Int) (h : (if x < y then (-1 : Int) else if x > y then 1 else 0) = r) (w : World) : Calls Tryz.prog 42 #[.int .i64 x, .int .i64 y] w fun e w' => e = .returned (.int .i64 r) ∧ Drawn0 w w' := by
 refine fo.calls ?_
 unfold fo.f bU.f
 have e : ∀ z : Int, (z != z) = false := fun z => by simp
 simp only [e, Option.bind_some, Bool.false_eq_true, if_false]
 rw [← h]
 split
 ·rfl
 ·split <;> rfl
theorem am.ordStep (k : Nat) (IH : ∀ j, j < k → am.OrdAt j) : am.OrdAt k := by
 intro a0 A1 c1 l1 A2 c2 l2 b0 B1 d1 m1 B2 d2 m2 r w hr1 hc1 hr2 hc2 hs1 hd1 hs2 hd2 h
 cases k with
 | zero => exact absurd h (by simp [aj.f])
 | succ k =>
 obtain ⟨u, hu⟩ : ∃ u : Int, (if a0 < b0 then (-1 : Int) else if a0 > b0 then 1 else 0) = u := ⟨_, rfl⟩
 have HU := gz (am.cmpInt a0 b0 u hu)
 have bz := gz (show am.BG w ((w.alloc (.cells #[.int .i64 a0, .slice A1 l1.length c1, .slice A2 l2.length c2] 25)).alloc (.cells #[.int .i64 b0, .slice B1 m1.length d1, .slice B2 m2.length d2] 25)) from by repeat (first | exact am.BG.refl _ | apply am.BG.alloc))
 have K1 := gz (au (a8 w (.cells #[.int .i64 a0, .slice A1 l1.length c1, .slice A2 l2.length c2] 25)) (.cells #[.int .i64 b0, .slice B1 m1.length d1, .slice B2 m2.length d2] 25))
 have K2 := gz (a8 (w.alloc (.cells #[.int .i64 a0, .slice A1 l1.length c1, .slice A2 l2.length c2] 25)) (.cells #[.int .i64 b0, .slice B1 m1.length d1, .slice B2 m2.length d2] 25))
 have C1 := gz (Kd.C_below hr1 bz.out.1)
 have C2 := gz (Kd.C_below hr2 bz.out.1)
 have D1 := gz (Kd.C_below hs1 bz.out.1)
 have D2 := gz (Kd.C_below hs2 bz.out.1)
 have q1 := gz hc1
 have q2 := gz hc2
 have q3 := gz hd1
 have q4 := gz hd2
 have hk := gz (am.cmpKids k (fun j hj => IH j Z8))
 clear hr1 hr2 hs1 hs2 hc1 hc2 hd1 hd2 IH
 have hs : (w.alloc (.cells #[.int .i64 a0, .slice A1 l1.length c1, .slice A2 l2.length c2] 25)).heap.size = w.heap.size + 1 := Array.size_push _
 have K2' := K2.out
 rw [hs] at K2'
 replace K2' := gz K2'
 clear K2 hs
 simp only [aj.f] at h
 go_enter Tryz.func25, Tryz.ntmps25
 go_upto_region 1 with (fail)
 generalize ((w.alloc (.cells #[.int .i64 a0, .slice A1 l1.length c1, .slice A2 l2.length c2] 25)).alloc (.cells #[.int .i64 b0, .slice B1 m1.length d1, .slice B2 m2.length d2] 25)) = wx at bz K1 K2' C1 C2 D1 D2 ⊢
 generalize w.heap.size + 1 = p at K2' ⊢
 generalize hq : w.heap.size = q at K1 ⊢
 have x0 := (ah K1.out 0).trans rfl
 have x1 := (ah K1.out 1).trans rfl
 have x2 := (ah K1.out 2).trans rfl
 have y0 := (ah K2'.out 0).trans rfl
 have y1 := (ah K2'.out 1).trans rfl
 have y2 := (ah K2'.out 2).trans rfl
 by_cases cu : u = 0
 ·have b1 : (u != 0) = false := bne_eq_false_iff_eq.mpr cu
  have hne : ¬ a0 < b0 ∧ ¬ a0 > b0 := by
   constructor
   ·intro c; rw [if_pos c] at hu; omega
   ·intro c; rw [if_neg Z8, if_pos c] at hu; omega
  rw [if_neg hne.1, if_neg hne.2] at h
  obtain ⟨v, hv, h⟩ := Option.bind_eq_some_iff.mp h
  have HV := gz (show bA.f l1 m1 = some v from hv)
  by_cases cv : v = 0
  ·have b2 : (v != 0) = false := bne_eq_false_iff_eq.mpr cv
   rw [if_pos cv] at h
   replace h := gz h
   clear hu hne cu cv hv
   go_wp2_with (first | (go_at_call 42; refine (HU.out _).mono ?_; rintro e1 w1 ⟨rfl, ⟨n1, rfl⟩⟩) | (go_at_call 43; with_reducible refine (am.callsG A1 c1 l1 B1 d1 m1 v _ (Kd.C_drewN C1.out _) q1.out (Kd.C_drewN D1.out _) q3.out HV.out).mono ?_; rintro e2 w2 ⟨rfl, hb2'⟩; have hb2 : am.BG wx w2 := am.BG.step (am.BG.drewN (am.BG.refl _) n1) hb2'; clear hb2'; have k1 := ao K1.out hb2.1; have k2 := ao K2'.out hb2.1; have R2 := gz (Kd.C_below C2.out hb2.1); have S2 := gz (Kd.C_below D2.out hb2.1); have B2' := gz (am.BG.step bz.out hb2); clear hb2 x0 x1 x2 y0 y1 y2; have x2 := (ah k1 2).trans rfl; have y2 := (ah k2 2).trans rfl; clear k1 k2))
   refine (hk.out a0 l1 b0 m1 A2 c2 l2 B2 d2 m2 r _ R2.out q2.out S2.out q4.out h.out).mono ?_
   rintro e3 w3 ⟨rfl, hb3⟩
   have B3 := gz (am.BG.step B2'.out hb3)
   clear hb3
   go_wp2
   go_ret
   exact ⟨rfl, by subst hq; exact B3.out⟩
  ·have b2 : (v != 0) = true := bne_iff_ne.mpr cv
   rw [if_neg cv] at h
   obtain rfl : v = r := Option.some.inj h
   clear hu hne cu cv hv h
   go_wp2_with (first | (go_at_call 42; refine (HU.out _).mono ?_; rintro e1 w1 ⟨rfl, ⟨n1, rfl⟩⟩) | (go_at_call 43; with_reducible refine (am.callsG A1 c1 l1 B1 d1 m1 v _ (Kd.C_drewN C1.out _) q1.out (Kd.C_drewN D1.out _) q3.out HV.out).mono ?_; rintro e2 w2 ⟨rfl, hb2'⟩; have hb2 : am.BG wx w2 := am.BG.step (am.BG.drewN (am.BG.refl _) n1) hb2'; clear hb2'; have B2' := gz (am.BG.step bz.out hb2); clear hb2 x0 x1 x2 y0 y1 y2))
   go_ret
   exact ⟨rfl, by subst hq; exact B2'.out⟩
 ·have b1 : (u != 0) = true := bne_iff_ne.mpr cu
  have hr : u = r := by
   by_cases c : a0 < b0
   ·rw [if_pos c] at hu h; rw [← hu]; exact Option.some.inj h
   ·by_cases c2 : a0 > b0
    ·rw [if_neg c, if_pos c2] at hu h; rw [← hu]; exact Option.some.inj h
    ·rw [if_neg c, if_neg c2] at hu; exact absurd hu.symm cu
  subst hr
  clear hu h cu
  go_wp2_with (go_at_call 42; refine (HU.out _).mono ?_; rintro e1 w1 ⟨rfl, ⟨n1, rfl⟩⟩)
  go_ret
  exact ⟨rfl, by subst hq; exact am.BG.drewN bz.out _⟩
theorem am.ordAll (k : Nat) : am.OrdAt k := Nat.strongRecOn k (fun k IH => am.ordStep k IH)
def am.f (k : Nat) (a0_0 : Int) (l0_1 : List S51) (l0_2 : List S25) (a1_0 : Int) (l1_1 : List S51) (l1_2 : List S25) : Option Int := aj.f k a0_0 l0_1 l0_2 a1_0 l1_1 l1_2
theorem am.mono : ∀ a0 a1 a2 a3 a4 a5 k, LeO (am.f k a0 a1 a2 a3 a4 a5) (am.f (k + 1) a0 a1 a2 a3 a4 a5) := aj.mono
theorem am.calls (k : Nat) (a0_0 : Int) (A0_1 : Option Addr) (c0_1 : Nat) (l0_1 : List S51) (A0_2 : Option Addr) (c0_2 : Nat) (l0_2 : List S25) (a1_0 : Int) (A1_1 : Option Addr) (c1_1 : Nat) (l1_1 : List S51) (A1_2 : Option Addr) (c1_2 : Nat) (l1_2 : List S25) (r : Int) (w : World) (hr0_1 : Kd.C k51 w A0_1 l0_1.length l0_1) (hc0_1 : l0_1.length ≤ c0_1) (hr0_2 : Kd.C k25 w A0_2 l0_2.length l0_2) (hc0_2 : l0_2.length ≤ c0_2) (hr1_1 : Kd.C k51 w A1_1 l1_1.length l1_1) (hc1_1 : l1_1.length ≤ c1_1) (hr1_2 : Kd.C k25 w A1_2 l1_2.length l1_2) (hc1_2 : l1_2.length ≤ c1_2) (h : am.f k a0_0 l0_1 l0_2 a1_0 l1_1 l1_2 = some r) :
  Calls Tryz.prog 25 #[.agg #[.int .i64 a0_0, .slice A0_1 l0_1.length c0_1, .slice A0_2 l0_2.length c0_2], .agg #[.int .i64 a1_0, .slice A1_1 l1_1.length c1_1, .slice A1_2 l1_2.length c1_2]] w fun e w' => e = .returned (.int .i64 r) ∧ Below w.heap.size w w' :=
 (am.ordAll k _ _ _ _ _ _ _ _ _ _ _ _ _ _ r w hr0_1 hc0_1 hr0_2 hc0_2 hr1_1 hc1_1 hr1_2 hc1_2 h).mono (fun e w' hh => ⟨hh.1, hh.2.below⟩)
def bM.l0 : Nat → Int → List (S25) → List (S25) → Int → Option ((List (S25)))
 | 0, _, _, _, _ => none
 | k + 1, x0, x1, x5, x6 => if x6 < (x1.length : Int) then (if 0 ≤ x6 then (if ((an x1 x6).f0) = x0 then (if x5.length + ((an x1 x6).f2).length < 2513169434916 then (bM.l0 k x0 x1 (x5 ++ ((an x1 x6).f2)) (wrap64 (x6 + 1))) else (none)) else (if x5.length < 2513169434916 then (bM.l0 k x0 x1 (x5 ++ [(⟨(an x1 x6).f0, (an x1 x6).f1, (an x1 x6).f2⟩ : S25)]) (wrap64 (x6 + 1))) else (none))) else (none)) else (some x5)
def bM.f (k : Nat) (a0 : Int) (l1 : List (S25)) : Option ((List (S25))) := bM.l0 k a0 l1 ([] : List (S25)) 0
theorem bM.calls (k : Nat) (a0 : Int) (P1_ : Nat → Prop) (A1 : Option Addr) (c1 : Nat) (l1 : List (S25)) (r : List (S25)) (w : World) (hs1 : Kd.V k25 25 w w.heap.size (fun k_ => P1_ k_) (.slice A1 l1.length c1) l1) (h : bM.f k a0 l1 = some r) :
  Calls Tryz.prog 97 #[.int .i64 a0, .slice A1 l1.length c1] w fun e w' => ∃ v0_ : Value, e = .returned (v0_) ∧ Kd.N k25 25 w' w.heap.size (fun k_ => (P1_ k_ ∨ w.heap.size ≤ k_)) v0_ r ∧ Below w.heap.size w w' := by
 have H1 := gz hs1
 have H := gz h
 clear hs1 h
 unfold bM.f at H
 go_enter Tryz.func97, Tryz.ntmps97
 go_wp2_with fail
 go_loopg [5, 6] k (fun kq v5 v6 wr => ∃ (x : List S25) (i : Int), v6 = .int .i64 i ∧ aa (bM.l0 kq a0 l1 x i = some r) ∧ aa (kq ≤ k) ∧ aa (Kd.N k25 25 wr w.heap.size (fun k => (P1_ k ∧ k < w.heap.size) ∨ w.heap.size ≤ k) v5 x) ∧ aa (Below w.heap.size w wr))
 case atStart => exact ⟨[], 0, rfl, H, ⟨Nat.le_refl _⟩, ⟨Kd.N_nil _ _ _ _ _⟩, ⟨Below.refl _ _⟩⟩
 case round =>
  clear H
  obtain ⟨x, i, rfl, HA, HK, HO, HB⟩ := hrel
  cases gk with
  | zero => exact absurd HA.out (by simp [bM.l0])
  | succ k1 =>
  have h := HA.out
  clear HA
  simp only [bM.l0] at h
  by_cases c : i < (l1.length : Int)
  ·rw [if_pos c] at h
   have d := decide_eq_true c
   by_cases hi0 : 0 ≤ i
   case neg => rw [if_neg hi0] at h; cases h
   rw [if_pos hi0] at h
   obtain ⟨ad, X1, x1, X2, x2, e0, g0, g1, g2, F1, F2⟩ := V_el (vO H1 HB.out) i hi0 c
   cases e0
   generalize an l1 i = s at h g0 g1 g2 F1 F2
   obtain ⟨t0, t1, t2⟩ := s
   dsimp only at h g0 g1 g2 F1 F2
   have hn := gz (fun k (hk : P1_ k ∧ k < w.heap.size) => (⟨.inl hk, fun q => by have := Kd.N_base HO.out k q.symm; omega⟩ : ((P1_ k ∧ k < w.heap.size) ∨ w.heap.size ≤ k) ∧ some k ≠ u5.ownBlock))
   have hf := gz (fun k (hk : wr.heap.size ≤ k) => (.inr (Nat.le_trans HB.out.size hk) : (P1_ k ∧ k < w.heap.size) ∨ w.heap.size ≤ k))
   by_cases ct : t0 = a0
   ·rw [if_pos ct] at h
    simp only [Option.ite_none_right_eq_some] at h
    have L := gz h.1
    replace h := gz h.2
    subst ct
    go_wp2_with (first | ((with_reducible refine aK (b := .append) (xs := #[.tmp 20, .tmp 25]) rfl ?_); at_builtin; refine apR (w0 := w) (.tmp 20) (.tmp 25) HO.out F2.out hn.out hf.out HB.out HB.out.size L.out ?_; intro v1 w1 n1 b1 g1; clear g1))
    go_roundg k1
    case measure => have := HK.out; omega
    case rel => exact ⟨_, wrap64 (i + 1), rfl, h, ⟨Z20⟩, ⟨n1⟩, ⟨b1⟩⟩
   ·rw [if_neg ct] at h
    have dt := e3 ct
    simp only [Option.ite_none_right_eq_some] at h
    have L := gz h.1
    replace h := gz h.2
    clear ct
    go_wp2_with (first | ((with_reducible refine aK (b := .append) (xs := #[.tmp 27, .tmp 32]) rfl ?_); at_builtin; refine apN (w0 := w) (x := ⟨t0, t1, t2⟩) (.tmp 27) (.tmp 32) HO.out F1.out F2.out hn.out hf.out HB.out HB.out.size L.out ?_; intro v1 w1 n1 b1 g1; clear g1))
    go_roundg k1
    case measure => have := HK.out; omega
    case rel => exact ⟨_, wrap64 (i + 1), rfl, h, ⟨Z20⟩, ⟨n1⟩, ⟨b1⟩⟩
  ·rw [if_neg c] at h
   have d := decide_eq_false c
   obtain rfl := Option.some.inj h
   go_wp2
   go_ret
   exact ⟨_, rfl, Kd.N_mono HO.out (fun k hk => Or.elim hk (fun h => .inl h.1) .inr), HB.out⟩
def bJ.l0 : Nat → List (S25) → List (List (S51)) → Int → Option ((List (List (S51))))
 | 0, _, _, _ => none
 | k + 1, x0, x3, x4 => if x4 < (x0.length : Int) then (if 0 ≤ x4 then (if ((an x0 x4).f0) = 2 then (if x3.length < 5864062014805 then (bJ.l0 k x0 (x3 ++ [(an x0 x4).f1]) (wrap64 (x4 + 1))) else (none)) else (bJ.l0 k x0 x3 (wrap64 (x4 + 1)))) else (none)) else (some x3)
def bJ.f (k : Nat) (l0 : List (S25)) : Option ((List (List (S51)))) := bJ.l0 k l0 ([] : List (List (S51))) 0
theorem bJ.calls (k : Nat) (P0_ : Nat → Prop) (A0 : Option Addr) (c0 : Nat) (l0 : List (S25)) (r : List (List (S51))) (w : World) (hs0 : Kd.V k25 25 w w.heap.size (fun k_ => P0_ k_) (.slice A0 l0.length c0) l0) (h : bJ.f k l0 = some r) :
  Calls Tryz.prog 98 #[.slice A0 l0.length c0] w fun e w' => ∃ v0_ : Value, e = .returned (v0_) ∧ Kd.N (Kd.slice 51 k51) 22 w' w.heap.size (fun k_ => (P0_ k_ ∨ w.heap.size ≤ k_)) v0_ r ∧ Below w.heap.size w w' := by
 have HO0 := gz (show Kd.V k25 25 w w.heap.size (fun k_ => (P0_ k_ ∨ w.heap.size ≤ k_)) (.slice A0 l0.length c0) l0 from Kd.V_mono hs0 (fun k_ hk => .inl hk))
 have HB := gz (Below.refl w.heap.size w)
 have H : (bJ.l0 k l0 ([] : List (List (S51))) 0) = some r := h
 clear h
 have H' := gz H
 clear H
 go_enter Tryz.func98, Tryz.ntmps98
 go_wp2
 go_loopg [3, 4] k (fun kq v3 v4 w' => ∃ (x3_1 : List (List (S51))) (x4_1 : Int), v4 = .int .i64 x4_1 ∧ aa (bJ.l0 kq l0 x3_1 x4_1 = some r) ∧ aa (kq ≤ k) ∧ aa (Kd.V k25 25 w' w.heap.size (fun k_ => (P0_ k_ ∨ w.heap.size ≤ k_) ∧ some k_ ≠ (v3 : Value).ownBlock) (.slice A0 l0.length c0) l0) ∧ aa (Kd.N (Kd.slice 51 k51) 22 w' w.heap.size (fun k_ => (P0_ k_ ∨ w.heap.size ≤ k_)) v3 x3_1) ∧ aa (Below w.heap.size w w'))
 case atStart => exact ⟨(([] : List (List (S51)))), (0), Z2, H', ⟨Nat.le_refl _⟩, ⟨by (with_reducible repeat (first | apply Kd.V_alloc | apply Kd.V_drewN | apply Kd.V_drew)); exact Kd.V_mono HO0.out (fun _ hk => ⟨hk, (by simp [Value.ownBlock])⟩)⟩, ⟨by first | exact Kd.S_nil _ _ _ _ _ | exact Kd.N_nil _ _ _ _ _ | exact Kd.V_nil _ _ _ _ _ | exact Kd.Q_nil _ _ _ _ _ | exact Kd.R_nil _ _ _ _ _⟩, ⟨Z0⟩⟩
 case round =>
  clear H'
  obtain ⟨x3_1, x4_1, rfl, HA, HK1, HO_0, HO_3, HB⟩ := hrel
  cases gk with
  | zero => exact absurd HA.out (by simp [bJ.l0])
  | succ k1 =>
   have H := HA.out
   clear HA
   simp only [bJ.l0] at H
   by_cases c2 : x4_1 < (l0.length : Int)
   ·rw [if_pos c2] at H
    have c2b0 := decide_eq_true c2
    clear c2
    by_cases c3 : 0 ≤ x4_1
    ·rw [if_pos c3] at H
     have c3b0 := decide_eq_true c3
     clear c3
     by_cases c4 : ((an l0 x4_1).f0) = 2
     ·rw [if_pos c4] at H
      have c4b0 := e1 c4
      have c4b1 := e2 c4
      clear c4
      by_cases c5 : x3_1.length < 5864062014805
      ·rw [if_pos c5] at H
       have LMc5 := gz c5
       clear c5
       obtain ⟨y167, hy167⟩ : ∃ y_ : List (List (S51)), y_ = (x3_1 ++ [(an l0 x4_1).f1]) := ⟨_, rfl⟩
       replace H : (bJ.l0 k1 l0 y167 (wrap64 (x4_1 + 1))) = some r := by first | (rw [hy167]; with_reducible exact H) | (have H2_ := (Option.bind_some _ _).symm.trans H; rw [hy167]; with_reducible exact H2_) | (have H2_ := (Option.bind_some _ _).symm.trans H; with_reducible exact H2_) | with_reducible exact H | (rw [hy167]; exact H) | exact H
       have Ny167 := gz hy167
       clear hy167
       have H' := gz H
       clear H
       have p165 : 0 ≤ (x4_1 : Int) := of_decide_eq_true Z4
       have q165 : x4_1 < (l0.length : Int) := of_decide_eq_true Z4
       obtain ⟨ad165, A165_1, c165_1, A165_2, c165_2, e165, hx165_0, hx165_1, hx165_2, hl165_1, hi165_1, hl165_2, hi165_2⟩ := d8 (Kd.V_reads' HO_0.out).2.2 x4_1 p165 q165
       cases e165
       obtain ⟨ce165, hce165, hMe165, hcc165⟩ := Kd.V_get HO_0.out z25 x4_1 p165 (by first | exact q165 | exact of_decide_eq_true Z4 | (have e_ := (Kd.V_reads' HO_0.out).1; omega))
       obtain ⟨ua165_1, uc165_1, ua165_2, uc165_2, rfl, ul165_1, ge165_1, ul165_2, ge165_2⟩ := dZ hMe165
       have hv165_1 := hcc165 1 _ rfl
       rw [dB _ _ 1 Z8] at hv165_1
       replace hv165_1 := Option.some.inj (hv165_1.symm.trans hx165_1)
       injection hv165_1 with hva_ hvn_ hvc_
       rw [hva_] at ge165_1
       rw [hvc_] at ul165_1
       have HL165_1 := gz (show Kd.V k51 51 _ w.heap.size _ _ ((an l0 x4_1).f1) from Kd.V_mk ul165_1 ge165_1)
       clear hva_ hvn_ hvc_ ge165_1 ul165_1
       have hv165_2 := hcc165 2 _ rfl
       rw [dB _ _ 2 Z8] at hv165_2
       replace hv165_2 := Option.some.inj (hv165_2.symm.trans hx165_2)
       injection hv165_2 with hva_ hvn_ hvc_
       rw [hva_] at ge165_2
       rw [hvc_] at ul165_2
       have HL165_2 := gz (show Kd.V k25 25 _ w.heap.size _ _ ((an l0 x4_1).f2) from Kd.V_mk ul165_2 ge165_2)
       clear hva_ hvn_ hvc_ ge165_2 ul165_2
       clear hcc165 hce165
       have HR165_1 := gz hi165_1
       have HC165_1 := gz hl165_1
       clear hi165_1 hl165_1
       have HR165_2 := gz hi165_2
       have HC165_2 := gz hl165_2
       clear hi165_2 hl165_2
       replace p165 := eq_true p165
       replace q165 := eq_true q165
       have p166 : 0 ≤ (x4_1 : Int) := of_decide_eq_true Z4
       have q166 : x4_1 < (l0.length : Int) := of_decide_eq_true Z4
       obtain ⟨ad166, A166_1, c166_1, A166_2, c166_2, e166, hx166_0, hx166_1, hx166_2, hl166_1, hi166_1, hl166_2, hi166_2⟩ := d8 (Kd.V_reads' HO_0.out).2.2 x4_1 p166 q166
       obtain rfl : ad165 = ad166 := (by injection e166)
       obtain ⟨ce166, hce166, hMe166, hcc166⟩ := Kd.V_get HO_0.out z25 x4_1 p166 (by first | exact q166 | exact of_decide_eq_true Z4 | (have e_ := (Kd.V_reads' HO_0.out).1; omega))
       obtain ⟨ua166_1, uc166_1, ua166_2, uc166_2, rfl, ul166_1, ge166_1, ul166_2, ge166_2⟩ := dZ hMe166
       have hv166_1 := hcc166 1 _ rfl
       rw [dB _ _ 1 Z8] at hv166_1
       replace hv166_1 := Option.some.inj (hv166_1.symm.trans hx166_1)
       injection hv166_1 with hva_ hvn_ hvc_
       rw [hva_] at ge166_1
       rw [hvc_] at ul166_1
       have HL166_1 := gz (show Kd.V k51 51 _ w.heap.size _ _ ((an l0 x4_1).f1) from Kd.V_mk ul166_1 ge166_1)
       clear hva_ hvn_ hvc_ ge166_1 ul166_1
       have hv166_2 := hcc166 2 _ rfl
       rw [dB _ _ 2 Z8] at hv166_2
       replace hv166_2 := Option.some.inj (hv166_2.symm.trans hx166_2)
       injection hv166_2 with hva_ hvn_ hvc_
       rw [hva_] at ge166_2
       rw [hvc_] at ul166_2
       have HL166_2 := gz (show Kd.V k25 25 _ w.heap.size _ _ ((an l0 x4_1).f2) from Kd.V_mk ul166_2 ge166_2)
       clear hva_ hvn_ hvc_ ge166_2 ul166_2
       clear hcc166 hce166
       have HR166_1 := gz hi166_1
       have HC166_1 := gz hl166_1
       clear hi166_1 hl166_1
       have HR166_2 := gz hi166_2
       have HC166_2 := gz hl166_2
       clear hi166_2 hl166_2
       replace p166 := eq_true p166
       replace q166 := eq_true q166
       have ea_ := Option.some.inj (hx165_1.symm.trans hx166_1)
       injection ea_ with ea_ en_ ec_
       subst ea_
       subst ec_
       clear en_
       have ea_ := Option.some.inj (hx165_2.symm.trans hx166_2)
       injection ea_ with ea_ en_ ec_
       subst ea_
       subst ec_
       clear en_
       go_wp2_with (first | ((with_reducible refine aK (b := .append) (xs := #[.tmp 17, .tmp 23]) rfl ?_); at_builtin; refine Kd.N_append (Kd.slice 51 k51) (w0 := w) w.heap.size rfl (.tmp 17) (.tmp 23) 102 22 (.slice none 0 0) 24 rfl Tryz.underlying102 info22 rfl Z27 Z8 u3 x3_1 ((an l0 x4_1).f1) [.slice A165_1 ((an l0 x4_1).f1).length c165_1] (fun k_ => (P0_ k_ ∨ w.heap.size ≤ k_)) (fun k_ => ((fun k_ => (P0_ k_ ∨ w.heap.size ≤ k_))) k_ ∧ some k_ ≠ (u3 : Value).ownBlock) rfl rfl ?aP (fun _ hk => hk) ?aF ?aO ?aB ?aS ?aL ?_; (case aP => exact (Kd.FK_slice_mk (Kd.V_reads' (Kd.V_mono (ok' := (fun k_ => ((fun k_ => (P0_ k_ ∨ w.heap.size ≤ k_))) k_ ∧ some k_ ≠ (u3 : Value).ownBlock)) (HL166_1.out) (fun k_ hk => ⟨hk.1, hk.2⟩))).2.1 (Kd.V_F (Kd.V_mono (ok' := (fun k_ => ((fun k_ => (P0_ k_ ∨ w.heap.size ≤ k_))) k_ ∧ some k_ ≠ (u3 : Value).ownBlock)) (HL166_1.out) (fun k_ hk => ⟨hk.1, hk.2⟩))))); (case aB => exact zB); (case aF => exact (fun k_ hk => (.inr (Nat.le_trans (aU zB) hk)))); (case aO => exact (by (with_reducible repeat (first | apply Kd.N_alloc | apply Kd.N_drewN | apply Kd.N_drew)); exact HO_3.out)); (case aS => exact (aU zB)); (case aL => have := LMc5.out; omega); intro v168 w6 ho hb hg hat; rw [← Ny167.out] at ho; have n0_ := gz (Kd.V_afterv (ok := (fun k_ => (P0_ k_ ∨ w.heap.size ≤ k_))) (by (with_reducible repeat (first | apply Kd.V_alloc | apply Kd.V_drewN | apply Kd.V_drew)); exact HO_0.out) hg hat); have n1_ := gz (Kd.V_afterv (ok := (fun k_ => (P0_ k_ ∨ w.heap.size ≤ k_))) (by (with_reducible repeat (first | apply Kd.V_alloc | apply Kd.V_drewN | apply Kd.V_drew)); exact HL165_1.out) hg hat); have n2_ := gz (Kd.V_afterv (ok := (fun k_ => (P0_ k_ ∨ w.heap.size ≤ k_))) (by (with_reducible repeat (first | apply Kd.V_alloc | apply Kd.V_drewN | apply Kd.V_drew)); exact HL165_2.out) hg hat); have n3_ := gz (Kd.V_afterv (ok := (fun k_ => (P0_ k_ ∨ w.heap.size ≤ k_))) (by (with_reducible repeat (first | apply Kd.V_alloc | apply Kd.V_drewN | apply Kd.V_drew)); exact HL166_1.out) hg hat); have n4_ := gz (Kd.V_afterv (ok := (fun k_ => (P0_ k_ ∨ w.heap.size ≤ k_))) (by (with_reducible repeat (first | apply Kd.V_alloc | apply Kd.V_drewN | apply Kd.V_drew)); exact HL166_2.out) hg hat); have n5_ := gz (hb); have n6_ := gz (ho); clear HO_0; clear HL165_1; clear HL165_2; clear HL166_1; clear HL166_2; clear HB; clear HO_3; have HO_0 := n0_; have HL165_1 := n1_; have HL165_2 := n2_; have HL166_1 := n3_; have HL166_2 := n4_; have HB := n5_; have HO169 := n6_; clear n0_ n1_ n2_ n3_ n4_ n5_ n6_; clear ho hb hg hat))
       go_roundg k1
       case measure => have := HK1.out; omega
       case rel => exact ⟨(y167), (wrap64 (x4_1 + 1)), Z2, H', ⟨Z22⟩, ⟨by (with_reducible repeat (first | apply Kd.V_alloc | apply Kd.V_drewN | apply Kd.V_drew)); exact HO_0.out⟩, ⟨by (with_reducible repeat (first | apply Kd.N_alloc | apply Kd.N_drewN | apply Kd.N_drew)); exact HO169.out⟩, ⟨Z0⟩⟩
      ·rw [if_neg c5] at H
       exact absurd H Z24
     ·rw [if_neg c4] at H
      have c4b0 := e3 c4
      have c4b1 := e4 c4
      have H' := gz H
      clear H
      have p165 : 0 ≤ (x4_1 : Int) := of_decide_eq_true Z4
      have q165 : x4_1 < (l0.length : Int) := of_decide_eq_true Z4
      obtain ⟨ad165, A165_1, c165_1, A165_2, c165_2, e165, hx165_0, hx165_1, hx165_2, hl165_1, hi165_1, hl165_2, hi165_2⟩ := d8 (Kd.V_reads' HO_0.out).2.2 x4_1 p165 q165
      cases e165
      obtain ⟨ce165, hce165, hMe165, hcc165⟩ := Kd.V_get HO_0.out z25 x4_1 p165 (by first | exact q165 | exact of_decide_eq_true Z4 | (have e_ := (Kd.V_reads' HO_0.out).1; omega))
      obtain ⟨ua165_1, uc165_1, ua165_2, uc165_2, rfl, ul165_1, ge165_1, ul165_2, ge165_2⟩ := dZ hMe165
      have hv165_1 := hcc165 1 _ rfl
      rw [dB _ _ 1 Z8] at hv165_1
      replace hv165_1 := Option.some.inj (hv165_1.symm.trans hx165_1)
      injection hv165_1 with hva_ hvn_ hvc_
      rw [hva_] at ge165_1
      rw [hvc_] at ul165_1
      have HL165_1 := gz (show Kd.V k51 51 _ w.heap.size _ _ ((an l0 x4_1).f1) from Kd.V_mk ul165_1 ge165_1)
      clear hva_ hvn_ hvc_ ge165_1 ul165_1
      have hv165_2 := hcc165 2 _ rfl
      rw [dB _ _ 2 Z8] at hv165_2
      replace hv165_2 := Option.some.inj (hv165_2.symm.trans hx165_2)
      injection hv165_2 with hva_ hvn_ hvc_
      rw [hva_] at ge165_2
      rw [hvc_] at ul165_2
      have HL165_2 := gz (show Kd.V k25 25 _ w.heap.size _ _ ((an l0 x4_1).f2) from Kd.V_mk ul165_2 ge165_2)
      clear hva_ hvn_ hvc_ ge165_2 ul165_2
      clear hcc165 hce165
      have HR165_1 := gz hi165_1
      have HC165_1 := gz hl165_1
      clear hi165_1 hl165_1
      have HR165_2 := gz hi165_2
      have HC165_2 := gz hl165_2
      clear hi165_2 hl165_2
      replace p165 := eq_true p165
      replace q165 := eq_true q165
      go_wp2
      go_roundg k1
      case measure => have := HK1.out; omega
      case rel => exact ⟨(x3_1), (wrap64 (x4_1 + 1)), Z2, H', ⟨Z22⟩, ⟨by (with_reducible repeat (first | apply Kd.V_alloc | apply Kd.V_drewN | apply Kd.V_drew)); exact HO_0.out⟩, ⟨by (with_reducible repeat (first | apply Kd.N_alloc | apply Kd.N_drewN | apply Kd.N_drew)); exact HO_3.out⟩, ⟨Z0⟩⟩
    ·rw [if_neg c3] at H
     exact absurd H Z24
   ·rw [if_neg c2] at H
    have c2b0 := decide_eq_false c2
    clear c2
    obtain rfl := Option.some.inj H
    go_wp2
    go_ret
    exact ⟨_, Z3, by (with_reducible repeat (first | apply Kd.N_alloc | apply Kd.N_drewN | apply Kd.N_drew)); exact HO_3.out, Z0⟩
def aW.l0 : Nat → List (List (S51)) → Int → Option (Int)
 | 0, _, _ => none
 | k + 1, x0, x3 => if x3 < (x0.length : Int) then (if 0 ≤ x3 then ((aE.f k (cP x0 x3)).bind fun t171 => (if t171 = 0 then (aW.l0 k x0 (wrap64 (x3 + 1))) else (some t171))) else (none)) else (some 0)
def aW.f (k : Nat) (l0 : List (List (S51))) : Option (Int) := aW.l0 k l0 0
theorem aW.calls (k : Nat) (A0 : Option Addr) (c0 : Nat) (l0 : List (List (S51))) (r : Int) (w : World) (hr0 : Kd.C (Kd.slice 51 k51) w A0 l0.length l0) (hc0 : l0.length ≤ c0) (h : aW.f k l0 = some r) :
  Calls Tryz.prog 112 #[.slice A0 l0.length c0] w fun e w' => e = .returned (.int .i64 r) ∧ Drawn0 w w' := by
 have HR0 := gz hr0
 have HC0 := gz hc0
 clear hr0 hc0
 have H : (aW.l0 k l0 0) = some r := h
 clear h
 have H' := gz H
 clear H
 go_enter Tryz.func112, Tryz.ntmps112
 go_wp2
 go_loopg [3] k (fun kq v3 w' => ∃ (x3_1 : Int), v3 = .int .i64 x3_1 ∧ aa (aW.l0 kq l0 x3_1 = some r) ∧ aa (kq ≤ k) ∧ Drawn0 w w')
 case atStart => exact ⟨(0), Z2, H', ⟨Nat.le_refl _⟩, Z6⟩
 case round =>
  clear H'
  try clear c1
  obtain ⟨x3_1, rfl, HA, HK1, ⟨m1, rfl⟩⟩ := hrel
  cases gk with
  | zero => exact absurd HA.out (by simp [aW.l0])
  | succ k1 =>
   have H := HA.out
   clear HA
   simp only [aW.l0] at H
   by_cases c2 : x3_1 < (l0.length : Int)
   ·rw [if_pos c2] at H
    have c2b0 := decide_eq_true c2
    clear c2
    by_cases c3 : 0 ≤ x3_1
    ·rw [if_pos c3] at H
     have c3b0 := decide_eq_true c3
     clear c3
     replace H := bS H
     obtain ⟨t171, A4, H⟩ := H
     try dsimp only at H
     by_cases c5 : t171 = 0
     ·rw [if_pos c5] at H
      have c5b0 := e1 c5
      have c5b1 := e2 c5
      clear c5
      have H' := gz H
      clear H
      have p170 : 0 ≤ (x3_1 : Int) := of_decide_eq_true Z4
      have q170 : x3_1 < (l0.length : Int) := of_decide_eq_true Z4
      obtain ⟨ad170, A170_0, c170_0, e170, hx170_0, hl170_0, hi170_0⟩ := fV HR0.out x3_1 p170 q170
      cases e170
      have HR170_0 := gz hi170_0
      have HC170_0 := gz hl170_0
      clear hi170_0 hl170_0
      replace p170 := eq_true p170
      replace q170 := eq_true q170
      go_wp2_with (first | ((with_reducible refine gC 82 rfl ?_); refine bl (some 15) rfl rfl Tryz.func82 Z5 rfl #[.slice A170_0 (cP l0 x3_1).length c170_0] rfl Z1 ?_; (with_reducible refine (aE.calls k1 _ _ (cP l0 x3_1) t171 _ ?side1 ?side2 A4.out).mono ?_); (case side1 => repeat (first | exact HR170_0.out | (with_reducible refine Kd.C_alloc ?_ _) | (with_reducible refine Kd.C_drewN ?_ _) | (with_reducible refine Kd.C_drew ?_))); (case side2 => exact HC170_0.out); rintro e w' ⟨rfl, ⟨nd, rfl⟩⟩; refine ⟨_, rfl, ?_⟩))
      go_roundg k1
      case measure => have := HK1.out; omega
      case rel => exact ⟨(wrap64 (x3_1 + 1)), Z2, H', ⟨Z22⟩, Z6⟩
     ·rw [if_neg c5] at H
      have c5b0 := e3 c5
      have c5b1 := e4 c5
      obtain rfl := Option.some.inj H
      have p170 : 0 ≤ (x3_1 : Int) := of_decide_eq_true Z4
      have q170 : x3_1 < (l0.length : Int) := of_decide_eq_true Z4
      obtain ⟨ad170, A170_0, c170_0, e170, hx170_0, hl170_0, hi170_0⟩ := fV HR0.out x3_1 p170 q170
      cases e170
      have HR170_0 := gz hi170_0
      have HC170_0 := gz hl170_0
      clear hi170_0 hl170_0
      replace p170 := eq_true p170
      replace q170 := eq_true q170
      go_wp2_with (first | ((with_reducible refine gC 82 rfl ?_); refine bl (some 15) rfl rfl Tryz.func82 Z5 rfl #[.slice A170_0 (cP l0 x3_1).length c170_0] rfl Z1 ?_; (with_reducible refine (aE.calls k1 _ _ (cP l0 x3_1) t171 _ ?side1 ?side2 A4.out).mono ?_); (case side1 => repeat (first | exact HR170_0.out | (with_reducible refine Kd.C_alloc ?_ _) | (with_reducible refine Kd.C_drewN ?_ _) | (with_reducible refine Kd.C_drew ?_))); (case side2 => exact HC170_0.out); rintro e w' ⟨rfl, ⟨nd, rfl⟩⟩; refine ⟨_, rfl, ?_⟩))
      go_ret
      exact ⟨Z2, Z6⟩
    ·rw [if_neg c3] at H
     exact absurd H Z24
   ·rw [if_neg c2] at H
    have c2b0 := decide_eq_false c2
    clear c2
    obtain rfl := Option.some.inj H
    go_wp2
    go_ret
    exact ⟨Z2, Z6⟩
def bw.l0 : Nat → List Int → Int → Int → Option (List Int)
 | 0, _, _, _ => none
 | k + 1, x0, x1, x5 => if x5 < (x0.length : Int) then (if 0 ≤ x5 then (if (rd x0 x5) < x1 then (bw.l0 k x0 x1 (wrap64 (x5 + 1))) else (if (rd x0 x5) = x1 then (some x0) else ((some (([] : List Int) : List Int)).bind fun y174 => (if x5 ≤ (x0.length : Int) then ((some (x0.take (x5 : Int).toNat : List Int)).bind fun y177 => (if y174.length + y177.length < 35184372088832 then ((some (y174 ++ y177 : List Int)).bind fun y181 => (if y181.length < 35184372088832 then ((some (y181 ++ [x1] : List Int)).bind fun y184 => ((some (x0.drop (x5 : Int).toNat : List Int)).bind fun y187 => (if y184.length + y187.length < 35184372088832 then (some (y184 ++ y187)) else (none)))) else (none))) else (none))) else (none))))) else (none)) else ((some (([] : List Int) : List Int)).bind fun y194 => (if 0 ≤ x5 then (if x5 ≤ (x0.length : Int) then ((some (x0.take (x5 : Int).toNat : List Int)).bind fun y197 => (if y194.length + y197.length < 35184372088832 then ((some (y194 ++ y197 : List Int)).bind fun y201 => (if y201.length < 35184372088832 then ((some (y201 ++ [x1] : List Int)).bind fun y204 => ((some (x0.drop (x5 : Int).toNat : List Int)).bind fun y207 => (if y204.length + y207.length < 35184372088832 then (some (y204 ++ y207)) else (none)))) else (none))) else (none))) else (none)) else (none)))
def bw.f (k : Nat) (l0 : List Int) (a1 : Int) : Option (List Int) := bw.l0 k l0 a1 0
theorem bw.calls (k : Nat) (P0_ : Nat → Prop) (u9000_ : Value) (l0 : List Int) (a1 : Int) (r : List Int) (w0 w : World) (hB : Below w0.heap.size w0 w) (ho0 : Kd.R (Kd.int .i32) 21 w w0.heap.size P0_ u9000_ l0) (h : bw.f k l0 a1 = some r) :
  Calls Tryz.prog 141 #[u9000_, .int .i32 a1] w fun e w' => ∃ v0_ : Value, e = .returned (v0_) ∧ Kd.R (Kd.int .i32) 21 w' w0.heap.size (fun k_ => (P0_ k_ ∨ w.heap.size ≤ k_)) v0_ r ∧ Below w0.heap.size w0 w' ∧ Kept w w' (fun k_ => P0_ k_) := by
 obtain ⟨A, c0, rfl⟩ := Kd.R_slice ho0
 have H := gz h
 have HO := gz ho0
 have HB0 := gz hB
 have HC := gz (Kd.R_reads' ho0).2.2
 have HL := gz (Kd.R_reads' ho0).2.1
 clear hB ho0 h
 unfold bw.f at H
 go_enter Tryz.func141, Tryz.ntmps141
 go_upto_block 0 with (fail)
 go_cut [5] (fun v5 wr => ∃ i : Int, v5 = .int .i64 i ∧ aa ((∃ kq, bw.l0 kq l0 a1 i = some r) ∧ (i < l0.length → a1 ≤ rd l0 i)) ∧ aa (Below w.heap.size w wr))
 case first =>
  go_wp2_with fail
  go_loopg [5] k (fun kq v5 wr => ∃ i : Int, v5 = .int .i64 i ∧ aa (bw.l0 kq l0 a1 i = some r) ∧ aa (kq ≤ k) ∧ aa (Below w.heap.size w wr))
  case atStart => exact ⟨0, rfl, H, ⟨Nat.le_refl _⟩, ⟨Below.refl _ _⟩⟩
  case round =>
   clear H
   obtain ⟨i, rfl, HA, HK, HB⟩ := hrel
   by_cases c : i < (l0.length : Int)
   ·have d := decide_eq_true c
    cases gk with
    | zero => exact absurd HA.out (by simp [bw.l0])
    | succ k1 =>
    have h := HA.out
    simp only [bw.l0, if_pos c] at h
    by_cases hi0 : 0 ≤ i
    case neg => rw [if_neg hi0] at h; cases h
    rw [if_pos hi0] at h
    obtain ⟨ad, e0, g0⟩ := Kd.at_int (Kd.C_below HC.out HB.out) i hi0 c
    cases e0
    by_cases cr : rd l0 i < a1
    ·rw [if_pos cr] at h
     have dr := decide_eq_true cr
     replace h := gz h
     clear cr HA
     go_wp2
     go_roundg k1
     case measure => have := HK.out; omega
     case rel => exact ⟨wrap64 (i + 1), rfl, h, ⟨Z20⟩, HB⟩
    ·have dr := decide_eq_false cr
     have cr := gz cr
     clear h
     go_wp2
     go_meet
     case rel => exact ⟨i, rfl, ⟨⟨_, HA.out⟩, fun _ => by have := cr.out; omega⟩, HB⟩
   ·have d := decide_eq_false c
    have c := gz c
    go_wp2
    go_meet
    case rel => exact ⟨i, rfl, ⟨⟨_, HA.out⟩, fun h => by have := c.out; omega⟩, HB⟩
 case rest =>
  clear H
  obtain ⟨i, rfl, HA, HB⟩ := hcut
  obtain ⟨⟨kq, h⟩, hn⟩ := HA.out
  clear HA
  cases kq with
  | zero => simp [bw.l0] at h
  | succ k1 =>
  simp only [bw.l0, Option.bind_some] at h
  go_upto_region 4 with (fail)
  go_cut [32] (fun v32 wc => ∃ b : Bool, v32 = .bool b ∧ aa ((b = true → l0 = r) ∧ (b = false → 0 ≤ i ∧ i ≤ (l0.length : Int) ∧ l0.length + 1 < 35184372088832 ∧ [] ++ l0.take i.toNat ++ [a1] ++ l0.drop i.toNat = r)) ∧ aa (Below w.heap.size w wc))
  case first =>
   by_cases c : i < (l0.length : Int)
   ·have d := decide_eq_true c
    rw [if_pos c] at h
    by_cases hi0 : 0 ≤ i
    case neg => rw [if_neg hi0] at h; cases h
    rw [if_pos hi0, if_neg (by have := hn c; omega)] at h
    obtain ⟨ad, e0, g0⟩ := Kd.at_int (Kd.C_below HC.out HB.out) i hi0 c
    cases e0
    by_cases ce : rd l0 i = a1
    ·rw [if_pos ce] at h
     have h := gz (Option.some.inj h)
     have de := e1 ce
     clear ce hn
     go_wp2
     go_meet
     case rel => exact ⟨true, rfl, ⟨⟨fun _ => h.out, fun e => nomatch e⟩⟩, HB⟩
    ·rw [if_neg ce] at h
     simp only [Option.ite_none_right_eq_some, Option.some.injEq, List.length_append, List.length_take, List.length_drop, List.length_nil, List.length_cons] at h
     have de := e3 ce
     obtain ⟨h1, h2, h3, h4, h5⟩ := h
     have h := gz (show 0 ≤ i ∧ i ≤ (l0.length : Int) ∧ l0.length + 1 < 35184372088832 ∧ [] ++ l0.take i.toNat ++ [a1] ++ l0.drop i.toNat = r from ⟨hi0, h1, Z8, h5⟩)
     clear ce hn h1 h2 h3 h4 h5
     go_wp2
     go_meet
     case rel => exact ⟨false, rfl, ⟨⟨(fun e => nomatch e), fun _ => h.out⟩⟩, HB⟩
   ·have d := decide_eq_false c
    rw [if_neg c] at h
    simp only [Option.ite_none_right_eq_some, Option.some.injEq, List.length_append, List.length_take, List.length_drop, List.length_nil, List.length_cons] at h
    obtain ⟨h0, h1, h2, h3, h4, h5⟩ := h
    have h := gz (show 0 ≤ i ∧ i ≤ (l0.length : Int) ∧ l0.length + 1 < 35184372088832 ∧ [] ++ l0.take i.toNat ++ [a1] ++ l0.drop i.toNat = r from ⟨h0, h1, Z8, h5⟩)
    clear hn h0 h1 h2 h3 h4 h5 c
    go_wp2
    go_meet
    case rel => exact ⟨false, rfl, ⟨⟨(fun e => nomatch e), fun _ => h.out⟩⟩, HB⟩
  case rest =>
   clear h hn HB
   obtain ⟨b, rfl, hr, HB⟩ := hcut
   cases b with
   | true =>
    obtain rfl := hr.out.1 rfl
    clear hr
    go_wp2
    go_ret
    exact ⟨_, rfl, Kd.R_mono (Kd.R_below HO.out HB.out) (fun _ hk => .inl hk), ai HB0.out HB.out, Kept.of_below HB.out _⟩
   | false =>
   obtain ⟨h0, h1, hl, rfl⟩ := hr.out.2 rfl
   clear hr
   have hm : i.toNat ≤ l0.length := by omega
   have q1 := cutTi A l0.length c0 i h0 h1 HL.out
   have q2 := cutFi A l0.length c0 i h0 h1
   obtain ⟨A3, hA3⟩ : ∃ A3, (if c0 = i.toNat then A else A.map fun x => x.add (i.toNat * 1)) = A3 := ⟨_, rfl⟩
   rw [hA3] at q2
   have HM := gz (And.intro hm (And.intro hl hA3))
   clear hm hl hA3 h0 h1
   go_wp2_with (first | ((with_reducible refine bI (N := 34) rfl ?_); refine Kd.R_lit (Kd.int .i32) w.heap.size 21 ?hg (N := 34) ?hd (xs := ([] : List Int)) (inner := []) (ok := fun _ => True) (okp := fun _ => True) ?hr (Reps.none _ _) (fun _ hk => hk) trivial HB.out HB.out.size Z24 ?_; (case hd => rfl); (case hg => rfl); (case hr => first | (go_simp; done) | (go_simp; rfl)); intro v6 w6 N6 b6 _ _; have N6 := gz N6; have b6 := gz b6) | ((with_reducible refine aK (b := .append) (xs := #[.tmp 34, .tmp 37]) rfl ?_); at_builtin; refine apIr (w0 := w) (.tmp 34) (.tmp 37) N6 (Kd.C_take (m := i.toNat) (Kd.C_below HC.out b6.out) HM.out.1) (List.length_take_of_le HM.out.1) b6 b6.out.size (by have := HM.out; simp; omega) ?_; intro v7 w7 N7 b7; have N7 := gz N7; have b7 := gz b7) | ((with_reducible refine aK (b := .append) (xs := #[.tmp 39, .tmp 41]) rfl ?_); at_builtin; refine apI (w0 := w) (.tmp 39) (.tmp 41) N7 b7 b7.out.size (by have := HM.out; simp; omega) ?_; intro v8 w8 N8 b8; have N8 := gz N8; have b8 := gz b8) | ((with_reducible refine aK (b := .append) (xs := #[.tmp 43, .tmp 46]) rfl ?_); at_builtin; refine apIr (w0 := w) (.tmp 43) (.tmp 46) N8 (HM.out.2.2 ▸ Kd.C_drop (c := c0) (Kd.C_below HC.out b8.out) HM.out.1 HL.out) List.length_drop b8 b8.out.size (by have := HM.out; simp; omega) ?_; intro v9 w9 N9 b9; clear HM q1 q2))
   go_ret
   exact ⟨_, rfl, Kd.R_mono (Kd.R_lower (Kd.R_bound N9) HB0.out.size) (fun _ hk => .inr hk.2.1), ai HB0.out b9, Kept.of_below b9 _⟩
mutual
def aN.l0 : Nat → List (List (S51)) → List Int → Int → Option (List Int)
 | 0, _, _, _ => none
 | k + 1, x0, x3, x4 => if x4 < (x0.length : Int) then (aN.l1 k x0 x3 x4 0) else (some x3)
def aN.l1 : Nat → List (List (S51)) → List Int → Int → Int → Option (List Int)
 | 0, _, _, _, _ => none
 | k + 1, x0, x3, x4, x5 => if 0 ≤ x4 then (if x4 < (x0.length : Int) then (if x5 < ((cP x0 x4).length : Int) then (if 0 ≤ x5 then ((bw.f k x3 ((aA (cP x0 x4) x5).f0)).bind fun t220 => (if ((aA (cP x0 x4) x5).f1) < 1114111 then ((bw.f k t220 (wrap32 (((aA (cP x0 x4) x5).f1) + 1))).bind fun t227 => (aN.l1 k x0 t227 x4 (wrap64 (x5 + 1)))) else (aN.l1 k x0 t220 x4 (wrap64 (x5 + 1))))) else (none)) else (aN.l0 k x0 x3 (wrap64 (x4 + 1)))) else (none)) else (none)
end
def aN.f (k : Nat) (l0 : List (List (S51))) : Option (List Int) := aN.l0 k l0 (([0] : List Int)) 0
theorem aN.calls (k : Nat) (A0 : Option Addr) (c0 : Nat) (l0 : List (List (S51))) (r : List Int) (w : World) (hr0 : Kd.C (Kd.slice 51 k51) w A0 l0.length l0) (hc0 : l0.length ≤ c0) (h : aN.f k l0 = some r) :
  Calls Tryz.prog 128 #[.slice A0 l0.length c0] w fun e w' => ∃ v0_ : Value, e = .returned (v0_) ∧ Kd.R (Kd.int .i32) 21 w' w.heap.size (fun _ => True) v0_ r ∧ Below w.heap.size w w' := by
 have HR := gz hr0
 have H := gz h
 clear hr0 hc0 h
 unfold aN.f at H
 go_enter Tryz.func128, Tryz.ntmps128
 go_wp2_with (first | ((with_reducible refine bI (N := 6) rfl ?_); refine Kd.R_lit (Kd.int .i32) w.heap.size 21 ?hg (N := 6) ?hd (xs := ([0] : List Int)) (inner := [.int .i32 0]) (ok := fun _ => True) (okp := fun _ => True) ?hr (Reps.one (show Kd.M (Kd.int .i32) _ _ _ 0 [.int .i32 0] from rfl) (Reps.none _ _)) (fun _ hk => hk) trivial (Below.refl _ _) (Nat.le_refl _) Z24 ?_; (case hd => rfl); (case hg => rfl); (case hr => first | (go_simp; done) | (go_simp; rfl)); intro v6 w6 N6 b6 _ _))
 have HO := gz N6
 have HB := gz b6
 clear N6 b6
 go_loopg [3, 4] k (fun kq v3 v4 wr => ∃ (x : List Int) (i : Int), v4 = .int .i64 i ∧ aa (aN.l0 kq l0 x i = some r) ∧ aa (kq ≤ k) ∧ aa (Kd.R (Kd.int .i32) 21 wr w.heap.size (fun _ => True) v3 x) ∧ aa (Below w.heap.size w wr))
 case atStart => exact ⟨[0], 0, rfl, H, ⟨Nat.le_refl _⟩, HO, HB⟩
 case round =>
  clear H HO HB
  obtain ⟨x, i, rfl, HA, HK, HO, HB⟩ := hrel
  cases gk with
  | zero => exact absurd HA.out (by simp [aN.l0])
  | succ k1 =>
  have h := HA.out
  clear HA
  simp only [aN.l0] at h
  by_cases c : i < (l0.length : Int)
  ·rw [if_pos c] at h
   have d := decide_eq_true c
   have H := gz h
   clear h c
   go_wp2_with fail
   go_loopg [3, 5] k1 (fun kq v3 v5 wr => ∃ (x : List Int) (j : Int), v5 = .int .i64 j ∧ aa (aN.l1 kq l0 x i j = some r) ∧ aa (kq ≤ k1) ∧ aa (Kd.R (Kd.int .i32) 21 wr w.heap.size (fun _ => True) v3 x) ∧ aa (Below w.heap.size w wr))
   case atStart => exact ⟨x, 0, rfl, H, ⟨Nat.le_refl _⟩, HO, HB⟩
   case round =>
    clear H HO HB
    obtain ⟨x, j, rfl, HA, HK1, HO, HB⟩ := hrel
    cases gk with
    | zero => exact absurd HA.out (by simp [aN.l1])
    | succ k2 =>
    have h := HA.out
    clear HA
    simp only [aN.l1] at h
    by_cases hi0 : 0 ≤ i
    case neg => rw [if_neg hi0] at h; cases h
    rw [if_pos hi0] at h
    by_cases hi1 : i < (l0.length : Int)
    case neg => rw [if_neg hi1] at h; cases h
    rw [if_pos hi1] at h
    obtain ⟨ad, A5, c5, e0, g0, g1, g2⟩ := fV (Kd.C_below HR.out HB.out) i hi0 hi1
    cases e0
    obtain ⟨s, hs⟩ : ∃ s, cP l0 i = s := ⟨_, rfl⟩
    rw [hs] at g0 g2 h
    have hs := gz hs
    by_cases cj : j < (s.length : Int)
    ·rw [if_pos cj] at h
     have dj := decide_eq_true cj
     by_cases hj0 : 0 ≤ j
     case neg => rw [if_neg hj0] at h; cases h
     rw [if_pos hj0] at h
     obtain ⟨ad1, e0, q0, q1⟩ := cI g2 j hj0 cj
     cases e0
     clear g1 g2
     obtain ⟨t, A, h⟩ := cC h
     have A := gz A
     replace h := gz h
     go_wp2_with fail
     refine (bw.calls _ (fun _ => True) _ x _ t w _ HB.out HO.out A.out).mono ?_
     rintro e w1 ⟨v, rfl, ho, hb, _⟩
     replace HO := gz (Kd.R_mono ho (fun _ _ => trivial))
     replace HB := gz hb
     clear ho hb
     clear g0 q0 q1
     obtain ⟨_, A6, c6, e0, g0, g1, g2⟩ := fV (Kd.C_below HR.out HB.out) i hi0 hi1
     cases e0
     rw [hs.out] at g0 g2
     obtain ⟨ad2, e0, q0, q1⟩ := cI g2 j hj0 cj
     cases e0
     clear g1 g2
     replace h := h.out
     by_cases cm : (aA s j).f1 < 1114111
     ·rw [if_pos cm] at h
      have dm := decide_eq_true cm
      obtain ⟨t', A', h⟩ := cC h
      have A' := gz A'
      replace h := gz h
      clear cm
      go_wp2_with fail
      refine (bw.calls _ (fun _ => True) _ t _ t' w _ HB.out HO.out A'.out).mono ?_
      rintro e w2 ⟨v, rfl, ho, hb, _⟩
      replace HO := gz (Kd.R_mono ho (fun _ _ => trivial))
      replace HB := gz hb
      clear ho hb
      go_wp2
      go_roundg k2
      case measure => have := HK1.out; omega
      case rel => exact ⟨t', wrap64 (j + 1), rfl, h, ⟨Z22⟩, HO, HB⟩
     ·rw [if_neg cm] at h
      have dm := decide_eq_false cm
      replace h := gz h
      clear cm
      go_wp2
      go_roundg k2
      case measure => have := HK1.out; omega
      case rel => exact ⟨t, wrap64 (j + 1), rfl, h, ⟨Z22⟩, HO, HB⟩
    ·rw [if_neg cj] at h
     have dj := decide_eq_false cj
     replace h := gz h
     clear g1 g2
     go_wp2
     go_roundg k2
     case measure => have := HK.out; have := HK1.out; omega
     case rel => exact ⟨x, wrap64 (i + 1), rfl, h, ⟨by have := HK.out; have := HK1.out; omega⟩, HO, HB⟩
  ·rw [if_neg c] at h
   have d := decide_eq_false c
   obtain rfl := Option.some.inj h
   go_wp2
   go_ret
   exact ⟨_, rfl, HO.out, HB.out⟩
end Go.Proofs.YtaccleilcdfapaaGreat.G
