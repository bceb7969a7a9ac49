import Derived.Test.YtfnkboilepgmoaaDoorKPre
namespace Go.Proofs.YtfnkboilepgmoaaDoor.R
open Go.RowKit Go.Proofs.YtfnkboilepgmoaaDoorW.PrintWords Go.Proofs.YtfnkboilepgmoaaDoorW.PrintLast Go.Proofs.YtfnkboilepgmoaaDoorW.PrintMore
attribute [local go_sem] max2_int min2_int max_two min_two max_three min_three max_four min_four
set_option linter.unusedVariables false
set_option linter.unusedSimpArgs false
def quoinref02_Order.ord : List S36 → List S36 → Int
 | x :: a, y :: b => if x.f0 < y.f0 then -1 else if x.f0 > y.f0 then 1 else if x.f1 < y.f1 then -1 else if x.f1 > y.f1 then 1 else quoinref02_Order.ord a b
 | [], _ :: _ => -1
 | _ :: _, [] => 1
 | [], [] => 0
def quoinref02_Order.f (l0 l1 : List S36) : Option Int := some (quoinref02_Order.ord l0 l1)
theorem quoinref02_Order.drops (l : List S36) (x : Int) (h0 : 0 ≤ x) (h : x < (l.length : Int)) : l.drop x.toNat = rd_T36 l x :: l.drop (x + 1).toNat := by
 have hl : x.toNat < l.length := by omega
 rw [List.drop_eq_getElem_cons hl, show (x + 1).toNat = x.toNat + 1 from by omega]
 congr 1
 unfold rd_T36
 rw [List.getD_eq_getElem?_getD, List.getElem?_eq_getElem hl]
 rfl
set_option maxHeartbeats 8000000 in
set_option maxRecDepth 100000 in
theorem quoinref02_Order.calls (A0 : Option Addr) (c0 : Nat) (l0 : List (S36)) (A1 : Option Addr) (c1 : Nat) (l1 : List (S36)) (r : Int) (w : World) (hr0 : Kd.C k36 w A0 l0.length l0) (hc0 : l0.length ≤ c0) (hr1 : Kd.C k36 w A1 l1.length l1) (hc1 : l1.length ≤ c1) (h : quoinref02_Order.f l0 l1 = some r) :
  Calls Tryd.prog 43 #[.slice A0 l0.length c0, .slice A1 l1.length c1] w fun e w' => e = .returned (.int .i64 r) ∧ Below w.heap.size w w' := by
 have HR0 := Aside0.mk hr0
 have HR1 := Aside0.mk hr1
 clear hr0 hc0 hr1 hc1
 have HB := Aside0.mk (Below.refl w.heap.size w)
 have HL := Aside0.mk (show quoinref02_Order.ord (l0.drop (0 : Int).toNat) (l1.drop (0 : Int).toNat) = r from Option.some.inj h)
 clear h
 go_enter Tryd.func43, Tryd.ntmps43
 go_wp2
 repeat (go_quiet (fail); try go_wp2)
 go_loopw [5] (fun i wr => ∃ (x : Int), 0 ≤ x ∧ x ≤ (l0.length : Int) ∧ x ≤ (l1.length : Int) ∧ i = .int .i64 x ∧ Aside0 (Below w.heap.size w wr) ∧ Aside0 (quoinref02_Order.ord (l0.drop x.toNat) (l1.drop x.toNat) = r)) (fun i _ => l0.length - (intOf i).toNat)
 case atStart => exact ⟨0, Z16, Z16, Z16, rfl, HB, HL⟩
 case round =>
  clear HB HL
  obtain ⟨x, hx0, hx1, hx2, rfl, HB, HL⟩ := hrel
  have hl := HL.out
  clear HL
  by_cases hlt : x < (l0.length : Int)
  ·have d1 : decide (x < (l0.length : Int)) = true := decide_eq_true hlt
   by_cases hlu : x < (l1.length : Int)
   ·have d2 : decide (x < (l1.length : Int)) = true := decide_eq_true hlu
    rw [quoinref02_Order.drops l0 x hx0 hlt, quoinref02_Order.drops l1 x hx0 hlu] at hl
    obtain ⟨ad, e0, h0, h1⟩ := at_T36 (Kd.C_below HR0.out HB.out) x hx0 hlt
    obtain ⟨be, e1, g0, g1⟩ := at_T36 (Kd.C_below HR1.out HB.out) x hx0 hlu
    cases e0
    cases e1
    obtain ⟨⟨t0, t1⟩, ht⟩ : ∃ t, rd_T36 l0 x = t := ⟨_, rfl⟩
    obtain ⟨⟨s0, s1⟩, hs⟩ : ∃ t, rd_T36 l1 x = t := ⟨_, rfl⟩
    rw [ht] at hl h0 h1
    rw [hs] at hl g0 g1
    clear ht hs
    unfold quoinref02_Order.ord at hl
    dsimp only at hl h0 h1 g0 g1
    have hw : wrap64 (x + 1) = x + 1 := by unfold wrap64; have := HR0.out.2.1; omega
    have hw := Aside0.mk hw
    have hl := Aside0.mk hl
    have p0 := eq_true hx0
    have q0 := eq_true hlt
    have q1 := eq_true hlu
    have n0 := World.new_ne wr _ h0
    have n1 := World.new_ne wr _ h1
    have n2 := World.new_ne wr _ g0
    have n3 := World.new_ne wr _ g1
    go_wp2_with fail
    go_region_held3 (fun w' => w'.cell? (ad.add (x.toNat * 2)) = some (.int .i32 t0) ∧ w'.cell? { block := (ad.add (x.toNat * 2)).block, off := (ad.add (x.toNat * 2)).off + 1 } = some (.int .i32 t1) ∧ w'.cell? (be.add (x.toNat * 2)) = some (.int .i32 s0) ∧ w'.cell? { block := (be.add (x.toNat * 2)).block, off := (be.add (x.toNat * 2)).off + 1 } = some (.int .i32 s1)) (go_keep) (fail)
    have HBX := Aside0.mk (show Below w.heap.size w (wr.alloc (.cells #[.int .i32 t0, .int .i32 s0, .int .i32 t1, .int .i32 s1] 97)).drew from by repeat (first | exact HB.out | apply below_alloc | apply below_drew1))
    have BT := Aside0.mk (show (wr.alloc (.cells #[.int .i32 t0, .int .i32 s0, .int .i32 t1, .int .i32 s1] 97)).drew.heap[wr.heap.size]? = some (.cells #[.int .i32 t0, .int .i32 s0, .int .i32 t1, .int .i32 s1] 97 (0, 0)) from blk_new wr (.cells #[.int .i32 t0, .int .i32 s0, .int .i32 t1, .int .i32 s1] 97))
    clear n0 n1 n2 n3 h0 h1 g0 g1
    generalize (wr.alloc (.cells #[.int .i32 t0, .int .i32 s0, .int .i32 t1, .int .i32 s1] 97)).drew = wx at HBX BT ⊢
    generalize wr.heap.size = q at BT ⊢
    have ct0 := (blk_cell BT.out 0).trans rfl
    have ct1 := (blk_cell BT.out 1).trans rfl
    have ct2 := (blk_cell BT.out 2).trans rfl
    have ct3 := (blk_cell BT.out 3).trans rfl
    go_wp2
    go_loopw [7] (fun i wy => ∃ (j : Int), i = .int .i64 j ∧ Aside0 (j = 0 ∨ (j = 2 ∧ t0 = s0) ∨ (j = 4 ∧ t0 = s0 ∧ t1 = s1)) ∧ Drawn0 wx wy) (fun i _ => 4 - (intOf i).toNat)
    case atStart => exact ⟨0, rfl, ⟨.inl rfl⟩, Drawn0.refl _⟩
    case round =>
     obtain ⟨j, rfl, HJ, ⟨nj, rfl⟩⟩ := hrel
     rcases HJ.out with rfl | ⟨rfl, rfl⟩ | ⟨rfl, rfl, rfl⟩
     ·clear HJ
      by_cases e1 : t0 < s0
      ·have f1 : decide (t0 < s0) = true := decide_eq_true e1
       have hr := hl.out
       rw [if_pos e1] at hr
       subst hr
       go_wp2
       repeat (go_quiet (fail); try go_wp2)
       go_ret
       exact ⟨rfl, Z20⟩
      ·have f1 : decide (t0 < s0) = false := decide_eq_false e1
       by_cases e2 : s0 < t0
       ·have f2 : decide (s0 < t0) = true := decide_eq_true e2
        have hr := hl.out
        rw [if_neg e1, if_pos e2] at hr
        subst hr
        go_wp2
        repeat (go_quiet (fail); try go_wp2)
        go_ret
        exact ⟨rfl, Z20⟩
       ·have f2 : decide (s0 < t0) = false := decide_eq_false e2
        obtain rfl : t0 = s0 := by omega
        go_wp2
        repeat (go_quiet (fail); try go_wp2)
        go_roundw
        case rel => exact ⟨2, rfl, ⟨Z21⟩, Z17⟩
        case measure => simp [intOf]
     ·clear HJ
      by_cases e1 : t1 < s1
      ·have f1 : decide (t1 < s1) = true := decide_eq_true e1
       have hr := hl.out
       rw [if_neg (Int.lt_irrefl _), if_neg (Int.lt_irrefl _), if_pos e1] at hr
       subst hr
       go_wp2
       repeat (go_quiet (fail); try go_wp2)
       go_ret
       exact ⟨rfl, Z20⟩
      ·have f1 : decide (t1 < s1) = false := decide_eq_false e1
       by_cases e2 : s1 < t1
       ·have f2 : decide (s1 < t1) = true := decide_eq_true e2
        have hr := hl.out
        rw [if_neg (Int.lt_irrefl _), if_neg (Int.lt_irrefl _), if_neg e1, if_pos e2] at hr
        subst hr
        go_wp2
        repeat (go_quiet (fail); try go_wp2)
        go_ret
        exact ⟨rfl, Z20⟩
       ·have f2 : decide (s1 < t1) = false := decide_eq_false e2
        obtain rfl : t1 = s1 := by omega
        go_wp2
        repeat (go_quiet (fail); try go_wp2)
        go_roundw
        case rel => exact ⟨4, rfl, ⟨Z21⟩, Z17⟩
        case measure => simp [intOf]
     ·clear HJ
      have hr := hl.out
      rw [if_neg (Int.lt_irrefl _), if_neg (Int.lt_irrefl _), if_neg (Int.lt_irrefl _), if_neg (Int.lt_irrefl _)] at hr
      have hr := Aside0.mk hr
      go_wp2
      go_roundw
      case rel => exact ⟨x + 1, Z16, Z16, Z16, by rw [hw.out], ⟨Z20⟩, hr⟩
      case measure => simp [intOf]; omega
   ·have d2 : decide (x < (l1.length : Int)) = false := decide_eq_false hlu
    have hxb : x = (l1.length : Int) := by omega
    have d3 : decide ((l0.length : Int) < (l1.length : Int)) = false := decide_eq_false Z16
    have d4 : decide ((l1.length : Int) < (l0.length : Int)) = true := decide_eq_true Z16
    rw [quoinref02_Order.drops l0 x hx0 hlt, List.drop_eq_nil_of_le (show l1.length ≤ x.toNat by omega)] at hl
    unfold quoinref02_Order.ord at hl
    subst hl
    go_wp2
    go_ret
    exact ⟨rfl, HB.out⟩
  ·have d1 : decide (x < (l0.length : Int)) = false := decide_eq_false hlt
   rw [List.drop_eq_nil_of_le (show l0.length ≤ x.toNat by omega)] at hl
   by_cases hlu : x < (l1.length : Int)
   ·have d3 : decide ((l0.length : Int) < (l1.length : Int)) = true := decide_eq_true Z16
    rw [quoinref02_Order.drops l1 x hx0 hlu] at hl
    unfold quoinref02_Order.ord at hl
    subst hl
    go_wp2
    go_ret
    exact ⟨rfl, HB.out⟩
   ·have d3 : decide ((l0.length : Int) < (l1.length : Int)) = false := decide_eq_false Z16
    have d4 : decide ((l1.length : Int) < (l0.length : Int)) = false := decide_eq_false Z16
    rw [List.drop_eq_nil_of_le (show l1.length ≤ x.toNat by omega)] at hl
    unfold quoinref02_Order.ord at hl
    subst hl
    go_wp2
    go_ret
    exact ⟨rfl, HB.out⟩
def quoinref02_Same.f (l0 : List (S36)) (l1 : List (S36)) : Option (Bool) := if (l0.length : Int) = (l1.length : Int) then ((quoinref02_Order.f l0 l1).bind fun t101 => (some (t101 == 0))) else (some false)
set_option maxHeartbeats 8000000 in
set_option maxRecDepth 100000 in
theorem quoinref02_Same.calls (A0 : Option Addr) (c0 : Nat) (l0 : List (S36)) (A1 : Option Addr) (c1 : Nat) (l1 : List (S36)) (r : Bool) (w : World) (hr0 : Kd.C k36 w A0 l0.length l0) (hc0 : l0.length ≤ c0) (hr1 : Kd.C k36 w A1 l1.length l1) (hc1 : l1.length ≤ c1) (h : quoinref02_Same.f l0 l1 = some r) :
  Calls Tryd.prog 15 #[.slice A0 l0.length c0, .slice A1 l1.length c1] w fun e w' => e = .returned (.bool r) ∧ Below w.heap.size w w' := by
 have HR0 := Aside0.mk hr0
 have HC0 := Aside0.mk hc0
 clear hr0 hc0
 have HR1 := Aside0.mk hr1
 have HC1 := Aside0.mk hc1
 clear hr1 hc1
 have HB := Aside0.mk (Below.refl w.heap.size w)
 have H : (if (l0.length : Int) = (l1.length : Int) then ((quoinref02_Order.f l0 l1).bind fun t101 => (some (t101 == 0))) else (some false)) = some r := h
 clear h
 by_cases c3 : (l0.length : Int) = (l1.length : Int)
 ·rw [if_pos c3] at H
  have c3b0 := e1 c3
  have c3b1 := e2 c3
  have c3b2 : (l0.length == l1.length) = true := by first | simpa using c3 | (simp at c3 ⊢; omega)
  clear c3
  replace H := bS H
  obtain ⟨t101, A4, H⟩ := H
  try dsimp only at H
  obtain rfl := Option.some.inj H
  go_enter Tryd.func15, Tryd.ntmps15
  go_wp2_with (first | (go_at_call 43; (with_reducible refine (quoinref02_Order.calls _ _ l0 _ _ l1 t101 _ ?side1 ?side2 ?side3 ?side4 A4.out).mono ?_); (case side1 => repeat (first | exact HR0.out | (with_reducible refine Kd.C_alloc ?_ _) | (with_reducible refine Kd.C_drewN ?_ _) | (with_reducible refine Kd.C_drew ?_))); (case side2 => exact HC0.out); (case side3 => repeat (first | exact HR1.out | (with_reducible refine Kd.C_alloc ?_ _) | (with_reducible refine Kd.C_drewN ?_ _) | (with_reducible refine Kd.C_drew ?_))); (case side4 => exact HC1.out); rintro e w5 ⟨rfl, hb⟩; replace HB := Aside0.mk (below_step zB hb); (try clear hb); (try clear hb2); (try clear hk); (try clear hi)))
  go_ret
  exact ⟨Z5, Z1⟩
 ·rw [if_neg c3] at H
  have c3b0 := e3 c3
  have c3b1 := e4 c3
  have c3b2 : (l0.length == l1.length) = false := by first | simpa using c3 | (simp at c3 ⊢; omega)
  obtain rfl := Option.some.inj H
  go_enter Tryd.func15, Tryd.ntmps15
  go_wp2
  go_ret
  exact ⟨Z5, Z1⟩
def api_Range_44.f (l0 : List (S36)) : Option ((List (S36))) := (some (([] : List (S36)) : List (S36))).bind fun y102 => (if y102.length + l0.length < 17592186044416 then (some (y102 ++ l0)) else (none))
set_option maxHeartbeats 8000000 in
set_option maxRecDepth 100000 in
theorem api_Range_44.calls (A0 : Option Addr) (c0 : Nat) (l0 : List (S36)) (r : List (S36)) (w : World) (hr0 : Kd.C k36 w A0 l0.length l0) (hc0 : l0.length ≤ c0) (h : api_Range_44.f l0 = some r) :
  Calls Tryd.prog 44 #[.slice A0 l0.length c0] w fun e w' => ∃ v0_ : Value, e = .returned (v0_) ∧ Kd.R k36 36 w' w.heap.size (fun _ => True) v0_ r ∧ Below w.heap.size w w' := by
 have q22 : ∀ (w : World) (a : Option Addr) (n c n' c' : Nat), (binOp .eql 22 (.slice a n c) (.slice none n' c')).run Tryd.prog w = .ok (.bool a.isNone) w := fun w a n c n' c' => Lib.run_eql_slice_nil w _ _ a n c n' c' Tryd.underlying22
 by_cases hA : A0 = none
 ·subst hA
  have e0 : l0 = [] := by
   rcases Nat.eq_zero_or_pos l0.length with e | e
   ·exact List.eq_nil_of_length_eq_zero e
   ·obtain ⟨ad, e1, _⟩ := hr0.2.2 e
    exact absurd e1 Z21
  subst e0
  obtain rfl : r = [] := by simpa [api_Range_44.f, eq_comm] using h
  clear h hr0 hc0
  go_enter Tryd.func44, Tryd.ntmps44
  go_wp2
  go_ret
  exact ⟨_, rfl, Kd.R_nil _ _ _ _ _, by first | exact Below.refl _ _ | exact ⟨rfl, rfl, rfl, Nat.le_refl _, fun _ _ => rfl⟩⟩
 obtain ⟨A1, rfl⟩ : ∃ A1, A0 = some A1 := by cases A0 with
  | none => exact absurd rfl hA
  | some A1 => exact ⟨A1, rfl⟩
 clear hA
 have HR0 := Aside0.mk hr0
 have HC0 := Aside0.mk hc0
 clear hr0 hc0
 have HB := Aside0.mk (Below.refl w.heap.size w)
 have H : ((some (([] : List (S36)) : List (S36))).bind fun y102 => (if y102.length + l0.length < 17592186044416 then (some (y102 ++ l0)) else (none))) = some r := h
 clear h
 obtain ⟨y102, hy102⟩ : ∃ y_ : List (S36), y_ = (([] : List (S36))) := ⟨_, rfl⟩
 replace H : (if y102.length + l0.length < 17592186044416 then (some (y102 ++ l0)) else (none)) = some r := by first | (rw [hy102]; with_reducible exact H) | (have H2_ := (Option.bind_some _ _).symm.trans H; rw [hy102]; with_reducible exact H2_) | (have H2_ := (Option.bind_some _ _).symm.trans H; with_reducible exact H2_) | with_reducible exact H | (rw [hy102]; exact H) | exact H
 have Ny102 := Aside0.mk hy102
 clear hy102
 by_cases c2 : y102.length + l0.length < 17592186044416
 ·rw [if_pos c2] at H
  have LMc2 := Aside0.mk c2
  clear c2
  obtain ⟨y105, hy105⟩ : ∃ y_ : List (S36), y_ = (y102 ++ l0) := ⟨_, rfl⟩
  replace H : (some y105) = some r := by first | (rw [hy105]; with_reducible exact H) | (have H2_ := (Option.bind_some _ _).symm.trans H; rw [hy105]; with_reducible exact H2_) | (have H2_ := (Option.bind_some _ _).symm.trans H; with_reducible exact H2_) | with_reducible exact H | (rw [hy105]; exact H) | exact H
  have Ny105 := Aside0.mk hy105
  clear hy105
  obtain rfl := Option.some.inj H
  go_enter Tryd.func44, Tryd.ntmps44
  go_wp2_with (first | ((with_reducible refine gate_dst (N := 5) rfl ?_); refine Kd.R_lit k36 _ 36 ?hg (N := 5) ?hd (xs := ([] : List (S36))) (inner := []) (ok := fun _ => True) (okp := fun _ => True) ?hr ?hp (fun _ hk => hk) trivial (Below.refl _ _) (Nat.le_refl _) Z21 ?_; (case hd => rfl); (case hg => rfl); (case hr => first | (go_simp; done) | (go_simp; rfl)); (case hp => exact (Reps.none _ _)); intro v103 w3 ho4 hb hg_ hnew_; clear hg_ hnew_; (first | rw [← Ny102.out] at ho4 | (simp only [Int.reduceToNat] at ho4; rw [← Ny102.out] at ho4)); have HO104 := Aside0.mk (Kd.R_lower ho4 (below_size zB)); replace HB := Aside0.mk (below_step zB hb); clear hb ho4) | ((with_reducible refine gate_builtin (b := .append) (xs := #[.tmp 5, .tmp 6]) rfl ?_); at_builtin; refine Kd.R_append_rows k36 (w0 := w) w.heap.size rfl (.tmp 5) (.tmp 6) 22 36 (.agg #[(.int .i32 0), (.int .i32 0)]) 8 rfl Tryd.underlying22 info36 rfl Z15 Z16 v103 y102 l0 _ _ _ (fun _ => True) (fun _ => False) rfl rfl ?aO ?aR (fun _ _ h => h) (fun _ h => h.elim) ?aF ?aB ?aS ?aL ?_; (case aR => repeat (first | exact (Kd.C_below HR0.out HB.out) | (with_reducible refine Kd.C_alloc ?_ _) | (with_reducible refine Kd.C_drewN ?_ _) | (with_reducible refine Kd.C_drew ?_))); (case aB => exact zB); (case aF => exact (fun _ _ => trivial)); (case aO => exact (kK HO104)); (case aS => exact (below_size zB)); (case aL => have := LMc2.out; omega); intro v106 w5 ho hb hg hat; rw [← Ny105.out] at ho; have n0_ := Aside0.mk (hb); have n1_ := Aside0.mk (ho); clear HB; clear HO104; have HB := n0_; have HO107 := n1_; clear n0_ n1_; clear ho hb hg hat))
  go_ret
  exact ⟨_, Z5, by (with_reducible repeat (first | apply Kd.R_alloc | apply Kd.R_drewN | apply Kd.R_drew)); exact HO107.out, Z1⟩
 ·rw [if_neg c2] at H
  exact absurd H Z21
instance : Inhabited S36 := ⟨z36⟩
def sortR.cf (x y : S36) : Int := Lib.compareInt x.f0 y.f0
def sortR.enc (x : S36) : List Value := [.int .i32 x.f0, .int .i32 x.f1]
def sortR (l : List S36) : List S36 := (Go.Sort.pdq (ltOf sortR.cf) l.toArray 0 l.toArray.size (Lib.bitLen l.toArray.size) true true).toList
theorem sortR.lt (x y : S36) : ltOf sortR.cf x y = decide (x.f0 < y.f0) := by
 unfold ltOf sortR.cf Lib.compareInt
 by_cases h1 : x.f0 < y.f0
 ·simp [h1]
 ·by_cases h2 : y.f0 < x.f0 <;> simp [h1, h2]
theorem sortR.swo : Go.Sort.SWO (ltOf sortR.cf) where
 irrefl x := by rw [sortR.lt]; simp
 trans x y z h1 h2 := by rw [sortR.lt] at *; simp at *; omega
 ntrans x y z h1 h2 := by rw [sortR.lt] at *; simp at *; omega
set_option maxHeartbeats 8000000 in
set_option maxRecDepth 100000 in
theorem sortR.closure (x y : S36) (W : World) : Calls Tryd.prog 77 #[.agg #[.int .i32 x.f0, .int .i32 x.f1], .agg #[.int .i32 y.f0, .int .i32 y.f1]] W fun e w' => e = .returned (.int .i64 (sortR.cf x y)) ∧ ∃ q os', w' = Go.Sort.grow (W.drewN q) os' := by
 obtain ⟨x0, x1⟩ := x
 obtain ⟨y0, y1⟩ := y
 unfold sortR.cf Lib.compareInt
 dsimp only
 have hx : (x0 != x0) = false := by simp
 have hy : (y0 != y0) = false := by simp
 by_cases c1 : x0 < y0
 ·rw [if_pos c1]
  have d1 : decide (x0 < y0) = true := decide_eq_true c1
  go_enter Tryd.func77, Tryd.ntmps77
  go_wp2
  go_ret
  exact ⟨rfl, 0, _, by rw [Go.Sort.alloc_eq_grow, Go.Sort.alloc_eq_grow, Go.Sort.grow_grow]; rfl⟩
 rw [if_neg c1]
 have d1 : decide (x0 < y0) = false := decide_eq_false c1
 by_cases c2 : y0 < x0
 ·rw [if_pos c2]
  have d2 : decide (y0 < x0) = true := decide_eq_true c2
  go_enter Tryd.func77, Tryd.ntmps77
  go_wp2
  go_ret
  exact ⟨rfl, 0, _, by rw [Go.Sort.alloc_eq_grow, Go.Sort.alloc_eq_grow, Go.Sort.grow_grow]; rfl⟩
 rw [if_neg c2]
 have d2 : decide (y0 < x0) = false := decide_eq_false c2
 go_enter Tryd.func77, Tryd.ntmps77
 go_wp2
 go_ret
 exact ⟨rfl, 0, _, by rw [Go.Sort.alloc_eq_grow, Go.Sort.alloc_eq_grow, Go.Sort.grow_grow]; rfl⟩
theorem sortR.pair {cs : List Value} {j : Nat} {a b : Value} (h0 : cs[j * 2]? = some a) (h1 : cs[j * 2 + 1]? = some b) : (cs.drop (j * 2)).take 2 = [a, b] := by
 have e0 : j * 2 < cs.length := by
  rcases Nat.lt_or_ge (j * 2) cs.length with h | h
  ·exact h
  ·rw [List.getElem?_eq_none h] at h0; simp at h0
 have e1 : j * 2 + 1 < cs.length := by
  rcases Nat.lt_or_ge (j * 2 + 1) cs.length with h | h
  ·exact h
  ·rw [List.getElem?_eq_none h] at h1; simp at h1
 rw [List.drop_eq_getElem_cons e0, List.drop_eq_getElem_cons e1]
 rw [List.getElem?_eq_getElem e0] at h0
 rw [List.getElem?_eq_getElem e1] at h1
 obtain rfl := Option.some.inj h0
 obtain rfl := Option.some.inj h1
 rfl
theorem sortR.unpair {cs : List Value} {j : Nat} {a b : Value} (h : (cs.drop (j * 2)).take 2 = [a, b]) : cs[j * 2]? = some a ∧ cs[j * 2 + 1]? = some b := by
 have h0 := congrArg (fun l : List Value => l[0]?) h
 have h1 := congrArg (fun l : List Value => l[1]?) h
 simp only [List.getElem?_take, List.getElem?_drop] at h0 h1
 constructor
 ·simpa using h0
 ·simpa using h1
theorem sortR.flat (d : Array S36) (t : Nat) (h : t < d.size * 2) : (Go.Sort.flatK sortR.enc 2 d)[t]! = if t % 2 = 0 then .int .i32 d[t / 2]!.f0 else .int .i32 d[t / 2]!.f1 := by
 rw [Go.Sort.get_flatK _ _ _ _ h]
 rcases Nat.mod_two_eq_zero_or_one t with e | e <;> rw [e] <;> rfl
theorem sortR.size_eq (l : List S36) : (sortR l).length = l.length := by
 have h := (Go.Sort.pdq_sorts (ltOf sortR.cf) sortR.swo l.toArray 0 l.toArray.size (Lib.bitLen l.toArray.size) true true (Nat.zero_le _) (Nat.le_refl _) (.inl rfl)).1.1
 simpa [sortR] using h
theorem sortR.reps {w : World} {base : Nat} {ok : Nat → Prop} {d : Array S36} {cs : List Value} (hl : cs.length = d.size * 2) (h : ∀ t, t < d.size * 2 → cs[t]? = some (Go.Sort.flatK sortR.enc 2 d)[t]!) : Reps (Kd.M k36 w base ok) 2 d.toList cs := by
 refine ⟨by rw [hl]; simp, fun j p hj => ?_⟩
 have hj' : j < d.size := by
  rcases Nat.lt_or_ge j d.size with h | h
  ·exact h
  ·rw [List.getElem?_eq_none (by simpa using h)] at hj; simp at hj
 have hp : d[j]! = p := by
  rw [getElem!_pos d j hj']
  rw [Array.getElem?_toList, Array.getElem?_eq_getElem hj'] at hj
  exact Option.some.inj hj
 have h0 := h (j * 2) Z16
 have h1 := h (j * 2 + 1) Z16
 rw [sortR.flat d _ Z16, if_pos Z16, show j * 2 / 2 = j by omega, hp] at h0
 rw [sortR.flat d _ Z16, if_neg Z16, show (j * 2 + 1) / 2 = j by omega, hp] at h1
 rw [sortR.pair h0 h1]
 exact k36_mkM w base ok p
theorem sortR.unreps {w : World} {base : Nat} {ok : Nat → Prop} {d : Array S36} {cs : List Value} (h : Reps (Kd.M k36 w base ok) 2 d.toList cs) (t : Nat) (ht : t < d.size * 2) : cs[t]? = some (Go.Sort.flatK sortR.enc 2 d)[t]! := by
 have hj : d.toList[t / 2]? = some d[t / 2]! := by
  rw [Array.getElem?_toList, Array.getElem?_eq_getElem Z16, getElem!_pos d (t / 2) Z16]
 have := k36_openM (h.2 (t / 2) _ hj)
 obtain ⟨h0, h1⟩ := sortR.unpair this
 rw [sortR.flat d _ ht]
 rcases Nat.mod_two_eq_zero_or_one t with e | e
 ·rw [if_pos e]
  rwa [show t / 2 * 2 = t by omega] at h0
 ·rw [if_neg Z16]
  rwa [show t / 2 * 2 + 1 = t by omega] at h1
set_option maxHeartbeats 8000000 in
set_option maxRecDepth 100000 in
theorem sortR.calls {w W : World} {ok : Nat → Prop} {v : Value} {xs : List S36} (HO : Kd.R k36 36 W w.heap.size ok v xs) (HB : Below w.heap.size w W) (hx : xs.length < 4611686018427387904) :
  Calls Tryd.prog 76 #[v, .func (.func 77) #[] #[]] W fun e w' => e = .returned (.tuple #[]) ∧ Kd.R k36 36 w' w.heap.size ok v (sortR xs) ∧ Below w.heap.size w w' := by
 obtain ⟨h0, inner, ho, hr⟩ := HO
 rcases ho.2 with ⟨rfl, hn⟩ | ⟨g, cap, cur, rfl, hg, hh, hc, hm, hs, ht⟩
 ·obtain rfl := List.eq_nil_of_length_eq_zero hn
  refine (AnyF.slices_SortFunc_none Tryd.sortL none 0 _ W).mono ?_
  rintro e w' ⟨rfl, rfl⟩
  have e0 : sortR [] = [] := List.eq_nil_of_length_eq_zero (sortR.size_eq [])
  rw [e0]
  exact ⟨rfl, Kd.R_nil _ _ _ _ _, HB⟩
 ·have eg : ∀ args w, (callFunc 77 args).run Tryd.prog w = .ok (.enter 77 args) w := enters_of Tryd.func77 Z14 rfl
  have hlt : g < W.heap.size := blk_lt hh
  have hr' : Reps (Kd.M k36 W w.heap.size (fun k => ok k ∧ some k ≠ (Value.slice (some ⟨g, 0, none⟩) xs.length cap).ownBlock)) 2 xs.toArray.toList inner := hr
  have hcell : ∀ t, t < xs.length * 2 → cur[t]? = some (Go.Sort.flatK sortR.enc 2 xs.toArray)[t]! := by
   intro t h
   have := sortR.unreps hr' t (by simpa using h)
   rw [← ht, List.getElem?_take, if_pos (show t < xs.length * k36.sz from h), Array.getElem?_toList] at this
   exact this
  have hH : Go.Sort.HoldsK sortR.enc 2 W g 0 xs.toArray := by
   intro t h
   rw [Nat.zero_add, blk_cell hh, blk_frozen hh]
   exact ⟨hcell t (by simpa using h), rfl⟩
  have hsz : xs.toArray.size < 4611686018427387904 := by simpa using hx
  have hcon := AnyQ.slices_SortFunc_eq Tryd.sortL 2 Tryd.isAgg36 Tryd.sizeOf36 sortR.enc (fun _ => rfl) (fun x v hv => by simp [sortR.enc] at hv; rcases hv with rfl | rfl <;> rfl) sortR.cf sortR.swo 77 #[] g 0 cap xs.toArray W eg (fun _ _ _ _ x y => sortR.closure x y _) hH hlt hsz
  refine hcon.mono ?_
  rintro e w' ⟨rfl, n, os, rfl⟩
  obtain ⟨d', hd'⟩ : ∃ d', Go.Sort.pdq (ltOf sortR.cf) xs.toArray 0 xs.toArray.size (Lib.bitLen xs.toArray.size) true true = d' := ⟨_, rfl⟩
  have hsr : sortR xs = d'.toList := by unfold sortR; rw [hd']
  have hds : d'.size = xs.length := by
   have := sortR.size_eq xs
   rw [hsr] at this
   simpa using this
  have hdl : d'.toList.length = xs.length := by rw [← hsr]; exact sortR.size_eq xs
  rw [hd', hsr]
  obtain ⟨cur', hcur⟩ : ∃ c, Go.Sort.putCells id 0 (Go.Sort.flatK sortR.enc 2 d') cur = c := ⟨_, rfl⟩
  have hsz' : cur'.size = cur.size := by rw [← hcur]; simp [Go.Sort.putCells]
  have hs2 : cur.size = cap * 2 := hs
  have hh' : (sortWorldK sortR.enc 2 W g 0 n d' os).heap[g]? = some (.cells cur' 36 (0, 0)) := by
   have e1 : (Go.Sort.putRowK sortR.enc 2 (Go.Sort.ahead W n) g 0 d').heap[g]? = some (.cells cur' 36 (0, 0)) := by
    show (W.heap.modify g (Go.Sort.onCells (Go.Sort.putCells id 0 (Go.Sort.flatK sortR.enc 2 d'))))[g]? = _
    rw [Array.getElem?_modify, if_pos rfl, hh, Option.map_some, ← hcur]
    rfl
   show ((Go.Sort.putRowK sortR.enc 2 (Go.Sort.ahead W n) g 0 d').heap ++ os)[g]? = _
   rw [Array.getElem?_append_left]
   ·exact e1
   ·show g < (W.heap.modify g _).size
    rw [Array.size_modify]; exact hlt
  have hget : ∀ t, t < d'.size * 2 → cur'[t]? = some (Go.Sort.flatK sortR.enc 2 d')[t]! := by
   intro t h
   have hlc : t < cur.size := by omega
   rw [← hcur]
   unfold Go.Sort.putCells
   rw [Array.getElem?_mapIdx, Array.getElem?_eq_getElem hlc, Option.map_some, if_pos ⟨Nat.zero_le _, by rw [Go.Sort.size_flatK]; omega⟩]
   rfl
  refine ⟨rfl, ⟨h0, cur'.toList.take (d'.size * 2), ⟨?_, .inr ⟨g, cap, cur', ?_, hg, hh', ?_, hm, by rw [hsz']; exact hs, ?_⟩⟩, ?_⟩, ?_⟩
  ·rw [List.length_take, Array.length_toList, hsz', Array.length_toList]
   show min (d'.size * 2) cur.size = d'.size * 2
   omega
  ·rw [hdl]
  ·rw [hdl]; exact hc
  ·rw [hdl, ← hds]; rfl
  ·refine sortR.reps ?_ ?_
   ·rw [List.length_take, Array.length_toList, hsz']; omega
   ·intro t h
    rw [List.getElem?_take, if_pos h, Array.getElem?_toList]
    exact hget t h
  ·refine HB.trans ⟨rfl, rfl, rfl, ?_, ?_⟩
   ·show W.heap.size ≤ ((W.heap.modify g _) ++ os).size
    rw [Array.size_append, Array.size_modify]; omega
   ·intro k hk
    show ((W.heap.modify g _) ++ os)[k]? = _
    have : k < W.heap.size := Nat.lt_of_lt_of_le hk HB.size
    rw [Array.getElem?_append_left (by rw [Array.size_modify]; exact this), Array.getElem?_modify, if_neg Z16]
theorem runes_merged.room {l t : List S36} (h : api_Range_44.f l = some t) : t.length < 17592186044416 := by
 unfold api_Range_44.f at h
 simp only [Option.bind_some] at h
 split at h
 ·rename_i c
  obtain rfl := Option.some.inj h
  rw [List.length_append]; exact c
 ·exact absurd h Z21
def runes_merged.l0 : Nat → List (S36) → List (S36) → Int → Int → Option ((List (S36)))
 | 0, _, _, _, _ => none
 | k + 1, x3, x11, x12, x13 => if x13 < x12 then (if 0 ≤ x13 then (if x13 < (x11.length : Int) then (if (x3.length : Int) > 0 then (if 0 ≤ (wrap64 ((x3.length : Int) - 1)) then (if (wrap64 ((x3.length : Int) - 1)) < (x3.length : Int) then (if ((rd_T36 x11 x13).f0) ≤ (wrap32 (((rd_T36 x3 (wrap64 ((x3.length : Int) - 1))).f1) + 1)) then (runes_merged.l0 k (x3.set ((wrap64 ((x3.length : Int) - 1)) : Int).toNat (⟨(rd_T36 x3 (wrap64 ((x3.length : Int) - 1))).f0, mx ((rd_T36 x3 (wrap64 ((x3.length : Int) - 1))).f1) ((rd_T36 x11 x13).f1)⟩ : S36)) x11 x12 (wrap64 (x13 + 1))) else (if x3.length < 17592186044416 then (runes_merged.l0 k (x3 ++ [(⟨(rd_T36 x11 x13).f0, (rd_T36 x11 x13).f1⟩ : S36)]) x11 x12 (wrap64 (x13 + 1))) else (none))) else (none)) else (none)) else (if x3.length < 17592186044416 then (runes_merged.l0 k (x3 ++ [(⟨(rd_T36 x11 x13).f0, (rd_T36 x11 x13).f1⟩ : S36)]) x11 x12 (wrap64 (x13 + 1))) else (none))) else (none)) else (none)) else (some x3)
def runes_merged.f (k : Nat) (l0 : List (S36)) : Option ((List (S36))) := ((api_Range_44.f l0).map sortR).bind fun t108 => (runes_merged.l0 k ([] : List (S36)) t108 (t108.length : Int) 0)
theorem runes_merged.mono_l : ∀ k, (∀ y0 y1 y2 y3, LeO (runes_merged.l0 k y0 y1 y2 y3) (runes_merged.l0 (k + 1) y0 y1 y2 y3))
 | 0 => fun _ _ _ _ r h => by simp [runes_merged.l0] at h
 | k + 1 => by
  have ih0 := runes_merged.mono_l k
  ·intro y0 y1 y2 y3
   unfold runes_merged.l0
   exact mO
theorem runes_merged.mono : ∀ a0 k, LeO (runes_merged.f k a0) (runes_merged.f (k + 1) a0) := by
 intro a0 k
 have ih0 := runes_merged.mono_l k
 unfold runes_merged.f
 exact mO
def runes_merged.T8 : Bool × List (List Nat × List Nat) := (true, [([], []), ([0], [0]), ([1], [1]), ([2], [2]), ([3, 2], [2, 3]), ([2], [2]), ([2], [2]), ([6, 2], [2, 6]), ([5, 7, 2], [2, 5, 7]), ([8, 2], [2, 8]), ([9, 2], [2, 9]), ([10, 2], [2, 10]), ([4, 11, 2], [2, 4, 11]), ([2, 12], [2, 12])])
def runes_merged.B8 : List Nat := [0, 1, 3, 7, 15, 7, 7, 71, 231, 487, 999, 2023, 4095, 8191]
theorem runes_merged.tab8 : rtab .any (opsOf Tryd.f64 8) = runes_merged.T8 := by kernel_rfl
theorem runes_merged.bits8 : waitsOk runes_merged.T8.2 runes_merged.B8 = true := by kernel_rfl
def runes_merged.T9 : Bool × List (List Nat × List Nat) := (true, [([], []), ([], []), ([1], [1]), ([], []), ([], []), ([4], [4]), ([3, 5], [3, 5]), ([6], [6]), ([7], [7]), ([], []), ([9], [9]), ([8, 10], [8, 10]), ([0, 2, 0, 1, 2, 3, 4, 5, 6, 7, 8, 9, 10, 11], [0, 2]), ([12, 0, 1, 2, 3, 4, 5, 6, 7, 8, 9, 10, 11], [12]), ([13, 11, 0, 1, 2, 3, 4, 5, 6, 7, 8, 9, 10, 11], [11, 13])])
def runes_merged.B9 : List Nat := [0, 0, 2, 0, 0, 16, 56, 120, 248, 0, 512, 2040, 4095, 8191, 16383]
theorem runes_merged.tab9 : rtab .any (opsOf Tryd.f64 9) = runes_merged.T9 := by kernel_rfl
theorem runes_merged.bits9 : waitsOk runes_merged.T9.2 runes_merged.B9 = true := by kernel_rfl
set_option maxHeartbeats 8000000 in
set_option maxRecDepth 100000 in
theorem runes_merged.calls (k : Nat) (A0 : Option Addr) (c0 : Nat) (l0 : List (S36)) (r : List (S36)) (w : World) (hr0 : Kd.C k36 w A0 l0.length l0) (hc0 : l0.length ≤ c0) (h : runes_merged.f k l0 = some r) :
  Calls Tryd.prog 64 #[.slice A0 l0.length c0] w fun e w' => ∃ v0_ : Value, e = .returned (v0_) ∧ Kd.R k36 36 w' w.heap.size (fun _ => True) v0_ r ∧ Below w.heap.size w w' := by
 have hu36 := Tryd.underlying36
 have HR0 := Aside0.mk hr0
 have HC0 := Aside0.mk hc0
 clear hr0 hc0
 have HB := Aside0.mk (Below.refl w.heap.size w)
 have H : (((api_Range_44.f l0).map sortR).bind fun t108 => (runes_merged.l0 k ([] : List (S36)) t108 (t108.length : Int) 0)) = some r := h
 clear h
 replace H := Option.bind_eq_some_iff.mp H
 obtain ⟨t108, A20, H⟩ := H
 replace H : (runes_merged.l0 k ([] : List (S36)) t108 (t108.length : Int) 0) = some r := H
 have A2 := Aside0.mk A20
 obtain ⟨t0_, A2c, eS⟩ := Option.map_eq_some_iff.mp A2.out
 replace A2c := Aside0.mk A2c
 replace eS := Aside0.mk eS
 clear A20
 have H' := Aside0.mk H
 clear H
 go_enter Tryd.func64, Tryd.ntmps64
 go_wp2_with (first | ((with_reducible refine gC 44 rfl ?_); refine goesL_ (some 8) rfl rfl Tryd.func44 Z14 rfl #[.slice A0 l0.length c0] rfl Z6 ?_; (with_reducible refine (api_Range_44.calls _ _ l0 t0_ _ ?side1 ?side2 A2c.out).mono ?_); (case side1 => repeat (first | exact HR0.out | (with_reducible refine Kd.C_alloc ?_ _) | (with_reducible refine Kd.C_drewN ?_ _) | (with_reducible refine Kd.C_drew ?_))); (case side2 => exact HC0.out); rintro e w3 ⟨v109, rfl, ho0, hb⟩; refine ⟨_, rfl, ?_⟩; have HO110 := Aside0.mk (Kd.R_lower ho0 (below_size zB)); replace HB := Aside0.mk (below_step zB hb); (try clear hb); (try clear hb2); (try clear hk); (try clear hi); (try clear ho0)) | ((with_reducible refine gC 76 rfl ?_); refine goesL_ (some 10) rfl rfl Tryd.func76 Z14 rfl #[v109, .func (.func 77) #[] #[]] rfl Z6 ?_; refine (sortR.calls HO110.out HB.out (Nat.lt_of_lt_of_le (runes_merged.room A2c.out) Z16)).mono ?_; rintro e ws_ ⟨rfl, ho_, hb_⟩; refine ⟨_, rfl, ?_⟩; rw [eS.out] at ho_; clear HO110 HB; have HO110 := Aside0.mk ho_; have HB := Aside0.mk hb_; clear ho_ hb_; obtain ⟨Ao4, co4, eo4⟩ := Kd.R_slice HO110.out; subst eo4))
 go_loopg [3, 13] k (fun kq v3 v13 w' => ∃ (x3_1 : List (S36)) (x11_1 : List (S36)) (x13_1 : Int), v13 = .int .i64 x13_1 ∧ Aside0 (runes_merged.l0 kq x3_1 x11_1 (t108.length : Int) x13_1 = some r) ∧ Aside0 (kq ≤ k) ∧ Aside0 (Kd.R k36 36 w' w.heap.size (fun k_ => some k_ ≠ ((.slice Ao4 t108.length co4) : Value).ownBlock) v3 x3_1) ∧ Aside0 (Kd.R k36 36 w' w.heap.size (fun k_ => some k_ ≠ (v3 : Value).ownBlock) (.slice Ao4 t108.length co4) x11_1) ∧ Aside0 (Below w.heap.size w w'))
 case atStart => exact ⟨(([] : List (S36))), (t108), (0), Z7, H', ⟨Nat.le_refl _⟩, ⟨Z12⟩, ⟨by (with_reducible repeat (first | apply Kd.R_alloc | apply Kd.R_drewN | apply Kd.R_drew)); exact Kd.R_mono HO110.out (fun _ hk => (by simp [Value.ownBlock]))⟩, ⟨Z1⟩⟩
 case round =>
  clear H'
  try clear p2
  try clear c4
  obtain ⟨x3_1, x11_1, x13_1, rfl, HA, HK1, HO_3, HO_11, HB⟩ := hrel
  have hl11_1 := (Kd.R_reads' HO_11.out).1
  rw [hl11_1] at HO_11
  (try simp only [hl11_1])
  (try simp only [hl11_1] at HO_3)
  cases gk with
  | zero => exact absurd HA.out (by simp [runes_merged.l0])
  | succ k1 =>
   have H := HA.out
   clear HA
   simp only [runes_merged.l0] at H
   by_cases c5 : x13_1 < (t108.length : Int)
   ·rw [if_pos c5] at H
    have c5b0 := decide_eq_true c5
    clear c5
    by_cases c6 : 0 ≤ x13_1
    ·rw [if_pos c6] at H
     have c6b0 := decide_eq_true c6
     clear c6
     by_cases c7 : x13_1 < (x11_1.length : Int)
     ·rw [if_pos c7] at H
      have c7b0 := decide_eq_true c7
      clear c7
      by_cases c8 : (x3_1.length : Int) > 0
      ·rw [if_pos c8] at H
       have c8b0 : decide (0 < (x3_1.length : Int)) = true := decide_eq_true c8
       have c8b1 : decide (0 < x3_1.length) = true := decide_eq_true Z16
       clear c8
       obtain ⟨ji9, hji9⟩ : ∃ j_ : Int, (wrap64 ((x3_1.length : Int) - 1)) = j_ := ⟨_, rfl⟩
       replace H : (if 0 ≤ (ji9) then (if (ji9) < (x3_1.length : Int) then (if ((rd_T36 x11_1 x13_1).f0) ≤ (wrap32 (((rd_T36 x3_1 (ji9)).f1) + 1)) then (runes_merged.l0 k1 (x3_1.set ((ji9) : Int).toNat (⟨(rd_T36 x3_1 (ji9)).f0, mx ((rd_T36 x3_1 (ji9)).f1) ((rd_T36 x11_1 x13_1).f1)⟩ : S36)) x11_1 (t108.length : Int) (wrap64 (x13_1 + 1))) else (if x3_1.length < 17592186044416 then (runes_merged.l0 k1 (x3_1 ++ [(⟨(rd_T36 x11_1 x13_1).f0, (rd_T36 x11_1 x13_1).f1⟩ : S36)]) x11_1 (t108.length : Int) (wrap64 (x13_1 + 1))) else (none))) else (none)) else (none)) = some r := by first | (rw [hji9] at H; exact H) | (simp only [hji9] at H ⊢; exact H)
       have hji9w : (IntKind.i64.wrap ((x3_1.length : Int) - 1)) = ji9 := (i64_w _).trans hji9
       by_cases c10 : 0 ≤ (ji9)
       ·rw [if_pos c10] at H
        have c10b0 := decide_eq_true c10
        clear c10
        by_cases c11 : (ji9) < (x3_1.length : Int)
        ·rw [if_pos c11] at H
         have c11b0 := decide_eq_true c11
         clear c11
         by_cases c12 : ((rd_T36 x11_1 x13_1).f0) ≤ (wrap32 (((rd_T36 x3_1 (ji9)).f1) + 1))
         ·rw [if_pos c12] at H
          have c12b0 := decide_eq_true c12
          clear c12
          obtain ⟨ji13, hji13⟩ : ∃ j_ : Int, (mx ((rd_T36 x3_1 (ji9)).f1) ((rd_T36 x11_1 x13_1).f1)) = j_ := ⟨_, rfl⟩
          replace H : (runes_merged.l0 k1 (x3_1.set ((ji9) : Int).toNat (⟨(rd_T36 x3_1 (ji9)).f0, ji13⟩ : S36)) x11_1 (t108.length : Int) (wrap64 (x13_1 + 1))) = some r := by first | (rw [hji13] at H; exact H) | (simp only [hji13] at H ⊢; exact H)
          have hji13_ : (if ((rd_T36 x3_1 (ji9)).f1) < ((rd_T36 x11_1 x13_1).f1) then ((rd_T36 x11_1 x13_1).f1) else ((rd_T36 x3_1 (ji9)).f1)) = ji13 := hji13
          obtain ⟨y115, hy115⟩ : ∃ y_ : List (S36), y_ = (x3_1.set ((ji9) : Int).toNat (⟨(rd_T36 x3_1 (ji9)).f0, ji13⟩ : S36)) := ⟨_, rfl⟩
          replace H : (runes_merged.l0 k1 y115 x11_1 (t108.length : Int) (wrap64 (x13_1 + 1))) = some r := by first | (rw [hy115]; with_reducible exact H) | (have H2_ := (Option.bind_some _ _).symm.trans H; rw [hy115]; with_reducible exact H2_) | (have H2_ := (Option.bind_some _ _).symm.trans H; with_reducible exact H2_) | with_reducible exact H | (rw [hy115]; exact H) | exact H
          have Ny115 := Aside0.mk hy115
          clear hy115
          have H' := Aside0.mk H
          clear H
          have p111 : 0 ≤ (x13_1 : Int) := of_decide_eq_true Z4
          have q111 : x13_1 < (x11_1.length : Int) := of_decide_eq_true Z4
          obtain ⟨ad111, e111, hx111_0, hx111_1⟩ := at_T36 (Kd.R_reads' HO_11.out).2.2 x13_1 p111 q111
          cases e111
          replace p111 := eq_true p111
          replace q111 := eq_true q111
          try go_wp2_with (first | ((with_reducible refine gate_dst (N := 5) rfl ?_); refine box_event ?hg (N := 5) ?hd (cs := #[.int .i32 0, .int .i32 0]) (t := 36) ?hr ?_; (case hd => rfl); (case hg => rfl); (case hr => first | (go_simp; done) | (go_simp; rfl)); intro gb112 hg w15 hbox hb; replace HO_3 := Aside0.mk (Kd.R_below (Kd.R_elderB (kK HO_3) gb112 (Nat.le_of_eq hg.symm)) hb); replace HO_11 := Aside0.mk (Kd.R_below (Kd.R_elderB (kK HO_11) gb112 (Nat.le_of_eq hg.symm)) hb); have BK112 := Aside0.mk (hbox); have GW112 := gE hg zB; have GE112 := gE hg zB; replace HB := Aside0.mk (below_step zB hb); clear hb hbox hg; have hcz16_0 := bC BK112 0 (.int .i32 0); have hcz16_1 := bC BK112 1 (.int .i32 0); have hfz16_0 := blk_frozen BK112.out 0; have hfz16_1 := blk_frozen BK112.out 1; obtain ⟨Ao17, co17, eo17⟩ := Kd.R_slice HO_3.out; subst eo17))
          have n0_ : Aside0 (Kd.R k36 36 ((w15.setCell ⟨gb112, 0, none⟩ (.int .i32 ((rd_T36 x11_1 x13_1).f0))).setCell ⟨gb112, 1, none⟩ (.int .i32 ((rd_T36 x11_1 x13_1).f1))) w.heap.size (fun k_ => some k_ ≠ (.slice (some ad111) x11_1.length co4 : Value).ownBlock ∧ k_ ≠ gb112) (.slice Ao17 x3_1.length co17) x3_1) := ⟨by (with_reducible repeat (first | apply Kd.R_alloc | apply Kd.R_drewN | apply Kd.R_drew)); exact Kd.R_mono (Kd.R_far (p := ⟨gb112, 1, none⟩) (Kd.R_far (p := ⟨gb112, 0, none⟩) (Kd.R_mono HO_3.out (fun k_ hk => (⟨hk, hk.2⟩ : _ ∧ k_ ≠ gb112))) (fun _ hk => hk.2) (.int .i32 ((rd_T36 x11_1 x13_1).f0))) (fun _ hk => hk.2) (.int .i32 ((rd_T36 x11_1 x13_1).f1))) (fun _ hk => ⟨hk.1.1, hk.1.2⟩)⟩
          have n1_ : Aside0 (Kd.R k36 36 ((w15.setCell ⟨gb112, 0, none⟩ (.int .i32 ((rd_T36 x11_1 x13_1).f0))).setCell ⟨gb112, 1, none⟩ (.int .i32 ((rd_T36 x11_1 x13_1).f1))) w.heap.size (fun k_ => some k_ ≠ (.slice Ao17 x3_1.length co17 : Value).ownBlock ∧ k_ ≠ gb112) (.slice (some ad111) x11_1.length co4) x11_1) := ⟨by (with_reducible repeat (first | apply Kd.R_alloc | apply Kd.R_drewN | apply Kd.R_drew)); exact Kd.R_mono (Kd.R_far (p := ⟨gb112, 1, none⟩) (Kd.R_far (p := ⟨gb112, 0, none⟩) (Kd.R_mono HO_11.out (fun k_ hk => (⟨hk, hk.2⟩ : _ ∧ k_ ≠ gb112))) (fun _ hk => hk.2) (.int .i32 ((rd_T36 x11_1 x13_1).f0))) (fun _ hk => hk.2) (.int .i32 ((rd_T36 x11_1 x13_1).f1))) (fun _ hk => ⟨hk.1.1, hk.1.2⟩)⟩
          have n2_ : Aside0 (((w15.setCell ⟨gb112, 0, none⟩ (.int .i32 ((rd_T36 x11_1 x13_1).f0))).setCell ⟨gb112, 1, none⟩ (.int .i32 ((rd_T36 x11_1 x13_1).f1))).heap[gb112]? = some (.cells #[.int .i32 ((rd_T36 x11_1 x13_1).f0), .int .i32 ((rd_T36 x11_1 x13_1).f1)] 36 (0, 0))) := ⟨Z11⟩
          have n3_ : Aside0 (Below w.heap.size w ((w15.setCell ⟨gb112, 0, none⟩ (.int .i32 ((rd_T36 x11_1 x13_1).f0))).setCell ⟨gb112, 1, none⟩ (.int .i32 ((rd_T36 x11_1 x13_1).f1)))) := ⟨Z1⟩
          (try clear HO_3)
          (try clear HO_11)
          (try clear BK112)
          (try clear HB)
          generalize ((w15.setCell ⟨gb112, 0, none⟩ (.int .i32 ((rd_T36 x11_1 x13_1).f0))).setCell ⟨gb112, 1, none⟩ (.int .i32 ((rd_T36 x11_1 x13_1).f1))) = w18 at n0_ n1_ n2_ n3_ ⊢
          have HO_3 := n0_
          have HO_11 := n1_
          have BK112 := n2_
          have HB := n3_
          clear n0_ n1_ n2_ n3_
          replace HO_3 := Aside0.mk (Kd.R_drew HO_3.out)
          replace HO_11 := Aside0.mk (Kd.R_drew HO_11.out)
          replace BK112 := Aside0.mk (blk_drew BK112.out)
          replace HB := Aside0.mk (below_drew1 HB.out)
          have p113 : 0 ≤ ((ji9) : Int) := of_decide_eq_true Z4
          have q113 : (ji9) < (x3_1.length : Int) := of_decide_eq_true Z4
          obtain ⟨ad113, e113, hx113_0, hx113_1⟩ := at_T36 (Kd.R_reads' HO_3.out).2.2 (ji9) p113 q113
          cases e113
          replace p113 := eq_true p113
          replace q113 := eq_true q113
          refine start_ (n := 14) (S := fun w' => w'.cell? ⟨gb112, 0, none⟩ = some (.int .i32 ((rd_T36 x11_1 x13_1).f0)) ∧ w'.cell? ⟨gb112, 1, none⟩ = some (.int .i32 ((rd_T36 x11_1 x13_1).f1)) ∧ w'.cell? (ad113.add (((ji9)).toNat * 2)) = some (.int .i32 ((rd_T36 x3_1 (ji9)).f0)) ∧ w'.cell? ⟨(ad113.add (((ji9)).toNat * 2)).block, (ad113.add (((ji9)).toNat * 2)).off + 1, none⟩ = some (.int .i32 ((rd_T36 x3_1 (ji9)).f1))) (ds := []) #[false, false, false, false, false, false, false, false, false, false, false, false, false, false] Z14 rfl rfl ⟨(blk_cell BK112.out 0).trans rfl, (blk_cell BK112.out 1).trans rfl, hx113_0, hx113_1⟩ (fun hHeld => ?_); refine with_tabW runes_merged.tab8 runes_merged.bits8 (fun HT_ HW_ => ?_)
          generalize w18.drew = w19 at HO_3 HO_11 BK112 HB hx113_0 hx113_1 hHeld ⊢
          refine pU 0 19 (hc := (any_of HT_.out Z14)) (h := ?_)
          refine pU 1 20 (hc := (any_of HT_.out Z14)) (h := ?_)
          refine pU 2 21 (hc := (any_of HT_.out Z14)) (h := ?_)
          refine pU 3 22 (hc := (any_of HT_.out Z14)) (h := ?_)
          refine pU 5 24 (hc := (any_of HT_.out Z14)) (h := ?_)
          refine pU 6 25 (hc := (any_of HT_.out Z14)) (h := ?_)
          refine pU 7 26 (hc := (any_of HT_.out Z14)) (h := ?_)
          refine pU 8 27 (hc := (any_of HT_.out Z14)) (h := ?_)
          refine pU 9 28 (hc := (any_of HT_.out Z14)) (h := ?_)
          refine take_ (i := 4) (N := some 23) (v := ?_) (a' := ?_) #[true, true, true, true, true, true, true, true, true, true, false, false, false, false] rfl rfl (take_ofW HT_.out HW_.out Z14) (fun _ _ _ h => h) (Or.inl ⟨by rfl, ?_⟩) hHeld ?_ ?_
          rotate_left
          ·rintro w' ⟨s0, s1, s2, s3⟩
           go_simp
           with_reducible rfl
          rotate_left
          ·simp only [Act.put, List.setIfInBounds_toArray, List.set_cons_zero, List.set_cons_succ, i64_w, i32_w]
           rfl
          refine take_ (i := 10) (N := some 29) (v := ?_) (a' := ?_) #[true, true, true, true, true, true, true, true, true, true, true, false, false, false] rfl rfl (take_ofW HT_.out HW_.out Z14) (fun _ _ _ h => h) (Or.inl ⟨by rfl, ?_⟩) hHeld ?_ ?_
          rotate_left
          ·rintro w' ⟨s0, s1, s2, s3⟩
           go_simp
           with_reducible rfl
          rotate_left
          ·simp only [Act.put, List.setIfInBounds_toArray, List.set_cons_zero, List.set_cons_succ, i64_w, i32_w]
           rfl
          refine pU 11 30 (hc := (any_of HT_.out Z14)) (h := ?_)
          refine pU 12 31 (hc := (any_of HT_.out Z14)) (h := ?_)
          refine pU 13 32 (hc := (any_of HT_.out Z14)) (h := ?_)
          refine done_ (done_of HT_.out Z14) ?_
          try go_wp2
          replace HO_3 := Aside0.mk (Kd.R_drew HO_3.out)
          replace HO_11 := Aside0.mk (Kd.R_drew HO_11.out)
          replace BK112 := Aside0.mk (blk_drew BK112.out)
          replace HB := Aside0.mk (below_drew1 HB.out)
          have p114 : 0 ≤ ((ji9) : Int) := of_decide_eq_true Z4
          have q114 : (ji9) < (x3_1.length : Int) := of_decide_eq_true Z4
          obtain ⟨ad114, e114, hx114_0, hx114_1⟩ := at_T36 (Kd.R_reads' HO_3.out).2.2 (ji9) p114 q114
          obtain rfl : ad113 = ad114 := (by injection e114)
          replace p114 := eq_true p114
          replace q114 := eq_true q114
          have p14 : 0 ≤ ((ji9) : Int) := of_decide_eq_true Z4
          have q14 : ((ji9) : Int) < ((x3_1.length : Int) : Int) := of_decide_eq_true Z4
          obtain ⟨go14, co14, eo14, gb14, gl14, cl14, HG14⟩ := Kd.R_form HO_3.out Z16
          (first | cases eo14 | (injection eo14 with ea_ en_ ec_; (first | subst ea_ | (injection ea_ with ea_; subst ea_)); subst ec_; clear en_))
          have GB14 := Aside0.mk gb14
          have GG14 := Aside0.mk HG14
          clear gb14 gl14 HG14
          (first | simp only [add_plain] at hx113_0 | skip)
          (first | simp only [add_plain] at hx113_1 | skip)
          (first | simp only [add_plain] at hx114_0 | skip)
          (first | simp only [add_plain] at hx114_1 | skip)
          obtain ⟨ce14, hcl14, hM14, hcc14, hfr14⟩ := Kd.R_elem HO_3.out z36 ((ji9) : Int) p14 q14
          obtain rfl := k36_openM hM14
          have hx14_0 : World.cell? _ ⟨go14, ((ji9) : Int).toNat * 2, none⟩ = some (.int .i32 ((rd_T36 x3_1 (ji9)).f0)) := hcc14 0 _ rfl
          have hx14_1 : World.cell? _ ⟨go14, ((ji9) : Int).toNat * 2 + 1, none⟩ = some (.int .i32 ((rd_T36 x3_1 (ji9)).f1)) := hcc14 1 _ rfl
          have hf14_0 : World.frozen? _ ⟨go14, ((ji9) : Int).toNat * 2, none⟩ = false := hfr14 0
          have hf14_1 : World.frozen? _ ⟨go14, ((ji9) : Int).toNat * 2 + 1, none⟩ = false := hfr14 1
          clear hcl14 hcc14 hfr14 hM14
          replace p14 := eq_true p14
          replace q14 := eq_true q14
          obtain ⟨ce21, hcl21, hM21, hcc21, hfr21⟩ := Kd.R_elem HO_3.out z36 ((ji9) : Int) (of_decide_eq_true Z4) (by have h_ : ((ji9) : Int) < ((x3_1.length : Int) : Int) := of_decide_eq_true Z4; first | exact h_ | (have e_ := (Kd.R_reads' HO_3.out).1; omega) | simpa using h_)
          obtain rfl := k36_openM hM21
          have HP21 := (Kd.R_seg HO_3.out ((ji9) : Int) (of_decide_eq_true Z4) (by have h_ : ((ji9) : Int) < ((x3_1.length : Int) : Int) := of_decide_eq_true Z4; first | exact h_ | (have e_ := (Kd.R_reads' HO_3.out).1; omega) | simpa using h_) (seg := [.int .i32 ji13]) (j := 1) hcl21 hcc21 (show 2 ≤ 2 from by decide) (x' := (⟨(rd_T36 x3_1 (ji9)).f0, ji13⟩ : S36)) (k36_mkM _ _ _ (⟨(rd_T36 x3_1 (ji9)).f0, ji13⟩ : S36) ) (fun _ hk => hk)).1
          rw [← Ny115.out] at HP21
          have HQ21 := Aside0.mk HP21
          clear hcl21 hcc21 hfr21 hM21 HP21
          refine start_ (n := 15) (S := fun w' => w'.cell? ⟨gb112, 0, none⟩ = some (.int .i32 ((rd_T36 x11_1 x13_1).f0)) ∧ w'.cell? ⟨gb112, 1, none⟩ = some (.int .i32 ((rd_T36 x11_1 x13_1).f1)) ∧ w'.cell? ⟨go14, ((ji9)).toNat * 2, none⟩ = some (.int .i32 ((rd_T36 x3_1 (ji9)).f0)) ∧ w'.cell? ⟨go14, ((ji9)).toNat * 2 + 1, none⟩ = some (.int .i32 ((rd_T36 x3_1 (ji9)).f1))) (ds := [14]) #[false, false, false, false, false, false, false, false, false, false, false, false, false, false, false] Z14 rfl rfl ⟨(blk_cell BK112.out 0).trans rfl, (blk_cell BK112.out 1).trans rfl, hx114_0, hx114_1⟩ (fun hHeld => ?_); refine with_tabW runes_merged.tab9 runes_merged.bits9 (fun HT_ HW_ => ?_)
          generalize w19.drew = w20 at HO_3 HO_11 BK112 HB GG14 HQ21 hf14_0 hf14_1 hx113_0 hx113_1 hx114_0 hx114_1 hx14_0 hx14_1 hHeld ⊢
          refine pU 0 33 (hc := (any_of HT_.out Z14)) (h := ?_)
          refine pU 1 34 (hc := (any_of HT_.out Z14)) (h := ?_)
          refine pU 2 35 (hc := (any_of HT_.out Z14)) (h := ?_)
          refine pU 3 36 (hc := (any_of HT_.out Z14)) (h := ?_)
          refine pU 4 37 (hc := (any_of HT_.out Z14)) (h := ?_)
          refine pU 5 38 (hc := (any_of HT_.out Z14)) (h := ?_)
          refine pU 6 39 (hc := (any_of HT_.out Z14)) (h := ?_)
          refine pU 7 40 (hc := (any_of HT_.out Z14)) (h := ?_)
          refine pU 9 42 (hc := (any_of HT_.out Z14)) (h := ?_)
          refine take_ (i := 8) (N := some 41) (v := ?_) (a' := ?_) #[true, true, true, true, true, true, true, true, true, true, false, false, false, false, false] rfl rfl (take_ofW HT_.out HW_.out Z14) (fun _ _ _ h => h) (Or.inl ⟨by rfl, ?_⟩) hHeld ?_ ?_
          rotate_left
          ·rintro w' ⟨s0, s1, s2, s3⟩
           go_simp
           with_reducible rfl
          rotate_left
          ·simp only [Act.put, List.setIfInBounds_toArray, List.set_cons_zero, List.set_cons_succ, i64_w, i32_w]
           rfl
          refine take_ (i := 10) (N := some 43) (v := ?_) (a' := ?_) #[true, true, true, true, true, true, true, true, true, true, true, false, false, false, false] rfl rfl (take_ofW HT_.out HW_.out Z14) (fun _ _ _ h => h) (Or.inl ⟨by rfl, ?_⟩) hHeld ?_ ?_
          rotate_left
          ·rintro w' ⟨s0, s1, s2, s3⟩
           go_simp
           with_reducible rfl
          rotate_left
          ·simp only [Act.put, List.setIfInBounds_toArray, List.set_cons_zero, List.set_cons_succ, i64_w, i32_w]
           rfl
          refine pU 11 44 (hc := (any_of HT_.out Z14)) (h := ?_)
          refine pU 12 45 (hc := (any_of HT_.out Z14)) (h := ?_)
          refine pU 13 46 (hc := (any_of HT_.out Z14)) (h := ?_)
          refine last_ (i := 14) (N := none) #[true, true, true, true, true, true, true, true, true, true, true, true, true, true, true] rfl rfl (one_of HT_.out Z14) Z15 (fun K hK => ?_)
          refine skip_ (w1 := ?_) (by rfl) rfl ?_ ?_
          rotate_left
          ·go_simp
           rfl
          refine hK.out _ _ ?_
          clear hK K
          refine done_ (done_of HT_.out Z14) ?_
          try go_wp2
          (try simp only [← hl11_1])
          go_roundg k1
          case measure => have := HK1.out; omega
          case rel => exact ⟨(y115), (x11_1), (wrap64 (x13_1 + 1)), Z7, H', ⟨Z22⟩, ⟨by (try simp only [hl11_1]); (with_reducible repeat (first | apply Kd.R_alloc | apply Kd.R_drewN | apply Kd.R_drew)); exact Kd.R_mono HQ21.out (fun _ hk => hk.1)⟩, ⟨by (try simp only [hl11_1]); (with_reducible repeat (first | apply Kd.R_alloc | apply Kd.R_drewN | apply Kd.R_drew)); exact Kd.R_mono (Kd.R_far (p := ⟨go14, ((ji9) : Int).toNat * 2 + 1, none⟩) (Kd.R_mono HO_11.out (fun k_ hk => (⟨hk, fun e_ => hk.1 (by rw [e_]; rfl)⟩ : _ ∧ k_ ≠ go14))) (fun _ hk => hk.2) (.int .i32 ji13)) (fun _ hk => hk.1.1)⟩, ⟨by repeat (first | (with_reducible first | exact HB.out | apply below_alloc | apply pw_below_drewN | apply below_drew1 | refine below_set ?_ GB14.out | refine below_set ?_ GE112.out) | exact HB.out)⟩⟩
         ·rw [if_neg c12] at H
          have c12b0 := decide_eq_false c12
          clear c12
          by_cases c22 : x3_1.length < 17592186044416
          ·rw [if_pos c22] at H
           have LMc22 := Aside0.mk c22
           clear c22
           obtain ⟨y116, hy116⟩ : ∃ y_ : List (S36), y_ = (x3_1 ++ [(⟨(rd_T36 x11_1 x13_1).f0, (rd_T36 x11_1 x13_1).f1⟩ : S36)]) := ⟨_, rfl⟩
           replace H : (runes_merged.l0 k1 y116 x11_1 (t108.length : Int) (wrap64 (x13_1 + 1))) = some r := by first | (rw [hy116]; with_reducible exact H) | (have H2_ := (Option.bind_some _ _).symm.trans H; rw [hy116]; with_reducible exact H2_) | (have H2_ := (Option.bind_some _ _).symm.trans H; with_reducible exact H2_) | with_reducible exact H | (rw [hy116]; exact H) | exact H
           have Ny116 := Aside0.mk hy116
           clear hy116
           have H' := Aside0.mk H
           clear H
           have p111 : 0 ≤ (x13_1 : Int) := of_decide_eq_true Z4
           have q111 : x13_1 < (x11_1.length : Int) := of_decide_eq_true Z4
           obtain ⟨ad111, e111, hx111_0, hx111_1⟩ := at_T36 (Kd.R_reads' HO_11.out).2.2 x13_1 p111 q111
           cases e111
           replace p111 := eq_true p111
           replace q111 := eq_true q111
           try go_wp2_with (first | ((with_reducible refine gate_dst (N := 5) rfl ?_); refine box_event ?hg (N := 5) ?hd (cs := #[.int .i32 0, .int .i32 0]) (t := 36) ?hr ?_; (case hd => rfl); (case hg => rfl); (case hr => first | (go_simp; done) | (go_simp; rfl)); intro gb112 hg w23 hbox hb; replace HO_3 := Aside0.mk (Kd.R_below (Kd.R_elderB (kK HO_3) gb112 (Nat.le_of_eq hg.symm)) hb); replace HO_11 := Aside0.mk (Kd.R_below (Kd.R_elderB (kK HO_11) gb112 (Nat.le_of_eq hg.symm)) hb); have BK112 := Aside0.mk (hbox); have GW112 := gE hg zB; have GE112 := gE hg zB; replace HB := Aside0.mk (below_step zB hb); clear hb hbox hg; have hcz24_0 := bC BK112 0 (.int .i32 0); have hcz24_1 := bC BK112 1 (.int .i32 0); have hfz24_0 := blk_frozen BK112.out 0; have hfz24_1 := blk_frozen BK112.out 1; obtain ⟨Ao25, co25, eo25⟩ := Kd.R_slice HO_3.out; subst eo25))
           have n0_ : Aside0 (Kd.R k36 36 ((w23.setCell ⟨gb112, 0, none⟩ (.int .i32 ((rd_T36 x11_1 x13_1).f0))).setCell ⟨gb112, 1, none⟩ (.int .i32 ((rd_T36 x11_1 x13_1).f1))) w.heap.size (fun k_ => some k_ ≠ (.slice (some ad111) x11_1.length co4 : Value).ownBlock ∧ k_ ≠ gb112) (.slice Ao25 x3_1.length co25) x3_1) := ⟨by (with_reducible repeat (first | apply Kd.R_alloc | apply Kd.R_drewN | apply Kd.R_drew)); exact Kd.R_mono (Kd.R_far (p := ⟨gb112, 1, none⟩) (Kd.R_far (p := ⟨gb112, 0, none⟩) (Kd.R_mono HO_3.out (fun k_ hk => (⟨hk, hk.2⟩ : _ ∧ k_ ≠ gb112))) (fun _ hk => hk.2) (.int .i32 ((rd_T36 x11_1 x13_1).f0))) (fun _ hk => hk.2) (.int .i32 ((rd_T36 x11_1 x13_1).f1))) (fun _ hk => ⟨hk.1.1, hk.1.2⟩)⟩
           have n1_ : Aside0 (Kd.R k36 36 ((w23.setCell ⟨gb112, 0, none⟩ (.int .i32 ((rd_T36 x11_1 x13_1).f0))).setCell ⟨gb112, 1, none⟩ (.int .i32 ((rd_T36 x11_1 x13_1).f1))) w.heap.size (fun k_ => some k_ ≠ (.slice Ao25 x3_1.length co25 : Value).ownBlock ∧ k_ ≠ gb112) (.slice (some ad111) x11_1.length co4) x11_1) := ⟨by (with_reducible repeat (first | apply Kd.R_alloc | apply Kd.R_drewN | apply Kd.R_drew)); exact Kd.R_mono (Kd.R_far (p := ⟨gb112, 1, none⟩) (Kd.R_far (p := ⟨gb112, 0, none⟩) (Kd.R_mono HO_11.out (fun k_ hk => (⟨hk, hk.2⟩ : _ ∧ k_ ≠ gb112))) (fun _ hk => hk.2) (.int .i32 ((rd_T36 x11_1 x13_1).f0))) (fun _ hk => hk.2) (.int .i32 ((rd_T36 x11_1 x13_1).f1))) (fun _ hk => ⟨hk.1.1, hk.1.2⟩)⟩
           have n2_ : Aside0 (((w23.setCell ⟨gb112, 0, none⟩ (.int .i32 ((rd_T36 x11_1 x13_1).f0))).setCell ⟨gb112, 1, none⟩ (.int .i32 ((rd_T36 x11_1 x13_1).f1))).heap[gb112]? = some (.cells #[.int .i32 ((rd_T36 x11_1 x13_1).f0), .int .i32 ((rd_T36 x11_1 x13_1).f1)] 36 (0, 0))) := ⟨Z11⟩
           have n3_ : Aside0 (Below w.heap.size w ((w23.setCell ⟨gb112, 0, none⟩ (.int .i32 ((rd_T36 x11_1 x13_1).f0))).setCell ⟨gb112, 1, none⟩ (.int .i32 ((rd_T36 x11_1 x13_1).f1)))) := ⟨Z1⟩
           (try clear HO_3)
           (try clear HO_11)
           (try clear BK112)
           (try clear HB)
           generalize ((w23.setCell ⟨gb112, 0, none⟩ (.int .i32 ((rd_T36 x11_1 x13_1).f0))).setCell ⟨gb112, 1, none⟩ (.int .i32 ((rd_T36 x11_1 x13_1).f1))) = w26 at n0_ n1_ n2_ n3_ ⊢
           have HO_3 := n0_
           have HO_11 := n1_
           have BK112 := n2_
           have HB := n3_
           clear n0_ n1_ n2_ n3_
           replace HO_3 := Aside0.mk (Kd.R_drew HO_3.out)
           replace HO_11 := Aside0.mk (Kd.R_drew HO_11.out)
           replace BK112 := Aside0.mk (blk_drew BK112.out)
           replace HB := Aside0.mk (below_drew1 HB.out)
           have p113 : 0 ≤ ((ji9) : Int) := of_decide_eq_true Z4
           have q113 : (ji9) < (x3_1.length : Int) := of_decide_eq_true Z4
           obtain ⟨ad113, e113, hx113_0, hx113_1⟩ := at_T36 (Kd.R_reads' HO_3.out).2.2 (ji9) p113 q113
           cases e113
           replace p113 := eq_true p113
           replace q113 := eq_true q113
           refine start_ (n := 14) (S := fun w' => w'.cell? ⟨gb112, 0, none⟩ = some (.int .i32 ((rd_T36 x11_1 x13_1).f0)) ∧ w'.cell? ⟨gb112, 1, none⟩ = some (.int .i32 ((rd_T36 x11_1 x13_1).f1)) ∧ w'.cell? (ad113.add (((ji9)).toNat * 2)) = some (.int .i32 ((rd_T36 x3_1 (ji9)).f0)) ∧ w'.cell? ⟨(ad113.add (((ji9)).toNat * 2)).block, (ad113.add (((ji9)).toNat * 2)).off + 1, none⟩ = some (.int .i32 ((rd_T36 x3_1 (ji9)).f1))) (ds := []) #[false, false, false, false, false, false, false, false, false, false, false, false, false, false] Z14 rfl rfl ⟨(blk_cell BK112.out 0).trans rfl, (blk_cell BK112.out 1).trans rfl, hx113_0, hx113_1⟩ (fun hHeld => ?_); refine with_tabW runes_merged.tab8 runes_merged.bits8 (fun HT_ HW_ => ?_)
           generalize w26.drew = w27 at HO_3 HO_11 BK112 HB hx113_0 hx113_1 hHeld ⊢
           refine pU 0 19 (hc := (any_of HT_.out Z14)) (h := ?_)
           refine pU 1 20 (hc := (any_of HT_.out Z14)) (h := ?_)
           refine pU 2 21 (hc := (any_of HT_.out Z14)) (h := ?_)
           refine pU 3 22 (hc := (any_of HT_.out Z14)) (h := ?_)
           refine pU 5 24 (hc := (any_of HT_.out Z14)) (h := ?_)
           refine pU 6 25 (hc := (any_of HT_.out Z14)) (h := ?_)
           refine pU 7 26 (hc := (any_of HT_.out Z14)) (h := ?_)
           refine pU 8 27 (hc := (any_of HT_.out Z14)) (h := ?_)
           refine pU 9 28 (hc := (any_of HT_.out Z14)) (h := ?_)
           refine take_ (i := 4) (N := some 23) (v := ?_) (a' := ?_) #[true, true, true, true, true, true, true, true, true, true, false, false, false, false] rfl rfl (take_ofW HT_.out HW_.out Z14) (fun _ _ _ h => h) (Or.inl ⟨by rfl, ?_⟩) hHeld ?_ ?_
           rotate_left
           ·rintro w' ⟨s0, s1, s2, s3⟩
            go_simp
            with_reducible rfl
           rotate_left
           ·simp only [Act.put, List.setIfInBounds_toArray, List.set_cons_zero, List.set_cons_succ, i64_w, i32_w]
            rfl
           refine take_ (i := 10) (N := some 29) (v := ?_) (a' := ?_) #[true, true, true, true, true, true, true, true, true, true, true, false, false, false] rfl rfl (take_ofW HT_.out HW_.out Z14) (fun _ _ _ h => h) (Or.inl ⟨by rfl, ?_⟩) hHeld ?_ ?_
           rotate_left
           ·rintro w' ⟨s0, s1, s2, s3⟩
            go_simp
            with_reducible rfl
           rotate_left
           ·simp only [Act.put, List.setIfInBounds_toArray, List.set_cons_zero, List.set_cons_succ, i64_w, i32_w]
            rfl
           refine pU 11 30 (hc := (any_of HT_.out Z14)) (h := ?_)
           refine pU 12 31 (hc := (any_of HT_.out Z14)) (h := ?_)
           refine pU 13 32 (hc := (any_of HT_.out Z14)) (h := ?_)
           refine done_ (done_of HT_.out Z14) ?_
           have hcz28_0 := bC BK112 0 (.int .i32 ((rd_T36 x11_1 x13_1).f0))
           have hcz28_1 := bC BK112 1 (.int .i32 ((rd_T36 x11_1 x13_1).f1))
           have hfz28_0 := blk_frozen BK112.out 0
           have hfz28_1 := blk_frozen BK112.out 1
           try go_wp2_with (first | ((with_reducible refine gate_builtin (b := .append) (xs := #[.tmp 47, .tmp 49]) rfl ?_); at_builtin; refine Kd.R_append k36 (w0 := w) w.heap.size rfl (.tmp 47) (.tmp 49) 22 36 (.agg #[(.int .i32 0), (.int .i32 0)]) 8 rfl Tryd.underlying22 info36 rfl Z15 Z16 (.slice (some ad113) x3_1.length co25) x3_1 (⟨(rd_T36 x11_1 x13_1).f0, (rd_T36 x11_1 x13_1).f1⟩ : S36) [.int .i32 ((rd_T36 x11_1 x13_1).f0), .int .i32 ((rd_T36 x11_1 x13_1).f1)] (fun k_ => some k_ ≠ (.slice (some ad111) x11_1.length co4 : Value).ownBlock ∧ k_ ≠ gb112) (fun _ => False) rfl rfl ?aP (fun _ hk => hk.elim) ?aF ?aO ?aB ?aS ?aL ?_; (case aP => exact k36_mkM _ _ _ (⟨(rd_T36 x11_1 x13_1).f0, (rd_T36 x11_1 x13_1).f1⟩ : S36)); (case aB => exact zB); (case aF => exact (fun k_ hk => ⟨Kd.fresh' (Kd.R_lt (kK HO_11)) k_ hk, Kd.freshB (g := gb112) (o := .cells #[.int .i32 ((rd_T36 x11_1 x13_1).f0), .int .i32 ((rd_T36 x11_1 x13_1).f1)] 36 (0, 0)) (bK BK112) k_ hk⟩)); (case aO => exact (kK HO_3)); (case aS => exact (below_size zB)); (case aL => have := LMc22.out; omega); intro v117 w29 ho hb hg hat; rw [← Ny116.out] at ho; have n0_ := Aside0.mk (Kd.R_after (ok := (fun k_ => k_ ≠ gb112)) (by (with_reducible repeat (first | apply Kd.R_alloc | apply Kd.R_drewN | apply Kd.R_drew)); exact Kd.R_mono HO_11.out (fun _ hk => ⟨hk.2, hk.1⟩)) hg hat); have n1_ := Aside0.mk (blk_grown (g := gb112) (o := .cells #[.int .i32 ((rd_T36 x11_1 x13_1).f0), .int .i32 ((rd_T36 x11_1 x13_1).f1)] 36 (0, 0)) (bK BK112) hg (Kd.R_away HO_3.out (fun _ hk => hk.2))); have n2_ := Aside0.mk (hb); have n3_ := Aside0.mk (ho); clear HO_11; clear BK112; clear HB; clear HO_3; have HO_11 := n0_; have BK112 := n1_; have HB := n2_; have HO118 := n3_; clear n0_ n1_ n2_ n3_; clear ho hb hg hat))
           (try simp only [← hl11_1])
           go_roundg k1
           case measure => have := HK1.out; omega
           case rel => exact ⟨(y116), (x11_1), (wrap64 (x13_1 + 1)), Z7, H', ⟨Z22⟩, ⟨by (try simp only [hl11_1]); (with_reducible repeat (first | apply Kd.R_alloc | apply Kd.R_drewN | apply Kd.R_drew)); exact Kd.R_mono HO118.out (fun _ hk => hk.1)⟩, ⟨by (try simp only [hl11_1]); (with_reducible repeat (first | apply Kd.R_alloc | apply Kd.R_drewN | apply Kd.R_drew)); exact Kd.R_mono HO_11.out (fun _ hk => hk.2)⟩, ⟨Z1⟩⟩
          ·rw [if_neg c22] at H
           exact absurd H Z21
        ·rw [if_neg c11] at H
         exact absurd H Z21
       ·rw [if_neg c10] at H
        exact absurd H Z21
      ·rw [if_neg c8] at H
       have c8b0 : decide (0 < (x3_1.length : Int)) = false := decide_eq_false c8
       have c8b1 : decide (0 < x3_1.length) = false := decide_eq_false Z16
       clear c8
       by_cases c30 : x3_1.length < 17592186044416
       ·rw [if_pos c30] at H
        have LMc30 := Aside0.mk c30
        clear c30
        obtain ⟨y119, hy119⟩ : ∃ y_ : List (S36), y_ = (x3_1 ++ [(⟨(rd_T36 x11_1 x13_1).f0, (rd_T36 x11_1 x13_1).f1⟩ : S36)]) := ⟨_, rfl⟩
        replace H : (runes_merged.l0 k1 y119 x11_1 (t108.length : Int) (wrap64 (x13_1 + 1))) = some r := by first | (rw [hy119]; with_reducible exact H) | (have H2_ := (Option.bind_some _ _).symm.trans H; rw [hy119]; with_reducible exact H2_) | (have H2_ := (Option.bind_some _ _).symm.trans H; with_reducible exact H2_) | with_reducible exact H | (rw [hy119]; exact H) | exact H
        have Ny119 := Aside0.mk hy119
        clear hy119
        have H' := Aside0.mk H
        clear H
        have p111 : 0 ≤ (x13_1 : Int) := of_decide_eq_true Z4
        have q111 : x13_1 < (x11_1.length : Int) := of_decide_eq_true Z4
        obtain ⟨ad111, e111, hx111_0, hx111_1⟩ := at_T36 (Kd.R_reads' HO_11.out).2.2 x13_1 p111 q111
        cases e111
        replace p111 := eq_true p111
        replace q111 := eq_true q111
        try go_wp2_with (first | ((with_reducible refine gate_dst (N := 5) rfl ?_); refine box_event ?hg (N := 5) ?hd (cs := #[.int .i32 0, .int .i32 0]) (t := 36) ?hr ?_; (case hd => rfl); (case hg => rfl); (case hr => first | (go_simp; done) | (go_simp; rfl)); intro gb112 hg w31 hbox hb; replace HO_3 := Aside0.mk (Kd.R_below (Kd.R_elderB (kK HO_3) gb112 (Nat.le_of_eq hg.symm)) hb); replace HO_11 := Aside0.mk (Kd.R_below (Kd.R_elderB (kK HO_11) gb112 (Nat.le_of_eq hg.symm)) hb); have BK112 := Aside0.mk (hbox); have GW112 := gE hg zB; have GE112 := gE hg zB; replace HB := Aside0.mk (below_step zB hb); clear hb hbox hg; have hcz32_0 := bC BK112 0 (.int .i32 0); have hcz32_1 := bC BK112 1 (.int .i32 0); have hfz32_0 := blk_frozen BK112.out 0; have hfz32_1 := blk_frozen BK112.out 1; obtain ⟨Ao33, co33, eo33⟩ := Kd.R_slice HO_3.out; subst eo33))
        have n0_ : Aside0 (Kd.R k36 36 ((w31.setCell ⟨gb112, 0, none⟩ (.int .i32 ((rd_T36 x11_1 x13_1).f0))).setCell ⟨gb112, 1, none⟩ (.int .i32 ((rd_T36 x11_1 x13_1).f1))) w.heap.size (fun k_ => some k_ ≠ (.slice (some ad111) x11_1.length co4 : Value).ownBlock ∧ k_ ≠ gb112) (.slice Ao33 x3_1.length co33) x3_1) := ⟨by (with_reducible repeat (first | apply Kd.R_alloc | apply Kd.R_drewN | apply Kd.R_drew)); exact Kd.R_mono (Kd.R_far (p := ⟨gb112, 1, none⟩) (Kd.R_far (p := ⟨gb112, 0, none⟩) (Kd.R_mono HO_3.out (fun k_ hk => (⟨hk, hk.2⟩ : _ ∧ k_ ≠ gb112))) (fun _ hk => hk.2) (.int .i32 ((rd_T36 x11_1 x13_1).f0))) (fun _ hk => hk.2) (.int .i32 ((rd_T36 x11_1 x13_1).f1))) (fun _ hk => ⟨hk.1.1, hk.1.2⟩)⟩
        have n1_ : Aside0 (Kd.R k36 36 ((w31.setCell ⟨gb112, 0, none⟩ (.int .i32 ((rd_T36 x11_1 x13_1).f0))).setCell ⟨gb112, 1, none⟩ (.int .i32 ((rd_T36 x11_1 x13_1).f1))) w.heap.size (fun k_ => some k_ ≠ (.slice Ao33 x3_1.length co33 : Value).ownBlock ∧ k_ ≠ gb112) (.slice (some ad111) x11_1.length co4) x11_1) := ⟨by (with_reducible repeat (first | apply Kd.R_alloc | apply Kd.R_drewN | apply Kd.R_drew)); exact Kd.R_mono (Kd.R_far (p := ⟨gb112, 1, none⟩) (Kd.R_far (p := ⟨gb112, 0, none⟩) (Kd.R_mono HO_11.out (fun k_ hk => (⟨hk, hk.2⟩ : _ ∧ k_ ≠ gb112))) (fun _ hk => hk.2) (.int .i32 ((rd_T36 x11_1 x13_1).f0))) (fun _ hk => hk.2) (.int .i32 ((rd_T36 x11_1 x13_1).f1))) (fun _ hk => ⟨hk.1.1, hk.1.2⟩)⟩
        have n2_ : Aside0 (((w31.setCell ⟨gb112, 0, none⟩ (.int .i32 ((rd_T36 x11_1 x13_1).f0))).setCell ⟨gb112, 1, none⟩ (.int .i32 ((rd_T36 x11_1 x13_1).f1))).heap[gb112]? = some (.cells #[.int .i32 ((rd_T36 x11_1 x13_1).f0), .int .i32 ((rd_T36 x11_1 x13_1).f1)] 36 (0, 0))) := ⟨Z11⟩
        have n3_ : Aside0 (Below w.heap.size w ((w31.setCell ⟨gb112, 0, none⟩ (.int .i32 ((rd_T36 x11_1 x13_1).f0))).setCell ⟨gb112, 1, none⟩ (.int .i32 ((rd_T36 x11_1 x13_1).f1)))) := ⟨Z1⟩
        (try clear HO_3)
        (try clear HO_11)
        (try clear BK112)
        (try clear HB)
        generalize ((w31.setCell ⟨gb112, 0, none⟩ (.int .i32 ((rd_T36 x11_1 x13_1).f0))).setCell ⟨gb112, 1, none⟩ (.int .i32 ((rd_T36 x11_1 x13_1).f1))) = w34 at n0_ n1_ n2_ n3_ ⊢
        have HO_3 := n0_
        have HO_11 := n1_
        have BK112 := n2_
        have HB := n3_
        clear n0_ n1_ n2_ n3_
        replace HO_3 := Aside0.mk (Kd.R_drew HO_3.out)
        replace HO_11 := Aside0.mk (Kd.R_drew HO_11.out)
        replace BK112 := Aside0.mk (blk_drew BK112.out)
        replace HB := Aside0.mk (below_drew1 HB.out)
        refine start_ (n := 14) (S := fun w' => True) (ds := []) #[false, false, false, false, false, false, false, false, false, false, false, false, false, false] Z14 rfl rfl trivial (fun hHeld => ?_); refine with_tabW runes_merged.tab8 runes_merged.bits8 (fun HT_ HW_ => ?_)
        generalize w34.drew = w35 at HO_3 HO_11 BK112 HB hHeld ⊢
        refine pU 0 19 (hc := (any_of HT_.out Z14)) (h := ?_)
        refine pU 1 20 (hc := (any_of HT_.out Z14)) (h := ?_)
        refine pU 2 21 (hc := (any_of HT_.out Z14)) (h := ?_)
        refine pV 3 22 (hc := (any_of HT_.out Z14)) (h := ?_)
        refine pV 4 23 (hc := (any_of HT_.out Z14)) (h := ?_)
        refine pV 5 24 (hc := (any_of HT_.out Z14)) (h := ?_)
        refine pV 6 25 (hc := (any_of HT_.out Z14)) (h := ?_)
        refine pV 7 26 (hc := (any_of HT_.out Z14)) (h := ?_)
        refine pV 8 27 (hc := (any_of HT_.out Z14)) (h := ?_)
        refine pV 9 28 (hc := (any_of HT_.out Z14)) (h := ?_)
        refine pV 10 29 (hc := (any_of HT_.out Z14)) (h := ?_)
        refine pV 11 30 (hc := (any_of HT_.out Z14)) (h := ?_)
        refine pV 12 31 (hc := (any_of HT_.out Z14)) (h := ?_)
        refine pU 13 32 (hc := (any_of HT_.out Z14)) (h := ?_)
        refine done_ (done_of HT_.out Z14) ?_
        have hcz36_0 := bC BK112 0 (.int .i32 ((rd_T36 x11_1 x13_1).f0))
        have hcz36_1 := bC BK112 1 (.int .i32 ((rd_T36 x11_1 x13_1).f1))
        have hfz36_0 := blk_frozen BK112.out 0
        have hfz36_1 := blk_frozen BK112.out 1
        try go_wp2_with (first | ((with_reducible refine gate_builtin (b := .append) (xs := #[.tmp 47, .tmp 49]) rfl ?_); at_builtin; refine Kd.R_append k36 (w0 := w) w.heap.size rfl (.tmp 47) (.tmp 49) 22 36 (.agg #[(.int .i32 0), (.int .i32 0)]) 8 rfl Tryd.underlying22 info36 rfl Z15 Z16 (.slice Ao33 x3_1.length co33) x3_1 (⟨(rd_T36 x11_1 x13_1).f0, (rd_T36 x11_1 x13_1).f1⟩ : S36) [.int .i32 ((rd_T36 x11_1 x13_1).f0), .int .i32 ((rd_T36 x11_1 x13_1).f1)] (fun k_ => some k_ ≠ (.slice (some ad111) x11_1.length co4 : Value).ownBlock ∧ k_ ≠ gb112) (fun _ => False) rfl rfl ?aP (fun _ hk => hk.elim) ?aF ?aO ?aB ?aS ?aL ?_; (case aP => exact k36_mkM _ _ _ (⟨(rd_T36 x11_1 x13_1).f0, (rd_T36 x11_1 x13_1).f1⟩ : S36)); (case aB => exact zB); (case aF => exact (fun k_ hk => ⟨Kd.fresh' (Kd.R_lt (kK HO_11)) k_ hk, Kd.freshB (g := gb112) (o := .cells #[.int .i32 ((rd_T36 x11_1 x13_1).f0), .int .i32 ((rd_T36 x11_1 x13_1).f1)] 36 (0, 0)) (bK BK112) k_ hk⟩)); (case aO => exact (kK HO_3)); (case aS => exact (below_size zB)); (case aL => have := LMc30.out; omega); intro v120 w37 ho hb hg hat; rw [← Ny119.out] at ho; have n0_ := Aside0.mk (Kd.R_after (ok := (fun k_ => k_ ≠ gb112)) (by (with_reducible repeat (first | apply Kd.R_alloc | apply Kd.R_drewN | apply Kd.R_drew)); exact Kd.R_mono HO_11.out (fun _ hk => ⟨hk.2, hk.1⟩)) hg hat); have n1_ := Aside0.mk (blk_grown (g := gb112) (o := .cells #[.int .i32 ((rd_T36 x11_1 x13_1).f0), .int .i32 ((rd_T36 x11_1 x13_1).f1)] 36 (0, 0)) (bK BK112) hg (Kd.R_away HO_3.out (fun _ hk => hk.2))); have n2_ := Aside0.mk (hb); have n3_ := Aside0.mk (ho); clear HO_11; clear BK112; clear HB; clear HO_3; have HO_11 := n0_; have BK112 := n1_; have HB := n2_; have HO121 := n3_; clear n0_ n1_ n2_ n3_; clear ho hb hg hat))
        (try simp only [← hl11_1])
        go_roundg k1
        case measure => have := HK1.out; omega
        case rel => exact ⟨(y119), (x11_1), (wrap64 (x13_1 + 1)), Z7, H', ⟨Z22⟩, ⟨by (try simp only [hl11_1]); (with_reducible repeat (first | apply Kd.R_alloc | apply Kd.R_drewN | apply Kd.R_drew)); exact Kd.R_mono HO121.out (fun _ hk => hk.1)⟩, ⟨by (try simp only [hl11_1]); (with_reducible repeat (first | apply Kd.R_alloc | apply Kd.R_drewN | apply Kd.R_drew)); exact Kd.R_mono HO_11.out (fun _ hk => hk.2)⟩, ⟨Z1⟩⟩
       ·rw [if_neg c30] at H
        exact absurd H Z21
     ·rw [if_neg c7] at H
      exact absurd H Z21
    ·rw [if_neg c6] at H
     exact absurd H Z21
   ·rw [if_neg c5] at H
    have c5b0 := decide_eq_false c5
    (try rw [hl11_1] at c5b0)
    clear c5
    obtain rfl := Option.some.inj H
    go_wp2
    go_ret
    exact ⟨_, Z5, by (with_reducible repeat (first | apply Kd.R_alloc | apply Kd.R_drewN | apply Kd.R_drew)); exact Kd.R_mono HO_3.out (fun _ hk => trivial), Z1⟩
end Go.Proofs.YtfnkboilepgmoaaDoor.R
