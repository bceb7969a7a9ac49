import Derived.Test.YtfnkboilepgmoaaDoorFPre
import Derived.Test.YtfnkboilepgmoaaDoorFabx0
import Derived.Test.YtfnkboilepgmoaaDoorFabx3
import Derived.Test.YtfnkboilepgmoaaDoorFabx4
import Derived.Test.YtfnkboilepgmoaaDoorFabx5
import Derived.Test.YtfnkboilepgmoaaDoorFabx6
namespace Go.Proofs.YtfnkboilepgmoaaDoor.R
open Go.RowKit Go.Proofs.YtfnkboilepgmoaaDoorW.PrintWords Go.Proofs.YtfnkboilepgmoaaDoorW.PrintLast Go.Proofs.YtfnkboilepgmoaaDoorW.PrintMore
attribute [local go_sem] max2_int min2_int max_two min_two max_three min_three max_four min_four
set_option linter.unusedVariables false
set_option linter.unusedSimpArgs false
def api_Range_47.f (l0 : List (List S36)) : Option (List S36) := if l0.flatten.length ≤ 17592186044416 then some l0.flatten else none
theorem api_Range_47.step (l : List (List S36)) (x : Int) (h0 : 0 ≤ x) (h : x < (l.length : Int)) : (l.take (x + 1).toNat).flatten = (l.take x.toNat).flatten ++ rd_L2 l x := by
 have hl : x.toNat < l.length := by omega
 rw [show (x + 1).toNat = x.toNat + 1 from by omega, List.take_succ_eq_append_getElem hl, List.flatten_append]
 unfold rd_L2
 rw [List.getD_eq_getElem?_getD, List.getElem?_eq_getElem hl]
 simp
theorem api_Range_47.le (l : List (List S36)) (n : Nat) : (l.take n).flatten.length ≤ l.flatten.length := by
 have h := congrArg (fun z => z.flatten.length) (List.take_append_drop n l)
 simp only [List.flatten_append, List.length_append] at h
 omega
def api_Range_47.ren : Go.Shelf.Ren := ⟨fun | 4 => 66 | n => n, fun | 25 => 36 | n => n, fun n => n⟩
theorem api_Range_47.growL : Lays8.n4 Tryd.prog api_Range_47.ren := {
 mixed := by kernel_rfl
 f4 := ⟨Tryd.f66.name, Z28, Tryd.func66.trans (congrArg some Z8)⟩
 t0 := Tryd.underlying0
 a0 := Tryd.isAgg0
 z0 := Tryd.sizeOf0
 v0 := Tryd.zeroValue0
 t3 := Tryd.underlying3
 a3 := Tryd.isAgg3
 z3 := Tryd.sizeOf3
 v3 := Tryd.zeroValue3
 t4 := Tryd.underlying4
 a4 := Tryd.isAgg4
 z4 := Tryd.sizeOf4
 v4 := Tryd.zeroValue4
 t9 := Tryd.underlying9
 a9 := Tryd.isAgg9
 z9 := Tryd.sizeOf9
 v9 := Tryd.zeroValue9
 t20 := Tryd.underlying20
 a20 := Tryd.isAgg20
 z20 := Tryd.sizeOf20
 v20 := Tryd.zeroValue20
 t22 := Tryd.underlying22
 a22 := Tryd.isAgg22
 z22 := Tryd.sizeOf22
 v22 := Tryd.zeroValue22 }
theorem api_Range_47.zc (cs : Array Value) (n : Nat) : (Builtin.zeroCells cs n).size = n * cs.size := by
 unfold Builtin.zeroCells
 simp
theorem api_Range_47.grow (n : Nat) (w : World) (hn : n * 8 ≤ 140737488355328) :
  Calls Tryd.prog 66 #[.slice none 0 0, .int .i64 n] w fun e w' => ∃ v, e = .returned v ∧ Kd.R k36 36 w' w.heap.size (fun _ => True) v ([] : List S36) ∧ Below w.heap.size w w' := by
 rcases Nat.eq_zero_or_pos n with rfl | hp
 ·refine (Any8.slices_Grow_room api_Range_47.growL none 0 0 0 w (Nat.le_refl _) Z19 Z19 Z19).mono ?_
  rintro e w' ⟨rfl, rfl⟩
  exact ⟨_, rfl, Kd.R_nil _ _ _ _ _, Below.refl _ _⟩
 ·obtain ⟨i0, hi0, hz0, hz1, hz2⟩ := info_parts info36
  refine (Any8.slices_Grow_grow api_Range_47.growL i0 _ hi0 hz0 (by rw [hz1]; decide) none 0 0 n [] w (Nat.le_refl _) Z19 (by rw [hz2]; omega) Z19 Z23 (fun _ => rfl) (fun a h => by cases h)).mono ?_
  rintro e w' ⟨rfl, rfl⟩
  have hge := grownCap_ge w (0 + n) 0 36
  have hle := grownCap_le_maxLen w (0 + n) 0 36 (by unfold maxLen; omega)
  refine ⟨_, rfl, ⟨fun _ _ => trivial, [], ⟨Z23, .inr ⟨w.heap.size, _, _, rfl, Nat.le_refl _, blk_new w.drew _, Nat.zero_le _, hle, ?_, Z23⟩⟩, Reps.none _ _⟩, ?_⟩
  ·show (#[] ++ Builtin.zeroCells _ _ ++ Builtin.zeroCells _ _).size = _
   rw [Array.size_append, Array.size_append, api_Range_47.zc, api_Range_47.zc]
   show 0 + _ * 2 + _ * 2 = _ * 2
   have : (api_Range_47.ren.t 25) = 36 := rfl
   rw [this]
   omega
  ·exact (below_drew1 (Below.refl _ _)).alloc (Nat.le_refl _) _
def api_Range_47.sz (l : List (List S36)) (x : Int) : Int := ((l.take x.toNat).flatten.length : Int)
theorem api_Range_47.sz0 (l : List (List S36)) : api_Range_47.sz l 0 = 0 := by unfold api_Range_47.sz; simp
theorem api_Range_47.sz1 (l : List (List S36)) (x : Int) (h0 : 0 ≤ x) (h : x < (l.length : Int)) (hb : l.flatten.length ≤ 17592186044416) : wrap64 (api_Range_47.sz l x + ((rd_L2 l x).length : Int)) = api_Range_47.sz l (x + 1) ∧ 0 ≤ api_Range_47.sz l (x + 1) := by
 have h1 := congrArg List.length (api_Range_47.step l x h0 h)
 have h2 := api_Range_47.le l (x + 1).toNat
 rw [List.length_append] at h1
 unfold api_Range_47.sz wrap64
 omega
theorem api_Range_47.sz2 (l : List (List S36)) (x : Int) (h : x = (l.length : Int)) : api_Range_47.sz l x = ((l.flatten.length : Nat) : Int) := by
 unfold api_Range_47.sz
 rw [List.take_of_length_le Z19]
set_option maxHeartbeats 8000000 in
set_option maxRecDepth 100000 in
theorem api_Range_47.calls (A0 : Option Addr) (c0 : Nat) (l0 : List (List (S36))) (r : List (S36)) (w : World) (hr0 : Kd.C (Kd.slice 36 k36) w A0 l0.length l0) (hc0 : l0.length ≤ c0) (h : api_Range_47.f l0 = some r) :
  Calls Tryd.prog 47 #[.slice A0 l0.length c0] w fun e w' => ∃ v0_ : Value, e = .returned (v0_) ∧ Kd.R k36 36 w' w.heap.size (fun _ => True) v0_ r ∧ Below w.heap.size w w' := by
 unfold api_Range_47.f at h
 by_cases hb : l0.flatten.length ≤ 17592186044416
 rotate_left
 ·rw [if_neg hb] at h; exact absurd h Z23
 rw [if_pos hb] at h
 obtain rfl := Option.some.inj h
 clear h
 have hlen := hr0.2.1
 have HR0 := Aside0.mk hr0
 clear hr0 hc0
 have HBD := Aside0.mk hb
 clear hb
 go_enter Tryd.func47, Tryd.ntmps47
 go_wp2
 go_loopw [3, 11] (fun s i wr => ∃ (x : Int), 0 ≤ x ∧ x ≤ (l0.length : Int) ∧ i = .int .i64 x ∧ s = .int .i64 (api_Range_47.sz l0 x) ∧ w = wr) (fun _ i _ => l0.length - (intOf i).toNat)
 case atStart => exact ⟨0, Z19, Z19, rfl, by rw [api_Range_47.sz0], rfl⟩
 case round =>
  obtain ⟨x, hx0, hx1, rfl, rfl, rfl⟩ := hrel
  by_cases hlt : x < (l0.length : Int)
  ·have d1 : decide (x < (l0.length : Int)) = true := decide_eq_true hlt
   obtain ⟨ad, A1, c1, e0, h0, h1, h2⟩ := at_L2 HR0.out x hx0 hlt
   cases e0
   obtain ⟨hsum, hpos⟩ := api_Range_47.sz1 l0 x hx0 hlt HBD.out
   have hw : wrap64 (x + 1) = x + 1 := by unfold wrap64; omega
   have d2 : decide (api_Range_47.sz l0 (x + 1) < 0) = false := decide_eq_false Z19
   have p0 := eq_true hx0
   have q0 := eq_true hlt
   go_wp2
   go_roundw
   case rel => exact ⟨x + 1, Z19, Z19, by first | rfl | rw [hw], by first | exact congrArg _ hsum | rfl, Z23⟩
   case measure => simp [intOf]; omega
  ·have d1 : decide (x < (l0.length : Int)) = false := decide_eq_false hlt
   obtain ⟨n, hn⟩ : ∃ n : Nat, n = l0.flatten.length := ⟨_, rfl⟩
   rw [api_Range_47.sz2 l0 x Z19, ← hn]
   have hn8 : n * 8 ≤ 140737488355328 := by have := HBD.out; omega
   clear hlt hx0 hx1 hn
   have hn8 := Aside0.mk hn8
   go_wp2_with (go_at_call 66; refine (api_Range_47.grow n w hn8.out).mono ?_; rintro e W1 ⟨v1, rfl, hR, hB⟩; have R1 := Aside0.mk hR; have B1 := Aside0.mk hB; clear hR hB)
   go_loopw [6, 27] (fun u i wr => ∃ (x : Int), 0 ≤ x ∧ x ≤ (l0.length : Int) ∧ i = .int .i64 x ∧ Aside0 (Kd.R k36 36 wr w.heap.size (fun _ => True) u (l0.take x.toNat).flatten) ∧ Aside0 (Below w.heap.size w wr)) (fun _ i _ => l0.length - (intOf i).toNat)
   case atStart => exact ⟨0, Z19, Z19, rfl, by simpa using R1, B1⟩
   case round =>
    clear R1 B1
    obtain ⟨x, hx0, hx1, rfl, HO, HB⟩ := hrel
    by_cases hlt : x < (l0.length : Int)
    ·have d1 : decide (x < (l0.length : Int)) = true := decide_eq_true hlt
     obtain ⟨ad, A1, c1, e0, h0, h1, h2⟩ := at_L2 HR0.out x hx0 hlt
     cases e0
     replace h0 := (HB.out.cell (World.block_lt_of_cell? w _ h0)).trans h0
     have HR1 := Aside0.mk h2
     clear h2
     obtain ⟨ys, hys⟩ : ∃ ys, rd_L2 l0 x = ys := ⟨_, rfl⟩
     obtain ⟨xs, hxs⟩ : ∃ xs, (l0.take x.toNat).flatten = xs := ⟨_, rfl⟩
     have hst := api_Range_47.step l0 x hx0 hlt
     have hle := api_Range_47.le l0 (x + 1).toNat
     rw [hys, hxs] at hst
     have hl2 : (xs.length + ys.length) * 8 ≤ 140737488355328 := by
      have h3 := congrArg List.length hst
      rw [List.length_append] at h3
      have := HBD.out
      omega
     rw [hxs] at HO
     rw [hys] at h0 h1 HR1
     clear hxs hys hle
     have hst := Aside0.mk hst
     have hl2 := Aside0.mk hl2
     have h1 := Aside0.mk h1
     have hw : wrap64 (x + 1) = x + 1 := by unfold wrap64; omega
     have p0 := eq_true hx0
     have q0 := eq_true hlt
     go_wp2_with ((with_reducible refine gate_builtin (b := .append) (xs := #[.tmp 31, .tmp 32]) rfl ?_); at_builtin; refine Kd.R_append_rows k36 (w0 := w) w.heap.size rfl (.tmp 31) (.tmp 32) 22 36 (.agg #[(.int .i32 0), (.int .i32 0)]) 8 rfl Tryd.underlying22 info36 rfl Z28 Z19 u6 xs ys _ _ _ (fun _ => True) (fun _ => False) rfl rfl ?aO ?aR (fun _ _ h => h) (fun _ h => h.elim) ?aF ?aB ?aS ?aL ?_; (case aR => exact Kd.C_below HR1.out HB.out); (case aB => exact HB.out); (case aF => exact (fun _ _ => trivial)); (case aO => exact HO.out); (case aS => exact (below_size HB.out)); (case aL => exact hl2.out); intro v5 w5 ho hb hg hat; have HO2 := Aside0.mk ho; have HB2 := Aside0.mk hb; clear ho hb hg hat)
     go_roundw
     case rel => exact ⟨x + 1, Z19, Z19, by first | rfl | rw [hw], ⟨by rw [hst.out]; exact HO2.out⟩, HB2⟩
     case measure => simp [intOf]; omega
    ·have d1 : decide (x < (l0.length : Int)) = false := decide_eq_false hlt
     rw [List.take_of_length_le Z19] at HO
     clear hlt hx0 hx1
     go_wp2
     go_ret
     exact ⟨_, rfl, HO.out, HB.out⟩
def runes_Union.f (k : Nat) (l0 : List (List (S36))) : Option ((List (S36)) × Int) := (runes_checked.f k l0).bind fun t281 => (if t281 = 0 then ((api_Range_47.f l0).bind fun t282 => ((runes_made.f k t282).bind fun bt285 => (some (bt285.1, bt285.2)))) else (some (([] : List (S36)), t281)))
set_option maxHeartbeats 8000000 in
set_option maxRecDepth 100000 in
theorem runes_Union.calls (k : Nat) (A0 : Option Addr) (c0 : Nat) (l0 : List (List (S36))) (r1 : List (S36)) (r2 : Int) (w : World) (hr0 : Kd.C (Kd.slice 36 k36) w A0 l0.length l0) (hc0 : l0.length ≤ c0) (h : runes_Union.f k l0 = some (r1, r2)) :
  Calls Tryd.prog 23 #[.slice A0 l0.length c0] w fun e w' => ∃ v0_ : Value, e = .returned (.tuple #[v0_, .int .i64 r2]) ∧ Kd.R k36 36 w' w.heap.size (fun _ => True) v0_ r1 ∧ Below w.heap.size w w' := by
 have HR0 := Aside0.mk hr0
 have HC0 := Aside0.mk hc0
 clear hr0 hc0
 have HB := Aside0.mk (Below.refl w.heap.size w)
 have H : ((runes_checked.f k l0).bind fun t281 => (if t281 = 0 then ((api_Range_47.f l0).bind fun t282 => ((runes_made.f k t282).bind fun bt285 => (some (bt285.1, bt285.2)))) else (some (([] : List (S36)), t281)))) = some (r1, r2) := h
 clear h
 replace H := bS H
 obtain ⟨t281, A2, H⟩ := H
 try dsimp only at H
 by_cases c3 : t281 = 0
 ·rw [if_pos c3] at H
  have c3b0 := e1 c3
  have c3b1 := e2 c3
  clear c3
  replace H := bS H
  obtain ⟨t282, A4, H⟩ := H
  try dsimp only at H
  replace H := bS H
  obtain ⟨⟨t285, t286⟩, A5, H⟩ := H
  try dsimp only at H
  simp only [Option.some.injEq, Prod.mk.injEq] at H
  obtain ⟨rfl, rfl⟩ := H
  go_enter Tryd.func23, Tryd.ntmps23
  go_wp2_with (first | ((with_reducible refine gC 46 rfl ?_); refine goesL_ (some 6) rfl rfl Tryd.func46 Z8 rfl #[.slice A0 l0.length c0] rfl Z1 ?_; (with_reducible refine (runes_checked.calls k _ _ l0 t281 _ ?side1 ?side2 A2.out).mono ?_); (case side1 => repeat (first | exact HR0.out | (with_reducible refine Kd.C_alloc ?_ _) | (with_reducible refine Kd.C_drewN ?_ _) | (with_reducible refine Kd.C_drew ?_))); (case side2 => exact HC0.out); rintro e w6 ⟨rfl, hb⟩; refine ⟨_, rfl, ?_⟩; replace HB := Aside0.mk (below_step zB hb); (try clear hb); (try clear hb2); (try clear hk); (try clear hi)) | ((with_reducible refine gC 47 rfl ?_); refine goesL_ (some 11) rfl rfl Tryd.func47 Z8 rfl #[.slice A0 l0.length c0] rfl Z1 ?_; (with_reducible refine (api_Range_47.calls _ _ l0 t282 _ ?side1 ?side2 A4.out).mono ?_); (case side1 => repeat (first | exact (Kd.C_below HR0.out HB.out) | (with_reducible refine Kd.C_alloc ?_ _) | (with_reducible refine Kd.C_drewN ?_ _) | (with_reducible refine Kd.C_drew ?_))); (case side2 => exact HC0.out); rintro e w7 ⟨v283, rfl, ho0, hb⟩; refine ⟨_, rfl, ?_⟩; have HO284 := Aside0.mk (Kd.R_lower ho0 (below_size zB)); replace HB := Aside0.mk (below_step zB hb); (try clear hb); (try clear hb2); (try clear hk); (try clear hi); (try clear ho0); obtain ⟨Ao8, co8, eo8⟩ := Kd.R_slice HO284.out; subst eo8) | ((with_reducible refine gC 41 rfl ?_); refine goesL_ (some 12) rfl rfl Tryd.func41 Z8 rfl #[.slice Ao8 t282.length co8] rfl Z1 ?_; (with_reducible refine (runes_made.calls k _ _ t282 t285 t286 _ ?side1 ?side2 A5.out).mono ?_); (case side1 => repeat (first | exact (Kd.R_reads' HO284.out).2.2 | (with_reducible refine Kd.C_alloc ?_ _) | (with_reducible refine Kd.C_drewN ?_ _) | (with_reducible refine Kd.C_drew ?_))); (case side2 => exact (Kd.R_reads' HO284.out).2.1); rintro e w9 ⟨v287, rfl, ho0, hb⟩; refine ⟨_, rfl, ?_⟩; have HO288 := Aside0.mk (Kd.R_lower (Kd.R_new' ho0 (Kd.R_lt (kK HO284))) (below_size zB)); replace HO284 := Aside0.mk (Kd.R_elder' (kK HO284) (Kd.R_base ho0) hb); replace HB := Aside0.mk (below_step zB hb); (try clear hb); (try clear hb2); (try clear hk); (try clear hi); (try clear ho0)))
  go_ret2
  exact ⟨_, Z3, by (with_reducible repeat (first | apply Kd.R_alloc | apply Kd.R_drewN | apply Kd.R_drew)); exact Kd.R_mono HO288.out (fun _ hk => trivial), Z0⟩
 ·rw [if_neg c3] at H
  have c3b0 := e3 c3
  have c3b1 := e4 c3
  simp only [Option.some.injEq, Prod.mk.injEq] at H
  obtain ⟨rfl, rfl⟩ := H
  go_enter Tryd.func23, Tryd.ntmps23
  go_wp2_with (first | ((with_reducible refine gC 46 rfl ?_); refine goesL_ (some 6) rfl rfl Tryd.func46 Z8 rfl #[.slice A0 l0.length c0] rfl Z1 ?_; (with_reducible refine (runes_checked.calls k _ _ l0 t281 _ ?side1 ?side2 A2.out).mono ?_); (case side1 => repeat (first | exact HR0.out | (with_reducible refine Kd.C_alloc ?_ _) | (with_reducible refine Kd.C_drewN ?_ _) | (with_reducible refine Kd.C_drew ?_))); (case side2 => exact HC0.out); rintro e w10 ⟨rfl, hb⟩; refine ⟨_, rfl, ?_⟩; replace HB := Aside0.mk (below_step zB hb); (try clear hb); (try clear hb2); (try clear hk); (try clear hi)))
  go_ret2
  exact ⟨_, Z3, Z5, Z0⟩
def quoinref02_Union.f (k : Nat) (l0 : List (List (S36))) : Option ((List (S36)) × Int) := (quoinref02_checked.f k l0).bind fun t291 => (if t291 = 0 then ((quoinref02_made.f k l0 0).bind fun bt292 => (some (bt292.1, bt292.2))) else (some (([] : List (S36)), t291)))
set_option maxHeartbeats 8000000 in
set_option maxRecDepth 100000 in
theorem quoinref02_Union.calls (k : Nat) (A0 : Option Addr) (c0 : Nat) (l0 : List (List (S36))) (r1 : List (S36)) (r2 : Int) (w : World) (hr0 : Kd.C (Kd.slice 36 k36) w A0 l0.length l0) (hc0 : l0.length ≤ c0) (h : quoinref02_Union.f k l0 = some (r1, r2)) :
  Calls Tryd.prog 24 #[.slice A0 l0.length c0] w fun e w' => ∃ v0_ : Value, e = .returned (.tuple #[v0_, .int .i64 r2]) ∧ Kd.R k36 36 w' w.heap.size (fun _ => True) v0_ r1 ∧ Below w.heap.size w w' := by
 have HR0 := Aside0.mk hr0
 have HC0 := Aside0.mk hc0
 clear hr0 hc0
 have HB := Aside0.mk (Below.refl w.heap.size w)
 have H : ((quoinref02_checked.f k l0).bind fun t291 => (if t291 = 0 then ((quoinref02_made.f k l0 0).bind fun bt292 => (some (bt292.1, bt292.2))) else (some (([] : List (S36)), t291)))) = some (r1, r2) := h
 clear h
 replace H := bS H
 obtain ⟨t291, A2, H⟩ := H
 try dsimp only at H
 by_cases c3 : t291 = 0
 ·rw [if_pos c3] at H
  have c3b0 := e1 c3
  have c3b1 := e2 c3
  clear c3
  replace H := bS H
  obtain ⟨⟨t292, t293⟩, A4, H⟩ := H
  try dsimp only at H
  simp only [Option.some.injEq, Prod.mk.injEq] at H
  obtain ⟨rfl, rfl⟩ := H
  go_enter Tryd.func24, Tryd.ntmps24
  go_wp2_with (first | ((with_reducible refine gC 48 rfl ?_); refine goesL_ (some 6) rfl rfl Tryd.func48 Z8 rfl #[.slice A0 l0.length c0] rfl Z1 ?_; (with_reducible refine (quoinref02_checked.calls k _ _ l0 t291 _ ?side1 ?side2 A2.out).mono ?_); (case side1 => repeat (first | exact HR0.out | (with_reducible refine Kd.C_alloc ?_ _) | (with_reducible refine Kd.C_drewN ?_ _) | (with_reducible refine Kd.C_drew ?_))); (case side2 => exact HC0.out); rintro e w' ⟨rfl, ⟨nd, rfl⟩⟩; refine ⟨_, rfl, ?_⟩) | ((with_reducible refine gC 42 rfl ?_); refine goesL_ (some 11) rfl rfl Tryd.func42 Z8 rfl #[.slice A0 l0.length c0, .int .i64 0] rfl Z1 ?_; (with_reducible refine (quoinref02_made.calls k _ _ l0 0 t292 t293 _ ?side1 ?side2 A4.out).mono ?_); (case side1 => repeat (first | exact HR0.out | (with_reducible refine Kd.C_alloc ?_ _) | (with_reducible refine Kd.C_drewN ?_ _) | (with_reducible refine Kd.C_drew ?_))); (case side2 => exact HC0.out); rintro e w5 ⟨v294, rfl, ho0, hb⟩; refine ⟨_, rfl, ?_⟩; have HO295 := Aside0.mk (Kd.R_lower ho0 (below_size zB)); replace HB := Aside0.mk (below_step zB hb); (try clear hb); (try clear hb2); (try clear hk); (try clear hi); (try clear ho0)))
  go_ret2
  exact ⟨_, Z3, by (with_reducible repeat (first | apply Kd.R_alloc | apply Kd.R_drewN | apply Kd.R_drew)); exact HO295.out, Z0⟩
 ·rw [if_neg c3] at H
  have c3b0 := e3 c3
  have c3b1 := e4 c3
  simp only [Option.some.injEq, Prod.mk.injEq] at H
  obtain ⟨rfl, rfl⟩ := H
  go_enter Tryd.func24, Tryd.ntmps24
  go_wp2_with (first | ((with_reducible refine gC 48 rfl ?_); refine goesL_ (some 6) rfl rfl Tryd.func48 Z8 rfl #[.slice A0 l0.length c0] rfl Z1 ?_; (with_reducible refine (quoinref02_checked.calls k _ _ l0 t291 _ ?side1 ?side2 A2.out).mono ?_); (case side1 => repeat (first | exact HR0.out | (with_reducible refine Kd.C_alloc ?_ _) | (with_reducible refine Kd.C_drewN ?_ _) | (with_reducible refine Kd.C_drew ?_))); (case side2 => exact HC0.out); rintro e w' ⟨rfl, ⟨nd, rfl⟩⟩; refine ⟨_, rfl, ?_⟩))
  go_ret2
  exact ⟨_, Z3, Z5, Z0⟩
def runes_Meet.l0 : Nat → List (S36) → List (List (S36)) → Int → Int → Option ((List (S36)) × Int)
 | 0, _, _, _, _ => none
 | k + 1, x5, x15, x16, x17 => if x17 < x16 then (if 0 ≤ x17 then (if x17 < (x15.length : Int) then ((runes_both.f k x5 (rd_L2 x15 x17)).bind fun t312 => (runes_Meet.l0 k t312 x15 x16 (wrap64 (x17 + 1)))) else (none)) else (none)) else ((runes_made.f k x5).bind fun bt315 => (some (bt315.1, bt315.2)))
def runes_Meet.f (k : Nat) (l0 : List (List (S36))) : Option ((List (S36)) × Int) := (runes_checked.f k l0).bind fun t307 => (if t307 = 0 then (runes_Meet.l0 k (([(⟨0, 1114111⟩ : S36)] : List (S36))) l0 (l0.length : Int) 0) else (some (([] : List (S36)), t307)))
set_option maxHeartbeats 8000000 in
set_option maxRecDepth 100000 in
theorem runes_Meet.calls (k : Nat) (A0 : Option Addr) (c0 : Nat) (l0 : List (List (S36))) (r1 : List (S36)) (r2 : Int) (w : World) (hr0 : Kd.C (Kd.slice 36 k36) w A0 l0.length l0) (hc0 : l0.length ≤ c0) (h : runes_Meet.f k l0 = some (r1, r2)) :
  Calls Tryd.prog 25 #[.slice A0 l0.length c0] w fun e w' => ∃ v0_ : Value, e = .returned (.tuple #[v0_, .int .i64 r2]) ∧ Kd.R k36 36 w' w.heap.size (fun _ => True) v0_ r1 ∧ Below w.heap.size w w' := by
 have hu36 := Tryd.underlying36
 have HR0 := Aside0.mk hr0
 have HC0 := Aside0.mk hc0
 clear hr0 hc0
 have HB := Aside0.mk (Below.refl w.heap.size w)
 have H : ((runes_checked.f k l0).bind fun t307 => (if t307 = 0 then (runes_Meet.l0 k (([(⟨0, 1114111⟩ : S36)] : List (S36))) l0 (l0.length : Int) 0) else (some (([] : List (S36)), t307)))) = some (r1, r2) := h
 clear h
 replace H := Option.bind_eq_some_iff.mp H
 obtain ⟨t307, A20, H⟩ := H
 replace H : (if t307 = 0 then (runes_Meet.l0 k (([(⟨0, 1114111⟩ : S36)] : List (S36))) l0 (l0.length : Int) 0) else (some (([] : List (S36)), t307))) = some (r1, r2) := H
 have A2 := Aside0.mk A20
 clear A20
 by_cases c3 : t307 = 0
 ·rw [if_pos c3] at H
  have c3b0 := e1 c3
  have c3b1 := e2 c3
  clear c3
  obtain ⟨y308, hy308⟩ : ∃ y_ : List (S36), y_ = (([(⟨0, 1114111⟩ : S36)] : List (S36))) := ⟨_, rfl⟩
  replace H : (runes_Meet.l0 k y308 l0 (l0.length : Int) 0) = some (r1, r2) := by first | (rw [hy308]; with_reducible exact H) | (have H2_ := (Option.bind_some _ _).symm.trans H; rw [hy308]; with_reducible exact H2_) | (have H2_ := (Option.bind_some _ _).symm.trans H; with_reducible exact H2_) | with_reducible exact H | (rw [hy308]; exact H) | exact H
  have Ny308 := Aside0.mk hy308
  clear hy308
  have H' := Aside0.mk H
  clear H
  go_enter Tryd.func25, Tryd.ntmps25
  go_wp2_with (first | ((with_reducible refine gC 46 rfl ?_); refine goesL_ (some 9) rfl rfl Tryd.func46 Z8 rfl #[.slice A0 l0.length c0] rfl Z1 ?_; (with_reducible refine (runes_checked.calls k _ _ l0 t307 _ ?side1 ?side2 A2.out).mono ?_); (case side1 => repeat (first | exact HR0.out | (with_reducible refine Kd.C_alloc ?_ _) | (with_reducible refine Kd.C_drewN ?_ _) | (with_reducible refine Kd.C_drew ?_))); (case side2 => exact HC0.out); rintro e w4 ⟨rfl, hb⟩; refine ⟨_, rfl, ?_⟩; replace HB := Aside0.mk (below_step zB hb); (try clear hb); (try clear hb2); (try clear hk); (try clear hi)) | ((with_reducible refine gate_dst (N := 14) rfl ?_); refine Kd.R_lit k36 _ 36 ?hg (N := 14) ?hd (xs := ([(⟨0, 1114111⟩ : S36)] : List (S36))) (inner := [.int .i32 0, .int .i32 1114111]) (ok := fun _ => True) (okp := fun _ => True) ?hr ?hp (fun _ hk => hk) trivial (Below.refl _ _) (Nat.le_refl _) Z23 ?_; (case hd => rfl); (case hg => rfl); (case hr => first | (go_simp; done) | (go_simp; rfl)); (case hp => exact (Reps.c2 (show Kd.M k36 _ _ _ (⟨0, 1114111⟩ : S36) [.int .i32 0, .int .i32 1114111] from (k36_mkM _ _ _ (⟨0, 1114111⟩ : S36) )) (Reps.none _ _))); intro v309 w5 ho6 hb hg_ hnew_; clear hg_ hnew_; (first | rw [← Ny308.out] at ho6 | (simp only [Int.reduceToNat] at ho6; rw [← Ny308.out] at ho6)); have HO310 := Aside0.mk (Kd.R_lower ho6 (below_size zB)); replace HB := Aside0.mk (below_step zB hb); clear hb ho6))
  go_loopg [5, 17] k (fun kq v5 v17 w' => ∃ (x5_1 : List (S36)) (x17_1 : Int), v17 = .int .i64 x17_1 ∧ Aside0 (runes_Meet.l0 kq x5_1 l0 (l0.length : Int) x17_1 = some (r1, r2)) ∧ Aside0 (kq ≤ k) ∧ Aside0 (Kd.R k36 36 w' w.heap.size (fun _ => True) v5 x5_1) ∧ Aside0 (Below w.heap.size w w'))
  case atStart => exact ⟨(y308), (0), Z4, H', ⟨Nat.le_refl _⟩, ⟨by (with_reducible repeat (first | apply Kd.R_alloc | apply Kd.R_drewN | apply Kd.R_drew)); exact HO310.out⟩, ⟨Z0⟩⟩
  case round =>
   clear H'
   try clear c2
   try clear p2
   try clear c3
   try clear c3b0
   try clear c3b1
   try clear c4
   obtain ⟨x5_1, x17_1, rfl, HA, HK1, HO_5, HB⟩ := hrel
   cases gk with
   | zero => exact absurd HA.out (by simp [runes_Meet.l0])
   | succ k1 =>
    have H := HA.out
    clear HA
    simp only [runes_Meet.l0] at H
    by_cases c7 : x17_1 < (l0.length : Int)
    ·rw [if_pos c7] at H
     have c7b0 := decide_eq_true c7
     clear c7
     by_cases c8 : 0 ≤ x17_1
     ·rw [if_pos c8] at H
      have c8b0 := decide_eq_true c8
      clear c8
      by_cases c9 : x17_1 < (l0.length : Int)
      ·rw [if_pos c9] at H
       have c9b0 := decide_eq_true c9
       clear c9
       replace H := bS H
       obtain ⟨t312, A10, H⟩ := H
       try dsimp only at H
       have H' := Aside0.mk H
       clear H
       have p311 : 0 ≤ (x17_1 : Int) := of_decide_eq_true Z2
       have q311 : x17_1 < (l0.length : Int) := of_decide_eq_true Z2
       obtain ⟨ad311, A311_0, c311_0, e311, hx311_0, hl311_0, hi311_0⟩ := at_L2 HR0.out x17_1 p311 q311
       cases e311
       replace hx311_0 := (HB.out.cell (World.block_lt_of_cell? w _ hx311_0)).trans hx311_0
       have HR311_0 := Aside0.mk hi311_0
       have HC311_0 := Aside0.mk hl311_0
       clear hi311_0 hl311_0
       replace p311 := eq_true p311
       replace q311 := eq_true q311
       obtain ⟨Ao11, co11, eo11⟩ := Kd.R_slice HO_5.out
       subst eo11
       go_wp2_with (first | ((with_reducible refine gC 49 rfl ?_); refine goesL_ (some 23) rfl rfl Tryd.func49 Z8 rfl #[.slice Ao11 x5_1.length co11, .slice A311_0 (rd_L2 l0 x17_1).length c311_0] rfl Z1 ?_; (with_reducible refine (runes_both.calls k1 _ _ x5_1 _ _ (rd_L2 l0 x17_1) t312 _ ?side1 ?side2 ?side3 ?side4 A10.out).mono ?_); (case side1 => repeat (first | exact (Kd.R_reads' HO_5.out).2.2 | (with_reducible refine Kd.C_alloc ?_ _) | (with_reducible refine Kd.C_drewN ?_ _) | (with_reducible refine Kd.C_drew ?_))); (case side2 => exact (Kd.R_reads' HO_5.out).2.1); (case side3 => repeat (first | exact (Kd.C_below HR311_0.out HB.out) | (with_reducible refine Kd.C_alloc ?_ _) | (with_reducible refine Kd.C_drewN ?_ _) | (with_reducible refine Kd.C_drew ?_))); (case side4 => exact HC311_0.out); rintro e w12 ⟨v313, rfl, ho0, hb⟩; refine ⟨_, rfl, ?_⟩; have HO314 := Aside0.mk (Kd.R_lower (Kd.R_new' ho0 (Kd.R_lt (kK HO_5))) (below_size zB)); replace HO_5 := Aside0.mk (Kd.R_elder' (kK HO_5) (Kd.R_base ho0) hb); replace HB := Aside0.mk (below_step zB hb); (try clear hb); (try clear hb2); (try clear hk); (try clear hi); (try clear ho0)))
       go_roundg k1
       case measure => have := HK1.out; omega
       case rel => exact ⟨(t312), (wrap64 (x17_1 + 1)), Z4, H', ⟨Z20⟩, ⟨by (with_reducible repeat (first | apply Kd.R_alloc | apply Kd.R_drewN | apply Kd.R_drew)); exact Kd.R_mono HO314.out (fun _ hk => trivial)⟩, ⟨Z0⟩⟩
      ·rw [if_neg c9] at H
       exact absurd H Z23
     ·rw [if_neg c8] at H
      exact absurd H Z23
    ·rw [if_neg c7] at H
     have c7b0 := decide_eq_false c7
     clear c7
     replace H := bS H
     obtain ⟨⟨t315, t316⟩, A13, H⟩ := H
     try dsimp only at H
     simp only [Option.some.injEq, Prod.mk.injEq] at H
     obtain ⟨rfl, rfl⟩ := H
     obtain ⟨Ao14, co14, eo14⟩ := Kd.R_slice HO_5.out
     subst eo14
     go_wp2_with (first | ((with_reducible refine gC 41 rfl ?_); refine goesL_ (some 26) rfl rfl Tryd.func41 Z8 rfl #[.slice Ao14 x5_1.length co14] rfl Z1 ?_; (with_reducible refine (runes_made.calls k1 _ _ x5_1 t315 t316 _ ?side1 ?side2 A13.out).mono ?_); (case side1 => repeat (first | exact (Kd.R_reads' HO_5.out).2.2 | (with_reducible refine Kd.C_alloc ?_ _) | (with_reducible refine Kd.C_drewN ?_ _) | (with_reducible refine Kd.C_drew ?_))); (case side2 => exact (Kd.R_reads' HO_5.out).2.1); rintro e w15 ⟨v317, rfl, ho0, hb⟩; refine ⟨_, rfl, ?_⟩; have HO318 := Aside0.mk (Kd.R_lower (Kd.R_new' ho0 (Kd.R_lt (kK HO_5))) (below_size zB)); replace HO_5 := Aside0.mk (Kd.R_elder' (kK HO_5) (Kd.R_base ho0) hb); replace HB := Aside0.mk (below_step zB hb); (try clear hb); (try clear hb2); (try clear hk); (try clear hi); (try clear ho0)))
     go_ret2
     exact ⟨_, Z3, by (with_reducible repeat (first | apply Kd.R_alloc | apply Kd.R_drewN | apply Kd.R_drew)); exact Kd.R_mono HO318.out (fun _ hk => trivial), Z0⟩
 ·rw [if_neg c3] at H
  have c3b0 := e3 c3
  have c3b1 := e4 c3
  simp only [Option.some.injEq, Prod.mk.injEq] at H
  obtain ⟨rfl, rfl⟩ := H
  go_enter Tryd.func25, Tryd.ntmps25
  go_wp2_with (first | ((with_reducible refine gC 46 rfl ?_); refine goesL_ (some 9) rfl rfl Tryd.func46 Z8 rfl #[.slice A0 l0.length c0] rfl Z1 ?_; (with_reducible refine (runes_checked.calls k _ _ l0 t307 _ ?side1 ?side2 A2.out).mono ?_); (case side1 => repeat (first | exact HR0.out | (with_reducible refine Kd.C_alloc ?_ _) | (with_reducible refine Kd.C_drewN ?_ _) | (with_reducible refine Kd.C_drew ?_))); (case side2 => exact HC0.out); rintro e w16 ⟨rfl, hb⟩; refine ⟨_, rfl, ?_⟩; replace HB := Aside0.mk (below_step zB hb); (try clear hb); (try clear hb2); (try clear hk); (try clear hi)))
  go_ret2
  exact ⟨_, Z3, Z5, Z0⟩
def quoinref02_Meet.f (k : Nat) (l0 : List (List (S36))) : Option ((List (S36)) × Int) := (quoinref02_checked.f k l0).bind fun t319 => (if t319 = 0 then ((quoinref02_made.f k l0 1).bind fun bt320 => (some (bt320.1, bt320.2))) else (some (([] : List (S36)), t319)))
set_option maxHeartbeats 8000000 in
set_option maxRecDepth 100000 in
theorem quoinref02_Meet.calls (k : Nat) (A0 : Option Addr) (c0 : Nat) (l0 : List (List (S36))) (r1 : List (S36)) (r2 : Int) (w : World) (hr0 : Kd.C (Kd.slice 36 k36) w A0 l0.length l0) (hc0 : l0.length ≤ c0) (h : quoinref02_Meet.f k l0 = some (r1, r2)) :
  Calls Tryd.prog 26 #[.slice A0 l0.length c0] w fun e w' => ∃ v0_ : Value, e = .returned (.tuple #[v0_, .int .i64 r2]) ∧ Kd.R k36 36 w' w.heap.size (fun _ => True) v0_ r1 ∧ Below w.heap.size w w' := by
 have HR0 := Aside0.mk hr0
 have HC0 := Aside0.mk hc0
 clear hr0 hc0
 have HB := Aside0.mk (Below.refl w.heap.size w)
 have H : ((quoinref02_checked.f k l0).bind fun t319 => (if t319 = 0 then ((quoinref02_made.f k l0 1).bind fun bt320 => (some (bt320.1, bt320.2))) else (some (([] : List (S36)), t319)))) = some (r1, r2) := h
 clear h
 replace H := bS H
 obtain ⟨t319, A2, H⟩ := H
 try dsimp only at H
 by_cases c3 : t319 = 0
 ·rw [if_pos c3] at H
  have c3b0 := e1 c3
  have c3b1 := e2 c3
  clear c3
  replace H := bS H
  obtain ⟨⟨t320, t321⟩, A4, H⟩ := H
  try dsimp only at H
  simp only [Option.some.injEq, Prod.mk.injEq] at H
  obtain ⟨rfl, rfl⟩ := H
  go_enter Tryd.func26, Tryd.ntmps26
  go_wp2_with (first | ((with_reducible refine gC 48 rfl ?_); refine goesL_ (some 6) rfl rfl Tryd.func48 Z8 rfl #[.slice A0 l0.length c0] rfl Z1 ?_; (with_reducible refine (quoinref02_checked.calls k _ _ l0 t319 _ ?side1 ?side2 A2.out).mono ?_); (case side1 => repeat (first | exact HR0.out | (with_reducible refine Kd.C_alloc ?_ _) | (with_reducible refine Kd.C_drewN ?_ _) | (with_reducible refine Kd.C_drew ?_))); (case side2 => exact HC0.out); rintro e w' ⟨rfl, ⟨nd, rfl⟩⟩; refine ⟨_, rfl, ?_⟩) | ((with_reducible refine gC 42 rfl ?_); refine goesL_ (some 11) rfl rfl Tryd.func42 Z8 rfl #[.slice A0 l0.length c0, .int .i64 1] rfl Z1 ?_; (with_reducible refine (quoinref02_made.calls k _ _ l0 1 t320 t321 _ ?side1 ?side2 A4.out).mono ?_); (case side1 => repeat (first | exact HR0.out | (with_reducible refine Kd.C_alloc ?_ _) | (with_reducible refine Kd.C_drewN ?_ _) | (with_reducible refine Kd.C_drew ?_))); (case side2 => exact HC0.out); rintro e w5 ⟨v322, rfl, ho0, hb⟩; refine ⟨_, rfl, ?_⟩; have HO323 := Aside0.mk (Kd.R_lower ho0 (below_size zB)); replace HB := Aside0.mk (below_step zB hb); (try clear hb); (try clear hb2); (try clear hk); (try clear hi); (try clear ho0)))
  go_ret2
  exact ⟨_, Z3, by (with_reducible repeat (first | apply Kd.R_alloc | apply Kd.R_drewN | apply Kd.R_drew)); exact HO323.out, Z0⟩
 ·rw [if_neg c3] at H
  have c3b0 := e3 c3
  have c3b1 := e4 c3
  simp only [Option.some.injEq, Prod.mk.injEq] at H
  obtain ⟨rfl, rfl⟩ := H
  go_enter Tryd.func26, Tryd.ntmps26
  go_wp2_with (first | ((with_reducible refine gC 48 rfl ?_); refine goesL_ (some 6) rfl rfl Tryd.func48 Z8 rfl #[.slice A0 l0.length c0] rfl Z1 ?_; (with_reducible refine (quoinref02_checked.calls k _ _ l0 t319 _ ?side1 ?side2 A2.out).mono ?_); (case side1 => repeat (first | exact HR0.out | (with_reducible refine Kd.C_alloc ?_ _) | (with_reducible refine Kd.C_drewN ?_ _) | (with_reducible refine Kd.C_drew ?_))); (case side2 => exact HC0.out); rintro e w' ⟨rfl, ⟨nd, rfl⟩⟩; refine ⟨_, rfl, ?_⟩))
  go_ret2
  exact ⟨_, Z3, Z5, Z0⟩
def quoinlaw02_RunesSets.f (k : Nat) (l0 : List (List (S36))) : Option (Bool) := (runes_Union.f k l0).bind fun bt324 => ((quoinref02_Union.f k l0).bind fun bt328 => ((runes_Meet.f k l0).bind fun bt332 => ((quoinref02_Meet.f k l0).bind fun bt336 => ((quoinref02_Same.f bt324.1 bt328.1).bind fun t340 => (if t340 = true then (if bt324.2 = bt328.2 then ((quoinref02_Same.f bt332.1 bt336.1).bind fun t341 => (if t341 = true then (if bt332.2 = bt336.2 then ((quoinlaw02_awake.f k).bind fun t342 => (some t342)) else (some false)) else (some false))) else (some false)) else (some false))))))
set_option maxHeartbeats 8000000 in
set_option maxRecDepth 100000 in
theorem quoinlaw02_RunesSets.calls (k : Nat) (A0 : Option Addr) (c0 : Nat) (l0 : List (List (S36))) (r : Bool) (w : World) (hr0 : Kd.C (Kd.slice 36 k36) w A0 l0.length l0) (hc0 : l0.length ≤ c0) (h : quoinlaw02_RunesSets.f k l0 = some r) :
  Calls Tryd.prog 6 #[.slice A0 l0.length c0] w fun e w' => e = .returned (.bool r) ∧ Below w.heap.size w w' := by
 have HR0 := Aside0.mk hr0
 have HC0 := Aside0.mk hc0
 clear hr0 hc0
 have HB := Aside0.mk (Below.refl w.heap.size w)
 have H : ((runes_Union.f k l0).bind fun bt324 => ((quoinref02_Union.f k l0).bind fun bt328 => ((runes_Meet.f k l0).bind fun bt332 => ((quoinref02_Meet.f k l0).bind fun bt336 => ((quoinref02_Same.f bt324.1 bt328.1).bind fun t340 => (if t340 = true then (if bt324.2 = bt328.2 then ((quoinref02_Same.f bt332.1 bt336.1).bind fun t341 => (if t341 = true then (if bt332.2 = bt336.2 then ((quoinlaw02_awake.f k).bind fun t342 => (some t342)) else (some false)) else (some false))) else (some false)) else (some false))))))) = some r := h
 clear h
 replace H := bS H
 obtain ⟨⟨t324, t325⟩, A2, H⟩ := H
 try dsimp only at H
 replace H := bS H
 obtain ⟨⟨t328, t329⟩, A3, H⟩ := H
 try dsimp only at H
 replace H := bS H
 obtain ⟨⟨t332, t333⟩, A4, H⟩ := H
 try dsimp only at H
 replace H := bS H
 obtain ⟨⟨t336, t337⟩, A5, H⟩ := H
 try dsimp only at H
 replace H := bS H
 obtain ⟨t340, A6, H⟩ := H
 try dsimp only at H
 by_cases c7 : t340 = true
 ·subst c7
  have H1 : (if t325 = t329 then ((quoinref02_Same.f t332 t336).bind fun t341 => (if t341 = true then (if t333 = t337 then ((quoinlaw02_awake.f k).bind fun t342 => (some t342)) else (some false)) else (some false))) else (some false)) = some r := by rw [if_pos rfl] at H; exact H
  clear H
  have H := H1
  clear H1
  by_cases c8 : t325 = t329
  ·rw [if_pos c8] at H
   have c8b0 := e1 c8
   have c8b1 := e2 c8
   clear c8
   replace H := bS H
   obtain ⟨t341, A9, H⟩ := H
   try dsimp only at H
   by_cases c10 : t341 = true
   ·subst c10
    have H1 : (if t333 = t337 then ((quoinlaw02_awake.f k).bind fun t342 => (some t342)) else (some false)) = some r := by rw [if_pos rfl] at H; exact H
    clear H
    have H := H1
    clear H1
    by_cases c11 : t333 = t337
    ·rw [if_pos c11] at H
     have c11b0 := e1 c11
     have c11b1 := e2 c11
     clear c11
     replace H := bS H
     obtain ⟨t342, A12, H⟩ := H
     try dsimp only at H
     obtain rfl := Option.some.inj H
     go_enter Tryd.func6, Tryd.ntmps6
     go_wp2_with (first | ((with_reducible refine gC 23 rfl ?_); refine goesL_ (some 13) rfl rfl Tryd.func23 Z8 rfl #[.slice A0 l0.length c0] rfl Z1 ?_; (with_reducible refine (runes_Union.calls k _ _ l0 t324 t325 _ ?side1 ?side2 A2.out).mono ?_); (case side1 => repeat (first | exact HR0.out | (with_reducible refine Kd.C_alloc ?_ _) | (with_reducible refine Kd.C_drewN ?_ _) | (with_reducible refine Kd.C_drew ?_))); (case side2 => exact HC0.out); rintro e w13 ⟨v326, rfl, ho0, hb⟩; refine ⟨_, rfl, ?_⟩; have HO327 := Aside0.mk (Kd.R_lower ho0 (below_size zB)); replace HB := Aside0.mk (below_step zB hb); (try clear hb); (try clear hb2); (try clear hk); (try clear hi); (try clear ho0)) | ((with_reducible refine gC 24 rfl ?_); refine goesL_ (some 18) rfl rfl Tryd.func24 Z8 rfl #[.slice A0 l0.length c0] rfl Z1 ?_; (with_reducible refine (quoinref02_Union.calls k _ _ l0 t328 t329 _ ?side1 ?side2 A3.out).mono ?_); (case side1 => repeat (first | exact (Kd.C_below HR0.out HB.out) | (with_reducible refine Kd.C_alloc ?_ _) | (with_reducible refine Kd.C_drewN ?_ _) | (with_reducible refine Kd.C_drew ?_))); (case side2 => exact HC0.out); rintro e w14 ⟨v330, rfl, ho0, hb⟩; refine ⟨_, rfl, ?_⟩; have HO331 := Aside0.mk (Kd.R_lower (Kd.R_new' ho0 (Kd.R_lt (kK HO327))) (below_size zB)); replace HO327 := Aside0.mk (Kd.R_elder' (kK HO327) (Kd.R_base ho0) hb); replace HB := Aside0.mk (below_step zB hb); (try clear hb); (try clear hb2); (try clear hk); (try clear hi); (try clear ho0)) | ((with_reducible refine gC 25 rfl ?_); refine goesL_ (some 23) rfl rfl Tryd.func25 Z8 rfl #[.slice A0 l0.length c0] rfl Z1 ?_; (with_reducible refine (runes_Meet.calls k _ _ l0 t332 t333 _ ?side1 ?side2 A4.out).mono ?_); (case side1 => repeat (first | exact (Kd.C_below HR0.out HB.out) | (with_reducible refine Kd.C_alloc ?_ _) | (with_reducible refine Kd.C_drewN ?_ _) | (with_reducible refine Kd.C_drew ?_))); (case side2 => exact HC0.out); rintro e w15 ⟨v334, rfl, ho0, hb⟩; refine ⟨_, rfl, ?_⟩; have HO335 := Aside0.mk (Kd.R_lower (Kd.R_new' (Kd.R_new' ho0 (Kd.R_lt (kK HO327))) (Kd.R_lt (kK HO331))) (below_size zB)); replace HO327 := Aside0.mk (Kd.R_elder' (kK HO327) (Kd.R_base ho0) hb); replace HO331 := Aside0.mk (Kd.R_elder' (kK HO331) (Kd.R_base ho0) hb); replace HB := Aside0.mk (below_step zB hb); (try clear hb); (try clear hb2); (try clear hk); (try clear hi); (try clear ho0)) | ((with_reducible refine gC 26 rfl ?_); refine goesL_ (some 28) rfl rfl Tryd.func26 Z8 rfl #[.slice A0 l0.length c0] rfl Z1 ?_; (with_reducible refine (quoinref02_Meet.calls k _ _ l0 t336 t337 _ ?side1 ?side2 A5.out).mono ?_); (case side1 => repeat (first | exact (Kd.C_below HR0.out HB.out) | (with_reducible refine Kd.C_alloc ?_ _) | (with_reducible refine Kd.C_drewN ?_ _) | (with_reducible refine Kd.C_drew ?_))); (case side2 => exact HC0.out); rintro e w16 ⟨v338, rfl, ho0, hb⟩; refine ⟨_, rfl, ?_⟩; have HO339 := Aside0.mk (Kd.R_lower (Kd.R_new' (Kd.R_new' (Kd.R_new' ho0 (Kd.R_lt (kK HO327))) (Kd.R_lt (kK HO331))) (Kd.R_lt (kK HO335))) (below_size zB)); replace HO327 := Aside0.mk (Kd.R_elder' (kK HO327) (Kd.R_base ho0) hb); replace HO331 := Aside0.mk (Kd.R_elder' (kK HO331) (Kd.R_base ho0) hb); replace HO335 := Aside0.mk (Kd.R_elder' (kK HO335) (Kd.R_base ho0) hb); replace HB := Aside0.mk (below_step zB hb); (try clear hb); (try clear hb2); (try clear hk); (try clear hi); (try clear ho0); obtain ⟨Ao17, co17, eo17⟩ := Kd.R_slice HO327.out; subst eo17; obtain ⟨Ao18, co18, eo18⟩ := Kd.R_slice HO331.out; subst eo18) | ((with_reducible refine gC 15 rfl ?_); refine goesL_ (some 33) rfl rfl Tryd.func15 Z8 rfl #[.slice Ao17 t324.length co17, .slice Ao18 t328.length co18] rfl Z1 ?_; (with_reducible refine (quoinref02_Same.calls _ _ t324 _ _ t328 true _ ?side1 ?side2 ?side3 ?side4 A6.out).mono ?_); (case side1 => repeat (first | exact (Kd.R_reads' HO327.out).2.2 | (with_reducible refine Kd.C_alloc ?_ _) | (with_reducible refine Kd.C_drewN ?_ _) | (with_reducible refine Kd.C_drew ?_))); (case side2 => exact (Kd.R_reads' HO327.out).2.1); (case side3 => repeat (first | exact (Kd.R_reads' HO331.out).2.2 | (with_reducible refine Kd.C_alloc ?_ _) | (with_reducible refine Kd.C_drewN ?_ _) | (with_reducible refine Kd.C_drew ?_))); (case side4 => exact (Kd.R_reads' HO331.out).2.1); rintro e w19 ⟨rfl, hb⟩; refine ⟨_, rfl, ?_⟩; replace HO327 := Aside0.mk (Kd.R_below (kK HO327) hb); replace HO331 := Aside0.mk (Kd.R_below (kK HO331) hb); replace HO335 := Aside0.mk (Kd.R_below (kK HO335) hb); replace HO339 := Aside0.mk (Kd.R_below (kK HO339) hb); replace HB := Aside0.mk (below_step zB hb); (try clear hb); (try clear hb2); (try clear hk); (try clear hi); obtain ⟨Ao20, co20, eo20⟩ := Kd.R_slice HO335.out; subst eo20; obtain ⟨Ao21, co21, eo21⟩ := Kd.R_slice HO339.out; subst eo21) | (go_at_call 15; (with_reducible refine (quoinref02_Same.calls _ _ t332 _ _ t336 true _ ?side1 ?side2 ?side3 ?side4 A9.out).mono ?_); (case side1 => repeat (first | exact (Kd.R_reads' HO335.out).2.2 | (with_reducible refine Kd.C_alloc ?_ _) | (with_reducible refine Kd.C_drewN ?_ _) | (with_reducible refine Kd.C_drew ?_))); (case side2 => exact (Kd.R_reads' HO335.out).2.1); (case side3 => repeat (first | exact (Kd.R_reads' HO339.out).2.2 | (with_reducible refine Kd.C_alloc ?_ _) | (with_reducible refine Kd.C_drewN ?_ _) | (with_reducible refine Kd.C_drew ?_))); (case side4 => exact (Kd.R_reads' HO339.out).2.1); rintro e w22 ⟨rfl, hb⟩; replace HO327 := Aside0.mk (Kd.R_below (kK HO327) hb); replace HO331 := Aside0.mk (Kd.R_below (kK HO331) hb); replace HO335 := Aside0.mk (Kd.R_below (kK HO335) hb); replace HO339 := Aside0.mk (Kd.R_below (kK HO339) hb); replace HB := Aside0.mk (below_step zB hb); (try clear hb); (try clear hb2); (try clear hk); (try clear hi)) | (go_at_call 16; (with_reducible refine (quoinlaw02_awake.calls A12.out).mono ?_); rintro e w23 ⟨rfl, hb⟩; replace HO327 := Aside0.mk (Kd.R_below (kK HO327) hb); replace HO331 := Aside0.mk (Kd.R_below (kK HO331) hb); replace HO335 := Aside0.mk (Kd.R_below (kK HO335) hb); replace HO339 := Aside0.mk (Kd.R_below (kK HO339) hb); replace HB := Aside0.mk (below_step zB hb); (try clear hb); (try clear hb2); (try clear hk); (try clear hi)))
     go_ret
     exact ⟨Z3, Z0⟩
    ·rw [if_neg c11] at H
     have c11b0 := e3 c11
     have c11b1 := e4 c11
     obtain rfl := Option.some.inj H
     go_enter Tryd.func6, Tryd.ntmps6
     go_wp2_with (first | ((with_reducible refine gC 23 rfl ?_); refine goesL_ (some 13) rfl rfl Tryd.func23 Z8 rfl #[.slice A0 l0.length c0] rfl Z1 ?_; (with_reducible refine (runes_Union.calls k _ _ l0 t324 t325 _ ?side1 ?side2 A2.out).mono ?_); (case side1 => repeat (first | exact HR0.out | (with_reducible refine Kd.C_alloc ?_ _) | (with_reducible refine Kd.C_drewN ?_ _) | (with_reducible refine Kd.C_drew ?_))); (case side2 => exact HC0.out); rintro e w24 ⟨v326, rfl, ho0, hb⟩; refine ⟨_, rfl, ?_⟩; have HO327 := Aside0.mk (Kd.R_lower ho0 (below_size zB)); replace HB := Aside0.mk (below_step zB hb); (try clear hb); (try clear hb2); (try clear hk); (try clear hi); (try clear ho0)) | ((with_reducible refine gC 24 rfl ?_); refine goesL_ (some 18) rfl rfl Tryd.func24 Z8 rfl #[.slice A0 l0.length c0] rfl Z1 ?_; (with_reducible refine (quoinref02_Union.calls k _ _ l0 t328 t329 _ ?side1 ?side2 A3.out).mono ?_); (case side1 => repeat (first | exact (Kd.C_below HR0.out HB.out) | (with_reducible refine Kd.C_alloc ?_ _) | (with_reducible refine Kd.C_drewN ?_ _) | (with_reducible refine Kd.C_drew ?_))); (case side2 => exact HC0.out); rintro e w25 ⟨v330, rfl, ho0, hb⟩; refine ⟨_, rfl, ?_⟩; have HO331 := Aside0.mk (Kd.R_lower (Kd.R_new' ho0 (Kd.R_lt (kK HO327))) (below_size zB)); replace HO327 := Aside0.mk (Kd.R_elder' (kK HO327) (Kd.R_base ho0) hb); replace HB := Aside0.mk (below_step zB hb); (try clear hb); (try clear hb2); (try clear hk); (try clear hi); (try clear ho0)) | ((with_reducible refine gC 25 rfl ?_); refine goesL_ (some 23) rfl rfl Tryd.func25 Z8 rfl #[.slice A0 l0.length c0] rfl Z1 ?_; (with_reducible refine (runes_Meet.calls k _ _ l0 t332 t333 _ ?side1 ?side2 A4.out).mono ?_); (case side1 => repeat (first | exact (Kd.C_below HR0.out HB.out) | (with_reducible refine Kd.C_alloc ?_ _) | (with_reducible refine Kd.C_drewN ?_ _) | (with_reducible refine Kd.C_drew ?_))); (case side2 => exact HC0.out); rintro e w26 ⟨v334, rfl, ho0, hb⟩; refine ⟨_, rfl, ?_⟩; have HO335 := Aside0.mk (Kd.R_lower (Kd.R_new' (Kd.R_new' ho0 (Kd.R_lt (kK HO327))) (Kd.R_lt (kK HO331))) (below_size zB)); replace HO327 := Aside0.mk (Kd.R_elder' (kK HO327) (Kd.R_base ho0) hb); replace HO331 := Aside0.mk (Kd.R_elder' (kK HO331) (Kd.R_base ho0) hb); replace HB := Aside0.mk (below_step zB hb); (try clear hb); (try clear hb2); (try clear hk); (try clear hi); (try clear ho0)) | ((with_reducible refine gC 26 rfl ?_); refine goesL_ (some 28) rfl rfl Tryd.func26 Z8 rfl #[.slice A0 l0.length c0] rfl Z1 ?_; (with_reducible refine (quoinref02_Meet.calls k _ _ l0 t336 t337 _ ?side1 ?side2 A5.out).mono ?_); (case side1 => repeat (first | exact (Kd.C_below HR0.out HB.out) | (with_reducible refine Kd.C_alloc ?_ _) | (with_reducible refine Kd.C_drewN ?_ _) | (with_reducible refine Kd.C_drew ?_))); (case side2 => exact HC0.out); rintro e w27 ⟨v338, rfl, ho0, hb⟩; refine ⟨_, rfl, ?_⟩; have HO339 := Aside0.mk (Kd.R_lower (Kd.R_new' (Kd.R_new' (Kd.R_new' ho0 (Kd.R_lt (kK HO327))) (Kd.R_lt (kK HO331))) (Kd.R_lt (kK HO335))) (below_size zB)); replace HO327 := Aside0.mk (Kd.R_elder' (kK HO327) (Kd.R_base ho0) hb); replace HO331 := Aside0.mk (Kd.R_elder' (kK HO331) (Kd.R_base ho0) hb); replace HO335 := Aside0.mk (Kd.R_elder' (kK HO335) (Kd.R_base ho0) hb); replace HB := Aside0.mk (below_step zB hb); (try clear hb); (try clear hb2); (try clear hk); (try clear hi); (try clear ho0); obtain ⟨Ao28, co28, eo28⟩ := Kd.R_slice HO327.out; subst eo28; obtain ⟨Ao29, co29, eo29⟩ := Kd.R_slice HO331.out; subst eo29) | ((with_reducible refine gC 15 rfl ?_); refine goesL_ (some 33) rfl rfl Tryd.func15 Z8 rfl #[.slice Ao28 t324.length co28, .slice Ao29 t328.length co29] rfl Z1 ?_; (with_reducible refine (quoinref02_Same.calls _ _ t324 _ _ t328 true _ ?side1 ?side2 ?side3 ?side4 A6.out).mono ?_); (case side1 => repeat (first | exact (Kd.R_reads' HO327.out).2.2 | (with_reducible refine Kd.C_alloc ?_ _) | (with_reducible refine Kd.C_drewN ?_ _) | (with_reducible refine Kd.C_drew ?_))); (case side2 => exact (Kd.R_reads' HO327.out).2.1); (case side3 => repeat (first | exact (Kd.R_reads' HO331.out).2.2 | (with_reducible refine Kd.C_alloc ?_ _) | (with_reducible refine Kd.C_drewN ?_ _) | (with_reducible refine Kd.C_drew ?_))); (case side4 => exact (Kd.R_reads' HO331.out).2.1); rintro e w30 ⟨rfl, hb⟩; refine ⟨_, rfl, ?_⟩; replace HO327 := Aside0.mk (Kd.R_below (kK HO327) hb); replace HO331 := Aside0.mk (Kd.R_below (kK HO331) hb); replace HO335 := Aside0.mk (Kd.R_below (kK HO335) hb); replace HO339 := Aside0.mk (Kd.R_below (kK HO339) hb); replace HB := Aside0.mk (below_step zB hb); (try clear hb); (try clear hb2); (try clear hk); (try clear hi); obtain ⟨Ao31, co31, eo31⟩ := Kd.R_slice HO335.out; subst eo31; obtain ⟨Ao32, co32, eo32⟩ := Kd.R_slice HO339.out; subst eo32) | (go_at_call 15; (with_reducible refine (quoinref02_Same.calls _ _ t332 _ _ t336 true _ ?side1 ?side2 ?side3 ?side4 A9.out).mono ?_); (case side1 => repeat (first | exact (Kd.R_reads' HO335.out).2.2 | (with_reducible refine Kd.C_alloc ?_ _) | (with_reducible refine Kd.C_drewN ?_ _) | (with_reducible refine Kd.C_drew ?_))); (case side2 => exact (Kd.R_reads' HO335.out).2.1); (case side3 => repeat (first | exact (Kd.R_reads' HO339.out).2.2 | (with_reducible refine Kd.C_alloc ?_ _) | (with_reducible refine Kd.C_drewN ?_ _) | (with_reducible refine Kd.C_drew ?_))); (case side4 => exact (Kd.R_reads' HO339.out).2.1); rintro e w33 ⟨rfl, hb⟩; replace HO327 := Aside0.mk (Kd.R_below (kK HO327) hb); replace HO331 := Aside0.mk (Kd.R_below (kK HO331) hb); replace HO335 := Aside0.mk (Kd.R_below (kK HO335) hb); replace HO339 := Aside0.mk (Kd.R_below (kK HO339) hb); replace HB := Aside0.mk (below_step zB hb); (try clear hb); (try clear hb2); (try clear hk); (try clear hi)))
     go_ret
     exact ⟨Z3, Z0⟩
   ·replace c10 := Bool.eq_false_iff.mpr c10
    subst c10
    have H1 : (some false) = some r := by rw [if_neg (show ¬ (false = true) by decide)] at H; exact H
    clear H
    have H := H1
    clear H1
    obtain rfl := Option.some.inj H
    go_enter Tryd.func6, Tryd.ntmps6
    go_wp2_with (first | ((with_reducible refine gC 23 rfl ?_); refine goesL_ (some 13) rfl rfl Tryd.func23 Z8 rfl #[.slice A0 l0.length c0] rfl Z1 ?_; (with_reducible refine (runes_Union.calls k _ _ l0 t324 t325 _ ?side1 ?side2 A2.out).mono ?_); (case side1 => repeat (first | exact HR0.out | (with_reducible refine Kd.C_alloc ?_ _) | (with_reducible refine Kd.C_drewN ?_ _) | (with_reducible refine Kd.C_drew ?_))); (case side2 => exact HC0.out); rintro e w34 ⟨v326, rfl, ho0, hb⟩; refine ⟨_, rfl, ?_⟩; have HO327 := Aside0.mk (Kd.R_lower ho0 (below_size zB)); replace HB := Aside0.mk (below_step zB hb); (try clear hb); (try clear hb2); (try clear hk); (try clear hi); (try clear ho0)) | ((with_reducible refine gC 24 rfl ?_); refine goesL_ (some 18) rfl rfl Tryd.func24 Z8 rfl #[.slice A0 l0.length c0] rfl Z1 ?_; (with_reducible refine (quoinref02_Union.calls k _ _ l0 t328 t329 _ ?side1 ?side2 A3.out).mono ?_); (case side1 => repeat (first | exact (Kd.C_below HR0.out HB.out) | (with_reducible refine Kd.C_alloc ?_ _) | (with_reducible refine Kd.C_drewN ?_ _) | (with_reducible refine Kd.C_drew ?_))); (case side2 => exact HC0.out); rintro e w35 ⟨v330, rfl, ho0, hb⟩; refine ⟨_, rfl, ?_⟩; have HO331 := Aside0.mk (Kd.R_lower (Kd.R_new' ho0 (Kd.R_lt (kK HO327))) (below_size zB)); replace HO327 := Aside0.mk (Kd.R_elder' (kK HO327) (Kd.R_base ho0) hb); replace HB := Aside0.mk (below_step zB hb); (try clear hb); (try clear hb2); (try clear hk); (try clear hi); (try clear ho0)) | ((with_reducible refine gC 25 rfl ?_); refine goesL_ (some 23) rfl rfl Tryd.func25 Z8 rfl #[.slice A0 l0.length c0] rfl Z1 ?_; (with_reducible refine (runes_Meet.calls k _ _ l0 t332 t333 _ ?side1 ?side2 A4.out).mono ?_); (case side1 => repeat (first | exact (Kd.C_below HR0.out HB.out) | (with_reducible refine Kd.C_alloc ?_ _) | (with_reducible refine Kd.C_drewN ?_ _) | (with_reducible refine Kd.C_drew ?_))); (case side2 => exact HC0.out); rintro e w36 ⟨v334, rfl, ho0, hb⟩; refine ⟨_, rfl, ?_⟩; have HO335 := Aside0.mk (Kd.R_lower (Kd.R_new' (Kd.R_new' ho0 (Kd.R_lt (kK HO327))) (Kd.R_lt (kK HO331))) (below_size zB)); replace HO327 := Aside0.mk (Kd.R_elder' (kK HO327) (Kd.R_base ho0) hb); replace HO331 := Aside0.mk (Kd.R_elder' (kK HO331) (Kd.R_base ho0) hb); replace HB := Aside0.mk (below_step zB hb); (try clear hb); (try clear hb2); (try clear hk); (try clear hi); (try clear ho0)) | ((with_reducible refine gC 26 rfl ?_); refine goesL_ (some 28) rfl rfl Tryd.func26 Z8 rfl #[.slice A0 l0.length c0] rfl Z1 ?_; (with_reducible refine (quoinref02_Meet.calls k _ _ l0 t336 t337 _ ?side1 ?side2 A5.out).mono ?_); (case side1 => repeat (first | exact (Kd.C_below HR0.out HB.out) | (with_reducible refine Kd.C_alloc ?_ _) | (with_reducible refine Kd.C_drewN ?_ _) | (with_reducible refine Kd.C_drew ?_))); (case side2 => exact HC0.out); rintro e w37 ⟨v338, rfl, ho0, hb⟩; refine ⟨_, rfl, ?_⟩; have HO339 := Aside0.mk (Kd.R_lower (Kd.R_new' (Kd.R_new' (Kd.R_new' ho0 (Kd.R_lt (kK HO327))) (Kd.R_lt (kK HO331))) (Kd.R_lt (kK HO335))) (below_size zB)); replace HO327 := Aside0.mk (Kd.R_elder' (kK HO327) (Kd.R_base ho0) hb); replace HO331 := Aside0.mk (Kd.R_elder' (kK HO331) (Kd.R_base ho0) hb); replace HO335 := Aside0.mk (Kd.R_elder' (kK HO335) (Kd.R_base ho0) hb); replace HB := Aside0.mk (below_step zB hb); (try clear hb); (try clear hb2); (try clear hk); (try clear hi); (try clear ho0); obtain ⟨Ao38, co38, eo38⟩ := Kd.R_slice HO327.out; subst eo38; obtain ⟨Ao39, co39, eo39⟩ := Kd.R_slice HO331.out; subst eo39) | ((with_reducible refine gC 15 rfl ?_); refine goesL_ (some 33) rfl rfl Tryd.func15 Z8 rfl #[.slice Ao38 t324.length co38, .slice Ao39 t328.length co39] rfl Z1 ?_; (with_reducible refine (quoinref02_Same.calls _ _ t324 _ _ t328 true _ ?side1 ?side2 ?side3 ?side4 A6.out).mono ?_); (case side1 => repeat (first | exact (Kd.R_reads' HO327.out).2.2 | (with_reducible refine Kd.C_alloc ?_ _) | (with_reducible refine Kd.C_drewN ?_ _) | (with_reducible refine Kd.C_drew ?_))); (case side2 => exact (Kd.R_reads' HO327.out).2.1); (case side3 => repeat (first | exact (Kd.R_reads' HO331.out).2.2 | (with_reducible refine Kd.C_alloc ?_ _) | (with_reducible refine Kd.C_drewN ?_ _) | (with_reducible refine Kd.C_drew ?_))); (case side4 => exact (Kd.R_reads' HO331.out).2.1); rintro e w40 ⟨rfl, hb⟩; refine ⟨_, rfl, ?_⟩; replace HO327 := Aside0.mk (Kd.R_below (kK HO327) hb); replace HO331 := Aside0.mk (Kd.R_below (kK HO331) hb); replace HO335 := Aside0.mk (Kd.R_below (kK HO335) hb); replace HO339 := Aside0.mk (Kd.R_below (kK HO339) hb); replace HB := Aside0.mk (below_step zB hb); (try clear hb); (try clear hb2); (try clear hk); (try clear hi); obtain ⟨Ao41, co41, eo41⟩ := Kd.R_slice HO335.out; subst eo41; obtain ⟨Ao42, co42, eo42⟩ := Kd.R_slice HO339.out; subst eo42) | (go_at_call 15; (with_reducible refine (quoinref02_Same.calls _ _ t332 _ _ t336 false _ ?side1 ?side2 ?side3 ?side4 A9.out).mono ?_); (case side1 => repeat (first | exact (Kd.R_reads' HO335.out).2.2 | (with_reducible refine Kd.C_alloc ?_ _) | (with_reducible refine Kd.C_drewN ?_ _) | (with_reducible refine Kd.C_drew ?_))); (case side2 => exact (Kd.R_reads' HO335.out).2.1); (case side3 => repeat (first | exact (Kd.R_reads' HO339.out).2.2 | (with_reducible refine Kd.C_alloc ?_ _) | (with_reducible refine Kd.C_drewN ?_ _) | (with_reducible refine Kd.C_drew ?_))); (case side4 => exact (Kd.R_reads' HO339.out).2.1); rintro e w43 ⟨rfl, hb⟩; replace HO327 := Aside0.mk (Kd.R_below (kK HO327) hb); replace HO331 := Aside0.mk (Kd.R_below (kK HO331) hb); replace HO335 := Aside0.mk (Kd.R_below (kK HO335) hb); replace HO339 := Aside0.mk (Kd.R_below (kK HO339) hb); replace HB := Aside0.mk (below_step zB hb); (try clear hb); (try clear hb2); (try clear hk); (try clear hi)))
    go_ret
    exact ⟨Z3, Z0⟩
  ·rw [if_neg c8] at H
   have c8b0 := e3 c8
   have c8b1 := e4 c8
   obtain rfl := Option.some.inj H
   go_enter Tryd.func6, Tryd.ntmps6
   go_wp2_with (first | ((with_reducible refine gC 23 rfl ?_); refine goesL_ (some 13) rfl rfl Tryd.func23 Z8 rfl #[.slice A0 l0.length c0] rfl Z1 ?_; (with_reducible refine (runes_Union.calls k _ _ l0 t324 t325 _ ?side1 ?side2 A2.out).mono ?_); (case side1 => repeat (first | exact HR0.out | (with_reducible refine Kd.C_alloc ?_ _) | (with_reducible refine Kd.C_drewN ?_ _) | (with_reducible refine Kd.C_drew ?_))); (case side2 => exact HC0.out); rintro e w44 ⟨v326, rfl, ho0, hb⟩; refine ⟨_, rfl, ?_⟩; have HO327 := Aside0.mk (Kd.R_lower ho0 (below_size zB)); replace HB := Aside0.mk (below_step zB hb); (try clear hb); (try clear hb2); (try clear hk); (try clear hi); (try clear ho0)) | ((with_reducible refine gC 24 rfl ?_); refine goesL_ (some 18) rfl rfl Tryd.func24 Z8 rfl #[.slice A0 l0.length c0] rfl Z1 ?_; (with_reducible refine (quoinref02_Union.calls k _ _ l0 t328 t329 _ ?side1 ?side2 A3.out).mono ?_); (case side1 => repeat (first | exact (Kd.C_below HR0.out HB.out) | (with_reducible refine Kd.C_alloc ?_ _) | (with_reducible refine Kd.C_drewN ?_ _) | (with_reducible refine Kd.C_drew ?_))); (case side2 => exact HC0.out); rintro e w45 ⟨v330, rfl, ho0, hb⟩; refine ⟨_, rfl, ?_⟩; have HO331 := Aside0.mk (Kd.R_lower (Kd.R_new' ho0 (Kd.R_lt (kK HO327))) (below_size zB)); replace HO327 := Aside0.mk (Kd.R_elder' (kK HO327) (Kd.R_base ho0) hb); replace HB := Aside0.mk (below_step zB hb); (try clear hb); (try clear hb2); (try clear hk); (try clear hi); (try clear ho0)) | ((with_reducible refine gC 25 rfl ?_); refine goesL_ (some 23) rfl rfl Tryd.func25 Z8 rfl #[.slice A0 l0.length c0] rfl Z1 ?_; (with_reducible refine (runes_Meet.calls k _ _ l0 t332 t333 _ ?side1 ?side2 A4.out).mono ?_); (case side1 => repeat (first | exact (Kd.C_below HR0.out HB.out) | (with_reducible refine Kd.C_alloc ?_ _) | (with_reducible refine Kd.C_drewN ?_ _) | (with_reducible refine Kd.C_drew ?_))); (case side2 => exact HC0.out); rintro e w46 ⟨v334, rfl, ho0, hb⟩; refine ⟨_, rfl, ?_⟩; have HO335 := Aside0.mk (Kd.R_lower (Kd.R_new' (Kd.R_new' ho0 (Kd.R_lt (kK HO327))) (Kd.R_lt (kK HO331))) (below_size zB)); replace HO327 := Aside0.mk (Kd.R_elder' (kK HO327) (Kd.R_base ho0) hb); replace HO331 := Aside0.mk (Kd.R_elder' (kK HO331) (Kd.R_base ho0) hb); replace HB := Aside0.mk (below_step zB hb); (try clear hb); (try clear hb2); (try clear hk); (try clear hi); (try clear ho0)) | ((with_reducible refine gC 26 rfl ?_); refine goesL_ (some 28) rfl rfl Tryd.func26 Z8 rfl #[.slice A0 l0.length c0] rfl Z1 ?_; (with_reducible refine (quoinref02_Meet.calls k _ _ l0 t336 t337 _ ?side1 ?side2 A5.out).mono ?_); (case side1 => repeat (first | exact (Kd.C_below HR0.out HB.out) | (with_reducible refine Kd.C_alloc ?_ _) | (with_reducible refine Kd.C_drewN ?_ _) | (with_reducible refine Kd.C_drew ?_))); (case side2 => exact HC0.out); rintro e w47 ⟨v338, rfl, ho0, hb⟩; refine ⟨_, rfl, ?_⟩; have HO339 := Aside0.mk (Kd.R_lower (Kd.R_new' (Kd.R_new' (Kd.R_new' ho0 (Kd.R_lt (kK HO327))) (Kd.R_lt (kK HO331))) (Kd.R_lt (kK HO335))) (below_size zB)); replace HO327 := Aside0.mk (Kd.R_elder' (kK HO327) (Kd.R_base ho0) hb); replace HO331 := Aside0.mk (Kd.R_elder' (kK HO331) (Kd.R_base ho0) hb); replace HO335 := Aside0.mk (Kd.R_elder' (kK HO335) (Kd.R_base ho0) hb); replace HB := Aside0.mk (below_step zB hb); (try clear hb); (try clear hb2); (try clear hk); (try clear hi); (try clear ho0); obtain ⟨Ao48, co48, eo48⟩ := Kd.R_slice HO327.out; subst eo48; obtain ⟨Ao49, co49, eo49⟩ := Kd.R_slice HO331.out; subst eo49) | ((with_reducible refine gC 15 rfl ?_); refine goesL_ (some 33) rfl rfl Tryd.func15 Z8 rfl #[.slice Ao48 t324.length co48, .slice Ao49 t328.length co49] rfl Z1 ?_; (with_reducible refine (quoinref02_Same.calls _ _ t324 _ _ t328 true _ ?side1 ?side2 ?side3 ?side4 A6.out).mono ?_); (case side1 => repeat (first | exact (Kd.R_reads' HO327.out).2.2 | (with_reducible refine Kd.C_alloc ?_ _) | (with_reducible refine Kd.C_drewN ?_ _) | (with_reducible refine Kd.C_drew ?_))); (case side2 => exact (Kd.R_reads' HO327.out).2.1); (case side3 => repeat (first | exact (Kd.R_reads' HO331.out).2.2 | (with_reducible refine Kd.C_alloc ?_ _) | (with_reducible refine Kd.C_drewN ?_ _) | (with_reducible refine Kd.C_drew ?_))); (case side4 => exact (Kd.R_reads' HO331.out).2.1); rintro e w50 ⟨rfl, hb⟩; refine ⟨_, rfl, ?_⟩; replace HO327 := Aside0.mk (Kd.R_below (kK HO327) hb); replace HO331 := Aside0.mk (Kd.R_below (kK HO331) hb); replace HO335 := Aside0.mk (Kd.R_below (kK HO335) hb); replace HO339 := Aside0.mk (Kd.R_below (kK HO339) hb); replace HB := Aside0.mk (below_step zB hb); (try clear hb); (try clear hb2); (try clear hk); (try clear hi)))
   go_ret
   exact ⟨Z3, Z0⟩
 ·replace c7 := Bool.eq_false_iff.mpr c7
  subst c7
  have H1 : (some false) = some r := by rw [if_neg (show ¬ (false = true) by decide)] at H; exact H
  clear H
  have H := H1
  clear H1
  obtain rfl := Option.some.inj H
  go_enter Tryd.func6, Tryd.ntmps6
  go_wp2_with (first | ((with_reducible refine gC 23 rfl ?_); refine goesL_ (some 13) rfl rfl Tryd.func23 Z8 rfl #[.slice A0 l0.length c0] rfl Z1 ?_; (with_reducible refine (runes_Union.calls k _ _ l0 t324 t325 _ ?side1 ?side2 A2.out).mono ?_); (case side1 => repeat (first | exact HR0.out | (with_reducible refine Kd.C_alloc ?_ _) | (with_reducible refine Kd.C_drewN ?_ _) | (with_reducible refine Kd.C_drew ?_))); (case side2 => exact HC0.out); rintro e w51 ⟨v326, rfl, ho0, hb⟩; refine ⟨_, rfl, ?_⟩; have HO327 := Aside0.mk (Kd.R_lower ho0 (below_size zB)); replace HB := Aside0.mk (below_step zB hb); (try clear hb); (try clear hb2); (try clear hk); (try clear hi); (try clear ho0)) | ((with_reducible refine gC 24 rfl ?_); refine goesL_ (some 18) rfl rfl Tryd.func24 Z8 rfl #[.slice A0 l0.length c0] rfl Z1 ?_; (with_reducible refine (quoinref02_Union.calls k _ _ l0 t328 t329 _ ?side1 ?side2 A3.out).mono ?_); (case side1 => repeat (first | exact (Kd.C_below HR0.out HB.out) | (with_reducible refine Kd.C_alloc ?_ _) | (with_reducible refine Kd.C_drewN ?_ _) | (with_reducible refine Kd.C_drew ?_))); (case side2 => exact HC0.out); rintro e w52 ⟨v330, rfl, ho0, hb⟩; refine ⟨_, rfl, ?_⟩; have HO331 := Aside0.mk (Kd.R_lower (Kd.R_new' ho0 (Kd.R_lt (kK HO327))) (below_size zB)); replace HO327 := Aside0.mk (Kd.R_elder' (kK HO327) (Kd.R_base ho0) hb); replace HB := Aside0.mk (below_step zB hb); (try clear hb); (try clear hb2); (try clear hk); (try clear hi); (try clear ho0)) | ((with_reducible refine gC 25 rfl ?_); refine goesL_ (some 23) rfl rfl Tryd.func25 Z8 rfl #[.slice A0 l0.length c0] rfl Z1 ?_; (with_reducible refine (runes_Meet.calls k _ _ l0 t332 t333 _ ?side1 ?side2 A4.out).mono ?_); (case side1 => repeat (first | exact (Kd.C_below HR0.out HB.out) | (with_reducible refine Kd.C_alloc ?_ _) | (with_reducible refine Kd.C_drewN ?_ _) | (with_reducible refine Kd.C_drew ?_))); (case side2 => exact HC0.out); rintro e w53 ⟨v334, rfl, ho0, hb⟩; refine ⟨_, rfl, ?_⟩; have HO335 := Aside0.mk (Kd.R_lower (Kd.R_new' (Kd.R_new' ho0 (Kd.R_lt (kK HO327))) (Kd.R_lt (kK HO331))) (below_size zB)); replace HO327 := Aside0.mk (Kd.R_elder' (kK HO327) (Kd.R_base ho0) hb); replace HO331 := Aside0.mk (Kd.R_elder' (kK HO331) (Kd.R_base ho0) hb); replace HB := Aside0.mk (below_step zB hb); (try clear hb); (try clear hb2); (try clear hk); (try clear hi); (try clear ho0)) | ((with_reducible refine gC 26 rfl ?_); refine goesL_ (some 28) rfl rfl Tryd.func26 Z8 rfl #[.slice A0 l0.length c0] rfl Z1 ?_; (with_reducible refine (quoinref02_Meet.calls k _ _ l0 t336 t337 _ ?side1 ?side2 A5.out).mono ?_); (case side1 => repeat (first | exact (Kd.C_below HR0.out HB.out) | (with_reducible refine Kd.C_alloc ?_ _) | (with_reducible refine Kd.C_drewN ?_ _) | (with_reducible refine Kd.C_drew ?_))); (case side2 => exact HC0.out); rintro e w54 ⟨v338, rfl, ho0, hb⟩; refine ⟨_, rfl, ?_⟩; have HO339 := Aside0.mk (Kd.R_lower (Kd.R_new' (Kd.R_new' (Kd.R_new' ho0 (Kd.R_lt (kK HO327))) (Kd.R_lt (kK HO331))) (Kd.R_lt (kK HO335))) (below_size zB)); replace HO327 := Aside0.mk (Kd.R_elder' (kK HO327) (Kd.R_base ho0) hb); replace HO331 := Aside0.mk (Kd.R_elder' (kK HO331) (Kd.R_base ho0) hb); replace HO335 := Aside0.mk (Kd.R_elder' (kK HO335) (Kd.R_base ho0) hb); replace HB := Aside0.mk (below_step zB hb); (try clear hb); (try clear hb2); (try clear hk); (try clear hi); (try clear ho0); obtain ⟨Ao55, co55, eo55⟩ := Kd.R_slice HO327.out; subst eo55; obtain ⟨Ao56, co56, eo56⟩ := Kd.R_slice HO331.out; subst eo56) | ((with_reducible refine gC 15 rfl ?_); refine goesL_ (some 33) rfl rfl Tryd.func15 Z8 rfl #[.slice Ao55 t324.length co55, .slice Ao56 t328.length co56] rfl Z1 ?_; (with_reducible refine (quoinref02_Same.calls _ _ t324 _ _ t328 false _ ?side1 ?side2 ?side3 ?side4 A6.out).mono ?_); (case side1 => repeat (first | exact (Kd.R_reads' HO327.out).2.2 | (with_reducible refine Kd.C_alloc ?_ _) | (with_reducible refine Kd.C_drewN ?_ _) | (with_reducible refine Kd.C_drew ?_))); (case side2 => exact (Kd.R_reads' HO327.out).2.1); (case side3 => repeat (first | exact (Kd.R_reads' HO331.out).2.2 | (with_reducible refine Kd.C_alloc ?_ _) | (with_reducible refine Kd.C_drewN ?_ _) | (with_reducible refine Kd.C_drew ?_))); (case side4 => exact (Kd.R_reads' HO331.out).2.1); rintro e w57 ⟨rfl, hb⟩; refine ⟨_, rfl, ?_⟩; replace HO327 := Aside0.mk (Kd.R_below (kK HO327) hb); replace HO331 := Aside0.mk (Kd.R_below (kK HO331) hb); replace HO335 := Aside0.mk (Kd.R_below (kK HO335) hb); replace HO339 := Aside0.mk (Kd.R_below (kK HO339) hb); replace HB := Aside0.mk (below_step zB hb); (try clear hb); (try clear hb2); (try clear hk); (try clear hi)))
  go_ret
  exact ⟨Z3, Z0⟩
def quoinlaw02_RunesSets.Pure : Prop := ∀ (l0 : List (List (S36))), l0.length ≤ 9223372036854775807 → l0.length * 24 ≤ 140737488351232 → (∀ x ∈ l0, x.length ≤ 9223372036854775807 ∧ ∀ y1 ∈ x, (Lit.int .i32 y1.f0).wf = true ∧ (Lit.int .i32 y1.f1).wf = true) → ∃ k, quoinlaw02_RunesSets.f k l0 = some true
theorem quoinlaw02_RunesSets.walk (P : quoinlaw02_RunesSets.Pure) (A0 : Option Addr) (c0 : Nat) (l0 : List (List (S36))) (w : World) (hr0 : Kd.C (Kd.slice 36 k36) w A0 l0.length l0) (hc0 : l0.length ≤ c0) (w0_0 : l0.length ≤ 9223372036854775807) (w0_1 : l0.length * 24 ≤ 140737488351232) (w0_2 : (∀ x ∈ l0, x.length ≤ 9223372036854775807 ∧ ∀ y1 ∈ x, (Lit.int .i32 y1.f0).wf = true ∧ (Lit.int .i32 y1.f1).wf = true)) :
  Calls Tryd.prog 6 #[.slice A0 l0.length c0] w fun e w' => e = .returned (.bool true) ∧ Below w.heap.size w w' := by
 obtain ⟨k, h⟩ := P l0 w0_0 w0_1 w0_2
 refine (quoinlaw02_RunesSets.calls k _ _ l0 true w hr0 hc0 h).mono ?_
 rintro e w' ⟨rfl, hd⟩
 exact ⟨rfl, hd⟩
def quoinlaw02_RunesSets.PureU : Prop := ∀ (l0 : List (List (S36))), l0.length ≤ 9223372036854775807 → l0.length * 24 ≤ 140737488351232 → (∀ x ∈ l0, x.length ≤ 9223372036854775807 ∧ ∀ y1 ∈ x, (Lit.int .i32 y1.f0).wf = true ∧ (Lit.int .i32 y1.f1).wf = true) → (l0.map (fun z1 => ((z1.map (fun _ => (1 + 1 + 1))).sum + 1))).sum + 1 ≤ 1048576 → ∃ k, quoinlaw02_RunesSets.f k l0 = some true
theorem quoinlaw02_RunesSets.walkU (P : quoinlaw02_RunesSets.PureU) (A0 : Option Addr) (c0 : Nat) (l0 : List (List (S36))) (w : World) (hr0 : Kd.C (Kd.slice 36 k36) w A0 l0.length l0) (hc0 : l0.length ≤ c0) (w0_0 : l0.length ≤ 9223372036854775807) (w0_1 : l0.length * 24 ≤ 140737488351232) (w0_2 : (∀ x ∈ l0, x.length ≤ 9223372036854775807 ∧ ∀ y1 ∈ x, (Lit.int .i32 y1.f0).wf = true ∧ (Lit.int .i32 y1.f1).wf = true)) (ub0 : (l0.map (fun z1 => ((z1.map (fun _ => (1 + 1 + 1))).sum + 1))).sum + 1 ≤ 1048576) :
  Calls Tryd.prog 6 #[.slice A0 l0.length c0] w fun e w' => e = .returned (.bool true) ∧ Below w.heap.size w w' := by
 obtain ⟨k, h⟩ := P l0 w0_0 w0_1 w0_2 ub0
 refine (quoinlaw02_RunesSets.calls k _ _ l0 true w hr0 hc0 h).mono ?_
 rintro e w' ⟨rfl, hd⟩
 exact ⟨rfl, hd⟩
end Go.Proofs.YtfnkboilepgmoaaDoor.R
