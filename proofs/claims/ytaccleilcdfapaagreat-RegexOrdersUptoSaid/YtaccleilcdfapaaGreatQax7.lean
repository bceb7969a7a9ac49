import Derived.Test.YtaccleilcdfapaaGreatQPre
import Derived.Test.YtaccleilcdfapaaGreatQax6
namespace Go.Proofs.YtaccleilcdfapaaGreat.G
open Go.RowKit Go.Proofs.YtaccleilcdfapaaGreatW.PrintWords Go.Proofs.YtaccleilcdfapaaGreatW.PrintLast Go.Proofs.YtaccleilcdfapaaGreatW.PrintMore
attribute [local go_sem] dH dF dR dQ da cZ dG dE
set_option linter.unusedVariables false
set_option maxHeartbeats 8000000
set_option maxRecDepth 100000
set_option linter.unusedSimpArgs false
def bW.f (k : Nat) (l0 : List (S51)) : Option ((List (S51)) × Int) := (aJ.f k l0).bind fun t627 => (if (t627.length : Int) > 2048 then (some (([] : List (S51)), 21)) else (some (t627, 0)))
theorem bW.mono : ∀ a0 k, LeO (bW.f k a0) (bW.f (k + 1) a0) := by
 intro a0 k
 unfold bW.f
 have m0 := @aJ.mono
 exact mO
theorem bW.calls (k : Nat) (A0 : Option Addr) (c0 : Nat) (l0 : List (S51)) (r1 : List (S51)) (r2 : Int) (w : World) (hr0 : Kd.C k51 w A0 l0.length l0) (hc0 : l0.length ≤ c0) (h : bW.f k l0 = some (r1, r2)) :
  Calls Tryz.prog 107 #[.slice A0 l0.length c0] w fun e w' => ∃ v0_ : Value, e = .returned (.tuple #[v0_, .int .i64 r2]) ∧ Kd.R k51 51 w' w.heap.size (fun _ => True) v0_ r1 ∧ Below w.heap.size w w' := by
 have HR0 := gz hr0
 have HC0 := gz hc0
 clear hr0 hc0
 have HB := gz (Below.refl w.heap.size w)
 have H : ((aJ.f k l0).bind fun t627 => (if (t627.length : Int) > 2048 then (some (([] : List (S51)), 21)) else (some (t627, 0)))) = some (r1, r2) := h
 clear h
 replace H := bS H
 obtain ⟨t627, A2, H⟩ := H
 try dsimp only at H
 by_cases c3 : (t627.length : Int) > 2048
 ·rw [if_pos c3] at H
  have c3b0 : decide (2048 < (t627.length : Int)) = true := decide_eq_true c3
  have c3b1 : decide (2048 < t627.length) = true := decide_eq_true Z8
  clear c3
  simp only [Option.some.injEq, Prod.mk.injEq] at H
  obtain ⟨rfl, rfl⟩ := H
  go_enter Tryz.func107, Tryz.ntmps107
  go_wp2_with (first | ((with_reducible refine gC 116 rfl ?_); refine bl (some 6) rfl rfl Tryz.func116 Z5 rfl #[.slice A0 l0.length c0] rfl Z1 ?_; (with_reducible refine (aJ.calls k _ _ l0 t627 _ ?side1 ?side2 A2.out).mono ?_); (case side1 => repeat (first | exact HR0.out | (with_reducible refine Kd.C_alloc ?_ _) | (with_reducible refine Kd.C_drewN ?_ _) | (with_reducible refine Kd.C_drew ?_))); (case side2 => exact HC0.out); rintro e w4 ⟨v628, rfl, ho0, hb⟩; refine ⟨_, rfl, ?_⟩; have HO629 := gz (Kd.R_lower ho0 (aU zB)); replace HB := gz (ai zB hb); (try clear hb); (try clear hb2); (try clear hk); (try clear hi); (try clear ho0); obtain ⟨Ao5, co5, eo5⟩ := Kd.R_slice HO629.out; subst eo5))
  go_ret2
  exact ⟨_, Z3, Z7, Z0⟩
 ·rw [if_neg c3] at H
  have c3b0 : decide (2048 < (t627.length : Int)) = false := decide_eq_false c3
  have c3b1 : decide (2048 < t627.length) = false := decide_eq_false Z8
  clear c3
  simp only [Option.some.injEq, Prod.mk.injEq] at H
  obtain ⟨rfl, rfl⟩ := H
  go_enter Tryz.func107, Tryz.ntmps107
  go_wp2_with (first | ((with_reducible refine gC 116 rfl ?_); refine bl (some 6) rfl rfl Tryz.func116 Z5 rfl #[.slice A0 l0.length c0] rfl Z1 ?_; (with_reducible refine (aJ.calls k _ _ l0 t627 _ ?side1 ?side2 A2.out).mono ?_); (case side1 => repeat (first | exact HR0.out | (with_reducible refine Kd.C_alloc ?_ _) | (with_reducible refine Kd.C_drewN ?_ _) | (with_reducible refine Kd.C_drew ?_))); (case side2 => exact HC0.out); rintro e w6 ⟨v628, rfl, ho0, hb⟩; refine ⟨_, rfl, ?_⟩; have HO629 := gz (Kd.R_lower ho0 (aU zB)); replace HB := gz (ai zB hb); (try clear hb); (try clear hb2); (try clear hk); (try clear hi); (try clear ho0); obtain ⟨Ao7, co7, eo7⟩ := Kd.R_slice HO629.out; subst eo7))
  go_ret2
  exact ⟨_, Z3, by (with_reducible repeat (first | apply Kd.R_alloc | apply Kd.R_drewN | apply Kd.R_drew)); exact HO629.out, Z0⟩
def aG.f (l0 : List (List S51)) : Option (List S51) := if l0.flatten.length ≤ 17592186044416 then some l0.flatten else none
theorem aG.step (l : List (List S51)) (x : Int) (h0 : 0 ≤ x) (h : x < (l.length : Int)) : (l.take (x + 1).toNat).flatten = (l.take x.toNat).flatten ++ cP l x := by
 have hl : x.toNat < l.length := by omega
 rw [show (x + 1).toNat = x.toNat + 1 from by omega, List.take_succ_eq_append_getElem hl, List.flatten_append]
 unfold cP
 rw [List.getD_eq_getElem?_getD, List.getElem?_eq_getElem hl]
 simp
theorem aG.le (l : List (List S51)) (n : Nat) : (l.take n).flatten.length ≤ l.flatten.length := by
 have h := congrArg (fun z => z.flatten.length) (List.take_append_drop n l)
 simp only [List.flatten_append, List.length_append] at h
 omega
def aG.ren : Go.Shelf.Ren := ⟨fun | 4 => 117 | n => n, fun | 25 => 51 | n => n, fun n => n⟩
theorem aG.growL : Lays8.n4 Tryz.prog aG.ren := {
 mixed := by kernel_rfl
 f4 := ⟨Tryz.f117.name, Z27, Tryz.func117.trans (congrArg some Z5)⟩
 t0 := Tryz.underlying0
 a0 := Tryz.isAgg0
 z0 := Tryz.sizeOf0
 v0 := Tryz.zeroValue0
 t3 := Tryz.underlying3
 a3 := Tryz.isAgg3
 z3 := Tryz.sizeOf3
 v3 := Tryz.zeroValue3
 t4 := Tryz.underlying4
 a4 := Tryz.isAgg4
 z4 := Tryz.sizeOf4
 v4 := Tryz.zeroValue4
 t9 := Tryz.underlying9
 a9 := Tryz.isAgg9
 z9 := Tryz.sizeOf9
 v9 := Tryz.zeroValue9
 t20 := Tryz.underlying20
 a20 := Tryz.isAgg20
 z20 := Tryz.sizeOf20
 v20 := Tryz.zeroValue20
 t22 := Tryz.underlying22
 a22 := Tryz.isAgg22
 z22 := Tryz.sizeOf22
 v22 := Tryz.zeroValue22 }
theorem aG.zc (cs : Array Value) (n : Nat) : (Builtin.zeroCells cs n).size = n * cs.size := by
 unfold Builtin.zeroCells
 simp
theorem aG.grow (n : Nat) (w : World) (hn : n * 8 ≤ 140737488355328) :
  Calls Tryz.prog 117 #[.slice none 0 0, .int .i64 n] w fun e w' => ∃ v, e = .returned v ∧ Kd.R k51 51 w' w.heap.size (fun _ => True) v ([] : List S51) ∧ Below w.heap.size w w' := by
 rcases Nat.eq_zero_or_pos n with rfl | hp
 ·refine (Any8.slices_Grow_room aG.growL none 0 0 0 w (Nat.le_refl _) Z8 Z8 Z8).mono ?_
  rintro e w' ⟨rfl, rfl⟩
  exact ⟨_, rfl, Kd.R_nil _ _ _ _ _, Below.refl _ _⟩
 ·obtain ⟨i0, hi0, hz0, hz1, hz2⟩ := info_parts info51
  refine (Any8.slices_Grow_grow aG.growL i0 _ hi0 hz0 (by rw [hz1]; decide) none 0 0 n [] w (Nat.le_refl _) Z8 (by rw [hz2]; omega) Z8 Z24 (fun _ => rfl) (fun a h => by cases h)).mono ?_
  rintro e w' ⟨rfl, rfl⟩
  have hge := grownCap_ge w (0 + n) 0 51
  have hle := grownCap_le_maxLen w (0 + n) 0 51 (by unfold maxLen; omega)
  refine ⟨_, rfl, ⟨fun _ _ => trivial, [], ⟨Z24, .inr ⟨w.heap.size, _, _, rfl, Nat.le_refl _, a8 w.drew _, Nat.zero_le _, hle, ?_, Z24⟩⟩, Reps.none _ _⟩, ?_⟩
  ·show (#[] ++ Builtin.zeroCells _ _ ++ Builtin.zeroCells _ _).size = _
   rw [Array.size_append, Array.size_append, aG.zc, aG.zc]
   show 0 + _ * 2 + _ * 2 = _ * 2
   have : (aG.ren.t 25) = 51 := rfl
   rw [this]
   omega
  ·exact (aX (Below.refl _ _)).alloc (Nat.le_refl _) _
def aG.sz (l : List (List S51)) (x : Int) : Int := ((l.take x.toNat).flatten.length : Int)
theorem aG.sz0 (l : List (List S51)) : aG.sz l 0 = 0 := by unfold aG.sz; simp
theorem aG.sz1 (l : List (List S51)) (x : Int) (h0 : 0 ≤ x) (h : x < (l.length : Int)) (hb : l.flatten.length ≤ 17592186044416) : wrap64 (aG.sz l x + ((cP l x).length : Int)) = aG.sz l (x + 1) ∧ 0 ≤ aG.sz l (x + 1) := by
 have h1 := congrArg List.length (aG.step l x h0 h)
 have h2 := aG.le l (x + 1).toNat
 rw [List.length_append] at h1
 unfold aG.sz wrap64
 omega
theorem aG.sz2 (l : List (List S51)) (x : Int) (h : x = (l.length : Int)) : aG.sz l x = ((l.flatten.length : Nat) : Int) := by
 unfold aG.sz
 rw [List.take_of_length_le Z8]
theorem aG.calls (A0 : Option Addr) (c0 : Nat) (l0 : List (List (S51))) (r : List (S51)) (w : World) (hr0 : Kd.C (Kd.slice 51 k51) w A0 l0.length l0) (hc0 : l0.length ≤ c0) (h : aG.f l0 = some r) :
  Calls Tryz.prog 108 #[.slice A0 l0.length c0] w fun e w' => ∃ v0_ : Value, e = .returned (v0_) ∧ Kd.R k51 51 w' w.heap.size (fun _ => True) v0_ r ∧ Below w.heap.size w w' := by
 unfold aG.f at h
 by_cases hb : l0.flatten.length ≤ 17592186044416
 rotate_left
 ·rw [if_neg hb] at h; exact absurd h Z24
 rw [if_pos hb] at h
 obtain rfl := Option.some.inj h
 clear h
 have hlen := hr0.2.1
 have HR0 := gz hr0
 clear hr0 hc0
 have HBD := gz hb
 clear hb
 go_enter Tryz.func108, Tryz.ntmps108
 go_wp2
 go_loopw [3, 11] (fun s i wr => ∃ (x : Int), 0 ≤ x ∧ x ≤ (l0.length : Int) ∧ i = .int .i64 x ∧ s = .int .i64 (aG.sz l0 x) ∧ w = wr) (fun _ i _ => l0.length - (intOf i).toNat)
 case atStart => exact ⟨0, Z8, Z8, rfl, by rw [aG.sz0], rfl⟩
 case round =>
  obtain ⟨x, hx0, hx1, rfl, rfl, rfl⟩ := hrel
  by_cases hlt : x < (l0.length : Int)
  ·have d1 : decide (x < (l0.length : Int)) = true := decide_eq_true hlt
   obtain ⟨ad, A1, c1, e0, h0, h1, h2⟩ := fV HR0.out x hx0 hlt
   cases e0
   obtain ⟨hsum, hpos⟩ := aG.sz1 l0 x hx0 hlt HBD.out
   have hw : wrap64 (x + 1) = x + 1 := by unfold wrap64; omega
   have d2 : decide (aG.sz l0 (x + 1) < 0) = false := decide_eq_false Z8
   have p0 := eq_true hx0
   have q0 := eq_true hlt
   go_wp2
   go_roundw
   case rel => exact ⟨x + 1, Z8, Z8, by first | rfl | rw [hw], by first | exact congrArg _ hsum | rfl, Z24⟩
   case measure => simp [intOf]; omega
  ·have d1 : decide (x < (l0.length : Int)) = false := decide_eq_false hlt
   obtain ⟨n, hn⟩ : ∃ n : Nat, n = l0.flatten.length := ⟨_, rfl⟩
   rw [aG.sz2 l0 x Z8, ← hn]
   have hn8 : n * 8 ≤ 140737488355328 := by have := HBD.out; omega
   clear hlt hx0 hx1 hn
   have hn8 := gz hn8
   go_wp2_with (go_at_call 117; refine (aG.grow n w hn8.out).mono ?_; rintro e W1 ⟨v1, rfl, hR, hB⟩; have R1 := gz hR; have B1 := gz hB; clear hR hB)
   go_loopw [6, 27] (fun u i wr => ∃ (x : Int), 0 ≤ x ∧ x ≤ (l0.length : Int) ∧ i = .int .i64 x ∧ aa (Kd.R k51 51 wr w.heap.size (fun _ => True) u (l0.take x.toNat).flatten) ∧ aa (Below w.heap.size w wr)) (fun _ i _ => l0.length - (intOf i).toNat)
   case atStart => exact ⟨0, Z8, Z8, rfl, by simpa using R1, B1⟩
   case round =>
    clear R1 B1
    obtain ⟨x, hx0, hx1, rfl, HO, HB⟩ := hrel
    by_cases hlt : x < (l0.length : Int)
    ·have d1 : decide (x < (l0.length : Int)) = true := decide_eq_true hlt
     obtain ⟨ad, A1, c1, e0, h0, h1, h2⟩ := fV HR0.out x hx0 hlt
     cases e0
     replace h0 := (HB.out.cell (World.block_lt_of_cell? w _ h0)).trans h0
     have HR1 := gz h2
     clear h2
     obtain ⟨ys, hys⟩ : ∃ ys, cP l0 x = ys := ⟨_, rfl⟩
     obtain ⟨xs, hxs⟩ : ∃ xs, (l0.take x.toNat).flatten = xs := ⟨_, rfl⟩
     have hst := aG.step l0 x hx0 hlt
     have hle := aG.le l0 (x + 1).toNat
     rw [hys, hxs] at hst
     have hl2 : (xs.length + ys.length) * 8 ≤ 140737488355328 := by
      have h3 := congrArg List.length hst
      rw [List.length_append] at h3
      have := HBD.out
      omega
     rw [hxs] at HO
     rw [hys] at h0 h1 HR1
     clear hxs hys hle
     have hst := gz hst
     have hl2 := gz hl2
     have h1 := gz h1
     have hw : wrap64 (x + 1) = x + 1 := by unfold wrap64; omega
     have p0 := eq_true hx0
     have q0 := eq_true hlt
     go_wp2_with ((with_reducible refine aK (b := .append) (xs := #[.tmp 31, .tmp 32]) rfl ?_); at_builtin; refine Kd.R_append_rows k51 (w0 := w) w.heap.size rfl (.tmp 31) (.tmp 32) 22 51 (.agg #[(.int .i32 0), (.int .i32 0)]) 8 rfl Tryz.underlying22 info51 rfl Z27 Z8 u6 xs ys _ _ _ (fun _ => True) (fun _ => False) rfl rfl ?aO ?aR (fun _ _ h => h) (fun _ h => h.elim) ?aF ?aB ?aS ?aL ?_; (case aR => exact Kd.C_below HR1.out HB.out); (case aB => exact HB.out); (case aF => exact (fun _ _ => trivial)); (case aO => exact HO.out); (case aS => exact (aU HB.out)); (case aL => exact hl2.out); intro v5 w5 ho hb hg hat; have HO2 := gz ho; have HB2 := gz hb; clear ho hb hg hat)
     go_roundw
     case rel => exact ⟨x + 1, Z8, Z8, by first | rfl | rw [hw], ⟨by rw [hst.out]; exact HO2.out⟩, HB2⟩
     case measure => simp [intOf]; omega
    ·have d1 : decide (x < (l0.length : Int)) = false := decide_eq_false hlt
     rw [List.take_of_length_le Z8] at HO
     clear hlt hx0 hx1
     go_wp2
     go_ret
     exact ⟨_, rfl, HO.out, HB.out⟩
def cN.f (k : Nat) (l0 : List (List (S51))) : Option ((List (S51)) × Int) := (aQ.f k l0).bind fun t630 => (if t630 = 0 then ((aG.f l0).bind fun t631 => ((bW.f k t631).bind fun bt634 => (some (bt634.1, bt634.2)))) else (some (([] : List (S51)), t630)))
theorem cN.mono : ∀ a0 k, LeO (cN.f k a0) (cN.f (k + 1) a0) := by
 intro a0 k
 unfold cN.f
 have m0 := @aQ.mono
 have m1 := @bW.mono
 exact mO
theorem cN.calls (k : Nat) (A0 : Option Addr) (c0 : Nat) (l0 : List (List (S51))) (r1 : List (S51)) (r2 : Int) (w : World) (hr0 : Kd.C (Kd.slice 51 k51) w A0 l0.length l0) (hc0 : l0.length ≤ c0) (h : cN.f k l0 = some (r1, r2)) :
  Calls Tryz.prog 93 #[.slice A0 l0.length c0] w fun e w' => ∃ v0_ : Value, e = .returned (.tuple #[v0_, .int .i64 r2]) ∧ Kd.R k51 51 w' w.heap.size (fun _ => True) v0_ r1 ∧ Below w.heap.size w w' := by
 have HR0 := gz hr0
 have HC0 := gz hc0
 clear hr0 hc0
 have HB := gz (Below.refl w.heap.size w)
 have H : ((aQ.f k l0).bind fun t630 => (if t630 = 0 then ((aG.f l0).bind fun t631 => ((bW.f k t631).bind fun bt634 => (some (bt634.1, bt634.2)))) else (some (([] : List (S51)), t630)))) = some (r1, r2) := h
 clear h
 replace H := bS H
 obtain ⟨t630, A2, H⟩ := H
 try dsimp only at H
 by_cases c3 : t630 = 0
 ·rw [if_pos c3] at H
  have c3b0 := e1 c3
  have c3b1 := e2 c3
  clear c3
  replace H := bS H
  obtain ⟨t631, A4, H⟩ := H
  try dsimp only at H
  replace H := bS H
  obtain ⟨⟨t634, t635⟩, A5, H⟩ := H
  try dsimp only at H
  simp only [Option.some.injEq, Prod.mk.injEq] at H
  obtain ⟨rfl, rfl⟩ := H
  go_enter Tryz.func93, Tryz.ntmps93
  go_wp2_with (first | ((with_reducible refine gC 106 rfl ?_); refine bl (some 6) rfl rfl Tryz.func106 Z5 rfl #[.slice A0 l0.length c0] rfl Z1 ?_; (with_reducible refine (aQ.calls k _ _ l0 t630 _ ?side1 ?side2 A2.out).mono ?_); (case side1 => repeat (first | exact HR0.out | (with_reducible refine Kd.C_alloc ?_ _) | (with_reducible refine Kd.C_drewN ?_ _) | (with_reducible refine Kd.C_drew ?_))); (case side2 => exact HC0.out); rintro e w6 ⟨rfl, hb⟩; refine ⟨_, rfl, ?_⟩; replace HB := gz (ai zB hb); (try clear hb); (try clear hb2); (try clear hk); (try clear hi)) | ((with_reducible refine gC 108 rfl ?_); refine bl (some 11) rfl rfl Tryz.func108 Z5 rfl #[.slice A0 l0.length c0] rfl Z1 ?_; (with_reducible refine (aG.calls _ _ l0 t631 _ ?side1 ?side2 A4.out).mono ?_); (case side1 => repeat (first | exact (Kd.C_below HR0.out HB.out) | (with_reducible refine Kd.C_alloc ?_ _) | (with_reducible refine Kd.C_drewN ?_ _) | (with_reducible refine Kd.C_drew ?_))); (case side2 => exact HC0.out); rintro e w7 ⟨v632, rfl, ho0, hb⟩; refine ⟨_, rfl, ?_⟩; have HO633 := gz (Kd.R_lower ho0 (aU zB)); replace HB := gz (ai zB hb); (try clear hb); (try clear hb2); (try clear hk); (try clear hi); (try clear ho0); obtain ⟨Ao8, co8, eo8⟩ := Kd.R_slice HO633.out; subst eo8) | ((with_reducible refine gC 107 rfl ?_); refine bl (some 12) rfl rfl Tryz.func107 Z5 rfl #[.slice Ao8 t631.length co8] rfl Z1 ?_; (with_reducible refine (bW.calls k _ _ t631 t634 t635 _ ?side1 ?side2 A5.out).mono ?_); (case side1 => repeat (first | exact (Kd.R_reads' HO633.out).2.2 | (with_reducible refine Kd.C_alloc ?_ _) | (with_reducible refine Kd.C_drewN ?_ _) | (with_reducible refine Kd.C_drew ?_))); (case side2 => exact (Kd.R_reads' HO633.out).2.1); rintro e w9 ⟨v636, rfl, ho0, hb⟩; refine ⟨_, rfl, ?_⟩; have HO637 := gz (Kd.R_lower (Kd.R_new' ho0 (Kd.R_lt (kK HO633))) (aU zB)); replace HO633 := gz (Kd.R_elder' (kK HO633) (Kd.R_base ho0) hb); replace HB := gz (ai zB hb); (try clear hb); (try clear hb2); (try clear hk); (try clear hi); (try clear ho0)))
  go_ret2
  exact ⟨_, Z3, by (with_reducible repeat (first | apply Kd.R_alloc | apply Kd.R_drewN | apply Kd.R_drew)); exact Kd.R_mono HO637.out (fun _ hk => trivial), Z0⟩
 ·rw [if_neg c3] at H
  have c3b0 := e3 c3
  have c3b1 := e4 c3
  simp only [Option.some.injEq, Prod.mk.injEq] at H
  obtain ⟨rfl, rfl⟩ := H
  go_enter Tryz.func93, Tryz.ntmps93
  go_wp2_with (first | ((with_reducible refine gC 106 rfl ?_); refine bl (some 6) rfl rfl Tryz.func106 Z5 rfl #[.slice A0 l0.length c0] rfl Z1 ?_; (with_reducible refine (aQ.calls k _ _ l0 t630 _ ?side1 ?side2 A2.out).mono ?_); (case side1 => repeat (first | exact HR0.out | (with_reducible refine Kd.C_alloc ?_ _) | (with_reducible refine Kd.C_drewN ?_ _) | (with_reducible refine Kd.C_drew ?_))); (case side2 => exact HC0.out); rintro e w10 ⟨rfl, hb⟩; refine ⟨_, rfl, ?_⟩; replace HB := gz (ai zB hb); (try clear hb); (try clear hb2); (try clear hk); (try clear hi)))
  go_ret2
  exact ⟨_, Z3, Z7, Z0⟩
mutual
def aM.l0 : Nat → List (S51) → List (S51) → List (S51) → Int → Int → Option ((List (S51)))
 | 0, _, _, _, _, _ => none
 | k + 1, x0, x1, x5, x6, x7 => if x6 < (x0.length : Int) then (aM.j1 k x0 x1 x5 x6 x7 (decide (x7 < (x1.length : Int)))) else (aM.j1 k x0 x1 x5 x6 x7 false)
def aM.j1 : Nat → List (S51) → List (S51) → List (S51) → Int → Int → Bool → Option ((List (S51)))
 | 0, _, _, _, _, _, _ => none
 | k + 1, x0, x1, x5, x6, x7, x19 => if x19 = true then (if 0 ≤ x6 then (if x6 < (x0.length : Int) then (if 0 ≤ x7 then (if x7 < (x1.length : Int) then (if (mx ((aA x0 x6).f0) ((aA x1 x7).f0)) ≤ (mn ((aA x0 x6).f1) ((aA x1 x7).f1)) then (if x5.length < 17592186044416 then ((some (x5 ++ [(⟨mx ((aA x0 x6).f0) ((aA x1 x7).f0), mn ((aA x0 x6).f1) ((aA x1 x7).f1)⟩ : S51)] : List (S51))).bind fun y642 => (if ((aA x0 x6).f1) < ((aA x1 x7).f1) then (aM.l0 k x0 x1 y642 (wrap64 (x6 + 1)) x7) else (aM.l0 k x0 x1 y642 x6 (wrap64 (x7 + 1))))) else (none)) else (if ((aA x0 x6).f1) < ((aA x1 x7).f1) then (aM.l0 k x0 x1 x5 (wrap64 (x6 + 1)) x7) else (aM.l0 k x0 x1 x5 x6 (wrap64 (x7 + 1))))) else (none)) else (none)) else (none)) else (none)) else (some x5)
end
def aM.f (k : Nat) (l0 : List (S51)) (l1 : List (S51)) : Option ((List (S51))) := aM.l0 k l0 l1 ([] : List (S51)) 0 0
theorem aM.mono_l : ∀ k, (∀ y0 y1 y2 y3 y4, LeO (aM.l0 k y0 y1 y2 y3 y4) (aM.l0 (k + 1) y0 y1 y2 y3 y4)) ∧ (∀ y0 y1 y2 y3 y4 y5, LeO (aM.j1 k y0 y1 y2 y3 y4 y5) (aM.j1 (k + 1) y0 y1 y2 y3 y4 y5))
 | 0 => ⟨fun _ _ _ _ _ r h => by simp [aM.l0] at h, fun _ _ _ _ _ _ r h => by simp [aM.j1] at h⟩
 | k + 1 => by
  obtain ⟨ih0, ih1⟩ := aM.mono_l k
  refine ⟨?_, ?_⟩
  ·intro y0 y1 y2 y3 y4
   unfold aM.l0
   exact mO
  ·intro y0 y1 y2 y3 y4 y5
   unfold aM.j1
   exact mO
theorem aM.mono : ∀ a0 a1 k, LeO (aM.f k a0 a1) (aM.f (k + 1) a0 a1) := by
 intro a0 a1 k
 obtain ⟨ih0, ih1⟩ := aM.mono_l k
 unfold aM.f
 exact mO
theorem aM.calls (k : Nat) (A0 : Option Addr) (c0 : Nat) (l0 : List (S51)) (A1 : Option Addr) (c1 : Nat) (l1 : List (S51)) (r : List (S51)) (w : World) (hr0 : Kd.C k51 w A0 l0.length l0) (hc0 : l0.length ≤ c0) (hr1 : Kd.C k51 w A1 l1.length l1) (hc1 : l1.length ≤ c1) (h : aM.f k l0 l1 = some r) :
  Calls Tryz.prog 109 #[.slice A0 l0.length c0, .slice A1 l1.length c1] w fun e w' => ∃ v0_ : Value, e = .returned (v0_) ∧ Kd.R k51 51 w' w.heap.size (fun _ => True) v0_ r ∧ Below w.heap.size w w' := by
 have HR0 := gz hr0
 have HR1 := gz hr1
 have H := gz h
 clear hr0 hc0 hr1 hc1 h
 unfold aM.f at H
 go_enter Tryz.func109, Tryz.ntmps109
 go_wp2_with fail
 go_loopg [5, 6, 7] k (fun kq v5 v6 v7 wr => ∃ (x : List S51) (i j : Int), v6 = .int .i64 i ∧ v7 = .int .i64 j ∧ aa (aM.l0 kq l0 l1 x i j = some r) ∧ aa (kq ≤ k) ∧ aa (Kd.R k51 51 wr w.heap.size (fun _ => True) v5 x) ∧ aa (Below w.heap.size w wr))
 case atStart => exact ⟨[], 0, 0, rfl, rfl, H, ⟨Nat.le_refl _⟩, ⟨Kd.R_nil _ _ _ _ _⟩, ⟨Below.refl _ _⟩⟩
 case round =>
  clear H
  obtain ⟨x, i, j, rfl, rfl, HA, HK, HO, HB⟩ := hrel
  cases gk with
  | zero => exact absurd HA.out (by simp [aM.l0])
  | succ k1 =>
  have h := HA.out
  clear HA
  simp only [aM.l0] at h
  obtain ⟨A7, c7, rfl⟩ := Kd.R_slice HO.out
  obtain ⟨k2, rfl⟩ : ∃ n, k1 = n + 1 := by
   cases k1 with
   | zero => simp [aM.j1] at h
   | succ n => exact ⟨n, rfl⟩
  simp only [aM.j1] at h
  by_cases c : i < (l0.length : Int)
  ·rw [if_pos c] at h
   have d := decide_eq_true c
   by_cases e : j < (l1.length : Int)
   ·have d' := decide_eq_true e
    rw [if_pos d'] at h
    simp only [Option.ite_none_right_eq_some] at h
    obtain ⟨hi0, _, hj0, _, h⟩ := h
    obtain ⟨ad, e0, g0, g1⟩ := cI (Kd.C_below HR0.out HB.out) i hi0 c
    cases e0
    obtain ⟨ad', e0, g2, g3⟩ := cI (Kd.C_below HR1.out HB.out) j hj0 e
    cases e0
    obtain ⟨a, ha⟩ : ∃ a, (aA l0 i).f0 = a := ⟨_, rfl⟩
    obtain ⟨a', ha'⟩ : ∃ a, (aA l0 i).f1 = a := ⟨_, rfl⟩
    obtain ⟨b, hb⟩ : ∃ a, (aA l1 j).f0 = a := ⟨_, rfl⟩
    obtain ⟨b', hb'⟩ : ∃ a, (aA l1 j).f1 = a := ⟨_, rfl⟩
    rw [ha] at g0
    rw [ha'] at g1
    rw [hb] at g2
    rw [hb'] at g3
    obtain ⟨m, hm⟩ : ∃ m, mx a b = m := ⟨_, rfl⟩
    obtain ⟨m', hm'⟩ : ∃ m, mn a' b' = m := ⟨_, rfl⟩
    have hmw : (if a < b then b else a) = m := hm
    have hmw' : (if b' < a' then b' else a') = m' := hm'
    simp only [ha, ha', hb, hb', hm, hm'] at h
    clear hm hm'
    have ha' := gz ha'
    have hb' := gz hb'
    replace h := gz h
    clear ha hb
    go_wp2_with fail
    go_quiet (fail)
    replace HO := gz (Kd.R_drewN HO.out nq)
    replace HB := gz (aC HB.out nq)
    clear g0 g1 g2 g3
    generalize World.drewN wr nq = W at HO HB ⊢
    clear hmw hmw'
    go_upto_if 44 with (fail)
    go_cut [5] (fun v5 wc => ∃ y, aa ((if a' < b' then aM.l0 k2 l0 l1 y (wrap64 (i + 1)) j else aM.l0 k2 l0 l1 y i (wrap64 (j + 1))) = some r) ∧ aa (Kd.R k51 51 wc w.heap.size (fun _ => True) v5 y) ∧ aa (Below w.heap.size w wc))
    case first =>
     replace h := h.out
     by_cases cl : m ≤ m'
     ·rw [if_pos cl] at h
      rw [decide_eq_true cl]
      simp only [Option.ite_none_right_eq_some] at h
      have L := gz h.1
      replace h := gz h.2
      clear cl
      go_wp2_with (first | ((with_reducible refine aK (b := .append) (xs := #[.tmp 45, .tmp 49]) rfl ?_); at_builtin; refine ap51 (w0 := w) (x := ⟨m, m'⟩) (.tmp 45) (.tmp 49) HO HB HB.out.size L.out ?_; intro v1 w1 n1 b1 g1; clear g1))
      go_meet
      case rel => exact ⟨_, h, ⟨n1⟩, ⟨b1⟩⟩
     ·rw [if_neg cl] at h
      rw [decide_eq_false cl]
      replace h := gz h
      clear cl
      go_wp2
      go_meet
      case rel => exact ⟨_, h, HO, HB⟩
    case rest =>
     clear h HO HB
     obtain ⟨y, h, HO, HB⟩ := hcut
     replace h := h.out
     obtain ⟨_, e0, g0, g1⟩ := cI (Kd.C_below HR0.out HB.out) i hi0 c
     cases e0
     obtain ⟨_, e0, g2, g3⟩ := cI (Kd.C_below HR1.out HB.out) j hj0 e
     cases e0
     rw [ha'.out] at g1
     rw [hb'.out] at g3
     by_cases cl : a' < b'
     ·rw [if_pos cl] at h
      have dl := decide_eq_true cl
      replace h := gz h
      clear cl
      go_wp2_with fail
      go_quiet (fail)
      go_wp2
      go_roundg k2
      case measure => have := HK.out; omega
      case rel => exact ⟨y, wrap64 (i + 1), j, rfl, rfl, h, ⟨Z20⟩, ⟨Kd.R_drewN HO.out nq⟩, ⟨aC HB.out nq⟩⟩
     ·rw [if_neg cl] at h
      have dl := decide_eq_false cl
      replace h := gz h
      clear cl
      go_wp2_with fail
      go_quiet (fail)
      go_wp2
      go_roundg k2
      case measure => have := HK.out; omega
      case rel => exact ⟨y, i, wrap64 (j + 1), rfl, rfl, h, ⟨Z20⟩, ⟨Kd.R_drewN HO.out nq⟩, ⟨aC HB.out nq⟩⟩
   ·have d' := decide_eq_false e
    rw [d', if_neg Z24] at h
    obtain rfl := Option.some.inj h
    go_wp2
    go_ret
    exact ⟨_, rfl, HO.out, HB.out⟩
  ·rw [if_neg c] at h
   have d := decide_eq_false c
   simp only [if_neg (show ¬ false = true by decide)] at h
   obtain rfl := Option.some.inj h
   go_wp2
   go_ret
   exact ⟨_, rfl, HO.out, HB.out⟩
def bD.l0 : Nat → List (S51) → List (List (S51)) → Int → Int → Option ((List (S51)) × Int)
 | 0, _, _, _, _ => none
 | k + 1, x5, x15, x16, x17 => if x17 < x16 then (if 0 ≤ x17 then (if x17 < (x15.length : Int) then ((aM.f k x5 (cP x15 x17)).bind fun t654 => (bD.l0 k t654 x15 x16 (wrap64 (x17 + 1)))) else (none)) else (none)) else ((bW.f k x5).bind fun bt657 => (some (bt657.1, bt657.2)))
def bD.f (k : Nat) (l0 : List (List (S51))) : Option ((List (S51)) × Int) := (aQ.f k l0).bind fun t649 => (if t649 = 0 then (bD.l0 k (([(⟨0, 1114111⟩ : S51)] : List (S51))) l0 (l0.length : Int) 0) else (some (([] : List (S51)), t649)))
theorem bD.mono_l : ∀ k, (∀ y0 y1 y2 y3, LeO (bD.l0 k y0 y1 y2 y3) (bD.l0 (k + 1) y0 y1 y2 y3))
 | 0 => fun _ _ _ _ r h => by simp [bD.l0] at h
 | k + 1 => by
  have ih0 := bD.mono_l k
  ·intro y0 y1 y2 y3
   unfold bD.l0
   have m0 := @aM.mono
   have m1 := @aQ.mono
   have m2 := @bW.mono
   exact mO
theorem bD.mono : ∀ a0 k, LeO (bD.f k a0) (bD.f (k + 1) a0) := by
 intro a0 k
 have ih0 := bD.mono_l k
 unfold bD.f
 have m0 := @aM.mono
 have m1 := @aQ.mono
 have m2 := @bW.mono
 exact mO
theorem bD.calls (k : Nat) (A0 : Option Addr) (c0 : Nat) (l0 : List (List (S51))) (r1 : List (S51)) (r2 : Int) (w : World) (hr0 : Kd.C (Kd.slice 51 k51) w A0 l0.length l0) (hc0 : l0.length ≤ c0) (h : bD.f k l0 = some (r1, r2)) :
  Calls Tryz.prog 94 #[.slice A0 l0.length c0] w fun e w' => ∃ v0_ : Value, e = .returned (.tuple #[v0_, .int .i64 r2]) ∧ Kd.R k51 51 w' w.heap.size (fun _ => True) v0_ r1 ∧ Below w.heap.size w w' := by
 have hu51 := Tryz.underlying51
 have HR0 := gz hr0
 have HC0 := gz hc0
 clear hr0 hc0
 have HB := gz (Below.refl w.heap.size w)
 have H : ((aQ.f k l0).bind fun t649 => (if t649 = 0 then (bD.l0 k (([(⟨0, 1114111⟩ : S51)] : List (S51))) l0 (l0.length : Int) 0) else (some (([] : List (S51)), t649)))) = some (r1, r2) := h
 clear h
 replace H := Option.bind_eq_some_iff.mp H
 obtain ⟨t649, A20, H⟩ := H
 replace H : (if t649 = 0 then (bD.l0 k (([(⟨0, 1114111⟩ : S51)] : List (S51))) l0 (l0.length : Int) 0) else (some (([] : List (S51)), t649))) = some (r1, r2) := H
 have A2 := gz A20
 clear A20
 by_cases c3 : t649 = 0
 ·rw [if_pos c3] at H
  have c3b0 := e1 c3
  have c3b1 := e2 c3
  clear c3
  obtain ⟨y650, hy650⟩ : ∃ y_ : List (S51), y_ = (([(⟨0, 1114111⟩ : S51)] : List (S51))) := ⟨_, rfl⟩
  replace H : (bD.l0 k y650 l0 (l0.length : Int) 0) = some (r1, r2) := by first | (rw [hy650]; with_reducible exact H) | (have H2_ := (Option.bind_some _ _).symm.trans H; rw [hy650]; with_reducible exact H2_) | (have H2_ := (Option.bind_some _ _).symm.trans H; with_reducible exact H2_) | with_reducible exact H | (rw [hy650]; exact H) | exact H
  have Ny650 := gz hy650
  clear hy650
  have H' := gz H
  clear H
  go_enter Tryz.func94, Tryz.ntmps94
  go_wp2_with (first | ((with_reducible refine gC 106 rfl ?_); refine bl (some 9) rfl rfl Tryz.func106 Z5 rfl #[.slice A0 l0.length c0] rfl Z1 ?_; (with_reducible refine (aQ.calls k _ _ l0 t649 _ ?side1 ?side2 A2.out).mono ?_); (case side1 => repeat (first | exact HR0.out | (with_reducible refine Kd.C_alloc ?_ _) | (with_reducible refine Kd.C_drewN ?_ _) | (with_reducible refine Kd.C_drew ?_))); (case side2 => exact HC0.out); rintro e w4 ⟨rfl, hb⟩; refine ⟨_, rfl, ?_⟩; replace HB := gz (ai zB hb); (try clear hb); (try clear hb2); (try clear hk); (try clear hi)) | ((with_reducible refine bI (N := 14) rfl ?_); refine Kd.R_lit k51 _ 51 ?hg (N := 14) ?hd (xs := ([(⟨0, 1114111⟩ : S51)] : List (S51))) (inner := [.int .i32 0, .int .i32 1114111]) (ok := fun _ => True) (okp := fun _ => True) ?hr ?hp (fun _ hk => hk) trivial (Below.refl _ _) (Nat.le_refl _) Z24 ?_; (case hd => rfl); (case hg => rfl); (case hr => first | (go_simp; done) | (go_simp; rfl)); (case hp => exact (Reps.c2 (show Kd.M k51 _ _ _ (⟨0, 1114111⟩ : S51) [.int .i32 0, .int .i32 1114111] from (k51_mkM _ _ _ (⟨0, 1114111⟩ : S51) )) (Reps.none _ _))); intro v651 w5 ho6 hb hg_ hnew_; clear hg_ hnew_; (first | rw [← Ny650.out] at ho6 | (simp only [Int.reduceToNat] at ho6; rw [← Ny650.out] at ho6)); have HO652 := gz (Kd.R_lower ho6 (aU zB)); replace HB := gz (ai zB hb); clear hb ho6))
  go_loopg [5, 17] k (fun kq v5 v17 w' => ∃ (x5_1 : List (S51)) (x17_1 : Int), v17 = .int .i64 x17_1 ∧ aa (bD.l0 kq x5_1 l0 (l0.length : Int) x17_1 = some (r1, r2)) ∧ aa (kq ≤ k) ∧ aa (Kd.R k51 51 w' w.heap.size (fun _ => True) v5 x5_1) ∧ aa (Below w.heap.size w w'))
  case atStart => exact ⟨(y650), (0), Z2, H', ⟨Nat.le_refl _⟩, ⟨by (with_reducible repeat (first | apply Kd.R_alloc | apply Kd.R_drewN | apply Kd.R_drew)); exact HO652.out⟩, ⟨Z0⟩⟩
  case round =>
   clear H'
   try clear c1
   try clear c2
   try clear p2
   try clear c3
   try clear c3b0
   try clear c3b1
   obtain ⟨x5_1, x17_1, rfl, HA, HK1, HO_5, HB⟩ := hrel
   cases gk with
   | zero => exact absurd HA.out (by simp [bD.l0])
   | succ k1 =>
    have H := HA.out
    clear HA
    simp only [bD.l0] at H
    by_cases c7 : x17_1 < (l0.length : Int)
    ·rw [if_pos c7] at H
     have c7b0 := decide_eq_true c7
     clear c7
     by_cases c8 : 0 ≤ x17_1
     ·rw [if_pos c8] at H
      have c8b0 := decide_eq_true c8
      clear c8
      by_cases c9 : x17_1 < (l0.length : Int)
      ·rw [if_pos c9] at H
       have c9b0 := decide_eq_true c9
       clear c9
       replace H := bS H
       obtain ⟨t654, A10, H⟩ := H
       try dsimp only at H
       have H' := gz H
       clear H
       have p653 : 0 ≤ (x17_1 : Int) := of_decide_eq_true Z4
       have q653 : x17_1 < (l0.length : Int) := of_decide_eq_true Z4
       obtain ⟨ad653, A653_0, c653_0, e653, hx653_0, hl653_0, hi653_0⟩ := fV HR0.out x17_1 p653 q653
       cases e653
       replace hx653_0 := (HB.out.cell (World.block_lt_of_cell? w _ hx653_0)).trans hx653_0
       have HR653_0 := gz hi653_0
       have HC653_0 := gz hl653_0
       clear hi653_0 hl653_0
       replace p653 := eq_true p653
       replace q653 := eq_true q653
       obtain ⟨Ao11, co11, eo11⟩ := Kd.R_slice HO_5.out
       subst eo11
       go_wp2_with (first | ((with_reducible refine gC 109 rfl ?_); refine bl (some 23) rfl rfl Tryz.func109 Z5 rfl #[.slice Ao11 x5_1.length co11, .slice A653_0 (cP l0 x17_1).length c653_0] rfl Z1 ?_; (with_reducible refine (aM.calls k1 _ _ x5_1 _ _ (cP l0 x17_1) t654 _ ?side1 ?side2 ?side3 ?side4 A10.out).mono ?_); (case side1 => repeat (first | exact (Kd.R_reads' HO_5.out).2.2 | (with_reducible refine Kd.C_alloc ?_ _) | (with_reducible refine Kd.C_drewN ?_ _) | (with_reducible refine Kd.C_drew ?_))); (case side2 => exact (Kd.R_reads' HO_5.out).2.1); (case side3 => repeat (first | exact (Kd.C_below HR653_0.out HB.out) | (with_reducible refine Kd.C_alloc ?_ _) | (with_reducible refine Kd.C_drewN ?_ _) | (with_reducible refine Kd.C_drew ?_))); (case side4 => exact HC653_0.out); rintro e w12 ⟨v655, rfl, ho0, hb⟩; refine ⟨_, rfl, ?_⟩; have HO656 := gz (Kd.R_lower (Kd.R_new' ho0 (Kd.R_lt (kK HO_5))) (aU zB)); replace HO_5 := gz (Kd.R_elder' (kK HO_5) (Kd.R_base ho0) hb); replace HB := gz (ai zB hb); (try clear hb); (try clear hb2); (try clear hk); (try clear hi); (try clear ho0)))
       go_roundg k1
       case measure => have := HK1.out; omega
       case rel => exact ⟨(t654), (wrap64 (x17_1 + 1)), Z2, H', ⟨Z22⟩, ⟨by (with_reducible repeat (first | apply Kd.R_alloc | apply Kd.R_drewN | apply Kd.R_drew)); exact Kd.R_mono HO656.out (fun _ hk => trivial)⟩, ⟨Z0⟩⟩
      ·rw [if_neg c9] at H
       exact absurd H Z24
     ·rw [if_neg c8] at H
      exact absurd H Z24
    ·rw [if_neg c7] at H
     have c7b0 := decide_eq_false c7
     clear c7
     replace H := bS H
     obtain ⟨⟨t657, t658⟩, A13, H⟩ := H
     try dsimp only at H
     simp only [Option.some.injEq, Prod.mk.injEq] at H
     obtain ⟨rfl, rfl⟩ := H
     obtain ⟨Ao14, co14, eo14⟩ := Kd.R_slice HO_5.out
     subst eo14
     go_wp2_with (first | ((with_reducible refine gC 107 rfl ?_); refine bl (some 26) rfl rfl Tryz.func107 Z5 rfl #[.slice Ao14 x5_1.length co14] rfl Z1 ?_; (with_reducible refine (bW.calls k1 _ _ x5_1 t657 t658 _ ?side1 ?side2 A13.out).mono ?_); (case side1 => repeat (first | exact (Kd.R_reads' HO_5.out).2.2 | (with_reducible refine Kd.C_alloc ?_ _) | (with_reducible refine Kd.C_drewN ?_ _) | (with_reducible refine Kd.C_drew ?_))); (case side2 => exact (Kd.R_reads' HO_5.out).2.1); rintro e w15 ⟨v659, rfl, ho0, hb⟩; refine ⟨_, rfl, ?_⟩; have HO660 := gz (Kd.R_lower (Kd.R_new' ho0 (Kd.R_lt (kK HO_5))) (aU zB)); replace HO_5 := gz (Kd.R_elder' (kK HO_5) (Kd.R_base ho0) hb); replace HB := gz (ai zB hb); (try clear hb); (try clear hb2); (try clear hk); (try clear hi); (try clear ho0)))
     go_ret2
     exact ⟨_, Z3, by (with_reducible repeat (first | apply Kd.R_alloc | apply Kd.R_drewN | apply Kd.R_drew)); exact Kd.R_mono HO660.out (fun _ hk => trivial), Z0⟩
 ·rw [if_neg c3] at H
  have c3b0 := e3 c3
  have c3b1 := e4 c3
  simp only [Option.some.injEq, Prod.mk.injEq] at H
  obtain ⟨rfl, rfl⟩ := H
  go_enter Tryz.func94, Tryz.ntmps94
  go_wp2_with (first | ((with_reducible refine gC 106 rfl ?_); refine bl (some 9) rfl rfl Tryz.func106 Z5 rfl #[.slice A0 l0.length c0] rfl Z1 ?_; (with_reducible refine (aQ.calls k _ _ l0 t649 _ ?side1 ?side2 A2.out).mono ?_); (case side1 => repeat (first | exact HR0.out | (with_reducible refine Kd.C_alloc ?_ _) | (with_reducible refine Kd.C_drewN ?_ _) | (with_reducible refine Kd.C_drew ?_))); (case side2 => exact HC0.out); rintro e w16 ⟨rfl, hb⟩; refine ⟨_, rfl, ?_⟩; replace HB := gz (ai zB hb); (try clear hb); (try clear hb2); (try clear hk); (try clear hi)))
  go_ret2
  exact ⟨_, Z3, Z7, Z0⟩
end Go.Proofs.YtaccleilcdfapaaGreat.G
