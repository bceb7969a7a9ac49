import Derived.Test.YtaccleilcdfapaaGreatQPre
import Derived.Test.YtaccleilcdfapaaGreatQax6
import Derived.Test.YtaccleilcdfapaaGreatQax7
import Derived.Test.YtaccleilcdfapaaGreatQax9
namespace Go.Proofs.YtaccleilcdfapaaGreat.G
open Go.RowKit Go.Proofs.YtaccleilcdfapaaGreatW.PrintWords Go.Proofs.YtaccleilcdfapaaGreatW.PrintLast Go.Proofs.YtaccleilcdfapaaGreatW.PrintMore
attribute [local go_sem] dH dF dR dQ da cZ dG dE
set_option linter.unusedVariables false
set_option maxHeartbeats 8000000
set_option maxRecDepth 100000
set_option linter.unusedSimpArgs false
def fD.f (k : Nat) (l0 : List (S51)) (a1 : Bool) : Option ((List (S51)) × Int) := if a1 = true then ((aJ.f k l0).bind fun t907 => ((dh.f k t907).bind fun t910 => ((bW.f k t910).bind fun bt913 => (some (bt913.1, bt913.2))))) else ((bW.f k l0).bind fun bt917 => (some (bt917.1, bt917.2)))
theorem fD.calls (k : Nat) (A0 : Option Addr) (c0 : Nat) (l0 : List (S51)) (a1 : Bool) (r1 : List (S51)) (r2 : Int) (w : World) (hr0 : Kd.C k51 w A0 l0.length l0) (hc0 : l0.length ≤ c0) (h : fD.f k l0 a1 = some (r1, r2)) :
  Calls Tryz.prog 151 #[.slice A0 l0.length c0, .bool a1] w fun e w' => ∃ v0_ : Value, e = .returned (.tuple #[v0_, .int .i64 r2]) ∧ Kd.R k51 51 w' w.heap.size (fun _ => True) v0_ r1 ∧ Below w.heap.size w w' := by
 have HR0 := gz hr0
 have HC0 := gz hc0
 clear hr0 hc0
 have HB := gz (Below.refl w.heap.size w)
 have H : (if a1 = true then ((aJ.f k l0).bind fun t907 => ((dh.f k t907).bind fun t910 => ((bW.f k t910).bind fun bt913 => (some (bt913.1, bt913.2))))) else ((bW.f k l0).bind fun bt917 => (some (bt917.1, bt917.2)))) = some (r1, r2) := h
 clear h
 by_cases c3 : a1 = true
 ·subst c3
  have H1 : ((aJ.f k l0).bind fun t907 => ((dh.f k t907).bind fun t910 => ((bW.f k t910).bind fun bt913 => (some (bt913.1, bt913.2))))) = some (r1, r2) := by rw [if_pos rfl] at H; exact H
  clear H
  have H := H1
  clear H1
  replace H := bS H
  obtain ⟨t907, A4, H⟩ := H
  try dsimp only at H
  replace H := bS H
  obtain ⟨t910, A5, H⟩ := H
  try dsimp only at H
  replace H := bS H
  obtain ⟨⟨t913, t914⟩, A6, H⟩ := H
  try dsimp only at H
  simp only [Option.some.injEq, Prod.mk.injEq] at H
  obtain ⟨rfl, rfl⟩ := H
  go_enter Tryz.func151, Tryz.ntmps151
  go_wp2_with (first | ((with_reducible refine gC 116 rfl ?_); refine bl (some 8) rfl rfl Tryz.func116 Z5 rfl #[.slice A0 l0.length c0] rfl Z1 ?_; (with_reducible refine (aJ.calls k _ _ l0 t907 _ ?side1 ?side2 A4.out).mono ?_); (case side1 => repeat (first | exact HR0.out | (with_reducible refine Kd.C_alloc ?_ _) | (with_reducible refine Kd.C_drewN ?_ _) | (with_reducible refine Kd.C_drew ?_))); (case side2 => exact HC0.out); rintro e w7 ⟨v908, rfl, ho0, hb⟩; refine ⟨_, rfl, ?_⟩; have HO909 := gz (Kd.R_lower ho0 (aU zB)); replace HB := gz (ai zB hb); (try clear hb); (try clear hb2); (try clear hk); (try clear hi); (try clear ho0); obtain ⟨Ao8, co8, eo8⟩ := Kd.R_slice HO909.out; subst eo8) | ((with_reducible refine gC 169 rfl ?_); refine bl (some 9) rfl rfl Tryz.func169 Z5 rfl #[.slice Ao8 t907.length co8] rfl Z1 ?_; (with_reducible refine (dh.calls k _ _ t907 t910 _ ?side1 ?side2 A5.out).mono ?_); (case side1 => repeat (first | exact (Kd.R_reads' HO909.out).2.2 | (with_reducible refine Kd.C_alloc ?_ _) | (with_reducible refine Kd.C_drewN ?_ _) | (with_reducible refine Kd.C_drew ?_))); (case side2 => exact (Kd.R_reads' HO909.out).2.1); rintro e w9 ⟨v911, rfl, ho0, hb⟩; refine ⟨_, rfl, ?_⟩; have HO912 := gz (Kd.R_lower (Kd.R_new' ho0 (Kd.R_lt (kK HO909))) (aU zB)); replace HO909 := gz (Kd.R_elder' (kK HO909) (Kd.R_base ho0) hb); replace HB := gz (ai zB hb); (try clear hb); (try clear hb2); (try clear hk); (try clear hi); (try clear ho0); obtain ⟨Ao10, co10, eo10⟩ := Kd.R_slice HO912.out; subst eo10) | ((with_reducible refine gC 107 rfl ?_); refine bl (some 11) rfl rfl Tryz.func107 Z5 rfl #[.slice Ao10 t910.length co10] rfl Z1 ?_; (with_reducible refine (bW.calls k _ _ t910 t913 t914 _ ?side1 ?side2 A6.out).mono ?_); (case side1 => repeat (first | exact (Kd.R_reads' HO912.out).2.2 | (with_reducible refine Kd.C_alloc ?_ _) | (with_reducible refine Kd.C_drewN ?_ _) | (with_reducible refine Kd.C_drew ?_))); (case side2 => exact (Kd.R_reads' HO912.out).2.1); rintro e w11 ⟨v915, rfl, ho0, hb⟩; refine ⟨_, rfl, ?_⟩; have HO916 := gz (Kd.R_lower (Kd.R_new' (Kd.R_new' ho0 (Kd.R_lt (kK HO909))) (Kd.R_lt (kK HO912))) (aU zB)); replace HO909 := gz (Kd.R_elder' (kK HO909) (Kd.R_base ho0) hb); replace HO912 := gz (Kd.R_elder' (kK HO912) (Kd.R_base ho0) hb); replace HB := gz (ai zB hb); (try clear hb); (try clear hb2); (try clear hk); (try clear hi); (try clear ho0)))
  go_ret2
  exact ⟨_, Z3, by (with_reducible repeat (first | apply Kd.R_alloc | apply Kd.R_drewN | apply Kd.R_drew)); exact Kd.R_mono HO916.out (fun _ hk => trivial), Z0⟩
 ·replace c3 := Bool.eq_false_iff.mpr c3
  subst c3
  have H1 : ((bW.f k l0).bind fun bt917 => (some (bt917.1, bt917.2))) = some (r1, r2) := by rw [if_neg (show ¬ (false = true) by decide)] at H; exact H
  clear H
  have H := H1
  clear H1
  replace H := bS H
  obtain ⟨⟨t917, t918⟩, A12, H⟩ := H
  try dsimp only at H
  simp only [Option.some.injEq, Prod.mk.injEq] at H
  obtain ⟨rfl, rfl⟩ := H
  go_enter Tryz.func151, Tryz.ntmps151
  go_wp2_with (first | ((with_reducible refine gC 107 rfl ?_); refine bl (some 11) rfl rfl Tryz.func107 Z5 rfl #[.slice A0 l0.length c0] rfl Z1 ?_; (with_reducible refine (bW.calls k _ _ l0 t917 t918 _ ?side1 ?side2 A12.out).mono ?_); (case side1 => repeat (first | exact HR0.out | (with_reducible refine Kd.C_alloc ?_ _) | (with_reducible refine Kd.C_drewN ?_ _) | (with_reducible refine Kd.C_drew ?_))); (case side2 => exact HC0.out); rintro e w13 ⟨v919, rfl, ho0, hb⟩; refine ⟨_, rfl, ?_⟩; have HO920 := gz (Kd.R_lower ho0 (aU zB)); replace HB := gz (ai zB hb); (try clear hb); (try clear hb2); (try clear hk); (try clear hi); (try clear ho0)))
  go_ret2
  exact ⟨_, Z3, by (with_reducible repeat (first | apply Kd.R_alloc | apply Kd.R_drewN | apply Kd.R_drew)); exact HO920.out, Z0⟩
def fq.f (a0 : ByteArray) (a1 : Int) : Option (Int × Int × Bool) := if a1 < 0 then some (0, 0, false) else if a1 ≥ (a0.size : Int) then some (0, 0, false) else if ((Utf8.decode (a0.extract a1.toNat a0.size) 0).1 : Int) = 65533 then (if (3 : Int) ≤ ((a0.size - a1.toNat : Nat) : Int) then (if ((a0.extract a1.toNat a0.size).extract 0 3).toList = [239, 191, 189] then some (65533, 3, true) else some (0, 1, false)) else some (0, 1, false)) else some (((Utf8.decode (a0.extract a1.toNat a0.size) 0).1 : Int), ((Utf8.encode (Utf8.decode (a0.extract a1.toNat a0.size) 0).1).size : Int), true)
theorem fq.calls {a0 : ByteArray} {a1 : Int} {r1 : Int} {r2 : Int} {r3 : Bool} {w : World} (h : fq.f a0 a1 = some (r1, r2, r3)) :
  Calls Tryz.prog 152 #[.string a0, .int .i64 a1] w fun e w' => e = .returned (.tuple #[.int .i32 r1, .int .i64 r2, .bool r3]) ∧ Below w.heap.size w w' := by
 unfold fq.f at h
 by_cases c1 : a1 < 0
 ·rw [if_pos c1] at h
  obtain ⟨rfl, rfl, rfl⟩ : r1 = 0 ∧ r2 = 0 ∧ r3 = false := by simpa [eq_comm] using h
  clear h
  go_enter Tryz.func152, Tryz.ntmps152
  go_wp2
  go_ret3
  exact ⟨rfl, Below.refl _ _⟩
 rw [if_neg c1] at h
 by_cases c2 : a1 ≥ (a0.size : Int)
 ·rw [if_pos c2] at h
  obtain ⟨rfl, rfl, rfl⟩ : r1 = 0 ∧ r2 = 0 ∧ r3 = false := by simpa [eq_comm] using h
  clear h
  go_enter Tryz.func152, Tryz.ntmps152
  go_wp2
  go_ret3
  exact ⟨rfl, Below.refl _ _⟩
 rw [if_neg c2] at h
 have d1 : decide (a1 < 0) = false := decide_eq_false c1
 have d2 : decide ((a0.size : Int) ≤ a1) = false := decide_eq_false c2
 have d3 : 0 ≤ a1 := by omega
 have d4' : a1 ≤ (a0.size : Int) := by omega
 have hp : 0 < (a0.extract a1.toNat a0.size).size := by simp; omega
 clear c1 c2
 have hb : Below w.heap.size w ((w.iter (a0.extract a1.toNat a0.size) (Utf8.decode (a0.extract a1.toNat a0.size) 0).2)) := by unfold World.iter; exact (Below.refl _ _).alloc (Nat.le_refl _) _
 have hnx : ∀ ty, (Instr.next (.pointer (some ⟨w.heap.size, 0, none⟩)) true ty).run Tryz.prog (w.iter (a0.extract a1.toNat a0.size) 0) = _ := fun ty => run_next_any w (a0.extract a1.toNat a0.size) 0 ty hp
 have hb := gz hb
 by_cases c3 : ((Utf8.decode (a0.extract a1.toNat a0.size) 0).1 : Int) = 65533
 ·rw [if_pos c3] at h
  have hz : (0 : Int) ≤ 3 := by decide
  by_cases c4 : (3 : Int) ≤ ((a0.size - a1.toNat : Nat) : Int)
  ·rw [if_pos c4] at h
   by_cases c5 : ((a0.extract a1.toNat a0.size).extract 0 3).toList = [239, 191, 189]
   ·rw [if_pos c5] at h
    obtain ⟨rfl, rfl, rfl⟩ : r1 = 65533 ∧ r2 = 3 ∧ r3 = true := by simpa [eq_comm] using h
    clear h
    have he : (Utf8.encode 65533).size = 3 := by decide
    go_enter Tryz.func152, Tryz.ntmps152
    go_wp2
    refine wp_loop_rounds 1 ?_
    rw [rounds_succ]
    go_wp2
    go_ret3
    exact ⟨rfl, hb.out⟩
   ·rw [if_neg c5] at h
    obtain ⟨rfl, rfl, rfl⟩ : r1 = 0 ∧ r2 = 1 ∧ r3 = false := by simpa [eq_comm] using h
    clear h
    have c5' : (((a0.extract a1.toNat a0.size).extract 0 3).toList == [239, 191, 189]) = false := by simpa using c5
    clear c5
    go_enter Tryz.func152, Tryz.ntmps152
    go_wp2
    refine wp_loop_rounds 1 ?_
    rw [rounds_succ]
    go_wp2
    go_ret3
    exact ⟨rfl, hb.out⟩
  ·rw [if_neg c4] at h
   obtain ⟨rfl, rfl, rfl⟩ : r1 = 0 ∧ r2 = 1 ∧ r3 = false := by simpa [eq_comm] using h
   clear h
   have c4' : decide ((3 : Int) ≤ ((a0.size - a1.toNat : Nat) : Int)) = false := decide_eq_false c4
   clear c4
   go_enter Tryz.func152, Tryz.ntmps152
   go_wp2
   refine wp_loop_rounds 1 ?_
   rw [rounds_succ]
   go_wp2
   go_ret3
   exact ⟨rfl, hb.out⟩
 ·rw [if_neg c3] at h
  obtain ⟨rfl, rfl, rfl⟩ : r1 = ((Utf8.decode (a0.extract a1.toNat a0.size) 0).1 : Int) ∧ r2 = ((Utf8.encode (Utf8.decode (a0.extract a1.toNat a0.size) 0).1).size : Int) ∧ r3 = true := by simpa [eq_comm] using h
  clear h
  have c3' : (((Utf8.decode (a0.extract a1.toNat a0.size) 0).1 : Int) == 65533) = false := by simpa using c3
  clear c3
  go_enter Tryz.func152, Tryz.ntmps152
  go_wp2
  refine wp_loop_rounds 1 ?_
  rw [rounds_succ]
  go_wp2
  go_ret3
  exact ⟨rfl, hb.out⟩
def df.f (a0 : ByteArray) (a1 : ByteArray) : Option (Bool) := if (a0.size : Int) ≥ (a1.size : Int) then (if 0 ≤ (a1.size : Int) then (if (a1.size : Int) ≤ (a0.size : Int) then (some ((a0.extract 0 ((a1.size : Int) : Int).toNat).toList == a1.toList)) else (none)) else (none)) else (some false)
theorem df.calls {a0 : ByteArray} {a1 : ByteArray} {r : Bool} {w : World} (h : df.f a0 a1 = some r) :
  Calls Tryz.prog 176 #[.string a0, .string a1] w fun e w' => e = .returned (.bool r) ∧ Drawn0 w w' := by
 have H : (if (a0.size : Int) ≥ (a1.size : Int) then (if 0 ≤ (a1.size : Int) then (if (a1.size : Int) ≤ (a0.size : Int) then (some ((a0.extract 0 ((a1.size : Int) : Int).toNat).toList == a1.toList)) else (none)) else (none)) else (some false)) = some r := h
 clear h
 by_cases c3 : (a0.size : Int) ≥ (a1.size : Int)
 ·rw [if_pos c3] at H
  have c3b0 : decide ((a1.size : Int) ≤ (a0.size : Int)) = true := decide_eq_true c3
  have c3b1 : decide (a1.size ≤ a0.size) = true := decide_eq_true (Int.ofNat_le.mp c3)
  clear c3
  by_cases c4 : 0 ≤ (a1.size : Int)
  ·rw [if_pos c4] at H
   have c4b0 := eq_true c4
   have c4b1 := decide_eq_true c4
   clear c4
   by_cases c5 : (a1.size : Int) ≤ (a0.size : Int)
   ·rw [if_pos c5] at H
    have c5b0 := eq_true c5
    have c5b1 := decide_eq_true c5
    clear c5
    obtain rfl := Option.some.inj H
    go_enter Tryz.func176, Tryz.ntmps176
    go_wp2
    go_ret
    exact ⟨Z2, Z6⟩
   ·rw [if_neg c5] at H
    exact absurd H Z24
  ·rw [if_neg c4] at H
   exact absurd H Z24
 ·rw [if_neg c3] at H
  have c3b0 : decide ((a1.size : Int) ≤ (a0.size : Int)) = false := decide_eq_false c3
  have c3b1 : decide (a1.size ≤ a0.size) = false := decide_eq_false (fun h => c3 (Int.ofNat_le.mpr h))
  clear c3
  obtain rfl := Option.some.inj H
  go_enter Tryz.func176, Tryz.ntmps176
  go_wp2
  go_ret
  exact ⟨Z2, Z6⟩
def aY.f (a0 : ByteArray) (a1 : ByteArray) : Option (Bool) := (df.f a0 a1).bind fun t921 => (some t921)
theorem aY.calls {a0 : ByteArray} {a1 : ByteArray} {r : Bool} {w : World} (h : aY.f a0 a1 = some r) :
  Calls Tryz.prog 166 #[.string a0, .string a1] w fun e w' => e = .returned (.bool r) ∧ Drawn0 w w' := by
 have H : ((df.f a0 a1).bind fun t921 => (some t921)) = some r := h
 clear h
 replace H := bS H
 obtain ⟨t921, A3, H⟩ := H
 try dsimp only at H
 obtain rfl := Option.some.inj H
 go_enter Tryz.func166, Tryz.ntmps166
 go_wp2_with (first | ((with_reducible refine gC 176 rfl ?_); refine bl (some 7) rfl rfl Tryz.func176 Z5 rfl #[.string a0, .string a1] rfl Z1 ?_; (with_reducible refine (df.calls A3.out).mono ?_); rintro e w' ⟨rfl, ⟨nd, rfl⟩⟩; refine ⟨_, rfl, ?_⟩))
 go_ret
 exact ⟨Z2, Z6⟩
def IsS164 (w0 W : World) (g : Nat) (f0 : ByteArray) (f1 : Int) (f2 : Int) (f3 : Int) : Prop := W.heap[g]? = some (.cells #[.string f0, .int .i64 f1, .int .i64 f2, .int .i64 f3] 164 (0, 0)) ∧ w0.heap.size ≤ g
theorem IsS164.grown {w0 W : World} {g : Nat} {f0 : ByteArray} {f1 : Int} {f2 : Int} {f3 : Int} {W1 : World} {row : Option Nat} (h : IsS164 w0 W g f0 f1 f2 f3) (hw : W.grownBy W1 row) (hne : some g ≠ row) : IsS164 w0 W1 g f0 f1 f2 f3 := by
 obtain ⟨hb, hg⟩ := h
 exact ⟨blk_grown hb hw hne, hg⟩
theorem IsS164.own_neN {w0 W : World} {g : Nat} {f0 : ByteArray} {f1 : Int} {f2 : Int} {f3 : Int} {α : Type} {d : Kd α} {e : Nat} {base : Nat} {ok : Nat → Prop} {v : Value} {xs : List α} (h : IsS164 w0 W g f0 f1 f2 f3) (ho : Kd.N d e W base ok v xs) (ht : e ≠ 164) : some g ≠ v.ownBlock := by
 obtain ⟨hb, hg⟩ := h
 exact Kd.N_ne ho hb ht
theorem IsS164.fresh {w0 W : World} {g : Nat} {f0 : ByteArray} {f1 : Int} {f2 : Int} {f3 : Int} (h : IsS164 w0 W g f0 f1 f2 f3) : ∀ k, W.heap.size ≤ k → k ≠ g := by
 obtain ⟨hb, hg⟩ := h
 exact Kd.freshB hb
theorem IsS164.kept {w0 W : World} {g : Nat} {f0 : ByteArray} {f1 : Int} {f2 : Int} {f3 : Int} {W1 : World} {S : Nat → Prop} (h : IsS164 w0 W g f0 f1 f2 f3) (hk : Kept W W1 S) (hne : ¬ S g) : IsS164 w0 W1 g f0 f1 f2 f3 := by
 obtain ⟨hb, hg⟩ := h
 exact ⟨blk_kept hb hk hne, hg⟩
theorem IsS164.below {w0 W : World} {g : Nat} {f0 : ByteArray} {f1 : Int} {f2 : Int} {f3 : Int} {W1 : World} (h : IsS164 w0 W g f0 f1 f2 f3) (hw : Below W.heap.size W W1) : IsS164 w0 W1 g f0 f1 f2 f3 := h.grown (fg hw none) Z24
theorem IsS164.alloc {w0 W : World} {g : Nat} {f0 : ByteArray} {f1 : Int} {f2 : Int} {f3 : Int} (h : IsS164 w0 W g f0 f1 f2 f3) (o : Obj) : IsS164 w0 (W.alloc o) g f0 f1 f2 f3 := h.below (ak (Below.refl _ _) o)
theorem IsS164.drewN {w0 W : World} {g : Nat} {f0 : ByteArray} {f1 : Int} {f2 : Int} {f3 : Int} (h : IsS164 w0 W g f0 f1 f2 f3) (m : Nat) : IsS164 w0 (W.drewN m) g f0 f1 f2 f3 := h
theorem IsS164.drew {w0 W : World} {g : Nat} {f0 : ByteArray} {f1 : Int} {f2 : Int} {f3 : Int} (h : IsS164 w0 W g f0 f1 f2 f3) : IsS164 w0 W.drew g f0 f1 f2 f3 := h
theorem IsS164.at_ {w0 W : World} {g : Nat} {f0 : ByteArray} {f1 : Int} {f2 : Int} {f3 : Int} {w' : World} {m : Nat} (hq : W.drewN m = w') (h : IsS164 w0 W g f0 f1 f2 f3) : IsS164 w0 w' g f0 f1 f2 f3 := by subst hq; exact IsS164.drewN h m
theorem IsS164.apart {w0 W : World} {g : Nat} {f0 : ByteArray} {f1 : Int} {f2 : Int} {f3 : Int} {α : Type} {d : Kd α} {e : Nat} {base : Nat} {ok : Nat → Prop} {v : Value} {xs : List α} (h : IsS164 w0 W g f0 f1 f2 f3) (ho : d.R e W base ok v xs) (ht : ∀ q, q ∈ e :: d.E → q ≠ 164) : d.R e W base (fun k => ok k ∧ k ≠ g) v xs := by
 obtain ⟨hb, hg⟩ := h
 exact Kd.R_types ho hb ht
theorem IsS164.own_ne {w0 W : World} {g : Nat} {f0 : ByteArray} {f1 : Int} {f2 : Int} {f3 : Int} {α : Type} {d : Kd α} {e : Nat} {base : Nat} {ok : Nat → Prop} {v : Value} {xs : List α} (h : IsS164 w0 W g f0 f1 f2 f3) (ho : d.R e W base ok v xs) (ht : e ≠ 164) : some g ≠ v.ownBlock := by
 obtain ⟨hb, hg⟩ := h
 exact Kd.R_ne ho hb ht
theorem IsS164.apartQ {w0 W : World} {g : Nat} {f0 : ByteArray} {f1 : Int} {f2 : Int} {f3 : Int} {α : Type} {d : Kd α} {e : Nat} {base : Nat} {ok : Nat → Prop} {v : Value} {xs : List α} (h : IsS164 w0 W g f0 f1 f2 f3) (ho : d.Q e W base ok v xs) (ht : ∀ q, q ∈ e :: d.E → q ≠ 164) : d.Q e W base (fun k => ok k ∧ k ≠ g) v xs := by
 obtain ⟨hb, hg⟩ := h
 exact Kd.Q_types ho hb ht
theorem IsS164.own_neQ {w0 W : World} {g : Nat} {f0 : ByteArray} {f1 : Int} {f2 : Int} {f3 : Int} {α : Type} {d : Kd α} {e : Nat} {base : Nat} {ok : Nat → Prop} {v : Value} {xs : List α} (h : IsS164 w0 W g f0 f1 f2 f3) (ho : d.Q e W base ok v xs) (ht : e ≠ 164) : some g ≠ v.ownBlock := by
 obtain ⟨hb, hg⟩ := h
 exact Kd.Q_ne ho hb ht
theorem IsS164.apartS {w0 W : World} {g : Nat} {f0 : ByteArray} {f1 : Int} {f2 : Int} {f3 : Int} {α : Type} {d : Kd α} {e : Nat} {base : Nat} {ok : Nat → Prop} {v : Value} {xs : List α} (h : IsS164 w0 W g f0 f1 f2 f3) (ho : d.S e W base ok v xs) (ht : ∀ q, q ∈ e :: d.E → q ≠ 164) : d.S e W base (fun k => ok k ∧ k ≠ g) v xs := by
 obtain ⟨hb, hg⟩ := h
 exact Kd.S_types ho hb ht
theorem IsS164.own_neS {w0 W : World} {g : Nat} {f0 : ByteArray} {f1 : Int} {f2 : Int} {f3 : Int} {α : Type} {d : Kd α} {e : Nat} {base : Nat} {ok : Nat → Prop} {v : Value} {xs : List α} (h : IsS164 w0 W g f0 f1 f2 f3) (ho : d.S e W base ok v xs) (ht : e ≠ 164) : some g ≠ v.ownBlock := by
 obtain ⟨hb, hg⟩ := h
 exact Kd.S_ne ho hb ht
theorem IsS164.lt {w0 W : World} {g : Nat} {f0 : ByteArray} {f1 : Int} {f2 : Int} {f3 : Int} (h : IsS164 w0 W g f0 f1 f2 f3) : g < W.heap.size := by
 obtain ⟨hb, hg⟩ := h
 exact bB hb
theorem IsS164.ge {w0 W : World} {g : Nat} {f0 : ByteArray} {f1 : Int} {f2 : Int} {f3 : Int} (h : IsS164 w0 W g f0 f1 f2 f3) : w0.heap.size ≤ g := by
 obtain ⟨hb, hg⟩ := h
 exact hg
theorem IsS164.ne_blk {w0 W : World} {g : Nat} {f0 : ByteArray} {f1 : Int} {f2 : Int} {f3 : Int} {a : Nat} {cs : Array Value} {t : TypeId} {fr : Nat × Nat} (h : IsS164 w0 W g f0 f1 f2 f3) (hb2 : W.heap[a]? = some (.cells cs t fr)) (ht : t ≠ 164) : g ≠ a := by
 obtain ⟨hb, hg⟩ := h
 rintro rfl
 rw [hb] at hb2
 injection hb2 with hb2
 injection hb2 with _ ht2
 exact ht ht2.symm
theorem IsS164.far {w0 W : World} {g : Nat} {f0 : ByteArray} {f1 : Int} {f2 : Int} {f3 : Int} {p : Addr} (h : IsS164 w0 W g f0 f1 f2 f3) (hne : g ≠ p.block) (u : Value) : IsS164 w0 (W.setCell p u) g f0 f1 f2 f3 := by
 obtain ⟨hb, hg⟩ := h
 exact ⟨fB hb hne u, hg⟩
theorem fy {W : World} {g : Nat} {f0 : ByteArray} {f1 : Int} {f2 : Int} {f3 : Int} (h : W.heap[g]? = some (.cells #[.string f0, .int .i64 f1, .int .i64 f2, .int .i64 f3] 164 (0, 0))) : W.cell? ⟨g, 0, none⟩ = some (.string f0) := (ah h 0).trans rfl
theorem IsS164.set_0 {w0 W : World} {g : Nat} {f0 : ByteArray} {f1 : Int} {f2 : Int} {f3 : Int} (h : IsS164 w0 W g f0 f1 f2 f3) (x : ByteArray) : IsS164 w0 (W.setCell ⟨g, 0, none⟩ (.string x)) g x f1 f2 f3 := by
 obtain ⟨hb, hg⟩ := h
 exact ⟨by simpa using fi hb 0 (.string x), hg⟩
theorem dX {W : World} {g : Nat} {f0 : ByteArray} {f1 : Int} {f2 : Int} {f3 : Int} (h : W.heap[g]? = some (.cells #[.string f0, .int .i64 f1, .int .i64 f2, .int .i64 f3] 164 (0, 0))) : W.cell? ⟨g, 1, none⟩ = some (.int .i64 f1) := (ah h 1).trans rfl
theorem IsS164.set_1 {w0 W : World} {g : Nat} {f0 : ByteArray} {f1 : Int} {f2 : Int} {f3 : Int} (h : IsS164 w0 W g f0 f1 f2 f3) (x : Int) : IsS164 w0 (W.setCell ⟨g, 1, none⟩ (.int .i64 x)) g f0 x f2 f3 := by
 obtain ⟨hb, hg⟩ := h
 exact ⟨by simpa using fi hb 1 (.int .i64 x), hg⟩
theorem gx {W : World} {g : Nat} {f0 : ByteArray} {f1 : Int} {f2 : Int} {f3 : Int} (h : W.heap[g]? = some (.cells #[.string f0, .int .i64 f1, .int .i64 f2, .int .i64 f3] 164 (0, 0))) : W.cell? ⟨g, 2, none⟩ = some (.int .i64 f2) := (ah h 2).trans rfl
theorem IsS164.set_2 {w0 W : World} {g : Nat} {f0 : ByteArray} {f1 : Int} {f2 : Int} {f3 : Int} (h : IsS164 w0 W g f0 f1 f2 f3) (x : Int) : IsS164 w0 (W.setCell ⟨g, 2, none⟩ (.int .i64 x)) g f0 f1 x f3 := by
 obtain ⟨hb, hg⟩ := h
 exact ⟨by simpa using fi hb 2 (.int .i64 x), hg⟩
theorem gw {W : World} {g : Nat} {f0 : ByteArray} {f1 : Int} {f2 : Int} {f3 : Int} (h : W.heap[g]? = some (.cells #[.string f0, .int .i64 f1, .int .i64 f2, .int .i64 f3] 164 (0, 0))) : W.cell? ⟨g, 3, none⟩ = some (.int .i64 f3) := (ah h 3).trans rfl
theorem IsS164.set_3 {w0 W : World} {g : Nat} {f0 : ByteArray} {f1 : Int} {f2 : Int} {f3 : Int} (h : IsS164 w0 W g f0 f1 f2 f3) (x : Int) : IsS164 w0 (W.setCell ⟨g, 3, none⟩ (.int .i64 x)) g f0 f1 f2 x := by
 obtain ⟨hb, hg⟩ := h
 exact ⟨by simpa using fi hb 3 (.int .i64 x), hg⟩
theorem IsS164.new (w0 W : World) (f0 : ByteArray) (f1 : Int) (f2 : Int) (f3 : Int) (hB : Below w0.heap.size w0 W) : IsS164 w0 (W.alloc (.cells #[.string f0, .int .i64 f1, .int .i64 f2, .int .i64 f3] 164)) W.heap.size f0 f1 f2 f3 := ⟨by simpa using heap_alloc_new W _, hB.size⟩
abbrev Rd (w0 w W : World) (g : Nat) (a : ByteArray) (b c d : Int) : Prop := IsS164 w0 W g a b c d ∧ Below w0.heap.size w0 W ∧ KeepBut w W g none
theorem Rd.call {w0 w W W1 : World} {g : Nat} {a a1 : ByteArray} {b c d b1 c1 d1 : Int} (h : aa (Rd w0 w W g a b c d)) (hi : IsS164 w0 W1 g a1 b1 c1 d1 ∧ Below w0.heap.size w0 W1 ∧ KeepBut W W1 g none) : aa (Rd w0 w W1 g a1 b1 c1 d1) := ⟨hi.1, hi.2.1, KeepBut.trans h.out.2.2 hi.2.2 (.inl rfl)⟩
theorem Rd.dr {w0 w W : World} {g : Nat} {a : ByteArray} {b c d : Int} (h : aa (Rd w0 w W g a b c d)) (n : Nat) : aa (Rd w0 w (W.drewN n) g a b c d) := ⟨h.out.1.drewN n, aC h.out.2.1 n, KeepBut.trans h.out.2.2 (KeepBut.of_below (aC (Below.refl _ _) n) g none) (.inl rfl)⟩
theorem Rd.set {w0 w W : World} {g : Nat} {a : ByteArray} {b c d : Int} (h : aa (Rd w0 w W g a b c d)) (x : Int) : aa (Rd w0 w (W.setCell ⟨g, 1, none⟩ (.int .i64 x)) g a x c d) := ⟨h.out.1.set_1 x, cx h.out.2.1 h.out.1.ge, h.out.2.2.set_ 1 _⟩
theorem Rd.cs {w0 w W : World} {g : Nat} {a : ByteArray} {b c d : Int} (h : aa (Rd w0 w W g a b c d)) : W.cell? ⟨g, 0, none⟩ = some (.string a) ∧ W.cell? ⟨g, 1, none⟩ = some (.int .i64 b) ∧ W.cell? ⟨g, 2, none⟩ = some (.int .i64 c) ∧ W.cell? ⟨g, 3, none⟩ = some (.int .i64 d) ∧ W.frozen? ⟨g, 0, none⟩ = false ∧ W.frozen? ⟨g, 1, none⟩ = false :=
 ⟨(ah h.out.1.1 0).trans rfl, (ah h.out.1.1 1).trans rfl, (ah h.out.1.1 2).trans rfl, (ah h.out.1.1 3).trans rfl, ag h.out.1.1 0, ag h.out.1.1 1⟩
theorem Rd.row {w0 w W W1 : World} {g base : Nat} {a : ByteArray} {b c d : Int} {v : Value} {xs : List S51} (h : aa (Rd w0 w W g a b c d)) (HO : aa (Kd.R k51 51 W base (fun _ => True) v xs)) (hk : KeepBut W W1 g none) : aa (Kd.R k51 51 W1 base (fun _ => True) v xs) := ⟨Kd.R_mono (Kd.R_keep (h.out.1.apart HO.out Z27) hk (fun _ h => h.2)) (fun _ _ => trivial)⟩
theorem Rd.ap {w0 w W W1 : World} {g : Nat} {a : ByteArray} {b c d : Int} {v : Value} {xs : List S51} (h : aa (Rd w0 w W g a b c d)) (HL : aa (w0.heap.size ≤ w.heap.size)) (HO : aa (Kd.R k51 51 W w.heap.size (fun _ => True) v xs)) (hb : Below w.heap.size W W1) (hg : W.grownBy W1 v.ownBlock) : aa (Rd w0 w W1 g a b c d) := ⟨h.out.1.grown hg (h.out.1.own_ne HO.out Z27), fL h.out.2.1 HL.out hb, KeepBut.trans h.out.2.2 (KeepBut.of_grown hg g) (Kd.R_base2 HO.out)⟩
def cD.f (s0_0 : ByteArray) (s0_1 : Int) (s0_2 : Int) (s0_3 : Int) (a1 : Int) (a2 : Int) : Option (Int × Bool × ByteArray × Int × Int × Int) := some (0, false, s0_0, s0_1, a1, a2)
theorem cD.calls (g : Nat) (s0_0 : ByteArray) (s0_1 : Int) (s0_2 : Int) (s0_3 : Int) (a1 : Int) (a2 : Int) (r1 : Int) (r2 : Bool) (r3 : ByteArray) (r4 : Int) (r5 : Int) (r6 : Int) (w0 w : World) (hI : IsS164 w0 w g s0_0 s0_1 s0_2 s0_3) (hB : Below w0.heap.size w0 w) (h : cD.f s0_0 s0_1 s0_2 s0_3 a1 a2 = some (r1, r2, r3, r4, r5, r6)) :
  Calls Tryz.prog 167 #[.pointer (some ⟨g, 0, none⟩), .int .i64 a1, .int .i64 a2] w fun e w' => e = .returned (.tuple #[.int .i32 r1, .bool r2]) ∧ IsS164 w0 w' g r3 r4 r5 r6 ∧ Below w0.heap.size w0 w' ∧ KeepBut w w' g none := by
 have hu42 := Tryz.underlying42
 have HI0 := gz hI
 have HK := gz (KeepBut.refl w g none)
 have HL := gz hB.size
 clear hI
 have HW0 := gz hB.size
 have HB := gz hB
 clear hB
 have H : (some (0, false, s0_0, s0_1, a1, a2)) = some (r1, r2, r3, r4, r5, r6) := h
 clear h
 simp only [Option.some.injEq, Prod.mk.injEq] at H
 obtain ⟨rfl, rfl, rfl, rfl, rfl, rfl⟩ := H
 obtain ⟨HGz4, hgz4⟩ := HI0.out
 have hcz4_0 := fy HGz4
 have hcz4_1 := dX HGz4
 have hcz4_2 := gx HGz4
 have hcz4_3 := gw HGz4
 have hfz4_0 := ag HGz4 0
 have hfz4_1 := ag HGz4 1
 have hfz4_2 := ag HGz4 2
 have hfz4_3 := ag HGz4 3
 clear HGz4 hgz4
 go_enter Tryz.func167, Tryz.ntmps167
 go_wp2
 go_ret2
 exact ⟨Z3, Z17, Z21, Z9⟩
def bR.l0 : Nat → ByteArray → Int → Int → Int → Option (ByteArray × Int × Int × Int)
 | 0, _, _, _, _ => none
 | k + 1, x1000, x1001, x1002, x1003 => if 0 ≤ x1001 then (if x1001 ≤ (x1000.size : Int) then ((aY.f (x1000.extract (x1001 : Int).toNat x1000.size) (⟨#[32]⟩ : ByteArray)).bind fun t922 => (if t922 = true then (bR.l0 k x1000 (wrap64 (x1001 + 1)) x1002 x1003) else (some (x1000, x1001, x1002, x1003)))) else (none)) else (none)
def bR.f (k : Nat) (s0_0 : ByteArray) (s0_1 : Int) (s0_2 : Int) (s0_3 : Int) : Option (ByteArray × Int × Int × Int) := bR.l0 k s0_0 s0_1 s0_2 s0_3
theorem bR.calls (k : Nat) (g : Nat) (s0_0 : ByteArray) (s0_1 : Int) (s0_2 : Int) (s0_3 : Int) (r1 : ByteArray) (r2 : Int) (r3 : Int) (r4 : Int) (w0 w : World) (hI : IsS164 w0 w g s0_0 s0_1 s0_2 s0_3) (hB : Below w0.heap.size w0 w) (h : bR.f k s0_0 s0_1 s0_2 s0_3 = some (r1, r2, r3, r4)) :
  Calls Tryz.prog 177 #[.pointer (some ⟨g, 0, none⟩)] w fun e w' => e = .returned (.tuple #[]) ∧ IsS164 w0 w' g r1 r2 r3 r4 ∧ Below w0.heap.size w0 w' ∧ KeepBut w w' g none := by
 have HI0 := gz hI
 have HK := gz (KeepBut.refl w g none)
 have HL := gz hB.size
 clear hI
 have HW0 := gz hB.size
 have HB := gz hB
 clear hB
 have H : (bR.l0 k s0_0 s0_1 s0_2 s0_3) = some (r1, r2, r3, r4) := h
 clear h
 have H' := gz H
 clear H
 go_enter Tryz.func177, Tryz.ntmps177
 go_wp2
 repeat (go_quiet (fail); try go_wp2)
 go_loopg [] k (fun kq w' => ∃ (x1001_1 : Int), aa (bR.l0 kq s0_0 x1001_1 s0_2 s0_3 = some (r1, r2, r3, r4)) ∧ aa (kq ≤ k) ∧ aa (IsS164 w0 w' g s0_0 x1001_1 s0_2 s0_3) ∧ aa (KeepBut w w' g none) ∧ aa (Below w0.heap.size w0 w'))
 case atStart => exact ⟨(s0_1), H', ⟨Nat.le_refl _⟩, ⟨Z17⟩, ⟨Z9⟩, ⟨Z21⟩⟩
 case round =>
  clear H'
  try clear c1
  obtain ⟨x1001_1, HA, HK1, HI0, HK, HB⟩ := hrel
  cases gk with
  | zero => exact absurd HA.out (by simp [bR.l0])
  | succ k1 =>
   have H := HA.out
   clear HA
   simp only [bR.l0] at H
   by_cases c2 : 0 ≤ x1001_1
   ·rw [if_pos c2] at H
    have c2b0 := eq_true c2
    have c2b1 := decide_eq_true c2
    clear c2
    by_cases c3 : x1001_1 ≤ (s0_0.size : Int)
    ·rw [if_pos c3] at H
     have c3b0 := eq_true c3
     have c3b1 := decide_eq_true c3
     clear c3
     replace H := bS H
     obtain ⟨t922, A4, H⟩ := H
     try dsimp only at H
     by_cases c5 : t922 = true
     ·subst c5
      have H1 : (bR.l0 k1 s0_0 (wrap64 (x1001_1 + 1)) s0_2 s0_3) = some (r1, r2, r3, r4) := by rw [if_pos rfl] at H; exact H
      clear H
      have H := H1
      clear H1
      have H' := gz H
      clear H
      obtain ⟨HGz6, hgz6⟩ := HI0.out
      have hcz6_0 := fy HGz6
      have hcz6_1 := dX HGz6
      have hcz6_2 := gx HGz6
      have hcz6_3 := gw HGz6
      have hfz6_0 := ag HGz6 0
      have hfz6_1 := ag HGz6 1
      have hfz6_2 := ag HGz6 2
      have hfz6_3 := ag HGz6 3
      clear HGz6 hgz6
      go_wp2_with (fail)
      repeat (go_quiet (first | (go_at_call 166; (with_reducible refine (aY.calls A4.out).mono ?_); rintro e w' ⟨rfl, ⟨nd, rfl⟩⟩; (try first | exact ⟨rfl, _, World.drewN_drewN _ _ _⟩ | exact ⟨rfl, _, Eq.trans (World.drewN_drewN _ _ _) (congrArg (World.drewN _) (Nat.add_assoc _ _ _))⟩))); try go_wp2_with (fail))
      go_roundg k1
      case measure => have := HK1.out; omega
      case rel => exact ⟨(wrap64 (x1001_1 + 1)), H', ⟨Z22⟩, ⟨Z17⟩, ⟨Z9⟩, ⟨Z21⟩⟩
     ·replace c5 := Bool.eq_false_iff.mpr c5
      subst c5
      have H1 : (some (s0_0, x1001_1, s0_2, s0_3)) = some (r1, r2, r3, r4) := by rw [if_neg (show ¬ (false = true) by decide)] at H; exact H
      clear H
      have H := H1
      clear H1
      simp only [Option.some.injEq, Prod.mk.injEq] at H
      obtain ⟨rfl, rfl, rfl, rfl⟩ := H
      obtain ⟨HGz7, hgz7⟩ := HI0.out
      have hcz7_0 := fy HGz7
      have hcz7_1 := dX HGz7
      have hcz7_2 := gx HGz7
      have hcz7_3 := gw HGz7
      have hfz7_0 := ag HGz7 0
      have hfz7_1 := ag HGz7 1
      have hfz7_2 := ag HGz7 2
      have hfz7_3 := ag HGz7 3
      clear HGz7 hgz7
      go_wp2_with (fail)
      repeat (go_quiet (first | (go_at_call 166; (with_reducible refine (aY.calls A4.out).mono ?_); rintro e w' ⟨rfl, ⟨nd, rfl⟩⟩; (try first | exact ⟨rfl, _, World.drewN_drewN _ _ _⟩ | exact ⟨rfl, _, Eq.trans (World.drewN_drewN _ _ _) (congrArg (World.drewN _) (Nat.add_assoc _ _ _))⟩))); try go_wp2_with (fail))
      first | go_end0 | ((try simp only [Exit.inBlock, Exit.then]); refine bodyPost_ret (results_none rfl _ _ _) rfl ?_)
      exact ⟨Z3, Z17, Z21, Z9⟩
    ·rw [if_neg c3] at H
     exact absurd H Z24
   ·rw [if_neg c2] at H
    exact absurd H Z24
def du.f (a0 : ByteArray) (a1 : Int) : Option (Bool) := if 0 ≤ a1 then (if a1 < 128 then some (decide (0 ≤ Lib.indexByte a0.data.toList a1.toNat.toUInt8)) else none) else none
theorem du.calls {a0 : ByteArray} {a1 : Int} {r : Bool} {w : World} (h : du.f a0 a1 = some r) :
  Calls Tryz.prog 181 #[.string a0, .int .i32 a1] w fun e w' => e = .returned (.bool r) ∧ Drawn0 w w' := by
 unfold du.f at h
 by_cases c1 : 0 ≤ a1
 ·rw [if_pos c1] at h
  by_cases c2 : a1 < 128
  ·rw [if_pos c2] at h
   obtain rfl := Option.some.inj h
   refine (Tryz.strings_ContainsRune_ascii a0 a1 w c1 c2).mono ?_
   rintro e w' ⟨rfl, rfl⟩
   exact ⟨rfl, Drawn0.refl _⟩
  ·rw [if_neg c2] at h; exact absurd h Z24
 ·rw [if_neg c1] at h; exact absurd h Z24
mutual
def ay.j2 : Nat → Int → Int → Int → ByteArray → Int → Int → Int → Option (Int × Bool × ByteArray × Int × Int × Int)
 | 0, _, _, _, _, _, _, _ => none
 | k + 1, x1, x6, x7, x1000, x1001, x1002, x1003 => if x7 = 0 then (ay.j3 k x1 x6 true x1000 x1001 x1002 x1003) else (if 0 ≤ x1001 then (if x1001 ≤ (x1000.size : Int) then ((aY.f (x1000.extract (x1001 : Int).toNat x1000.size) (⟨#[125]⟩ : ByteArray)).bind fun t931 => (ay.j3 k x1 x6 (!t931) x1000 x1001 x1002 x1003)) else (none)) else (none))
def ay.j3 : Nat → Int → Int → Bool → ByteArray → Int → Int → Int → Option (Int × Bool × ByteArray × Int × Int × Int)
 | 0, _, _, _, _, _, _, _ => none
 | k + 1, x1, x6, x101, x1000, x1001, x1002, x1003 => if x101 = true then ((cD.f x1000 x1001 x1002 x1003 5 x1001).bind fun bt932 => (some (bt932.1, bt932.2.1, bt932.2.2.1, bt932.2.2.2.1, bt932.2.2.2.2.1, bt932.2.2.2.2.2))) else (if x6 > 1114111 then ((cD.f x1000 (wrap64 (x1001 + 1)) x1002 x1003 11 x1).bind fun bt938 => (some (bt938.1, bt938.2.1, bt938.2.2.1, bt938.2.2.2.1, bt938.2.2.2.2.1, bt938.2.2.2.2.2))) else (some (wrap32 (x6), true, x1000, wrap64 (x1001 + 1), x1002, x1003)))
def ay.l0 : Nat → Int → Int → Int → ByteArray → Int → Int → Int → Option (Int × Bool × ByteArray × Int × Int × Int)
 | 0, _, _, _, _, _, _, _ => none
 | k + 1, x1, x6, x7, x1000, x1001, x1002, x1003 => if x1001 < (x1000.size : Int) then (ay.j1 k x1 x6 x7 (decide (x7 < 6)) x1000 x1001 x1002 x1003) else (ay.j1 k x1 x6 x7 false x1000 x1001 x1002 x1003)
def ay.j1 : Nat → Int → Int → Int → Bool → ByteArray → Int → Int → Int → Option (Int × Bool × ByteArray × Int × Int × Int)
 | 0, _, _, _, _, _, _, _, _ => none
 | k + 1, x1, x6, x7, x48, x1000, x1001, x1002, x1003 => if x48 = true then (if 0 ≤ x1001 then (if x1001 < (x1000.size : Int) then ((bY.f (⟨#[48, 49, 50, 51, 52, 53, 54, 55, 56, 57, 97, 98, 99, 100, 101, 102]⟩ : ByteArray) (Go.bits .or .u8 (bt x1000 x1001) 32)).bind fun t930 => (if t930 < 0 then (ay.j2 k x1 x6 x7 x1000 x1001 x1002 x1003) else (if (bt x1000 x1001) < 48 then (ay.j2 k x1 x6 x7 x1000 x1001 x1002 x1003) else (ay.l0 k x1 (wrap64 ((wrap64 (16 * x6)) + t930)) (wrap64 (x7 + 1)) x1000 (wrap64 (x1001 + 1)) x1002 x1003)))) else (none)) else (none)) else (ay.j2 k x1 x6 x7 x1000 x1001 x1002 x1003)
end
def ay.f (k : Nat) (s0_0 : ByteArray) (s0_1 : Int) (s0_2 : Int) (s0_3 : Int) (a1 : Int) : Option (Int × Bool × ByteArray × Int × Int × Int) := if 0 ≤ s0_1 then (if s0_1 ≤ (s0_0.size : Int) then ((aY.f (s0_0.extract (s0_1 : Int).toNat s0_0.size) (⟨#[123]⟩ : ByteArray)).bind fun t923 => (if t923 = true then (ay.l0 k a1 0 0 s0_0 (wrap64 (s0_1 + 1)) s0_2 s0_3) else ((cD.f s0_0 s0_1 s0_2 s0_3 5 s0_1).bind fun bt924 => (some (bt924.1, bt924.2.1, bt924.2.2.1, bt924.2.2.2.1, bt924.2.2.2.2.1, bt924.2.2.2.2.2))))) else (none)) else (none)
theorem ay.calls (k : Nat) (g : Nat) (s0_0 : ByteArray) (s0_1 : Int) (s0_2 : Int) (s0_3 : Int) (a1 : Int) (r1 : Int) (r2 : Bool) (r3 : ByteArray) (r4 : Int) (r5 : Int) (r6 : Int) (w0 w : World) (hI : IsS164 w0 w g s0_0 s0_1 s0_2 s0_3) (hB : Below w0.heap.size w0 w) (h : ay.f k s0_0 s0_1 s0_2 s0_3 a1 = some (r1, r2, r3, r4, r5, r6)) :
  Calls Tryz.prog 182 #[.pointer (some ⟨g, 0, none⟩), .int .i64 a1] w fun e w' => e = .returned (.tuple #[.int .i32 r1, .bool r2]) ∧ IsS164 w0 w' g r3 r4 r5 r6 ∧ Below w0.heap.size w0 w' ∧ KeepBut w w' g none := by
 have HR : aa (Rd w0 w w g s0_0 s0_1 s0_2 s0_3) := ⟨hI, hB, KeepBut.refl w g none⟩
 clear hI hB
 unfold ay.f at h
 by_cases h0 : 0 ≤ s0_1
 case neg => rw [if_neg h0] at h; cases h
 rw [if_pos h0] at h
 by_cases h1 : s0_1 ≤ (s0_0.size : Int)
 case neg => rw [if_neg h1] at h; cases h
 rw [if_pos h1] at h
 obtain ⟨t, A3, h⟩ := cC h
 have A3 := gz A3
 obtain ⟨p0, p1, p2, p3, z0, z1⟩ := Rd.cs HR
 go_enter Tryz.func182, Tryz.ntmps182
 replace h := gz h
 go_wp2_with fail
 go_quiet (first | (go_at_call 166; (with_reducible refine (aY.calls A3.out).mono ?_); rintro e w' ⟨rfl, ⟨nd, rfl⟩⟩; first | exact ⟨rfl, _, World.drewN_drewN _ _ _⟩ | exact ⟨rfl, _, Eq.trans (World.drewN_drewN _ _ _) (congrArg (World.drewN _) (Nat.add_assoc _ _ _))⟩))
 replace HR := Rd.dr HR nq
 replace h := h.out
 cases t with
 | false =>
  rw [if_neg Z24] at h
  obtain ⟨⟨y1, y2, y3, y4, y5, y6⟩, A4, h⟩ := cC h
  simp only [Option.some.injEq, Prod.mk.injEq] at h
  obtain ⟨rfl, rfl, rfl, rfl, rfl, rfl⟩ := h
  have A4 := gz A4
  go_wp2_with fail
  refine (cD.calls g _ _ _ _ _ _ y1 y2 y3 y4 y5 y6 w0 _ HR.out.1 HR.out.2.1 A4.out).mono ?_
  rintro e w1 ⟨rfl, hi⟩
  replace HR := Rd.call HR hi
  clear hi
  go_wp2
  go_ret2
  exact ⟨rfl, HR.out⟩
 | true =>
 rw [if_pos rfl] at h
 have H := gz h
 clear h
 go_upto_block 0 with (fail)
 replace HR := Rd.set HR (wrap64 (s0_1 + 1))
 clear p0 p1 p2 p3 z0 z1 h0 h1
 generalize World.setCell _ _ _ = W at HR ⊢
 go_cut [6, 7] (fun v6 v7 wc => ∃ (n i : Int) (kq : Nat) (a : ByteArray) (b c d : Int), v6 = .int .i64 n ∧ v7 = .int .i64 i ∧ aa (ay.j2 kq a1 n i a b c d = some (r1, r2, r3, r4, r5, r6)) ∧ aa (Rd w0 w wc g a b c d))
 case first =>
  go_wp2_with fail
  go_loopg [6, 7] k (fun kq v6 v7 wr => ∃ (n i : Int) (a : ByteArray) (b c d : Int), v6 = .int .i64 n ∧ v7 = .int .i64 i ∧ aa (ay.l0 kq a1 n i a b c d = some (r1, r2, r3, r4, r5, r6)) ∧ aa (kq ≤ k) ∧ aa (Rd w0 w wr g a b c d))
  case atStart => exact ⟨0, 0, _, _, _, _, rfl, rfl, H, ⟨Nat.le_refl _⟩, HR⟩
  case round =>
   clear H HR
   obtain ⟨n, i, a, b, c, d, rfl, rfl, HA, HK, HR⟩ := hrel
   cases gk with
   | zero => exact absurd HA.out (by simp [ay.l0])
   | succ k1 =>
   have h := HA.out
   clear HA
   simp only [ay.l0] at h
   obtain ⟨p0, p1, p2, p3, z0, z1⟩ := Rd.cs HR
   obtain ⟨k2, rfl⟩ : ∃ m, k1 = m + 1 := by
    cases k1 with
    | zero => simp [ay.j1] at h
    | succ m => exact ⟨m, rfl⟩
   by_cases c0 : b < (a.size : Int)
   case neg =>
    rw [if_neg c0] at h
    simp only [ay.j1, if_neg (show ¬ false = true by decide)] at h
    have d0 := decide_eq_false c0
    replace h := gz h
    go_wp2_with fail
    go_quiet (fail)
    go_wp2
    go_meet
    case rel => exact ⟨n, i, k2, a, b, c, d, rfl, rfl, h, Rd.dr HR nq⟩
   rw [if_pos c0] at h
   have d0 := decide_eq_true c0
   by_cases c6 : i < 6
   case neg =>
    have d6 := decide_eq_false c6
    rw [d6] at h
    simp only [ay.j1, if_neg (show ¬ false = true by decide)] at h
    replace h := gz h
    go_wp2_with fail
    go_quiet (fail)
    go_wp2
    go_meet
    case rel => exact ⟨n, i, k2, a, b, c, d, rfl, rfl, h, Rd.dr HR nq⟩
   have d6 := decide_eq_true c6
   rw [d6] at h
   simp only [ay.j1, if_true, Option.ite_none_right_eq_some] at h
   obtain ⟨h0, _, h⟩ := h
   obtain ⟨t, A, h⟩ := cC h
   have A := gz A
   have hx := bt_at a b
   replace h := gz h
   go_wp2_with fail
   go_quiet (fail)
   replace HR := Rd.dr HR nq
   go_wp2_with fail
   go_quiet (first | (go_at_call 74; (with_reducible refine (bY.calls A.out).mono ?_); rintro e w' ⟨rfl, ⟨nd, rfl⟩⟩; first | exact ⟨rfl, _, World.drewN_drewN _ _ _⟩ | exact ⟨rfl, _, Eq.trans (World.drewN_drewN _ _ _) (congrArg (World.drewN _) (Nat.add_assoc _ _ _))⟩))
   replace HR := Rd.dr HR nq
   replace h := h.out
   by_cases ct : t < 0
   ·rw [if_pos ct] at h
    have dt := decide_eq_true ct
    replace h := gz h
    go_wp2_with fail
    go_quiet (fail)
    go_wp2
    go_meet
    case rel => exact ⟨n, i, k2, a, b, c, d, rfl, rfl, h, Rd.dr HR nq⟩
   rw [if_neg ct] at h
   have dt := decide_eq_false ct
   by_cases cb : bt a b < 48
   ·rw [if_pos cb] at h
    have db := decide_eq_true cb
    replace h := gz h
    go_wp2_with fail
    go_quiet (fail)
    go_wp2
    go_meet
    case rel => exact ⟨n, i, k2, a, b, c, d, rfl, rfl, h, by simpa only [World.drewN_drewN] using Rd.dr HR nq⟩
   rw [if_neg cb] at h
   have db := decide_eq_false cb
   replace h := gz h
   go_wp2_with fail
   go_quiet (fail)
   go_wp2
   go_roundg k2
   case measure => have := HK.out; omega
   case rel => exact ⟨_, _, a, _, c, d, rfl, rfl, h, ⟨Z20⟩, by simpa only [World.drewN_drewN] using Rd.set (Rd.dr HR nq) (wrap64 (b + 1))⟩
 case rest =>
  clear H HR
  obtain ⟨n, i, kq, a, b, c, d, rfl, rfl, h, HR⟩ := hcut
  replace h := h.out
  obtain ⟨p0, p1, p2, p3, z0, z1⟩ := Rd.cs HR
  obtain ⟨m, rfl⟩ : ∃ m, kq = m + 1 := by
   cases kq with
   | zero => simp [ay.j2] at h
   | succ m => exact ⟨m, rfl⟩
  simp only [ay.j2] at h
  obtain ⟨m, rfl⟩ : ∃ q, m = q + 1 := by
   cases m with
   | zero =>
    split at h
    ·simp [ay.j3] at h
    ·simp only [Option.ite_none_right_eq_some] at h
     obtain ⟨_, _, h⟩ := h
     obtain ⟨_, _, h⟩ := cC h
     simp [ay.j3] at h
   | succ m => exact ⟨m, rfl⟩
  by_cases ci : i = 0
  ·rw [if_pos ci] at h
   simp only [ay.j3, if_true] at h
   have di := e1 ci
   have h' := gz h
   clear ci h
   go_wp2_with fail
   go_quiet (fail)
   replace HR := Rd.dr HR nq
   have h := h'.out
   clear h'
   obtain ⟨⟨y1, y2, y3, y4, y5, y6⟩, A4, h⟩ := cC h
   simp only [Option.some.injEq, Prod.mk.injEq] at h
   obtain ⟨rfl, rfl, rfl, rfl, rfl, rfl⟩ := h
   have A4 := gz A4
   go_wp2_with fail
   refine (cD.calls g _ _ _ _ _ _ y1 y2 y3 y4 y5 y6 w0 _ HR.out.1 HR.out.2.1 A4.out).mono ?_
   rintro e w1 ⟨rfl, hi⟩
   replace HR := Rd.call HR hi
   clear hi
   go_wp2
   go_ret2
   exact ⟨rfl, HR.out⟩
  rw [if_neg ci] at h
  have di := e3 ci
  simp only [Option.ite_none_right_eq_some] at h
  obtain ⟨h0, h1, h⟩ := h
  obtain ⟨t, A, h⟩ := cC h
  have A := gz A
  replace h := gz h
  clear ci
  go_wp2_with fail
  go_quiet (first | (go_at_call 166; (with_reducible refine (aY.calls A.out).mono ?_); rintro e w' ⟨rfl, ⟨nd, rfl⟩⟩; first | exact ⟨rfl, _, World.drewN_drewN _ _ _⟩ | exact ⟨rfl, _, Eq.trans (World.drewN_drewN _ _ _) (congrArg (World.drewN _) (Nat.add_assoc _ _ _))⟩))
  replace HR := Rd.dr HR nq
  replace h := h.out
  cases t with
  | false =>
   simp only [ay.j3, Bool.not_false, if_true] at h
   obtain ⟨⟨y1, y2, y3, y4, y5, y6⟩, A4, h⟩ := cC h
   simp only [Option.some.injEq, Prod.mk.injEq] at h
   obtain ⟨rfl, rfl, rfl, rfl, rfl, rfl⟩ := h
   have A4 := gz A4
   go_wp2_with fail
   refine (cD.calls g _ _ _ _ _ _ y1 y2 y3 y4 y5 y6 w0 _ HR.out.1 HR.out.2.1 A4.out).mono ?_
   rintro e w1 ⟨rfl, hi⟩
   replace HR := Rd.call HR hi
   clear hi
   go_wp2
   go_ret2
   exact ⟨rfl, HR.out⟩
  | true =>
  simp only [ay.j3, Bool.not_true, if_neg (show ¬ false = true by decide)] at h
  by_cases cn : n > 1114111
  ·rw [if_pos cn] at h
   have dn : decide (1114111 < n) = true := decide_eq_true cn
   clear cn
   replace HR := Rd.set HR (wrap64 (b + 1))
   obtain ⟨⟨y1, y2, y3, y4, y5, y6⟩, A4, h⟩ := cC h
   simp only [Option.some.injEq, Prod.mk.injEq] at h
   obtain ⟨rfl, rfl, rfl, rfl, rfl, rfl⟩ := h
   have A4 := gz A4
   go_wp2_with fail
   refine (cD.calls g _ _ _ _ _ _ y1 y2 y3 y4 y5 y6 w0 _ HR.out.1 HR.out.2.1 A4.out).mono ?_
   rintro e w1 ⟨rfl, hi⟩
   replace HR := Rd.call HR hi
   clear hi
   go_wp2
   go_ret2
   exact ⟨rfl, HR.out⟩
  rw [if_neg cn] at h
  have dn : decide (1114111 < n) = false := decide_eq_false cn
  clear cn
  simp only [Option.some.injEq, Prod.mk.injEq] at h
  obtain ⟨rfl, rfl, rfl, rfl, rfl, rfl⟩ := h
  replace HR := Rd.set HR (wrap64 (b + 1))
  go_wp2
  go_ret2
  exact ⟨rfl, HR.out⟩
theorem bE.bt_eq (s : ByteArray) (i : Int) (h : i.toNat < s.size) : bt s i = ((s[i.toNat]'h).toNat : Int) := by simp [bt, h]
theorem bE.next_ascii (s : ByteArray) (a : Int) (h0 : 0 ≤ a) (h1 : a < (s.size : Int)) (h2 : bt s a < 128) : fq.f s a = some (bt s a, 1, true) := by
 have hn : a.toNat < s.size := by omega
 have hz : 0 < (s.extract a.toNat s.size).size := by simp; omega
 have hg : ((s.extract a.toNat s.size)[0]'hz) = s[a.toNat]'hn := by
  rw [ByteArray.getElem_extract]; simp
 have hb := bE.bt_eq s a hn
 have hd : Utf8.decode (s.extract a.toNat s.size) 0 = ((s[a.toNat]'hn).toNat, 1) := by
  rw [decode_ascii _ 0 hz (by rw [hg]; omega), hg]
 have he : (Utf8.encode (((s[a.toNat]'hn).toNat : Nat) : Int)).size = 1 := by
  obtain ⟨n, hn'⟩ : ∃ n, (s[a.toNat]'hn).toNat = n := ⟨_, rfl⟩
  rw [hn'] at hb ⊢
  have hlt : n < 128 := by omega
  have : ∀ n : Nat, n < 128 → (Utf8.encode ((n : Nat) : Int)).size = 1 := by decide +kernel
  exact this n hlt
 unfold fq.f
 rw [if_neg Z8, if_neg Z8, hd]
 dsimp only
 rw [if_neg Z8, he, ← hb]
 rfl
def bE.f (k : Nat) (s : ByteArray) (a : Int) (f2 f3 : Int) : Option (Int × Bool × ByteArray × Int × Int × Int) :=
 if 0 ≤ a then (if a < (s.size : Int) then (if (s.size : Int) < 4611686018427387904 then
  (if 33 ≤ bt s a ∧ bt s a ≤ 126 ∧ bt s a ≠ 91 ∧ bt s a ≠ 93 ∧ bt s a ≠ 45 ∧ bt s a ≠ 34 then
   (if bt s a = 92 then (if a + 1 < (s.size : Int) then
    (if bt s (a + 1) = 91 ∨ bt s (a + 1) = 93 ∨ bt s (a + 1) = 45 ∨ bt s (a + 1) = 94 ∨ bt s (a + 1) = 34 ∨ bt s (a + 1) = 92 then some (bt s (a + 1), true, s, a + 2, f2, f3)
    else if bt s (a + 1) = 110 then some (10, true, s, a + 2, f2, f3)
    else if bt s (a + 1) = 116 then some (9, true, s, a + 2, f2, f3)
    else if bt s (a + 1) = 114 then some (13, true, s, a + 2, f2, f3)
    else if bt s (a + 1) = 117 then ay.f k s (a + 2) f2 f3 a else none) else none)
   else some (bt s a, true, s, a + 1, f2, f3)) else none) else none) else none) else none
theorem bE.cr_no (c : Int) (w : World) (h0 : 33 ≤ c) (h1 : c ≤ 126) (h : c ≠ 91 ∧ c ≠ 93 ∧ c ≠ 45 ∧ c ≠ 34) : Calls Tryz.prog 181 #[.string ⟨#[91, 93, 45, 34]⟩, .int .i32 c] w fun e w' => e = .returned (.bool false) ∧ Drawn0 w w' := by
 refine du.calls ?_
 unfold du.f
 rw [if_pos Z8, if_pos Z8]
 obtain ⟨n, rfl⟩ : ∃ n : Nat, c = n := ⟨c.toNat, Z8⟩
 have : ∀ n : Nat, n < 127 → n ≠ 91 ∧ n ≠ 93 ∧ n ≠ 45 ∧ n ≠ 34 → decide (0 ≤ Lib.indexByte [91, 93, 45, 34] n.toUInt8) = false := by decide +kernel
 exact congrArg some (this n Z8 Z8)
set_option maxHeartbeats 4000000 in
theorem bE.calls (k : Nat) (g : Nat) (s0_0 : ByteArray) (s0_1 : Int) (s0_2 : Int) (s0_3 : Int) (r1 : Int) (r2 : Bool) (r3 : ByteArray) (r4 : Int) (r5 : Int) (r6 : Int) (w0 w : World) (hI : IsS164 w0 w g s0_0 s0_1 s0_2 s0_3) (hB : Below w0.heap.size w0 w) (h : bE.f k s0_0 s0_1 s0_2 s0_3 = some (r1, r2, r3, r4, r5, r6)) :
  Calls Tryz.prog 178 #[.pointer (some ⟨g, 0, none⟩)] w fun e w' => e = .returned (.tuple #[.int .i32 r1, .bool r2]) ∧ IsS164 w0 w' g r3 r4 r5 r6 ∧ Below w0.heap.size w0 w' ∧ KeepBut w w' g none := by
 unfold bE.f at h
 by_cases c0 : 0 ≤ s0_1
 rotate_left
 ·rw [if_neg c0] at h; exact absurd h Z24
 rw [if_pos c0] at h
 by_cases c1 : s0_1 < (s0_0.size : Int)
 rotate_left
 ·rw [if_neg c1] at h; exact absurd h Z24
 rw [if_pos c1] at h
 by_cases c2 : (s0_0.size : Int) < 4611686018427387904
 rotate_left
 ·rw [if_neg c2] at h; exact absurd h Z24
 rw [if_pos c2] at h
 obtain ⟨c, hc⟩ : ∃ c, bt s0_0 s0_1 = c := ⟨_, rfl⟩
 rw [hc] at h
 by_cases c3 : 33 ≤ c ∧ c ≤ 126 ∧ c ≠ 91 ∧ c ≠ 93 ∧ c ≠ 45 ∧ c ≠ 34
 rotate_left
 ·rw [if_neg c3] at h; exact absurd h Z24
 rw [if_pos c3] at h
 have A1 := gz (bE.next_ascii s0_0 s0_1 c0 c1 Z8)
 rw [hc] at A1
 have A2 := gz (fun w => bE.cr_no c w c3.1 c3.2.1 c3.2.2)
 have d1 : decide (c ≤ 32) = false := decide_eq_false Z8
 have d2 : (c == 127) = false := beq_eq_false_iff_ne.2 Z8
 have HI0 := gz hI
 have HB := gz hB
 obtain ⟨HG, hg⟩ := hI
 have hc0 := fy HG
 have hc1 := dX HG
 have hgw : g < w.heap.size := bB HG
 clear hB HG
 have c3 := gz c3
 go_enter Tryz.func178, Tryz.ntmps178
 go_wp2
 go_region_held3 (fun w' => w'.cell? ⟨g, 0, none⟩ = some (.string s0_0) ∧ w'.cell? ⟨g, 1, none⟩ = some (.int .i64 s0_1)) (go_keep) ((go_at_call 152; refine (fq.calls A1.out).mono ?_; rintro e1 w1 ⟨rfl, hd1⟩; have q0 := hd1.cell (p := ⟨g, 0, none⟩) (by simpa using hgw); have q1 := hd1.cell (p := ⟨g, 1, none⟩) (by simpa using hgw)))
 clear q0 q1
 replace hd1 : Below w.heap.size w w1 := ⟨hd1.os, hd1.tape, hd1.output, hd1.size, hd1.block⟩
 have I1 := gz (HI0.out.below hd1)
 have K1 := gz (KeepBut.of_below hd1 g none)
 have B1 := gz (fL HB.out HB.out.size hd1)
 clear hd1 hc0 hc1 HI0 HB A1 hgw
 have hx0 := fy I1.out.1
 have hx1 := dX I1.out.1
 have hf0 := ag I1.out.1 0
 have hf1 := ag I1.out.1 1
 by_cases c4 : c = 92
 ·subst c4
  rw [if_pos rfl] at h
  by_cases c5 : s0_1 + 1 < (s0_0.size : Int)
  rotate_left
  ·rw [if_neg c5] at h; exact absurd h Z24
  rw [if_pos c5] at h
  have e1 : decide ((s0_0.size : Int) ≤ s0_1 + 1) = false := decide_eq_false Z8
  obtain ⟨d, hd⟩ : ∃ d, bt s0_0 (s0_1 + 1) = d := ⟨_, rfl⟩
  have hdr := bt_range s0_0 (s0_1 + 1)
  have hbe := bE.bt_eq s0_0 (s0_1 + 1) Z8
  rw [hd] at h hdr hbe
  go_wp2_with (go_at_call 181; refine (A2.out _).mono ?_; rintro e2 w2 ⟨rfl, ⟨nd, rfl⟩⟩)
  go_quiet (fail)
  generalize nq = nq1
  go_wp2
  have e2 : (0 : Int) ≤ s0_1 + 1 := by omega
  go_quiet (fail)
  simp only [← hbe]
  have hw := gz (show wrap32 d = d by unfold wrap32; omega)
  clear hbe hdr hd
  have I2 : IsS164 w0 ((((w1.drewN nd).setCell { block := g, off := 1 } (Value.int IntKind.i64 (s0_1 + 1))).drewN nq1).drewN nq) g s0_0 (s0_1 + 1) s0_2 s0_3 := (((I1.out.drewN nd).set_1 _).drewN _).drewN _
  have B2 : Below w0.heap.size w0 ((((w1.drewN nd).setCell { block := g, off := 1 } (Value.int IntKind.i64 (s0_1 + 1))).drewN nq1).drewN nq) := aC (aC (cx (aC B1.out nd) I1.out.2) _) _
  have K2 : KeepBut w ((((w1.drewN nd).setCell { block := g, off := 1 } (Value.int IntKind.i64 (s0_1 + 1))).drewN nq1).drewN nq) g none := fP (fP ((fP K1.out nd).set_ _ _) _) _
  clear hx0 hx1 hf0 hf1 I1 B1 K1
  generalize ((((w1.drewN nd).setCell { block := g, off := 1 } (Value.int IntKind.i64 (s0_1 + 1))).drewN nq1).drewN nq) = W2 at I2 B2 K2 ⊢
  have hx0 := fy I2.1
  have hx1 := dX I2.1
  have hf1 := ag I2.1 1
  replace I2 := gz I2
  replace B2 := gz B2
  replace K2 := gz K2
  by_cases k1 : d = 91 ∨ d = 93 ∨ d = 45 ∨ d = 94 ∨ d = 34 ∨ d = 92
  ·rw [if_pos k1] at h
   simp only [Option.some.injEq, Prod.mk.injEq] at h
   obtain ⟨rfl, rfl, rfl, rfl, rfl, rfl⟩ := h
   rcases k1 with k1 | k1 | k1 | k1 | k1 | k1
   ·have q91 : (d == 91) = true := beq_iff_eq.2 Z8
    clear k1
    go_wp2
    go_ret2
    exact ⟨congrArg (fun x => Ending.returned (.tuple #[.int .i32 x, .bool true])) hw.out, Z23, cx B2.out I2.out.2, K2.out.set_ _ _⟩
   ·have q91 : (d == 91) = false := beq_eq_false_iff_ne.2 Z8
    have q93 : (d == 93) = true := beq_iff_eq.2 Z8
    clear k1
    go_wp2
    go_ret2
    exact ⟨congrArg (fun x => Ending.returned (.tuple #[.int .i32 x, .bool true])) hw.out, Z23, cx B2.out I2.out.2, K2.out.set_ _ _⟩
   ·have q91 : (d == 91) = false := beq_eq_false_iff_ne.2 Z8
    have q93 : (d == 93) = false := beq_eq_false_iff_ne.2 Z8
    have q45 : (d == 45) = true := beq_iff_eq.2 Z8
    clear k1
    go_wp2
    go_ret2
    exact ⟨congrArg (fun x => Ending.returned (.tuple #[.int .i32 x, .bool true])) hw.out, Z23, cx B2.out I2.out.2, K2.out.set_ _ _⟩
   ·have q91 : (d == 91) = false := beq_eq_false_iff_ne.2 Z8
    have q93 : (d == 93) = false := beq_eq_false_iff_ne.2 Z8
    have q45 : (d == 45) = false := beq_eq_false_iff_ne.2 Z8
    have q94 : (d == 94) = true := beq_iff_eq.2 Z8
    clear k1
    go_wp2
    go_ret2
    exact ⟨congrArg (fun x => Ending.returned (.tuple #[.int .i32 x, .bool true])) hw.out, Z23, cx B2.out I2.out.2, K2.out.set_ _ _⟩
   ·have q91 : (d == 91) = false := beq_eq_false_iff_ne.2 Z8
    have q93 : (d == 93) = false := beq_eq_false_iff_ne.2 Z8
    have q45 : (d == 45) = false := beq_eq_false_iff_ne.2 Z8
    have q94 : (d == 94) = false := beq_eq_false_iff_ne.2 Z8
    have q34 : (d == 34) = true := beq_iff_eq.2 Z8
    clear k1
    go_wp2
    go_ret2
    exact ⟨congrArg (fun x => Ending.returned (.tuple #[.int .i32 x, .bool true])) hw.out, Z23, cx B2.out I2.out.2, K2.out.set_ _ _⟩
   ·have q91 : (d == 91) = false := beq_eq_false_iff_ne.2 Z8
    have q93 : (d == 93) = false := beq_eq_false_iff_ne.2 Z8
    have q45 : (d == 45) = false := beq_eq_false_iff_ne.2 Z8
    have q94 : (d == 94) = false := beq_eq_false_iff_ne.2 Z8
    have q34 : (d == 34) = false := beq_eq_false_iff_ne.2 Z8
    have q92 : (d == 92) = true := beq_iff_eq.2 Z8
    clear k1
    go_wp2
    go_ret2
    exact ⟨congrArg (fun x => Ending.returned (.tuple #[.int .i32 x, .bool true])) hw.out, Z23, cx B2.out I2.out.2, K2.out.set_ _ _⟩
  rw [if_neg k1] at h
  have q91 : (d == 91) = false := beq_eq_false_iff_ne.2 Z8
  have q93 : (d == 93) = false := beq_eq_false_iff_ne.2 Z8
  have q45 : (d == 45) = false := beq_eq_false_iff_ne.2 Z8
  have q94 : (d == 94) = false := beq_eq_false_iff_ne.2 Z8
  have q34 : (d == 34) = false := beq_eq_false_iff_ne.2 Z8
  have q92 : (d == 92) = false := beq_eq_false_iff_ne.2 Z8
  clear k1
  by_cases k2 : d = 110
  ·rw [if_pos k2] at h
   simp only [Option.some.injEq, Prod.mk.injEq] at h
   obtain ⟨rfl, rfl, rfl, rfl, rfl, rfl⟩ := h
   have q110 : (d == 110) = true := beq_iff_eq.2 Z8
   clear k2
   go_wp2
   go_ret2
   exact ⟨rfl, Z23, cx B2.out I2.out.2, K2.out.set_ _ _⟩
  rw [if_neg k2] at h
  have q110 : (d == 110) = false := beq_eq_false_iff_ne.2 Z8
  clear k2
  by_cases k2 : d = 116
  ·rw [if_pos k2] at h
   simp only [Option.some.injEq, Prod.mk.injEq] at h
   obtain ⟨rfl, rfl, rfl, rfl, rfl, rfl⟩ := h
   have q116 : (d == 116) = true := beq_iff_eq.2 Z8
   clear k2
   go_wp2
   go_ret2
   exact ⟨rfl, Z23, cx B2.out I2.out.2, K2.out.set_ _ _⟩
  rw [if_neg k2] at h
  have q116 : (d == 116) = false := beq_eq_false_iff_ne.2 Z8
  clear k2
  by_cases k2 : d = 114
  ·rw [if_pos k2] at h
   simp only [Option.some.injEq, Prod.mk.injEq] at h
   obtain ⟨rfl, rfl, rfl, rfl, rfl, rfl⟩ := h
   have q114 : (d == 114) = true := beq_iff_eq.2 Z8
   clear k2
   go_wp2
   go_ret2
   exact ⟨rfl, Z23, cx B2.out I2.out.2, K2.out.set_ _ _⟩
  rw [if_neg k2] at h
  have q114 : (d == 114) = false := beq_eq_false_iff_ne.2 Z8
  clear k2
  by_cases k2 : d = 117
  ·rw [if_pos k2] at h
   have q117 : (d == 117) = true := beq_iff_eq.2 Z8
   clear k2
   have I3 := gz (show IsS164 w0 (W2.setCell { block := g, off := 1 } (Value.int IntKind.i64 (s0_1 + 1 + 1))) g s0_0 (s0_1 + 2) s0_2 s0_3 from by rw [show s0_1 + 2 = s0_1 + 1 + 1 by omega]; exact I2.out.set_1 _)
   have B3 := gz (cx (j := 1) (v := Value.int IntKind.i64 (s0_1 + 1 + 1)) B2.out I2.out.2)
   have h := gz h
   go_wp2_with (go_at_call 182; refine (ay.calls k g s0_0 (s0_1 + 2) s0_2 s0_3 s0_1 r1 r2 r3 r4 r5 r6 w0 _ I3.out B3.out h.out).mono ?_; rintro e3 w3 ⟨rfl, hI3, hB3, hK3⟩)
   go_ret2
   exact ⟨rfl, hI3, hB3, (K2.out.set_ _ _).trans hK3 (.inl rfl)⟩
  ·rw [if_neg k2] at h
   exact absurd h Z24
 ·rw [if_neg c4] at h
  simp only [Option.some.injEq, Prod.mk.injEq] at h
  obtain ⟨rfl, rfl, rfl, rfl, rfl, rfl⟩ := h
  have c4b : (c != 92) = true := bne_iff_ne.2 c4
  go_wp2_with (go_at_call 181; refine (A2.out _).mono ?_; rintro e2 w2 ⟨rfl, ⟨nd, rfl⟩⟩)
  go_ret2
  exact ⟨rfl, (I1.out.drewN nd).set_1 _, cx (aC B1.out nd) I1.out.2, (fP K1.out nd).set_ _ _⟩
def bF.l0 : Nat → List (S51) → ByteArray → Int → Int → Int → Option ((List (S51)) × ByteArray × Int × Int × Int)
 | 0, _, _, _, _, _ => none
 | k + 1, x3, x1000, x1001, x1002, x1003 => (bR.f k x1000 x1001 x1002 x1003).bind fun bt944 => (if 0 ≤ bt944.2.1 then (if bt944.2.1 ≤ (bt944.1.size : Int) then ((aY.f (bt944.1.extract (bt944.2.1 : Int).toNat bt944.1.size) (⟨#[93]⟩ : ByteArray)).bind fun t948 => (if t948 = true then (some (x3, bt944.1, wrap64 (bt944.2.1 + 1), bt944.2.2.1, bt944.2.2.2)) else ((bE.f k bt944.1 bt944.2.1 bt944.2.2.1 bt944.2.2.2).bind fun bt949 => (if bt949.2.1 = true then (if 0 ≤ bt949.2.2.2.1 then (if bt949.2.2.2.1 ≤ (bt949.2.2.1.size : Int) then ((aY.f (bt949.2.2.1.extract (bt949.2.2.2.1 : Int).toNat bt949.2.2.1.size) (⟨#[45]⟩ : ByteArray)).bind fun t955 => (if t955 = true then ((bE.f k bt949.2.2.1 (wrap64 (bt949.2.2.2.1 + 1)) bt949.2.2.2.2.1 bt949.2.2.2.2.2).bind fun bt956 => (if bt956.2.1 = true then (if bt949.1 > bt956.1 then ((cD.f bt956.2.2.1 bt956.2.2.2.1 bt956.2.2.2.2.1 bt956.2.2.2.2.2 1 bt944.2.1).bind fun bt962 => (some (([] : List (S51)), bt962.2.2.1, bt962.2.2.2.1, bt962.2.2.2.2.1, bt962.2.2.2.2.2))) else (if x3.length < 17592186044416 then (bF.l0 k (x3 ++ [(⟨bt949.1, bt956.1⟩ : S51)]) bt956.2.2.1 bt956.2.2.2.1 bt956.2.2.2.2.1 bt956.2.2.2.2.2) else (none))) else (some (([] : List (S51)), bt956.2.2.1, bt956.2.2.2.1, bt956.2.2.2.2.1, bt956.2.2.2.2.2)))) else (if x3.length < 17592186044416 then (bF.l0 k (x3 ++ [(⟨bt949.1, bt949.1⟩ : S51)]) bt949.2.2.1 bt949.2.2.2.1 bt949.2.2.2.2.1 bt949.2.2.2.2.2) else (none)))) else (none)) else (none)) else (some (([] : List (S51)), bt949.2.2.1, bt949.2.2.2.1, bt949.2.2.2.2.1, bt949.2.2.2.2.2)))))) else (none)) else (none))
def bF.f (k : Nat) (s0_0 : ByteArray) (s0_1 : Int) (s0_2 : Int) (s0_3 : Int) : Option ((List (S51)) × ByteArray × Int × Int × Int) := bF.l0 k ([] : List (S51)) s0_0 s0_1 s0_2 s0_3
theorem bF.calls (k : Nat) (g : Nat) (s0_0 : ByteArray) (s0_1 : Int) (s0_2 : Int) (s0_3 : Int) (r1 : List (S51)) (r2 : ByteArray) (r3 : Int) (r4 : Int) (r5 : Int) (w0 w : World) (hI : IsS164 w0 w g s0_0 s0_1 s0_2 s0_3) (hB : Below w0.heap.size w0 w) (h : bF.f k s0_0 s0_1 s0_2 s0_3 = some (r1, r2, r3, r4, r5)) :
  Calls Tryz.prog 168 #[.pointer (some ⟨g, 0, none⟩)] w fun e w' => ∃ v0_ : Value, e = .returned (v0_) ∧ Kd.R k51 51 w' w.heap.size (fun _ => True) v0_ r1 ∧ IsS164 w0 w' g r2 r3 r4 r5 ∧ Below w0.heap.size w0 w' ∧ KeepBut w w' g none := by
 have HR : aa (Rd w0 w w g s0_0 s0_1 s0_2 s0_3) := ⟨hI, hB, KeepBut.refl w g none⟩
 have HL := gz hB.size
 have H := gz h
 clear hI hB h
 unfold bF.f at H
 go_enter Tryz.func168, Tryz.ntmps168
 go_wp2_with fail
 go_loopg [3] k (fun kq v3 W => ∃ (xs : List S51) (a : ByteArray) (b c d : Int), aa (bF.l0 kq xs a b c d = some (r1, r2, r3, r4, r5)) ∧ aa (kq ≤ k) ∧ aa (Kd.R k51 51 W w.heap.size (fun _ => True) v3 xs) ∧ aa (Rd w0 w W g a b c d))
 case atStart => exact ⟨_, _, _, _, _, H, ⟨Nat.le_refl _⟩, ⟨Kd.R_nil _ _ _ _ _⟩, HR⟩
 case round =>
  clear H HR
  obtain ⟨xs, a, b, c, d, HA, HK, HO, HR⟩ := hrel
  cases gk with
  | zero => exact absurd HA.out (by simp [bF.l0])
  | succ k1 =>
  have h := HA.out
  clear HA
  simp only [bF.l0] at h
  obtain ⟨⟨a1, b1, c1, d1⟩, A2, h⟩ := cC h
  dsimp only at h
  have A2 := gz A2
  by_cases h0 : 0 ≤ b1
  case neg => rw [if_neg h0] at h; cases h
  rw [if_pos h0] at h
  by_cases h1 : b1 ≤ (a1.size : Int)
  case neg => rw [if_neg h1] at h; cases h
  rw [if_pos h1] at h
  obtain ⟨t, A3, h⟩ := cC h
  have A3 := gz A3
  replace h := gz h
  go_wp2_with fail
  refine (bR.calls k1 g _ _ _ _ a1 b1 c1 d1 w0 _ HR.out.1 HR.out.2.1 A2.out).mono ?_
  rintro e w1 ⟨rfl, hi⟩
  replace HO := Rd.row HR HO hi.2.2
  replace HR := Rd.call HR hi
  clear hi
  obtain ⟨p_0, p_1, p_2, p_3, p_4, p_5⟩ := Rd.cs HR
  go_wp2_with fail
  go_quiet (first | (go_at_call 166; (with_reducible refine (aY.calls A3.out).mono ?_); rintro e w' ⟨rfl, ⟨nd, rfl⟩⟩; first | exact ⟨rfl, _, World.drewN_drewN _ _ _⟩ | exact ⟨rfl, _, Eq.trans (World.drewN_drewN _ _ _) (congrArg (World.drewN _) (Nat.add_assoc _ _ _))⟩))
  replace HO := gz (Kd.R_drewN HO.out nq)
  replace HR := Rd.dr HR nq
  replace h := h.out
  cases t with
  | true =>
   rw [if_pos rfl] at h
   simp only [Option.some.injEq, Prod.mk.injEq] at h
   obtain ⟨rfl, rfl, rfl, rfl, rfl⟩ := h
   go_wp2
   replace HO := Rd.row HR HO (KeepBut.set_ (KeepBut.refl _ g none) 1 (.int .i64 (wrap64 (b1 + 1))))
   replace HR := Rd.set HR (wrap64 (b1 + 1))
   go_ret
   exact ⟨_, rfl, HO.out, HR.out⟩
  | false =>
   rw [if_neg Z24] at h
   obtain ⟨⟨t1, t2, a2, b2, c2, d2⟩, A4, h⟩ := cC h
   dsimp only at h
   have A4 := gz A4
   replace h := gz h
   go_wp2_with fail
   refine (bE.calls k1 g _ _ _ _ t1 t2 a2 b2 c2 d2 w0 _ HR.out.1 HR.out.2.1 A4.out).mono ?_
   rintro e w2 ⟨rfl, hi⟩
   replace HO := Rd.row HR HO hi.2.2
   replace HR := Rd.call HR hi
   clear hi
   obtain ⟨p2_0, p2_1, p2_2, p2_3, p2_4, p2_5⟩ := Rd.cs HR
   replace h := h.out
   cases t2 with
   | false =>
    rw [if_neg Z24] at h
    simp only [Option.some.injEq, Prod.mk.injEq] at h
    obtain ⟨rfl, rfl, rfl, rfl, rfl⟩ := h
    go_wp2
    go_ret
    exact ⟨_, rfl, Kd.R_nil _ _ _ _ _, HR.out⟩
   | true =>
   rw [if_pos rfl] at h
   by_cases h2 : 0 ≤ b2
   case neg => rw [if_neg h2] at h; cases h
   rw [if_pos h2] at h
   by_cases h3 : b2 ≤ (a2.size : Int)
   case neg => rw [if_neg h3] at h; cases h
   rw [if_pos h3] at h
   obtain ⟨t, A5, h⟩ := cC h
   have A5 := gz A5
   replace h := gz h
   go_wp2_with fail
   go_quiet (first | (go_at_call 166; (with_reducible refine (aY.calls A5.out).mono ?_); rintro e w' ⟨rfl, ⟨nd, rfl⟩⟩; first | exact ⟨rfl, _, World.drewN_drewN _ _ _⟩ | exact ⟨rfl, _, Eq.trans (World.drewN_drewN _ _ _) (congrArg (World.drewN _) (Nat.add_assoc _ _ _))⟩))
   replace HO := gz (Kd.R_drewN HO.out nq)
   replace HR := Rd.dr HR nq
   replace h := h.out
   cases t with
   | false =>
    rw [if_neg Z24] at h
    simp only [Option.ite_none_right_eq_some] at h
    have L := gz h.1
    replace h := gz h.2
    have d0 : decide (t1 < t1) = false := decide_eq_false Z8
    go_wp2_with (first | ((with_reducible refine aK (b := .append) (xs := #[.tmp 70, .tmp 74]) rfl ?_); at_builtin; refine ap51 (w0 := _) (x := ⟨t1, t1⟩) (.tmp 70) (.tmp 74) HO ⟨Below.refl _ _⟩ HR.out.2.2.1 L.out ?_; intro v1 w9 n1 b1 g1; replace HR := Rd.ap HR HL HO b1 g1; clear g1))
    go_roundg k1
    case measure => have := HK.out; omega
    case rel => exact ⟨_, _, _, _, _, h, ⟨Z20⟩, ⟨n1⟩, HR⟩
   | true =>
    rw [if_pos rfl] at h
    obtain ⟨⟨z, t2, a3, b3, c3, d3⟩, A6, h⟩ := cC h
    dsimp only at h
    have A6 := gz A6
    replace h := gz h
    go_wp2_with fail
    replace HO := Rd.row HR HO (KeepBut.set_ (KeepBut.refl _ g none) 1 (.int .i64 (wrap64 (b2 + 1))))
    replace HR := Rd.set HR (wrap64 (b2 + 1))
    refine (bE.calls k1 g _ _ _ _ z t2 a3 b3 c3 d3 w0 _ HR.out.1 HR.out.2.1 A6.out).mono ?_
    rintro e w3 ⟨rfl, hi⟩
    replace HO := Rd.row HR HO hi.2.2
    replace HR := Rd.call HR hi
    clear hi
    obtain ⟨p3_0, p3_1, p3_2, p3_3, p3_4, p3_5⟩ := Rd.cs HR
    replace h := h.out
    cases t2 with
    | false =>
     rw [if_neg Z24] at h
     simp only [Option.some.injEq, Prod.mk.injEq] at h
     obtain ⟨rfl, rfl, rfl, rfl, rfl⟩ := h
     go_wp2
     go_ret
     exact ⟨_, rfl, Kd.R_nil _ _ _ _ _, HR.out⟩
    | true =>
    rw [if_pos rfl] at h
    by_cases cg : t1 > z
    ·rw [if_pos cg] at h
     have dg : decide (z < t1) = true := decide_eq_true cg
     obtain ⟨⟨y, t2, a4, b4, c4, d4⟩, A7, h⟩ := cC h
     simp only [Option.some.injEq, Prod.mk.injEq] at h
     obtain ⟨rfl, rfl, rfl, rfl, rfl⟩ := h
     have A7 := gz A7
     clear cg
     go_wp2_with fail
     refine (cD.calls g _ _ _ _ _ _ y t2 a4 b4 c4 d4 w0 _ HR.out.1 HR.out.2.1 A7.out).mono ?_
     rintro e w4 ⟨rfl, hi⟩
     replace HO := Rd.row HR HO hi.2.2
     replace HR := Rd.call HR hi
     clear hi
     obtain ⟨p4_0, p4_1, p4_2, p4_3, p4_4, p4_5⟩ := Rd.cs HR
     go_wp2
     go_ret
     exact ⟨_, rfl, Kd.R_nil _ _ _ _ _, HR.out⟩
    ·rw [if_neg cg] at h
     have dg : decide (z < t1) = false := decide_eq_false cg
     simp only [Option.ite_none_right_eq_some] at h
     have L := gz h.1
     replace h := gz h.2
     clear cg
     go_wp2_with (first | ((with_reducible refine aK (b := .append) (xs := #[.tmp 70, .tmp 74]) rfl ?_); at_builtin; refine ap51 (w0 := _) (x := ⟨t1, z⟩) (.tmp 70) (.tmp 74) HO ⟨Below.refl _ _⟩ HR.out.2.2.1 L.out ?_; intro v1 w9 n1 b1 g1; replace HR := Rd.ap HR HL HO b1 g1; clear g1))
     go_roundg k1
     case measure => have := HK.out; omega
     case rel => exact ⟨_, _, _, _, _, h, ⟨Z20⟩, ⟨n1⟩, HR⟩
end Go.Proofs.YtaccleilcdfapaaGreat.G
