import Derived.Test.YtfnkboilepgmoaaDoorYPre
import Derived.Test.YtfnkboilepgmoaaDoorYax0
import Derived.Test.YtfnkboilepgmoaaDoorYax1
import Derived.Test.YtfnkboilepgmoaaDoorYax2
namespace Go.Proofs.YtfnkboilepgmoaaDoor.R
open Go.RowKit Go.Proofs.YtfnkboilepgmoaaDoorW.PrintWords Go.Proofs.YtfnkboilepgmoaaDoorW.PrintLast Go.Proofs.YtfnkboilepgmoaaDoorW.PrintMore
attribute [local go_sem] max2_int min2_int max_two min_two max_three min_three max_four min_four
set_option linter.unusedVariables false
set_option linter.unusedSimpArgs false
def KpS (S : Nat → Prop) (A B : World) : Prop := A.heap.size ≤ B.heap.size ∧ ∀ (i : Nat) (o : Obj), A.heap[i]? = some o → o.isCells = true → ¬ S i → B.heap[i]? = some o
theorem KpS.refl (S : Nat → Prop) (A : World) : KpS S A A := ⟨Nat.le_refl _, fun _ _ h _ _ => h⟩
theorem KpS.trans {S : Nat → Prop} {A B C : World} (h1 : KpS S A B) (h2 : KpS S B C) : KpS S A C := ⟨Nat.le_trans h1.1 h2.1, fun i o h c s => h2.2 i o (h1.2 i o h c s) c s⟩
theorem KpS.put {S : Nat → Prop} (W : World) (l : Nat) (o o' : Obj) (h : W.heap[l]? = some o) (hc : o.isCells = false) : KpS S W (W.putObj l o') := by
 refine ⟨?_, fun i u hu c _ => ?_⟩
 ·simp [World.putObj]
 ·by_cases e : i = l
  ·subst e; rw [h] at hu; obtain rfl := Option.some.inj hu; rw [hc] at c; cases c
  ·simp only [World.putObj]
   rw [Array.getElem?_setIfInBounds]
   rw [if_neg (fun h => e h.symm)]
   exact hu
theorem KpS.alloc {S : Nat → Prop} (W : World) (o : Obj) : KpS S W (W.alloc o) := ⟨by simp, fun i u h _ _ => (World.grownBy_alloc W o none).block i (Array.getElem?_eq_some_iff.1 h).1 (by simp) |>.trans h⟩
def rs (t : S36) : List Int := (List.range (t.f1 - t.f0 + 1).toNat).map (fun i : Nat => t.f0 + (i : Int))
def allR (zs : List S36) : List Int := zs.flatMap rs
theorem rs_take_succ (t : S36) (m : Nat) (h : m < (t.f1 - t.f0 + 1).toNat) : (rs t).take (m + 1) = (rs t).take m ++ [t.f0 + (m : Int)] := by
 unfold rs
 rw [List.take_succ_eq_append_getElem (by simpa using h)]
 simp
theorem rs_len (t : S36) : (rs t).length = (t.f1 - t.f0 + 1).toNat := by simp [rs]
def goodR (t : S36) : Prop := 0 ≤ t.f0 ∧ t.f0 ≤ t.f1 ∧ t.f1 ≤ 1114111
theorem all_take_succ (zs : List S36) (k : Nat) (h : k < zs.length) : allR (zs.take (k + 1)) = allR (zs.take k) ++ rs zs[k] := by
 unfold allR
 rw [List.take_succ_eq_append_getElem h, List.flatMap_append]
 simp
theorem all_take_le (zs : List S36) (k : Nat) : (allR (zs.take k)).length ≤ (allR zs).length := by
 conv => rhs; rw [← List.take_append_drop k zs]
 unfold allR
 rw [List.flatMap_append, List.length_append]
 omega
def RowAt (lo n₀ : Nat) (W : World) (v : Value) (zs : List S36) : Prop :=
 ∃ A cap, v = .slice A zs.length cap ∧ (0 < zs.length → ∃ g cur fz, A = some ⟨g, 0, none⟩ ∧ lo ≤ g ∧ g < n₀ ∧ W.heap[g]? = some (.cells cur 36 fz) ∧ ∀ i (h : i < zs.length), cur[i * 2]? = some (Value.int .i32 zs[i].f0) ∧ cur[i * 2 + 1]? = some (Value.int .i32 zs[i].f1))
theorem RowAt.kept {lo n₀ : Nat} {S : Nat → Prop} {A B : World} {v : Value} {zs : List S36} (h : RowAt lo n₀ A v zs) (hk : KpS S A B) (hS : ∀ i, i < n₀ → ¬ S i) : RowAt lo n₀ B v zs := by
 obtain ⟨a, cap, e, h⟩ := h
 refine ⟨a, cap, e, fun h0 => ?_⟩
 obtain ⟨g, cur, fz, ea, hlo, hg, hh, hc⟩ := h h0
 exact ⟨g, cur, fz, ea, hlo, hg, hk.2 g _ hh rfl (hS g hg), hc⟩
theorem RowAt.below {lo n₀ : Nat} {A B : World} {v : Value} {zs : List S36} (h : RowAt lo n₀ A v zs) (hk : ∀ i, lo ≤ i → i < n₀ → B.heap[i]? = A.heap[i]?) : RowAt lo n₀ B v zs := by
 obtain ⟨a, cap, e, h⟩ := h
 refine ⟨a, cap, e, fun h0 => ?_⟩
 obtain ⟨g, cur, fz, ea, hlo, hg, hh, hc⟩ := h h0
 exact ⟨g, cur, fz, ea, hlo, hg, (hk g hlo hg).trans hh, hc⟩
theorem RowAt.of_R {w : World} {base : Nat} {ok : Nat → Prop} {v : Value} {xs : List S36} (h : Kd.R k36 36 w base ok v xs) : RowAt base w.heap.size w v xs := by
 obtain ⟨h0, inner, ho, hr⟩ := h
 rcases ho.2 with ⟨rfl, hn⟩ | ⟨g, cap, cur, rfl, hg, hh, hc, hm, hs, ht⟩
 ·exact ⟨none, 0, by rw [hn], fun h => by omega⟩
 ·refine ⟨_, cap, rfl, fun _ => ⟨g, cur, _, rfl, hg, (Array.getElem?_eq_some_iff.1 hh).1, hh, fun i hi => ?_⟩⟩
  have h1 := k36_openM (hr.2 i xs[i] (List.getElem?_eq_getElem hi))
  have h2 : (inner.drop (i * 2)).take 2 = [Value.int .i32 xs[i].f0, Value.int .i32 xs[i].f1] := h1
  have h3 := congrArg (fun l : List Value => l[0]?) h2
  have h4 := congrArg (fun l : List Value => l[1]?) h2
  simp only [List.getElem?_take, List.getElem?_drop, List.getElem?_cons_zero, List.getElem?_cons_succ, if_pos (show 0 < 2 by decide), if_pos (show 1 < 2 by decide), Nat.add_zero] at h3 h4
  have e2 : (k36.sz : Nat) = 2 := rfl
  rw [← ht, List.getElem?_take, e2, if_pos Z12, Array.getElem?_toList] at h3 h4
  exact ⟨h3, h4⟩
theorem RowAt.nil (lo n₀ : Nat) (W : World) : RowAt lo n₀ W (.slice none 0 0) [] := ⟨none, 0, rfl, fun h => absurd h (Nat.lt_irrefl 0)⟩
attribute [local go_sem] Oper.semAt_some
set_option maxRecDepth 100000 in
set_option maxHeartbeats 2000000 in
theorem all1_in (F : Fence) (n : Nat) (h45 : F.fn 45) (hro : F.round = none) (hn : 1 ≤ n) (l Bs lo n₀ : Nat) (S : Nat → Prop) (hS : ∀ i, S i → n₀ ≤ i) (hBs0 : Bs < n₀) (v : Value) (zs : List S36) (hreach : zs.length ≤ 2048) (hg : ∀ t ∈ zs, goodR t)
  (J Jx : List Int → World → Prop) (B : Nat) (hJ : ∀ s A A', J s A → A.grownBy A' none → J s A')
  (hY : ∀ pre x W, J pre W → pre.length < (allR zs).length → YieldAt F (n - 1) Tryd.prog l #[.int .i32 x] W fun e W' =>
   (e = .returned (.bool true) ∧ J (pre ++ [x]) W' ∧ KpS S W W') ∨ (e = .returned (.bool false) ∧ Jx (pre ++ [x]) W'))
  (W : World) (hSW : ∀ i, S i → i < W.heap.size) (hBs : Boxed W Bs 22 v) (hr : RowAt lo n₀ W v zs) (h0 : J [] W) :
  CallsIn F n Tryd.prog 45 #[.func (.yield l) #[] #[], .pointer (some ⟨Bs, 0, none⟩)] W fun e W' => (∃ v, e = .returned v) ∧
   ((∃ ys, ys = allR zs ∧ J ys W') ∨ (∃ pre, pre <+: allR zs ∧ Jx pre W')) := by
 obtain ⟨A, cap, rfl, hr⟩ := hr
 refine callsIn_of_wp Tryd.func45 rfl h45 ?_ hro
 simp only [Tryd.ntmps45, List.size_toArray, List.length_cons, List.length_nil, Nat.reduceAdd, Nat.reduceSub, Array.replicate_succ, Array.replicate_zero, List.push_toArray, List.append_toArray, List.nil_append, List.cons_append]
 have cBs := hBs.cell
 gi_wp2
 gi_loopw [8] (fun i wr => ∃ k : Nat, k ≤ zs.length ∧ i = .int .i64 k ∧ J (allR (zs.take k)) wr ∧ KpS S W wr)
  (fun i _ => zs.length - (intOf i).toNat)
 case atStart => exact ⟨0, Nat.zero_le _, rfl, h0, KpS.refl _ _⟩
 case round =>
  obtain ⟨k, hk, rfl, hJs, hnx⟩ := hrel
  by_cases hlt : k < zs.length
  ·obtain ⟨g, cur, fz, rfl, _, hg0, hh, hc⟩ := hr Z12
   obtain ⟨c0, c1⟩ := hc k hlt
   have hh' := hnx.2 g _ hh rfl (fun s => by have := hS g s; omega)
   have d0 : wr.cell? ⟨g, k * 2, none⟩ = some (.int .i32 zs[k].f0) := by simp [World.cell?, hh', c0]
   have d1 : wr.cell? ⟨g, k * 2 + 1, none⟩ = some (.int .i32 zs[k].f1) := by simp [World.cell?, hh', c1]
   gi_wp2
   have hgk := hg _ (List.getElem_mem hlt)
   unfold goodR at hgk
   have hnS : ¬ S wr.heap.size := fun s => by have := hSW _ s; have := hnx.1; omega
   have bx0 : (wr.alloc (.cells #[Value.int .i32 zs[k].f0, Value.int .i32 zs[k].f1] 36)).heap[wr.heap.size]? = some (.cells #[Value.int .i32 zs[k].f0, Value.int .i32 zs[k].f1] 36) := World.alloc_heap_new wr _
   have hst : J (allR (zs.take k) ++ (rs zs[k]).take 0) (wr.alloc (.cells #[Value.int .i32 zs[k].f0, Value.int .i32 zs[k].f1] 36)) := by
    rw [List.take_zero, List.append_nil]; exact hJ _ _ _ hJs (World.grownBy_alloc wr _ none)
   have hkp0 : KpS S W (wr.alloc (.cells #[Value.int .i32 zs[k].f0, Value.int .i32 zs[k].f1] 36)) := hnx.trans (KpS.alloc wr _)
   obtain ⟨Bx, hBx⟩ : ∃ Bx, wr.heap.size = Bx := ⟨_, rfl⟩
   obtain ⟨w2, hw2⟩ : ∃ w2, wr.alloc (.cells #[Value.int .i32 zs[k].f0, Value.int .i32 zs[k].f1] 36) = w2 := ⟨_, rfl⟩
   rw [hBx] at hnS bx0 ⊢
   rw [hw2] at bx0 hst hkp0 ⊢
   gi_loopw [5] (fun p wi => ∃ m : Nat, m ≤ (zs[k].f1 - zs[k].f0 + 1).toNat ∧ p = .int .i32 (zs[k].f0 + (m : Int)) ∧ J (allR (zs.take k) ++ (rs zs[k]).take m) wi ∧ KpS S W wi ∧ wi.heap[Bx]? = some (.cells #[Value.int .i32 zs[k].f0, Value.int .i32 zs[k].f1] 36))
    (fun p _ => (zs[k].f1 + 1 - intOf p).toNat)
   case atStart => exact ⟨0, Nat.zero_le _, by simp, hst, hkp0, bx0⟩
   case round =>
    obtain ⟨m, hm, rfl, hJi, hki, hbi⟩ := hrel
    have e1 : wr.cell? ⟨Bx, 1, none⟩ = some (.int .i32 zs[k].f1) := by simp [World.cell?, hbi]
    by_cases hmt : zs[k].f0 + (m : Int) ≤ zs[k].f1
    ·have hmn : m < (zs[k].f1 - zs[k].f0 + 1).toNat := by omega
     have hlen : (allR (zs.take k) ++ (rs zs[k]).take m).length < (allR zs).length := by
      have h1 := all_take_le zs (k + 1)
      rw [all_take_succ zs k hlt, List.length_append, rs_len] at h1
      rw [List.length_append, List.length_take, rs_len]
      omega
     obtain ⟨fn, tmps, assign, body, hy, hR⟩ := hY _ (zs[k].f0 + (m : Int)) wr hJi hlen
     have hadd : wrap32 (zs[k].f0 + (m : Int) + 1) = zs[k].f0 + ((m + 1 : Nat) : Int) := by unfold wrap32; omega
     gi_wp2
     refine hR.mono ?_
     rintro e W3 (⟨rfl, hJ3, hk3⟩ | ⟨rfl, hJx3⟩)
     ·gi_wp2
      refine ⟨⟨m + 1, Z12, by rw [show zs[k].f0 + (m : Int) + 1 = zs[k].f0 + ((m + 1 : Nat) : Int) by omega], by rw [rs_take_succ _ _ hmn, ← List.append_assoc]; exact hJ3, hki.trans hk3, hk3.2 Bx _ hbi rfl hnS⟩, ?_⟩
      simp only [intOf]
      omega
     ·gi_wp2
      refine bodyPost_ret (results_none rfl _ _ _) rfl ?_
      refine ⟨⟨_, rfl⟩, .inr ⟨_, ?_, hJx3⟩⟩
      rw [List.append_assoc, ← rs_take_succ _ _ hmn]
      have h3 : allR zs = allR (zs.take k) ++ (rs zs[k] ++ allR (zs.drop (k + 1))) := by
       conv => lhs; rw [← List.take_append_drop k zs, List.drop_eq_getElem_cons hlt]
       unfold allR
       rw [List.flatMap_append, List.flatMap_cons]
      rw [h3]
      exact (List.prefix_append_right_inj _).2 ((List.take_prefix _ _).trans (List.prefix_append _ _))
    ·obtain rfl : m = (zs[k].f1 - zs[k].f0 + 1).toNat := by omega
     gi_wp2
     have hall : (rs zs[k]).take (zs[k].f1 - zs[k].f0 + 1).toNat = rs zs[k] := List.take_of_length_le (by rw [rs_len]; exact Nat.le_refl _)
     rw [hall, ← all_take_succ zs k hlt] at hJi
     refine ⟨⟨k + 1, Z12, rfl, hJi, hki⟩, ?_⟩
     simp only [intOf]
     omega
  ·obtain rfl : k = zs.length := by omega
   gi_wp2
   go_end0
   rw [List.take_length] at hJs
   exact ⟨⟨_, rfl⟩, .inl ⟨_, rfl, hJs⟩⟩
theorem all_stops (F : Fence) (n : Nat) (h45 : F.fn 45) (hro : F.round = none) (hn : 1 ≤ n) (Bs lo n₀ : Nat) (S : Nat → Prop) (v : Value) (zs : List S36) (hreach : zs.length ≤ 2048) (hg : ∀ t ∈ zs, goodR t) (w : World) (hS : ∀ i, S i → n₀ ≤ i ∧ i < w.heap.size) (hBs0 : Bs < n₀) (hn₀ : n₀ ≤ w.heap.size) (hBs : Boxed w Bs 22 v) (hr : RowAt lo n₀ w v zs) :
  SeqStopsK F n Tryd.prog 45 #[.pointer (some ⟨Bs, 0, none⟩)] (fun x : Int => #[Value.int .i32 x]) (KpS S) (fun ys => ys = allR zs) (fun pre => pre <+: allR zs) (allR zs).length w := fun l J Jx W hW hJ _ hY h0 =>
 all1_in F n h45 hro hn l Bs lo n₀ S (fun i h => (hS i h).1) hBs0 v zs hreach hg J Jx 0 (fun s A A' h g => hJ s A A' none h g (fun _ e => by cases e)) hY W (fun i h => Nat.lt_of_lt_of_le (hS i h).2 hW.size)
  ((hW.block Bs (Nat.lt_of_lt_of_le hBs0 hn₀)).trans hBs) (hr.below (fun i _ hi => hW.block i (Nat.lt_of_lt_of_le hi hn₀))) h0
theorem RowAt.setBox {lo n₀ : Nat} {W : World} {v : Value} {zs : List S36} (h : RowAt lo n₀ W v zs) (hn : n₀ ≤ W.heap.size) (b : Nat) (u : Value) (hb : b < lo ∨ n₀ ≤ b) : RowAt lo n₀ (W.setCell ⟨b, 0, none⟩ u) v zs :=
 h.below (fun i h1 h2 => (grownBy_setCell' W b u).block i Z12 (by simp; omega))
theorem All_calls (k : Nat) (A0 : Option Addr) (c0 : Nat) (l0 : List S36) (e : Int) (w : World) (hr0 : Kd.C k36 w A0 l0.length l0) (hc0 : l0.length ≤ c0) (he : runes_Check.f k l0 = some e) (hl : l0.length < 17592186044416) :
  Calls Tryd.prog 21 #[.slice A0 l0.length c0] w fun e' w' => ∃ b v1, e' = .returned (.func (.func 45) #[] #[.pointer (some ⟨b, 0, none⟩)]) ∧ w.heap.size ≤ b ∧ Boxed w' b 22 v1 ∧ RowAt w.heap.size w'.heap.size w' v1 (if e = 0 then l0 else []) ∧ Below w.heap.size w w' := by
 have HR0 := Aside0.mk hr0
 have hB0 : Below w.heap.size w (w.alloc (.cells #[.slice none 0 0] 22)) := (Below.refl _ w).alloc (Nat.le_refl _) _
 have bx := Boxed.new w 22 (.slice none 0 0)
 have hr1 : Kd.C k36 (w.alloc (.cells #[.slice none 0 0] 22)) A0 l0.length l0 := by with_reducible refine Kd.C_alloc ?_ _; exact hr0
 by_cases c : e = 0
 ·subst c
  go_enter Tryd.func21, Tryd.ntmps21
  go_wp2_with (first | (go_at_call 17; refine (runes_Check.calls k _ _ l0 0 _ hr1 hc0 he).mono ?_; rintro e1 w1 ⟨rfl, hb1⟩; have hr2 : Kd.C k36 w1 A0 l0.length l0 := Kd.C_below hr1 hb1) | (go_at_call 44; refine (api_Range_44.calls _ _ l0 l0 _ hr2 hc0 (by unfold api_Range_44.f; simp only [Option.bind_some, List.length_nil, List.nil_append, Nat.zero_add, if_pos hl])).mono ?_; rintro e2 w2 ⟨v1, rfl, ho2, hb2⟩; obtain ⟨a, cap, rfl, hrow⟩ := RowAt.of_R ho2; have hsz1 := hb1.size; have hsz2 := hb2.size; rw [World.size_alloc] at hsz1; have bx2 : Boxed w2 w.heap.size 22 (.slice none 0 0) := (hb2.block _ Z12).trans ((hb1.block _ (by simp)).trans bx); have cbx := bx2.cell; have fbx := bx2.frozen))
  have hro2 : RowAt w1.heap.size w2.heap.size w2 (.slice a l0.length cap) l0 := ⟨a, cap, rfl, hrow⟩
  have hB2 : Below w.heap.size w w2 := (hB0.trans (hb1.mono (by simp))).trans (hb2.mono Z12)
  refine bodyPost_ret (results_tmp rfl _ _ _) rfl ?_
  refine ⟨_, rfl, Nat.le_refl _, _, bx2.set _, ?_, hB2.setCell (p := ⟨w.heap.size, 0, none⟩) (Nat.le_refl _) _⟩
  rw [World.size_setCell]
  have h9 := hro2.setBox (Nat.le_refl _) w.heap.size (.slice a l0.length cap) (.inl Z12)
  obtain ⟨a', cap', e', h'⟩ := h9
  refine ⟨a', cap', e', fun h0 => ?_⟩
  obtain ⟨g, cur, fz, e1, e2, e3⟩ := h' h0
  exact ⟨g, cur, fz, e1, Z12, e3⟩
 ·have cb : (e == 0) = false := by simpa using c
  go_enter Tryd.func21, Tryd.ntmps21
  go_wp2_with (go_at_call 17; refine (runes_Check.calls k _ _ l0 e _ hr1 hc0 he).mono ?_; rintro e1 w1 ⟨rfl, hb1⟩)
  have hsz1 := hb1.size
  have bx2 : Boxed w1 w.heap.size 22 (.slice none 0 0) := (hb1.block _ (by simp)).trans bx
  refine bodyPost_ret (results_tmp rfl _ _ _) rfl ?_
  exact ⟨_, rfl, Nat.le_refl _, _, bx2, RowAt.nil _ _ _, hB0.trans (hb1.mono (by simp))⟩
theorem setCell_other (W : World) (g o : Nat) (v : Value) (q : Nat) (h : q ≠ g) : (W.setCell ⟨g, o, none⟩ v).heap[q]? = W.heap[q]? := by
 simp only [World.setCell]
 rw [Array.getElem?_modify, if_neg (fun e => h e.symm)]
theorem setCell_at (W : World) (g o : Nat) (v : Value) (cur : Array Value) (t : TypeId) (fz : Nat × Nat) (h : W.heap[g]? = some (.cells cur t fz)) : ∃ cur' : Array Value, (W.setCell ⟨g, o, none⟩ v).heap[g]? = some (.cells cur' t fz) ∧ cur'.size = cur.size := by
 simp only [World.setCell]
 rw [Array.getElem?_modify, if_pos rfl, h]
 exact ⟨_, rfl, by simp⟩
theorem KpS.set {S : Nat → Prop} (W : World) (b : Nat) (v : Value) (h : S b) : KpS S W (W.setCell ⟨b, 0, none⟩ v) :=
 ⟨Nat.le_of_eq (World.size_setCell ..).symm, fun i o hi _ hs => (setCell_other W b 0 v i (fun e => hs (e ▸ h))).trans hi⟩
theorem KpS.below {S : Nat → Prop} {W W' : World} (h : Below W.heap.size W W') : KpS S W W' :=
 ⟨h.size, fun i o hi _ _ => (h.block i (Array.getElem?_eq_some_iff.1 hi).1).trans hi⟩
theorem keepsBelow {W W' : World} (h : Below W.heap.size W W') : KeepsOthers W W' :=
 ⟨h.size, fun i o hi _ => (h.block i (Array.getElem?_eq_some_iff.1 hi).1).trans hi⟩
theorem notPre {xs : List Int} (hsort : xs.Pairwise (· < ·)) (hpos : ∀ x ∈ xs, 0 ≤ x ∧ x ≤ 1114111) {pre : List Int} {x : Int} (h : x ≤ pre.getLastD (-1)) : ¬ pre ++ [x] <+: xs := by
 rintro ⟨t, rfl⟩
 have h1 := (List.pairwise_append.1 (List.pairwise_append.1 hsort).1).2.2
 cases hp : pre.getLast? with
 | none =>
  have e : pre = [] := List.getLast?_eq_none_iff.1 hp
  subst e
  have := (hpos x (by simp)).1
  simp at h
  omega
 | some y =>
  have hy : y ∈ pre := List.mem_of_getLast? hp
  have := h1 y hy x (by simp)
  rw [List.getLastD_eq_getLast?, hp] at h
  simp at h
  omega
theorem kpsOwn {β : Type} (B : Nat) (S : Nat → Prop) (W : World) : OwnFrom B (fun (_ : β) W' => KpS S W W') := fun _ X Y row hs hg hr =>
 ⟨Nat.le_trans hs.1 hg.size, fun i o h1 h2 h3 => by
  have h4 := hs.2 i o h1 h2 h3
  refine (hg.block i (Array.getElem?_eq_some_iff.1 h4).1 (fun e => ?_)).trans h4
  obtain ⟨_, o', h5, h6⟩ := hr i e.symm
  rw [h4] at h5
  obtain rfl := Option.some.inj h5
  rw [h2] at h6; cases h6⟩
theorem notFirst {xs : List Int} (hsort : xs.Pairwise (· < ·)) {pre : List Int} {x y : Int} (hp : [] ++ [y] <+: xs) (hq : pre ++ [x] <+: xs) (c : x < y) : False := by
 obtain ⟨t, rfl⟩ := hp
 have hx : x ∈ [] ++ [y] ++ t := hq.subset (by simp)
 simp only [List.nil_append, List.singleton_append, List.mem_cons] at hx
 rcases hx with rfl | hx
 ·omega
 ·have := (List.pairwise_cons.1 hsort).1 x hx; omega
theorem results_f5 (tmps : Array Value) (w : World) (g : Nat) (b : Bool) (hp : tmps.getD 4 undef = .pointer (some ⟨g, 0, none⟩)) (hg : w.cell? ⟨g, 0, none⟩ = some (.bool b)) : (results Tryd.f5 tmps).run Tryd.prog w = .ok (.bool b) w := by
 have h : Tryd.f5.results = #[.cell 4 4] := rfl
 have hp' : tmps[4]?.getD undef = .pointer (some ⟨g, 0, none⟩) := by simpa using hp
 simp [results, h, hp', asAddr]
 go_simp
theorem u33 : Tryd.prog.underlying 33 = some (.func #[66] #[] false) := by kernel_rfl
theorem run_eql_func_nil (w : World) (fn : Fn) (fi ca : Array Value) : (binOp .eql 33 (.func fn fi ca) .nilFunc).run Tryd.prog w = .ok (.bool false) w := by
 have h : ∀ d : Nat, (Op.equalIn (d + 1) 33 (.func fn fi ca) .nilFunc).run Tryd.prog w = .ok false w := fun d => by
  simp [Op.equalIn, run_underlying u33]
 simp only [binOp]
 simp [Op.equal, Op.maxDepth, h 9999]
attribute [local go_sem] run_eql_func_nil Oper.semAt_some max2_int min2_int max_two min_two
theorem boxBelow {B : Nat} {A W : World} {b : Nat} {t : TypeId} {v : Value} (h : Boxed A b t v) (hb : Below B A W) (hlt : b < B) : Boxed W b t v := (hb.block b hlt).trans h
theorem RowAt.up {lo n₀ n₁ : Nat} {W : World} {v : Value} {zs : List S36} (h : RowAt lo n₀ W v zs) (hn : n₀ ≤ n₁) : RowAt lo n₁ W v zs := by
 obtain ⟨a, cap, e, h⟩ := h
 refine ⟨a, cap, e, fun h0 => ?_⟩
 obtain ⟨g, cur, fz, ea, hlo, hg, r⟩ := h h0
 exact ⟨g, cur, fz, ea, hlo, Z12, r⟩
theorem mineOf {w : World} {base : Nat} {ok : Nat → Prop} {v : Value} {xs : List S36} (h : Kd.R k36 36 w base ok v xs) : ∃ a cap, v = .slice a xs.length cap ∧ xs.length ≤ cap ∧ Kd.C k36 w a xs.length xs ∧ (0 < xs.length → ∃ g cur, a = some ⟨g, 0, none⟩ ∧ w.heap[g]? = some (.cells cur 36 (0, 0)) ∧ xs.length * 2 ≤ cur.size ∧ v.ownBlock = some g) := by
 have hr := h
 obtain ⟨h0, inner, ho, _⟩ := h
 rcases ho.2 with ⟨rfl, hn⟩ | ⟨g, cap, cur, rfl, hg, hh, hc, hm, hs, ht⟩
 ·have e : xs = [] := List.eq_nil_of_length_eq_zero hn
  subst e
  exact ⟨none, 0, rfl, Nat.le_refl _, (Kd.R_reads' hr).2.2, fun h => absurd h (Nat.lt_irrefl 0)⟩
 ·exact ⟨_, cap, rfl, hc, (Kd.R_reads' hr).2.2, fun _ => ⟨g, cur, rfl, hh, by have e2 : (k36.sz : Nat) = 2 := rfl; rw [hs, e2]; omega, rfl⟩⟩
set_option maxRecDepth 100000 in
set_option maxHeartbeats 4000000 in
theorem quoinlaw02_RunesWalks.walks (k : Nat) (A0 : Option Addr) (c0 : Nat) (l0 : List S36) (lv : Int) (hl0 : 0 ≤ lv) (hl1 : lv ≤ 255) (w : World) (hr0 : Kd.C k36 w A0 l0.length l0) (hc0 : l0.length ≤ c0) (hlen : l0.length < 17592186044416)
  (e : Int) (he : runes_Check.f k l0 = some e) (hgood : e = 0 → l0.length ≤ 2048 ∧ ∀ t ∈ l0, goodR t) (zs : List S36) (hzs : (if e = 0 then l0 else []) = zs) (xs : List Int) (hxs : xs = allR zs) (hsort : xs.Pairwise (· < ·)) (hpos : ∀ x ∈ xs, 0 ≤ x ∧ x ≤ 1114111)
  (hb : Int → Bool) (hHas : ∀ r, quoinref02_Has.f k l0 r = some (hb r)) (hbx : ∀ x ∈ xs, hb x = true) (hSize : quoinref02_Size.f k l0 = some (xs.length : Int)) (hAw : quoinlaw02_awake.f k = some true) :
  Calls Tryd.prog 5 #[.slice A0 l0.length c0, .int .u8 lv] w fun e' w' => e' = .returned (.bool true) ∧ Below w.heap.size w w' := by
 have hu36 := Tryd.underlying36
 have cC := hr0
 refine (callsIn_wide (n := 12)).1 ?_
 refine callsIn_of_wp_marks Tryd.func5 rfl trivial ?_ rfl
 simp only [Tryd.ntmps5, List.size_toArray, List.length_cons, List.length_nil, Nat.reduceAdd, Nat.reduceSub, Array.replicate_succ, Array.replicate_zero, List.push_toArray, List.append_toArray, List.nil_append, List.cons_append]
 refine wpIn_wide.2 ?_
 have bS := ((Boxed.new w 22 (.slice A0 l0.length c0)).alloc (.cells #[.int .u8 lv] 5)).alloc (.cells #[.bool false] 4)
 have bL := (Boxed.new (w.alloc (.cells #[.slice A0 l0.length c0] 22)) 5 (.int .u8 lv)).alloc (.cells #[.bool false] 4)
 have bR := Boxed.new ((w.alloc (.cells #[.slice A0 l0.length c0] 22)).alloc (.cells #[.int .u8 lv] 5)) 4 (.bool false)
 simp only [World.size_alloc] at bL bR
 have hB3 : Below w.heap.size w (((w.alloc (.cells #[.slice A0 l0.length c0] 22)).alloc (.cells #[.int .u8 lv] 5)).alloc (.cells #[.bool false] 4)) := (((Below.refl _ w).alloc (Nat.le_refl _) _).alloc (by simp) _).alloc (by simp; omega) _
 have hz3 : (((w.alloc (.cells #[.slice A0 l0.length c0] 22)).alloc (.cells #[.int .u8 lv] 5)).alloc (.cells #[.bool false] 4)).heap.size = w.heap.size + 3 := by simp
 go_wp2_with (first
  | (refine gate_dst (N := 15) rfl ?_; obtain ⟨W3, hW3⟩ : ∃ W3, ((w.alloc (.cells #[.slice A0 l0.length c0] 22)).alloc (.cells #[.int .u8 lv] 5)).alloc (.cells #[.bool false] 4) = W3 := ⟨_, rfl⟩; rw [hW3] at bS bL bR hB3 hz3 ⊢; clear hW3; refine Kd.R_lit k36 _ 36 ?hg (N := 15) ?hd (xs := ([] : List (S36))) (inner := []) (ok := fun _ => True) (okp := fun _ => True) ?hr ?hp (fun _ hk => hk) trivial (Below.refl _ _) (Nat.le_refl _) (by simp) ?_; (case hd => rfl); (case hg => rfl); (case hr => first | (go_simp; done) | (go_simp; rfl)); (case hp => exact (Reps.none _ _)); intro v4 w4 ho4 hb4 hg_ hnew_; clear hg_ hnew_; have bS4 := boxBelow bS hb4 Z12; have bL4 := boxBelow bL hb4 Z12; have bR4 := boxBelow bR hb4 Z12; have cS4 := bS4.cell; have hB4 : Below w.heap.size w w4 := hB3.trans (hb4.mono Z12); have hz4 : w.heap.size + 3 ≤ w4.heap.size := by have := hb4.size; omega)
  | (refine gate_builtin (b := .append) (xs := #[.tmp 15, .tmp 16]) rfl ?_; at_builtin; refine Kd.R_append_rows k36 (w0 := w) w.heap.size rfl (.tmp 15) (.tmp 16) 22 36 (.agg #[(.int .i32 0), (.int .i32 0)]) 8 rfl Tryd.underlying22 info36 rfl (by decide) Z12 v4 [] l0 _ _ _ (fun _ => True) (fun _ => False) rfl rfl ?aO ?aR (fun _ _ h => h) (fun _ h => h.elim) ?aF ?aB ?aS ?aL ?_; (case aR => exact Kd.C_below hr0 hB4); (case aB => exact hB4); (case aF => exact (fun _ _ => trivial)); (case aO => exact Kd.R_lower ho4 Z12); (case aS => omega); (case aL => simp only [List.length_nil, Nat.zero_add]; omega); intro v5 w5 ho5 hb5 hg5 hat5; rw [List.nil_append] at ho5; have hne5 : ∀ B, B < w.heap.size + 3 → some B ≠ v4.ownBlock := (fun B hB e => by have := Kd.R_base ho4 B e.symm; omega); have bS5 := bS4.kept hg5 (hne5 _ Z12); have bL5 := bL4.kept hg5 (hne5 _ Z12); have bR5 := bR4.kept hg5 (hne5 _ Z12); have hz5 := Nat.le_trans hz4 hg5.size; obtain ⟨a5, cap5, rfl, hcap5, hC5, hm5⟩ := mineOf ho5)
  | (go_at_call 21; refine (All_calls k a5 cap5 l0 e w5 hC5 hcap5 he hlen).mono ?_; rintro e6 w6 ⟨b6, v6, rfl, hb6, bx6, hrow6, hbe6⟩; rw [hzs] at hrow6))
 obtain ⟨W7, hW7⟩ : ∃ W7, w6.alloc (.cells #[.func (.func 45) #[] #[.pointer (some ⟨b6, 0, none⟩)]] 33) = W7 := ⟨_, rfl⟩
 have hs7 : W7.heap.size = w6.heap.size + 1 := by rw [← hW7]; simp
 have hk7 : ∀ q, q < w6.heap.size → W7.heap[q]? = w6.heap[q]? := fun q hq => by rw [← hW7]; exact Below.heap_alloc w6 _ q hq
 have hz6 := hbe6.size
 have bW7 : Boxed W7 w6.heap.size 33 (.func (.func 45) #[] #[.pointer (some ⟨b6, 0, none⟩)]) := by rw [← hW7]; exact Boxed.new w6 33 _
 have hB7 : Below w.heap.size w W7 := by rw [← hW7]; exact (hb5.trans (hbe6.mono Z12)).alloc Z12 _
 have bx7 : Boxed W7 b6 22 v6 := (hk7 b6 bx6.lt).trans bx6
 have bS7 : Boxed W7 w.heap.size 22 (.slice A0 l0.length c0) := (hk7 _ Z12).trans ((hbe6.block _ Z12).trans bS5)
 have bL7 : Boxed W7 (w.heap.size + 1) 5 (.int .u8 lv) := (hk7 _ Z12).trans ((hbe6.block _ Z12).trans bL5)
 have bR7 : Boxed W7 (w.heap.size + 1 + 1) 4 (.bool false) := (hk7 _ Z12).trans ((hbe6.block _ Z12).trans bR5)
 have row7 : RowAt w5.heap.size w6.heap.size W7 v6 zs := hrow6.below (fun q _ hq => hk7 q hq)
 have hb67 := bx6.lt
 obtain ⟨GB, hG3, hG5, hGm⟩ : ∃ GB : Nat, w.heap.size + 3 ≤ GB ∧ (GB < w5.heap.size ∨ W7.heap.size ≤ GB) ∧ (0 < l0.length → a5 = some ⟨GB, 0, none⟩ ∧ ∃ cur : Array Value, W7.heap[GB]? = some (.cells cur 36 (0, 0)) ∧ l0.length * 2 ≤ cur.size) := by
  by_cases c : 0 < l0.length
  ·obtain ⟨g, cur, e1, e2, e3, e4⟩ := hm5 c
   have hlt : g < w5.heap.size := (Array.getElem?_eq_some_iff.1 e2).1
   refine ⟨g, ?_, .inl hlt, fun _ => ⟨e1, cur, (hk7 g Z12).trans ((hbe6.block g hlt).trans e2), e3⟩⟩
   rcases hat5 with h | ⟨q, h1, h2⟩
   ·have := Kd.R_base ho4 g (by rw [← h]; exact e4); omega
   ·rw [e4] at h1; obtain rfl := Option.some.inj h1; omega
  ·exact ⟨W7.heap.size, Z12, .inr (Nat.le_refl _), fun h => absurd h c⟩
 rw [hW7]
 clear hW7 hm5 hC5 ho5 hat5 hg5 ho4
 refine (wpIn_wide (n := 12)).1 ?_
 gi_loopw [7] (fun i wr => ∃ j : Nat, j ≤ l0.length ∧ i = .int .i64 j ∧ wr.heap.size = W7.heap.size ∧ (∀ q, q ≠ GB → wr.heap[q]? = W7.heap[q]?) ∧ Below w.heap.size w wr ∧ (0 < l0.length → ∃ cur : Array Value, wr.heap[GB]? = some (.cells cur 36 (0, 0)) ∧ l0.length * 2 ≤ cur.size))
  (fun i _ => l0.length - (intOf i).toNat)
 case atStart => exact ⟨0, Nat.zero_le _, rfl, rfl, fun _ _ => rfl, hB7, fun h => (hGm h).2⟩
 case round =>
  obtain ⟨j, hj, rfl, hsz, hsame, hBr, hcur⟩ := hrel
  by_cases hlt : j < l0.length
  ·obtain ⟨rfl, _⟩ := hGm Z12
   obtain ⟨cur, hc1, hc2⟩ := hcur Z12
   have d0 : wr.cell? ⟨GB, j * 2, none⟩ = some cur[j * 2] := by simp [World.cell?, hc1]
   have d1 : wr.cell? ⟨GB, j * 2 + 1, none⟩ = some cur[j * 2 + 1] := by simp [World.cell?, hc1]
   have f0 : wr.frozen? ⟨GB, j * 2, none⟩ = false := by simp [World.frozen?, hc1]
   have f1 : wr.frozen? ⟨GB, j * 2 + 1, none⟩ = false := by simp [World.frozen?, hc1]
   gi_wp2
   obtain ⟨cur2, e2, z2⟩ := setCell_at wr GB (j * 2) (Value.int .i32 7) cur 36 (0, 0) hc1
   obtain ⟨cur3, e3, z3⟩ := setCell_at _ GB (j * 2 + 1) (Value.int .i32 3) cur2 36 (0, 0) e2
   refine ⟨⟨j + 1, Z12, rfl, by rw [World.size_setCell, World.size_setCell]; exact hsz, fun q hq => by rw [setCell_other _ _ _ _ _ hq, setCell_other _ _ _ _ _ hq]; exact hsame q hq, (hBr.setCell (p := ⟨GB, j * 2, none⟩) (by simp; omega) _).setCell (p := ⟨GB, j * 2 + 1, none⟩) (by simp; omega) _, fun _ => ⟨cur3, e3, Z12⟩⟩, ?_⟩
   simp only [intOf]
   omega
  ·obtain rfl : j = l0.length := by omega
   gi_wp2
   have hlt5 : ∀ q, q < W7.heap.size → (q < w.heap.size + 3 ∨ w5.heap.size ≤ q) → q ≠ GB := fun q h1 h2 e => by rw [e] at h1 h2; rcases hG5 with h | h <;> omega
   have bS8 : Boxed wr w.heap.size 22 (.slice A0 l0.length c0) := (hsame _ (hlt5 _ Z12 Z12)).trans bS7
   have bL8 : Boxed wr (w.heap.size + 1) 5 (.int .u8 lv) := (hsame _ (hlt5 _ Z12 Z12)).trans bL7
   have bR8 : Boxed wr (w.heap.size + 1 + 1) 4 (.bool false) := (hsame _ (hlt5 _ Z12 Z12)).trans bR7
   have bW8 : Boxed wr w6.heap.size 33 (.func (.func 45) #[] #[.pointer (some ⟨b6, 0, none⟩)]) := (hsame _ (hlt5 _ Z12 Z12)).trans bW7
   have bx8 : Boxed wr b6 22 v6 := (hsame _ (hlt5 _ Z12 Z12)).trans bx7
   have row8 : RowAt w5.heap.size w6.heap.size wr v6 zs := row7.below (fun q h1 h2 => hsame q (hlt5 q Z12 (.inr h1)))
   have cW8 := bW8.cell
   obtain ⟨n₀, hn₀⟩ : ∃ n₀, wr.heap.size = n₀ := ⟨_, rfl⟩
   clear hsame hcur hB7 bS7 bL7 bR7 bW7 bx7 row7 hlt5 hk7 hGm
   go_wp2_with fail
   rename_i K9 hK9
   have hnw : n₀ = w6.heap.size + 1 := by omega
   have bN := (Boxed.new wr 3 (.int .i64 0)).alloc (.cells #[.int .i32 (-1)] 21)
   have bE := Boxed.new (wr.alloc (.cells #[.int .i64 0] 3)) 21 (.int .i32 (-1))
   rw [World.size_alloc] at bE
   have hb8 : Below n₀ wr ((wr.alloc (.cells #[.int .i64 0] 3)).alloc (.cells #[.int .i32 (-1)] 21)) := ((Below.refl n₀ wr).alloc Z12 _).alloc (by simp; omega) _
   have hz8 : ((wr.alloc (.cells #[.int .i64 0] 3)).alloc (.cells #[.int .i32 (-1)] 21)).heap.size = n₀ + 2 := by simp; omega
   obtain ⟨W8, hW8⟩ : ∃ W8, (wr.alloc (.cells #[.int .i64 0] 3)).alloc (.cells #[.int .i32 (-1)] 21) = W8 := ⟨_, rfl⟩
   rw [hW8] at bN bE hb8 hz8 ⊢
   clear hW8
   rw [show wr.heap.size = w6.heap.size + 1 by omega] at bN bE
   have hB8 : Below w.heap.size w W8 := hBr.trans (hb8.mono Z12)
   have bS9 := boxBelow bS8 hb8 Z12
   have bL9 := boxBelow bL8 hb8 Z12
   have bR9 := boxBelow bR8 hb8 Z12
   have bW9 := boxBelow bW8 hb8 Z12
   have bx9 := boxBelow bx8 hb8 Z12
   have row9 : RowAt w5.heap.size n₀ W8 v6 zs := (row8.below (fun q _ hq => hb8.block q Z12)).up Z12
   clear bS8 bL8 bR8 bW8 bx8 row8 hBr hb8
   have hzr : zs.length ≤ 2048 := by
    rw [← hzs]
    by_cases c : e = 0
    ·rw [if_pos c]; exact (hgood c).1
    ·rw [if_neg c]; simp
   have hzg : ∀ t ∈ zs, goodR t := by
    rw [← hzs]
    by_cases c : e = 0
    ·rw [if_pos c]; exact (hgood c).2
    ·rw [if_neg c]; simp
   have hseq : ∀ W9 : World, n₀ + 2 ≤ W9.heap.size → Below n₀ W8 W9 → ∀ S : Nat → Prop, (∀ i, S i → n₀ ≤ i ∧ i < W9.heap.size) → ∀ m, 1 ≤ m → SeqStopsK Fence.wide m Tryd.prog 45 #[.pointer (some ⟨b6, 0, none⟩)] (fun x : Int => #[Value.int .i32 x]) (KpS S) (fun ys => ys = xs) (fun pre => pre <+: xs) xs.length W9 := by
    intro W9 h1 h2 S hS m hm
    rw [hxs]
    exact all_stops Fence.wide m trivial rfl hm b6 w5.heap.size n₀ S v6 _ hzr hzg W9 hS Z12 Z12 (boxBelow bx9 h2 Z12) (row9.below (fun q _ hq => h2.block q hq))
   obtain ⟨qR, hqR⟩ : ∃ q, w.heap.size + 1 + 1 = q := ⟨_, rfl⟩
   obtain ⟨qL, hqL⟩ : ∃ q, w.heap.size + 1 = q := ⟨_, rfl⟩
   obtain ⟨qE, hqE⟩ : ∃ q, w6.heap.size + 1 + 1 = q := ⟨_, rfl⟩
   obtain ⟨qN, hqN⟩ : ∃ q, w6.heap.size + 1 = q := ⟨_, rfl⟩
   rw [hqR] at bR9 ⊢
   rw [hqL] at bL9 ⊢
   rw [hqE] at bE ⊢
   rw [hqN] at bN ⊢
   have hA := Aside0.mk (show qL = w.heap.size + 1 ∧ qR = w.heap.size + 2 ∧ qN = n₀ ∧ qE = n₀ + 1 ∧ n₀ = w6.heap.size + 1 ∧ w.heap.size + 3 ≤ w5.heap.size ∧ w5.heap.size ≤ b6 ∧ b6 < w6.heap.size ∧ W8.heap.size = n₀ + 2 by omega)
   clear hqR hqL hqE hqN hnw hz8 hn₀ hsz hs7 hz6 hb67 hG3 hG5 hz3 hz4 hz5 hb6 hne5 hj hlt hgood hzs hxs hzr hzg hlen
   have hrest : ∀ (D : Nat) (W : World), W8.heap.size ≤ D → W.heap[D]? = some (.deferred (some [])) → Boxed W qN 3 (.int .i64 (min lv xs.length)) → Below n₀ W8 W → K9 { tmps := #[.slice A0 l0.length c0, .int .u8 lv, .pointer (some ⟨w.heap.size, 0, none⟩), .pointer (some ⟨qL, 0, none⟩), .pointer (some ⟨qR, 0, none⟩), .slice a5 l0.length cap5, .pointer (some ⟨w6.heap.size, 0, none⟩), .int .i64 (l0.length : Int), .pointer (some ⟨qN, 0, none⟩), .pointer (some ⟨qE, 0, none⟩), undef, undef, undef, undef, undef, v4, .slice A0 l0.length c0, .slice a5 l0.length cap5, .slice a5 l0.length cap5, .func (.func 45) #[] #[.pointer (some ⟨b6, 0, none⟩)], .func (.func 45) #[] #[.pointer (some ⟨b6, 0, none⟩)], .bool false, .int .i64 (l0.length : Int), .slice a5 l0.length cap5, .int .i64 (l0.length : Int), .bool false, u26, u27, u28, u29, u30, u31, .func (.func 45) #[] #[.pointer (some ⟨b6, 0, none⟩)], undef, undef, undef, undef, undef, undef, undef, undef, undef, undef, undef, undef, undef, undef, undef, undef, undef, undef, undef, undef, undef, undef, undef, undef, undef, undef, undef, undef, undef, undef, undef, undef, undef, undef, undef, undef, undef, undef, undef, undef, undef, undef, undef, undef, undef], defers := [{ target := .collected D, args := #[] }] } W := by
    intro D W hD hKD bN1 hB1
    refine hK9 _ _ ?_
    have bW1 := boxBelow bW9 hB1 Z13
    have cW1 := (bW1.alloc (.cells #[.int .i64 0] 3)).cell
    go_wp2_with fail
    have bM := Boxed.new W 3 (.int .i64 0)
    have hbM : Below W.heap.size W (W.alloc (.cells #[.int .i64 0] 3)) := (Below.refl _ W).alloc (Nat.le_refl _) _
    have hzM : (W.alloc (.cells #[.int .i64 0] 3)).heap.size = W.heap.size + 1 := by simp
    have hnM : n₀ + 2 ≤ W.heap.size := by have := hA.out; have := hB1.size; omega
    rename_i K10 hK10
    have hKD2 : (W.alloc (.cells #[.int .i64 0] 3)).heap[D]? = some (.deferred (some [])) := (Below.heap_alloc W _ D (Array.getElem?_eq_some_iff.1 hKD).1).trans hKD
    have hDW : D < W.heap.size := (Array.getElem?_eq_some_iff.1 hKD).1
    have hBn : Below n₀ W8 (W.alloc (.cells #[.int .i64 0] 3)) := hB1.trans (hbM.mono Z12)
    have bN2 := bN1.alloc (.cells #[.int .i64 0] 3)
    obtain ⟨qM, hqM⟩ : ∃ q, W.heap.size = q := ⟨_, rfl⟩
    obtain ⟨W10, hW10⟩ : ∃ W10, W.alloc (.cells #[.int .i64 0] 3) = W10 := ⟨_, rfl⟩
    rw [hqM] at bM hzM hnM hDW ⊢
    rw [hW10] at bM hzM hKD2 hBn bN2 ⊢
    clear hbM hqM hW10 cW1 bW1 hKD bN1 hB1
    clear W
    have hA2 := Aside0.mk (show n₀ + 2 ≤ qM ∧ W10.heap.size = qM + 1 ∧ W8.heap.size ≤ D ∧ D < qM from ⟨hnM, hzM, hD, hDW⟩)
    clear hnM hzM hD hDW
    have hfin : ∀ (D2 : Nat) (W : World), W10.heap.size ≤ D2 → W.heap[D2]? = some (.deferred (some [])) → Boxed W qM 3 (.int .i64 (min 4 xs.length)) → Below qM W10 W → K10 { tmps := #[.slice A0 l0.length c0, .int .u8 lv, .pointer (some ⟨w.heap.size, 0, none⟩), .pointer (some ⟨qL, 0, none⟩), .pointer (some ⟨qR, 0, none⟩), .slice a5 l0.length cap5, .pointer (some ⟨w6.heap.size, 0, none⟩), .int .i64 (l0.length : Int), .pointer (some ⟨qN, 0, none⟩), .pointer (some ⟨qE, 0, none⟩), undef, .pointer (some ⟨qM, 0, none⟩), undef, undef, undef, v4, .slice A0 l0.length c0, .slice a5 l0.length cap5, .slice a5 l0.length cap5, .func (.func 45) #[] #[.pointer (some ⟨b6, 0, none⟩)], .func (.func 45) #[] #[.pointer (some ⟨b6, 0, none⟩)], .bool false, .int .i64 (l0.length : Int), .slice a5 l0.length cap5, .int .i64 (l0.length : Int), .bool false, u26, u27, u28, u29, u30, u31, .func (.func 45) #[] #[.pointer (some ⟨b6, 0, none⟩)], undef, undef, undef, undef, undef, undef, undef, undef, undef, undef, undef, undef, undef, undef, undef, undef, undef, .func (.func 45) #[] #[.pointer (some ⟨b6, 0, none⟩)], undef, undef, undef, undef, undef, undef, undef, undef, undef, undef, undef, undef, undef, undef, undef, undef, undef, undef, undef, undef, undef, undef, undef, undef, undef, undef, undef], defers := [{ target := .collected D2, args := #[] }, { target := .collected D, args := #[] }] } W := by
     intro D2 W hD2 hKD3 bM1 hB1
     refine hK10 _ _ ?_
     have hq := Aside0.mk hA2.out
     have hq0 := Aside0.mk hA.out
     have hBW : Below n₀ W8 W := hBn.trans (hB1.mono (by have := hA2.out; omega))
     have hBB : Below w.heap.size w W := hB8.trans (hBW.mono Z13)
     have hzW := hB1.size
     have hCW : Kd.C k36 W A0 l0.length l0 := Kd.C_below hr0 hBB
     have bS1 := boxBelow bS9 hBW Z13
     have bL1 := boxBelow bL9 hBW Z13
     have bR1 := boxBelow bR9 hBW Z13
     have bN1 := boxBelow bN2 hB1 (by have := hA.out; have := hA2.out; omega)
     have cS1 := bS1.cell
     have hAt : ∀ W3, Below W.heap.size W W3 → Boxed W3 qN 3 (.int .i64 (min lv xs.length)) ∧ Boxed W3 qM 3 (.int .i64 (min 4 xs.length)) ∧ Boxed W3 qL 5 (.int .u8 lv) ∧ Boxed W3 qR 4 (.bool false) ∧ W3.heap[D2]? = some (.deferred (some [])) ∧ W3.heap[D]? = some (.deferred (some [])) := fun W3 h => ⟨boxBelow bN1 h bN1.lt, boxBelow bM1 h bM1.lt, boxBelow bL1 h bL1.lt, boxBelow bR1 h bR1.lt, (h.block _ (Array.getElem?_eq_some_iff.1 hKD3).1).trans hKD3, (h.block _ (by have := hA2.out; omega)).trans ((hB1.block _ (by have := hA2.out; omega)).trans hKD2)⟩
     go_wp2_with (first | (go_at_call 20; refine (quoinref02_Size.calls k _ _ l0 _ W hCW hc0 hSize).mono ?_; rintro e3 W3 ⟨rfl, hd3⟩; obtain ⟨bN3, bM3, bL3, bR3, _, _⟩ := hAt W3 hd3.below; have cN3 := bN3.cell; have cM3 := bM3.cell; have cL3 := bL3.cell) | (go_at_call 16; refine (quoinlaw02_awake.calls hAw).mono ?_; rintro e4 W4 ⟨rfl, hb4⟩; have hB4 := hd3.below.trans (hb4.mono hd3.below.size); obtain ⟨bN4, bM4, bL4, bR4, hk1, hk2⟩ := hAt W4 hB4; have cR4 := bR4.cell; have fR4 := bR4.frozen))
     all_goals
      have bR5 := bR4.set (.bool true)
      have hk3 : (W4.setCell ⟨qR, 0, none⟩ (.bool true)).heap[D2]? = some (.deferred (some [])) := (setCell_other W4 qR 0 _ D2 (by have := hA.out; have := hA2.out; omega)).trans hk1
      have hk4 : (W4.setCell ⟨qR, 0, none⟩ (.bool true)).heap[D]? = some (.deferred (some [])) := (setCell_other W4 qR 0 _ D (by have := hA.out; have := hA2.out; omega)).trans hk2
      obtain ⟨W5, hW5⟩ : ∃ W5, W4.setCell ⟨qR, 0, none⟩ (.bool true) = W5 := ⟨_, rfl⟩
      have hB5 : Below w.heap.size w W5 := by rw [← hW5]; exact (hBB.trans (hB4.mono (by have := hBB.size; omega))).setCell (p := ⟨qR, 0, none⟩) (by have := hA.out; show w.heap.size ≤ qR; omega) _
      rw [hW5] at bR5 hk3 hk4
      first | rw [hW5] | (rw [show World.setCell W4 _ _ = W5 from hW5])
      have hne : D ≠ D2 := by have := hA2.out; omega
      have hk5 : (W5.putObj D2 (.deferred none)).heap[D]? = some (.deferred (some [])) := ((grownBy_putObj' W5 D2 (.deferred none)).block D (Array.getElem?_eq_some_iff.1 hk4).1 (fun e => hne (Option.some.inj e))).trans hk4
      have bR6 : Boxed (W5.putObj D2 (.deferred none)) qR 4 (.bool true) := bR5.kept (grownBy_putObj' W5 D2 _) (fun e => by have := hA.out; have := hA2.out; have := Option.some.inj e; omega)
      have bR7 : Boxed ((W5.putObj D2 (.deferred none)).putObj D (.deferred none)) qR 4 (.bool true) := bR6.kept (grownBy_putObj' _ D _) (fun e => by have := hA.out; have := hA2.out; have := Option.some.inj e; omega)
      refine ⟨by simp, .inl ⟨_, _, rfl, run_takeDeferred hk3, ?_⟩⟩
      refine ⟨by simp, .inl ⟨_, _, rfl, run_takeDeferred hk5, ?_⟩⟩
      have hB6 := hB5.trans (belowK_b (w := w) (Nat.le_refl _) W5 D2 _ (.deferred none) (by have := hA.out; have := hA2.out; have := hBB.size; omega) hk3 rfl rfl)
      have hB7 := hB6.trans (belowK_b (w := w) (Nat.le_refl _) _ D _ (.deferred none) (by have := hA.out; have := hA2.out; have := hB8.size; omega) hk5 rfl rfl)
      refine ⟨_, ?_, rfl, hB7⟩
      exact results_f5 _ _ qR true rfl bR7.cell
    clear hK10
    refine (wpIn_wide (n := 12)).1 ?_
    refine wpIn_rangeFunc_ownH rfl (by decide) (gf := 45) (lb := #[.pointer (some ⟨b6, 0, none⟩)]) rfl trivial (enters_of Tryd.func45 Z10 rfl)
     (hseq W10 (by have := hA2.out; omega) hBn (fun i => i = qM) (fun i h => by have := hA2.out; subst h; omega) (12 - 1) (by decide)) (fun h1 h2 => KpS.trans h1 h2) (fun W l o o' _ h c _ => KpS.put W l o o' h c) (Below.refl _ _) (fun _ => rfl)
     (fun pre W => Boxed W qM 3 (.int .i64 (pre.length : Int)) ∧ (Below qM W10 W ∧ pre.length ≤ 3))
     (fun c pre W => (c = .exit 4 ∧ ((Boxed W qM 3 (.int .i64 4) ∧ pre.length = 4) ∧ Below qM W10 W)) ∨ ¬ pre <+: xs)
     ?hI ?hIx ⟨by simpa using bM, Below.refl _ _, by simp⟩
     (fun x a' W => ∃ Bx, qM < Bx ∧ Boxed W Bx 21 (.int .i32 x) ∧ a' = { tmps := #[.slice A0 l0.length c0, .int .u8 lv, .pointer (some ⟨w.heap.size, 0, none⟩), .pointer (some ⟨qL, 0, none⟩), .pointer (some ⟨qR, 0, none⟩), .slice a5 l0.length cap5, .pointer (some ⟨w6.heap.size, 0, none⟩), .int .i64 (l0.length : Int), .pointer (some ⟨qN, 0, none⟩), .pointer (some ⟨qE, 0, none⟩), undef, .pointer (some ⟨qM, 0, none⟩), .pointer (some ⟨Bx, 0, none⟩), undef, undef, v4, .slice A0 l0.length c0, .slice a5 l0.length cap5, .slice a5 l0.length cap5, .func (.func 45) #[] #[.pointer (some ⟨b6, 0, none⟩)], .func (.func 45) #[] #[.pointer (some ⟨b6, 0, none⟩)], .bool false, .int .i64 (l0.length : Int), .slice a5 l0.length cap5, .int .i64 (l0.length : Int), .bool false, u26, u27, u28, u29, u30, u31, .func (.func 45) #[] #[.pointer (some ⟨b6, 0, none⟩)], undef, undef, undef, undef, undef, undef, undef, undef, undef, undef, undef, undef, undef, undef, undef, undef, undef, .func (.func 45) #[] #[.pointer (some ⟨b6, 0, none⟩)], .int .i32 x, undef, undef, undef, undef, undef, undef, undef, undef, undef, undef, undef, undef, undef, undef, undef, undef, undef, undef, undef, undef, undef, undef, undef, undef, undef, undef], defers := [] })
     (fun x a' _ X Y row hs hg hr => by obtain ⟨Bx, h1, h2, h3⟩ := hs; exact ⟨Bx, h1, boxed_own Bx 21 (fun (_ : Unit) => Value.int .i32 x) () X Y row h2 hg (fun r e => (hr r e).2), h3⟩)
     ?assign ?body ?done ?stop
    case hI => exact OwnFrom.and (Own.from (boxed_own _ _ _) _) (OwnFrom.and (ownFrom_below (by have := hA2.out; omega) (by have := hA2.out; omega)) (ownFrom_pure _ _))
    case hIx =>
     intro c s X Y row hs hg hr
     rcases hs with ⟨hc, h1, h2⟩ | h
     ·refine .inl ⟨hc, ⟨?_, h1.2⟩, ?_⟩
      ·exact Own.from (boxed_own (β := Unit) qM 3 (fun _ => .int .i64 4)) W10.heap.size () X Y row h1.1 hg hr
      ·exact ownFrom_below (β := Unit) (n₀ := qM) (B := W10.heap.size) (w₀ := W10) (by have := hA2.out; omega) (by have := hA2.out; omega) () X Y row h2 hg hr
     ·exact .inr h
    case assign =>
     rintro l pre x W K ⟨bM1, hB1, hn1⟩ hK
     gi_wp2
     exact hK _ _ ((KeepsOthers.alloc _ _).from _) (KpS.alloc W _) ⟨bM1.alloc _, hB1.alloc (by have := hA2.out; have := hB1.size; omega) _, hn1⟩ ⟨W.heap.size, bM1.lt, Boxed.new W 21 _, rfl⟩
    case body =>
     rintro l pre x a' W hl ⟨r, hr⟩ ⟨bM1, hB1, hn1⟩ ⟨Bx, hBx, bX, rfl⟩ hlt
     have h1' : 1 ≤ 12 - 1 - 1 := by decide
     have hBn1 : Below n₀ W8 W := hBn.trans (hB1.mono (by have := hA2.out; omega))
     have cW1 := (boxBelow bW9 hBn1 Z13).cell
     gi_wp2
     have hW1 : n₀ + 2 ≤ W.heap.size := by have := hA2.out; have := hB1.size; omega
     refine wpIn_rangeFunc_ownN (encs := fun x : Int => #[Value.int .i32 x]) (Kp := KpS (fun _ => False)) (l₀ := l) (r₀ := r) rfl hr h1' (gf := 45) (lb := #[.pointer (some ⟨b6, 0, none⟩)]) rfl trivial (enters_of Tryd.func45 Z10 rfl)
      ((hseq W hW1 hBn1 (fun _ => False) (fun i h => h.elim) (12 - 1 - 1 - 1) (by decide)).inRound l) (fun h1 h2 => KpS.trans h1 h2) (fun W l o o' _ h c _ => KpS.put W l o o' h c) (Below.refl _ _) (fun _ => rfl)
      (fun pre' W' => pre' = [] ∧ (KpS (fun _ => False) W W' ∧ (Below qM W W' ∧ KeepsFrom W10.heap.size W W')))
      (fun c pre' W' => ((c = .exit 6 ∧ (KpS (fun _ => False) W W' ∧ Below qM W W')) ∨ (c = .ret ∧ (pre' <+: xs → ¬ pre ++ [x] <+: xs))) ∧ KeepsFrom W10.heap.size W W')
      ?hI2 ?hIx2 ⟨rfl, KpS.refl _ _, Below.refl _ _, KeepsFrom.refl _ _⟩
      (fun y a'' _ => a'' = { tmps := #[.slice A0 l0.length c0, .int .u8 lv, .pointer (some ⟨w.heap.size, 0, none⟩), .pointer (some ⟨qL, 0, none⟩), .pointer (some ⟨qR, 0, none⟩), .slice a5 l0.length cap5, .pointer (some ⟨w6.heap.size, 0, none⟩), .int .i64 (l0.length : Int), .pointer (some ⟨qN, 0, none⟩), .pointer (some ⟨qE, 0, none⟩), undef, .pointer (some ⟨qM, 0, none⟩), .pointer (some ⟨Bx, 0, none⟩), .int .i32 y, undef, v4, .slice A0 l0.length c0, .slice a5 l0.length cap5, .slice a5 l0.length cap5, .func (.func 45) #[] #[.pointer (some ⟨b6, 0, none⟩)], .func (.func 45) #[] #[.pointer (some ⟨b6, 0, none⟩)], .bool false, .int .i64 (l0.length : Int), .slice a5 l0.length cap5, .int .i64 (l0.length : Int), .bool false, u26, u27, u28, u29, u30, u31, .func (.func 45) #[] #[.pointer (some ⟨b6, 0, none⟩)], undef, undef, undef, undef, undef, undef, undef, undef, undef, undef, undef, undef, undef, undef, undef, undef, undef, .func (.func 45) #[] #[.pointer (some ⟨b6, 0, none⟩)], .int .i32 x, .func (.func 45) #[] #[.pointer (some ⟨b6, 0, none⟩)], .int .i32 y, undef, undef, undef, undef, undef, undef, undef, undef, undef, undef, undef, undef, undef, undef, undef, undef, undef, undef, undef, undef, undef, undef, undef, undef], defers := [] })
      (fun _ _ _ _ _ _ hs _ _ => hs)
      ?assign2 ?body2 ?done2 ?stop2
     case hI2 => exact OwnFrom.and (ownFrom_pure _ _) (OwnFrom.and (kpsOwn _ _ _) (OwnFrom.and (ownFrom_below (by have := hA2.out; have := hB1.size; omega) (by have := hA2.out; have := hB1.size; omega)) (ownFrom_keepsFrom (Nat.le_refl _))))
     case hIx2 =>
      intro c s X Y row hs hg hr
      obtain ⟨h1, h2⟩ := hs
      refine ⟨?_, ownFrom_keepsFrom (β := Unit) (B := W10.heap.size) (w₀ := W) (Nat.le_refl _) () X Y row h2 hg hr⟩
      rcases h1 with ⟨hc, h3, h4⟩ | h
      ·exact .inl ⟨hc, kpsOwn (β := Unit) W.heap.size (fun _ => False) W () X Y row h3 hg hr, ownFrom_below (β := Unit) (n₀ := qM) (B := W.heap.size) (w₀ := W) (by have := hA2.out; have := hB1.size; omega) (by have := hA2.out; have := hB1.size; omega) () X Y row h4 hg hr⟩
      ·exact .inr h
     case assign2 =>
      rintro l2 pre' y W' K hi hK
      gi_wp2
      exact hK _ _ (KeepsFrom.refl _ _) (KpS.refl _ _) hi rfl
     case body2 =>
      rintro l2 pre' y a'' W' _ _ ⟨rfl, hk2, hB2, hKF⟩ rfl _
      have bX2 : Boxed W' Bx 21 (.int .i32 x) := hk2.2 Bx _ bX rfl (fun h => h)
      have cX := bX2.cell
      have bR2 := boxBelow (boxBelow bR9 hBn1 Z13) hB2 (by have := hA.out; have := hA2.out; omega)
      have cR := bR2.cell
      have fR := bR2.frozen
      by_cases c : x < y
      ·gi_wp2
       refine ⟨(KeepsOthers.setCell _ _ _).from _, .inr ⟨rfl, fun hp hq => ?_⟩, hKF.trans ((KeepsOthers.setCell _ _ _).from _)⟩
       exact notFirst hsort hp hq c
      ·gi_wp2
       exact ⟨KeepsFrom.refl _ _, .inl ⟨rfl, hk2, hB2⟩, hKF⟩
     case done2 =>
      rintro ys W' hys ⟨_, hk2, hB2, hKF⟩
      have bM2 : Boxed W' qM 3 (.int .i64 (pre.length : Int)) := hk2.2 qM _ bM1 rfl (fun h => h)
      have cM2 := bM2.cell
      have fM2 := bM2.frozen
      have hz2 := hB1.size
      have hlen2 : (pre ++ [x]).length = pre.length + 1 := by simp
      have hq := Aside0.mk hA2.out
      by_cases c3 : 3 < (pre.length : Int) + 1
      ·have c4 : (pre.length : Int) = 3 := by omega
       have cM3 := (bM2.set (.int .i64 ((pre.length : Int) + 1))).cell
       gi_wp2
       refine ⟨hKF.trans ((KeepsOthers.setCell _ _ _).from _), .inl ⟨rfl, ⟨?_, Z12⟩, (hB1.trans hB2).setCell (p := ⟨qM, 0, none⟩) (Nat.le_refl _) _⟩⟩
       have := bM2.set (.int .i64 4)
       first | exact this | (rw [c4]; exact this) | (rw [show (pre.length : Int) + 1 = 4 by omega]; exact this)
      ·have cM3 := (bM2.set (.int .i64 ((pre.length : Int) + 1))).cell
       gi_wp2
       refine ⟨hKF.trans ((KeepsOthers.setCell _ _ _).from _), KpS.trans ⟨hk2.1, fun i o h1 h2 h3 => hk2.2 i o h1 h2 (fun h => h)⟩ (KpS.set _ qM _ rfl), ?_, (hB1.trans hB2).setCell (p := ⟨qM, 0, none⟩) (Nat.le_refl _) _, Z12⟩
       rw [hlen2]
       exact bM2.set _
     case stop2 =>
      rintro c pre' W' hp hx
      obtain ⟨⟨rfl, hk2, hB2⟩ | ⟨rfl, h⟩, hKF⟩ := hx
      ·have bM2 : Boxed W' qM 3 (.int .i64 (pre.length : Int)) := hk2.2 qM _ bM1 rfl (fun h => h)
       have cM2 := bM2.cell
       have fM2 := bM2.frozen
       have hz2 := hB1.size
       have hlen2 : (pre ++ [x]).length = pre.length + 1 := by simp
       have hq := Aside0.mk hA2.out
       by_cases c3 : 3 < (pre.length : Int) + 1
       ·have c4 : (pre.length : Int) = 3 := by omega
        have cM3 := (bM2.set (.int .i64 ((pre.length : Int) + 1))).cell
        gi_wp2
        refine ⟨hKF.trans ((KeepsOthers.setCell _ _ _).from _), .inl ⟨rfl, ⟨?_, Z12⟩, (hB1.trans hB2).setCell (p := ⟨qM, 0, none⟩) (Nat.le_refl _) _⟩⟩
        have := bM2.set (.int .i64 4)
        first | exact this | (rw [c4]; exact this) | (rw [show (pre.length : Int) + 1 = 4 by omega]; exact this)
       ·have cM3 := (bM2.set (.int .i64 ((pre.length : Int) + 1))).cell
        gi_wp2
        refine ⟨hKF.trans ((KeepsOthers.setCell _ _ _).from _), KpS.trans ⟨hk2.1, fun i o h1 h2 h3 => hk2.2 i o h1 h2 (fun h => h)⟩ (KpS.set _ qM _ rfl), ?_, (hB1.trans hB2).setCell (p := ⟨qM, 0, none⟩) (Nat.le_refl _) _, Z12⟩
        rw [hlen2]
        exact bM2.set _
      ·gi_wp2
       exact ⟨hKF, .inr (h hp)⟩
    case done =>
     rintro D2 ys W hD2 rfl ⟨bM1, hB1, hn1⟩ hK
     refine hfin D2 W hD2 hK ?_ hB1
     rw [show min 4 (ys.length : Int) = (ys.length : Int) by omega]
     exact bM1
    case stop =>
     rintro D2 c pre W hD2 hp hx hK
     rcases hx with ⟨rfl, ⟨bM1, hn1⟩, hB1⟩ | h
     ·gi_wp2
      refine hfin D2 W hD2 hK ?_ hB1
      have := hp.length_le
      rw [show min 4 (xs.length : Int) = 4 by omega]
      exact bM1
     ·exact absurd hp h
   clear hK9
   refine (wpIn_wide (n := 12)).1 ?_
   refine wpIn_rangeFunc_ownF rfl (by decide) (gf := 45) (lb := #[.pointer (some ⟨b6, 0, none⟩)]) rfl trivial (enters_of Tryd.func45 Z10 rfl)
    (hseq W8 Z13 (Below.refl _ _) (fun i => n₀ ≤ i ∧ i < n₀ + 2) (fun i h => ⟨h.1, Z13⟩) (12 - 1) (by decide)) (fun h1 h2 => KpS.trans h1 h2) (fun W l o o' _ h c _ => KpS.put W l o o' h c) (Below.refl _ _) (fun _ => rfl)
    (fun pre W => (Boxed W (qN) 3 (.int .i64 (pre.length : Int)) ∧ Boxed W (qE) 21 (.int .i32 (pre.getLastD (-1)))) ∧ (Below n₀ W8 W ∧ (pre.length : Int) ≤ lv))
    (fun c pre W => (c = .exit 2 ∧ ((Boxed W (qN) 3 (.int .i64 lv) ∧ (pre.length : Int) = lv + 1) ∧ Below n₀ W8 W)) ∨ ¬ pre <+: xs)
    ?hI ?hIx ⟨⟨by simpa using bN, by simpa using bE⟩, Below.refl _ _, by simpa using hl0⟩
    (fun x => { tmps := #[.slice A0 l0.length c0, .int .u8 lv, .pointer (some ⟨w.heap.size, 0, none⟩), .pointer (some ⟨qL, 0, none⟩), .pointer (some ⟨qR, 0, none⟩), .slice a5 l0.length cap5, .pointer (some ⟨w6.heap.size, 0, none⟩), .int .i64 (l0.length : Int), .pointer (some ⟨qN, 0, none⟩), .pointer (some ⟨qE, 0, none⟩), .int .i32 x, undef, undef, undef, undef, v4, .slice A0 l0.length c0, .slice a5 l0.length cap5, .slice a5 l0.length cap5, .func (.func 45) #[] #[.pointer (some ⟨b6, 0, none⟩)], .func (.func 45) #[] #[.pointer (some ⟨b6, 0, none⟩)], .bool false, .int .i64 (l0.length : Int), .slice a5 l0.length cap5, .int .i64 (l0.length : Int), .bool false, u26, u27, u28, u29, u30, u31, .func (.func 45) #[] #[.pointer (some ⟨b6, 0, none⟩)], .int .i32 x, undef, undef, undef, undef, undef, undef, undef, undef, undef, undef, undef, undef, undef, undef, undef, undef, undef, undef, undef, undef, undef, undef, undef, undef, undef, undef, undef, undef, undef, undef, undef, undef, undef, undef, undef, undef, undef, undef, undef, undef, undef, undef, undef, undef], defers := [] })
    ?assign ?body ?done ?stop
   case hI => exact OwnFrom.and (OwnFrom.and (Own.from (boxed_own _ _ _) _) (Own.from (boxed_own _ _ _) _)) (OwnFrom.and (ownFrom_below Z13 Z13) (ownFrom_pure _ _))
   case hIx =>
    intro c s X Y row hs hg hr
    rcases hs with ⟨hc, h1, h2⟩ | h
    ·refine .inl ⟨hc, ⟨?_, h1.2⟩, ?_⟩
     ·exact Own.from (boxed_own (β := Unit) qN 3 (fun _ => .int .i64 lv)) W8.heap.size () X Y row h1.1 hg hr
     ·exact ownFrom_below (β := Unit) (n₀ := n₀) (B := W8.heap.size) (w₀ := W8) Z13 Z13 () X Y row h2 hg hr
    ·exact .inr h
   case assign =>
    intro l x W K hK
    gi_wp2
    exact hK
   case body =>
    rintro l pre x W ⟨⟨bN1, bE1⟩, hB1, hn1⟩ _
    have h1' : 1 ≤ 12 - 1 - 1 := by decide
    have bS1 := boxBelow bS9 hB1 Z13
    have bL1 := boxBelow bL9 hB1 Z13
    have bR1 := boxBelow bR9 hB1 Z13
    have cN := bN1.cell
    have cE := bE1.cell
    have cS := bS1.cell
    have cL := bL1.cell
    have fN := bN1.frozen
    have fE := bE1.frozen
    have cR := bR1.cell
    have fR := bR1.frozen
    have hC1 : Kd.C k36 W A0 l0.length l0 := Kd.C_below hr0 (hB8.trans (hB1.mono Z13))
    have hlen1 : (pre ++ [x]).length = pre.length + 1 := by simp
    obtain ⟨la, hla⟩ : ∃ la, pre.getLastD (-1) = la := ⟨_, rfl⟩
    rw [hla] at bE1 cE
    replace hla := Aside0.mk hla
    by_cases c1 : (pre.length : Int) = lv
    ·subst c1
     gi_wp2
     exact ⟨KeepsOthers.refl _, .inl ⟨rfl, ⟨bN1, by rw [hlen1]; omega⟩, hB1⟩⟩
    ·by_cases c2 : x ≤ la
     ·gi_wp2_with (refine ⟨trivial, ?_⟩)
      exact ⟨KeepsOthers.setCell _ _ _, .inr (notPre hsort hpos (by rw [hla.out]; exact c2))⟩
     ·have hAr : ∀ W2, Drawn0 W W2 → Below W.heap.size W W2 ∧ (Boxed W2 qN 3 (.int .i64 (pre.length : Int)) ∧ Boxed W2 qE 21 (.int .i32 la) ∧ Boxed W2 qR 4 (.bool false)) := fun W2 hd => ⟨hd.below, boxBelow bN1 hd.below bN1.lt, boxBelow bE1 hd.below bE1.lt, boxBelow bR1 hd.below bR1.lt⟩
      cases hbx1 : hb x with
      | false =>
       gi_wp2_with (refine ⟨trivial, ?_⟩; gi_at_call 22; refine (CallsIn.inRound l (callsIn_wide.2 (quoinref02_Has.calls k _ _ l0 x false W hC1 hc0 ((hHas x).trans (congrArg some hbx1))))).mono ?_; rintro e2 W2 ⟨rfl, hd2⟩; obtain ⟨hb2, bN2, bE2, bR2⟩ := hAr W2 hd2; have cN2 := bN2.cell; have cE2 := bE2.cell; have fN2 := bN2.frozen; have fE2 := bE2.frozen; have cR2 := bR2.cell; have fR2 := bR2.frozen)
       exact ⟨(keepsBelow hb2).trans (KeepsOthers.setCell _ _ _), .inr (fun hp => by have := hbx x (hp.subset (by simp)); rw [hbx1] at this; cases this)⟩
      | true =>
       gi_wp2_with (refine ⟨trivial, ?_⟩; gi_at_call 22; refine (CallsIn.inRound l (callsIn_wide.2 (quoinref02_Has.calls k _ _ l0 x true W hC1 hc0 ((hHas x).trans (congrArg some hbx1))))).mono ?_; rintro e2 W2 ⟨rfl, hd2⟩; obtain ⟨hb2, bN2, bE2, bR2⟩ := hAr W2 hd2; have cN2 := bN2.cell; have cE2 := bE2.cell; have fN2 := bN2.frozen; have fE2 := bE2.frozen; have cN3 := (bN2.other (B' := qE) Z13 (.int .i32 x)).cell; have fN3 := (bN2.other (B' := qE) Z13 (.int .i32 x)).frozen)
       have hq := hA.out
       have hgl : (pre ++ [x]).getLastD (-1) = x := by simp [List.getLastD_eq_getLast?]
       have hW2 : n₀ ≤ W2.heap.size := by have := hB1.size; have := hb2.size; omega
       refine ⟨((keepsBelow hb2).trans (KeepsOthers.setCell _ _ _)).trans (KeepsOthers.setCell _ _ _), ((KpS.below hb2).trans (KpS.set W2 qE _ Z12)).trans (KpS.set _ qN _ Z12), ⟨⟨?_, ?_⟩, ?_, ?_⟩⟩
       ·rw [hlen1]
        exact (bN2.other Z12 _).set _
       ·rw [hgl]
        exact (bE2.set _).other Z12 _
       ·exact ((hB1.trans (hb2.mono (by have := hB1.size; omega))).setCell (p := ⟨qE, 0, none⟩) (by show n₀ ≤ qE; omega) _).setCell (p := ⟨qN, 0, none⟩) (by show n₀ ≤ qN; omega) _
       ·rw [hlen1]; omega
   case done =>
    rintro D ys W hD rfl ⟨⟨bN1, bE1⟩, hB1, hn1⟩ hK
    refine hrest D W hD hK ?_ hB1
    rw [show min lv (ys.length : Int) = (ys.length : Int) by omega]
    exact bN1
   case stop =>
    rintro D c pre W hD hp hx hK
    rcases hx with ⟨rfl, ⟨bN1, hn1⟩, hB1⟩ | h
    ·gi_wp2
     refine hrest D W hD hK ?_ hB1
     have := hp.length_le
     rw [show min lv (xs.length : Int) = lv by omega]
     exact bN1
    ·exact absurd hp h
def quoinlaw02_RunesWalks.Facts (k : Nat) (l0 : List S36) (a1 : Int) : Prop := (0 ≤ a1 ∧ a1 ≤ 255) ∧ l0.length < 17592186044416 ∧ ∃ (e : Int) (zs : List S36) (xs : List Int) (hb : Int → Bool), runes_Check.f k l0 = some e ∧ (e = 0 → l0.length ≤ 2048 ∧ ∀ t ∈ l0, goodR t) ∧ (if e = 0 then l0 else []) = zs ∧ xs = allR zs ∧ xs.Pairwise (· < ·) ∧ (∀ x ∈ xs, 0 ≤ x ∧ x ≤ 1114111) ∧ (∀ r, quoinref02_Has.f k l0 r = some (hb r)) ∧ (∀ x ∈ xs, hb x = true) ∧ quoinref02_Size.f k l0 = some (xs.length : Int) ∧ quoinlaw02_awake.f k = some true
open Classical in
noncomputable def quoinlaw02_RunesWalks.f (k : Nat) (l0 : List S36) (a1 : Int) : Option Bool := if quoinlaw02_RunesWalks.Facts k l0 a1 then some true else none
theorem quoinlaw02_RunesWalks.calls (k : Nat) (A0 : Option Addr) (c0 : Nat) (l0 : List S36) (a1 : Int) (r : Bool) (w : World) (hr0 : Kd.C k36 w A0 l0.length l0) (hc0 : l0.length ≤ c0) (h : quoinlaw02_RunesWalks.f k l0 a1 = some r) :
  Calls Tryd.prog 5 #[.slice A0 l0.length c0, .int .u8 a1] w fun e w' => e = .returned (.bool r) ∧ Below w.heap.size w w' := by
 unfold quoinlaw02_RunesWalks.f at h
 by_cases c : quoinlaw02_RunesWalks.Facts k l0 a1
 ·rw [if_pos c] at h
  obtain rfl := Option.some.inj h
  obtain ⟨⟨h0, h1⟩, h2, e, zs, xs, hb, b1, b2, b3, b4, b5, b6, b7, b8, b9, b10⟩ := c
  exact quoinlaw02_RunesWalks.walks k A0 c0 l0 a1 h0 h1 w hr0 hc0 h2 e b1 b2 zs b3 xs b4 b5 b6 hb b7 b8 b9 b10
 ·rw [if_neg c] at h
  exact absurd h (by simp)
def quoinlaw02_RunesWalks.Pure : Prop := ∀ (l0 : List (S36)) (a1 : Int), l0.length ≤ 9223372036854775807 → l0.length * 8 ≤ 140737488351232 → (∀ x ∈ l0, (Lit.int .i32 x.f0).wf = true ∧ (Lit.int .i32 x.f1).wf = true) → (Lit.int .u8 a1).wf = true → ∃ k, quoinlaw02_RunesWalks.f k l0 a1 = some true
theorem quoinlaw02_RunesWalks.walk (P : quoinlaw02_RunesWalks.Pure) (A0 : Option Addr) (c0 : Nat) (l0 : List (S36)) (a1 : Int) (w : World) (hr0 : Kd.C k36 w A0 l0.length l0) (hc0 : l0.length ≤ c0) (w0_0 : l0.length ≤ 9223372036854775807) (w0_1 : l0.length * 8 ≤ 140737488351232) (w0_2 : (∀ x ∈ l0, (Lit.int .i32 x.f0).wf = true ∧ (Lit.int .i32 x.f1).wf = true)) (w1_0 : (Lit.int .u8 a1).wf = true) :
  Calls Tryd.prog 5 #[.slice A0 l0.length c0, .int .u8 a1] w fun e w' => e = .returned (.bool true) ∧ Below w.heap.size w w' := by
 obtain ⟨k, h⟩ := P l0 a1 w0_0 w0_1 w0_2 w1_0
 refine (quoinlaw02_RunesWalks.calls k _ _ l0 a1 true w hr0 hc0 h).mono ?_
 rintro e w' ⟨rfl, hd⟩
 exact ⟨rfl, hd⟩
end Go.Proofs.YtfnkboilepgmoaaDoor.R
