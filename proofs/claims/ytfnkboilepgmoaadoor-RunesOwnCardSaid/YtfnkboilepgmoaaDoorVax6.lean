import Derived.Test.YtfnkboilepgmoaaDoorVPre
import Derived.Test.YtfnkboilepgmoaaDoorVax1
import Derived.Test.YtfnkboilepgmoaaDoorVax5
namespace Go.Proofs.YtfnkboilepgmoaaDoor.R
open Go.RowKit Go.Proofs.YtfnkboilepgmoaaDoorW.PrintWords Go.Proofs.YtfnkboilepgmoaaDoorW.PrintLast Go.Proofs.YtfnkboilepgmoaaDoorW.PrintMore
attribute [local go_sem] max2_int min2_int max_two min_two max_three min_three max_four min_four
set_option linter.unusedVariables false
set_option linter.unusedSimpArgs false
def compactI (l : List Int) : List Int := Lib.compactUpTo l.toArray l.toArray.size
theorem compactI.le (l : List Int) : (compactI l).length ≤ l.length := by
 unfold compactI Lib.compactUpTo
 rw [List.length_map]
 exact Nat.le_trans (List.length_filter_le _ _) Z25
def slices_Compact_rune_rune.f (l0 : List Int) : Option (List Int) := if 0 < l0.length then some (compactI l0) else none
def slices_Compact_rune_rune.ren : Go.Shelf.Ren := ⟨fun | 43 => 62 | n => n, fun | 22 => 56 | 23 => 21 | n => n, fun n => n⟩
theorem slices_Compact_rune_rune.lay : SlLaysE.n43 Tryd.prog slices_Compact_rune_rune.ren := {
 mixed := by kernel_rfl
 f43 := ⟨Tryd.f62.name, Z27, Tryd.func62.trans (congrArg some Z14)⟩
 t0 := Tryd.underlying0
 a0 := Tryd.isAgg0
 z0 := Tryd.sizeOf0
 v0 := Tryd.zeroValue0
 t3 := Tryd.underlying3
 a3 := Tryd.isAgg3
 z3 := Tryd.sizeOf3
 v3 := Tryd.zeroValue3
 t4 := Tryd.underlying4
 a4 := Tryd.isAgg4
 z4 := Tryd.sizeOf4
 v4 := Tryd.zeroValue4
 t22 := Tryd.underlying56
 a22 := Tryd.isAgg56
 z22 := Tryd.sizeOf56
 v22 := Tryd.zeroValue56
 a23 := Tryd.isAgg21
 z23 := Tryd.sizeOf21 }
theorem slices_Compact_rune_rune.calls (P0_ : Nat → Prop) (u9000_ : Value) (l0 : List Int) (r : List Int) (w0 w : World) (hB : Below w0.heap.size w0 w) (ho0 : Kd.R (Kd.int .i32) 21 w w0.heap.size P0_ u9000_ l0) (h : slices_Compact_rune_rune.f l0 = some r) :
  Calls Tryd.prog 62 #[u9000_] w fun e w' => ∃ v0_ : Value, e = .returned (v0_) ∧ Kd.R (Kd.int .i32) 21 w' w0.heap.size (fun k_ => (P0_ k_ ∨ w.heap.size ≤ k_)) v0_ r ∧ Below w0.heap.size w0 w' ∧ Kept w w' (fun k_ => P0_ k_) := by
 unfold slices_Compact_rune_rune.f at h
 by_cases c : 0 < l0.length
 rotate_left
 ·rw [if_neg c] at h; exact absurd h Z25
 rw [if_pos c] at h
 obtain rfl := Option.some.inj h
 have h0 := ho0.1
 obtain ⟨g, cap, cur, rfl, hg, hh, hc, hm, hs, hx⟩ := rowI.open ho0 c
 have hPg : P0_ g := h0 g (by simp [Value.ownBlock])
 have hs9 : l0.toArray.size = l0.length := by simp
 have hmx : l0.length ≤ 9223372036854775807 := by have := hm; unfold maxLen at this; omega
 have hcon := AnyE.slices_Compact slices_Compact_rune_rune.lay Srt.enc (fun _ => rfl) (EqlAt.intD _ _ .i32) (NeqAt.intD _ _ .i32) 0 Tryd.zeroValue21 g 0 cap l0.toArray w (rowI.holds hh hx) (by rw [hs9]; exact hmx) (by rw [hs9]; exact hc)
 rw [hs9] at hcon
 refine hcon.mono ?_
 rintro e w' ⟨rfl, q, rfl⟩
 have hce : compactI l0 = Lib.compactUpTo l0.toArray l0.length := by unfold compactI; rw [hs9]
 rw [← hce]
 have hle := compactI.le l0
 obtain ⟨D, hD⟩ : ∃ D, (compactI l0 ++ List.replicate (l0.length - (compactI l0).length) 0).toArray = D := ⟨_, rfl⟩
 have hDs : D.size = l0.length := by rw [← hD]; simp; omega
 rw [hD, ← Go.Sort.grow_empty (Go.Sort.putRow Srt.enc (Go.Sort.ahead w q) g 0 D)]
 refine ⟨_, rfl, ?_, rowI.below hB hg, rowI.kept hPg⟩
 exact rowI.shut (.inl hPg) hg (rowI.put hh) Z21 hm (by rw [← hs]; simp [Go.Sort.putCells]) (fun j p hj => rowI.got Z21 j p (by rw [← hD]; rw [List.toList_toArray, List.getElem?_append_left (List.getElem?_eq_some_iff.1 hj).1]; exact hj))
mutual
def runes_Cuts.l0 : Nat → List Int → List (List (S36)) → Int → Int → Option (List Int × Int)
 | 0, _, _, _, _ => none
 | k + 1, x5, x16, x17, x18 => if x18 < x17 then (if 0 ≤ x18 then (if x18 < (x16.length : Int) then (runes_Cuts.l1 k x5 x16 x17 x18 (rd_L2 x16 x18) ((rd_L2 x16 x18).length : Int) 0) else (none)) else (none)) else ((slices_Sort_rune_rune.f x5).bind fun t488 => ((slices_Compact_rune_rune.f t488).bind fun t489 => (if (t489.length : Int) > 2048 then (some (([] : List Int), 21)) else (some (t489, 0)))))
def runes_Cuts.l1 : Nat → List Int → List (List (S36)) → Int → Int → List (S36) → Int → Int → Option (List Int × Int)
 | 0, _, _, _, _, _, _, _ => none
 | k + 1, x5, x16, x17, x18, x22, x23, x24 => if x24 < x23 then (if 0 ≤ x24 then (if x24 < (x22.length : Int) then (if x5.length < 35184372088832 then ((some (x5 ++ [(rd_T36 x22 x24).f0] : List Int)).bind fun y482 => (if ((rd_T36 x22 x24).f1) < 1114111 then (if y482.length < 35184372088832 then (runes_Cuts.l1 k (y482 ++ [wrap32 (((rd_T36 x22 x24).f1) + 1)]) x16 x17 x18 x22 x23 (wrap64 (x24 + 1))) else (none)) else (runes_Cuts.l1 k y482 x16 x17 x18 x22 x23 (wrap64 (x24 + 1))))) else (none)) else (none)) else (none)) else (runes_Cuts.l0 k x5 x16 x17 (wrap64 (x18 + 1)))
end
def runes_Cuts.f (k : Nat) (l0 : List (List (S36))) : Option (List Int × Int) := (runes_checked.f k l0).bind fun t475 => (if t475 = 0 then (runes_Cuts.l0 k (([0] : List Int)) l0 (l0.length : Int) 0) else (some (([] : List Int), t475)))
set_option maxHeartbeats 8000000 in
set_option maxRecDepth 100000 in
theorem runes_Cuts.calls (k : Nat) (A0 : Option Addr) (c0 : Nat) (l0 : List (List (S36))) (r1 : List Int) (r2 : Int) (w : World) (hr0 : Kd.C (Kd.slice 36 k36) w A0 l0.length l0) (hc0 : l0.length ≤ c0) (h : runes_Cuts.f k l0 = some (r1, r2)) :
  Calls Tryd.prog 37 #[.slice A0 l0.length c0] w fun e w' => ∃ v0_ : Value, e = .returned (.tuple #[v0_, .int .i64 r2]) ∧ Kd.R (Kd.int .i32) 21 w' w.heap.size (fun _ => True) v0_ r1 ∧ Below w.heap.size w w' := by
 have hu36 := Tryd.underlying36
 have HR0 := Aside0.mk hr0
 have HC0 := Aside0.mk hc0
 clear hr0 hc0
 have HB := Aside0.mk (Below.refl w.heap.size w)
 have H : ((runes_checked.f k l0).bind fun t475 => (if t475 = 0 then (runes_Cuts.l0 k (([0] : List Int)) l0 (l0.length : Int) 0) else (some (([] : List Int), t475)))) = some (r1, r2) := h
 clear h
 replace H := bS H
 obtain ⟨t475, A2, H⟩ := H
 try dsimp only at H
 by_cases c3 : t475 = 0
 ·rw [if_pos c3] at H
  have c3b0 := e1 c3
  have c3b1 := e2 c3
  clear c3
  obtain ⟨y476, hy476⟩ : ∃ y_ : List Int, y_ = (([0] : List Int)) := ⟨_, rfl⟩
  replace H : (runes_Cuts.l0 k y476 l0 (l0.length : Int) 0) = some (r1, r2) := by first | (rw [hy476]; with_reducible exact H) | (have H2_ := (Option.bind_some _ _).symm.trans H; rw [hy476]; with_reducible exact H2_) | (have H2_ := (Option.bind_some _ _).symm.trans H; with_reducible exact H2_) | with_reducible exact H | (rw [hy476]; exact H) | exact H
  have Ny476 := Aside0.mk hy476
  clear hy476
  have H' := Aside0.mk H
  clear H
  go_enter Tryd.func37, Tryd.ntmps37
  go_wp2_with (first | ((with_reducible refine gC 46 rfl ?_); refine goesL_ (some 11) rfl rfl Tryd.func46 Z14 rfl #[.slice A0 l0.length c0] rfl Z2 ?_; (with_reducible refine (runes_checked.calls k _ _ l0 t475 _ ?side1 ?side2 A2.out).mono ?_); (case side1 => repeat (first | exact HR0.out | (with_reducible refine Kd.C_alloc ?_ _) | (with_reducible refine Kd.C_drewN ?_ _) | (with_reducible refine Kd.C_drew ?_))); (case side2 => exact HC0.out); rintro e w4 ⟨rfl, hb⟩; refine ⟨_, rfl, ?_⟩; replace HB := Aside0.mk (below_step zB hb); (try clear hb); (try clear hb2); (try clear hk); (try clear hi)) | ((with_reducible refine gate_dst (N := 15) rfl ?_); refine Kd.R_lit (Kd.int .i32) _ 21 ?hg (N := 15) ?hd (xs := ([0] : List Int)) (inner := [.int .i32 0]) (ok := fun _ => True) (okp := fun _ => True) ?hr ?hp (fun _ hk => hk) trivial (Below.refl _ _) (Nat.le_refl _) Z25 ?_; (case hd => rfl); (case hg => rfl); (case hr => first | (go_simp; done) | (go_simp; rfl)); (case hp => exact (Reps.one (show Kd.M (Kd.int .i32) _ _ _ 0 [.int .i32 0] from rfl) (Reps.none _ _))); intro v477 w5 ho6 hb hg_ hnew_; clear hg_ hnew_; (first | rw [← Ny476.out] at ho6 | (simp only [Int.reduceToNat] at ho6; rw [← Ny476.out] at ho6)); have HO478 := Aside0.mk (Kd.R_lower ho6 (below_size zB)); replace HB := Aside0.mk (below_step zB hb); clear hb ho6))
  go_loopg [5, 18] k (fun kq v5 v18 w' => ∃ (x5_1 : List Int) (x18_1 : Int), v18 = .int .i64 x18_1 ∧ Aside0 (runes_Cuts.l0 kq x5_1 l0 (l0.length : Int) x18_1 = some (r1, r2)) ∧ Aside0 (kq ≤ k) ∧ Aside0 (Kd.R (Kd.int .i32) 21 w' w.heap.size (fun _ => True) v5 x5_1) ∧ Aside0 (Below w.heap.size w w'))
  case atStart => exact ⟨(y476), (0), Z3, H', ⟨Nat.le_refl _⟩, ⟨by (with_reducible repeat (first | apply Kd.R_alloc | apply Kd.R_drewN | apply Kd.R_drew)); exact HO478.out⟩, ⟨Z1⟩⟩
  case round =>
   clear H'
   try clear p2
   try clear c3
   try clear c3b0
   try clear c3b1
   try clear c4
   obtain ⟨x5_1, x18_1, rfl, HA, HK1, HO_5, HB⟩ := hrel
   cases gk with
   | zero => exact absurd HA.out (by simp [runes_Cuts.l0])
   | succ k1 =>
    have H := HA.out
    clear HA
    simp only [runes_Cuts.l0] at H
    by_cases c7 : x18_1 < (l0.length : Int)
    ·rw [if_pos c7] at H
     have c7b0 := decide_eq_true c7
     clear c7
     by_cases c8 : 0 ≤ x18_1
     ·rw [if_pos c8] at H
      have c8b0 := decide_eq_true c8
      clear c8
      by_cases c9 : x18_1 < (l0.length : Int)
      ·rw [if_pos c9] at H
       have c9b0 := decide_eq_true c9
       clear c9
       have H' := Aside0.mk H
       clear H
       have p479 : 0 ≤ (x18_1 : Int) := of_decide_eq_true Z0
       have q479 : x18_1 < (l0.length : Int) := of_decide_eq_true Z0
       obtain ⟨ad479, A479_0, c479_0, e479, hx479_0, hl479_0, hi479_0⟩ := at_L2 HR0.out x18_1 p479 q479
       cases e479
       replace hx479_0 := (HB.out.cell (World.block_lt_of_cell? w _ hx479_0)).trans hx479_0
       have HR479_0 := Aside0.mk hi479_0
       have HC479_0 := Aside0.mk hl479_0
       clear hi479_0 hl479_0
       replace p479 := eq_true p479
       replace q479 := eq_true q479
       go_wp2
       go_loopg [5, 24] k1 (fun kq v5 v24 w' => ∃ (x5_2 : List Int) (x24_2 : Int), v24 = .int .i64 x24_2 ∧ Aside0 (runes_Cuts.l1 kq x5_2 l0 (l0.length : Int) x18_1 (rd_L2 l0 x18_1) ((rd_L2 l0 x18_1).length : Int) x24_2 = some (r1, r2)) ∧ Aside0 (kq ≤ k1) ∧ Aside0 (Kd.R (Kd.int .i32) 21 w' w.heap.size (fun _ => True) v5 x5_2) ∧ Aside0 (Below w.heap.size w w'))
       case atStart => exact ⟨(x5_1), (0), Z3, H', ⟨Nat.le_refl _⟩, ⟨Z26⟩, ⟨Z1⟩⟩
       case round =>
        clear H'
        try clear p2
        try clear c3
        try clear c3b0
        try clear c3b1
        try clear c4
        try clear p4
        try clear q4
        try clear hx4
        try clear c7
        try clear c7b0
        try clear c8
        try clear c8b0
        try clear c9
        try clear c9b0
        try clear hx479_0
        try clear p2
        try clear p479
        try clear q479
        obtain ⟨x5_2, x24_2, rfl, HA, HK2, HO_5, HB⟩ := hrel
        cases gk with
        | zero => exact absurd HA.out (by simp [runes_Cuts.l1])
        | succ k2 =>
         have H := HA.out
         clear HA
         simp only [runes_Cuts.l1] at H
         by_cases c10 : x24_2 < ((rd_L2 l0 x18_1).length : Int)
         ·rw [if_pos c10] at H
          have c10b0 := decide_eq_true c10
          clear c10
          by_cases c11 : 0 ≤ x24_2
          ·rw [if_pos c11] at H
           have c11b0 := decide_eq_true c11
           clear c11
           by_cases c12 : x24_2 < ((rd_L2 l0 x18_1).length : Int)
           ·rw [if_pos c12] at H
            have c12b0 := decide_eq_true c12
            clear c12
            by_cases c13 : x5_2.length < 35184372088832
            ·rw [if_pos c13] at H
             have LMc13 := Aside0.mk c13
             clear c13
             obtain ⟨y482, hy482⟩ : ∃ y_ : List Int, y_ = (x5_2 ++ [(rd_T36 (rd_L2 l0 x18_1) x24_2).f0]) := ⟨_, rfl⟩
             replace H : (if ((rd_T36 (rd_L2 l0 x18_1) x24_2).f1) < 1114111 then (if y482.length < 35184372088832 then (runes_Cuts.l1 k2 (y482 ++ [wrap32 (((rd_T36 (rd_L2 l0 x18_1) x24_2).f1) + 1)]) l0 (l0.length : Int) x18_1 (rd_L2 l0 x18_1) ((rd_L2 l0 x18_1).length : Int) (wrap64 (x24_2 + 1))) else (none)) else (runes_Cuts.l1 k2 y482 l0 (l0.length : Int) x18_1 (rd_L2 l0 x18_1) ((rd_L2 l0 x18_1).length : Int) (wrap64 (x24_2 + 1)))) = some (r1, r2) := by first | (rw [hy482]; with_reducible exact H) | (have H2_ := (Option.bind_some _ _).symm.trans H; rw [hy482]; with_reducible exact H2_) | (have H2_ := (Option.bind_some _ _).symm.trans H; with_reducible exact H2_) | with_reducible exact H | (rw [hy482]; exact H) | exact H
             have Ny482 := Aside0.mk hy482
             clear hy482
             by_cases c14 : ((rd_T36 (rd_L2 l0 x18_1) x24_2).f1) < 1114111
             ·rw [if_pos c14] at H
              have c14b0 := decide_eq_true c14
              clear c14
              by_cases c15 : y482.length < 35184372088832
              ·rw [if_pos c15] at H
               have LMc15 := Aside0.mk c15
               clear c15
               obtain ⟨y485, hy485⟩ : ∃ y_ : List Int, y_ = (y482 ++ [wrap32 (((rd_T36 (rd_L2 l0 x18_1) x24_2).f1) + 1)]) := ⟨_, rfl⟩
               replace H : (runes_Cuts.l1 k2 y485 l0 (l0.length : Int) x18_1 (rd_L2 l0 x18_1) ((rd_L2 l0 x18_1).length : Int) (wrap64 (x24_2 + 1))) = some (r1, r2) := by first | (rw [hy485]; with_reducible exact H) | (have H2_ := (Option.bind_some _ _).symm.trans H; rw [hy485]; with_reducible exact H2_) | (have H2_ := (Option.bind_some _ _).symm.trans H; with_reducible exact H2_) | with_reducible exact H | (rw [hy485]; exact H) | exact H
               have Ny485 := Aside0.mk hy485
               clear hy485
               have H' := Aside0.mk H
               clear H
               have p480 : 0 ≤ (x24_2 : Int) := of_decide_eq_true Z0
               have q480 : x24_2 < ((rd_L2 l0 x18_1).length : Int) := of_decide_eq_true Z0
               obtain ⟨ad480, e480, hx480_0, hx480_1⟩ := at_T36 HR479_0.out x24_2 p480 q480
               cases e480
               replace hx480_0 := (HB.out.cell (World.block_lt_of_cell? w _ hx480_0)).trans hx480_0
               replace hx480_1 := (HB.out.cell (World.block_lt_of_cell? w _ hx480_1)).trans hx480_1
               replace p480 := eq_true p480
               replace q480 := eq_true q480
               go_wp2_with (first | ((with_reducible refine gate_dst (N := 9) rfl ?_); refine box_event ?hg (N := 9) ?hd (cs := #[.int .i32 0, .int .i32 0]) (t := 36) ?hr ?_; (case hd => rfl); (case hg => rfl); (case hr => first | (go_simp; done) | (go_simp; rfl)); intro gb481 hg w16 hbox hb; replace HO_5 := Aside0.mk (Kd.R_below (kK HO_5) hb); have BK481 := Aside0.mk (hbox); have GW481 := gE hg zB; have GE481 := gE hg zB; replace HB := Aside0.mk (below_step zB hb); clear hb hbox hg; have hcz17_0 := bC BK481 0 (.int .i32 0); have hcz17_1 := bC BK481 1 (.int .i32 0); have hfz17_0 := blk_frozen BK481.out 0; have hfz17_1 := blk_frozen BK481.out 1) | ((with_reducible refine gate_builtin (b := .append) (xs := #[.tmp 28, .tmp 31]) rfl ?_); at_builtin; refine Kd.R_append (Kd.int .i32) (w0 := w) w.heap.size rfl (.tmp 28) (.tmp 31) 56 21 (.int .i32 0) 4 rfl Tryd.underlying56 info21 rfl Z27 Z21 u5 x5_2 ((rd_T36 (rd_L2 l0 x18_1) x24_2).f0) [.int .i32 ((rd_T36 (rd_L2 l0 x18_1) x24_2).f0)] (fun _ => True) (fun _ => False) rfl (by first | (go_simp; done) | (go_simp; rfl)) ?aP (fun _ hk => hk.elim) ?aF ?aO ?aB ?aS ?aL ?_; (case aP => exact rfl); (case aB => exact zB); (case aF => exact (fun _ _ => trivial)); (case aO => exact (by (with_reducible repeat (first | apply Kd.R_alloc | apply Kd.R_drewN | apply Kd.R_drew)); exact Kd.R_mono (Kd.R_far (p := ⟨gb481, 1, none⟩) (Kd.R_far (p := ⟨gb481, 0, none⟩) (Kd.R_types HO_5.out BK481.out Z27) (fun _ hk => hk.2) (.int .i32 ((rd_T36 (rd_L2 l0 x18_1) x24_2).f0))) (fun _ hk => hk.2) (.int .i32 ((rd_T36 (rd_L2 l0 x18_1) x24_2).f1))) (fun _ hk => trivial))); (case aS => exact (below_size zB)); (case aL => have := LMc13.out; omega); intro v483 w18 ho hb hg hat; rw [← Ny482.out] at ho; have n0_ := Aside0.mk (blk_grown (g := gb481) (o := .cells #[.int .i32 ((rd_T36 (rd_L2 l0 x18_1) x24_2).f0), .int .i32 ((rd_T36 (rd_L2 l0 x18_1) x24_2).f1)] 36 (0, 0)) (by (with_reducible repeat (first | refine blk_drewN ?_ _ | refine blk_drew ?_ | refine blk_alloc ?_ _)); refine blk_put (cs := #[.int .i32 ((rd_T36 (rd_L2 l0 x18_1) x24_2).f0), .int .i32 0]) ?_ 1 _ rfl; (with_reducible repeat (first | refine blk_drewN ?_ _ | refine blk_drew ?_ | refine blk_alloc ?_ _)); refine blk_put (cs := #[.int .i32 0, .int .i32 0]) ?_ 0 _ rfl; (with_reducible repeat (first | refine blk_drewN ?_ _ | refine blk_drew ?_ | refine blk_alloc ?_ _)); exact BK481.out) hg (Kd.R_ne HO_5.out BK481.out Z27)); have n1_ := Aside0.mk (hb); have n2_ := Aside0.mk (ho); clear BK481; clear HB; clear HO_5; have BK481 := n0_; have HB := n1_; have HO484 := n2_; clear n0_ n1_ n2_; clear ho hb hg hat; have hcz19_0 := bC BK481 0 (.int .i32 ((rd_T36 (rd_L2 l0 x18_1) x24_2).f0)); have hcz19_1 := bC BK481 1 (.int .i32 ((rd_T36 (rd_L2 l0 x18_1) x24_2).f1)); have hfz19_0 := blk_frozen BK481.out 0; have hfz19_1 := blk_frozen BK481.out 1) | ((with_reducible refine gate_builtin (b := .append) (xs := #[.tmp 36, .tmp 40]) rfl ?_); at_builtin; refine Kd.R_append (Kd.int .i32) (w0 := w) w.heap.size rfl (.tmp 36) (.tmp 40) 56 21 (.int .i32 0) 4 rfl Tryd.underlying56 info21 rfl Z27 Z21 v483 y482 (wrap32 (((rd_T36 (rd_L2 l0 x18_1) x24_2).f1) + 1)) [.int .i32 (wrap32 (((rd_T36 (rd_L2 l0 x18_1) x24_2).f1) + 1))] (fun _ => True) (fun _ => False) rfl rfl ?aP (fun _ hk => hk.elim) ?aF ?aO ?aB ?aS ?aL ?_; (case aP => exact rfl); (case aB => exact zB); (case aF => exact (fun _ _ => trivial)); (case aO => exact (kK HO484)); (case aS => exact (below_size zB)); (case aL => have := LMc15.out; omega); intro v486 w20 ho hb hg hat; rw [← Ny485.out] at ho; have n0_ := Aside0.mk (blk_grown (g := gb481) (o := .cells #[.int .i32 ((rd_T36 (rd_L2 l0 x18_1) x24_2).f0), .int .i32 ((rd_T36 (rd_L2 l0 x18_1) x24_2).f1)] 36 (0, 0)) (bK BK481) hg (Kd.R_ne HO484.out BK481.out Z27)); have n1_ := Aside0.mk (hb); have n2_ := Aside0.mk (ho); clear BK481; clear HB; clear HO484; have BK481 := n0_; have HB := n1_; have HO487 := n2_; clear n0_ n1_ n2_; clear ho hb hg hat))
               go_roundg k2
               case measure => have := HK1.out; have := HK2.out; omega
               case rel => exact ⟨(y485), (wrap64 (x24_2 + 1)), Z3, H', ⟨Z29⟩, ⟨by (with_reducible repeat (first | apply Kd.R_alloc | apply Kd.R_drewN | apply Kd.R_drew)); exact HO487.out⟩, ⟨Z1⟩⟩
              ·rw [if_neg c15] at H
               exact absurd H Z25
             ·rw [if_neg c14] at H
              have c14b0 := decide_eq_false c14
              clear c14
              have H' := Aside0.mk H
              clear H
              have p480 : 0 ≤ (x24_2 : Int) := of_decide_eq_true Z0
              have q480 : x24_2 < ((rd_L2 l0 x18_1).length : Int) := of_decide_eq_true Z0
              obtain ⟨ad480, e480, hx480_0, hx480_1⟩ := at_T36 HR479_0.out x24_2 p480 q480
              cases e480
              replace hx480_0 := (HB.out.cell (World.block_lt_of_cell? w _ hx480_0)).trans hx480_0
              replace hx480_1 := (HB.out.cell (World.block_lt_of_cell? w _ hx480_1)).trans hx480_1
              replace p480 := eq_true p480
              replace q480 := eq_true q480
              go_wp2_with (first | ((with_reducible refine gate_dst (N := 9) rfl ?_); refine box_event ?hg (N := 9) ?hd (cs := #[.int .i32 0, .int .i32 0]) (t := 36) ?hr ?_; (case hd => rfl); (case hg => rfl); (case hr => first | (go_simp; done) | (go_simp; rfl)); intro gb481 hg w21 hbox hb; replace HO_5 := Aside0.mk (Kd.R_below (kK HO_5) hb); have BK481 := Aside0.mk (hbox); have GW481 := gE hg zB; have GE481 := gE hg zB; replace HB := Aside0.mk (below_step zB hb); clear hb hbox hg; have hcz22_0 := bC BK481 0 (.int .i32 0); have hcz22_1 := bC BK481 1 (.int .i32 0); have hfz22_0 := blk_frozen BK481.out 0; have hfz22_1 := blk_frozen BK481.out 1) | ((with_reducible refine gate_builtin (b := .append) (xs := #[.tmp 28, .tmp 31]) rfl ?_); at_builtin; refine Kd.R_append (Kd.int .i32) (w0 := w) w.heap.size rfl (.tmp 28) (.tmp 31) 56 21 (.int .i32 0) 4 rfl Tryd.underlying56 info21 rfl Z27 Z21 u5 x5_2 ((rd_T36 (rd_L2 l0 x18_1) x24_2).f0) [.int .i32 ((rd_T36 (rd_L2 l0 x18_1) x24_2).f0)] (fun _ => True) (fun _ => False) rfl (by first | (go_simp; done) | (go_simp; rfl)) ?aP (fun _ hk => hk.elim) ?aF ?aO ?aB ?aS ?aL ?_; (case aP => exact rfl); (case aB => exact zB); (case aF => exact (fun _ _ => trivial)); (case aO => exact (by (with_reducible repeat (first | apply Kd.R_alloc | apply Kd.R_drewN | apply Kd.R_drew)); exact Kd.R_mono (Kd.R_far (p := ⟨gb481, 1, none⟩) (Kd.R_far (p := ⟨gb481, 0, none⟩) (Kd.R_types HO_5.out BK481.out Z27) (fun _ hk => hk.2) (.int .i32 ((rd_T36 (rd_L2 l0 x18_1) x24_2).f0))) (fun _ hk => hk.2) (.int .i32 ((rd_T36 (rd_L2 l0 x18_1) x24_2).f1))) (fun _ hk => trivial))); (case aS => exact (below_size zB)); (case aL => have := LMc13.out; omega); intro v483 w23 ho hb hg hat; rw [← Ny482.out] at ho; have n0_ := Aside0.mk (blk_grown (g := gb481) (o := .cells #[.int .i32 ((rd_T36 (rd_L2 l0 x18_1) x24_2).f0), .int .i32 ((rd_T36 (rd_L2 l0 x18_1) x24_2).f1)] 36 (0, 0)) (by (with_reducible repeat (first | refine blk_drewN ?_ _ | refine blk_drew ?_ | refine blk_alloc ?_ _)); refine blk_put (cs := #[.int .i32 ((rd_T36 (rd_L2 l0 x18_1) x24_2).f0), .int .i32 0]) ?_ 1 _ rfl; (with_reducible repeat (first | refine blk_drewN ?_ _ | refine blk_drew ?_ | refine blk_alloc ?_ _)); refine blk_put (cs := #[.int .i32 0, .int .i32 0]) ?_ 0 _ rfl; (with_reducible repeat (first | refine blk_drewN ?_ _ | refine blk_drew ?_ | refine blk_alloc ?_ _)); exact BK481.out) hg (Kd.R_ne HO_5.out BK481.out Z27)); have n1_ := Aside0.mk (hb); have n2_ := Aside0.mk (ho); clear BK481; clear HB; clear HO_5; have BK481 := n0_; have HB := n1_; have HO484 := n2_; clear n0_ n1_ n2_; clear ho hb hg hat; have hcz24_0 := bC BK481 0 (.int .i32 ((rd_T36 (rd_L2 l0 x18_1) x24_2).f0)); have hcz24_1 := bC BK481 1 (.int .i32 ((rd_T36 (rd_L2 l0 x18_1) x24_2).f1)); have hfz24_0 := blk_frozen BK481.out 0; have hfz24_1 := blk_frozen BK481.out 1))
              go_roundg k2
              case measure => have := HK1.out; have := HK2.out; omega
              case rel => exact ⟨(y482), (wrap64 (x24_2 + 1)), Z3, H', ⟨Z29⟩, ⟨by (with_reducible repeat (first | apply Kd.R_alloc | apply Kd.R_drewN | apply Kd.R_drew)); exact HO484.out⟩, ⟨Z1⟩⟩
            ·rw [if_neg c13] at H
             exact absurd H Z25
           ·rw [if_neg c12] at H
            exact absurd H Z25
          ·rw [if_neg c11] at H
           exact absurd H Z25
         ·rw [if_neg c10] at H
          have c10b0 := decide_eq_false c10
          clear c10
          have H' := Aside0.mk H
          clear H
          go_wp2
          go_roundg k2
          case measure => have := HK1.out; have := HK2.out; omega
          case rel => exact ⟨(x5_2), (wrap64 (x18_1 + 1)), Z3, H', ⟨Z29⟩, ⟨Z26⟩, ⟨Z1⟩⟩
      ·rw [if_neg c9] at H
       exact absurd H Z25
     ·rw [if_neg c8] at H
      exact absurd H Z25
    ·rw [if_neg c7] at H
     have c7b0 := decide_eq_false c7
     clear c7
     replace H := bS H
     obtain ⟨t488, A25, H⟩ := H
     try dsimp only at H
     replace H := bS H
     obtain ⟨t489, A26, H⟩ := H
     try dsimp only at H
     by_cases c27 : (t489.length : Int) > 2048
     ·rw [if_pos c27] at H
      have c27b0 : decide (2048 < (t489.length : Int)) = true := decide_eq_true c27
      have c27b1 : decide (2048 < t489.length) = true := decide_eq_true Z21
      clear c27
      simp only [Option.some.injEq, Prod.mk.injEq] at H
      obtain ⟨rfl, rfl⟩ := H
      obtain ⟨Ao28, co28, eo28⟩ := Kd.R_slice HO_5.out
      subst eo28
      go_wp2_with (first | ((with_reducible refine gC 61 rfl ?_); refine goesL_ (some 45) rfl rfl Tryd.func61 Z14 rfl #[.slice Ao28 x5_1.length co28] rfl Z2 ?_; (with_reducible refine (slices_Sort_rune_rune.calls (fun k_ => some k_ = (.slice Ao28 x5_1.length co28 : Value).ownBlock) (.slice Ao28 x5_1.length co28) x5_1 t488 w _ ?side1 ?side2 A25.out).mono ?_); (case side1 => repeat (first | (with_reducible first | exact HB.out | apply below_alloc | apply pw_below_drewN | apply below_drew1 | refine below_set ?_ (Aside0.out Z16)) | exact HB.out)); (case side2 => exact Kd.R_tight rfl HO_5.out); rintro e w29 ⟨rfl, hy0, hb, hkp⟩; refine ⟨_, rfl, ?_⟩; replace HO_5 := Aside0.mk (Kd.R_reok rfl hy0 (fun k_ e_ => HO_5.out.1 k_ e_)); replace HB := Aside0.mk (hb); (try clear hb); (try clear hkp); (try clear hy0)) | ((with_reducible refine gC 62 rfl ?_); refine goesL_ (some 47) rfl rfl Tryd.func62 Z14 rfl #[.slice Ao28 x5_1.length co28] rfl Z2 ?_; (with_reducible refine (slices_Compact_rune_rune.calls (fun k_ => some k_ = (.slice Ao28 x5_1.length co28 : Value).ownBlock) (.slice Ao28 x5_1.length co28) t488 t489 w _ ?side1 ?side2 A26.out).mono ?_); (case side1 => repeat (first | (with_reducible first | exact HB.out | apply below_alloc | apply pw_below_drewN | apply below_drew1 | refine below_set ?_ (Aside0.out Z16)) | exact HB.out)); (case side2 => exact Kd.R_tight rfl HO_5.out); rintro e w30 ⟨v490, rfl, ho0, hb, hkp⟩; refine ⟨_, rfl, ?_⟩; have n0_ := Aside0.mk (Kd.R_mono (ok' := fun k_ => True) ho0 (fun k_ hk_ => trivial)); have n1_ := Aside0.mk (hb); clear HB; clear HO_5; have HO491 := n0_; have HB := n1_; clear n0_ n1_; (try clear hb); (try clear hkp); (try clear ho0); obtain ⟨Ao31, co31, eo31⟩ := Kd.R_slice HO491.out; subst eo31))
      go_ret2
      exact ⟨_, Z4, Z8, Z1⟩
     ·rw [if_neg c27] at H
      have c27b0 : decide (2048 < (t489.length : Int)) = false := decide_eq_false c27
      have c27b1 : decide (2048 < t489.length) = false := decide_eq_false Z21
      clear c27
      simp only [Option.some.injEq, Prod.mk.injEq] at H
      obtain ⟨rfl, rfl⟩ := H
      obtain ⟨Ao32, co32, eo32⟩ := Kd.R_slice HO_5.out
      subst eo32
      go_wp2_with (first | ((with_reducible refine gC 61 rfl ?_); refine goesL_ (some 45) rfl rfl Tryd.func61 Z14 rfl #[.slice Ao32 x5_1.length co32] rfl Z2 ?_; (with_reducible refine (slices_Sort_rune_rune.calls (fun k_ => some k_ = (.slice Ao32 x5_1.length co32 : Value).ownBlock) (.slice Ao32 x5_1.length co32) x5_1 t488 w _ ?side1 ?side2 A25.out).mono ?_); (case side1 => repeat (first | (with_reducible first | exact HB.out | apply below_alloc | apply pw_below_drewN | apply below_drew1 | refine below_set ?_ (Aside0.out Z16)) | exact HB.out)); (case side2 => exact Kd.R_tight rfl HO_5.out); rintro e w33 ⟨rfl, hy0, hb, hkp⟩; refine ⟨_, rfl, ?_⟩; replace HO_5 := Aside0.mk (Kd.R_reok rfl hy0 (fun k_ e_ => HO_5.out.1 k_ e_)); replace HB := Aside0.mk (hb); (try clear hb); (try clear hkp); (try clear hy0)) | ((with_reducible refine gC 62 rfl ?_); refine goesL_ (some 47) rfl rfl Tryd.func62 Z14 rfl #[.slice Ao32 x5_1.length co32] rfl Z2 ?_; (with_reducible refine (slices_Compact_rune_rune.calls (fun k_ => some k_ = (.slice Ao32 x5_1.length co32 : Value).ownBlock) (.slice Ao32 x5_1.length co32) t488 t489 w _ ?side1 ?side2 A26.out).mono ?_); (case side1 => repeat (first | (with_reducible first | exact HB.out | apply below_alloc | apply pw_below_drewN | apply below_drew1 | refine below_set ?_ (Aside0.out Z16)) | exact HB.out)); (case side2 => exact Kd.R_tight rfl HO_5.out); rintro e w34 ⟨v490, rfl, ho0, hb, hkp⟩; refine ⟨_, rfl, ?_⟩; have n0_ := Aside0.mk (Kd.R_mono (ok' := fun k_ => True) ho0 (fun k_ hk_ => trivial)); have n1_ := Aside0.mk (hb); clear HB; clear HO_5; have HO491 := n0_; have HB := n1_; clear n0_ n1_; (try clear hb); (try clear hkp); (try clear ho0); obtain ⟨Ao35, co35, eo35⟩ := Kd.R_slice HO491.out; subst eo35))
      go_ret2
      exact ⟨_, Z4, by (with_reducible repeat (first | apply Kd.R_alloc | apply Kd.R_drewN | apply Kd.R_drew)); exact HO491.out, Z1⟩
 ·rw [if_neg c3] at H
  have c3b0 := e3 c3
  have c3b1 := e4 c3
  simp only [Option.some.injEq, Prod.mk.injEq] at H
  obtain ⟨rfl, rfl⟩ := H
  go_enter Tryd.func37, Tryd.ntmps37
  go_wp2_with (first | ((with_reducible refine gC 46 rfl ?_); refine goesL_ (some 11) rfl rfl Tryd.func46 Z14 rfl #[.slice A0 l0.length c0] rfl Z2 ?_; (with_reducible refine (runes_checked.calls k _ _ l0 t475 _ ?side1 ?side2 A2.out).mono ?_); (case side1 => repeat (first | exact HR0.out | (with_reducible refine Kd.C_alloc ?_ _) | (with_reducible refine Kd.C_drewN ?_ _) | (with_reducible refine Kd.C_drew ?_))); (case side2 => exact HC0.out); rintro e w36 ⟨rfl, hb⟩; refine ⟨_, rfl, ?_⟩; replace HB := Aside0.mk (below_step zB hb); (try clear hb); (try clear hb2); (try clear hk); (try clear hi)))
  go_ret2
  exact ⟨_, Z4, Z8, Z1⟩
def quoinref02_Cuts.f (k : Nat) (l0 : List (List (S36))) : Option (List Int × Int) := (quoinref02_checked.f k l0).bind fun t492 => (if t492 = 0 then ((quoinref02_starts.f k l0).bind fun t493 => (if (t493.length : Int) > 2048 then (some (([] : List Int), 21)) else (some (t493, 0)))) else (some (([] : List Int), t492)))
set_option maxHeartbeats 8000000 in
set_option maxRecDepth 100000 in
theorem quoinref02_Cuts.calls (k : Nat) (A0 : Option Addr) (c0 : Nat) (l0 : List (List (S36))) (r1 : List Int) (r2 : Int) (w : World) (hr0 : Kd.C (Kd.slice 36 k36) w A0 l0.length l0) (hc0 : l0.length ≤ c0) (h : quoinref02_Cuts.f k l0 = some (r1, r2)) :
  Calls Tryd.prog 38 #[.slice A0 l0.length c0] w fun e w' => ∃ v0_ : Value, e = .returned (.tuple #[v0_, .int .i64 r2]) ∧ Kd.R (Kd.int .i32) 21 w' w.heap.size (fun _ => True) v0_ r1 ∧ Below w.heap.size w w' := by
 have HR0 := Aside0.mk hr0
 have HC0 := Aside0.mk hc0
 clear hr0 hc0
 have HB := Aside0.mk (Below.refl w.heap.size w)
 have H : ((quoinref02_checked.f k l0).bind fun t492 => (if t492 = 0 then ((quoinref02_starts.f k l0).bind fun t493 => (if (t493.length : Int) > 2048 then (some (([] : List Int), 21)) else (some (t493, 0)))) else (some (([] : List Int), t492)))) = some (r1, r2) := h
 clear h
 replace H := bS H
 obtain ⟨t492, A2, H⟩ := H
 try dsimp only at H
 by_cases c3 : t492 = 0
 ·rw [if_pos c3] at H
  have c3b0 := e1 c3
  have c3b1 := e2 c3
  clear c3
  replace H := bS H
  obtain ⟨t493, A4, H⟩ := H
  try dsimp only at H
  by_cases c5 : (t493.length : Int) > 2048
  ·rw [if_pos c5] at H
   have c5b0 : decide (2048 < (t493.length : Int)) = true := decide_eq_true c5
   have c5b1 : decide (2048 < t493.length) = true := decide_eq_true Z21
   clear c5
   simp only [Option.some.injEq, Prod.mk.injEq] at H
   obtain ⟨rfl, rfl⟩ := H
   go_enter Tryd.func38, Tryd.ntmps38
   go_wp2_with (first | ((with_reducible refine gC 48 rfl ?_); refine goesL_ (some 7) rfl rfl Tryd.func48 Z14 rfl #[.slice A0 l0.length c0] rfl Z2 ?_; (with_reducible refine (quoinref02_checked.calls k _ _ l0 t492 _ ?side1 ?side2 A2.out).mono ?_); (case side1 => repeat (first | exact HR0.out | (with_reducible refine Kd.C_alloc ?_ _) | (with_reducible refine Kd.C_drewN ?_ _) | (with_reducible refine Kd.C_drew ?_))); (case side2 => exact HC0.out); rintro e w' ⟨rfl, ⟨nd, rfl⟩⟩; refine ⟨_, rfl, ?_⟩) | ((with_reducible refine gC 63 rfl ?_); refine goesL_ (some 12) rfl rfl Tryd.func63 Z14 rfl #[.slice A0 l0.length c0] rfl Z2 ?_; (with_reducible refine (quoinref02_starts.calls k _ _ l0 t493 _ ?side1 ?side2 A4.out).mono ?_); (case side1 => repeat (first | exact HR0.out | (with_reducible refine Kd.C_alloc ?_ _) | (with_reducible refine Kd.C_drewN ?_ _) | (with_reducible refine Kd.C_drew ?_))); (case side2 => exact HC0.out); rintro e w6 ⟨v494, rfl, ho0, hb⟩; refine ⟨_, rfl, ?_⟩; have HO495 := Aside0.mk (Kd.R_lower ho0 (below_size zB)); replace HB := Aside0.mk (below_step zB hb); (try clear hb); (try clear hb2); (try clear hk); (try clear hi); (try clear ho0); obtain ⟨Ao7, co7, eo7⟩ := Kd.R_slice HO495.out; subst eo7))
   go_ret2
   exact ⟨_, Z4, Z8, Z1⟩
  ·rw [if_neg c5] at H
   have c5b0 : decide (2048 < (t493.length : Int)) = false := decide_eq_false c5
   have c5b1 : decide (2048 < t493.length) = false := decide_eq_false Z21
   clear c5
   simp only [Option.some.injEq, Prod.mk.injEq] at H
   obtain ⟨rfl, rfl⟩ := H
   go_enter Tryd.func38, Tryd.ntmps38
   go_wp2_with (first | ((with_reducible refine gC 48 rfl ?_); refine goesL_ (some 7) rfl rfl Tryd.func48 Z14 rfl #[.slice A0 l0.length c0] rfl Z2 ?_; (with_reducible refine (quoinref02_checked.calls k _ _ l0 t492 _ ?side1 ?side2 A2.out).mono ?_); (case side1 => repeat (first | exact HR0.out | (with_reducible refine Kd.C_alloc ?_ _) | (with_reducible refine Kd.C_drewN ?_ _) | (with_reducible refine Kd.C_drew ?_))); (case side2 => exact HC0.out); rintro e w' ⟨rfl, ⟨nd, rfl⟩⟩; refine ⟨_, rfl, ?_⟩) | ((with_reducible refine gC 63 rfl ?_); refine goesL_ (some 12) rfl rfl Tryd.func63 Z14 rfl #[.slice A0 l0.length c0] rfl Z2 ?_; (with_reducible refine (quoinref02_starts.calls k _ _ l0 t493 _ ?side1 ?side2 A4.out).mono ?_); (case side1 => repeat (first | exact HR0.out | (with_reducible refine Kd.C_alloc ?_ _) | (with_reducible refine Kd.C_drewN ?_ _) | (with_reducible refine Kd.C_drew ?_))); (case side2 => exact HC0.out); rintro e w8 ⟨v494, rfl, ho0, hb⟩; refine ⟨_, rfl, ?_⟩; have HO495 := Aside0.mk (Kd.R_lower ho0 (below_size zB)); replace HB := Aside0.mk (below_step zB hb); (try clear hb); (try clear hb2); (try clear hk); (try clear hi); (try clear ho0); obtain ⟨Ao9, co9, eo9⟩ := Kd.R_slice HO495.out; subst eo9))
   go_ret2
   exact ⟨_, Z4, by (with_reducible repeat (first | apply Kd.R_alloc | apply Kd.R_drewN | apply Kd.R_drew)); exact HO495.out, Z1⟩
 ·rw [if_neg c3] at H
  have c3b0 := e3 c3
  have c3b1 := e4 c3
  simp only [Option.some.injEq, Prod.mk.injEq] at H
  obtain ⟨rfl, rfl⟩ := H
  go_enter Tryd.func38, Tryd.ntmps38
  go_wp2_with (first | ((with_reducible refine gC 48 rfl ?_); refine goesL_ (some 7) rfl rfl Tryd.func48 Z14 rfl #[.slice A0 l0.length c0] rfl Z2 ?_; (with_reducible refine (quoinref02_checked.calls k _ _ l0 t492 _ ?side1 ?side2 A2.out).mono ?_); (case side1 => repeat (first | exact HR0.out | (with_reducible refine Kd.C_alloc ?_ _) | (with_reducible refine Kd.C_drewN ?_ _) | (with_reducible refine Kd.C_drew ?_))); (case side2 => exact HC0.out); rintro e w' ⟨rfl, ⟨nd, rfl⟩⟩; refine ⟨_, rfl, ?_⟩))
  go_ret2
  exact ⟨_, Z4, Z8, Z1⟩
end Go.Proofs.YtfnkboilepgmoaaDoor.R
