import Derived.Test.YtfnkboilepgmoaaDoorIPre
import Derived.Test.YtfnkboilepgmoaaDoorIax4
import Derived.Test.YtfnkboilepgmoaaDoorIax5
import Derived.Test.YtfnkboilepgmoaaDoorIax6
import Derived.Test.YtfnkboilepgmoaaDoorIax7
namespace Go.Proofs.YtfnkboilepgmoaaDoor.R
open Go.RowKit Go.Proofs.YtfnkboilepgmoaaDoorW.PrintWords Go.Proofs.YtfnkboilepgmoaaDoorW.PrintLast Go.Proofs.YtfnkboilepgmoaaDoorW.PrintMore
attribute [local go_sem] max2_int min2_int max_two min_two max_three min_three max_four min_four
set_option linter.unusedVariables false
set_option linter.unusedSimpArgs false
mutual
def quoinlaw02_RunesAlgebra.j0 : Nat → List (S36) → List (S36) → Int → List (S36) → Int → List (S36) → Int → List (S36) → Int → List (S36) → Int → List (S36) → Int → Bool → Option (Bool)
 | 0, _, _, _, _, _, _, _, _, _, _, _, _, _, _ => none
 | k + 1, x0, x1, x2, x7, x8, x9, x10, x11, x12, x13, x14, x15, x16, x56 => if x56 = true then (if x8 = 0 then (some false) else (if x10 = 0 then (some false) else (if x12 = 0 then (some false) else ((quoinlaw02_awake.f k).bind fun t450 => (some t450))))) else ((runes_Has.f k x0 x2).bind fun t451 => ((runes_Has.f k x1 x2).bind fun t452 => (if x2 < 0 then (quoinlaw02_RunesAlgebra.j1 k x0 x1 x2 x7 x8 x9 x10 x11 x12 x13 x14 x15 x16 t451 t452 true) else (quoinlaw02_RunesAlgebra.j1 k x0 x1 x2 x7 x8 x9 x10 x11 x12 x13 x14 x15 x16 t451 t452 (decide (x2 > 1114111))))))
def quoinlaw02_RunesAlgebra.j1 : Nat → List (S36) → List (S36) → Int → List (S36) → Int → List (S36) → Int → List (S36) → Int → List (S36) → Int → List (S36) → Int → Bool → Bool → Bool → Option (Bool)
 | 0, _, _, _, _, _, _, _, _, _, _, _, _, _, _, _, _ => none
 | k + 1, x0, x1, x2, x7, x8, x9, x10, x11, x12, x13, x14, x15, x16, x17, x18, x81 => if x81 = true then (if x17 = true then (some false) else (if x18 = true then (some false) else ((quoinlaw02_awake.f k).bind fun t453 => (some t453)))) else (if x8 = 0 then ((runes_Has.f k x7 x2).bind fun t454 => (if x17 = true then (if (t454 != true) = true then (quoinlaw02_RunesAlgebra.j2 k x0 x1 x2 x8 x13 x14 x15 x16 x17 true) else (if x10 = 0 then ((runes_Has.f k x9 x2).bind fun t455 => (if (t455 != x18) = true then (quoinlaw02_RunesAlgebra.j2 k x0 x1 x2 x8 x13 x14 x15 x16 x17 true) else (if x12 = 0 then ((runes_Has.f k x11 x2).bind fun t456 => (quoinlaw02_RunesAlgebra.j2 k x0 x1 x2 x8 x13 x14 x15 x16 x17 (t456 != (!x18)))) else (quoinlaw02_RunesAlgebra.j2 k x0 x1 x2 x8 x13 x14 x15 x16 x17 false)))) else (if x12 = 0 then ((runes_Has.f k x11 x2).bind fun t457 => (quoinlaw02_RunesAlgebra.j2 k x0 x1 x2 x8 x13 x14 x15 x16 x17 (t457 != (!x18)))) else (quoinlaw02_RunesAlgebra.j2 k x0 x1 x2 x8 x13 x14 x15 x16 x17 false)))) else (if (t454 != x18) = true then (quoinlaw02_RunesAlgebra.j2 k x0 x1 x2 x8 x13 x14 x15 x16 x17 true) else (if x10 = 0 then ((runes_Has.f k x9 x2).bind fun t458 => (if (t458 != false) = true then (quoinlaw02_RunesAlgebra.j2 k x0 x1 x2 x8 x13 x14 x15 x16 x17 true) else (if x12 = 0 then ((runes_Has.f k x11 x2).bind fun t459 => (quoinlaw02_RunesAlgebra.j2 k x0 x1 x2 x8 x13 x14 x15 x16 x17 (t459 != false))) else (quoinlaw02_RunesAlgebra.j2 k x0 x1 x2 x8 x13 x14 x15 x16 x17 false)))) else (if x12 = 0 then ((runes_Has.f k x11 x2).bind fun t460 => (quoinlaw02_RunesAlgebra.j2 k x0 x1 x2 x8 x13 x14 x15 x16 x17 (t460 != false))) else (quoinlaw02_RunesAlgebra.j2 k x0 x1 x2 x8 x13 x14 x15 x16 x17 false)))))) else (if x10 = 0 then ((runes_Has.f k x9 x2).bind fun t461 => (if x17 = true then (if (t461 != x18) = true then (quoinlaw02_RunesAlgebra.j2 k x0 x1 x2 x8 x13 x14 x15 x16 x17 true) else (if x12 = 0 then ((runes_Has.f k x11 x2).bind fun t462 => (quoinlaw02_RunesAlgebra.j2 k x0 x1 x2 x8 x13 x14 x15 x16 x17 (t462 != (!x18)))) else (quoinlaw02_RunesAlgebra.j2 k x0 x1 x2 x8 x13 x14 x15 x16 x17 false))) else (if (t461 != false) = true then (quoinlaw02_RunesAlgebra.j2 k x0 x1 x2 x8 x13 x14 x15 x16 x17 true) else (if x12 = 0 then ((runes_Has.f k x11 x2).bind fun t463 => (quoinlaw02_RunesAlgebra.j2 k x0 x1 x2 x8 x13 x14 x15 x16 x17 (t463 != false))) else (quoinlaw02_RunesAlgebra.j2 k x0 x1 x2 x8 x13 x14 x15 x16 x17 false))))) else (if x12 = 0 then ((runes_Has.f k x11 x2).bind fun t464 => (if x17 = true then (quoinlaw02_RunesAlgebra.j2 k x0 x1 x2 x8 x13 x14 x15 x16 x17 (t464 != (!x18))) else (quoinlaw02_RunesAlgebra.j2 k x0 x1 x2 x8 x13 x14 x15 x16 x17 (t464 != false)))) else (quoinlaw02_RunesAlgebra.j2 k x0 x1 x2 x8 x13 x14 x15 x16 x17 false))))
def quoinlaw02_RunesAlgebra.j2 : Nat → List (S36) → List (S36) → Int → Int → List (S36) → Int → List (S36) → Int → Bool → Bool → Option (Bool)
 | 0, _, _, _, _, _, _, _, _, _, _ => none
 | k + 1, x0, x1, x2, x8, x13, x14, x15, x16, x17, x131 => if x131 = true then (some false) else (if x14 = 0 then ((runes_Has.f k x13 x2).bind fun t465 => (if (t465 == x17) = true then (quoinlaw02_RunesAlgebra.j3 k x0 x1 x8 x14 x15 x16 true) else ((runes_Size.f k x0).bind fun t466 => ((runes_Size.f k x13).bind fun t467 => (quoinlaw02_RunesAlgebra.j3 k x0 x1 x8 x14 x15 x16 ((wrap64 (t466 + t467)) != 1114112)))))) else (quoinlaw02_RunesAlgebra.j3 k x0 x1 x8 x14 x15 x16 false))
def quoinlaw02_RunesAlgebra.j3 : Nat → List (S36) → List (S36) → Int → Int → List (S36) → Int → Bool → Option (Bool)
 | 0, _, _, _, _, _, _, _ => none
 | k + 1, x0, x1, x8, x14, x15, x16, x148 => if x148 = true then (some false) else (if x14 = 0 then (if x16 = 0 then ((quoinref02_Same.f x15 x0).bind fun t468 => (if t468 = true then (if x8 = 0 then ((quoinlaw02_awake.f k).bind fun t469 => (some t469)) else (if (wrap64 ((x0.length : Int) + (x1.length : Int))) > 2048 then ((quoinlaw02_awake.f k).bind fun t470 => (some t470)) else (some false))) else (some false))) else (if x8 = 0 then ((quoinlaw02_awake.f k).bind fun t471 => (some t471)) else (if (wrap64 ((x0.length : Int) + (x1.length : Int))) > 2048 then ((quoinlaw02_awake.f k).bind fun t472 => (some t472)) else (some false)))) else (if x8 = 0 then ((quoinlaw02_awake.f k).bind fun t473 => (some t473)) else (if (wrap64 ((x0.length : Int) + (x1.length : Int))) > 2048 then ((quoinlaw02_awake.f k).bind fun t474 => (some t474)) else (some false))))
end
def quoinlaw02_RunesAlgebra.f (k : Nat) (l0 : List (S36)) (l1 : List (S36)) (a2 : Int) : Option (Bool) := (runes_Union.f k (([l0, l1] : List (List (S36))))).bind fun bt425 => ((runes_Meet.f k (([l0, l1] : List (List (S36))))).bind fun bt432 => ((runes_Minus.f k l0 l1).bind fun bt436 => ((runes_Not.f k l0).bind fun bt440 => ((runes_Not.f k bt440.1).bind fun bt444 => ((quoinref02_Check.f k l0).bind fun t448 => (if t448 = 0 then ((quoinref02_Check.f k l1).bind fun t449 => (quoinlaw02_RunesAlgebra.j0 k l0 l1 a2 bt425.1 bt425.2 bt432.1 bt432.2 bt436.1 bt436.2 bt440.1 bt440.2 bt444.1 bt444.2 (t449 != 0))) else (quoinlaw02_RunesAlgebra.j0 k l0 l1 a2 bt425.1 bt425.2 bt432.1 bt432.2 bt436.1 bt436.2 bt440.1 bt440.2 bt444.1 bt444.2 true)))))))
set_option maxHeartbeats 8000000 in
set_option maxRecDepth 100000 in
theorem quoinlaw02_RunesAlgebra.calls (k : Nat) (P0_ : Nat → Prop) (A0 : Option Addr) (c0 : Nat) (l0 : List (S36)) (P1_ : Nat → Prop) (A1 : Option Addr) (c1 : Nat) (l1 : List (S36)) (a2 : Int) (r : Bool) (w : World) (hs0 : Kd.V k36 36 w w.heap.size (fun k_ => P0_ k_) (.slice A0 l0.length c0) l0) (hs1 : Kd.V k36 36 w w.heap.size (fun k_ => P1_ k_) (.slice A1 l1.length c1) l1) (h : quoinlaw02_RunesAlgebra.f k l0 l1 a2 = some r) :
  Calls Tryd.prog 8 #[.slice A0 l0.length c0, .slice A1 l1.length c1, .int .i32 a2] w fun e w' => e = .returned (.bool r) ∧ Below w.heap.size w w' := by
 have HO0 := Aside0.mk (show Kd.V k36 36 w w.heap.size (fun k_ => ((P0_ k_ ∨ P1_ k_) ∨ w.heap.size ≤ k_)) (.slice A0 l0.length c0) l0 from Kd.V_mono hs0 (fun k_ hk => .inl (.inl hk)))
 have HO1 := Aside0.mk (show Kd.V k36 36 w w.heap.size (fun k_ => ((P0_ k_ ∨ P1_ k_) ∨ w.heap.size ≤ k_)) (.slice A1 l1.length c1) l1 from Kd.V_mono hs1 (fun k_ hk => .inl (.inr hk)))
 have HB := Aside0.mk (Below.refl w.heap.size w)
 have H : ((runes_Union.f k (([l0, l1] : List (List (S36))))).bind fun bt425 => ((runes_Meet.f k (([l0, l1] : List (List (S36))))).bind fun bt432 => ((runes_Minus.f k l0 l1).bind fun bt436 => ((runes_Not.f k l0).bind fun bt440 => ((runes_Not.f k bt440.1).bind fun bt444 => ((quoinref02_Check.f k l0).bind fun t448 => (if t448 = 0 then ((quoinref02_Check.f k l1).bind fun t449 => (quoinlaw02_RunesAlgebra.j0 k l0 l1 a2 bt425.1 bt425.2 bt432.1 bt432.2 bt436.1 bt436.2 bt440.1 bt440.2 bt444.1 bt444.2 (t449 != 0))) else (quoinlaw02_RunesAlgebra.j0 k l0 l1 a2 bt425.1 bt425.2 bt432.1 bt432.2 bt436.1 bt436.2 bt440.1 bt440.2 bt444.1 bt444.2 true)))))))) = some r := h
 clear h
 obtain ⟨y422, hy422⟩ : ∃ y_ : List (List (S36)), y_ = (([l0, l1] : List (List (S36)))) := ⟨_, rfl⟩
 replace H : ((runes_Union.f k y422).bind fun bt425 => ((runes_Meet.f k (([l0, l1] : List (List (S36))))).bind fun bt432 => ((runes_Minus.f k l0 l1).bind fun bt436 => ((runes_Not.f k l0).bind fun bt440 => ((runes_Not.f k bt440.1).bind fun bt444 => ((quoinref02_Check.f k l0).bind fun t448 => (if t448 = 0 then ((quoinref02_Check.f k l1).bind fun t449 => (quoinlaw02_RunesAlgebra.j0 k l0 l1 a2 bt425.1 bt425.2 bt432.1 bt432.2 bt436.1 bt436.2 bt440.1 bt440.2 bt444.1 bt444.2 (t449 != 0))) else (quoinlaw02_RunesAlgebra.j0 k l0 l1 a2 bt425.1 bt425.2 bt432.1 bt432.2 bt436.1 bt436.2 bt440.1 bt440.2 bt444.1 bt444.2 true)))))))) = some r := by first | (rw [hy422]; with_reducible exact H) | (have H2_ := (Option.bind_some _ _).symm.trans H; rw [hy422]; with_reducible exact H2_) | (have H2_ := (Option.bind_some _ _).symm.trans H; with_reducible exact H2_) | with_reducible exact H | (rw [hy422]; exact H) | exact H
 have Ny422 := Aside0.mk hy422
 clear hy422
 replace H := bS H
 obtain ⟨⟨t425, t426⟩, A4, H⟩ := H
 try dsimp only at H
 obtain ⟨y429, hy429⟩ : ∃ y_ : List (List (S36)), y_ = (([l0, l1] : List (List (S36)))) := ⟨_, rfl⟩
 replace H : ((runes_Meet.f k y429).bind fun bt432 => ((runes_Minus.f k l0 l1).bind fun bt436 => ((runes_Not.f k l0).bind fun bt440 => ((runes_Not.f k bt440.1).bind fun bt444 => ((quoinref02_Check.f k l0).bind fun t448 => (if t448 = 0 then ((quoinref02_Check.f k l1).bind fun t449 => (quoinlaw02_RunesAlgebra.j0 k l0 l1 a2 t425 t426 bt432.1 bt432.2 bt436.1 bt436.2 bt440.1 bt440.2 bt444.1 bt444.2 (t449 != 0))) else (quoinlaw02_RunesAlgebra.j0 k l0 l1 a2 t425 t426 bt432.1 bt432.2 bt436.1 bt436.2 bt440.1 bt440.2 bt444.1 bt444.2 true))))))) = some r := by first | (rw [hy429]; with_reducible exact H) | (have H2_ := (Option.bind_some _ _).symm.trans H; rw [hy429]; with_reducible exact H2_) | (have H2_ := (Option.bind_some _ _).symm.trans H; with_reducible exact H2_) | with_reducible exact H | (rw [hy429]; exact H) | exact H
 have Ny429 := Aside0.mk hy429
 clear hy429
 replace H := bS H
 obtain ⟨⟨t432, t433⟩, A5, H⟩ := H
 try dsimp only at H
 replace H := bS H
 obtain ⟨⟨t436, t439⟩, A6, H⟩ := H
 try dsimp only at H
 replace H := bS H
 obtain ⟨⟨t440, t441⟩, A7, H⟩ := H
 try dsimp only at H
 replace H := bS H
 obtain ⟨⟨t444, t445⟩, A8, H⟩ := H
 try dsimp only at H
 have HC9 := Aside0.mk H
 clear H
 go_enter Tryd.func8, Tryd.ntmps8
 go_upto_region 6 with (first | ((with_reducible refine gate_dst (N := 22) rfl ?_); (try (refine gate_guard (by rfl) ?_; dsimp only)); refine Kd.N_lit (Kd.slice 36 k36) _ 22 ?hg (N' := 22) ?hd (xs := ([l0, l1] : List (List (S36)))) (inner := [.slice A0 l0.length c0, .slice A1 l1.length c1]) (ok := (fun k_ => ((P0_ k_ ∨ P1_ k_) ∨ w.heap.size ≤ k_))) (okp := (fun k_ => ((P0_ k_ ∨ P1_ k_) ∨ w.heap.size ≤ k_))) ?hr ?hp (fun _ hk => hk) ((show ∀ k_, w.heap.size ≤ k_ → (fun k_ => ((P0_ k_ ∨ P1_ k_) ∨ w.heap.size ≤ k_)) k_ from fun k_ hk => (.inr (Nat.le_trans (below_size zB) hk))) _ (Nat.le_refl _)) (Below.refl _ _) (Nat.le_refl _) Z37 ?_; (case hd => rfl); (case hg => rfl); (case hr => first | (go_simp; done) | (go_simp; rfl)); (case hp => exact (Reps.one (show Kd.FK (Kd.slice 36 k36) _ _ l0 [.slice A0 l0.length c0] from (Kd.FK_slice_mk (Kd.V_reads' (Kd.V_mono (ok' := (fun k_ => ((P0_ k_ ∨ P1_ k_) ∨ w.heap.size ≤ k_))) (HO0.out) (fun k_ hk => hk))).2.1 (Kd.V_F (Kd.V_mono (ok' := (fun k_ => ((P0_ k_ ∨ P1_ k_) ∨ w.heap.size ≤ k_))) (HO0.out) (fun k_ hk => hk))))) (Reps.one (show Kd.FK (Kd.slice 36 k36) _ _ l1 [.slice A1 l1.length c1] from (Kd.FK_slice_mk (Kd.V_reads' (Kd.V_mono (ok' := (fun k_ => ((P0_ k_ ∨ P1_ k_) ∨ w.heap.size ≤ k_))) (HO1.out) (fun k_ hk => hk))).2.1 (Kd.V_F (Kd.V_mono (ok' := (fun k_ => ((P0_ k_ ∨ P1_ k_) ∨ w.heap.size ≤ k_))) (HO1.out) (fun k_ hk => hk))))) (Reps.none _ _)))); intro v423 w10 ho11 hb hg_ hnew_; clear hg_ hnew_; (first | rw [← Ny422.out] at ho11 | (simp only [Int.reduceToNat] at ho11; rw [← Ny422.out] at ho11)); have n0_ := Aside0.mk (Kd.V_elder' Z12 (Kd.N_base ho11) hb); have n1_ := Aside0.mk (Kd.V_elder' Z14 (Kd.N_base ho11) hb); have n2_ := Aside0.mk (Kd.N_lower ho11 (below_size zB)); have n3_ := Aside0.mk (below_step zB hb); clear HO0; clear HO1; clear HB; have HO0 := n0_; have HO1 := n1_; have HO424 := n2_; have HB := n3_; clear n0_ n1_ n2_ n3_; clear hb ho11; obtain ⟨Ao12, co12, eo12⟩ := Kd.N_slice HO424.out; subst eo12) | ((with_reducible refine gC 23 rfl ?_); refine goesL_ (some 23) rfl rfl Tryd.func23 Z22 rfl #[.slice Ao12 y422.length co12] rfl Z2 ?_; (with_reducible refine (runes_Union.calls k _ _ y422 t425 t426 _ ?side1 ?side2 A4.out).mono ?_); (case side1 => repeat (first | exact (Kd.N_reads' HO424.out).2.2 | (with_reducible refine Kd.C_alloc ?_ _) | (with_reducible refine Kd.C_drewN ?_ _) | (with_reducible refine Kd.C_drew ?_))); (case side2 => exact (Kd.N_reads' HO424.out).2.1); rintro e w13 ⟨v427, rfl, ho0, hb⟩; refine ⟨_, rfl, ?_⟩; have n0_ := Aside0.mk (Kd.V_elder' Z12 (Kd.R_base ho0) hb); have n1_ := Aside0.mk (Kd.V_elder' Z14 (Kd.R_base ho0) hb); have n2_ := Aside0.mk (Kd.N_elder' Z24 (Kd.R_base ho0) hb); have n3_ := Aside0.mk (Kd.R_lower (Kd.R_newM (M := fun k_ => (w.heap.size ≤ k_)) ho0 (below_size zB) (fun k_ h_ => h_)) (below_size zB)); have n4_ := Aside0.mk (below_step zB hb); clear HO0; clear HO1; clear HO424; clear HB; have HO0 := n0_; have HO1 := n1_; have HO424 := n2_; have HO428 := n3_; have HB := n4_; clear n0_ n1_ n2_ n3_ n4_; (try clear hb); (try clear hb2); (try clear hk); (try clear hi); (try clear ho0)) | ((with_reducible refine gate_dst (N := 29) rfl ?_); (try (refine gate_guard (by rfl) ?_; dsimp only)); refine Kd.N_lit (Kd.slice 36 k36) _ 22 ?hg (N' := 29) ?hd (xs := ([l0, l1] : List (List (S36)))) (inner := [.slice A0 l0.length c0, .slice A1 l1.length c1]) (ok := (fun k_ => ((P0_ k_ ∨ P1_ k_) ∨ w.heap.size ≤ k_) ∧ some k_ ≠ (.slice Ao12 y422.length co12 : Value).ownBlock ∧ some k_ ≠ (v427 : Value).ownBlock)) (okp := (fun k_ => ((P0_ k_ ∨ P1_ k_) ∨ w.heap.size ≤ k_) ∧ some k_ ≠ (.slice Ao12 y422.length co12 : Value).ownBlock ∧ some k_ ≠ (v427 : Value).ownBlock)) ?hr ?hp (fun _ hk => hk) ((show ∀ k_, w13.heap.size ≤ k_ → (fun k_ => ((P0_ k_ ∨ P1_ k_) ∨ w.heap.size ≤ k_) ∧ some k_ ≠ (.slice Ao12 y422.length co12 : Value).ownBlock ∧ some k_ ≠ (v427 : Value).ownBlock) k_ from fun k_ hk => ⟨(.inr (Nat.le_trans (below_size zB) hk)), Kd.fresh' (Kd.N_lt Z24) k_ hk, Kd.fresh' (Kd.R_lt (kK HO428)) k_ hk⟩) _ (Nat.le_refl _)) (Below.refl _ _) (Nat.le_refl _) Z37 ?_; (case hd => rfl); (case hg => rfl); (case hr => first | (go_simp; done) | (go_simp; rfl)); (case hp => exact (Reps.one (show Kd.FK (Kd.slice 36 k36) _ _ l0 [.slice A0 l0.length c0] from (Kd.FK_slice_mk (Kd.V_reads' (Kd.V_mono (ok' := (fun k_ => ((P0_ k_ ∨ P1_ k_) ∨ w.heap.size ≤ k_) ∧ some k_ ≠ (.slice Ao12 y422.length co12 : Value).ownBlock ∧ some k_ ≠ (v427 : Value).ownBlock)) (HO0.out) (fun k_ hk => ⟨hk.1.1, ⟨hk.1.2, hk.2⟩⟩))).2.1 (Kd.V_F (Kd.V_mono (ok' := (fun k_ => ((P0_ k_ ∨ P1_ k_) ∨ w.heap.size ≤ k_) ∧ some k_ ≠ (.slice Ao12 y422.length co12 : Value).ownBlock ∧ some k_ ≠ (v427 : Value).ownBlock)) (HO0.out) (fun k_ hk => ⟨hk.1.1, ⟨hk.1.2, hk.2⟩⟩))))) (Reps.one (show Kd.FK (Kd.slice 36 k36) _ _ l1 [.slice A1 l1.length c1] from (Kd.FK_slice_mk (Kd.V_reads' (Kd.V_mono (ok' := (fun k_ => ((P0_ k_ ∨ P1_ k_) ∨ w.heap.size ≤ k_) ∧ some k_ ≠ (.slice Ao12 y422.length co12 : Value).ownBlock ∧ some k_ ≠ (v427 : Value).ownBlock)) (HO1.out) (fun k_ hk => ⟨hk.1.1, ⟨hk.1.2, hk.2⟩⟩))).2.1 (Kd.V_F (Kd.V_mono (ok' := (fun k_ => ((P0_ k_ ∨ P1_ k_) ∨ w.heap.size ≤ k_) ∧ some k_ ≠ (.slice Ao12 y422.length co12 : Value).ownBlock ∧ some k_ ≠ (v427 : Value).ownBlock)) (HO1.out) (fun k_ hk => ⟨hk.1.1, ⟨hk.1.2, hk.2⟩⟩))))) (Reps.none _ _)))); intro v430 w14 ho15 hb hg_ hnew_; clear hg_ hnew_; (first | rw [← Ny429.out] at ho15 | (simp only [Int.reduceToNat] at ho15; rw [← Ny429.out] at ho15)); have n0_ := Aside0.mk (Kd.V_elder' Z12 (Kd.N_base ho15) hb); have n1_ := Aside0.mk (Kd.V_elder' Z14 (Kd.N_base ho15) hb); have n2_ := Aside0.mk (Kd.N_elder' Z24 (Kd.N_base ho15) hb); have n3_ := Aside0.mk (Kd.R_below (kK HO428) hb); have n4_ := Aside0.mk (Kd.N_lower ho15 (below_size zB)); have n5_ := Aside0.mk (below_step zB hb); clear HO0; clear HO1; clear HO424; clear HO428; clear HB; have HO0 := n0_; have HO1 := n1_; have HO424 := n2_; have HO428 := n3_; have HO431 := n4_; have HB := n5_; clear n0_ n1_ n2_ n3_ n4_ n5_; clear hb ho15; obtain ⟨Ao16, co16, eo16⟩ := Kd.N_slice HO431.out; subst eo16) | ((with_reducible refine gC 25 rfl ?_); refine goesL_ (some 30) rfl rfl Tryd.func25 Z22 rfl #[.slice Ao16 y429.length co16] rfl Z2 ?_; (with_reducible refine (runes_Meet.calls k _ _ y429 t432 t433 _ ?side1 ?side2 A5.out).mono ?_); (case side1 => repeat (first | exact (Kd.N_reads' HO431.out).2.2 | (with_reducible refine Kd.C_alloc ?_ _) | (with_reducible refine Kd.C_drewN ?_ _) | (with_reducible refine Kd.C_drew ?_))); (case side2 => exact (Kd.N_reads' HO431.out).2.1); rintro e w17 ⟨v434, rfl, ho0, hb⟩; refine ⟨_, rfl, ?_⟩; have n0_ := Aside0.mk (Kd.V_elder' Z12 (Kd.R_base ho0) hb); have n1_ := Aside0.mk (Kd.V_elder' Z14 (Kd.R_base ho0) hb); have n2_ := Aside0.mk (Kd.N_elder' Z24 (Kd.R_base ho0) hb); have n3_ := Aside0.mk (Kd.R_elder' (kK HO428) (Kd.R_base ho0) hb); have n4_ := Aside0.mk (Kd.N_elder' Z34 (Kd.R_base ho0) hb); have n5_ := Aside0.mk (Kd.R_lower (Kd.R_new' (Kd.R_newM (M := fun k_ => (w.heap.size ≤ k_)) ho0 (below_size zB) (fun k_ h_ => h_)) (Kd.R_lt (kK HO428))) (below_size zB)); have n6_ := Aside0.mk (below_step zB hb); clear HO0; clear HO1; clear HO424; clear HO428; clear HO431; clear HB; have HO0 := n0_; have HO1 := n1_; have HO424 := n2_; have HO428 := n3_; have HO431 := n4_; have HO435 := n5_; have HB := n6_; clear n0_ n1_ n2_ n3_ n4_ n5_ n6_; (try clear hb); (try clear hb2); (try clear hk); (try clear hi); (try clear ho0)) | ((with_reducible refine gC 27 rfl ?_); refine goesL_ (some 36) rfl rfl Tryd.func27 Z22 rfl #[.slice A0 l0.length c0, .slice A1 l1.length c1] rfl Z2 ?_; (with_reducible refine (runes_Minus.calls k (fun k_ => ((((((P0_ k_ ∨ P1_ k_) ∨ w.heap.size ≤ k_) ∧ some k_ ≠ (.slice Ao12 y422.length co12 : Value).ownBlock) ∧ some k_ ≠ (v427 : Value).ownBlock) ∧ some k_ ≠ (.slice Ao16 y429.length co16 : Value).ownBlock) ∧ some k_ ≠ (v434 : Value).ownBlock)) _ _ l0 (fun k_ => ((((((P0_ k_ ∨ P1_ k_) ∨ w.heap.size ≤ k_) ∧ some k_ ≠ (.slice Ao12 y422.length co12 : Value).ownBlock) ∧ some k_ ≠ (v427 : Value).ownBlock) ∧ some k_ ≠ (.slice Ao16 y429.length co16 : Value).ownBlock) ∧ some k_ ≠ (v434 : Value).ownBlock)) _ _ l1 t436 t439 _ ?side1 ?side2 A6.out).mono ?_); (case side1 => exact HO0.out); (case side2 => exact HO1.out); rintro e w18 ⟨v437, rfl, ho0, hb⟩; refine ⟨_, rfl, ?_⟩; have n0_ := Aside0.mk (Kd.V_elder' Z12 (Kd.R_base ho0) hb); have n1_ := Aside0.mk (Kd.V_elder' Z14 (Kd.R_base ho0) hb); have n2_ := Aside0.mk (Kd.N_elder' Z24 (Kd.R_base ho0) hb); have n3_ := Aside0.mk (Kd.R_elder' (kK HO428) (Kd.R_base ho0) hb); have n4_ := Aside0.mk (Kd.N_elder' Z34 (Kd.R_base ho0) hb); have n5_ := Aside0.mk (Kd.R_elder' (kK HO435) (Kd.R_base ho0) hb); have n6_ := Aside0.mk (Kd.R_lower (Kd.R_new' (Kd.R_new' (Kd.R_newM (M := fun k_ => (w.heap.size ≤ k_)) (Kd.R_mono (ok' := fun k_ => True) ho0 (fun _ hk_ => trivial)) (below_size zB) (fun k_ h_ => h_)) (Kd.R_lt (kK HO428))) (Kd.R_lt (kK HO435))) (below_size zB)); have n7_ := Aside0.mk (below_step zB hb); clear HO0; clear HO1; clear HO424; clear HO428; clear HO431; clear HO435; clear HB; have HO0 := n0_; have HO1 := n1_; have HO424 := n2_; have HO428 := n3_; have HO431 := n4_; have HO435 := n5_; have HO438 := n6_; have HB := n7_; clear n0_ n1_ n2_ n3_ n4_ n5_ n6_ n7_; (try clear hb); (try clear hb2); (try clear hk); (try clear hi); (try clear ho0)) | ((with_reducible refine gC 29 rfl ?_); refine goesL_ (some 41) rfl rfl Tryd.func29 Z22 rfl #[.slice A0 l0.length c0] rfl Z2 ?_; (with_reducible refine (runes_Not.calls k _ _ l0 t440 t441 _ ?side1 ?side2 A7.out).mono ?_); (case side1 => repeat (first | exact (Kd.V_reads' HO0.out).2.2 | (with_reducible refine Kd.C_alloc ?_ _) | (with_reducible refine Kd.C_drewN ?_ _) | (with_reducible refine Kd.C_drew ?_))); (case side2 => exact (Kd.V_reads' HO0.out).2.1); rintro e w19 ⟨v442, rfl, ho0, hb⟩; refine ⟨_, rfl, ?_⟩; have n0_ := Aside0.mk (Kd.V_elder' Z12 (Kd.R_base ho0) hb); have n1_ := Aside0.mk (Kd.V_elder' Z14 (Kd.R_base ho0) hb); have n2_ := Aside0.mk (Kd.N_elder' Z24 (Kd.R_base ho0) hb); have n3_ := Aside0.mk (Kd.R_elder' (kK HO428) (Kd.R_base ho0) hb); have n4_ := Aside0.mk (Kd.N_elder' Z34 (Kd.R_base ho0) hb); have n5_ := Aside0.mk (Kd.R_elder' (kK HO435) (Kd.R_base ho0) hb); have n6_ := Aside0.mk (Kd.R_elder' (kK HO438) (Kd.R_base ho0) hb); have n7_ := Aside0.mk (Kd.R_lower (Kd.R_new' (Kd.R_new' (Kd.R_new' (Kd.R_newM (M := fun k_ => (w.heap.size ≤ k_)) ho0 (below_size zB) (fun k_ h_ => h_)) (Kd.R_lt (kK HO428))) (Kd.R_lt (kK HO435))) (Kd.R_lt (kK HO438))) (below_size zB)); have n8_ := Aside0.mk (below_step zB hb); clear HO0; clear HO1; clear HO424; clear HO428; clear HO431; clear HO435; clear HO438; clear HB; have HO0 := n0_; have HO1 := n1_; have HO424 := n2_; have HO428 := n3_; have HO431 := n4_; have HO435 := n5_; have HO438 := n6_; have HO443 := n7_; have HB := n8_; clear n0_ n1_ n2_ n3_ n4_ n5_ n6_ n7_ n8_; (try clear hb); (try clear hb2); (try clear hk); (try clear hi); (try clear ho0); obtain ⟨Ao20, co20, eo20⟩ := Kd.R_slice HO443.out; subst eo20) | ((with_reducible refine gC 29 rfl ?_); refine goesL_ (some 46) rfl rfl Tryd.func29 Z22 rfl #[.slice Ao20 t440.length co20] rfl Z2 ?_; (with_reducible refine (runes_Not.calls k _ _ t440 t444 t445 _ ?side1 ?side2 A8.out).mono ?_); (case side1 => repeat (first | exact (Kd.R_reads' HO443.out).2.2 | (with_reducible refine Kd.C_alloc ?_ _) | (with_reducible refine Kd.C_drewN ?_ _) | (with_reducible refine Kd.C_drew ?_))); (case side2 => exact (Kd.R_reads' HO443.out).2.1); rintro e w21 ⟨v446, rfl, ho0, hb⟩; refine ⟨_, rfl, ?_⟩; have n0_ := Aside0.mk (Kd.V_elder' Z12 (Kd.R_base ho0) hb); have n1_ := Aside0.mk (Kd.V_elder' Z14 (Kd.R_base ho0) hb); have n2_ := Aside0.mk (Kd.N_elder' Z24 (Kd.R_base ho0) hb); have n3_ := Aside0.mk (Kd.R_elder' (kK HO428) (Kd.R_base ho0) hb); have n4_ := Aside0.mk (Kd.N_elder' Z34 (Kd.R_base ho0) hb); have n5_ := Aside0.mk (Kd.R_elder' (kK HO435) (Kd.R_base ho0) hb); have n6_ := Aside0.mk (Kd.R_elder' (kK HO438) (Kd.R_base ho0) hb); have n7_ := Aside0.mk (Kd.R_elder' (kK HO443) (Kd.R_base ho0) hb); have n8_ := Aside0.mk (Kd.R_lower (Kd.R_new' (Kd.R_new' (Kd.R_new' (Kd.R_new' (Kd.R_newM (M := fun k_ => (w.heap.size ≤ k_)) ho0 (below_size zB) (fun k_ h_ => h_)) (Kd.R_lt (kK HO428))) (Kd.R_lt (kK HO435))) (Kd.R_lt (kK HO438))) (Kd.R_lt (kK HO443))) (below_size zB)); have n9_ := Aside0.mk (below_step zB hb); clear HO0; clear HO1; clear HO424; clear HO428; clear HO431; clear HO435; clear HO438; clear HO443; clear HB; have HO0 := n0_; have HO1 := n1_; have HO424 := n2_; have HO428 := n3_; have HO431 := n4_; have HO435 := n5_; have HO438 := n6_; have HO443 := n7_; have HO447 := n8_; have HB := n9_; clear n0_ n1_ n2_ n3_ n4_ n5_ n6_ n7_ n8_ n9_; (try clear hb); (try clear hb2); (try clear hk); (try clear hi); (try clear ho0)))
 (try simp only [Act.put, List.setIfInBounds_toArray, List.set_cons_zero, List.set_cons_succ])
 go_cut [56] (fun v56 wc => ∃ (kq : Nat) (x56_8 : Bool), v56 = .bool x56_8 ∧ Aside0 (quoinlaw02_RunesAlgebra.j0 kq l0 l1 a2 t425 t426 t432 t433 t436 t439 t440 t441 t444 t445 x56_8 = some r) ∧ Aside0 (kq ≤ k) ∧ Aside0 (Kd.V k36 36 wc w.heap.size (fun k_ => ((P0_ k_ ∨ P1_ k_) ∨ w.heap.size ≤ k_) ∧ some k_ ≠ (v427 : Value).ownBlock ∧ some k_ ≠ (v434 : Value).ownBlock ∧ some k_ ≠ (v437 : Value).ownBlock ∧ some k_ ≠ ((.slice Ao20 t440.length co20) : Value).ownBlock ∧ some k_ ≠ (v446 : Value).ownBlock) (.slice A0 l0.length c0) l0) ∧ Aside0 (Kd.V k36 36 wc w.heap.size (fun k_ => ((P0_ k_ ∨ P1_ k_) ∨ w.heap.size ≤ k_) ∧ some k_ ≠ (v427 : Value).ownBlock ∧ some k_ ≠ (v434 : Value).ownBlock ∧ some k_ ≠ (v437 : Value).ownBlock ∧ some k_ ≠ ((.slice Ao20 t440.length co20) : Value).ownBlock ∧ some k_ ≠ (v446 : Value).ownBlock) (.slice A1 l1.length c1) l1) ∧ Aside0 (Kd.R k36 36 wc w.heap.size (fun k_ => (w.heap.size ≤ k_) ∧ some k_ ≠ (v434 : Value).ownBlock ∧ some k_ ≠ (v437 : Value).ownBlock ∧ some k_ ≠ ((.slice Ao20 t440.length co20) : Value).ownBlock ∧ some k_ ≠ (v446 : Value).ownBlock) v427 t425) ∧ Aside0 (Kd.R k36 36 wc w.heap.size (fun k_ => (w.heap.size ≤ k_) ∧ some k_ ≠ (v427 : Value).ownBlock ∧ some k_ ≠ (v437 : Value).ownBlock ∧ some k_ ≠ ((.slice Ao20 t440.length co20) : Value).ownBlock ∧ some k_ ≠ (v446 : Value).ownBlock) v434 t432) ∧ Aside0 (Kd.R k36 36 wc w.heap.size (fun k_ => (w.heap.size ≤ k_) ∧ some k_ ≠ (v427 : Value).ownBlock ∧ some k_ ≠ (v434 : Value).ownBlock ∧ some k_ ≠ ((.slice Ao20 t440.length co20) : Value).ownBlock ∧ some k_ ≠ (v446 : Value).ownBlock) v437 t436) ∧ Aside0 (Kd.R k36 36 wc w.heap.size (fun k_ => (w.heap.size ≤ k_) ∧ some k_ ≠ (v427 : Value).ownBlock ∧ some k_ ≠ (v434 : Value).ownBlock ∧ some k_ ≠ (v437 : Value).ownBlock ∧ some k_ ≠ (v446 : Value).ownBlock) (.slice Ao20 t440.length co20) t440) ∧ Aside0 (Kd.R k36 36 wc w.heap.size (fun k_ => (w.heap.size ≤ k_) ∧ some k_ ≠ (v427 : Value).ownBlock ∧ some k_ ≠ (v434 : Value).ownBlock ∧ some k_ ≠ (v437 : Value).ownBlock ∧ some k_ ≠ ((.slice Ao20 t440.length co20) : Value).ownBlock) v446 t444) ∧ Aside0 (Below w.heap.size w wc))
 case first => as_aux_lemma =>
  have H := HC9.out
  clear HC9
  replace H := bS H
  obtain ⟨t448, A22, H⟩ := H
  try dsimp only at H
  by_cases c23 : t448 = 0
  ·rw [if_pos c23] at H
   have c23b0 := e1 c23
   have c23b1 := e2 c23
   clear c23
   (first | rw [c23b0] | (simp only [i64_w, i32_w]; rw [c23b0]) | skip)
   replace H := bS H
   obtain ⟨t449, A24, H⟩ := H
   try dsimp only at H
   have H' := Aside0.mk H
   clear H
   go_wp2_with (first | ((with_reducible refine gC 18 rfl ?_); refine goesL_ (some 50) rfl rfl Tryd.func18 Z22 rfl #[.slice A0 l0.length c0] rfl Z2 ?_; (with_reducible refine (quoinref02_Check.calls k _ _ l0 t448 _ ?side1 ?side2 A22.out).mono ?_); (case side1 => repeat (first | exact (Kd.V_reads' HO0.out).2.2 | (with_reducible refine Kd.C_alloc ?_ _) | (with_reducible refine Kd.C_drewN ?_ _) | (with_reducible refine Kd.C_drew ?_))); (case side2 => exact (Kd.V_reads' HO0.out).2.1); rintro e w' ⟨rfl, ⟨nd, rfl⟩⟩; refine ⟨_, rfl, ?_⟩) | (go_at_call 18; (with_reducible refine (quoinref02_Check.calls k _ _ l1 t449 _ ?side1 ?side2 A24.out).mono ?_); (case side1 => repeat (first | exact (Kd.V_reads' HO1.out).2.2 | (with_reducible refine Kd.C_alloc ?_ _) | (with_reducible refine Kd.C_drewN ?_ _) | (with_reducible refine Kd.C_drew ?_))); (case side2 => exact (Kd.V_reads' HO1.out).2.1); rintro e w' ⟨rfl, ⟨nd, rfl⟩⟩))
   go_meet
   case rel => exact ⟨_, ((t449 != 0)), Z3, H', ⟨by first | omega | exact Nat.le_refl _⟩, ⟨by (with_reducible repeat (first | apply Kd.V_alloc | apply Kd.V_drewN | apply Kd.V_drew)); exact Kd.V_mono HO0.out (fun _ hk => ⟨hk.1.1.1.1.1.1.1, ⟨hk.1.1.1.1.1.2, ⟨hk.1.1.1.2, ⟨hk.1.1.2, ⟨hk.1.2, hk.2⟩⟩⟩⟩⟩)⟩, ⟨by (with_reducible repeat (first | apply Kd.V_alloc | apply Kd.V_drewN | apply Kd.V_drew)); exact Kd.V_mono HO1.out (fun _ hk => ⟨hk.1.1.1.1.1.1.1, ⟨hk.1.1.1.1.1.2, ⟨hk.1.1.1.2, ⟨hk.1.1.2, ⟨hk.1.2, hk.2⟩⟩⟩⟩⟩)⟩, ⟨by (with_reducible repeat (first | apply Kd.R_alloc | apply Kd.R_drewN | apply Kd.R_drew)); exact Kd.R_mono HO428.out (fun _ hk => ⟨hk.1.1.1.1.1, ⟨hk.1.1.1.2, ⟨hk.1.1.2, ⟨hk.1.2, hk.2⟩⟩⟩⟩)⟩, ⟨by (with_reducible repeat (first | apply Kd.R_alloc | apply Kd.R_drewN | apply Kd.R_drew)); exact Kd.R_mono HO435.out (fun _ hk => ⟨hk.1.1.1.1.1, ⟨hk.1.1.1.2, ⟨hk.1.1.2, ⟨hk.1.2, hk.2⟩⟩⟩⟩)⟩, ⟨by (with_reducible repeat (first | apply Kd.R_alloc | apply Kd.R_drewN | apply Kd.R_drew)); exact Kd.R_mono HO438.out (fun _ hk => ⟨hk.1.1.1.1.1, ⟨hk.1.1.1.2, ⟨hk.1.1.2, ⟨hk.1.2, hk.2⟩⟩⟩⟩)⟩, ⟨by (with_reducible repeat (first | apply Kd.R_alloc | apply Kd.R_drewN | apply Kd.R_drew)); exact Kd.R_mono HO443.out (fun _ hk => ⟨hk.1.1.1.1.1, ⟨hk.1.1.1.2, ⟨hk.1.1.2, ⟨hk.1.2, hk.2⟩⟩⟩⟩)⟩, ⟨by (with_reducible repeat (first | apply Kd.R_alloc | apply Kd.R_drewN | apply Kd.R_drew)); exact Kd.R_mono HO447.out (fun _ hk => ⟨hk.1.1.1.1.1, ⟨hk.1.1.1.2, ⟨hk.1.1.2, ⟨hk.1.2, hk.2⟩⟩⟩⟩)⟩, ⟨Z0⟩⟩
  ·rw [if_neg c23] at H
   have c23b0 := e3 c23
   have c23b1 := e4 c23
   (first | rw [c23b0] | (simp only [i64_w, i32_w]; rw [c23b0]) | skip)
   have H' := Aside0.mk H
   clear H
   go_wp2_with (first | ((with_reducible refine gC 18 rfl ?_); refine goesL_ (some 50) rfl rfl Tryd.func18 Z22 rfl #[.slice A0 l0.length c0] rfl Z2 ?_; (with_reducible refine (quoinref02_Check.calls k _ _ l0 t448 _ ?side1 ?side2 A22.out).mono ?_); (case side1 => repeat (first | exact (Kd.V_reads' HO0.out).2.2 | (with_reducible refine Kd.C_alloc ?_ _) | (with_reducible refine Kd.C_drewN ?_ _) | (with_reducible refine Kd.C_drew ?_))); (case side2 => exact (Kd.V_reads' HO0.out).2.1); rintro e w' ⟨rfl, ⟨nd, rfl⟩⟩; refine ⟨_, rfl, ?_⟩))
   go_meet
   case rel => exact ⟨_, (true), Z3, H', ⟨by first | omega | exact Nat.le_refl _⟩, ⟨by (with_reducible repeat (first | apply Kd.V_alloc | apply Kd.V_drewN | apply Kd.V_drew)); exact Kd.V_mono HO0.out (fun _ hk => ⟨hk.1.1.1.1.1.1.1, ⟨hk.1.1.1.1.1.2, ⟨hk.1.1.1.2, ⟨hk.1.1.2, ⟨hk.1.2, hk.2⟩⟩⟩⟩⟩)⟩, ⟨by (with_reducible repeat (first | apply Kd.V_alloc | apply Kd.V_drewN | apply Kd.V_drew)); exact Kd.V_mono HO1.out (fun _ hk => ⟨hk.1.1.1.1.1.1.1, ⟨hk.1.1.1.1.1.2, ⟨hk.1.1.1.2, ⟨hk.1.1.2, ⟨hk.1.2, hk.2⟩⟩⟩⟩⟩)⟩, ⟨by (with_reducible repeat (first | apply Kd.R_alloc | apply Kd.R_drewN | apply Kd.R_drew)); exact Kd.R_mono HO428.out (fun _ hk => ⟨hk.1.1.1.1.1, ⟨hk.1.1.1.2, ⟨hk.1.1.2, ⟨hk.1.2, hk.2⟩⟩⟩⟩)⟩, ⟨by (with_reducible repeat (first | apply Kd.R_alloc | apply Kd.R_drewN | apply Kd.R_drew)); exact Kd.R_mono HO435.out (fun _ hk => ⟨hk.1.1.1.1.1, ⟨hk.1.1.1.2, ⟨hk.1.1.2, ⟨hk.1.2, hk.2⟩⟩⟩⟩)⟩, ⟨by (with_reducible repeat (first | apply Kd.R_alloc | apply Kd.R_drewN | apply Kd.R_drew)); exact Kd.R_mono HO438.out (fun _ hk => ⟨hk.1.1.1.1.1, ⟨hk.1.1.1.2, ⟨hk.1.1.2, ⟨hk.1.2, hk.2⟩⟩⟩⟩)⟩, ⟨by (with_reducible repeat (first | apply Kd.R_alloc | apply Kd.R_drewN | apply Kd.R_drew)); exact Kd.R_mono HO443.out (fun _ hk => ⟨hk.1.1.1.1.1, ⟨hk.1.1.1.2, ⟨hk.1.1.2, ⟨hk.1.2, hk.2⟩⟩⟩⟩)⟩, ⟨by (with_reducible repeat (first | apply Kd.R_alloc | apply Kd.R_drewN | apply Kd.R_drew)); exact Kd.R_mono HO447.out (fun _ hk => ⟨hk.1.1.1.1.1, ⟨hk.1.1.1.2, ⟨hk.1.1.2, ⟨hk.1.2, hk.2⟩⟩⟩⟩)⟩, ⟨Z0⟩⟩
 case rest => as_aux_lemma =>
  clear HC9
  try clear c1
  try clear c2
  try clear p2
  try clear c8
  try clear c18
  try clear c23
  try clear c23b0
  try clear c23b1
  obtain ⟨kq, x56_8, rfl, HA, HJ8, HO_0, HO_1, HO_7, HO_9, HO_11, HO_13, HO_15, HB⟩ := hcut
  cases kq with
  | zero => exact absurd HA.out (by simp [quoinlaw02_RunesAlgebra.j0])
  | succ kj8 =>
   have H := HA.out
   clear HA
   simp only [quoinlaw02_RunesAlgebra.j0] at H
   by_cases c25 : x56_8 = true
   ·subst c25
    have H1 : (if t426 = 0 then (some false) else (if t433 = 0 then (some false) else (if t439 = 0 then (some false) else ((quoinlaw02_awake.f kj8).bind fun t450 => (some t450))))) = some r := by rw [if_pos rfl] at H; exact H
    clear H
    have H := H1
    clear H1
    by_cases c26 : t426 = 0
    ·rw [if_pos c26] at H
     have c26b0 := e1 c26
     have c26b1 := e2 c26
     clear c26
     obtain rfl := Option.some.inj H
     go_wp2
     go_ret
     exact ⟨Z4, Z0⟩
    ·rw [if_neg c26] at H
     have c26b0 := e3 c26
     have c26b1 := e4 c26
     by_cases c27 : t433 = 0
     ·rw [if_pos c27] at H
      have c27b0 := e1 c27
      have c27b1 := e2 c27
      clear c27
      obtain rfl := Option.some.inj H
      go_wp2
      go_ret
      exact ⟨Z4, Z0⟩
     ·rw [if_neg c27] at H
      have c27b0 := e3 c27
      have c27b1 := e4 c27
      by_cases c28 : t439 = 0
      ·rw [if_pos c28] at H
       have c28b0 := e1 c28
       have c28b1 := e2 c28
       clear c28
       obtain rfl := Option.some.inj H
       go_wp2
       go_ret
       exact ⟨Z4, Z0⟩
      ·rw [if_neg c28] at H
       have c28b0 := e3 c28
       have c28b1 := e4 c28
       replace H := bS H
       obtain ⟨t450, A29, H⟩ := H
       try dsimp only at H
       obtain rfl := Option.some.inj H
       go_wp2_with (first | (go_at_call 16; (with_reducible refine (quoinlaw02_awake.calls A29.out).mono ?_); rintro e w30 ⟨rfl, hb⟩; have n0_ := Aside0.mk (Kd.V_below Z6 hb); have n1_ := Aside0.mk (Kd.V_below Z5 hb); have n2_ := Aside0.mk (Kd.R_below (kK HO_7) hb); have n3_ := Aside0.mk (Kd.R_below (kK HO_9) hb); have n4_ := Aside0.mk (Kd.R_below (kK HO_11) hb); have n5_ := Aside0.mk (Kd.R_below (kK HO_13) hb); have n6_ := Aside0.mk (Kd.R_below (kK HO_15) hb); have n7_ := Aside0.mk (below_step zB hb); clear HO_0; clear HO_1; clear HO_7; clear HO_9; clear HO_11; clear HO_13; clear HO_15; clear HB; have HO_0 := n0_; have HO_1 := n1_; have HO_7 := n2_; have HO_9 := n3_; have HO_11 := n4_; have HO_13 := n5_; have HO_15 := n6_; have HB := n7_; clear n0_ n1_ n2_ n3_ n4_ n5_ n6_ n7_; (try clear hb); (try clear hb2); (try clear hk); (try clear hi)))
       go_ret
       exact ⟨Z4, Z0⟩
   ·replace c25 := Bool.eq_false_iff.mpr c25
    subst c25
    have H1 : ((runes_Has.f kj8 l0 a2).bind fun t451 => ((runes_Has.f kj8 l1 a2).bind fun t452 => (if a2 < 0 then (quoinlaw02_RunesAlgebra.j1 kj8 l0 l1 a2 t425 t426 t432 t433 t436 t439 t440 t441 t444 t445 t451 t452 true) else (quoinlaw02_RunesAlgebra.j1 kj8 l0 l1 a2 t425 t426 t432 t433 t436 t439 t440 t441 t444 t445 t451 t452 (decide (a2 > 1114111)))))) = some r := by rw [if_neg (show ¬ (false = true) by decide)] at H; exact H
    clear H
    have H := H1
    clear H1
    replace H := bS H
    obtain ⟨t451, A31, H⟩ := H
    try dsimp only at H
    replace H := bS H
    obtain ⟨t452, A32, H⟩ := H
    try dsimp only at H
    have HC33 := Aside0.mk H
    clear H
    go_upto_region 9 with (first | ((with_reducible refine gC 33 rfl ?_); refine goesL_ (some 72) rfl rfl Tryd.func33 Z22 rfl #[.slice A0 l0.length c0, .int .i32 a2] rfl Z2 ?_; (with_reducible refine (runes_Has.calls kj8 _ _ l0 a2 t451 _ ?side1 ?side2 A31.out).mono ?_); (case side1 => repeat (first | exact (Kd.V_reads' HO_0.out).2.2 | (with_reducible refine Kd.C_alloc ?_ _) | (with_reducible refine Kd.C_drewN ?_ _) | (with_reducible refine Kd.C_drew ?_))); (case side2 => exact (Kd.V_reads' HO_0.out).2.1); rintro e w34 ⟨rfl, hb⟩; refine ⟨_, rfl, ?_⟩; have n0_ := Aside0.mk (Kd.V_below Z6 hb); have n1_ := Aside0.mk (Kd.V_below Z5 hb); have n2_ := Aside0.mk (Kd.R_below (kK HO_7) hb); have n3_ := Aside0.mk (Kd.R_below (kK HO_9) hb); have n4_ := Aside0.mk (Kd.R_below (kK HO_11) hb); have n5_ := Aside0.mk (Kd.R_below (kK HO_13) hb); have n6_ := Aside0.mk (Kd.R_below (kK HO_15) hb); have n7_ := Aside0.mk (below_step zB hb); clear HO_0; clear HO_1; clear HO_7; clear HO_9; clear HO_11; clear HO_13; clear HO_15; clear HB; have HO_0 := n0_; have HO_1 := n1_; have HO_7 := n2_; have HO_9 := n3_; have HO_11 := n4_; have HO_13 := n5_; have HO_15 := n6_; have HB := n7_; clear n0_ n1_ n2_ n3_ n4_ n5_ n6_ n7_; (try clear hb); (try clear hb2); (try clear hk); (try clear hi)) | ((with_reducible refine gC 33 rfl ?_); refine goesL_ (some 75) rfl rfl Tryd.func33 Z22 rfl #[.slice A1 l1.length c1, .int .i32 a2] rfl Z2 ?_; (with_reducible refine (runes_Has.calls kj8 _ _ l1 a2 t452 _ ?side1 ?side2 A32.out).mono ?_); (case side1 => repeat (first | exact (Kd.V_reads' HO_1.out).2.2 | (with_reducible refine Kd.C_alloc ?_ _) | (with_reducible refine Kd.C_drewN ?_ _) | (with_reducible refine Kd.C_drew ?_))); (case side2 => exact (Kd.V_reads' HO_1.out).2.1); rintro e w35 ⟨rfl, hb⟩; refine ⟨_, rfl, ?_⟩; have n0_ := Aside0.mk (Kd.V_below Z6 hb); have n1_ := Aside0.mk (Kd.V_below Z5 hb); have n2_ := Aside0.mk (Kd.R_below (kK HO_7) hb); have n3_ := Aside0.mk (Kd.R_below (kK HO_9) hb); have n4_ := Aside0.mk (Kd.R_below (kK HO_11) hb); have n5_ := Aside0.mk (Kd.R_below (kK HO_13) hb); have n6_ := Aside0.mk (Kd.R_below (kK HO_15) hb); have n7_ := Aside0.mk (below_step zB hb); clear HO_0; clear HO_1; clear HO_7; clear HO_9; clear HO_11; clear HO_13; clear HO_15; clear HB; have HO_0 := n0_; have HO_1 := n1_; have HO_7 := n2_; have HO_9 := n3_; have HO_11 := n4_; have HO_13 := n5_; have HO_15 := n6_; have HB := n7_; clear n0_ n1_ n2_ n3_ n4_ n5_ n6_ n7_; (try clear hb); (try clear hb2); (try clear hk); (try clear hi)))
    (try simp only [Act.put, List.setIfInBounds_toArray, List.set_cons_zero, List.set_cons_succ])
    go_cut [81] (fun v81 wc => ∃ (kq : Nat) (x81_32 : Bool), v81 = .bool x81_32 ∧ Aside0 (quoinlaw02_RunesAlgebra.j1 kq l0 l1 a2 t425 t426 t432 t433 t436 t439 t440 t441 t444 t445 t451 t452 x81_32 = some r) ∧ Aside0 (kq ≤ kj8) ∧ Aside0 (Kd.V k36 36 wc w.heap.size (fun k_ => ((P0_ k_ ∨ P1_ k_) ∨ w.heap.size ≤ k_) ∧ some k_ ≠ (v427 : Value).ownBlock ∧ some k_ ≠ (v434 : Value).ownBlock ∧ some k_ ≠ (v437 : Value).ownBlock ∧ some k_ ≠ ((.slice Ao20 t440.length co20) : Value).ownBlock ∧ some k_ ≠ (v446 : Value).ownBlock) (.slice A0 l0.length c0) l0) ∧ Aside0 (Kd.V k36 36 wc w.heap.size (fun k_ => ((P0_ k_ ∨ P1_ k_) ∨ w.heap.size ≤ k_) ∧ some k_ ≠ (v427 : Value).ownBlock ∧ some k_ ≠ (v434 : Value).ownBlock ∧ some k_ ≠ (v437 : Value).ownBlock ∧ some k_ ≠ ((.slice Ao20 t440.length co20) : Value).ownBlock ∧ some k_ ≠ (v446 : Value).ownBlock) (.slice A1 l1.length c1) l1) ∧ Aside0 (Kd.R k36 36 wc w.heap.size (fun k_ => (w.heap.size ≤ k_) ∧ some k_ ≠ (v434 : Value).ownBlock ∧ some k_ ≠ (v437 : Value).ownBlock ∧ some k_ ≠ ((.slice Ao20 t440.length co20) : Value).ownBlock ∧ some k_ ≠ (v446 : Value).ownBlock) v427 t425) ∧ Aside0 (Kd.R k36 36 wc w.heap.size (fun k_ => (w.heap.size ≤ k_) ∧ some k_ ≠ (v427 : Value).ownBlock ∧ some k_ ≠ (v437 : Value).ownBlock ∧ some k_ ≠ ((.slice Ao20 t440.length co20) : Value).ownBlock ∧ some k_ ≠ (v446 : Value).ownBlock) v434 t432) ∧ Aside0 (Kd.R k36 36 wc w.heap.size (fun k_ => (w.heap.size ≤ k_) ∧ some k_ ≠ (v427 : Value).ownBlock ∧ some k_ ≠ (v434 : Value).ownBlock ∧ some k_ ≠ ((.slice Ao20 t440.length co20) : Value).ownBlock ∧ some k_ ≠ (v446 : Value).ownBlock) v437 t436) ∧ Aside0 (Kd.R k36 36 wc w.heap.size (fun k_ => (w.heap.size ≤ k_) ∧ some k_ ≠ (v427 : Value).ownBlock ∧ some k_ ≠ (v434 : Value).ownBlock ∧ some k_ ≠ (v437 : Value).ownBlock ∧ some k_ ≠ (v446 : Value).ownBlock) (.slice Ao20 t440.length co20) t440) ∧ Aside0 (Kd.R k36 36 wc w.heap.size (fun k_ => (w.heap.size ≤ k_) ∧ some k_ ≠ (v427 : Value).ownBlock ∧ some k_ ≠ (v434 : Value).ownBlock ∧ some k_ ≠ (v437 : Value).ownBlock ∧ some k_ ≠ ((.slice Ao20 t440.length co20) : Value).ownBlock) v446 t444) ∧ Aside0 (Below w.heap.size w wc))
    case first => as_aux_lemma =>
     have H := HC33.out
     clear HC33
     by_cases c36 : a2 < 0
     ·rw [if_pos c36] at H
      have c36b0 := decide_eq_true c36
      clear c36
      (first | rw [c36b0] | (simp only [i64_w, i32_w]; rw [c36b0]) | skip)
      have H' := Aside0.mk H
      clear H
      go_wp2
      go_meet
      case rel => exact ⟨_, (true), Z3, H', ⟨by have := HJ8.out; first | omega | exact Nat.le_refl _⟩, ⟨Z6⟩, ⟨Z5⟩, ⟨Z27⟩, ⟨by (with_reducible repeat (first | apply Kd.R_alloc | apply Kd.R_drewN | apply Kd.R_drew)); exact HO_9.out⟩, ⟨by (with_reducible repeat (first | apply Kd.R_alloc | apply Kd.R_drewN | apply Kd.R_drew)); exact HO_11.out⟩, ⟨by (with_reducible repeat (first | apply Kd.R_alloc | apply Kd.R_drewN | apply Kd.R_drew)); exact HO_13.out⟩, ⟨by (with_reducible repeat (first | apply Kd.R_alloc | apply Kd.R_drewN | apply Kd.R_drew)); exact HO_15.out⟩, ⟨Z0⟩⟩
     ·rw [if_neg c36] at H
      have c36b0 := decide_eq_false c36
      clear c36
      (first | rw [c36b0] | (simp only [i64_w, i32_w]; rw [c36b0]) | skip)
      have H' := Aside0.mk H
      clear H
      go_wp2
      go_meet
      case rel => exact ⟨_, (decide (a2 > 1114111)), Z3, H', ⟨by have := HJ8.out; first | omega | exact Nat.le_refl _⟩, ⟨Z6⟩, ⟨Z5⟩, ⟨Z27⟩, ⟨by (with_reducible repeat (first | apply Kd.R_alloc | apply Kd.R_drewN | apply Kd.R_drew)); exact HO_9.out⟩, ⟨by (with_reducible repeat (first | apply Kd.R_alloc | apply Kd.R_drewN | apply Kd.R_drew)); exact HO_11.out⟩, ⟨by (with_reducible repeat (first | apply Kd.R_alloc | apply Kd.R_drewN | apply Kd.R_drew)); exact HO_13.out⟩, ⟨by (with_reducible repeat (first | apply Kd.R_alloc | apply Kd.R_drewN | apply Kd.R_drew)); exact HO_15.out⟩, ⟨Z0⟩⟩
    case rest => as_aux_lemma =>
     clear HC33
     try clear c1
     try clear c2
     try clear p2
     try clear c3
     try clear c8
     try clear c18
     try clear c23
     try clear c23b0
     try clear c23b1
     try clear c25
     try clear c26
     try clear c26b0
     try clear c26b1
     try clear c27
     try clear c27b0
     try clear c27b1
     try clear c28
     try clear c28b0
     try clear c28b1
     try clear c29
     try clear c33
     try clear c36
     try clear c36b0
     try clear p2
     obtain ⟨kq, x81_32, rfl, HA, HJ32, HO_0, HO_1, HO_7, HO_9, HO_11, HO_13, HO_15, HB⟩ := hcut
     cases kq with
     | zero => exact absurd HA.out (by simp [quoinlaw02_RunesAlgebra.j1])
     | succ kj32 =>
      have H := HA.out
      clear HA
      simp only [quoinlaw02_RunesAlgebra.j1] at H
      by_cases c37 : x81_32 = true
      ·subst c37
       have H1 : (if t451 = true then (some false) else (if t452 = true then (some false) else ((quoinlaw02_awake.f kj32).bind fun t453 => (some t453)))) = some r := by rw [if_pos rfl] at H; exact H
       clear H
       have H := H1
       clear H1
       by_cases c38 : t451 = true
       ·subst c38
        have H1 : (some false) = some r := by rw [if_pos rfl] at H; exact H
        clear H
        have H := H1
        clear H1
        obtain rfl := Option.some.inj H
        go_wp2
        go_ret
        exact ⟨Z4, Z0⟩
       ·replace c38 := Bool.eq_false_iff.mpr c38
        subst c38
        have H1 : (if t452 = true then (some false) else ((quoinlaw02_awake.f kj32).bind fun t453 => (some t453))) = some r := by rw [if_neg (show ¬ (false = true) by decide)] at H; exact H
        clear H
        have H := H1
        clear H1
        by_cases c39 : t452 = true
        ·subst c39
         have H1 : (some false) = some r := by rw [if_pos rfl] at H; exact H
         clear H
         have H := H1
         clear H1
         obtain rfl := Option.some.inj H
         go_wp2
         go_ret
         exact ⟨Z4, Z0⟩
        ·replace c39 := Bool.eq_false_iff.mpr c39
         subst c39
         have H1 : ((quoinlaw02_awake.f kj32).bind fun t453 => (some t453)) = some r := by rw [if_neg (show ¬ (false = true) by decide)] at H; exact H
         clear H
         have H := H1
         clear H1
         replace H := bS H
         obtain ⟨t453, A40, H⟩ := H
         try dsimp only at H
         obtain rfl := Option.some.inj H
         go_wp2_with (first | (go_at_call 16; (with_reducible refine (quoinlaw02_awake.calls A40.out).mono ?_); rintro e w41 ⟨rfl, hb⟩; have n0_ := Aside0.mk (Kd.V_below Z6 hb); have n1_ := Aside0.mk (Kd.V_below Z5 hb); have n2_ := Aside0.mk (Kd.R_below (kK HO_7) hb); have n3_ := Aside0.mk (Kd.R_below (kK HO_9) hb); have n4_ := Aside0.mk (Kd.R_below (kK HO_11) hb); have n5_ := Aside0.mk (Kd.R_below (kK HO_13) hb); have n6_ := Aside0.mk (Kd.R_below (kK HO_15) hb); have n7_ := Aside0.mk (below_step zB hb); clear HO_0; clear HO_1; clear HO_7; clear HO_9; clear HO_11; clear HO_13; clear HO_15; clear HB; have HO_0 := n0_; have HO_1 := n1_; have HO_7 := n2_; have HO_9 := n3_; have HO_11 := n4_; have HO_13 := n5_; have HO_15 := n6_; have HB := n7_; clear n0_ n1_ n2_ n3_ n4_ n5_ n6_ n7_; (try clear hb); (try clear hb2); (try clear hk); (try clear hi)))
         go_ret
         exact ⟨Z4, Z0⟩
      ·replace c37 := Bool.eq_false_iff.mpr c37
       subst c37
       have H1 : (if t426 = 0 then ((runes_Has.f kj32 t425 a2).bind fun t454 => (if t451 = true then (if (t454 != true) = true then (quoinlaw02_RunesAlgebra.j2 kj32 l0 l1 a2 t426 t440 t441 t444 t445 t451 true) else (if t433 = 0 then ((runes_Has.f kj32 t432 a2).bind fun t455 => (if (t455 != t452) = true then (quoinlaw02_RunesAlgebra.j2 kj32 l0 l1 a2 t426 t440 t441 t444 t445 t451 true) else (if t439 = 0 then ((runes_Has.f kj32 t436 a2).bind fun t456 => (quoinlaw02_RunesAlgebra.j2 kj32 l0 l1 a2 t426 t440 t441 t444 t445 t451 (t456 != (!t452)))) else (quoinlaw02_RunesAlgebra.j2 kj32 l0 l1 a2 t426 t440 t441 t444 t445 t451 false)))) else (if t439 = 0 then ((runes_Has.f kj32 t436 a2).bind fun t457 => (quoinlaw02_RunesAlgebra.j2 kj32 l0 l1 a2 t426 t440 t441 t444 t445 t451 (t457 != (!t452)))) else (quoinlaw02_RunesAlgebra.j2 kj32 l0 l1 a2 t426 t440 t441 t444 t445 t451 false)))) else (if (t454 != t452) = true then (quoinlaw02_RunesAlgebra.j2 kj32 l0 l1 a2 t426 t440 t441 t444 t445 t451 true) else (if t433 = 0 then ((runes_Has.f kj32 t432 a2).bind fun t458 => (if (t458 != false) = true then (quoinlaw02_RunesAlgebra.j2 kj32 l0 l1 a2 t426 t440 t441 t444 t445 t451 true) else (if t439 = 0 then ((runes_Has.f kj32 t436 a2).bind fun t459 => (quoinlaw02_RunesAlgebra.j2 kj32 l0 l1 a2 t426 t440 t441 t444 t445 t451 (t459 != false))) else (quoinlaw02_RunesAlgebra.j2 kj32 l0 l1 a2 t426 t440 t441 t444 t445 t451 false)))) else (if t439 = 0 then ((runes_Has.f kj32 t436 a2).bind fun t460 => (quoinlaw02_RunesAlgebra.j2 kj32 l0 l1 a2 t426 t440 t441 t444 t445 t451 (t460 != false))) else (quoinlaw02_RunesAlgebra.j2 kj32 l0 l1 a2 t426 t440 t441 t444 t445 t451 false)))))) else (if t433 = 0 then ((runes_Has.f kj32 t432 a2).bind fun t461 => (if t451 = true then (if (t461 != t452) = true then (quoinlaw02_RunesAlgebra.j2 kj32 l0 l1 a2 t426 t440 t441 t444 t445 t451 true) else (if t439 = 0 then ((runes_Has.f kj32 t436 a2).bind fun t462 => (quoinlaw02_RunesAlgebra.j2 kj32 l0 l1 a2 t426 t440 t441 t444 t445 t451 (t462 != (!t452)))) else (quoinlaw02_RunesAlgebra.j2 kj32 l0 l1 a2 t426 t440 t441 t444 t445 t451 false))) else (if (t461 != false) = true then (quoinlaw02_RunesAlgebra.j2 kj32 l0 l1 a2 t426 t440 t441 t444 t445 t451 true) else (if t439 = 0 then ((runes_Has.f kj32 t436 a2).bind fun t463 => (quoinlaw02_RunesAlgebra.j2 kj32 l0 l1 a2 t426 t440 t441 t444 t445 t451 (t463 != false))) else (quoinlaw02_RunesAlgebra.j2 kj32 l0 l1 a2 t426 t440 t441 t444 t445 t451 false))))) else (if t439 = 0 then ((runes_Has.f kj32 t436 a2).bind fun t464 => (if t451 = true then (quoinlaw02_RunesAlgebra.j2 kj32 l0 l1 a2 t426 t440 t441 t444 t445 t451 (t464 != (!t452))) else (quoinlaw02_RunesAlgebra.j2 kj32 l0 l1 a2 t426 t440 t441 t444 t445 t451 (t464 != false)))) else (quoinlaw02_RunesAlgebra.j2 kj32 l0 l1 a2 t426 t440 t441 t444 t445 t451 false)))) = some r := by rw [if_neg (show ¬ (false = true) by decide)] at H; exact H
       clear H
       have H := H1
       clear H1
       have HC42 := Aside0.mk H
       clear H
       go_upto_region 11 with (fail)
       go_cut [131] (fun v131 wc => ∃ (kq : Nat) (x131_41 : Bool), v131 = .bool x131_41 ∧ Aside0 (quoinlaw02_RunesAlgebra.j2 kq l0 l1 a2 t426 t440 t441 t444 t445 t451 x131_41 = some r) ∧ Aside0 (kq ≤ kj32) ∧ Aside0 (Kd.V k36 36 wc w.heap.size (fun k_ => ((P0_ k_ ∨ P1_ k_) ∨ w.heap.size ≤ k_) ∧ some k_ ≠ ((.slice Ao20 t440.length co20) : Value).ownBlock ∧ some k_ ≠ (v446 : Value).ownBlock) (.slice A0 l0.length c0) l0) ∧ Aside0 (Kd.V k36 36 wc w.heap.size (fun k_ => ((P0_ k_ ∨ P1_ k_) ∨ w.heap.size ≤ k_) ∧ some k_ ≠ ((.slice Ao20 t440.length co20) : Value).ownBlock ∧ some k_ ≠ (v446 : Value).ownBlock) (.slice A1 l1.length c1) l1) ∧ Aside0 (Kd.R k36 36 wc w.heap.size (fun k_ => (w.heap.size ≤ k_) ∧ some k_ ≠ (v446 : Value).ownBlock) (.slice Ao20 t440.length co20) t440) ∧ Aside0 (Kd.R k36 36 wc w.heap.size (fun k_ => (w.heap.size ≤ k_) ∧ some k_ ≠ ((.slice Ao20 t440.length co20) : Value).ownBlock) v446 t444) ∧ Aside0 (Below w.heap.size w wc))
       case first => as_aux_lemma =>
        have H := HC42.out
        clear HC42
        by_cases c43 : t426 = 0
        ·rw [if_pos c43] at H
         have c43b0 := e1 c43
         have c43b1 := e2 c43
         clear c43
         (first | rw [c43b0] | (simp only [i64_w, i32_w]; rw [c43b0]) | skip)
         replace H := bS H
         obtain ⟨t454, A44, H⟩ := H
         try dsimp only at H
         by_cases c45 : t451 = true
         ·subst c45
          have H1 : (if (t454 != true) = true then (quoinlaw02_RunesAlgebra.j2 kj32 l0 l1 a2 t426 t440 t441 t444 t445 true true) else (if t433 = 0 then ((runes_Has.f kj32 t432 a2).bind fun t455 => (if (t455 != t452) = true then (quoinlaw02_RunesAlgebra.j2 kj32 l0 l1 a2 t426 t440 t441 t444 t445 true true) else (if t439 = 0 then ((runes_Has.f kj32 t436 a2).bind fun t456 => (quoinlaw02_RunesAlgebra.j2 kj32 l0 l1 a2 t426 t440 t441 t444 t445 true (t456 != (!t452)))) else (quoinlaw02_RunesAlgebra.j2 kj32 l0 l1 a2 t426 t440 t441 t444 t445 true false)))) else (if t439 = 0 then ((runes_Has.f kj32 t436 a2).bind fun t457 => (quoinlaw02_RunesAlgebra.j2 kj32 l0 l1 a2 t426 t440 t441 t444 t445 true (t457 != (!t452)))) else (quoinlaw02_RunesAlgebra.j2 kj32 l0 l1 a2 t426 t440 t441 t444 t445 true false)))) = some r := by rw [if_pos rfl] at H; exact H
          clear H
          have H := H1
          clear H1
          by_cases c46 : (t454 != true) = true
          ·rw [if_pos c46] at H
           have c46b0 : (t454 != true) = true := c46
           (try (have c46b1 : decide (t454 = true) = false := by simpa using c46))
           (try (have c46b2 : (t454 == true) = false := by simpa using c46))
           (try (have c46b3 : ¬ (t454 = true) := by simpa using c46))
           clear c46
           have H' := Aside0.mk H
           clear H
           obtain ⟨Ao47, co47, eo47⟩ := Kd.R_slice HO_7.out
           subst eo47
           go_wp2_with (first | (go_at_call 33; (with_reducible refine (runes_Has.calls kj32 _ _ t425 a2 t454 _ ?side1 ?side2 A44.out).mono ?_); (case side1 => repeat (first | exact (Kd.R_reads' HO_7.out).2.2 | (with_reducible refine Kd.C_alloc ?_ _) | (with_reducible refine Kd.C_drewN ?_ _) | (with_reducible refine Kd.C_drew ?_))); (case side2 => exact (Kd.R_reads' HO_7.out).2.1); rintro e w48 ⟨rfl, hb⟩; have n0_ := Aside0.mk (Kd.V_below Z6 hb); have n1_ := Aside0.mk (Kd.V_below Z5 hb); have n2_ := Aside0.mk (Kd.R_below (kK HO_7) hb); have n3_ := Aside0.mk (Kd.R_below (kK HO_9) hb); have n4_ := Aside0.mk (Kd.R_below (kK HO_11) hb); have n5_ := Aside0.mk (Kd.R_below (kK HO_13) hb); have n6_ := Aside0.mk (Kd.R_below (kK HO_15) hb); have n7_ := Aside0.mk (below_step zB hb); clear HO_0; clear HO_1; clear HO_7; clear HO_9; clear HO_11; clear HO_13; clear HO_15; clear HB; have HO_0 := n0_; have HO_1 := n1_; have HO_7 := n2_; have HO_9 := n3_; have HO_11 := n4_; have HO_13 := n5_; have HO_15 := n6_; have HB := n7_; clear n0_ n1_ n2_ n3_ n4_ n5_ n6_ n7_; (try clear hb); (try clear hb2); (try clear hk); (try clear hi)))
           go_meet
           case rel => exact ⟨_, (true), Z3, H', ⟨Z17⟩, ⟨Z8⟩, ⟨Z7⟩, ⟨Z10⟩, ⟨Z9⟩, ⟨Z0⟩⟩
          ·rw [if_neg c46] at H
           have c46b0 : (t454 != true) = false := by simpa using c46
           (try (have c46b1 : decide (t454 = true) = true := by simpa using c46))
           (try (have c46b2 : (t454 == true) = true := by simpa using c46))
           clear c46
           by_cases c49 : t433 = 0
           ·rw [if_pos c49] at H
            have c49b0 := e1 c49
            have c49b1 := e2 c49
            clear c49
            replace H := bS H
            obtain ⟨t455, A50, H⟩ := H
            try dsimp only at H
            by_cases c51 : (t455 != t452) = true
            ·rw [if_pos c51] at H
             have c51b0 : (t455 != t452) = true := c51
             (try (have c51b1 : decide (t455 = t452) = false := by simpa using c51))
             (try (have c51b2 : (t455 == t452) = false := by simpa using c51))
             (try (have c51b3 : ¬ (t455 = t452) := by simpa using c51))
             clear c51
             have H' := Aside0.mk H
             clear H
             obtain ⟨Ao52, co52, eo52⟩ := Kd.R_slice HO_7.out
             subst eo52
             go_wp2_with (first | (go_at_call 33; (with_reducible refine (runes_Has.calls kj32 _ _ t425 a2 t454 _ ?side1 ?side2 A44.out).mono ?_); (case side1 => repeat (first | exact (Kd.R_reads' HO_7.out).2.2 | (with_reducible refine Kd.C_alloc ?_ _) | (with_reducible refine Kd.C_drewN ?_ _) | (with_reducible refine Kd.C_drew ?_))); (case side2 => exact (Kd.R_reads' HO_7.out).2.1); rintro e w53 ⟨rfl, hb⟩; have n0_ := Aside0.mk (Kd.V_below Z6 hb); have n1_ := Aside0.mk (Kd.V_below Z5 hb); have n2_ := Aside0.mk (Kd.R_below (kK HO_7) hb); have n3_ := Aside0.mk (Kd.R_below (kK HO_9) hb); have n4_ := Aside0.mk (Kd.R_below (kK HO_11) hb); have n5_ := Aside0.mk (Kd.R_below (kK HO_13) hb); have n6_ := Aside0.mk (Kd.R_below (kK HO_15) hb); have n7_ := Aside0.mk (below_step zB hb); clear HO_0; clear HO_1; clear HO_7; clear HO_9; clear HO_11; clear HO_13; clear HO_15; clear HB; have HO_0 := n0_; have HO_1 := n1_; have HO_7 := n2_; have HO_9 := n3_; have HO_11 := n4_; have HO_13 := n5_; have HO_15 := n6_; have HB := n7_; clear n0_ n1_ n2_ n3_ n4_ n5_ n6_ n7_; (try clear hb); (try clear hb2); (try clear hk); (try clear hi); obtain ⟨Ao54, co54, eo54⟩ := Kd.R_slice HO_9.out; subst eo54) | (go_at_call 33; (with_reducible refine (runes_Has.calls kj32 _ _ t432 a2 t455 _ ?side1 ?side2 A50.out).mono ?_); (case side1 => repeat (first | exact (Kd.R_reads' HO_9.out).2.2 | (with_reducible refine Kd.C_alloc ?_ _) | (with_reducible refine Kd.C_drewN ?_ _) | (with_reducible refine Kd.C_drew ?_))); (case side2 => exact (Kd.R_reads' HO_9.out).2.1); rintro e w55 ⟨rfl, hb⟩; have n0_ := Aside0.mk (Kd.V_below Z6 hb); have n1_ := Aside0.mk (Kd.V_below Z5 hb); have n2_ := Aside0.mk (Kd.R_below (kK HO_7) hb); have n3_ := Aside0.mk (Kd.R_below (kK HO_9) hb); have n4_ := Aside0.mk (Kd.R_below (kK HO_11) hb); have n5_ := Aside0.mk (Kd.R_below (kK HO_13) hb); have n6_ := Aside0.mk (Kd.R_below (kK HO_15) hb); have n7_ := Aside0.mk (below_step zB hb); clear HO_0; clear HO_1; clear HO_7; clear HO_9; clear HO_11; clear HO_13; clear HO_15; clear HB; have HO_0 := n0_; have HO_1 := n1_; have HO_7 := n2_; have HO_9 := n3_; have HO_11 := n4_; have HO_13 := n5_; have HO_15 := n6_; have HB := n7_; clear n0_ n1_ n2_ n3_ n4_ n5_ n6_ n7_; (try clear hb); (try clear hb2); (try clear hk); (try clear hi)))
             go_meet
             case rel => exact ⟨_, (true), Z3, H', ⟨Z17⟩, ⟨Z8⟩, ⟨Z7⟩, ⟨Z10⟩, ⟨Z9⟩, ⟨Z0⟩⟩
            ·rw [if_neg c51] at H
             have c51b0 : (t455 != t452) = false := by simpa using c51
             (try (have c51b1 : decide (t455 = t452) = true := by simpa using c51))
             (try (have c51b2 : (t455 == t452) = true := by simpa using c51))
             clear c51
             by_cases c56 : t439 = 0
             ·rw [if_pos c56] at H
              have c56b0 := e1 c56
              have c56b1 := e2 c56
              clear c56
              replace H := bS H
              obtain ⟨t456, A57, H⟩ := H
              try dsimp only at H
              have H' := Aside0.mk H
              clear H
              obtain ⟨Ao58, co58, eo58⟩ := Kd.R_slice HO_7.out
              subst eo58
              go_wp2_with (first | (go_at_call 33; (with_reducible refine (runes_Has.calls kj32 _ _ t425 a2 t454 _ ?side1 ?side2 A44.out).mono ?_); (case side1 => repeat (first | exact (Kd.R_reads' HO_7.out).2.2 | (with_reducible refine Kd.C_alloc ?_ _) | (with_reducible refine Kd.C_drewN ?_ _) | (with_reducible refine Kd.C_drew ?_))); (case side2 => exact (Kd.R_reads' HO_7.out).2.1); rintro e w59 ⟨rfl, hb⟩; have n0_ := Aside0.mk (Kd.V_below Z6 hb); have n1_ := Aside0.mk (Kd.V_below Z5 hb); have n2_ := Aside0.mk (Kd.R_below (kK HO_7) hb); have n3_ := Aside0.mk (Kd.R_below (kK HO_9) hb); have n4_ := Aside0.mk (Kd.R_below (kK HO_11) hb); have n5_ := Aside0.mk (Kd.R_below (kK HO_13) hb); have n6_ := Aside0.mk (Kd.R_below (kK HO_15) hb); have n7_ := Aside0.mk (below_step zB hb); clear HO_0; clear HO_1; clear HO_7; clear HO_9; clear HO_11; clear HO_13; clear HO_15; clear HB; have HO_0 := n0_; have HO_1 := n1_; have HO_7 := n2_; have HO_9 := n3_; have HO_11 := n4_; have HO_13 := n5_; have HO_15 := n6_; have HB := n7_; clear n0_ n1_ n2_ n3_ n4_ n5_ n6_ n7_; (try clear hb); (try clear hb2); (try clear hk); (try clear hi); obtain ⟨Ao60, co60, eo60⟩ := Kd.R_slice HO_9.out; subst eo60) | (go_at_call 33; (with_reducible refine (runes_Has.calls kj32 _ _ t432 a2 t455 _ ?side1 ?side2 A50.out).mono ?_); (case side1 => repeat (first | exact (Kd.R_reads' HO_9.out).2.2 | (with_reducible refine Kd.C_alloc ?_ _) | (with_reducible refine Kd.C_drewN ?_ _) | (with_reducible refine Kd.C_drew ?_))); (case side2 => exact (Kd.R_reads' HO_9.out).2.1); rintro e w61 ⟨rfl, hb⟩; have n0_ := Aside0.mk (Kd.V_below Z6 hb); have n1_ := Aside0.mk (Kd.V_below Z5 hb); have n2_ := Aside0.mk (Kd.R_below (kK HO_7) hb); have n3_ := Aside0.mk (Kd.R_below (kK HO_9) hb); have n4_ := Aside0.mk (Kd.R_below (kK HO_11) hb); have n5_ := Aside0.mk (Kd.R_below (kK HO_13) hb); have n6_ := Aside0.mk (Kd.R_below (kK HO_15) hb); have n7_ := Aside0.mk (below_step zB hb); clear HO_0; clear HO_1; clear HO_7; clear HO_9; clear HO_11; clear HO_13; clear HO_15; clear HB; have HO_0 := n0_; have HO_1 := n1_; have HO_7 := n2_; have HO_9 := n3_; have HO_11 := n4_; have HO_13 := n5_; have HO_15 := n6_; have HB := n7_; clear n0_ n1_ n2_ n3_ n4_ n5_ n6_ n7_; (try clear hb); (try clear hb2); (try clear hk); (try clear hi); obtain ⟨Ao62, co62, eo62⟩ := Kd.R_slice HO_11.out; subst eo62) | (go_at_call 33; (with_reducible refine (runes_Has.calls kj32 _ _ t436 a2 t456 _ ?side1 ?side2 A57.out).mono ?_); (case side1 => repeat (first | exact (Kd.R_reads' HO_11.out).2.2 | (with_reducible refine Kd.C_alloc ?_ _) | (with_reducible refine Kd.C_drewN ?_ _) | (with_reducible refine Kd.C_drew ?_))); (case side2 => exact (Kd.R_reads' HO_11.out).2.1); rintro e w63 ⟨rfl, hb⟩; have n0_ := Aside0.mk (Kd.V_below Z6 hb); have n1_ := Aside0.mk (Kd.V_below Z5 hb); have n2_ := Aside0.mk (Kd.R_below (kK HO_7) hb); have n3_ := Aside0.mk (Kd.R_below (kK HO_9) hb); have n4_ := Aside0.mk (Kd.R_below (kK HO_11) hb); have n5_ := Aside0.mk (Kd.R_below (kK HO_13) hb); have n6_ := Aside0.mk (Kd.R_below (kK HO_15) hb); have n7_ := Aside0.mk (below_step zB hb); clear HO_0; clear HO_1; clear HO_7; clear HO_9; clear HO_11; clear HO_13; clear HO_15; clear HB; have HO_0 := n0_; have HO_1 := n1_; have HO_7 := n2_; have HO_9 := n3_; have HO_11 := n4_; have HO_13 := n5_; have HO_15 := n6_; have HB := n7_; clear n0_ n1_ n2_ n3_ n4_ n5_ n6_ n7_; (try clear hb); (try clear hb2); (try clear hk); (try clear hi)))
              go_meet
              case rel => exact ⟨_, ((t456 != (!t452))), Z3, H', ⟨Z17⟩, ⟨Z8⟩, ⟨Z7⟩, ⟨Z10⟩, ⟨Z9⟩, ⟨Z0⟩⟩
             ·rw [if_neg c56] at H
              have c56b0 := e3 c56
              have c56b1 := e4 c56
              have H' := Aside0.mk H
              clear H
              obtain ⟨Ao64, co64, eo64⟩ := Kd.R_slice HO_7.out
              subst eo64
              go_wp2_with (first | (go_at_call 33; (with_reducible refine (runes_Has.calls kj32 _ _ t425 a2 t454 _ ?side1 ?side2 A44.out).mono ?_); (case side1 => repeat (first | exact (Kd.R_reads' HO_7.out).2.2 | (with_reducible refine Kd.C_alloc ?_ _) | (with_reducible refine Kd.C_drewN ?_ _) | (with_reducible refine Kd.C_drew ?_))); (case side2 => exact (Kd.R_reads' HO_7.out).2.1); rintro e w65 ⟨rfl, hb⟩; have n0_ := Aside0.mk (Kd.V_below Z6 hb); have n1_ := Aside0.mk (Kd.V_below Z5 hb); have n2_ := Aside0.mk (Kd.R_below (kK HO_7) hb); have n3_ := Aside0.mk (Kd.R_below (kK HO_9) hb); have n4_ := Aside0.mk (Kd.R_below (kK HO_11) hb); have n5_ := Aside0.mk (Kd.R_below (kK HO_13) hb); have n6_ := Aside0.mk (Kd.R_below (kK HO_15) hb); have n7_ := Aside0.mk (below_step zB hb); clear HO_0; clear HO_1; clear HO_7; clear HO_9; clear HO_11; clear HO_13; clear HO_15; clear HB; have HO_0 := n0_; have HO_1 := n1_; have HO_7 := n2_; have HO_9 := n3_; have HO_11 := n4_; have HO_13 := n5_; have HO_15 := n6_; have HB := n7_; clear n0_ n1_ n2_ n3_ n4_ n5_ n6_ n7_; (try clear hb); (try clear hb2); (try clear hk); (try clear hi); obtain ⟨Ao66, co66, eo66⟩ := Kd.R_slice HO_9.out; subst eo66) | (go_at_call 33; (with_reducible refine (runes_Has.calls kj32 _ _ t432 a2 t455 _ ?side1 ?side2 A50.out).mono ?_); (case side1 => repeat (first | exact (Kd.R_reads' HO_9.out).2.2 | (with_reducible refine Kd.C_alloc ?_ _) | (with_reducible refine Kd.C_drewN ?_ _) | (with_reducible refine Kd.C_drew ?_))); (case side2 => exact (Kd.R_reads' HO_9.out).2.1); rintro e w67 ⟨rfl, hb⟩; have n0_ := Aside0.mk (Kd.V_below Z6 hb); have n1_ := Aside0.mk (Kd.V_below Z5 hb); have n2_ := Aside0.mk (Kd.R_below (kK HO_7) hb); have n3_ := Aside0.mk (Kd.R_below (kK HO_9) hb); have n4_ := Aside0.mk (Kd.R_below (kK HO_11) hb); have n5_ := Aside0.mk (Kd.R_below (kK HO_13) hb); have n6_ := Aside0.mk (Kd.R_below (kK HO_15) hb); have n7_ := Aside0.mk (below_step zB hb); clear HO_0; clear HO_1; clear HO_7; clear HO_9; clear HO_11; clear HO_13; clear HO_15; clear HB; have HO_0 := n0_; have HO_1 := n1_; have HO_7 := n2_; have HO_9 := n3_; have HO_11 := n4_; have HO_13 := n5_; have HO_15 := n6_; have HB := n7_; clear n0_ n1_ n2_ n3_ n4_ n5_ n6_ n7_; (try clear hb); (try clear hb2); (try clear hk); (try clear hi)))
              go_meet
              case rel => exact ⟨_, (false), Z3, H', ⟨Z17⟩, ⟨Z8⟩, ⟨Z7⟩, ⟨Z10⟩, ⟨Z9⟩, ⟨Z0⟩⟩
           ·rw [if_neg c49] at H
            have c49b0 := e3 c49
            have c49b1 := e4 c49
            by_cases c68 : t439 = 0
            ·rw [if_pos c68] at H
             have c68b0 := e1 c68
             have c68b1 := e2 c68
             clear c68
             replace H := bS H
             obtain ⟨t457, A69, H⟩ := H
             try dsimp only at H
             have H' := Aside0.mk H
             clear H
             obtain ⟨Ao70, co70, eo70⟩ := Kd.R_slice HO_7.out
             subst eo70
             go_wp2_with (first | (go_at_call 33; (with_reducible refine (runes_Has.calls kj32 _ _ t425 a2 t454 _ ?side1 ?side2 A44.out).mono ?_); (case side1 => repeat (first | exact (Kd.R_reads' HO_7.out).2.2 | (with_reducible refine Kd.C_alloc ?_ _) | (with_reducible refine Kd.C_drewN ?_ _) | (with_reducible refine Kd.C_drew ?_))); (case side2 => exact (Kd.R_reads' HO_7.out).2.1); rintro e w71 ⟨rfl, hb⟩; have n0_ := Aside0.mk (Kd.V_below Z6 hb); have n1_ := Aside0.mk (Kd.V_below Z5 hb); have n2_ := Aside0.mk (Kd.R_below (kK HO_7) hb); have n3_ := Aside0.mk (Kd.R_below (kK HO_9) hb); have n4_ := Aside0.mk (Kd.R_below (kK HO_11) hb); have n5_ := Aside0.mk (Kd.R_below (kK HO_13) hb); have n6_ := Aside0.mk (Kd.R_below (kK HO_15) hb); have n7_ := Aside0.mk (below_step zB hb); clear HO_0; clear HO_1; clear HO_7; clear HO_9; clear HO_11; clear HO_13; clear HO_15; clear HB; have HO_0 := n0_; have HO_1 := n1_; have HO_7 := n2_; have HO_9 := n3_; have HO_11 := n4_; have HO_13 := n5_; have HO_15 := n6_; have HB := n7_; clear n0_ n1_ n2_ n3_ n4_ n5_ n6_ n7_; (try clear hb); (try clear hb2); (try clear hk); (try clear hi); obtain ⟨Ao72, co72, eo72⟩ := Kd.R_slice HO_11.out; subst eo72) | (go_at_call 33; (with_reducible refine (runes_Has.calls kj32 _ _ t436 a2 t457 _ ?side1 ?side2 A69.out).mono ?_); (case side1 => repeat (first | exact (Kd.R_reads' HO_11.out).2.2 | (with_reducible refine Kd.C_alloc ?_ _) | (with_reducible refine Kd.C_drewN ?_ _) | (with_reducible refine Kd.C_drew ?_))); (case side2 => exact (Kd.R_reads' HO_11.out).2.1); rintro e w73 ⟨rfl, hb⟩; have n0_ := Aside0.mk (Kd.V_below Z6 hb); have n1_ := Aside0.mk (Kd.V_below Z5 hb); have n2_ := Aside0.mk (Kd.R_below (kK HO_7) hb); have n3_ := Aside0.mk (Kd.R_below (kK HO_9) hb); have n4_ := Aside0.mk (Kd.R_below (kK HO_11) hb); have n5_ := Aside0.mk (Kd.R_below (kK HO_13) hb); have n6_ := Aside0.mk (Kd.R_below (kK HO_15) hb); have n7_ := Aside0.mk (below_step zB hb); clear HO_0; clear HO_1; clear HO_7; clear HO_9; clear HO_11; clear HO_13; clear HO_15; clear HB; have HO_0 := n0_; have HO_1 := n1_; have HO_7 := n2_; have HO_9 := n3_; have HO_11 := n4_; have HO_13 := n5_; have HO_15 := n6_; have HB := n7_; clear n0_ n1_ n2_ n3_ n4_ n5_ n6_ n7_; (try clear hb); (try clear hb2); (try clear hk); (try clear hi)))
             go_meet
             case rel => exact ⟨_, ((t457 != (!t452))), Z3, H', ⟨Z17⟩, ⟨Z8⟩, ⟨Z7⟩, ⟨Z10⟩, ⟨Z9⟩, ⟨Z0⟩⟩
            ·rw [if_neg c68] at H
             have c68b0 := e3 c68
             have c68b1 := e4 c68
             have H' := Aside0.mk H
             clear H
             obtain ⟨Ao74, co74, eo74⟩ := Kd.R_slice HO_7.out
             subst eo74
             go_wp2_with (first | (go_at_call 33; (with_reducible refine (runes_Has.calls kj32 _ _ t425 a2 t454 _ ?side1 ?side2 A44.out).mono ?_); (case side1 => repeat (first | exact (Kd.R_reads' HO_7.out).2.2 | (with_reducible refine Kd.C_alloc ?_ _) | (with_reducible refine Kd.C_drewN ?_ _) | (with_reducible refine Kd.C_drew ?_))); (case side2 => exact (Kd.R_reads' HO_7.out).2.1); rintro e w75 ⟨rfl, hb⟩; have n0_ := Aside0.mk (Kd.V_below Z6 hb); have n1_ := Aside0.mk (Kd.V_below Z5 hb); have n2_ := Aside0.mk (Kd.R_below (kK HO_7) hb); have n3_ := Aside0.mk (Kd.R_below (kK HO_9) hb); have n4_ := Aside0.mk (Kd.R_below (kK HO_11) hb); have n5_ := Aside0.mk (Kd.R_below (kK HO_13) hb); have n6_ := Aside0.mk (Kd.R_below (kK HO_15) hb); have n7_ := Aside0.mk (below_step zB hb); clear HO_0; clear HO_1; clear HO_7; clear HO_9; clear HO_11; clear HO_13; clear HO_15; clear HB; have HO_0 := n0_; have HO_1 := n1_; have HO_7 := n2_; have HO_9 := n3_; have HO_11 := n4_; have HO_13 := n5_; have HO_15 := n6_; have HB := n7_; clear n0_ n1_ n2_ n3_ n4_ n5_ n6_ n7_; (try clear hb); (try clear hb2); (try clear hk); (try clear hi)))
             go_meet
             case rel => exact ⟨_, (false), Z3, H', ⟨Z17⟩, ⟨Z8⟩, ⟨Z7⟩, ⟨Z10⟩, ⟨Z9⟩, ⟨Z0⟩⟩
         ·replace c45 := Bool.eq_false_iff.mpr c45
          subst c45
          have H1 : (if (t454 != t452) = true then (quoinlaw02_RunesAlgebra.j2 kj32 l0 l1 a2 t426 t440 t441 t444 t445 false true) else (if t433 = 0 then ((runes_Has.f kj32 t432 a2).bind fun t458 => (if (t458 != false) = true then (quoinlaw02_RunesAlgebra.j2 kj32 l0 l1 a2 t426 t440 t441 t444 t445 false true) else (if t439 = 0 then ((runes_Has.f kj32 t436 a2).bind fun t459 => (quoinlaw02_RunesAlgebra.j2 kj32 l0 l1 a2 t426 t440 t441 t444 t445 false (t459 != false))) else (quoinlaw02_RunesAlgebra.j2 kj32 l0 l1 a2 t426 t440 t441 t444 t445 false false)))) else (if t439 = 0 then ((runes_Has.f kj32 t436 a2).bind fun t460 => (quoinlaw02_RunesAlgebra.j2 kj32 l0 l1 a2 t426 t440 t441 t444 t445 false (t460 != false))) else (quoinlaw02_RunesAlgebra.j2 kj32 l0 l1 a2 t426 t440 t441 t444 t445 false false)))) = some r := by rw [if_neg (show ¬ (false = true) by decide)] at H; exact H
          clear H
          have H := H1
          clear H1
          by_cases c76 : (t454 != t452) = true
          ·rw [if_pos c76] at H
           have c76b0 : (t454 != t452) = true := c76
           (try (have c76b1 : decide (t454 = t452) = false := by simpa using c76))
           (try (have c76b2 : (t454 == t452) = false := by simpa using c76))
           (try (have c76b3 : ¬ (t454 = t452) := by simpa using c76))
           clear c76
           have H' := Aside0.mk H
           clear H
           obtain ⟨Ao77, co77, eo77⟩ := Kd.R_slice HO_7.out
           subst eo77
           go_wp2_with (first | (go_at_call 33; (with_reducible refine (runes_Has.calls kj32 _ _ t425 a2 t454 _ ?side1 ?side2 A44.out).mono ?_); (case side1 => repeat (first | exact (Kd.R_reads' HO_7.out).2.2 | (with_reducible refine Kd.C_alloc ?_ _) | (with_reducible refine Kd.C_drewN ?_ _) | (with_reducible refine Kd.C_drew ?_))); (case side2 => exact (Kd.R_reads' HO_7.out).2.1); rintro e w78 ⟨rfl, hb⟩; have n0_ := Aside0.mk (Kd.V_below Z6 hb); have n1_ := Aside0.mk (Kd.V_below Z5 hb); have n2_ := Aside0.mk (Kd.R_below (kK HO_7) hb); have n3_ := Aside0.mk (Kd.R_below (kK HO_9) hb); have n4_ := Aside0.mk (Kd.R_below (kK HO_11) hb); have n5_ := Aside0.mk (Kd.R_below (kK HO_13) hb); have n6_ := Aside0.mk (Kd.R_below (kK HO_15) hb); have n7_ := Aside0.mk (below_step zB hb); clear HO_0; clear HO_1; clear HO_7; clear HO_9; clear HO_11; clear HO_13; clear HO_15; clear HB; have HO_0 := n0_; have HO_1 := n1_; have HO_7 := n2_; have HO_9 := n3_; have HO_11 := n4_; have HO_13 := n5_; have HO_15 := n6_; have HB := n7_; clear n0_ n1_ n2_ n3_ n4_ n5_ n6_ n7_; (try clear hb); (try clear hb2); (try clear hk); (try clear hi)))
           go_meet
           case rel => exact ⟨_, (true), Z3, H', ⟨Z17⟩, ⟨Z8⟩, ⟨Z7⟩, ⟨Z10⟩, ⟨Z9⟩, ⟨Z0⟩⟩
          ·rw [if_neg c76] at H
           have c76b0 : (t454 != t452) = false := by simpa using c76
           (try (have c76b1 : decide (t454 = t452) = true := by simpa using c76))
           (try (have c76b2 : (t454 == t452) = true := by simpa using c76))
           clear c76
           by_cases c79 : t433 = 0
           ·rw [if_pos c79] at H
            have c79b0 := e1 c79
            have c79b1 := e2 c79
            clear c79
            replace H := bS H
            obtain ⟨t458, A80, H⟩ := H
            try dsimp only at H
            by_cases c81 : (t458 != false) = true
            ·rw [if_pos c81] at H
             have c81b0 : (t458 != false) = true := c81
             (try (have c81b1 : decide (t458 = false) = false := by simpa using c81))
             (try (have c81b2 : (t458 == false) = false := by simpa using c81))
             (try (have c81b3 : ¬ (t458 = false) := by simpa using c81))
             clear c81
             have H' := Aside0.mk H
             clear H
             obtain ⟨Ao82, co82, eo82⟩ := Kd.R_slice HO_7.out
             subst eo82
             go_wp2_with (first | (go_at_call 33; (with_reducible refine (runes_Has.calls kj32 _ _ t425 a2 t454 _ ?side1 ?side2 A44.out).mono ?_); (case side1 => repeat (first | exact (Kd.R_reads' HO_7.out).2.2 | (with_reducible refine Kd.C_alloc ?_ _) | (with_reducible refine Kd.C_drewN ?_ _) | (with_reducible refine Kd.C_drew ?_))); (case side2 => exact (Kd.R_reads' HO_7.out).2.1); rintro e w83 ⟨rfl, hb⟩; have n0_ := Aside0.mk (Kd.V_below Z6 hb); have n1_ := Aside0.mk (Kd.V_below Z5 hb); have n2_ := Aside0.mk (Kd.R_below (kK HO_7) hb); have n3_ := Aside0.mk (Kd.R_below (kK HO_9) hb); have n4_ := Aside0.mk (Kd.R_below (kK HO_11) hb); have n5_ := Aside0.mk (Kd.R_below (kK HO_13) hb); have n6_ := Aside0.mk (Kd.R_below (kK HO_15) hb); have n7_ := Aside0.mk (below_step zB hb); clear HO_0; clear HO_1; clear HO_7; clear HO_9; clear HO_11; clear HO_13; clear HO_15; clear HB; have HO_0 := n0_; have HO_1 := n1_; have HO_7 := n2_; have HO_9 := n3_; have HO_11 := n4_; have HO_13 := n5_; have HO_15 := n6_; have HB := n7_; clear n0_ n1_ n2_ n3_ n4_ n5_ n6_ n7_; (try clear hb); (try clear hb2); (try clear hk); (try clear hi); obtain ⟨Ao84, co84, eo84⟩ := Kd.R_slice HO_9.out; subst eo84) | (go_at_call 33; (with_reducible refine (runes_Has.calls kj32 _ _ t432 a2 t458 _ ?side1 ?side2 A80.out).mono ?_); (case side1 => repeat (first | exact (Kd.R_reads' HO_9.out).2.2 | (with_reducible refine Kd.C_alloc ?_ _) | (with_reducible refine Kd.C_drewN ?_ _) | (with_reducible refine Kd.C_drew ?_))); (case side2 => exact (Kd.R_reads' HO_9.out).2.1); rintro e w85 ⟨rfl, hb⟩; have n0_ := Aside0.mk (Kd.V_below Z6 hb); have n1_ := Aside0.mk (Kd.V_below Z5 hb); have n2_ := Aside0.mk (Kd.R_below (kK HO_7) hb); have n3_ := Aside0.mk (Kd.R_below (kK HO_9) hb); have n4_ := Aside0.mk (Kd.R_below (kK HO_11) hb); have n5_ := Aside0.mk (Kd.R_below (kK HO_13) hb); have n6_ := Aside0.mk (Kd.R_below (kK HO_15) hb); have n7_ := Aside0.mk (below_step zB hb); clear HO_0; clear HO_1; clear HO_7; clear HO_9; clear HO_11; clear HO_13; clear HO_15; clear HB; have HO_0 := n0_; have HO_1 := n1_; have HO_7 := n2_; have HO_9 := n3_; have HO_11 := n4_; have HO_13 := n5_; have HO_15 := n6_; have HB := n7_; clear n0_ n1_ n2_ n3_ n4_ n5_ n6_ n7_; (try clear hb); (try clear hb2); (try clear hk); (try clear hi)))
             go_meet
             case rel => exact ⟨_, (true), Z3, H', ⟨Z17⟩, ⟨Z8⟩, ⟨Z7⟩, ⟨Z10⟩, ⟨Z9⟩, ⟨Z0⟩⟩
            ·rw [if_neg c81] at H
             have c81b0 : (t458 != false) = false := by simpa using c81
             (try (have c81b1 : decide (t458 = false) = true := by simpa using c81))
             (try (have c81b2 : (t458 == false) = true := by simpa using c81))
             clear c81
             by_cases c86 : t439 = 0
             ·rw [if_pos c86] at H
              have c86b0 := e1 c86
              have c86b1 := e2 c86
              clear c86
              replace H := bS H
              obtain ⟨t459, A87, H⟩ := H
              try dsimp only at H
              have H' := Aside0.mk H
              clear H
              obtain ⟨Ao88, co88, eo88⟩ := Kd.R_slice HO_7.out
              subst eo88
              go_wp2_with (first | (go_at_call 33; (with_reducible refine (runes_Has.calls kj32 _ _ t425 a2 t454 _ ?side1 ?side2 A44.out).mono ?_); (case side1 => repeat (first | exact (Kd.R_reads' HO_7.out).2.2 | (with_reducible refine Kd.C_alloc ?_ _) | (with_reducible refine Kd.C_drewN ?_ _) | (with_reducible refine Kd.C_drew ?_))); (case side2 => exact (Kd.R_reads' HO_7.out).2.1); rintro e w89 ⟨rfl, hb⟩; have n0_ := Aside0.mk (Kd.V_below Z6 hb); have n1_ := Aside0.mk (Kd.V_below Z5 hb); have n2_ := Aside0.mk (Kd.R_below (kK HO_7) hb); have n3_ := Aside0.mk (Kd.R_below (kK HO_9) hb); have n4_ := Aside0.mk (Kd.R_below (kK HO_11) hb); have n5_ := Aside0.mk (Kd.R_below (kK HO_13) hb); have n6_ := Aside0.mk (Kd.R_below (kK HO_15) hb); have n7_ := Aside0.mk (below_step zB hb); clear HO_0; clear HO_1; clear HO_7; clear HO_9; clear HO_11; clear HO_13; clear HO_15; clear HB; have HO_0 := n0_; have HO_1 := n1_; have HO_7 := n2_; have HO_9 := n3_; have HO_11 := n4_; have HO_13 := n5_; have HO_15 := n6_; have HB := n7_; clear n0_ n1_ n2_ n3_ n4_ n5_ n6_ n7_; (try clear hb); (try clear hb2); (try clear hk); (try clear hi); obtain ⟨Ao90, co90, eo90⟩ := Kd.R_slice HO_9.out; subst eo90) | (go_at_call 33; (with_reducible refine (runes_Has.calls kj32 _ _ t432 a2 t458 _ ?side1 ?side2 A80.out).mono ?_); (case side1 => repeat (first | exact (Kd.R_reads' HO_9.out).2.2 | (with_reducible refine Kd.C_alloc ?_ _) | (with_reducible refine Kd.C_drewN ?_ _) | (with_reducible refine Kd.C_drew ?_))); (case side2 => exact (Kd.R_reads' HO_9.out).2.1); rintro e w91 ⟨rfl, hb⟩; have n0_ := Aside0.mk (Kd.V_below Z6 hb); have n1_ := Aside0.mk (Kd.V_below Z5 hb); have n2_ := Aside0.mk (Kd.R_below (kK HO_7) hb); have n3_ := Aside0.mk (Kd.R_below (kK HO_9) hb); have n4_ := Aside0.mk (Kd.R_below (kK HO_11) hb); have n5_ := Aside0.mk (Kd.R_below (kK HO_13) hb); have n6_ := Aside0.mk (Kd.R_below (kK HO_15) hb); have n7_ := Aside0.mk (below_step zB hb); clear HO_0; clear HO_1; clear HO_7; clear HO_9; clear HO_11; clear HO_13; clear HO_15; clear HB; have HO_0 := n0_; have HO_1 := n1_; have HO_7 := n2_; have HO_9 := n3_; have HO_11 := n4_; have HO_13 := n5_; have HO_15 := n6_; have HB := n7_; clear n0_ n1_ n2_ n3_ n4_ n5_ n6_ n7_; (try clear hb); (try clear hb2); (try clear hk); (try clear hi); obtain ⟨Ao92, co92, eo92⟩ := Kd.R_slice HO_11.out; subst eo92) | (go_at_call 33; (with_reducible refine (runes_Has.calls kj32 _ _ t436 a2 t459 _ ?side1 ?side2 A87.out).mono ?_); (case side1 => repeat (first | exact (Kd.R_reads' HO_11.out).2.2 | (with_reducible refine Kd.C_alloc ?_ _) | (with_reducible refine Kd.C_drewN ?_ _) | (with_reducible refine Kd.C_drew ?_))); (case side2 => exact (Kd.R_reads' HO_11.out).2.1); rintro e w93 ⟨rfl, hb⟩; have n0_ := Aside0.mk (Kd.V_below Z6 hb); have n1_ := Aside0.mk (Kd.V_below Z5 hb); have n2_ := Aside0.mk (Kd.R_below (kK HO_7) hb); have n3_ := Aside0.mk (Kd.R_below (kK HO_9) hb); have n4_ := Aside0.mk (Kd.R_below (kK HO_11) hb); have n5_ := Aside0.mk (Kd.R_below (kK HO_13) hb); have n6_ := Aside0.mk (Kd.R_below (kK HO_15) hb); have n7_ := Aside0.mk (below_step zB hb); clear HO_0; clear HO_1; clear HO_7; clear HO_9; clear HO_11; clear HO_13; clear HO_15; clear HB; have HO_0 := n0_; have HO_1 := n1_; have HO_7 := n2_; have HO_9 := n3_; have HO_11 := n4_; have HO_13 := n5_; have HO_15 := n6_; have HB := n7_; clear n0_ n1_ n2_ n3_ n4_ n5_ n6_ n7_; (try clear hb); (try clear hb2); (try clear hk); (try clear hi)))
              go_meet
              case rel => exact ⟨_, ((t459 != false)), Z3, H', ⟨Z17⟩, ⟨Z8⟩, ⟨Z7⟩, ⟨Z10⟩, ⟨Z9⟩, ⟨Z0⟩⟩
             ·rw [if_neg c86] at H
              have c86b0 := e3 c86
              have c86b1 := e4 c86
              have H' := Aside0.mk H
              clear H
              obtain ⟨Ao94, co94, eo94⟩ := Kd.R_slice HO_7.out
              subst eo94
              go_wp2_with (first | (go_at_call 33; (with_reducible refine (runes_Has.calls kj32 _ _ t425 a2 t454 _ ?side1 ?side2 A44.out).mono ?_); (case side1 => repeat (first | exact (Kd.R_reads' HO_7.out).2.2 | (with_reducible refine Kd.C_alloc ?_ _) | (with_reducible refine Kd.C_drewN ?_ _) | (with_reducible refine Kd.C_drew ?_))); (case side2 => exact (Kd.R_reads' HO_7.out).2.1); rintro e w95 ⟨rfl, hb⟩; have n0_ := Aside0.mk (Kd.V_below Z6 hb); have n1_ := Aside0.mk (Kd.V_below Z5 hb); have n2_ := Aside0.mk (Kd.R_below (kK HO_7) hb); have n3_ := Aside0.mk (Kd.R_below (kK HO_9) hb); have n4_ := Aside0.mk (Kd.R_below (kK HO_11) hb); have n5_ := Aside0.mk (Kd.R_below (kK HO_13) hb); have n6_ := Aside0.mk (Kd.R_below (kK HO_15) hb); have n7_ := Aside0.mk (below_step zB hb); clear HO_0; clear HO_1; clear HO_7; clear HO_9; clear HO_11; clear HO_13; clear HO_15; clear HB; have HO_0 := n0_; have HO_1 := n1_; have HO_7 := n2_; have HO_9 := n3_; have HO_11 := n4_; have HO_13 := n5_; have HO_15 := n6_; have HB := n7_; clear n0_ n1_ n2_ n3_ n4_ n5_ n6_ n7_; (try clear hb); (try clear hb2); (try clear hk); (try clear hi); obtain ⟨Ao96, co96, eo96⟩ := Kd.R_slice HO_9.out; subst eo96) | (go_at_call 33; (with_reducible refine (runes_Has.calls kj32 _ _ t432 a2 t458 _ ?side1 ?side2 A80.out).mono ?_); (case side1 => repeat (first | exact (Kd.R_reads' HO_9.out).2.2 | (with_reducible refine Kd.C_alloc ?_ _) | (with_reducible refine Kd.C_drewN ?_ _) | (with_reducible refine Kd.C_drew ?_))); (case side2 => exact (Kd.R_reads' HO_9.out).2.1); rintro e w97 ⟨rfl, hb⟩; have n0_ := Aside0.mk (Kd.V_below Z6 hb); have n1_ := Aside0.mk (Kd.V_below Z5 hb); have n2_ := Aside0.mk (Kd.R_below (kK HO_7) hb); have n3_ := Aside0.mk (Kd.R_below (kK HO_9) hb); have n4_ := Aside0.mk (Kd.R_below (kK HO_11) hb); have n5_ := Aside0.mk (Kd.R_below (kK HO_13) hb); have n6_ := Aside0.mk (Kd.R_below (kK HO_15) hb); have n7_ := Aside0.mk (below_step zB hb); clear HO_0; clear HO_1; clear HO_7; clear HO_9; clear HO_11; clear HO_13; clear HO_15; clear HB; have HO_0 := n0_; have HO_1 := n1_; have HO_7 := n2_; have HO_9 := n3_; have HO_11 := n4_; have HO_13 := n5_; have HO_15 := n6_; have HB := n7_; clear n0_ n1_ n2_ n3_ n4_ n5_ n6_ n7_; (try clear hb); (try clear hb2); (try clear hk); (try clear hi)))
              go_meet
              case rel => exact ⟨_, (false), Z3, H', ⟨Z17⟩, ⟨Z8⟩, ⟨Z7⟩, ⟨Z10⟩, ⟨Z9⟩, ⟨Z0⟩⟩
           ·rw [if_neg c79] at H
            have c79b0 := e3 c79
            have c79b1 := e4 c79
            by_cases c98 : t439 = 0
            ·rw [if_pos c98] at H
             have c98b0 := e1 c98
             have c98b1 := e2 c98
             clear c98
             replace H := bS H
             obtain ⟨t460, A99, H⟩ := H
             try dsimp only at H
             have H' := Aside0.mk H
             clear H
             obtain ⟨Ao100, co100, eo100⟩ := Kd.R_slice HO_7.out
             subst eo100
             go_wp2_with (first | (go_at_call 33; (with_reducible refine (runes_Has.calls kj32 _ _ t425 a2 t454 _ ?side1 ?side2 A44.out).mono ?_); (case side1 => repeat (first | exact (Kd.R_reads' HO_7.out).2.2 | (with_reducible refine Kd.C_alloc ?_ _) | (with_reducible refine Kd.C_drewN ?_ _) | (with_reducible refine Kd.C_drew ?_))); (case side2 => exact (Kd.R_reads' HO_7.out).2.1); rintro e w101 ⟨rfl, hb⟩; have n0_ := Aside0.mk (Kd.V_below Z6 hb); have n1_ := Aside0.mk (Kd.V_below Z5 hb); have n2_ := Aside0.mk (Kd.R_below (kK HO_7) hb); have n3_ := Aside0.mk (Kd.R_below (kK HO_9) hb); have n4_ := Aside0.mk (Kd.R_below (kK HO_11) hb); have n5_ := Aside0.mk (Kd.R_below (kK HO_13) hb); have n6_ := Aside0.mk (Kd.R_below (kK HO_15) hb); have n7_ := Aside0.mk (below_step zB hb); clear HO_0; clear HO_1; clear HO_7; clear HO_9; clear HO_11; clear HO_13; clear HO_15; clear HB; have HO_0 := n0_; have HO_1 := n1_; have HO_7 := n2_; have HO_9 := n3_; have HO_11 := n4_; have HO_13 := n5_; have HO_15 := n6_; have HB := n7_; clear n0_ n1_ n2_ n3_ n4_ n5_ n6_ n7_; (try clear hb); (try clear hb2); (try clear hk); (try clear hi); obtain ⟨Ao102, co102, eo102⟩ := Kd.R_slice HO_11.out; subst eo102) | (go_at_call 33; (with_reducible refine (runes_Has.calls kj32 _ _ t436 a2 t460 _ ?side1 ?side2 A99.out).mono ?_); (case side1 => repeat (first | exact (Kd.R_reads' HO_11.out).2.2 | (with_reducible refine Kd.C_alloc ?_ _) | (with_reducible refine Kd.C_drewN ?_ _) | (with_reducible refine Kd.C_drew ?_))); (case side2 => exact (Kd.R_reads' HO_11.out).2.1); rintro e w103 ⟨rfl, hb⟩; have n0_ := Aside0.mk (Kd.V_below Z6 hb); have n1_ := Aside0.mk (Kd.V_below Z5 hb); have n2_ := Aside0.mk (Kd.R_below (kK HO_7) hb); have n3_ := Aside0.mk (Kd.R_below (kK HO_9) hb); have n4_ := Aside0.mk (Kd.R_below (kK HO_11) hb); have n5_ := Aside0.mk (Kd.R_below (kK HO_13) hb); have n6_ := Aside0.mk (Kd.R_below (kK HO_15) hb); have n7_ := Aside0.mk (below_step zB hb); clear HO_0; clear HO_1; clear HO_7; clear HO_9; clear HO_11; clear HO_13; clear HO_15; clear HB; have HO_0 := n0_; have HO_1 := n1_; have HO_7 := n2_; have HO_9 := n3_; have HO_11 := n4_; have HO_13 := n5_; have HO_15 := n6_; have HB := n7_; clear n0_ n1_ n2_ n3_ n4_ n5_ n6_ n7_; (try clear hb); (try clear hb2); (try clear hk); (try clear hi)))
             go_meet
             case rel => exact ⟨_, ((t460 != false)), Z3, H', ⟨Z17⟩, ⟨Z8⟩, ⟨Z7⟩, ⟨Z10⟩, ⟨Z9⟩, ⟨Z0⟩⟩
            ·rw [if_neg c98] at H
             have c98b0 := e3 c98
             have c98b1 := e4 c98
             have H' := Aside0.mk H
             clear H
             obtain ⟨Ao104, co104, eo104⟩ := Kd.R_slice HO_7.out
             subst eo104
             go_wp2_with (first | (go_at_call 33; (with_reducible refine (runes_Has.calls kj32 _ _ t425 a2 t454 _ ?side1 ?side2 A44.out).mono ?_); (case side1 => repeat (first | exact (Kd.R_reads' HO_7.out).2.2 | (with_reducible refine Kd.C_alloc ?_ _) | (with_reducible refine Kd.C_drewN ?_ _) | (with_reducible refine Kd.C_drew ?_))); (case side2 => exact (Kd.R_reads' HO_7.out).2.1); rintro e w105 ⟨rfl, hb⟩; have n0_ := Aside0.mk (Kd.V_below Z6 hb); have n1_ := Aside0.mk (Kd.V_below Z5 hb); have n2_ := Aside0.mk (Kd.R_below (kK HO_7) hb); have n3_ := Aside0.mk (Kd.R_below (kK HO_9) hb); have n4_ := Aside0.mk (Kd.R_below (kK HO_11) hb); have n5_ := Aside0.mk (Kd.R_below (kK HO_13) hb); have n6_ := Aside0.mk (Kd.R_below (kK HO_15) hb); have n7_ := Aside0.mk (below_step zB hb); clear HO_0; clear HO_1; clear HO_7; clear HO_9; clear HO_11; clear HO_13; clear HO_15; clear HB; have HO_0 := n0_; have HO_1 := n1_; have HO_7 := n2_; have HO_9 := n3_; have HO_11 := n4_; have HO_13 := n5_; have HO_15 := n6_; have HB := n7_; clear n0_ n1_ n2_ n3_ n4_ n5_ n6_ n7_; (try clear hb); (try clear hb2); (try clear hk); (try clear hi)))
             go_meet
             case rel => exact ⟨_, (false), Z3, H', ⟨Z17⟩, ⟨Z8⟩, ⟨Z7⟩, ⟨Z10⟩, ⟨Z9⟩, ⟨Z0⟩⟩
        ·rw [if_neg c43] at H
         have c43b0 := e3 c43
         have c43b1 := e4 c43
         (first | rw [c43b0] | (simp only [i64_w, i32_w]; rw [c43b0]) | skip)
         by_cases c106 : t433 = 0
         ·rw [if_pos c106] at H
          have c106b0 := e1 c106
          have c106b1 := e2 c106
          clear c106
          replace H := bS H
          obtain ⟨t461, A107, H⟩ := H
          try dsimp only at H
          by_cases c108 : t451 = true
          ·subst c108
           have H1 : (if (t461 != t452) = true then (quoinlaw02_RunesAlgebra.j2 kj32 l0 l1 a2 t426 t440 t441 t444 t445 true true) else (if t439 = 0 then ((runes_Has.f kj32 t436 a2).bind fun t462 => (quoinlaw02_RunesAlgebra.j2 kj32 l0 l1 a2 t426 t440 t441 t444 t445 true (t462 != (!t452)))) else (quoinlaw02_RunesAlgebra.j2 kj32 l0 l1 a2 t426 t440 t441 t444 t445 true false))) = some r := by rw [if_pos rfl] at H; exact H
           clear H
           have H := H1
           clear H1
           by_cases c109 : (t461 != t452) = true
           ·rw [if_pos c109] at H
            have c109b0 : (t461 != t452) = true := c109
            (try (have c109b1 : decide (t461 = t452) = false := by simpa using c109))
            (try (have c109b2 : (t461 == t452) = false := by simpa using c109))
            (try (have c109b3 : ¬ (t461 = t452) := by simpa using c109))
            clear c109
            have H' := Aside0.mk H
            clear H
            obtain ⟨Ao110, co110, eo110⟩ := Kd.R_slice HO_9.out
            subst eo110
            go_wp2_with (first | (go_at_call 33; (with_reducible refine (runes_Has.calls kj32 _ _ t432 a2 t461 _ ?side1 ?side2 A107.out).mono ?_); (case side1 => repeat (first | exact (Kd.R_reads' HO_9.out).2.2 | (with_reducible refine Kd.C_alloc ?_ _) | (with_reducible refine Kd.C_drewN ?_ _) | (with_reducible refine Kd.C_drew ?_))); (case side2 => exact (Kd.R_reads' HO_9.out).2.1); rintro e w111 ⟨rfl, hb⟩; have n0_ := Aside0.mk (Kd.V_below Z6 hb); have n1_ := Aside0.mk (Kd.V_below Z5 hb); have n2_ := Aside0.mk (Kd.R_below (kK HO_7) hb); have n3_ := Aside0.mk (Kd.R_below (kK HO_9) hb); have n4_ := Aside0.mk (Kd.R_below (kK HO_11) hb); have n5_ := Aside0.mk (Kd.R_below (kK HO_13) hb); have n6_ := Aside0.mk (Kd.R_below (kK HO_15) hb); have n7_ := Aside0.mk (below_step zB hb); clear HO_0; clear HO_1; clear HO_7; clear HO_9; clear HO_11; clear HO_13; clear HO_15; clear HB; have HO_0 := n0_; have HO_1 := n1_; have HO_7 := n2_; have HO_9 := n3_; have HO_11 := n4_; have HO_13 := n5_; have HO_15 := n6_; have HB := n7_; clear n0_ n1_ n2_ n3_ n4_ n5_ n6_ n7_; (try clear hb); (try clear hb2); (try clear hk); (try clear hi)))
            go_meet
            case rel => exact ⟨_, (true), Z3, H', ⟨Z17⟩, ⟨Z8⟩, ⟨Z7⟩, ⟨Z10⟩, ⟨Z9⟩, ⟨Z0⟩⟩
           ·rw [if_neg c109] at H
            have c109b0 : (t461 != t452) = false := by simpa using c109
            (try (have c109b1 : decide (t461 = t452) = true := by simpa using c109))
            (try (have c109b2 : (t461 == t452) = true := by simpa using c109))
            clear c109
            by_cases c112 : t439 = 0
            ·rw [if_pos c112] at H
             have c112b0 := e1 c112
             have c112b1 := e2 c112
             clear c112
             replace H := bS H
             obtain ⟨t462, A113, H⟩ := H
             try dsimp only at H
             have H' := Aside0.mk H
             clear H
             obtain ⟨Ao114, co114, eo114⟩ := Kd.R_slice HO_9.out
             subst eo114
             go_wp2_with (first | (go_at_call 33; (with_reducible refine (runes_Has.calls kj32 _ _ t432 a2 t461 _ ?side1 ?side2 A107.out).mono ?_); (case side1 => repeat (first | exact (Kd.R_reads' HO_9.out).2.2 | (with_reducible refine Kd.C_alloc ?_ _) | (with_reducible refine Kd.C_drewN ?_ _) | (with_reducible refine Kd.C_drew ?_))); (case side2 => exact (Kd.R_reads' HO_9.out).2.1); rintro e w115 ⟨rfl, hb⟩; have n0_ := Aside0.mk (Kd.V_below Z6 hb); have n1_ := Aside0.mk (Kd.V_below Z5 hb); have n2_ := Aside0.mk (Kd.R_below (kK HO_7) hb); have n3_ := Aside0.mk (Kd.R_below (kK HO_9) hb); have n4_ := Aside0.mk (Kd.R_below (kK HO_11) hb); have n5_ := Aside0.mk (Kd.R_below (kK HO_13) hb); have n6_ := Aside0.mk (Kd.R_below (kK HO_15) hb); have n7_ := Aside0.mk (below_step zB hb); clear HO_0; clear HO_1; clear HO_7; clear HO_9; clear HO_11; clear HO_13; clear HO_15; clear HB; have HO_0 := n0_; have HO_1 := n1_; have HO_7 := n2_; have HO_9 := n3_; have HO_11 := n4_; have HO_13 := n5_; have HO_15 := n6_; have HB := n7_; clear n0_ n1_ n2_ n3_ n4_ n5_ n6_ n7_; (try clear hb); (try clear hb2); (try clear hk); (try clear hi); obtain ⟨Ao116, co116, eo116⟩ := Kd.R_slice HO_11.out; subst eo116) | (go_at_call 33; (with_reducible refine (runes_Has.calls kj32 _ _ t436 a2 t462 _ ?side1 ?side2 A113.out).mono ?_); (case side1 => repeat (first | exact (Kd.R_reads' HO_11.out).2.2 | (with_reducible refine Kd.C_alloc ?_ _) | (with_reducible refine Kd.C_drewN ?_ _) | (with_reducible refine Kd.C_drew ?_))); (case side2 => exact (Kd.R_reads' HO_11.out).2.1); rintro e w117 ⟨rfl, hb⟩; have n0_ := Aside0.mk (Kd.V_below Z6 hb); have n1_ := Aside0.mk (Kd.V_below Z5 hb); have n2_ := Aside0.mk (Kd.R_below (kK HO_7) hb); have n3_ := Aside0.mk (Kd.R_below (kK HO_9) hb); have n4_ := Aside0.mk (Kd.R_below (kK HO_11) hb); have n5_ := Aside0.mk (Kd.R_below (kK HO_13) hb); have n6_ := Aside0.mk (Kd.R_below (kK HO_15) hb); have n7_ := Aside0.mk (below_step zB hb); clear HO_0; clear HO_1; clear HO_7; clear HO_9; clear HO_11; clear HO_13; clear HO_15; clear HB; have HO_0 := n0_; have HO_1 := n1_; have HO_7 := n2_; have HO_9 := n3_; have HO_11 := n4_; have HO_13 := n5_; have HO_15 := n6_; have HB := n7_; clear n0_ n1_ n2_ n3_ n4_ n5_ n6_ n7_; (try clear hb); (try clear hb2); (try clear hk); (try clear hi)))
             go_meet
             case rel => exact ⟨_, ((t462 != (!t452))), Z3, H', ⟨Z17⟩, ⟨Z8⟩, ⟨Z7⟩, ⟨Z10⟩, ⟨Z9⟩, ⟨Z0⟩⟩
            ·rw [if_neg c112] at H
             have c112b0 := e3 c112
             have c112b1 := e4 c112
             have H' := Aside0.mk H
             clear H
             obtain ⟨Ao118, co118, eo118⟩ := Kd.R_slice HO_9.out
             subst eo118
             go_wp2_with (first | (go_at_call 33; (with_reducible refine (runes_Has.calls kj32 _ _ t432 a2 t461 _ ?side1 ?side2 A107.out).mono ?_); (case side1 => repeat (first | exact (Kd.R_reads' HO_9.out).2.2 | (with_reducible refine Kd.C_alloc ?_ _) | (with_reducible refine Kd.C_drewN ?_ _) | (with_reducible refine Kd.C_drew ?_))); (case side2 => exact (Kd.R_reads' HO_9.out).2.1); rintro e w119 ⟨rfl, hb⟩; have n0_ := Aside0.mk (Kd.V_below Z6 hb); have n1_ := Aside0.mk (Kd.V_below Z5 hb); have n2_ := Aside0.mk (Kd.R_below (kK HO_7) hb); have n3_ := Aside0.mk (Kd.R_below (kK HO_9) hb); have n4_ := Aside0.mk (Kd.R_below (kK HO_11) hb); have n5_ := Aside0.mk (Kd.R_below (kK HO_13) hb); have n6_ := Aside0.mk (Kd.R_below (kK HO_15) hb); have n7_ := Aside0.mk (below_step zB hb); clear HO_0; clear HO_1; clear HO_7; clear HO_9; clear HO_11; clear HO_13; clear HO_15; clear HB; have HO_0 := n0_; have HO_1 := n1_; have HO_7 := n2_; have HO_9 := n3_; have HO_11 := n4_; have HO_13 := n5_; have HO_15 := n6_; have HB := n7_; clear n0_ n1_ n2_ n3_ n4_ n5_ n6_ n7_; (try clear hb); (try clear hb2); (try clear hk); (try clear hi)))
             go_meet
             case rel => exact ⟨_, (false), Z3, H', ⟨Z17⟩, ⟨Z8⟩, ⟨Z7⟩, ⟨Z10⟩, ⟨Z9⟩, ⟨Z0⟩⟩
          ·replace c108 := Bool.eq_false_iff.mpr c108
           subst c108
           have H1 : (if (t461 != false) = true then (quoinlaw02_RunesAlgebra.j2 kj32 l0 l1 a2 t426 t440 t441 t444 t445 false true) else (if t439 = 0 then ((runes_Has.f kj32 t436 a2).bind fun t463 => (quoinlaw02_RunesAlgebra.j2 kj32 l0 l1 a2 t426 t440 t441 t444 t445 false (t463 != false))) else (quoinlaw02_RunesAlgebra.j2 kj32 l0 l1 a2 t426 t440 t441 t444 t445 false false))) = some r := by rw [if_neg (show ¬ (false = true) by decide)] at H; exact H
           clear H
           have H := H1
           clear H1
           by_cases c120 : (t461 != false) = true
           ·rw [if_pos c120] at H
            have c120b0 : (t461 != false) = true := c120
            (try (have c120b1 : decide (t461 = false) = false := by simpa using c120))
            (try (have c120b2 : (t461 == false) = false := by simpa using c120))
            (try (have c120b3 : ¬ (t461 = false) := by simpa using c120))
            clear c120
            have H' := Aside0.mk H
            clear H
            obtain ⟨Ao121, co121, eo121⟩ := Kd.R_slice HO_9.out
            subst eo121
            go_wp2_with (first | (go_at_call 33; (with_reducible refine (runes_Has.calls kj32 _ _ t432 a2 t461 _ ?side1 ?side2 A107.out).mono ?_); (case side1 => repeat (first | exact (Kd.R_reads' HO_9.out).2.2 | (with_reducible refine Kd.C_alloc ?_ _) | (with_reducible refine Kd.C_drewN ?_ _) | (with_reducible refine Kd.C_drew ?_))); (case side2 => exact (Kd.R_reads' HO_9.out).2.1); rintro e w122 ⟨rfl, hb⟩; have n0_ := Aside0.mk (Kd.V_below Z6 hb); have n1_ := Aside0.mk (Kd.V_below Z5 hb); have n2_ := Aside0.mk (Kd.R_below (kK HO_7) hb); have n3_ := Aside0.mk (Kd.R_below (kK HO_9) hb); have n4_ := Aside0.mk (Kd.R_below (kK HO_11) hb); have n5_ := Aside0.mk (Kd.R_below (kK HO_13) hb); have n6_ := Aside0.mk (Kd.R_below (kK HO_15) hb); have n7_ := Aside0.mk (below_step zB hb); clear HO_0; clear HO_1; clear HO_7; clear HO_9; clear HO_11; clear HO_13; clear HO_15; clear HB; have HO_0 := n0_; have HO_1 := n1_; have HO_7 := n2_; have HO_9 := n3_; have HO_11 := n4_; have HO_13 := n5_; have HO_15 := n6_; have HB := n7_; clear n0_ n1_ n2_ n3_ n4_ n5_ n6_ n7_; (try clear hb); (try clear hb2); (try clear hk); (try clear hi)))
            go_meet
            case rel => exact ⟨_, (true), Z3, H', ⟨Z17⟩, ⟨Z8⟩, ⟨Z7⟩, ⟨Z10⟩, ⟨Z9⟩, ⟨Z0⟩⟩
           ·rw [if_neg c120] at H
            have c120b0 : (t461 != false) = false := by simpa using c120
            (try (have c120b1 : decide (t461 = false) = true := by simpa using c120))
            (try (have c120b2 : (t461 == false) = true := by simpa using c120))
            clear c120
            by_cases c123 : t439 = 0
            ·rw [if_pos c123] at H
             have c123b0 := e1 c123
             have c123b1 := e2 c123
             clear c123
             replace H := bS H
             obtain ⟨t463, A124, H⟩ := H
             try dsimp only at H
             have H' := Aside0.mk H
             clear H
             obtain ⟨Ao125, co125, eo125⟩ := Kd.R_slice HO_9.out
             subst eo125
             go_wp2_with (first | (go_at_call 33; (with_reducible refine (runes_Has.calls kj32 _ _ t432 a2 t461 _ ?side1 ?side2 A107.out).mono ?_); (case side1 => repeat (first | exact (Kd.R_reads' HO_9.out).2.2 | (with_reducible refine Kd.C_alloc ?_ _) | (with_reducible refine Kd.C_drewN ?_ _) | (with_reducible refine Kd.C_drew ?_))); (case side2 => exact (Kd.R_reads' HO_9.out).2.1); rintro e w126 ⟨rfl, hb⟩; have n0_ := Aside0.mk (Kd.V_below Z6 hb); have n1_ := Aside0.mk (Kd.V_below Z5 hb); have n2_ := Aside0.mk (Kd.R_below (kK HO_7) hb); have n3_ := Aside0.mk (Kd.R_below (kK HO_9) hb); have n4_ := Aside0.mk (Kd.R_below (kK HO_11) hb); have n5_ := Aside0.mk (Kd.R_below (kK HO_13) hb); have n6_ := Aside0.mk (Kd.R_below (kK HO_15) hb); have n7_ := Aside0.mk (below_step zB hb); clear HO_0; clear HO_1; clear HO_7; clear HO_9; clear HO_11; clear HO_13; clear HO_15; clear HB; have HO_0 := n0_; have HO_1 := n1_; have HO_7 := n2_; have HO_9 := n3_; have HO_11 := n4_; have HO_13 := n5_; have HO_15 := n6_; have HB := n7_; clear n0_ n1_ n2_ n3_ n4_ n5_ n6_ n7_; (try clear hb); (try clear hb2); (try clear hk); (try clear hi); obtain ⟨Ao127, co127, eo127⟩ := Kd.R_slice HO_11.out; subst eo127) | (go_at_call 33; (with_reducible refine (runes_Has.calls kj32 _ _ t436 a2 t463 _ ?side1 ?side2 A124.out).mono ?_); (case side1 => repeat (first | exact (Kd.R_reads' HO_11.out).2.2 | (with_reducible refine Kd.C_alloc ?_ _) | (with_reducible refine Kd.C_drewN ?_ _) | (with_reducible refine Kd.C_drew ?_))); (case side2 => exact (Kd.R_reads' HO_11.out).2.1); rintro e w128 ⟨rfl, hb⟩; have n0_ := Aside0.mk (Kd.V_below Z6 hb); have n1_ := Aside0.mk (Kd.V_below Z5 hb); have n2_ := Aside0.mk (Kd.R_below (kK HO_7) hb); have n3_ := Aside0.mk (Kd.R_below (kK HO_9) hb); have n4_ := Aside0.mk (Kd.R_below (kK HO_11) hb); have n5_ := Aside0.mk (Kd.R_below (kK HO_13) hb); have n6_ := Aside0.mk (Kd.R_below (kK HO_15) hb); have n7_ := Aside0.mk (below_step zB hb); clear HO_0; clear HO_1; clear HO_7; clear HO_9; clear HO_11; clear HO_13; clear HO_15; clear HB; have HO_0 := n0_; have HO_1 := n1_; have HO_7 := n2_; have HO_9 := n3_; have HO_11 := n4_; have HO_13 := n5_; have HO_15 := n6_; have HB := n7_; clear n0_ n1_ n2_ n3_ n4_ n5_ n6_ n7_; (try clear hb); (try clear hb2); (try clear hk); (try clear hi)))
             go_meet
             case rel => exact ⟨_, ((t463 != false)), Z3, H', ⟨Z17⟩, ⟨Z8⟩, ⟨Z7⟩, ⟨Z10⟩, ⟨Z9⟩, ⟨Z0⟩⟩
            ·rw [if_neg c123] at H
             have c123b0 := e3 c123
             have c123b1 := e4 c123
             have H' := Aside0.mk H
             clear H
             obtain ⟨Ao129, co129, eo129⟩ := Kd.R_slice HO_9.out
             subst eo129
             go_wp2_with (first | (go_at_call 33; (with_reducible refine (runes_Has.calls kj32 _ _ t432 a2 t461 _ ?side1 ?side2 A107.out).mono ?_); (case side1 => repeat (first | exact (Kd.R_reads' HO_9.out).2.2 | (with_reducible refine Kd.C_alloc ?_ _) | (with_reducible refine Kd.C_drewN ?_ _) | (with_reducible refine Kd.C_drew ?_))); (case side2 => exact (Kd.R_reads' HO_9.out).2.1); rintro e w130 ⟨rfl, hb⟩; have n0_ := Aside0.mk (Kd.V_below Z6 hb); have n1_ := Aside0.mk (Kd.V_below Z5 hb); have n2_ := Aside0.mk (Kd.R_below (kK HO_7) hb); have n3_ := Aside0.mk (Kd.R_below (kK HO_9) hb); have n4_ := Aside0.mk (Kd.R_below (kK HO_11) hb); have n5_ := Aside0.mk (Kd.R_below (kK HO_13) hb); have n6_ := Aside0.mk (Kd.R_below (kK HO_15) hb); have n7_ := Aside0.mk (below_step zB hb); clear HO_0; clear HO_1; clear HO_7; clear HO_9; clear HO_11; clear HO_13; clear HO_15; clear HB; have HO_0 := n0_; have HO_1 := n1_; have HO_7 := n2_; have HO_9 := n3_; have HO_11 := n4_; have HO_13 := n5_; have HO_15 := n6_; have HB := n7_; clear n0_ n1_ n2_ n3_ n4_ n5_ n6_ n7_; (try clear hb); (try clear hb2); (try clear hk); (try clear hi)))
             go_meet
             case rel => exact ⟨_, (false), Z3, H', ⟨Z17⟩, ⟨Z8⟩, ⟨Z7⟩, ⟨Z10⟩, ⟨Z9⟩, ⟨Z0⟩⟩
         ·rw [if_neg c106] at H
          have c106b0 := e3 c106
          have c106b1 := e4 c106
          by_cases c131 : t439 = 0
          ·rw [if_pos c131] at H
           have c131b0 := e1 c131
           have c131b1 := e2 c131
           clear c131
           replace H := bS H
           obtain ⟨t464, A132, H⟩ := H
           try dsimp only at H
           by_cases c133 : t451 = true
           ·subst c133
            have H1 : (quoinlaw02_RunesAlgebra.j2 kj32 l0 l1 a2 t426 t440 t441 t444 t445 true (t464 != (!t452))) = some r := by rw [if_pos rfl] at H; exact H
            clear H
            have H := H1
            clear H1
            have H' := Aside0.mk H
            clear H
            obtain ⟨Ao134, co134, eo134⟩ := Kd.R_slice HO_11.out
            subst eo134
            go_wp2_with (first | (go_at_call 33; (with_reducible refine (runes_Has.calls kj32 _ _ t436 a2 t464 _ ?side1 ?side2 A132.out).mono ?_); (case side1 => repeat (first | exact (Kd.R_reads' HO_11.out).2.2 | (with_reducible refine Kd.C_alloc ?_ _) | (with_reducible refine Kd.C_drewN ?_ _) | (with_reducible refine Kd.C_drew ?_))); (case side2 => exact (Kd.R_reads' HO_11.out).2.1); rintro e w135 ⟨rfl, hb⟩; have n0_ := Aside0.mk (Kd.V_below Z6 hb); have n1_ := Aside0.mk (Kd.V_below Z5 hb); have n2_ := Aside0.mk (Kd.R_below (kK HO_7) hb); have n3_ := Aside0.mk (Kd.R_below (kK HO_9) hb); have n4_ := Aside0.mk (Kd.R_below (kK HO_11) hb); have n5_ := Aside0.mk (Kd.R_below (kK HO_13) hb); have n6_ := Aside0.mk (Kd.R_below (kK HO_15) hb); have n7_ := Aside0.mk (below_step zB hb); clear HO_0; clear HO_1; clear HO_7; clear HO_9; clear HO_11; clear HO_13; clear HO_15; clear HB; have HO_0 := n0_; have HO_1 := n1_; have HO_7 := n2_; have HO_9 := n3_; have HO_11 := n4_; have HO_13 := n5_; have HO_15 := n6_; have HB := n7_; clear n0_ n1_ n2_ n3_ n4_ n5_ n6_ n7_; (try clear hb); (try clear hb2); (try clear hk); (try clear hi)))
            go_meet
            case rel => exact ⟨_, ((t464 != (!t452))), Z3, H', ⟨Z17⟩, ⟨Z8⟩, ⟨Z7⟩, ⟨Z10⟩, ⟨Z9⟩, ⟨Z0⟩⟩
           ·replace c133 := Bool.eq_false_iff.mpr c133
            subst c133
            have H1 : (quoinlaw02_RunesAlgebra.j2 kj32 l0 l1 a2 t426 t440 t441 t444 t445 false (t464 != false)) = some r := by rw [if_neg (show ¬ (false = true) by decide)] at H; exact H
            clear H
            have H := H1
            clear H1
            have H' := Aside0.mk H
            clear H
            obtain ⟨Ao136, co136, eo136⟩ := Kd.R_slice HO_11.out
            subst eo136
            go_wp2_with (first | (go_at_call 33; (with_reducible refine (runes_Has.calls kj32 _ _ t436 a2 t464 _ ?side1 ?side2 A132.out).mono ?_); (case side1 => repeat (first | exact (Kd.R_reads' HO_11.out).2.2 | (with_reducible refine Kd.C_alloc ?_ _) | (with_reducible refine Kd.C_drewN ?_ _) | (with_reducible refine Kd.C_drew ?_))); (case side2 => exact (Kd.R_reads' HO_11.out).2.1); rintro e w137 ⟨rfl, hb⟩; have n0_ := Aside0.mk (Kd.V_below Z6 hb); have n1_ := Aside0.mk (Kd.V_below Z5 hb); have n2_ := Aside0.mk (Kd.R_below (kK HO_7) hb); have n3_ := Aside0.mk (Kd.R_below (kK HO_9) hb); have n4_ := Aside0.mk (Kd.R_below (kK HO_11) hb); have n5_ := Aside0.mk (Kd.R_below (kK HO_13) hb); have n6_ := Aside0.mk (Kd.R_below (kK HO_15) hb); have n7_ := Aside0.mk (below_step zB hb); clear HO_0; clear HO_1; clear HO_7; clear HO_9; clear HO_11; clear HO_13; clear HO_15; clear HB; have HO_0 := n0_; have HO_1 := n1_; have HO_7 := n2_; have HO_9 := n3_; have HO_11 := n4_; have HO_13 := n5_; have HO_15 := n6_; have HB := n7_; clear n0_ n1_ n2_ n3_ n4_ n5_ n6_ n7_; (try clear hb); (try clear hb2); (try clear hk); (try clear hi)))
            go_meet
            case rel => exact ⟨_, ((t464 != false)), Z3, H', ⟨Z17⟩, ⟨Z8⟩, ⟨Z7⟩, ⟨Z10⟩, ⟨Z9⟩, ⟨Z0⟩⟩
          ·rw [if_neg c131] at H
           have c131b0 := e3 c131
           have c131b1 := e4 c131
           have H' := Aside0.mk H
           clear H
           go_wp2
           go_meet
           case rel => exact ⟨_, (false), Z3, H', ⟨Z17⟩, ⟨Z8⟩, ⟨Z7⟩, ⟨Z10⟩, ⟨Z9⟩, ⟨Z0⟩⟩
       case rest => as_aux_lemma =>
        clear HC42
        try clear c1
        try clear c2
        try clear p2
        try clear c3
        try clear c4
        try clear c5
        try clear c6
        try clear c7
        try clear c8
        try clear c9
        try clear c10
        try clear c11
        try clear c12
        try clear c13
        try clear c18
        try clear c23
        try clear c23b0
        try clear c23b1
        try clear c25
        try clear c26
        try clear c26b0
        try clear c26b1
        try clear c27
        try clear c27b0
        try clear c27b1
        try clear c28
        try clear c28b0
        try clear c28b1
        try clear c29
        try clear c33
        try clear c36
        try clear c36b0
        try clear c37
        try clear c38
        try clear c39
        try clear c43
        try clear c43b0
        try clear c43b1
        try clear c45
        try clear c46
        try clear c46b0
        try clear c46b1
        try clear c46b2
        try clear c49
        try clear c49b0
        try clear c49b1
        try clear c51
        try clear c51b0
        try clear c51b1
        try clear c51b2
        try clear c56
        try clear c56b0
        try clear c56b1
        try clear c68
        try clear c68b0
        try clear c68b1
        try clear c76
        try clear c76b0
        try clear c76b1
        try clear c76b2
        try clear c79
        try clear c79b0
        try clear c79b1
        try clear c81
        try clear c81b0
        try clear c81b1
        try clear c81b2
        try clear c86
        try clear c86b0
        try clear c86b1
        try clear c98
        try clear c98b0
        try clear c98b1
        try clear c106
        try clear c106b0
        try clear c106b1
        try clear c108
        try clear c109
        try clear c109b0
        try clear c109b1
        try clear c109b2
        try clear c112
        try clear c112b0
        try clear c112b1
        try clear c120
        try clear c120b0
        try clear c120b1
        try clear c120b2
        try clear c123
        try clear c123b0
        try clear c123b1
        try clear c131
        try clear c131b0
        try clear c131b1
        try clear c133
        try clear p2
        obtain ⟨kq, x131_41, rfl, HA, HJ41, HO_0, HO_1, HO_13, HO_15, HB⟩ := hcut
        cases kq with
        | zero => exact absurd HA.out (by simp [quoinlaw02_RunesAlgebra.j2])
        | succ kj41 =>
         have H := HA.out
         clear HA
         simp only [quoinlaw02_RunesAlgebra.j2] at H
         by_cases c138 : x131_41 = true
         ·subst c138
          have H1 : (some false) = some r := by rw [if_pos rfl] at H; exact H
          clear H
          have H := H1
          clear H1
          obtain rfl := Option.some.inj H
          go_wp2
          go_ret
          exact ⟨Z4, Z0⟩
         ·replace c138 := Bool.eq_false_iff.mpr c138
          subst c138
          have H1 : (if t441 = 0 then ((runes_Has.f kj41 t440 a2).bind fun t465 => (if (t465 == t451) = true then (quoinlaw02_RunesAlgebra.j3 kj41 l0 l1 t426 t441 t444 t445 true) else ((runes_Size.f kj41 l0).bind fun t466 => ((runes_Size.f kj41 t440).bind fun t467 => (quoinlaw02_RunesAlgebra.j3 kj41 l0 l1 t426 t441 t444 t445 ((wrap64 (t466 + t467)) != 1114112)))))) else (quoinlaw02_RunesAlgebra.j3 kj41 l0 l1 t426 t441 t444 t445 false)) = some r := by rw [if_neg (show ¬ (false = true) by decide)] at H; exact H
          clear H
          have H := H1
          clear H1
          have HC139 := Aside0.mk H
          clear H
          go_upto_region 13 with (fail)
          go_cut [148] (fun v148 wc => ∃ (kq : Nat) (x148_138 : Bool), v148 = .bool x148_138 ∧ Aside0 (quoinlaw02_RunesAlgebra.j3 kq l0 l1 t426 t441 t444 t445 x148_138 = some r) ∧ Aside0 (kq ≤ kj41) ∧ Aside0 (Kd.V k36 36 wc w.heap.size (fun k_ => ((P0_ k_ ∨ P1_ k_) ∨ w.heap.size ≤ k_) ∧ some k_ ≠ (v446 : Value).ownBlock) (.slice A0 l0.length c0) l0) ∧ Aside0 (Kd.V k36 36 wc w.heap.size (fun k_ => ((P0_ k_ ∨ P1_ k_) ∨ w.heap.size ≤ k_) ∧ some k_ ≠ (v446 : Value).ownBlock) (.slice A1 l1.length c1) l1) ∧ Aside0 (Kd.R k36 36 wc w.heap.size (fun k_ => (w.heap.size ≤ k_)) v446 t444) ∧ Aside0 (Below w.heap.size w wc))
          case first => as_aux_lemma =>
           have H := HC139.out
           clear HC139
           by_cases c140 : t441 = 0
           ·rw [if_pos c140] at H
            have c140b0 := e1 c140
            have c140b1 := e2 c140
            clear c140
            (first | rw [c140b0] | (simp only [i64_w, i32_w]; rw [c140b0]) | skip)
            replace H := bS H
            obtain ⟨t465, A141, H⟩ := H
            try dsimp only at H
            by_cases c142 : (t465 == t451) = true
            ·rw [if_pos c142] at H
             have c142b0 : (t465 == t451) = true := c142
             (try (have c142b1 : decide (t465 = t451) = true := by simpa using c142))
             (try (have c142b2 : (t465 == t451) = true := by simpa using c142))
             clear c142
             have H' := Aside0.mk H
             clear H
             go_wp2_with (first | (go_at_call 33; (with_reducible refine (runes_Has.calls kj41 _ _ t440 a2 t465 _ ?side1 ?side2 A141.out).mono ?_); (case side1 => repeat (first | exact (Kd.R_reads' HO_13.out).2.2 | (with_reducible refine Kd.C_alloc ?_ _) | (with_reducible refine Kd.C_drewN ?_ _) | (with_reducible refine Kd.C_drew ?_))); (case side2 => exact (Kd.R_reads' HO_13.out).2.1); rintro e w143 ⟨rfl, hb⟩; have n0_ := Aside0.mk (Kd.V_below Z6 hb); have n1_ := Aside0.mk (Kd.V_below Z5 hb); have n2_ := Aside0.mk (Kd.R_below (kK HO_13) hb); have n3_ := Aside0.mk (Kd.R_below (kK HO_15) hb); have n4_ := Aside0.mk (below_step zB hb); clear HO_0; clear HO_1; clear HO_13; clear HO_15; clear HB; have HO_0 := n0_; have HO_1 := n1_; have HO_13 := n2_; have HO_15 := n3_; have HB := n4_; clear n0_ n1_ n2_ n3_ n4_; (try clear hb); (try clear hb2); (try clear hk); (try clear hi)))
             go_meet
             case rel => exact ⟨_, (true), Z3, H', ⟨by have := HJ8.out; have := HJ32.out; have := HJ41.out; first | omega | exact Nat.le_refl _⟩, ⟨Z33⟩, ⟨Z32⟩, ⟨Z36⟩, ⟨Z0⟩⟩
            ·rw [if_neg c142] at H
             have c142b0 : (t465 == t451) = false := by simpa using c142
             (try (have c142b1 : decide (t465 = t451) = false := by simpa using c142))
             (try (have c142b2 : (t465 == t451) = false := by simpa using c142))
             (try (have c142b3 : ¬ (t465 = t451) := by simpa using c142))
             clear c142
             replace H := bS H
             obtain ⟨t466, A144, H⟩ := H
             try dsimp only at H
             replace H := bS H
             obtain ⟨t467, A145, H⟩ := H
             try dsimp only at H
             have H' := Aside0.mk H
             clear H
             go_wp2_with (first | (go_at_call 33; (with_reducible refine (runes_Has.calls kj41 _ _ t440 a2 t465 _ ?side1 ?side2 A141.out).mono ?_); (case side1 => repeat (first | exact (Kd.R_reads' HO_13.out).2.2 | (with_reducible refine Kd.C_alloc ?_ _) | (with_reducible refine Kd.C_drewN ?_ _) | (with_reducible refine Kd.C_drew ?_))); (case side2 => exact (Kd.R_reads' HO_13.out).2.1); rintro e w146 ⟨rfl, hb⟩; have n0_ := Aside0.mk (Kd.V_below Z6 hb); have n1_ := Aside0.mk (Kd.V_below Z5 hb); have n2_ := Aside0.mk (Kd.R_below (kK HO_13) hb); have n3_ := Aside0.mk (Kd.R_below (kK HO_15) hb); have n4_ := Aside0.mk (below_step zB hb); clear HO_0; clear HO_1; clear HO_13; clear HO_15; clear HB; have HO_0 := n0_; have HO_1 := n1_; have HO_13 := n2_; have HO_15 := n3_; have HB := n4_; clear n0_ n1_ n2_ n3_ n4_; (try clear hb); (try clear hb2); (try clear hk); (try clear hi)) | (go_at_call 19; (with_reducible refine (runes_Size.calls kj41 _ _ l0 t466 _ ?side1 ?side2 A144.out).mono ?_); (case side1 => repeat (first | exact (Kd.V_reads' HO_0.out).2.2 | (with_reducible refine Kd.C_alloc ?_ _) | (with_reducible refine Kd.C_drewN ?_ _) | (with_reducible refine Kd.C_drew ?_))); (case side2 => exact (Kd.V_reads' HO_0.out).2.1); rintro e w147 ⟨rfl, hb⟩; have n0_ := Aside0.mk (Kd.V_below Z6 hb); have n1_ := Aside0.mk (Kd.V_below Z5 hb); have n2_ := Aside0.mk (Kd.R_below (kK HO_13) hb); have n3_ := Aside0.mk (Kd.R_below (kK HO_15) hb); have n4_ := Aside0.mk (below_step zB hb); clear HO_0; clear HO_1; clear HO_13; clear HO_15; clear HB; have HO_0 := n0_; have HO_1 := n1_; have HO_13 := n2_; have HO_15 := n3_; have HB := n4_; clear n0_ n1_ n2_ n3_ n4_; (try clear hb); (try clear hb2); (try clear hk); (try clear hi)) | (go_at_call 19; (with_reducible refine (runes_Size.calls kj41 _ _ t440 t467 _ ?side1 ?side2 A145.out).mono ?_); (case side1 => repeat (first | exact (Kd.R_reads' HO_13.out).2.2 | (with_reducible refine Kd.C_alloc ?_ _) | (with_reducible refine Kd.C_drewN ?_ _) | (with_reducible refine Kd.C_drew ?_))); (case side2 => exact (Kd.R_reads' HO_13.out).2.1); rintro e w148 ⟨rfl, hb⟩; have n0_ := Aside0.mk (Kd.V_below Z6 hb); have n1_ := Aside0.mk (Kd.V_below Z5 hb); have n2_ := Aside0.mk (Kd.R_below (kK HO_13) hb); have n3_ := Aside0.mk (Kd.R_below (kK HO_15) hb); have n4_ := Aside0.mk (below_step zB hb); clear HO_0; clear HO_1; clear HO_13; clear HO_15; clear HB; have HO_0 := n0_; have HO_1 := n1_; have HO_13 := n2_; have HO_15 := n3_; have HB := n4_; clear n0_ n1_ n2_ n3_ n4_; (try clear hb); (try clear hb2); (try clear hk); (try clear hi)))
             go_meet
             case rel => exact ⟨_, (((wrap64 (t466 + t467)) != 1114112)), Z3, H', ⟨by have := HJ8.out; have := HJ32.out; have := HJ41.out; first | omega | exact Nat.le_refl _⟩, ⟨Z33⟩, ⟨Z32⟩, ⟨Z36⟩, ⟨Z0⟩⟩
           ·rw [if_neg c140] at H
            have c140b0 := e3 c140
            have c140b1 := e4 c140
            (first | rw [c140b0] | (simp only [i64_w, i32_w]; rw [c140b0]) | skip)
            have H' := Aside0.mk H
            clear H
            go_wp2
            go_meet
            case rel => exact ⟨_, (false), Z3, H', ⟨by have := HJ8.out; have := HJ32.out; have := HJ41.out; first | omega | exact Nat.le_refl _⟩, ⟨Z33⟩, ⟨Z32⟩, ⟨Z36⟩, ⟨Z0⟩⟩
          case rest => as_aux_lemma =>
           clear HC139
           try clear c1
           try clear c2
           try clear p2
           try clear c3
           try clear c4
           try clear c5
           try clear c6
           try clear p6
           try clear c7
           try clear c8
           try clear c9
           try clear c10
           try clear c11
           try clear c12
           try clear c13
           try clear c14
           try clear c18
           try clear c23
           try clear c23b0
           try clear c23b1
           try clear c25
           try clear c26
           try clear c26b0
           try clear c26b1
           try clear c27
           try clear c27b0
           try clear c27b1
           try clear c28
           try clear c28b0
           try clear c28b1
           try clear c29
           try clear c33
           try clear c36
           try clear c36b0
           try clear c37
           try clear c38
           try clear c39
           try clear c43
           try clear c43b0
           try clear c43b1
           try clear c45
           try clear c46
           try clear c46b0
           try clear c46b1
           try clear c46b2
           try clear c49
           try clear c49b0
           try clear c49b1
           try clear c51
           try clear c51b0
           try clear c51b1
           try clear c51b2
           try clear c56
           try clear c56b0
           try clear c56b1
           try clear p64
           try clear c68
           try clear c68b0
           try clear c68b1
           try clear c76
           try clear c76b0
           try clear c76b1
           try clear c76b2
           try clear c79
           try clear c79b0
           try clear c79b1
           try clear c81
           try clear c81b0
           try clear c81b1
           try clear c81b2
           try clear c86
           try clear c86b0
           try clear c86b1
           try clear c98
           try clear c98b0
           try clear c98b1
           try clear c106
           try clear c106b0
           try clear c106b1
           try clear c108
           try clear c109
           try clear c109b0
           try clear c109b1
           try clear c109b2
           try clear c112
           try clear c112b0
           try clear c112b1
           try clear c120
           try clear c120b0
           try clear c120b1
           try clear c120b2
           try clear c123
           try clear c123b0
           try clear c123b1
           try clear c131
           try clear c131b0
           try clear c131b1
           try clear c133
           try clear c138
           try clear c140
           try clear c140b0
           try clear c140b1
           try clear c142
           try clear c142b0
           try clear c142b1
           try clear c142b2
           try clear p2
           obtain ⟨kq, x148_138, rfl, HA, HJ138, HO_0, HO_1, HO_15, HB⟩ := hcut
           cases kq with
           | zero => exact absurd HA.out (by simp [quoinlaw02_RunesAlgebra.j3])
           | succ kj138 =>
            have H := HA.out
            clear HA
            simp only [quoinlaw02_RunesAlgebra.j3] at H
            by_cases c149 : x148_138 = true
            ·subst c149
             have H1 : (some false) = some r := by rw [if_pos rfl] at H; exact H
             clear H
             have H := H1
             clear H1
             obtain rfl := Option.some.inj H
             go_wp2
             go_ret
             exact ⟨Z4, Z0⟩
            ·replace c149 := Bool.eq_false_iff.mpr c149
             subst c149
             have H1 : (if t441 = 0 then (if t445 = 0 then ((quoinref02_Same.f t444 l0).bind fun t468 => (if t468 = true then (if t426 = 0 then ((quoinlaw02_awake.f kj138).bind fun t469 => (some t469)) else (if (wrap64 ((l0.length : Int) + (l1.length : Int))) > 2048 then ((quoinlaw02_awake.f kj138).bind fun t470 => (some t470)) else (some false))) else (some false))) else (if t426 = 0 then ((quoinlaw02_awake.f kj138).bind fun t471 => (some t471)) else (if (wrap64 ((l0.length : Int) + (l1.length : Int))) > 2048 then ((quoinlaw02_awake.f kj138).bind fun t472 => (some t472)) else (some false)))) else (if t426 = 0 then ((quoinlaw02_awake.f kj138).bind fun t473 => (some t473)) else (if (wrap64 ((l0.length : Int) + (l1.length : Int))) > 2048 then ((quoinlaw02_awake.f kj138).bind fun t474 => (some t474)) else (some false)))) = some r := by rw [if_neg (show ¬ (false = true) by decide)] at H; exact H
             clear H
             have H := H1
             clear H1
             by_cases c150 : t441 = 0
             ·rw [if_pos c150] at H
              have c150b0 := e1 c150
              have c150b1 := e2 c150
              clear c150
              by_cases c151 : t445 = 0
              ·rw [if_pos c151] at H
               have c151b0 := e1 c151
               have c151b1 := e2 c151
               clear c151
               replace H := bS H
               obtain ⟨t468, A152, H⟩ := H
               try dsimp only at H
               by_cases c153 : t468 = true
               ·subst c153
                have H1 : (if t426 = 0 then ((quoinlaw02_awake.f kj138).bind fun t469 => (some t469)) else (if (wrap64 ((l0.length : Int) + (l1.length : Int))) > 2048 then ((quoinlaw02_awake.f kj138).bind fun t470 => (some t470)) else (some false))) = some r := by rw [if_pos rfl] at H; exact H
                clear H
                have H := H1
                clear H1
                by_cases c154 : t426 = 0
                ·rw [if_pos c154] at H
                 have c154b0 := e1 c154
                 have c154b1 := e2 c154
                 clear c154
                 replace H := bS H
                 obtain ⟨t469, A155, H⟩ := H
                 try dsimp only at H
                 obtain rfl := Option.some.inj H
                 obtain ⟨Ao156, co156, eo156⟩ := Kd.R_slice HO_15.out
                 subst eo156
                 go_wp2_with (first | (go_at_call 15; (with_reducible refine (quoinref02_Same.calls _ _ t444 _ _ l0 true _ ?side1 ?side2 ?side3 ?side4 A152.out).mono ?_); (case side1 => repeat (first | exact (Kd.R_reads' HO_15.out).2.2 | (with_reducible refine Kd.C_alloc ?_ _) | (with_reducible refine Kd.C_drewN ?_ _) | (with_reducible refine Kd.C_drew ?_))); (case side2 => exact (Kd.R_reads' HO_15.out).2.1); (case side3 => repeat (first | exact (Kd.V_reads' HO_0.out).2.2 | (with_reducible refine Kd.C_alloc ?_ _) | (with_reducible refine Kd.C_drewN ?_ _) | (with_reducible refine Kd.C_drew ?_))); (case side4 => exact (Kd.V_reads' HO_0.out).2.1); rintro e w157 ⟨rfl, hb⟩; have n0_ := Aside0.mk (Kd.V_below Z6 hb); have n1_ := Aside0.mk (Kd.V_below Z5 hb); have n2_ := Aside0.mk (Kd.R_below (kK HO_15) hb); have n3_ := Aside0.mk (below_step zB hb); clear HO_0; clear HO_1; clear HO_15; clear HB; have HO_0 := n0_; have HO_1 := n1_; have HO_15 := n2_; have HB := n3_; clear n0_ n1_ n2_ n3_; (try clear hb); (try clear hb2); (try clear hk); (try clear hi)) | (go_at_call 16; (with_reducible refine (quoinlaw02_awake.calls A155.out).mono ?_); rintro e w158 ⟨rfl, hb⟩; have n0_ := Aside0.mk (Kd.V_below Z6 hb); have n1_ := Aside0.mk (Kd.V_below Z5 hb); have n2_ := Aside0.mk (Kd.R_below (kK HO_15) hb); have n3_ := Aside0.mk (below_step zB hb); clear HO_0; clear HO_1; clear HO_15; clear HB; have HO_0 := n0_; have HO_1 := n1_; have HO_15 := n2_; have HB := n3_; clear n0_ n1_ n2_ n3_; (try clear hb); (try clear hb2); (try clear hk); (try clear hi)))
                 go_ret
                 exact ⟨Z4, Z0⟩
                ·rw [if_neg c154] at H
                 have c154b0 := e3 c154
                 have c154b1 := e4 c154
                 by_cases c159 : (wrap64 ((l0.length : Int) + (l1.length : Int))) > 2048
                 ·rw [if_pos c159] at H
                  have c159b0 : decide (2048 < (wrap64 ((l0.length : Int) + (l1.length : Int)))) = true := decide_eq_true c159
                  clear c159
                  replace H := bS H
                  obtain ⟨t470, A160, H⟩ := H
                  try dsimp only at H
                  obtain rfl := Option.some.inj H
                  obtain ⟨Ao161, co161, eo161⟩ := Kd.R_slice HO_15.out
                  subst eo161
                  go_wp2_with (first | (go_at_call 15; (with_reducible refine (quoinref02_Same.calls _ _ t444 _ _ l0 true _ ?side1 ?side2 ?side3 ?side4 A152.out).mono ?_); (case side1 => repeat (first | exact (Kd.R_reads' HO_15.out).2.2 | (with_reducible refine Kd.C_alloc ?_ _) | (with_reducible refine Kd.C_drewN ?_ _) | (with_reducible refine Kd.C_drew ?_))); (case side2 => exact (Kd.R_reads' HO_15.out).2.1); (case side3 => repeat (first | exact (Kd.V_reads' HO_0.out).2.2 | (with_reducible refine Kd.C_alloc ?_ _) | (with_reducible refine Kd.C_drewN ?_ _) | (with_reducible refine Kd.C_drew ?_))); (case side4 => exact (Kd.V_reads' HO_0.out).2.1); rintro e w162 ⟨rfl, hb⟩; have n0_ := Aside0.mk (Kd.V_below Z6 hb); have n1_ := Aside0.mk (Kd.V_below Z5 hb); have n2_ := Aside0.mk (Kd.R_below (kK HO_15) hb); have n3_ := Aside0.mk (below_step zB hb); clear HO_0; clear HO_1; clear HO_15; clear HB; have HO_0 := n0_; have HO_1 := n1_; have HO_15 := n2_; have HB := n3_; clear n0_ n1_ n2_ n3_; (try clear hb); (try clear hb2); (try clear hk); (try clear hi)) | (go_at_call 16; (with_reducible refine (quoinlaw02_awake.calls A160.out).mono ?_); rintro e w163 ⟨rfl, hb⟩; have n0_ := Aside0.mk (Kd.V_below Z6 hb); have n1_ := Aside0.mk (Kd.V_below Z5 hb); have n2_ := Aside0.mk (Kd.R_below (kK HO_15) hb); have n3_ := Aside0.mk (below_step zB hb); clear HO_0; clear HO_1; clear HO_15; clear HB; have HO_0 := n0_; have HO_1 := n1_; have HO_15 := n2_; have HB := n3_; clear n0_ n1_ n2_ n3_; (try clear hb); (try clear hb2); (try clear hk); (try clear hi)))
                  go_ret
                  exact ⟨Z4, Z0⟩
                 ·rw [if_neg c159] at H
                  have c159b0 : decide (2048 < (wrap64 ((l0.length : Int) + (l1.length : Int)))) = false := decide_eq_false c159
                  clear c159
                  obtain rfl := Option.some.inj H
                  obtain ⟨Ao164, co164, eo164⟩ := Kd.R_slice HO_15.out
                  subst eo164
                  go_wp2_with (first | (go_at_call 15; (with_reducible refine (quoinref02_Same.calls _ _ t444 _ _ l0 true _ ?side1 ?side2 ?side3 ?side4 A152.out).mono ?_); (case side1 => repeat (first | exact (Kd.R_reads' HO_15.out).2.2 | (with_reducible refine Kd.C_alloc ?_ _) | (with_reducible refine Kd.C_drewN ?_ _) | (with_reducible refine Kd.C_drew ?_))); (case side2 => exact (Kd.R_reads' HO_15.out).2.1); (case side3 => repeat (first | exact (Kd.V_reads' HO_0.out).2.2 | (with_reducible refine Kd.C_alloc ?_ _) | (with_reducible refine Kd.C_drewN ?_ _) | (with_reducible refine Kd.C_drew ?_))); (case side4 => exact (Kd.V_reads' HO_0.out).2.1); rintro e w165 ⟨rfl, hb⟩; have n0_ := Aside0.mk (Kd.V_below Z6 hb); have n1_ := Aside0.mk (Kd.V_below Z5 hb); have n2_ := Aside0.mk (Kd.R_below (kK HO_15) hb); have n3_ := Aside0.mk (below_step zB hb); clear HO_0; clear HO_1; clear HO_15; clear HB; have HO_0 := n0_; have HO_1 := n1_; have HO_15 := n2_; have HB := n3_; clear n0_ n1_ n2_ n3_; (try clear hb); (try clear hb2); (try clear hk); (try clear hi)))
                  go_ret
                  exact ⟨Z4, Z0⟩
               ·replace c153 := Bool.eq_false_iff.mpr c153
                subst c153
                have H1 : (some false) = some r := by rw [if_neg (show ¬ (false = true) by decide)] at H; exact H
                clear H
                have H := H1
                clear H1
                obtain rfl := Option.some.inj H
                obtain ⟨Ao166, co166, eo166⟩ := Kd.R_slice HO_15.out
                subst eo166
                go_wp2_with (first | (go_at_call 15; (with_reducible refine (quoinref02_Same.calls _ _ t444 _ _ l0 false _ ?side1 ?side2 ?side3 ?side4 A152.out).mono ?_); (case side1 => repeat (first | exact (Kd.R_reads' HO_15.out).2.2 | (with_reducible refine Kd.C_alloc ?_ _) | (with_reducible refine Kd.C_drewN ?_ _) | (with_reducible refine Kd.C_drew ?_))); (case side2 => exact (Kd.R_reads' HO_15.out).2.1); (case side3 => repeat (first | exact (Kd.V_reads' HO_0.out).2.2 | (with_reducible refine Kd.C_alloc ?_ _) | (with_reducible refine Kd.C_drewN ?_ _) | (with_reducible refine Kd.C_drew ?_))); (case side4 => exact (Kd.V_reads' HO_0.out).2.1); rintro e w167 ⟨rfl, hb⟩; have n0_ := Aside0.mk (Kd.V_below Z6 hb); have n1_ := Aside0.mk (Kd.V_below Z5 hb); have n2_ := Aside0.mk (Kd.R_below (kK HO_15) hb); have n3_ := Aside0.mk (below_step zB hb); clear HO_0; clear HO_1; clear HO_15; clear HB; have HO_0 := n0_; have HO_1 := n1_; have HO_15 := n2_; have HB := n3_; clear n0_ n1_ n2_ n3_; (try clear hb); (try clear hb2); (try clear hk); (try clear hi)))
                go_ret
                exact ⟨Z4, Z0⟩
              ·rw [if_neg c151] at H
               have c151b0 := e3 c151
               have c151b1 := e4 c151
               by_cases c168 : t426 = 0
               ·rw [if_pos c168] at H
                have c168b0 := e1 c168
                have c168b1 := e2 c168
                clear c168
                replace H := bS H
                obtain ⟨t471, A169, H⟩ := H
                try dsimp only at H
                obtain rfl := Option.some.inj H
                go_wp2_with (first | (go_at_call 16; (with_reducible refine (quoinlaw02_awake.calls A169.out).mono ?_); rintro e w170 ⟨rfl, hb⟩; have n0_ := Aside0.mk (Kd.V_below Z6 hb); have n1_ := Aside0.mk (Kd.V_below Z5 hb); have n2_ := Aside0.mk (Kd.R_below (kK HO_15) hb); have n3_ := Aside0.mk (below_step zB hb); clear HO_0; clear HO_1; clear HO_15; clear HB; have HO_0 := n0_; have HO_1 := n1_; have HO_15 := n2_; have HB := n3_; clear n0_ n1_ n2_ n3_; (try clear hb); (try clear hb2); (try clear hk); (try clear hi)))
                go_ret
                exact ⟨Z4, Z0⟩
               ·rw [if_neg c168] at H
                have c168b0 := e3 c168
                have c168b1 := e4 c168
                by_cases c171 : (wrap64 ((l0.length : Int) + (l1.length : Int))) > 2048
                ·rw [if_pos c171] at H
                 have c171b0 : decide (2048 < (wrap64 ((l0.length : Int) + (l1.length : Int)))) = true := decide_eq_true c171
                 clear c171
                 replace H := bS H
                 obtain ⟨t472, A172, H⟩ := H
                 try dsimp only at H
                 obtain rfl := Option.some.inj H
                 go_wp2_with (first | (go_at_call 16; (with_reducible refine (quoinlaw02_awake.calls A172.out).mono ?_); rintro e w173 ⟨rfl, hb⟩; have n0_ := Aside0.mk (Kd.V_below Z6 hb); have n1_ := Aside0.mk (Kd.V_below Z5 hb); have n2_ := Aside0.mk (Kd.R_below (kK HO_15) hb); have n3_ := Aside0.mk (below_step zB hb); clear HO_0; clear HO_1; clear HO_15; clear HB; have HO_0 := n0_; have HO_1 := n1_; have HO_15 := n2_; have HB := n3_; clear n0_ n1_ n2_ n3_; (try clear hb); (try clear hb2); (try clear hk); (try clear hi)))
                 go_ret
                 exact ⟨Z4, Z0⟩
                ·rw [if_neg c171] at H
                 have c171b0 : decide (2048 < (wrap64 ((l0.length : Int) + (l1.length : Int)))) = false := decide_eq_false c171
                 clear c171
                 obtain rfl := Option.some.inj H
                 go_wp2
                 go_ret
                 exact ⟨Z4, Z0⟩
             ·rw [if_neg c150] at H
              have c150b0 := e3 c150
              have c150b1 := e4 c150
              by_cases c174 : t426 = 0
              ·rw [if_pos c174] at H
               have c174b0 := e1 c174
               have c174b1 := e2 c174
               clear c174
               replace H := bS H
               obtain ⟨t473, A175, H⟩ := H
               try dsimp only at H
               obtain rfl := Option.some.inj H
               go_wp2_with (first | (go_at_call 16; (with_reducible refine (quoinlaw02_awake.calls A175.out).mono ?_); rintro e w176 ⟨rfl, hb⟩; have n0_ := Aside0.mk (Kd.V_below Z6 hb); have n1_ := Aside0.mk (Kd.V_below Z5 hb); have n2_ := Aside0.mk (Kd.R_below (kK HO_15) hb); have n3_ := Aside0.mk (below_step zB hb); clear HO_0; clear HO_1; clear HO_15; clear HB; have HO_0 := n0_; have HO_1 := n1_; have HO_15 := n2_; have HB := n3_; clear n0_ n1_ n2_ n3_; (try clear hb); (try clear hb2); (try clear hk); (try clear hi)))
               go_ret
               exact ⟨Z4, Z0⟩
              ·rw [if_neg c174] at H
               have c174b0 := e3 c174
               have c174b1 := e4 c174
               by_cases c177 : (wrap64 ((l0.length : Int) + (l1.length : Int))) > 2048
               ·rw [if_pos c177] at H
                have c177b0 : decide (2048 < (wrap64 ((l0.length : Int) + (l1.length : Int)))) = true := decide_eq_true c177
                clear c177
                replace H := bS H
                obtain ⟨t474, A178, H⟩ := H
                try dsimp only at H
                obtain rfl := Option.some.inj H
                go_wp2_with (first | (go_at_call 16; (with_reducible refine (quoinlaw02_awake.calls A178.out).mono ?_); rintro e w179 ⟨rfl, hb⟩; have n0_ := Aside0.mk (Kd.V_below Z6 hb); have n1_ := Aside0.mk (Kd.V_below Z5 hb); have n2_ := Aside0.mk (Kd.R_below (kK HO_15) hb); have n3_ := Aside0.mk (below_step zB hb); clear HO_0; clear HO_1; clear HO_15; clear HB; have HO_0 := n0_; have HO_1 := n1_; have HO_15 := n2_; have HB := n3_; clear n0_ n1_ n2_ n3_; (try clear hb); (try clear hb2); (try clear hk); (try clear hi)))
                go_ret
                exact ⟨Z4, Z0⟩
               ·rw [if_neg c177] at H
                have c177b0 : decide (2048 < (wrap64 ((l0.length : Int) + (l1.length : Int)))) = false := decide_eq_false c177
                clear c177
                obtain rfl := Option.some.inj H
                go_wp2
                go_ret
                exact ⟨Z4, Z0⟩
def quoinlaw02_RunesAlgebra.Pure : Prop := ∀ (l0 : List (S36)) (l1 : List (S36)) (a2 : Int), l0.length ≤ 9223372036854775807 → l0.length * 8 ≤ 140737488351232 → (∀ x ∈ l0, (Lit.int .i32 x.f0).wf = true ∧ (Lit.int .i32 x.f1).wf = true) → l1.length ≤ 9223372036854775807 → l1.length * 8 ≤ 140737488351232 → (∀ x ∈ l1, (Lit.int .i32 x.f0).wf = true ∧ (Lit.int .i32 x.f1).wf = true) → (Lit.int .i32 a2).wf = true → ∃ k, quoinlaw02_RunesAlgebra.f k l0 l1 a2 = some true
theorem quoinlaw02_RunesAlgebra.walk (P : quoinlaw02_RunesAlgebra.Pure) (A0 : Option Addr) (c0 : Nat) (l0 : List (S36)) (A1 : Option Addr) (c1 : Nat) (l1 : List (S36)) (a2 : Int) (w : World) (hr0 : Kd.C k36 w A0 l0.length l0) (hc0 : l0.length ≤ c0) (w0_0 : l0.length ≤ 9223372036854775807) (w0_1 : l0.length * 8 ≤ 140737488351232) (w0_2 : (∀ x ∈ l0, (Lit.int .i32 x.f0).wf = true ∧ (Lit.int .i32 x.f1).wf = true)) (hr1 : Kd.C k36 w A1 l1.length l1) (hc1 : l1.length ≤ c1) (w1_0 : l1.length ≤ 9223372036854775807) (w1_1 : l1.length * 8 ≤ 140737488351232) (w1_2 : (∀ x ∈ l1, (Lit.int .i32 x.f0).wf = true ∧ (Lit.int .i32 x.f1).wf = true)) (w2_0 : (Lit.int .i32 a2).wf = true) :
  Calls Tryd.prog 8 #[.slice A0 l0.length c0, .slice A1 l1.length c1, .int .i32 a2] w fun e w' => e = .returned (.bool true) ∧ Below w.heap.size w w' := by
 obtain ⟨k, h⟩ := P l0 l1 a2 w0_0 w0_1 w0_2 w1_0 w1_1 w1_2 w2_0
 refine (quoinlaw02_RunesAlgebra.calls k (fun k_ => k_ < w.heap.size) _ _ l0 (fun k_ => k_ < w.heap.size) _ _ l1 a2 true w (Kd.V_mk hc0 (Kd.C_F k36_heap hr0)) (Kd.V_mk hc1 (Kd.C_F k36_heap hr1)) h).mono ?_
 rintro e w' ⟨rfl, hd⟩
 exact ⟨rfl, hd⟩
end Go.Proofs.YtfnkboilepgmoaaDoor.R
