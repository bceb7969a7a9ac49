import Derived.Test.YtfnkboilepgmoaaDoorUPre
import Derived.Test.YtfnkboilepgmoaaDoorUabx1
namespace Go.Proofs.YtfnkboilepgmoaaDoor.R
open Go.RowKit Go.Proofs.YtfnkboilepgmoaaDoorW.PrintWords Go.Proofs.YtfnkboilepgmoaaDoorW.PrintLast Go.Proofs.YtfnkboilepgmoaaDoorW.PrintMore
attribute [local go_sem] max2_int min2_int max_two min_two max_three min_three max_four min_four
set_option linter.unusedVariables false
set_option linter.unusedSimpArgs false
def quoinlaw02_awake.f (k : Nat)  : Option (Bool) := (runes_Of.f k (([(⟨98, 99⟩ : S36), (⟨97, 97⟩ : S36)] : List (S36)))).bind fun bt244 => ((runes_Text.f k bt244.1).bind fun bt248 => (if bt244.2 = 0 then (if bt248.2 = 0 then (if bt248.1.toList = ([91, 97, 45, 99, 93] : List UInt8) then ((runes_Has.f k bt244.1 98).bind fun t250 => (if t250 = true then ((runes_Has.f k bt244.1 100).bind fun t251 => (some (!t251))) else (some false))) else (some false)) else (some false)) else (some false)))
theorem quoinlaw02_awake.mono : ∀ k, LeO (quoinlaw02_awake.f k ) (quoinlaw02_awake.f (k + 1) ) := by
 intro  k
 unfold quoinlaw02_awake.f
 have m0 := @runes_Has.mono
 have m1 := @runes_Of.mono
 have m2 := @runes_Text.mono
 exact mO
set_option maxHeartbeats 8000000 in
set_option maxRecDepth 100000 in
theorem quoinlaw02_awake.calls {k : Nat} {r : Bool} {w : World} (h : quoinlaw02_awake.f k  = some r) :
  Calls Tryd.prog 16 #[] w fun e w' => e = .returned (.bool r) ∧ Below w.heap.size w w' := by
 have hu36 := Tryd.underlying36
 have HB := Aside0.mk (Below.refl w.heap.size w)
 have H : ((runes_Of.f k (([(⟨98, 99⟩ : S36), (⟨97, 97⟩ : S36)] : List (S36)))).bind fun bt244 => ((runes_Text.f k bt244.1).bind fun bt248 => (if bt244.2 = 0 then (if bt248.2 = 0 then (if bt248.1.toList = ([91, 97, 45, 99, 93] : List UInt8) then ((runes_Has.f k bt244.1 98).bind fun t250 => (if t250 = true then ((runes_Has.f k bt244.1 100).bind fun t251 => (some (!t251))) else (some false))) else (some false)) else (some false)) else (some false)))) = some r := h
 clear h
 obtain ⟨y241, hy241⟩ : ∃ y_ : List (S36), y_ = (([(⟨98, 99⟩ : S36), (⟨97, 97⟩ : S36)] : List (S36))) := ⟨_, rfl⟩
 replace H : ((runes_Of.f k y241).bind fun bt244 => ((runes_Text.f k bt244.1).bind fun bt248 => (if bt244.2 = 0 then (if bt248.2 = 0 then (if bt248.1.toList = ([91, 97, 45, 99, 93] : List UInt8) then ((runes_Has.f k bt244.1 98).bind fun t250 => (if t250 = true then ((runes_Has.f k bt244.1 100).bind fun t251 => (some (!t251))) else (some false))) else (some false)) else (some false)) else (some false)))) = some r := by first | (rw [hy241]; with_reducible exact H) | (have H2_ := (Option.bind_some _ _).symm.trans H; rw [hy241]; with_reducible exact H2_) | (have H2_ := (Option.bind_some _ _).symm.trans H; with_reducible exact H2_) | with_reducible exact H | (rw [hy241]; exact H) | exact H
 have Ny241 := Aside0.mk hy241
 clear hy241
 replace H := bS H
 obtain ⟨⟨t244, t245⟩, A1, H⟩ := H
 try dsimp only at H
 replace H := bS H
 obtain ⟨⟨t248, t249⟩, A2, H⟩ := H
 try dsimp only at H
 by_cases c3 : t245 = 0
 ·rw [if_pos c3] at H
  have c3b0 := e1 c3
  have c3b1 := e2 c3
  clear c3
  by_cases c4 : t249 = 0
  ·rw [if_pos c4] at H
   have c4b0 := e1 c4
   have c4b1 := e2 c4
   clear c4
   by_cases c5 : t248.toList = ([91, 97, 45, 99, 93] : List UInt8)
   ·rw [if_pos c5] at H
    have c5b0 := e1 c5
    have c5b1 := e2 c5
    clear c5
    replace H := bS H
    obtain ⟨t250, A6, H⟩ := H
    try dsimp only at H
    by_cases c7 : t250 = true
    ·subst c7
     have H1 : ((runes_Has.f k t244 100).bind fun t251 => (some (!t251))) = some r := by rw [if_pos rfl] at H; exact H
     clear H
     have H := H1
     clear H1
     replace H := bS H
     obtain ⟨t251, A8, H⟩ := H
     try dsimp only at H
     obtain rfl := Option.some.inj H
     go_enter Tryd.func16, Tryd.ntmps16
     go_wp2_with (first | ((with_reducible refine gate_dst (N := 8) rfl ?_); refine Kd.R_lit k36 _ 36 ?hg (N := 8) ?hd (xs := ([(⟨98, 99⟩ : S36), (⟨97, 97⟩ : S36)] : List (S36))) (inner := [.int .i32 98, .int .i32 99, .int .i32 97, .int .i32 97]) (ok := fun _ => True) (okp := fun _ => True) ?hr ?hp (fun _ hk => hk) trivial (Below.refl _ _) (Nat.le_refl _) Z19 ?_; (case hd => rfl); (case hg => rfl); (case hr => first | (go_simp; done) | (go_simp; rfl)); (case hp => exact (Reps.c2 (show Kd.M k36 _ _ _ (⟨98, 99⟩ : S36) [.int .i32 98, .int .i32 99] from (k36_mkM _ _ _ (⟨98, 99⟩ : S36) )) (Reps.c2 (show Kd.M k36 _ _ _ (⟨97, 97⟩ : S36) [.int .i32 97, .int .i32 97] from (k36_mkM _ _ _ (⟨97, 97⟩ : S36) )) (Reps.none _ _)))); intro v242 w9 ho10 hb hg_ hnew_; clear hg_ hnew_; (first | rw [← Ny241.out] at ho10 | (simp only [Int.reduceToNat] at ho10; rw [← Ny241.out] at ho10)); have HO243 := Aside0.mk (Kd.R_lower ho10 (below_size zB)); replace HB := Aside0.mk (below_step zB hb); clear hb ho10; obtain ⟨Ao11, co11, eo11⟩ := Kd.R_slice HO243.out; subst eo11) | ((with_reducible refine gC 13 rfl ?_); refine goesL_ (some 9) rfl rfl Tryd.func13 Z5 rfl #[.slice Ao11 y241.length co11] rfl Z3 ?_; (with_reducible refine (runes_Of.calls k _ _ y241 t244 t245 _ ?side1 ?side2 A1.out).mono ?_); (case side1 => repeat (first | exact (Kd.R_reads' HO243.out).2.2 | (with_reducible refine Kd.C_alloc ?_ _) | (with_reducible refine Kd.C_drewN ?_ _) | (with_reducible refine Kd.C_drew ?_))); (case side2 => exact (Kd.R_reads' HO243.out).2.1); rintro e w12 ⟨v246, rfl, ho0, hb⟩; refine ⟨_, rfl, ?_⟩; have HO247 := Aside0.mk (Kd.R_lower (Kd.R_new' ho0 (Kd.R_lt (kK HO243))) (below_size zB)); replace HO243 := Aside0.mk (Kd.R_elder' (kK HO243) (Kd.R_base ho0) hb); replace HB := Aside0.mk (below_step zB hb); (try clear hb); (try clear hb2); (try clear hk); (try clear hi); (try clear ho0); obtain ⟨Ao13, co13, eo13⟩ := Kd.R_slice HO247.out; subst eo13) | ((with_reducible refine gC 34 rfl ?_); refine goesL_ (some 14) rfl rfl Tryd.func34 Z5 rfl #[.slice Ao13 t244.length co13] rfl Z3 ?_; (with_reducible refine (runes_Text.calls k _ _ t244 t248 t249 _ ?side1 ?side2 A2.out).mono ?_); (case side1 => repeat (first | exact (Kd.R_reads' HO247.out).2.2 | (with_reducible refine Kd.C_alloc ?_ _) | (with_reducible refine Kd.C_drewN ?_ _) | (with_reducible refine Kd.C_drew ?_))); (case side2 => exact (Kd.R_reads' HO247.out).2.1); rintro e w14 ⟨rfl, hb⟩; refine ⟨_, rfl, ?_⟩; replace HO243 := Aside0.mk (Kd.R_below (kK HO243) hb); replace HO247 := Aside0.mk (Kd.R_below (kK HO247) hb); replace HB := Aside0.mk (below_step zB hb); (try clear hb); (try clear hb2); (try clear hk); (try clear hi)) | (go_at_call 33; (with_reducible refine (runes_Has.calls k _ _ t244 98 true _ ?side1 ?side2 A6.out).mono ?_); (case side1 => repeat (first | exact (Kd.R_reads' HO247.out).2.2 | (with_reducible refine Kd.C_alloc ?_ _) | (with_reducible refine Kd.C_drewN ?_ _) | (with_reducible refine Kd.C_drew ?_))); (case side2 => exact (Kd.R_reads' HO247.out).2.1); rintro e w15 ⟨rfl, hb⟩; replace HO243 := Aside0.mk (Kd.R_below (kK HO243) hb); replace HO247 := Aside0.mk (Kd.R_below (kK HO247) hb); replace HB := Aside0.mk (below_step zB hb); (try clear hb); (try clear hb2); (try clear hk); (try clear hi)) | (go_at_call 33; (with_reducible refine (runes_Has.calls k _ _ t244 100 t251 _ ?side1 ?side2 A8.out).mono ?_); (case side1 => repeat (first | exact (Kd.R_reads' HO247.out).2.2 | (with_reducible refine Kd.C_alloc ?_ _) | (with_reducible refine Kd.C_drewN ?_ _) | (with_reducible refine Kd.C_drew ?_))); (case side2 => exact (Kd.R_reads' HO247.out).2.1); rintro e w16 ⟨rfl, hb⟩; replace HO243 := Aside0.mk (Kd.R_below (kK HO243) hb); replace HO247 := Aside0.mk (Kd.R_below (kK HO247) hb); replace HB := Aside0.mk (below_step zB hb); (try clear hb); (try clear hb2); (try clear hk); (try clear hi)))
     go_ret
     exact ⟨Z4, Z0⟩
    ·replace c7 := Bool.eq_false_iff.mpr c7
     subst c7
     have H1 : (some false) = some r := by rw [if_neg (show ¬ (false = true) by decide)] at H; exact H
     clear H
     have H := H1
     clear H1
     obtain rfl := Option.some.inj H
     go_enter Tryd.func16, Tryd.ntmps16
     go_wp2_with (first | ((with_reducible refine gate_dst (N := 8) rfl ?_); refine Kd.R_lit k36 _ 36 ?hg (N := 8) ?hd (xs := ([(⟨98, 99⟩ : S36), (⟨97, 97⟩ : S36)] : List (S36))) (inner := [.int .i32 98, .int .i32 99, .int .i32 97, .int .i32 97]) (ok := fun _ => True) (okp := fun _ => True) ?hr ?hp (fun _ hk => hk) trivial (Below.refl _ _) (Nat.le_refl _) Z19 ?_; (case hd => rfl); (case hg => rfl); (case hr => first | (go_simp; done) | (go_simp; rfl)); (case hp => exact (Reps.c2 (show Kd.M k36 _ _ _ (⟨98, 99⟩ : S36) [.int .i32 98, .int .i32 99] from (k36_mkM _ _ _ (⟨98, 99⟩ : S36) )) (Reps.c2 (show Kd.M k36 _ _ _ (⟨97, 97⟩ : S36) [.int .i32 97, .int .i32 97] from (k36_mkM _ _ _ (⟨97, 97⟩ : S36) )) (Reps.none _ _)))); intro v242 w17 ho18 hb hg_ hnew_; clear hg_ hnew_; (first | rw [← Ny241.out] at ho18 | (simp only [Int.reduceToNat] at ho18; rw [← Ny241.out] at ho18)); have HO243 := Aside0.mk (Kd.R_lower ho18 (below_size zB)); replace HB := Aside0.mk (below_step zB hb); clear hb ho18; obtain ⟨Ao19, co19, eo19⟩ := Kd.R_slice HO243.out; subst eo19) | ((with_reducible refine gC 13 rfl ?_); refine goesL_ (some 9) rfl rfl Tryd.func13 Z5 rfl #[.slice Ao19 y241.length co19] rfl Z3 ?_; (with_reducible refine (runes_Of.calls k _ _ y241 t244 t245 _ ?side1 ?side2 A1.out).mono ?_); (case side1 => repeat (first | exact (Kd.R_reads' HO243.out).2.2 | (with_reducible refine Kd.C_alloc ?_ _) | (with_reducible refine Kd.C_drewN ?_ _) | (with_reducible refine Kd.C_drew ?_))); (case side2 => exact (Kd.R_reads' HO243.out).2.1); rintro e w20 ⟨v246, rfl, ho0, hb⟩; refine ⟨_, rfl, ?_⟩; have HO247 := Aside0.mk (Kd.R_lower (Kd.R_new' ho0 (Kd.R_lt (kK HO243))) (below_size zB)); replace HO243 := Aside0.mk (Kd.R_elder' (kK HO243) (Kd.R_base ho0) hb); replace HB := Aside0.mk (below_step zB hb); (try clear hb); (try clear hb2); (try clear hk); (try clear hi); (try clear ho0); obtain ⟨Ao21, co21, eo21⟩ := Kd.R_slice HO247.out; subst eo21) | ((with_reducible refine gC 34 rfl ?_); refine goesL_ (some 14) rfl rfl Tryd.func34 Z5 rfl #[.slice Ao21 t244.length co21] rfl Z3 ?_; (with_reducible refine (runes_Text.calls k _ _ t244 t248 t249 _ ?side1 ?side2 A2.out).mono ?_); (case side1 => repeat (first | exact (Kd.R_reads' HO247.out).2.2 | (with_reducible refine Kd.C_alloc ?_ _) | (with_reducible refine Kd.C_drewN ?_ _) | (with_reducible refine Kd.C_drew ?_))); (case side2 => exact (Kd.R_reads' HO247.out).2.1); rintro e w22 ⟨rfl, hb⟩; refine ⟨_, rfl, ?_⟩; replace HO243 := Aside0.mk (Kd.R_below (kK HO243) hb); replace HO247 := Aside0.mk (Kd.R_below (kK HO247) hb); replace HB := Aside0.mk (below_step zB hb); (try clear hb); (try clear hb2); (try clear hk); (try clear hi)) | (go_at_call 33; (with_reducible refine (runes_Has.calls k _ _ t244 98 false _ ?side1 ?side2 A6.out).mono ?_); (case side1 => repeat (first | exact (Kd.R_reads' HO247.out).2.2 | (with_reducible refine Kd.C_alloc ?_ _) | (with_reducible refine Kd.C_drewN ?_ _) | (with_reducible refine Kd.C_drew ?_))); (case side2 => exact (Kd.R_reads' HO247.out).2.1); rintro e w23 ⟨rfl, hb⟩; replace HO243 := Aside0.mk (Kd.R_below (kK HO243) hb); replace HO247 := Aside0.mk (Kd.R_below (kK HO247) hb); replace HB := Aside0.mk (below_step zB hb); (try clear hb); (try clear hb2); (try clear hk); (try clear hi)))
     go_ret
     exact ⟨Z4, Z0⟩
   ·rw [if_neg c5] at H
    have c5b0 := e3 c5
    have c5b1 := e4 c5
    obtain rfl := Option.some.inj H
    go_enter Tryd.func16, Tryd.ntmps16
    go_wp2_with (first | ((with_reducible refine gate_dst (N := 8) rfl ?_); refine Kd.R_lit k36 _ 36 ?hg (N := 8) ?hd (xs := ([(⟨98, 99⟩ : S36), (⟨97, 97⟩ : S36)] : List (S36))) (inner := [.int .i32 98, .int .i32 99, .int .i32 97, .int .i32 97]) (ok := fun _ => True) (okp := fun _ => True) ?hr ?hp (fun _ hk => hk) trivial (Below.refl _ _) (Nat.le_refl _) Z19 ?_; (case hd => rfl); (case hg => rfl); (case hr => first | (go_simp; done) | (go_simp; rfl)); (case hp => exact (Reps.c2 (show Kd.M k36 _ _ _ (⟨98, 99⟩ : S36) [.int .i32 98, .int .i32 99] from (k36_mkM _ _ _ (⟨98, 99⟩ : S36) )) (Reps.c2 (show Kd.M k36 _ _ _ (⟨97, 97⟩ : S36) [.int .i32 97, .int .i32 97] from (k36_mkM _ _ _ (⟨97, 97⟩ : S36) )) (Reps.none _ _)))); intro v242 w24 ho25 hb hg_ hnew_; clear hg_ hnew_; (first | rw [← Ny241.out] at ho25 | (simp only [Int.reduceToNat] at ho25; rw [← Ny241.out] at ho25)); have HO243 := Aside0.mk (Kd.R_lower ho25 (below_size zB)); replace HB := Aside0.mk (below_step zB hb); clear hb ho25; obtain ⟨Ao26, co26, eo26⟩ := Kd.R_slice HO243.out; subst eo26) | ((with_reducible refine gC 13 rfl ?_); refine goesL_ (some 9) rfl rfl Tryd.func13 Z5 rfl #[.slice Ao26 y241.length co26] rfl Z3 ?_; (with_reducible refine (runes_Of.calls k _ _ y241 t244 t245 _ ?side1 ?side2 A1.out).mono ?_); (case side1 => repeat (first | exact (Kd.R_reads' HO243.out).2.2 | (with_reducible refine Kd.C_alloc ?_ _) | (with_reducible refine Kd.C_drewN ?_ _) | (with_reducible refine Kd.C_drew ?_))); (case side2 => exact (Kd.R_reads' HO243.out).2.1); rintro e w27 ⟨v246, rfl, ho0, hb⟩; refine ⟨_, rfl, ?_⟩; have HO247 := Aside0.mk (Kd.R_lower (Kd.R_new' ho0 (Kd.R_lt (kK HO243))) (below_size zB)); replace HO243 := Aside0.mk (Kd.R_elder' (kK HO243) (Kd.R_base ho0) hb); replace HB := Aside0.mk (below_step zB hb); (try clear hb); (try clear hb2); (try clear hk); (try clear hi); (try clear ho0); obtain ⟨Ao28, co28, eo28⟩ := Kd.R_slice HO247.out; subst eo28) | ((with_reducible refine gC 34 rfl ?_); refine goesL_ (some 14) rfl rfl Tryd.func34 Z5 rfl #[.slice Ao28 t244.length co28] rfl Z3 ?_; (with_reducible refine (runes_Text.calls k _ _ t244 t248 t249 _ ?side1 ?side2 A2.out).mono ?_); (case side1 => repeat (first | exact (Kd.R_reads' HO247.out).2.2 | (with_reducible refine Kd.C_alloc ?_ _) | (with_reducible refine Kd.C_drewN ?_ _) | (with_reducible refine Kd.C_drew ?_))); (case side2 => exact (Kd.R_reads' HO247.out).2.1); rintro e w29 ⟨rfl, hb⟩; refine ⟨_, rfl, ?_⟩; replace HO243 := Aside0.mk (Kd.R_below (kK HO243) hb); replace HO247 := Aside0.mk (Kd.R_below (kK HO247) hb); replace HB := Aside0.mk (below_step zB hb); (try clear hb); (try clear hb2); (try clear hk); (try clear hi)))
    go_ret
    exact ⟨Z4, Z0⟩
  ·rw [if_neg c4] at H
   have c4b0 := e3 c4
   have c4b1 := e4 c4
   obtain rfl := Option.some.inj H
   go_enter Tryd.func16, Tryd.ntmps16
   go_wp2_with (first | ((with_reducible refine gate_dst (N := 8) rfl ?_); refine Kd.R_lit k36 _ 36 ?hg (N := 8) ?hd (xs := ([(⟨98, 99⟩ : S36), (⟨97, 97⟩ : S36)] : List (S36))) (inner := [.int .i32 98, .int .i32 99, .int .i32 97, .int .i32 97]) (ok := fun _ => True) (okp := fun _ => True) ?hr ?hp (fun _ hk => hk) trivial (Below.refl _ _) (Nat.le_refl _) Z19 ?_; (case hd => rfl); (case hg => rfl); (case hr => first | (go_simp; done) | (go_simp; rfl)); (case hp => exact (Reps.c2 (show Kd.M k36 _ _ _ (⟨98, 99⟩ : S36) [.int .i32 98, .int .i32 99] from (k36_mkM _ _ _ (⟨98, 99⟩ : S36) )) (Reps.c2 (show Kd.M k36 _ _ _ (⟨97, 97⟩ : S36) [.int .i32 97, .int .i32 97] from (k36_mkM _ _ _ (⟨97, 97⟩ : S36) )) (Reps.none _ _)))); intro v242 w30 ho31 hb hg_ hnew_; clear hg_ hnew_; (first | rw [← Ny241.out] at ho31 | (simp only [Int.reduceToNat] at ho31; rw [← Ny241.out] at ho31)); have HO243 := Aside0.mk (Kd.R_lower ho31 (below_size zB)); replace HB := Aside0.mk (below_step zB hb); clear hb ho31; obtain ⟨Ao32, co32, eo32⟩ := Kd.R_slice HO243.out; subst eo32) | ((with_reducible refine gC 13 rfl ?_); refine goesL_ (some 9) rfl rfl Tryd.func13 Z5 rfl #[.slice Ao32 y241.length co32] rfl Z3 ?_; (with_reducible refine (runes_Of.calls k _ _ y241 t244 t245 _ ?side1 ?side2 A1.out).mono ?_); (case side1 => repeat (first | exact (Kd.R_reads' HO243.out).2.2 | (with_reducible refine Kd.C_alloc ?_ _) | (with_reducible refine Kd.C_drewN ?_ _) | (with_reducible refine Kd.C_drew ?_))); (case side2 => exact (Kd.R_reads' HO243.out).2.1); rintro e w33 ⟨v246, rfl, ho0, hb⟩; refine ⟨_, rfl, ?_⟩; have HO247 := Aside0.mk (Kd.R_lower (Kd.R_new' ho0 (Kd.R_lt (kK HO243))) (below_size zB)); replace HO243 := Aside0.mk (Kd.R_elder' (kK HO243) (Kd.R_base ho0) hb); replace HB := Aside0.mk (below_step zB hb); (try clear hb); (try clear hb2); (try clear hk); (try clear hi); (try clear ho0); obtain ⟨Ao34, co34, eo34⟩ := Kd.R_slice HO247.out; subst eo34) | ((with_reducible refine gC 34 rfl ?_); refine goesL_ (some 14) rfl rfl Tryd.func34 Z5 rfl #[.slice Ao34 t244.length co34] rfl Z3 ?_; (with_reducible refine (runes_Text.calls k _ _ t244 t248 t249 _ ?side1 ?side2 A2.out).mono ?_); (case side1 => repeat (first | exact (Kd.R_reads' HO247.out).2.2 | (with_reducible refine Kd.C_alloc ?_ _) | (with_reducible refine Kd.C_drewN ?_ _) | (with_reducible refine Kd.C_drew ?_))); (case side2 => exact (Kd.R_reads' HO247.out).2.1); rintro e w35 ⟨rfl, hb⟩; refine ⟨_, rfl, ?_⟩; replace HO243 := Aside0.mk (Kd.R_below (kK HO243) hb); replace HO247 := Aside0.mk (Kd.R_below (kK HO247) hb); replace HB := Aside0.mk (below_step zB hb); (try clear hb); (try clear hb2); (try clear hk); (try clear hi)))
   go_ret
   exact ⟨Z4, Z0⟩
 ·rw [if_neg c3] at H
  have c3b0 := e3 c3
  have c3b1 := e4 c3
  obtain rfl := Option.some.inj H
  go_enter Tryd.func16, Tryd.ntmps16
  go_wp2_with (first | ((with_reducible refine gate_dst (N := 8) rfl ?_); refine Kd.R_lit k36 _ 36 ?hg (N := 8) ?hd (xs := ([(⟨98, 99⟩ : S36), (⟨97, 97⟩ : S36)] : List (S36))) (inner := [.int .i32 98, .int .i32 99, .int .i32 97, .int .i32 97]) (ok := fun _ => True) (okp := fun _ => True) ?hr ?hp (fun _ hk => hk) trivial (Below.refl _ _) (Nat.le_refl _) Z19 ?_; (case hd => rfl); (case hg => rfl); (case hr => first | (go_simp; done) | (go_simp; rfl)); (case hp => exact (Reps.c2 (show Kd.M k36 _ _ _ (⟨98, 99⟩ : S36) [.int .i32 98, .int .i32 99] from (k36_mkM _ _ _ (⟨98, 99⟩ : S36) )) (Reps.c2 (show Kd.M k36 _ _ _ (⟨97, 97⟩ : S36) [.int .i32 97, .int .i32 97] from (k36_mkM _ _ _ (⟨97, 97⟩ : S36) )) (Reps.none _ _)))); intro v242 w36 ho37 hb hg_ hnew_; clear hg_ hnew_; (first | rw [← Ny241.out] at ho37 | (simp only [Int.reduceToNat] at ho37; rw [← Ny241.out] at ho37)); have HO243 := Aside0.mk (Kd.R_lower ho37 (below_size zB)); replace HB := Aside0.mk (below_step zB hb); clear hb ho37; obtain ⟨Ao38, co38, eo38⟩ := Kd.R_slice HO243.out; subst eo38) | ((with_reducible refine gC 13 rfl ?_); refine goesL_ (some 9) rfl rfl Tryd.func13 Z5 rfl #[.slice Ao38 y241.length co38] rfl Z3 ?_; (with_reducible refine (runes_Of.calls k _ _ y241 t244 t245 _ ?side1 ?side2 A1.out).mono ?_); (case side1 => repeat (first | exact (Kd.R_reads' HO243.out).2.2 | (with_reducible refine Kd.C_alloc ?_ _) | (with_reducible refine Kd.C_drewN ?_ _) | (with_reducible refine Kd.C_drew ?_))); (case side2 => exact (Kd.R_reads' HO243.out).2.1); rintro e w39 ⟨v246, rfl, ho0, hb⟩; refine ⟨_, rfl, ?_⟩; have HO247 := Aside0.mk (Kd.R_lower (Kd.R_new' ho0 (Kd.R_lt (kK HO243))) (below_size zB)); replace HO243 := Aside0.mk (Kd.R_elder' (kK HO243) (Kd.R_base ho0) hb); replace HB := Aside0.mk (below_step zB hb); (try clear hb); (try clear hb2); (try clear hk); (try clear hi); (try clear ho0); obtain ⟨Ao40, co40, eo40⟩ := Kd.R_slice HO247.out; subst eo40) | ((with_reducible refine gC 34 rfl ?_); refine goesL_ (some 14) rfl rfl Tryd.func34 Z5 rfl #[.slice Ao40 t244.length co40] rfl Z3 ?_; (with_reducible refine (runes_Text.calls k _ _ t244 t248 t249 _ ?side1 ?side2 A2.out).mono ?_); (case side1 => repeat (first | exact (Kd.R_reads' HO247.out).2.2 | (with_reducible refine Kd.C_alloc ?_ _) | (with_reducible refine Kd.C_drewN ?_ _) | (with_reducible refine Kd.C_drew ?_))); (case side2 => exact (Kd.R_reads' HO247.out).2.1); rintro e w41 ⟨rfl, hb⟩; refine ⟨_, rfl, ?_⟩; replace HO243 := Aside0.mk (Kd.R_below (kK HO243) hb); replace HO247 := Aside0.mk (Kd.R_below (kK HO247) hb); replace HB := Aside0.mk (below_step zB hb); (try clear hb); (try clear hb2); (try clear hk); (try clear hi)))
  go_ret
  exact ⟨Z4, Z0⟩
def runes_checked.l0 : Nat → List (List (S36)) → Int → Int → Option (Int)
 | 0, _, _, _ => none
 | k + 1, x6, x7, x8 => if x8 < x7 then (if 0 ≤ x8 then (if x8 < (x6.length : Int) then ((runes_Check.f k (rd_L2 x6 x8)).bind fun t280 => (if t280 = 0 then (runes_checked.l0 k x6 x7 (wrap64 (x8 + 1))) else (some t280))) else (none)) else (none)) else (some 0)
def runes_checked.f (k : Nat) (l0 : List (List (S36))) : Option (Int) := runes_checked.l0 k l0 (l0.length : Int) 0
set_option maxHeartbeats 8000000 in
set_option maxRecDepth 100000 in
theorem runes_checked.calls (k : Nat) (A0 : Option Addr) (c0 : Nat) (l0 : List (List (S36))) (r : Int) (w : World) (hr0 : Kd.C (Kd.slice 36 k36) w A0 l0.length l0) (hc0 : l0.length ≤ c0) (h : runes_checked.f k l0 = some r) :
  Calls Tryd.prog 46 #[.slice A0 l0.length c0] w fun e w' => e = .returned (.int .i64 r) ∧ Below w.heap.size w w' := by
 have HR0 := Aside0.mk hr0
 have HC0 := Aside0.mk hc0
 clear hr0 hc0
 have HB := Aside0.mk (Below.refl w.heap.size w)
 have H : (runes_checked.l0 k l0 (l0.length : Int) 0) = some r := h
 clear h
 have H' := Aside0.mk H
 clear H
 go_enter Tryd.func46, Tryd.ntmps46
 go_wp2
 go_loopg [8] k (fun kq v8 w' => ∃ (x8_1 : Int), v8 = .int .i64 x8_1 ∧ Aside0 (runes_checked.l0 kq l0 (l0.length : Int) x8_1 = some r) ∧ Aside0 (kq ≤ k) ∧ Aside0 (Below w.heap.size w w'))
 case atStart => exact ⟨(0), Z2, H', ⟨Nat.le_refl _⟩, ⟨Z0⟩⟩
 case round =>
  clear H'
  obtain ⟨x8_1, rfl, HA, HK1, HB⟩ := hrel
  cases gk with
  | zero => exact absurd HA.out (by simp [runes_checked.l0])
  | succ k1 =>
   have H := HA.out
   clear HA
   simp only [runes_checked.l0] at H
   by_cases c2 : x8_1 < (l0.length : Int)
   ·rw [if_pos c2] at H
    have c2b0 := decide_eq_true c2
    clear c2
    by_cases c3 : 0 ≤ x8_1
    ·rw [if_pos c3] at H
     have c3b0 := decide_eq_true c3
     clear c3
     by_cases c4 : x8_1 < (l0.length : Int)
     ·rw [if_pos c4] at H
      have c4b0 := decide_eq_true c4
      clear c4
      replace H := bS H
      obtain ⟨t280, A5, H⟩ := H
      try dsimp only at H
      by_cases c6 : t280 = 0
      ·rw [if_pos c6] at H
       have c6b0 := e1 c6
       have c6b1 := e2 c6
       clear c6
       have H' := Aside0.mk H
       clear H
       have p279 : 0 ≤ (x8_1 : Int) := of_decide_eq_true Z1
       have q279 : x8_1 < (l0.length : Int) := of_decide_eq_true Z1
       obtain ⟨ad279, A279_0, c279_0, e279, hx279_0, hl279_0, hi279_0⟩ := at_L2 HR0.out x8_1 p279 q279
       cases e279
       replace hx279_0 := (HB.out.cell (World.block_lt_of_cell? w _ hx279_0)).trans hx279_0
       have HR279_0 := Aside0.mk hi279_0
       have HC279_0 := Aside0.mk hl279_0
       clear hi279_0 hl279_0
       replace p279 := eq_true p279
       replace q279 := eq_true q279
       go_wp2_with (first | ((with_reducible refine gC 17 rfl ?_); refine goesL_ (some 13) rfl rfl Tryd.func17 Z5 rfl #[.slice A279_0 (rd_L2 l0 x8_1).length c279_0] rfl Z3 ?_; (with_reducible refine (runes_Check.calls k1 _ _ (rd_L2 l0 x8_1) t280 _ ?side1 ?side2 A5.out).mono ?_); (case side1 => repeat (first | exact (Kd.C_below HR279_0.out HB.out) | (with_reducible refine Kd.C_alloc ?_ _) | (with_reducible refine Kd.C_drewN ?_ _) | (with_reducible refine Kd.C_drew ?_))); (case side2 => exact HC279_0.out); rintro e w7 ⟨rfl, hb⟩; refine ⟨_, rfl, ?_⟩; replace HB := Aside0.mk (below_step zB hb); (try clear hb); (try clear hb2); (try clear hk); (try clear hi)))
       go_roundg k1
       case measure => have := HK1.out; omega
       case rel => exact ⟨(wrap64 (x8_1 + 1)), Z2, H', ⟨Z18⟩, ⟨Z0⟩⟩
      ·rw [if_neg c6] at H
       have c6b0 := e3 c6
       have c6b1 := e4 c6
       obtain rfl := Option.some.inj H
       have p279 : 0 ≤ (x8_1 : Int) := of_decide_eq_true Z1
       have q279 : x8_1 < (l0.length : Int) := of_decide_eq_true Z1
       obtain ⟨ad279, A279_0, c279_0, e279, hx279_0, hl279_0, hi279_0⟩ := at_L2 HR0.out x8_1 p279 q279
       cases e279
       replace hx279_0 := (HB.out.cell (World.block_lt_of_cell? w _ hx279_0)).trans hx279_0
       have HR279_0 := Aside0.mk hi279_0
       have HC279_0 := Aside0.mk hl279_0
       clear hi279_0 hl279_0
       replace p279 := eq_true p279
       replace q279 := eq_true q279
       go_wp2_with (first | ((with_reducible refine gC 17 rfl ?_); refine goesL_ (some 13) rfl rfl Tryd.func17 Z5 rfl #[.slice A279_0 (rd_L2 l0 x8_1).length c279_0] rfl Z3 ?_; (with_reducible refine (runes_Check.calls k1 _ _ (rd_L2 l0 x8_1) t280 _ ?side1 ?side2 A5.out).mono ?_); (case side1 => repeat (first | exact (Kd.C_below HR279_0.out HB.out) | (with_reducible refine Kd.C_alloc ?_ _) | (with_reducible refine Kd.C_drewN ?_ _) | (with_reducible refine Kd.C_drew ?_))); (case side2 => exact HC279_0.out); rintro e w8 ⟨rfl, hb⟩; refine ⟨_, rfl, ?_⟩; replace HB := Aside0.mk (below_step zB hb); (try clear hb); (try clear hb2); (try clear hk); (try clear hi)))
       go_ret
       exact ⟨Z4, Z0⟩
     ·rw [if_neg c4] at H
      exact absurd H Z19
    ·rw [if_neg c3] at H
     exact absurd H Z19
   ·rw [if_neg c2] at H
    have c2b0 := decide_eq_false c2
    clear c2
    obtain rfl := Option.some.inj H
    go_wp2
    go_ret
    exact ⟨Z4, Z0⟩
def sortI (l : List Int) : List Int := l.mergeSort (fun x y => !Srt.lt y x)
theorem sortI.len (l : List Int) : (sortI l).length = l.length := (List.mergeSort_perm l _).length_eq
def slices_Sort_rune_rune.f (l0 : List Int) : Option (List Int) := if 0 < l0.length ∧ l0.length < 2305843009213693952 then some (sortI l0) else none
theorem rowI.open {w : World} {base : Nat} {ok : Nat → Prop} {v : Value} {xs : List Int} (h : Kd.R (Kd.int .i32) 21 w base ok v xs) (hx : 0 < xs.length) : ∃ (g cap : Nat) (cur : Array Value), v = .slice (some ⟨g, 0, none⟩) xs.length cap ∧ base ≤ g ∧ w.heap[g]? = some (.cells cur 21 (0, 0)) ∧ xs.length ≤ cap ∧ cap ≤ maxLen ∧ cur.size = cap ∧ ∀ (j : Nat) (p : Int), xs[j]? = some p → cur[j]? = some (Value.int .i32 p) := by
 obtain ⟨h0, inner, ho, hr⟩ := h
 rcases ho.2 with ⟨rfl, hn⟩ | ⟨g, cap, cur, rfl, hg, hh, hc, hm, hs, ht⟩
 ·omega
 ·refine ⟨g, cap, cur, rfl, hg, hh, hc, hm, by rw [hs]; exact Nat.mul_one cap, fun j p hj => ?_⟩
  have hjl : j < xs.length := (List.getElem?_eq_some_iff.1 hj).1
  have h1 := hr.2 j p hj
  have h2 : (inner.drop (j * 1)).take 1 = [.int .i32 p] := h1
  have h3 := congrArg (fun l : List Value => l[0]?) h2
  simp only [List.getElem?_take, List.getElem?_drop] at h3
  rw [← ht, List.getElem?_take] at h3
  simp only [Nat.mul_one, Nat.add_zero] at h3
  have h4 : (0 : Nat) < 1 := by decide
  rw [if_pos h4, if_pos (show j < xs.length * (Kd.int .i32).sz by show j < xs.length * 1; omega), Array.getElem?_toList] at h3
  exact h3
theorem rowI.shut {w : World} {base : Nat} {ok : Nat → Prop} {xs : List Int} {g cap : Nat} {cur : Array Value} (h0 : ok g) (hg : base ≤ g) (hh : w.heap[g]? = some (.cells cur 21 (0, 0))) (hc : xs.length ≤ cap) (hm : cap ≤ maxLen) (hs : cur.size = cap) (hx : ∀ (j : Nat) (p : Int), xs[j]? = some p → cur[j]? = some (Value.int .i32 p)) : Kd.R (Kd.int .i32) 21 w base ok (.slice (some ⟨g, 0, none⟩) xs.length cap) xs := by
 refine ⟨fun k hk => by simp [Value.ownBlock] at hk; rw [← hk]; exact h0, cur.toList.take (xs.length * 1), ⟨by rw [List.length_take, Array.length_toList]; show min (xs.length * 1) cur.size = xs.length * 1; omega, .inr ⟨g, cap, cur, rfl, hg, hh, hc, hm, by rw [hs]; exact (Nat.mul_one cap).symm, rfl⟩⟩, ⟨by rw [List.length_take, Array.length_toList]; show min (xs.length * 1) cur.size = xs.length * 1; omega, fun j p hj => ?_⟩⟩
 have hjl : j < xs.length := (List.getElem?_eq_some_iff.1 hj).1
 have h1 := hx j p hj
 show ((cur.toList.take (xs.length * 1)).drop (j * 1)).take 1 = [.int .i32 p]
 have hj2 : j < (cur.toList.take (xs.length * 1)).length := by rw [List.length_take, show cur.toList.length = cur.size from rfl]; omega
 rw [Nat.mul_one j, List.drop_eq_getElem_cons hj2, List.take_succ_cons, List.take_zero]
 congr 1
 have h2 : (cur.toList.take (xs.length * 1))[j]? = some (.int .i32 p) := by rw [List.getElem?_take, if_pos Z20, Array.getElem?_toList]; exact h1
 rw [List.getElem?_eq_getElem hj2] at h2
 exact Option.some.inj h2
theorem rowI.holds {w : World} {g : Nat} {cur : Array Value} {xs : List Int} (hh : w.heap[g]? = some (.cells cur 21 (0, 0))) (hx : ∀ (j : Nat) (p : Int), xs[j]? = some p → cur[j]? = some (Value.int .i32 p)) : Go.Sort.Holds Srt.enc w g 0 xs.toArray := by
 intro j hj
 have hj' : j < xs.length := by simpa using hj
 rw [Nat.zero_add, blk_cell hh, blk_frozen hh]
 refine ⟨?_, rfl⟩
 rw [hx j xs[j] (List.getElem?_eq_getElem hj')]
 rw [getElem!_pos xs.toArray j hj]
 rfl
theorem rowI.put {w : World} {g n : Nat} {os : Array Obj} {cur : Array Value} {d : Array Int} (hh : w.heap[g]? = some (.cells cur 21 (0, 0))) : (Go.Sort.grow (Go.Sort.putRow Srt.enc (Go.Sort.ahead w n) g 0 d) os).heap[g]? = some (.cells (Go.Sort.putCells Srt.enc 0 d cur) 21 (0, 0)) := by
 have hlt : g < w.heap.size := blk_lt hh
 show ((w.heap.modify g _) ++ os)[g]? = _
 rw [Array.getElem?_append_left (by rw [Array.size_modify]; exact hlt), Array.getElem?_modify, if_pos rfl, hh]
 rfl
theorem rowI.got {cur : Array Value} {d : Array Int} (hs : d.size ≤ cur.size) (j : Nat) (p : Int) (hj : d.toList[j]? = some p) : (Go.Sort.putCells Srt.enc 0 d cur)[j]? = some (.int .i32 p) := by
 have hjl : j < d.size := by simpa using (List.getElem?_eq_some_iff.1 hj).1
 unfold Go.Sort.putCells
 rw [Array.getElem?_mapIdx, Array.getElem?_eq_getElem (show j < cur.size by omega), Option.map_some, if_pos ⟨Nat.zero_le _, Z20⟩]
 rw [Array.getElem?_toList, Array.getElem?_eq_getElem hjl] at hj
 have e : d[j - 0]! = p := by rw [Nat.sub_zero, getElem!_pos d j hjl]; exact Option.some.inj hj
 rw [e]
theorem rowI.below {w0 w : World} {g n : Nat} {os : Array Obj} {d : Array Int} (hB : Below w0.heap.size w0 w) (hg : w0.heap.size ≤ g) : Below w0.heap.size w0 (Go.Sort.grow (Go.Sort.putRow Srt.enc (Go.Sort.ahead w n) g 0 d) os) := by
 refine hB.trans ⟨rfl, rfl, rfl, ?_, ?_⟩
 ·show w.heap.size ≤ ((w.heap.modify g _) ++ os).size
  rw [Array.size_append, Array.size_modify]; omega
 ·intro k hk
  show ((w.heap.modify g _) ++ os)[k]? = _
  have : k < w.heap.size := Nat.lt_of_lt_of_le hk hB.size
  rw [Array.getElem?_append_left (by rw [Array.size_modify]; exact this), Array.getElem?_modify, if_neg Z20]
theorem rowI.kept {w : World} {g n : Nat} {os : Array Obj} {d : Array Int} {P : Nat → Prop} (hP : P g) : Kept w (Go.Sort.grow (Go.Sort.putRow Srt.enc (Go.Sort.ahead w n) g 0 d) os) P := by
 refine ⟨?_, fun i hi hn => ?_⟩
 ·show w.heap.size ≤ ((w.heap.modify g _) ++ os).size
  rw [Array.size_append, Array.size_modify]; omega
 ·show ((w.heap.modify g _) ++ os)[i]? = _
  rw [Array.getElem?_append_left (by rw [Array.size_modify]; exact hi), Array.getElem?_modify, if_neg (show ¬ g = i from fun e => hn (by rw [← e]; exact hP))]
theorem sortI.eq (xs : List Int) (R : Array Int) (h1 : Go.Sort.PermIn 0 xs.toArray.size xs.toArray R) (h2 : Go.Sort.SortedIn Srt.lt 0 xs.toArray.size R) : R.toList = sortI xs := by
 have := Go.Sort.sorted_unique_holds (lt := Srt.lt) Srt.swo (fun x y a b => by simp at a b; omega) xs.toArray R h1 h2
 simpa [sortI] using this
theorem slices_Sort_rune_rune.calls (P0_ : Nat → Prop) (u9000_ : Value) (l0 : List Int) (r : List Int) (w0 w : World) (hB : Below w0.heap.size w0 w) (ho0 : Kd.R (Kd.int .i32) 21 w w0.heap.size P0_ u9000_ l0) (h : slices_Sort_rune_rune.f l0 = some r) :
  Calls Tryd.prog 61 #[u9000_] w fun e w' => e = .returned (.tuple #[]) ∧ Kd.R (Kd.int .i32) 21 w' w0.heap.size (fun k_ => (P0_ k_ ∨ w.heap.size ≤ k_)) u9000_ r ∧ Below w0.heap.size w0 w' ∧ Kept w w' (fun k_ => P0_ k_) := by
 unfold slices_Sort_rune_rune.f at h
 by_cases c : 0 < l0.length ∧ l0.length < 2305843009213693952
 rotate_left
 ·rw [if_neg c] at h; exact absurd h Z19
 rw [if_pos c] at h
 obtain rfl := Option.some.inj h
 have h0 := ho0.1
 obtain ⟨g, cap, cur, rfl, hg, hh, hc, hm, hs, hx⟩ := rowI.open ho0 c.1
 have hPg : P0_ g := h0 g (by simp [Value.ownBlock])
 have hs9 : l0.toArray.size = l0.length := by simp
 have hcon := Srt.sorts g cap l0.toArray w (rowI.holds hh hx) (blk_lt hh) (by rw [hs9]; exact c.2)
 rw [hs9] at hcon
 refine hcon.mono ?_
 rintro e w' ⟨rfl, R, h1, h2, n, os, rfl⟩
 have hR := sortI.eq l0 R (by rw [hs9]; exact h1) (by rw [hs9]; exact h2)
 have hRs : R.size = l0.length := by rw [h1.1, hs9]
 have hsl : (sortI l0).length = l0.length := sortI.len l0
 refine ⟨rfl, ?_, rowI.below hB hg, rowI.kept hPg⟩
 have := rowI.shut (w := Go.Sort.grow (Go.Sort.putRow Srt.enc (Go.Sort.ahead w n) g 0 R) os) (base := w0.heap.size) (ok := fun k_ => (P0_ k_ ∨ w.heap.size ≤ k_)) (xs := sortI l0) (.inl hPg) hg (rowI.put hh) (by rw [hsl]; exact hc) hm (by rw [← hs]; simp [Go.Sort.putCells]) (fun j p hj => rowI.got Z20 j p (by rw [hR]; exact hj))
 rw [hsl] at this
 exact this
def compactI (l : List Int) : List Int := Lib.compactUpTo l.toArray l.toArray.size
theorem compactI.le (l : List Int) : (compactI l).length ≤ l.length := by
 unfold compactI Lib.compactUpTo
 rw [List.length_map]
 exact Nat.le_trans (List.length_filter_le _ _) Z19
def slices_Compact_rune_rune.f (l0 : List Int) : Option (List Int) := if 0 < l0.length then some (compactI l0) else none
def slices_Compact_rune_rune.ren : Go.Shelf.Ren := ⟨fun | 43 => 62 | n => n, fun | 22 => 56 | 23 => 21 | n => n, fun n => n⟩
theorem slices_Compact_rune_rune.lay : SlLaysE.n43 Tryd.prog slices_Compact_rune_rune.ren := {
 mixed := by kernel_rfl
 f43 := ⟨Tryd.f62.name, by decide, Tryd.func62.trans (congrArg some Z5)⟩
 t0 := Tryd.underlying0
 a0 := Tryd.isAgg0
 z0 := Tryd.sizeOf0
 v0 := Tryd.zeroValue0
 t3 := Tryd.underlying3
 a3 := Tryd.isAgg3
 z3 := Tryd.sizeOf3
 v3 := Tryd.zeroValue3
 t4 := Tryd.underlying4
 a4 := Tryd.isAgg4
 z4 := Tryd.sizeOf4
 v4 := Tryd.zeroValue4
 t22 := Tryd.underlying56
 a22 := Tryd.isAgg56
 z22 := Tryd.sizeOf56
 v22 := Tryd.zeroValue56
 a23 := Tryd.isAgg21
 z23 := Tryd.sizeOf21 }
theorem slices_Compact_rune_rune.calls (P0_ : Nat → Prop) (u9000_ : Value) (l0 : List Int) (r : List Int) (w0 w : World) (hB : Below w0.heap.size w0 w) (ho0 : Kd.R (Kd.int .i32) 21 w w0.heap.size P0_ u9000_ l0) (h : slices_Compact_rune_rune.f l0 = some r) :
  Calls Tryd.prog 62 #[u9000_] w fun e w' => ∃ v0_ : Value, e = .returned (v0_) ∧ Kd.R (Kd.int .i32) 21 w' w0.heap.size (fun k_ => (P0_ k_ ∨ w.heap.size ≤ k_)) v0_ r ∧ Below w0.heap.size w0 w' ∧ Kept w w' (fun k_ => P0_ k_) := by
 unfold slices_Compact_rune_rune.f at h
 by_cases c : 0 < l0.length
 rotate_left
 ·rw [if_neg c] at h; exact absurd h Z19
 rw [if_pos c] at h
 obtain rfl := Option.some.inj h
 have h0 := ho0.1
 obtain ⟨g, cap, cur, rfl, hg, hh, hc, hm, hs, hx⟩ := rowI.open ho0 c
 have hPg : P0_ g := h0 g (by simp [Value.ownBlock])
 have hs9 : l0.toArray.size = l0.length := by simp
 have hmx : l0.length ≤ 9223372036854775807 := by have := hm; unfold maxLen at this; omega
 have hcon := AnyE.slices_Compact slices_Compact_rune_rune.lay Srt.enc (fun _ => rfl) (EqlAt.intD _ _ .i32) (NeqAt.intD _ _ .i32) 0 Tryd.zeroValue21 g 0 cap l0.toArray w (rowI.holds hh hx) (by rw [hs9]; exact hmx) (by rw [hs9]; exact hc)
 rw [hs9] at hcon
 refine hcon.mono ?_
 rintro e w' ⟨rfl, q, rfl⟩
 have hce : compactI l0 = Lib.compactUpTo l0.toArray l0.length := by unfold compactI; rw [hs9]
 rw [← hce]
 have hle := compactI.le l0
 obtain ⟨D, hD⟩ : ∃ D, (compactI l0 ++ List.replicate (l0.length - (compactI l0).length) 0).toArray = D := ⟨_, rfl⟩
 have hDs : D.size = l0.length := by rw [← hD]; simp; omega
 rw [hD, ← Go.Sort.grow_empty (Go.Sort.putRow Srt.enc (Go.Sort.ahead w q) g 0 D)]
 refine ⟨_, rfl, ?_, rowI.below hB hg, rowI.kept hPg⟩
 exact rowI.shut (.inl hPg) hg (rowI.put hh) Z20 hm (by rw [← hs]; simp [Go.Sort.putCells]) (fun j p hj => rowI.got Z20 j p (by rw [← hD]; rw [List.toList_toArray, List.getElem?_append_left (List.getElem?_eq_some_iff.1 hj).1]; exact hj))
mutual
def runes_Cuts.l0 : Nat → List Int → List (List (S36)) → Int → Int → Option (List Int × Int)
 | 0, _, _, _, _ => none
 | k + 1, x5, x16, x17, x18 => if x18 < x17 then (if 0 ≤ x18 then (if x18 < (x16.length : Int) then (runes_Cuts.l1 k x5 x16 x17 x18 (rd_L2 x16 x18) ((rd_L2 x16 x18).length : Int) 0) else (none)) else (none)) else ((slices_Sort_rune_rune.f x5).bind fun t488 => ((slices_Compact_rune_rune.f t488).bind fun t489 => (if (t489.length : Int) > 2048 then (some (([] : List Int), 21)) else (some (t489, 0)))))
def runes_Cuts.l1 : Nat → List Int → List (List (S36)) → Int → Int → List (S36) → Int → Int → Option (List Int × Int)
 | 0, _, _, _, _, _, _, _ => none
 | k + 1, x5, x16, x17, x18, x22, x23, x24 => if x24 < x23 then (if 0 ≤ x24 then (if x24 < (x22.length : Int) then (if x5.length < 35184372088832 then ((some (x5 ++ [(rd_T36 x22 x24).f0] : List Int)).bind fun y482 => (if ((rd_T36 x22 x24).f1) < 1114111 then (if y482.length < 35184372088832 then (runes_Cuts.l1 k (y482 ++ [wrap32 (((rd_T36 x22 x24).f1) + 1)]) x16 x17 x18 x22 x23 (wrap64 (x24 + 1))) else (none)) else (runes_Cuts.l1 k y482 x16 x17 x18 x22 x23 (wrap64 (x24 + 1))))) else (none)) else (none)) else (none)) else (runes_Cuts.l0 k x5 x16 x17 (wrap64 (x18 + 1)))
end
def runes_Cuts.f (k : Nat) (l0 : List (List (S36))) : Option (List Int × Int) := (runes_checked.f k l0).bind fun t475 => (if t475 = 0 then (runes_Cuts.l0 k (([0] : List Int)) l0 (l0.length : Int) 0) else (some (([] : List Int), t475)))
set_option maxHeartbeats 8000000 in
set_option maxRecDepth 100000 in
theorem runes_Cuts.calls (k : Nat) (A0 : Option Addr) (c0 : Nat) (l0 : List (List (S36))) (r1 : List Int) (r2 : Int) (w : World) (hr0 : Kd.C (Kd.slice 36 k36) w A0 l0.length l0) (hc0 : l0.length ≤ c0) (h : runes_Cuts.f k l0 = some (r1, r2)) :
  Calls Tryd.prog 37 #[.slice A0 l0.length c0] w fun e w' => ∃ v0_ : Value, e = .returned (.tuple #[v0_, .int .i64 r2]) ∧ Kd.R (Kd.int .i32) 21 w' w.heap.size (fun _ => True) v0_ r1 ∧ Below w.heap.size w w' := by
 have hu36 := Tryd.underlying36
 have HR0 := Aside0.mk hr0
 have HC0 := Aside0.mk hc0
 clear hr0 hc0
 have HB := Aside0.mk (Below.refl w.heap.size w)
 have H : ((runes_checked.f k l0).bind fun t475 => (if t475 = 0 then (runes_Cuts.l0 k (([0] : List Int)) l0 (l0.length : Int) 0) else (some (([] : List Int), t475)))) = some (r1, r2) := h
 clear h
 replace H := bS H
 obtain ⟨t475, A2, H⟩ := H
 try dsimp only at H
 by_cases c3 : t475 = 0
 ·rw [if_pos c3] at H
  have c3b0 := e1 c3
  have c3b1 := e2 c3
  clear c3
  obtain ⟨y476, hy476⟩ : ∃ y_ : List Int, y_ = (([0] : List Int)) := ⟨_, rfl⟩
  replace H : (runes_Cuts.l0 k y476 l0 (l0.length : Int) 0) = some (r1, r2) := by first | (rw [hy476]; with_reducible exact H) | (have H2_ := (Option.bind_some _ _).symm.trans H; rw [hy476]; with_reducible exact H2_) | (have H2_ := (Option.bind_some _ _).symm.trans H; with_reducible exact H2_) | with_reducible exact H | (rw [hy476]; exact H) | exact H
  have Ny476 := Aside0.mk hy476
  clear hy476
  have H' := Aside0.mk H
  clear H
  go_enter Tryd.func37, Tryd.ntmps37
  go_wp2_with (first | ((with_reducible refine gC 46 rfl ?_); refine goesL_ (some 11) rfl rfl Tryd.func46 Z5 rfl #[.slice A0 l0.length c0] rfl Z3 ?_; (with_reducible refine (runes_checked.calls k _ _ l0 t475 _ ?side1 ?side2 A2.out).mono ?_); (case side1 => repeat (first | exact HR0.out | (with_reducible refine Kd.C_alloc ?_ _) | (with_reducible refine Kd.C_drewN ?_ _) | (with_reducible refine Kd.C_drew ?_))); (case side2 => exact HC0.out); rintro e w4 ⟨rfl, hb⟩; refine ⟨_, rfl, ?_⟩; replace HB := Aside0.mk (below_step zB hb); (try clear hb); (try clear hb2); (try clear hk); (try clear hi)) | ((with_reducible refine gate_dst (N := 15) rfl ?_); refine Kd.R_lit (Kd.int .i32) _ 21 ?hg (N := 15) ?hd (xs := ([0] : List Int)) (inner := [.int .i32 0]) (ok := fun _ => True) (okp := fun _ => True) ?hr ?hp (fun _ hk => hk) trivial (Below.refl _ _) (Nat.le_refl _) Z19 ?_; (case hd => rfl); (case hg => rfl); (case hr => first | (go_simp; done) | (go_simp; rfl)); (case hp => exact (Reps.one (show Kd.M (Kd.int .i32) _ _ _ 0 [.int .i32 0] from rfl) (Reps.none _ _))); intro v477 w5 ho6 hb hg_ hnew_; clear hg_ hnew_; (first | rw [← Ny476.out] at ho6 | (simp only [Int.reduceToNat] at ho6; rw [← Ny476.out] at ho6)); have HO478 := Aside0.mk (Kd.R_lower ho6 (below_size zB)); replace HB := Aside0.mk (below_step zB hb); clear hb ho6))
  go_loopg [5, 18] k (fun kq v5 v18 w' => ∃ (x5_1 : List Int) (x18_1 : Int), v18 = .int .i64 x18_1 ∧ Aside0 (runes_Cuts.l0 kq x5_1 l0 (l0.length : Int) x18_1 = some (r1, r2)) ∧ Aside0 (kq ≤ k) ∧ Aside0 (Kd.R (Kd.int .i32) 21 w' w.heap.size (fun _ => True) v5 x5_1) ∧ Aside0 (Below w.heap.size w w'))
  case atStart => exact ⟨(y476), (0), Z2, H', ⟨Nat.le_refl _⟩, ⟨by (with_reducible repeat (first | apply Kd.R_alloc | apply Kd.R_drewN | apply Kd.R_drew)); exact HO478.out⟩, ⟨Z0⟩⟩
  case round =>
   clear H'
   try clear p2
   try clear c3
   try clear c3b0
   try clear c3b1
   try clear c4
   obtain ⟨x5_1, x18_1, rfl, HA, HK1, HO_5, HB⟩ := hrel
   cases gk with
   | zero => exact absurd HA.out (by simp [runes_Cuts.l0])
   | succ k1 =>
    have H := HA.out
    clear HA
    simp only [runes_Cuts.l0] at H
    by_cases c7 : x18_1 < (l0.length : Int)
    ·rw [if_pos c7] at H
     have c7b0 := decide_eq_true c7
     clear c7
     by_cases c8 : 0 ≤ x18_1
     ·rw [if_pos c8] at H
      have c8b0 := decide_eq_true c8
      clear c8
      by_cases c9 : x18_1 < (l0.length : Int)
      ·rw [if_pos c9] at H
       have c9b0 := decide_eq_true c9
       clear c9
       have H' := Aside0.mk H
       clear H
       have p479 : 0 ≤ (x18_1 : Int) := of_decide_eq_true Z1
       have q479 : x18_1 < (l0.length : Int) := of_decide_eq_true Z1
       obtain ⟨ad479, A479_0, c479_0, e479, hx479_0, hl479_0, hi479_0⟩ := at_L2 HR0.out x18_1 p479 q479
       cases e479
       replace hx479_0 := (HB.out.cell (World.block_lt_of_cell? w _ hx479_0)).trans hx479_0
       have HR479_0 := Aside0.mk hi479_0
       have HC479_0 := Aside0.mk hl479_0
       clear hi479_0 hl479_0
       replace p479 := eq_true p479
       replace q479 := eq_true q479
       go_wp2
       go_loopg [5, 24] k1 (fun kq v5 v24 w' => ∃ (x5_2 : List Int) (x24_2 : Int), v24 = .int .i64 x24_2 ∧ Aside0 (runes_Cuts.l1 kq x5_2 l0 (l0.length : Int) x18_1 (rd_L2 l0 x18_1) ((rd_L2 l0 x18_1).length : Int) x24_2 = some (r1, r2)) ∧ Aside0 (kq ≤ k1) ∧ Aside0 (Kd.R (Kd.int .i32) 21 w' w.heap.size (fun _ => True) v5 x5_2) ∧ Aside0 (Below w.heap.size w w'))
       case atStart => exact ⟨(x5_1), (0), Z2, H', ⟨Nat.le_refl _⟩, ⟨Z17⟩, ⟨Z0⟩⟩
       case round =>
        clear H'
        try clear p2
        try clear c3
        try clear c3b0
        try clear c3b1
        try clear c4
        try clear p4
        try clear q4
        try clear hx4
        try clear c7
        try clear c7b0
        try clear c8
        try clear c8b0
        try clear c9
        try clear c9b0
        try clear hx479_0
        try clear p2
        try clear p479
        try clear q479
        obtain ⟨x5_2, x24_2, rfl, HA, HK2, HO_5, HB⟩ := hrel
        cases gk with
        | zero => exact absurd HA.out (by simp [runes_Cuts.l1])
        | succ k2 =>
         have H := HA.out
         clear HA
         simp only [runes_Cuts.l1] at H
         by_cases c10 : x24_2 < ((rd_L2 l0 x18_1).length : Int)
         ·rw [if_pos c10] at H
          have c10b0 := decide_eq_true c10
          clear c10
          by_cases c11 : 0 ≤ x24_2
          ·rw [if_pos c11] at H
           have c11b0 := decide_eq_true c11
           clear c11
           by_cases c12 : x24_2 < ((rd_L2 l0 x18_1).length : Int)
           ·rw [if_pos c12] at H
            have c12b0 := decide_eq_true c12
            clear c12
            by_cases c13 : x5_2.length < 35184372088832
            ·rw [if_pos c13] at H
             have LMc13 := Aside0.mk c13
             clear c13
             obtain ⟨y482, hy482⟩ : ∃ y_ : List Int, y_ = (x5_2 ++ [(rd_T36 (rd_L2 l0 x18_1) x24_2).f0]) := ⟨_, rfl⟩
             replace H : (if ((rd_T36 (rd_L2 l0 x18_1) x24_2).f1) < 1114111 then (if y482.length < 35184372088832 then (runes_Cuts.l1 k2 (y482 ++ [wrap32 (((rd_T36 (rd_L2 l0 x18_1) x24_2).f1) + 1)]) l0 (l0.length : Int) x18_1 (rd_L2 l0 x18_1) ((rd_L2 l0 x18_1).length : Int) (wrap64 (x24_2 + 1))) else (none)) else (runes_Cuts.l1 k2 y482 l0 (l0.length : Int) x18_1 (rd_L2 l0 x18_1) ((rd_L2 l0 x18_1).length : Int) (wrap64 (x24_2 + 1)))) = some (r1, r2) := by first | (rw [hy482]; with_reducible exact H) | (have H2_ := (Option.bind_some _ _).symm.trans H; rw [hy482]; with_reducible exact H2_) | (have H2_ := (Option.bind_some _ _).symm.trans H; with_reducible exact H2_) | with_reducible exact H | (rw [hy482]; exact H) | exact H
             have Ny482 := Aside0.mk hy482
             clear hy482
             by_cases c14 : ((rd_T36 (rd_L2 l0 x18_1) x24_2).f1) < 1114111
             ·rw [if_pos c14] at H
              have c14b0 := decide_eq_true c14
              clear c14
              by_cases c15 : y482.length < 35184372088832
              ·rw [if_pos c15] at H
               have LMc15 := Aside0.mk c15
               clear c15
               obtain ⟨y485, hy485⟩ : ∃ y_ : List Int, y_ = (y482 ++ [wrap32 (((rd_T36 (rd_L2 l0 x18_1) x24_2).f1) + 1)]) := ⟨_, rfl⟩
               replace H : (runes_Cuts.l1 k2 y485 l0 (l0.length : Int) x18_1 (rd_L2 l0 x18_1) ((rd_L2 l0 x18_1).length : Int) (wrap64 (x24_2 + 1))) = some (r1, r2) := by first | (rw [hy485]; with_reducible exact H) | (have H2_ := (Option.bind_some _ _).symm.trans H; rw [hy485]; with_reducible exact H2_) | (have H2_ := (Option.bind_some _ _).symm.trans H; with_reducible exact H2_) | with_reducible exact H | (rw [hy485]; exact H) | exact H
               have Ny485 := Aside0.mk hy485
               clear hy485
               have H' := Aside0.mk H
               clear H
               have p480 : 0 ≤ (x24_2 : Int) := of_decide_eq_true Z1
               have q480 : x24_2 < ((rd_L2 l0 x18_1).length : Int) := of_decide_eq_true Z1
               obtain ⟨ad480, e480, hx480_0, hx480_1⟩ := at_T36 HR479_0.out x24_2 p480 q480
               cases e480
               replace hx480_0 := (HB.out.cell (World.block_lt_of_cell? w _ hx480_0)).trans hx480_0
               replace hx480_1 := (HB.out.cell (World.block_lt_of_cell? w _ hx480_1)).trans hx480_1
               replace p480 := eq_true p480
               replace q480 := eq_true q480
               go_wp2_with (first | ((with_reducible refine gate_dst (N := 9) rfl ?_); refine box_event ?hg (N := 9) ?hd (cs := #[.int .i32 0, .int .i32 0]) (t := 36) ?hr ?_; (case hd => rfl); (case hg => rfl); (case hr => first | (go_simp; done) | (go_simp; rfl)); intro gb481 hg w16 hbox hb; replace HO_5 := Aside0.mk (Kd.R_below (kK HO_5) hb); have BK481 := Aside0.mk (hbox); have GW481 := gE hg zB; have GE481 := gE hg zB; replace HB := Aside0.mk (below_step zB hb); clear hb hbox hg; have hcz17_0 := bC BK481 0 (.int .i32 0); have hcz17_1 := bC BK481 1 (.int .i32 0); have hfz17_0 := blk_frozen BK481.out 0; have hfz17_1 := blk_frozen BK481.out 1) | ((with_reducible refine gate_builtin (b := .append) (xs := #[.tmp 28, .tmp 31]) rfl ?_); at_builtin; refine Kd.R_append (Kd.int .i32) (w0 := w) w.heap.size rfl (.tmp 28) (.tmp 31) 56 21 (.int .i32 0) 4 rfl Tryd.underlying56 info21 rfl (by decide) Z20 u5 x5_2 ((rd_T36 (rd_L2 l0 x18_1) x24_2).f0) [.int .i32 ((rd_T36 (rd_L2 l0 x18_1) x24_2).f0)] (fun _ => True) (fun _ => False) rfl (by first | (go_simp; done) | (go_simp; rfl)) ?aP (fun _ hk => hk.elim) ?aF ?aO ?aB ?aS ?aL ?_; (case aP => exact rfl); (case aB => exact zB); (case aF => exact (fun _ _ => trivial)); (case aO => exact (by (with_reducible repeat (first | apply Kd.R_alloc | apply Kd.R_drewN | apply Kd.R_drew)); exact Kd.R_mono (Kd.R_far (p := ⟨gb481, 1, none⟩) (Kd.R_far (p := ⟨gb481, 0, none⟩) (Kd.R_types HO_5.out BK481.out (by decide)) (fun _ hk => hk.2) (.int .i32 ((rd_T36 (rd_L2 l0 x18_1) x24_2).f0))) (fun _ hk => hk.2) (.int .i32 ((rd_T36 (rd_L2 l0 x18_1) x24_2).f1))) (fun _ hk => trivial))); (case aS => exact (below_size zB)); (case aL => have := LMc13.out; omega); intro v483 w18 ho hb hg hat; rw [← Ny482.out] at ho; have n0_ := Aside0.mk (blk_grown (g := gb481) (o := .cells #[.int .i32 ((rd_T36 (rd_L2 l0 x18_1) x24_2).f0), .int .i32 ((rd_T36 (rd_L2 l0 x18_1) x24_2).f1)] 36 (0, 0)) (by (with_reducible repeat (first | refine blk_drewN ?_ _ | refine blk_drew ?_ | refine blk_alloc ?_ _)); refine blk_put (cs := #[.int .i32 ((rd_T36 (rd_L2 l0 x18_1) x24_2).f0), .int .i32 0]) ?_ 1 _ rfl; (with_reducible repeat (first | refine blk_drewN ?_ _ | refine blk_drew ?_ | refine blk_alloc ?_ _)); refine blk_put (cs := #[.int .i32 0, .int .i32 0]) ?_ 0 _ rfl; (with_reducible repeat (first | refine blk_drewN ?_ _ | refine blk_drew ?_ | refine blk_alloc ?_ _)); exact BK481.out) hg (Kd.R_ne HO_5.out BK481.out (by decide))); have n1_ := Aside0.mk (hb); have n2_ := Aside0.mk (ho); clear BK481; clear HB; clear HO_5; have BK481 := n0_; have HB := n1_; have HO484 := n2_; clear n0_ n1_ n2_; clear ho hb hg hat; have hcz19_0 := bC BK481 0 (.int .i32 ((rd_T36 (rd_L2 l0 x18_1) x24_2).f0)); have hcz19_1 := bC BK481 1 (.int .i32 ((rd_T36 (rd_L2 l0 x18_1) x24_2).f1)); have hfz19_0 := blk_frozen BK481.out 0; have hfz19_1 := blk_frozen BK481.out 1) | ((with_reducible refine gate_builtin (b := .append) (xs := #[.tmp 36, .tmp 40]) rfl ?_); at_builtin; refine Kd.R_append (Kd.int .i32) (w0 := w) w.heap.size rfl (.tmp 36) (.tmp 40) 56 21 (.int .i32 0) 4 rfl Tryd.underlying56 info21 rfl (by decide) Z20 v483 y482 (wrap32 (((rd_T36 (rd_L2 l0 x18_1) x24_2).f1) + 1)) [.int .i32 (wrap32 (((rd_T36 (rd_L2 l0 x18_1) x24_2).f1) + 1))] (fun _ => True) (fun _ => False) rfl rfl ?aP (fun _ hk => hk.elim) ?aF ?aO ?aB ?aS ?aL ?_; (case aP => exact rfl); (case aB => exact zB); (case aF => exact (fun _ _ => trivial)); (case aO => exact (kK HO484)); (case aS => exact (below_size zB)); (case aL => have := LMc15.out; omega); intro v486 w20 ho hb hg hat; rw [← Ny485.out] at ho; have n0_ := Aside0.mk (blk_grown (g := gb481) (o := .cells #[.int .i32 ((rd_T36 (rd_L2 l0 x18_1) x24_2).f0), .int .i32 ((rd_T36 (rd_L2 l0 x18_1) x24_2).f1)] 36 (0, 0)) (bK BK481) hg (Kd.R_ne HO484.out BK481.out (by decide))); have n1_ := Aside0.mk (hb); have n2_ := Aside0.mk (ho); clear BK481; clear HB; clear HO484; have BK481 := n0_; have HB := n1_; have HO487 := n2_; clear n0_ n1_ n2_; clear ho hb hg hat))
               go_roundg k2
               case measure => have := HK1.out; have := HK2.out; omega
               case rel => exact ⟨(y485), (wrap64 (x24_2 + 1)), Z2, H', ⟨by have := HK1.out; have := HK2.out; omega⟩, ⟨by (with_reducible repeat (first | apply Kd.R_alloc | apply Kd.R_drewN | apply Kd.R_drew)); exact HO487.out⟩, ⟨Z0⟩⟩
              ·rw [if_neg c15] at H
               exact absurd H Z19
             ·rw [if_neg c14] at H
              have c14b0 := decide_eq_false c14
              clear c14
              have H' := Aside0.mk H
              clear H
              have p480 : 0 ≤ (x24_2 : Int) := of_decide_eq_true Z1
              have q480 : x24_2 < ((rd_L2 l0 x18_1).length : Int) := of_decide_eq_true Z1
              obtain ⟨ad480, e480, hx480_0, hx480_1⟩ := at_T36 HR479_0.out x24_2 p480 q480
              cases e480
              replace hx480_0 := (HB.out.cell (World.block_lt_of_cell? w _ hx480_0)).trans hx480_0
              replace hx480_1 := (HB.out.cell (World.block_lt_of_cell? w _ hx480_1)).trans hx480_1
              replace p480 := eq_true p480
              replace q480 := eq_true q480
              go_wp2_with (first | ((with_reducible refine gate_dst (N := 9) rfl ?_); refine box_event ?hg (N := 9) ?hd (cs := #[.int .i32 0, .int .i32 0]) (t := 36) ?hr ?_; (case hd => rfl); (case hg => rfl); (case hr => first | (go_simp; done) | (go_simp; rfl)); intro gb481 hg w21 hbox hb; replace HO_5 := Aside0.mk (Kd.R_below (kK HO_5) hb); have BK481 := Aside0.mk (hbox); have GW481 := gE hg zB; have GE481 := gE hg zB; replace HB := Aside0.mk (below_step zB hb); clear hb hbox hg; have hcz22_0 := bC BK481 0 (.int .i32 0); have hcz22_1 := bC BK481 1 (.int .i32 0); have hfz22_0 := blk_frozen BK481.out 0; have hfz22_1 := blk_frozen BK481.out 1) | ((with_reducible refine gate_builtin (b := .append) (xs := #[.tmp 28, .tmp 31]) rfl ?_); at_builtin; refine Kd.R_append (Kd.int .i32) (w0 := w) w.heap.size rfl (.tmp 28) (.tmp 31) 56 21 (.int .i32 0) 4 rfl Tryd.underlying56 info21 rfl (by decide) Z20 u5 x5_2 ((rd_T36 (rd_L2 l0 x18_1) x24_2).f0) [.int .i32 ((rd_T36 (rd_L2 l0 x18_1) x24_2).f0)] (fun _ => True) (fun _ => False) rfl (by first | (go_simp; done) | (go_simp; rfl)) ?aP (fun _ hk => hk.elim) ?aF ?aO ?aB ?aS ?aL ?_; (case aP => exact rfl); (case aB => exact zB); (case aF => exact (fun _ _ => trivial)); (case aO => exact (by (with_reducible repeat (first | apply Kd.R_alloc | apply Kd.R_drewN | apply Kd.R_drew)); exact Kd.R_mono (Kd.R_far (p := ⟨gb481, 1, none⟩) (Kd.R_far (p := ⟨gb481, 0, none⟩) (Kd.R_types HO_5.out BK481.out (by decide)) (fun _ hk => hk.2) (.int .i32 ((rd_T36 (rd_L2 l0 x18_1) x24_2).f0))) (fun _ hk => hk.2) (.int .i32 ((rd_T36 (rd_L2 l0 x18_1) x24_2).f1))) (fun _ hk => trivial))); (case aS => exact (below_size zB)); (case aL => have := LMc13.out; omega); intro v483 w23 ho hb hg hat; rw [← Ny482.out] at ho; have n0_ := Aside0.mk (blk_grown (g := gb481) (o := .cells #[.int .i32 ((rd_T36 (rd_L2 l0 x18_1) x24_2).f0), .int .i32 ((rd_T36 (rd_L2 l0 x18_1) x24_2).f1)] 36 (0, 0)) (by (with_reducible repeat (first | refine blk_drewN ?_ _ | refine blk_drew ?_ | refine blk_alloc ?_ _)); refine blk_put (cs := #[.int .i32 ((rd_T36 (rd_L2 l0 x18_1) x24_2).f0), .int .i32 0]) ?_ 1 _ rfl; (with_reducible repeat (first | refine blk_drewN ?_ _ | refine blk_drew ?_ | refine blk_alloc ?_ _)); refine blk_put (cs := #[.int .i32 0, .int .i32 0]) ?_ 0 _ rfl; (with_reducible repeat (first | refine blk_drewN ?_ _ | refine blk_drew ?_ | refine blk_alloc ?_ _)); exact BK481.out) hg (Kd.R_ne HO_5.out BK481.out (by decide))); have n1_ := Aside0.mk (hb); have n2_ := Aside0.mk (ho); clear BK481; clear HB; clear HO_5; have BK481 := n0_; have HB := n1_; have HO484 := n2_; clear n0_ n1_ n2_; clear ho hb hg hat; have hcz24_0 := bC BK481 0 (.int .i32 ((rd_T36 (rd_L2 l0 x18_1) x24_2).f0)); have hcz24_1 := bC BK481 1 (.int .i32 ((rd_T36 (rd_L2 l0 x18_1) x24_2).f1)); have hfz24_0 := blk_frozen BK481.out 0; have hfz24_1 := blk_frozen BK481.out 1))
              go_roundg k2
              case measure => have := HK1.out; have := HK2.out; omega
              case rel => exact ⟨(y482), (wrap64 (x24_2 + 1)), Z2, H', ⟨by have := HK1.out; have := HK2.out; omega⟩, ⟨by (with_reducible repeat (first | apply Kd.R_alloc | apply Kd.R_drewN | apply Kd.R_drew)); exact HO484.out⟩, ⟨Z0⟩⟩
            ·rw [if_neg c13] at H
             exact absurd H Z19
           ·rw [if_neg c12] at H
            exact absurd H Z19
          ·rw [if_neg c11] at H
           exact absurd H Z19
         ·rw [if_neg c10] at H
          have c10b0 := decide_eq_false c10
          clear c10
          have H' := Aside0.mk H
          clear H
          go_wp2
          go_roundg k2
          case measure => have := HK1.out; have := HK2.out; omega
          case rel => exact ⟨(x5_2), (wrap64 (x18_1 + 1)), Z2, H', ⟨by have := HK1.out; have := HK2.out; omega⟩, ⟨Z17⟩, ⟨Z0⟩⟩
      ·rw [if_neg c9] at H
       exact absurd H Z19
     ·rw [if_neg c8] at H
      exact absurd H Z19
    ·rw [if_neg c7] at H
     have c7b0 := decide_eq_false c7
     clear c7
     replace H := bS H
     obtain ⟨t488, A25, H⟩ := H
     try dsimp only at H
     replace H := bS H
     obtain ⟨t489, A26, H⟩ := H
     try dsimp only at H
     by_cases c27 : (t489.length : Int) > 2048
     ·rw [if_pos c27] at H
      have c27b0 : decide (2048 < (t489.length : Int)) = true := decide_eq_true c27
      have c27b1 : decide (2048 < t489.length) = true := decide_eq_true Z20
      clear c27
      simp only [Option.some.injEq, Prod.mk.injEq] at H
      obtain ⟨rfl, rfl⟩ := H
      obtain ⟨Ao28, co28, eo28⟩ := Kd.R_slice HO_5.out
      subst eo28
      go_wp2_with (first | ((with_reducible refine gC 61 rfl ?_); refine goesL_ (some 45) rfl rfl Tryd.func61 Z5 rfl #[.slice Ao28 x5_1.length co28] rfl Z3 ?_; (with_reducible refine (slices_Sort_rune_rune.calls (fun k_ => some k_ = (.slice Ao28 x5_1.length co28 : Value).ownBlock) (.slice Ao28 x5_1.length co28) x5_1 t488 w _ ?side1 ?side2 A25.out).mono ?_); (case side1 => repeat (first | (with_reducible first | exact HB.out | apply below_alloc | apply pw_below_drewN | apply below_drew1 | refine below_set ?_ (Aside0.out Z15)) | exact HB.out)); (case side2 => exact Kd.R_tight rfl HO_5.out); rintro e w29 ⟨rfl, hy0, hb, hkp⟩; refine ⟨_, rfl, ?_⟩; replace HO_5 := Aside0.mk (Kd.R_reok rfl hy0 (fun k_ e_ => HO_5.out.1 k_ e_)); replace HB := Aside0.mk (hb); (try clear hb); (try clear hkp); (try clear hy0)) | ((with_reducible refine gC 62 rfl ?_); refine goesL_ (some 47) rfl rfl Tryd.func62 Z5 rfl #[.slice Ao28 x5_1.length co28] rfl Z3 ?_; (with_reducible refine (slices_Compact_rune_rune.calls (fun k_ => some k_ = (.slice Ao28 x5_1.length co28 : Value).ownBlock) (.slice Ao28 x5_1.length co28) t488 t489 w _ ?side1 ?side2 A26.out).mono ?_); (case side1 => repeat (first | (with_reducible first | exact HB.out | apply below_alloc | apply pw_below_drewN | apply below_drew1 | refine below_set ?_ (Aside0.out Z15)) | exact HB.out)); (case side2 => exact Kd.R_tight rfl HO_5.out); rintro e w30 ⟨v490, rfl, ho0, hb, hkp⟩; refine ⟨_, rfl, ?_⟩; have n0_ := Aside0.mk (Kd.R_mono (ok' := fun k_ => True) ho0 (fun k_ hk_ => trivial)); have n1_ := Aside0.mk (hb); clear HB; clear HO_5; have HO491 := n0_; have HB := n1_; clear n0_ n1_; (try clear hb); (try clear hkp); (try clear ho0); obtain ⟨Ao31, co31, eo31⟩ := Kd.R_slice HO491.out; subst eo31))
      go_ret2
      exact ⟨_, Z4, Z12, Z0⟩
     ·rw [if_neg c27] at H
      have c27b0 : decide (2048 < (t489.length : Int)) = false := decide_eq_false c27
      have c27b1 : decide (2048 < t489.length) = false := decide_eq_false Z20
      clear c27
      simp only [Option.some.injEq, Prod.mk.injEq] at H
      obtain ⟨rfl, rfl⟩ := H
      obtain ⟨Ao32, co32, eo32⟩ := Kd.R_slice HO_5.out
      subst eo32
      go_wp2_with (first | ((with_reducible refine gC 61 rfl ?_); refine goesL_ (some 45) rfl rfl Tryd.func61 Z5 rfl #[.slice Ao32 x5_1.length co32] rfl Z3 ?_; (with_reducible refine (slices_Sort_rune_rune.calls (fun k_ => some k_ = (.slice Ao32 x5_1.length co32 : Value).ownBlock) (.slice Ao32 x5_1.length co32) x5_1 t488 w _ ?side1 ?side2 A25.out).mono ?_); (case side1 => repeat (first | (with_reducible first | exact HB.out | apply below_alloc | apply pw_below_drewN | apply below_drew1 | refine below_set ?_ (Aside0.out Z15)) | exact HB.out)); (case side2 => exact Kd.R_tight rfl HO_5.out); rintro e w33 ⟨rfl, hy0, hb, hkp⟩; refine ⟨_, rfl, ?_⟩; replace HO_5 := Aside0.mk (Kd.R_reok rfl hy0 (fun k_ e_ => HO_5.out.1 k_ e_)); replace HB := Aside0.mk (hb); (try clear hb); (try clear hkp); (try clear hy0)) | ((with_reducible refine gC 62 rfl ?_); refine goesL_ (some 47) rfl rfl Tryd.func62 Z5 rfl #[.slice Ao32 x5_1.length co32] rfl Z3 ?_; (with_reducible refine (slices_Compact_rune_rune.calls (fun k_ => some k_ = (.slice Ao32 x5_1.length co32 : Value).ownBlock) (.slice Ao32 x5_1.length co32) t488 t489 w _ ?side1 ?side2 A26.out).mono ?_); (case side1 => repeat (first | (with_reducible first | exact HB.out | apply below_alloc | apply pw_below_drewN | apply below_drew1 | refine below_set ?_ (Aside0.out Z15)) | exact HB.out)); (case side2 => exact Kd.R_tight rfl HO_5.out); rintro e w34 ⟨v490, rfl, ho0, hb, hkp⟩; refine ⟨_, rfl, ?_⟩; have n0_ := Aside0.mk (Kd.R_mono (ok' := fun k_ => True) ho0 (fun k_ hk_ => trivial)); have n1_ := Aside0.mk (hb); clear HB; clear HO_5; have HO491 := n0_; have HB := n1_; clear n0_ n1_; (try clear hb); (try clear hkp); (try clear ho0); obtain ⟨Ao35, co35, eo35⟩ := Kd.R_slice HO491.out; subst eo35))
      go_ret2
      exact ⟨_, Z4, by (with_reducible repeat (first | apply Kd.R_alloc | apply Kd.R_drewN | apply Kd.R_drew)); exact HO491.out, Z0⟩
 ·rw [if_neg c3] at H
  have c3b0 := e3 c3
  have c3b1 := e4 c3
  simp only [Option.some.injEq, Prod.mk.injEq] at H
  obtain ⟨rfl, rfl⟩ := H
  go_enter Tryd.func37, Tryd.ntmps37
  go_wp2_with (first | ((with_reducible refine gC 46 rfl ?_); refine goesL_ (some 11) rfl rfl Tryd.func46 Z5 rfl #[.slice A0 l0.length c0] rfl Z3 ?_; (with_reducible refine (runes_checked.calls k _ _ l0 t475 _ ?side1 ?side2 A2.out).mono ?_); (case side1 => repeat (first | exact HR0.out | (with_reducible refine Kd.C_alloc ?_ _) | (with_reducible refine Kd.C_drewN ?_ _) | (with_reducible refine Kd.C_drew ?_))); (case side2 => exact HC0.out); rintro e w36 ⟨rfl, hb⟩; refine ⟨_, rfl, ?_⟩; replace HB := Aside0.mk (below_step zB hb); (try clear hb); (try clear hb2); (try clear hk); (try clear hi)))
  go_ret2
  exact ⟨_, Z4, Z12, Z0⟩
def runes_Class.l0 : Nat → Int → Int → List Int → Int → Int → Option (Int)
 | 0, _, _, _, _, _ => none
 | k + 1, x1, x5, x8, x9, x10 => if x10 < x9 then (if 0 ≤ x10 then (if x10 < (x8.length : Int) then (if x10 > 0 then (if (rd x8 x10) ≤ x1 then (runes_Class.l0 k x1 (wrap64 (x5 + 1)) x8 x9 (wrap64 (x10 + 1))) else (runes_Class.l0 k x1 x5 x8 x9 (wrap64 (x10 + 1)))) else (runes_Class.l0 k x1 x5 x8 x9 (wrap64 (x10 + 1)))) else (none)) else (none)) else (some x5)
def runes_Class.f (k : Nat) (l0 : List Int) (a1 : Int) : Option (Int) := runes_Class.l0 k a1 0 l0 (l0.length : Int) 0
set_option maxHeartbeats 8000000 in
set_option maxRecDepth 100000 in
theorem runes_Class.calls (k : Nat) (A0 : Option Addr) (c0 : Nat) (l0 : List Int) (a1 : Int) (r : Int) (w : World) (hr0 : Kd.C (Kd.int .i32) w A0 l0.length l0) (hc0 : l0.length ≤ c0) (h : runes_Class.f k l0 a1 = some r) :
  Calls Tryd.prog 39 #[.slice A0 l0.length c0, .int .i32 a1] w fun e w' => e = .returned (.int .i64 r) ∧ Drawn0 w w' := by
 have HR0 := Aside0.mk hr0
 have HC0 := Aside0.mk hc0
 clear hr0 hc0
 have H : (runes_Class.l0 k a1 0 l0 (l0.length : Int) 0) = some r := h
 clear h
 have H' := Aside0.mk H
 clear H
 go_enter Tryd.func39, Tryd.ntmps39
 go_wp2
 go_loopg [5, 10] k (fun kq v5 v10 w' => ∃ (x5_1 : Int) (x10_1 : Int), v5 = .int .i64 x5_1 ∧ v10 = .int .i64 x10_1 ∧ Aside0 (runes_Class.l0 kq a1 x5_1 l0 (l0.length : Int) x10_1 = some r) ∧ Aside0 (kq ≤ k) ∧ Drawn0 w w')
 case atStart => exact ⟨(0), (0), Z2, Z2, H', ⟨Nat.le_refl _⟩, Z8⟩
 case round =>
  clear H'
  try clear p2
  obtain ⟨x5_1, x10_1, rfl, rfl, HA, HK1, ⟨m1, rfl⟩⟩ := hrel
  cases gk with
  | zero => exact absurd HA.out (by simp [runes_Class.l0])
  | succ k1 =>
   have H := HA.out
   clear HA
   simp only [runes_Class.l0] at H
   by_cases c3 : x10_1 < (l0.length : Int)
   ·rw [if_pos c3] at H
    have c3b0 := decide_eq_true c3
    clear c3
    by_cases c4 : 0 ≤ x10_1
    ·rw [if_pos c4] at H
     have c4b0 := decide_eq_true c4
     clear c4
     by_cases c5 : x10_1 < (l0.length : Int)
     ·rw [if_pos c5] at H
      have c5b0 := decide_eq_true c5
      clear c5
      by_cases c6 : x10_1 > 0
      ·rw [if_pos c6] at H
       have c6b0 : decide (0 < x10_1) = true := decide_eq_true c6
       clear c6
       by_cases c7 : (rd l0 x10_1) ≤ a1
       ·rw [if_pos c7] at H
        have c7b0 := decide_eq_true c7
        clear c7
        have H' := Aside0.mk H
        clear H
        have p496 : 0 ≤ (x10_1 : Int) := of_decide_eq_true Z1
        have q496 : x10_1 < (l0.length : Int) := of_decide_eq_true Z1
        obtain ⟨ad496, e496, hx496_0⟩ := Kd.at_int HR0.out x10_1 p496 q496
        cases e496
        replace p496 := eq_true p496
        replace q496 := eq_true q496
        go_wp2
        go_roundg k1
        case measure => have := HK1.out; omega
        case rel => exact ⟨(wrap64 (x5_1 + 1)), (wrap64 (x10_1 + 1)), Z2, Z2, H', ⟨Z18⟩, Z8⟩
       ·rw [if_neg c7] at H
        have c7b0 := decide_eq_false c7
        clear c7
        have H' := Aside0.mk H
        clear H
        have p496 : 0 ≤ (x10_1 : Int) := of_decide_eq_true Z1
        have q496 : x10_1 < (l0.length : Int) := of_decide_eq_true Z1
        obtain ⟨ad496, e496, hx496_0⟩ := Kd.at_int HR0.out x10_1 p496 q496
        cases e496
        replace p496 := eq_true p496
        replace q496 := eq_true q496
        go_wp2
        go_roundg k1
        case measure => have := HK1.out; omega
        case rel => exact ⟨(x5_1), (wrap64 (x10_1 + 1)), Z2, Z2, H', ⟨Z18⟩, Z8⟩
      ·rw [if_neg c6] at H
       have c6b0 : decide (0 < x10_1) = false := decide_eq_false c6
       clear c6
       have H' := Aside0.mk H
       clear H
       have p496 : 0 ≤ (x10_1 : Int) := of_decide_eq_true Z1
       have q496 : x10_1 < (l0.length : Int) := of_decide_eq_true Z1
       obtain ⟨ad496, e496, hx496_0⟩ := Kd.at_int HR0.out x10_1 p496 q496
       cases e496
       replace p496 := eq_true p496
       replace q496 := eq_true q496
       go_wp2
       go_roundg k1
       case measure => have := HK1.out; omega
       case rel => exact ⟨(x5_1), (wrap64 (x10_1 + 1)), Z2, Z2, H', ⟨Z18⟩, Z8⟩
     ·rw [if_neg c5] at H
      exact absurd H Z19
    ·rw [if_neg c4] at H
     exact absurd H Z19
   ·rw [if_neg c3] at H
    have c3b0 := decide_eq_false c3
    clear c3
    obtain rfl := Option.some.inj H
    go_wp2
    go_ret
    exact ⟨Z2, Z8⟩
end Go.Proofs.YtfnkboilepgmoaaDoor.R
