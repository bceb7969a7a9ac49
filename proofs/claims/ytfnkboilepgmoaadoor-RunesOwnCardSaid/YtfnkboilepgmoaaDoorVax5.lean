import Derived.Test.YtfnkboilepgmoaaDoorVPre
import Derived.Test.YtfnkboilepgmoaaDoorVax0
import Derived.Test.YtfnkboilepgmoaaDoorVax1
import Derived.Test.YtfnkboilepgmoaaDoorVax3
import Derived.Test.YtfnkboilepgmoaaDoorVax4
namespace Go.Proofs.YtfnkboilepgmoaaDoor.R
open Go.RowKit Go.Proofs.YtfnkboilepgmoaaDoorW.PrintWords Go.Proofs.YtfnkboilepgmoaaDoorW.PrintLast Go.Proofs.YtfnkboilepgmoaaDoorW.PrintMore
attribute [local go_sem] max2_int min2_int max_two min_two max_three min_three max_four min_four
set_option linter.unusedVariables false
set_option linter.unusedSimpArgs false
def quoinlaw02_awake.f (k : Nat)  : Option (Bool) := (runes_Of.f k (([(⟨98, 99⟩ : S36), (⟨97, 97⟩ : S36)] : List (S36)))).bind fun bt244 => ((runes_Text.f k bt244.1).bind fun bt248 => (if bt244.2 = 0 then (if bt248.2 = 0 then (if bt248.1.toList = ([91, 97, 45, 99, 93] : List UInt8) then ((runes_Has.f k bt244.1 98).bind fun t250 => (if t250 = true then ((runes_Has.f k bt244.1 100).bind fun t251 => (some (!t251))) else (some false))) else (some false)) else (some false)) else (some false)))
theorem quoinlaw02_awake.mono : ∀ k, LeO (quoinlaw02_awake.f k ) (quoinlaw02_awake.f (k + 1) ) := by
 intro  k
 unfold quoinlaw02_awake.f
 have m0 := @runes_Has.mono
 have m1 := @runes_Of.mono
 have m2 := @runes_Text.mono
 exact mO
set_option maxHeartbeats 8000000 in
set_option maxRecDepth 100000 in
theorem quoinlaw02_awake.calls {k : Nat} {r : Bool} {w : World} (h : quoinlaw02_awake.f k  = some r) :
  Calls Tryd.prog 16 #[] w fun e w' => e = .returned (.bool r) ∧ Below w.heap.size w w' := by
 have hu36 := Tryd.underlying36
 have HB := Aside0.mk (Below.refl w.heap.size w)
 have H : ((runes_Of.f k (([(⟨98, 99⟩ : S36), (⟨97, 97⟩ : S36)] : List (S36)))).bind fun bt244 => ((runes_Text.f k bt244.1).bind fun bt248 => (if bt244.2 = 0 then (if bt248.2 = 0 then (if bt248.1.toList = ([91, 97, 45, 99, 93] : List UInt8) then ((runes_Has.f k bt244.1 98).bind fun t250 => (if t250 = true then ((runes_Has.f k bt244.1 100).bind fun t251 => (some (!t251))) else (some false))) else (some false)) else (some false)) else (some false)))) = some r := h
 clear h
 obtain ⟨y241, hy241⟩ : ∃ y_ : List (S36), y_ = (([(⟨98, 99⟩ : S36), (⟨97, 97⟩ : S36)] : List (S36))) := ⟨_, rfl⟩
 replace H : ((runes_Of.f k y241).bind fun bt244 => ((runes_Text.f k bt244.1).bind fun bt248 => (if bt244.2 = 0 then (if bt248.2 = 0 then (if bt248.1.toList = ([91, 97, 45, 99, 93] : List UInt8) then ((runes_Has.f k bt244.1 98).bind fun t250 => (if t250 = true then ((runes_Has.f k bt244.1 100).bind fun t251 => (some (!t251))) else (some false))) else (some false)) else (some false)) else (some false)))) = some r := by first | (rw [hy241]; with_reducible exact H) | (have H2_ := (Option.bind_some _ _).symm.trans H; rw [hy241]; with_reducible exact H2_) | (have H2_ := (Option.bind_some _ _).symm.trans H; with_reducible exact H2_) | with_reducible exact H | (rw [hy241]; exact H) | exact H
 have Ny241 := Aside0.mk hy241
 clear hy241
 replace H := bS H
 obtain ⟨⟨t244, t245⟩, A1, H⟩ := H
 try dsimp only at H
 replace H := bS H
 obtain ⟨⟨t248, t249⟩, A2, H⟩ := H
 try dsimp only at H
 by_cases c3 : t245 = 0
 ·rw [if_pos c3] at H
  have c3b0 := e1 c3
  have c3b1 := e2 c3
  clear c3
  by_cases c4 : t249 = 0
  ·rw [if_pos c4] at H
   have c4b0 := e1 c4
   have c4b1 := e2 c4
   clear c4
   by_cases c5 : t248.toList = ([91, 97, 45, 99, 93] : List UInt8)
   ·rw [if_pos c5] at H
    have c5b0 := e1 c5
    have c5b1 := e2 c5
    clear c5
    replace H := bS H
    obtain ⟨t250, A6, H⟩ := H
    try dsimp only at H
    by_cases c7 : t250 = true
    ·subst c7
     have H1 : ((runes_Has.f k t244 100).bind fun t251 => (some (!t251))) = some r := by rw [if_pos rfl] at H; exact H
     clear H
     have H := H1
     clear H1
     replace H := bS H
     obtain ⟨t251, A8, H⟩ := H
     try dsimp only at H
     obtain rfl := Option.some.inj H
     go_enter Tryd.func16, Tryd.ntmps16
     go_wp2_with (first | ((with_reducible refine gate_dst (N := 8) rfl ?_); refine Kd.R_lit k36 _ 36 ?hg (N := 8) ?hd (xs := ([(⟨98, 99⟩ : S36), (⟨97, 97⟩ : S36)] : List (S36))) (inner := [.int .i32 98, .int .i32 99, .int .i32 97, .int .i32 97]) (ok := fun _ => True) (okp := fun _ => True) ?hr ?hp (fun _ hk => hk) trivial (Below.refl _ _) (Nat.le_refl _) Z25 ?_; (case hd => rfl); (case hg => rfl); (case hr => first | (go_simp; done) | (go_simp; rfl)); (case hp => exact (Reps.c2 (show Kd.M k36 _ _ _ (⟨98, 99⟩ : S36) [.int .i32 98, .int .i32 99] from (k36_mkM _ _ _ (⟨98, 99⟩ : S36) )) (Reps.c2 (show Kd.M k36 _ _ _ (⟨97, 97⟩ : S36) [.int .i32 97, .int .i32 97] from (k36_mkM _ _ _ (⟨97, 97⟩ : S36) )) (Reps.none _ _)))); intro v242 w9 ho10 hb hg_ hnew_; clear hg_ hnew_; (first | rw [← Ny241.out] at ho10 | (simp only [Int.reduceToNat] at ho10; rw [← Ny241.out] at ho10)); have HO243 := Aside0.mk (Kd.R_lower ho10 (below_size zB)); replace HB := Aside0.mk (below_step zB hb); clear hb ho10; obtain ⟨Ao11, co11, eo11⟩ := Kd.R_slice HO243.out; subst eo11) | ((with_reducible refine gC 13 rfl ?_); refine goesL_ (some 9) rfl rfl Tryd.func13 Z14 rfl #[.slice Ao11 y241.length co11] rfl Z2 ?_; (with_reducible refine (runes_Of.calls k _ _ y241 t244 t245 _ ?side1 ?side2 A1.out).mono ?_); (case side1 => repeat (first | exact (Kd.R_reads' HO243.out).2.2 | (with_reducible refine Kd.C_alloc ?_ _) | (with_reducible refine Kd.C_drewN ?_ _) | (with_reducible refine Kd.C_drew ?_))); (case side2 => exact (Kd.R_reads' HO243.out).2.1); rintro e w12 ⟨v246, rfl, ho0, hb⟩; refine ⟨_, rfl, ?_⟩; have HO247 := Aside0.mk (Kd.R_lower (Kd.R_new' ho0 (Kd.R_lt (kK HO243))) (below_size zB)); replace HO243 := Aside0.mk (Kd.R_elder' (kK HO243) (Kd.R_base ho0) hb); replace HB := Aside0.mk (below_step zB hb); (try clear hb); (try clear hb2); (try clear hk); (try clear hi); (try clear ho0); obtain ⟨Ao13, co13, eo13⟩ := Kd.R_slice HO247.out; subst eo13) | ((with_reducible refine gC 34 rfl ?_); refine goesL_ (some 14) rfl rfl Tryd.func34 Z14 rfl #[.slice Ao13 t244.length co13] rfl Z2 ?_; (with_reducible refine (runes_Text.calls k _ _ t244 t248 t249 _ ?side1 ?side2 A2.out).mono ?_); (case side1 => repeat (first | exact (Kd.R_reads' HO247.out).2.2 | (with_reducible refine Kd.C_alloc ?_ _) | (with_reducible refine Kd.C_drewN ?_ _) | (with_reducible refine Kd.C_drew ?_))); (case side2 => exact (Kd.R_reads' HO247.out).2.1); rintro e w14 ⟨rfl, hb⟩; refine ⟨_, rfl, ?_⟩; replace HO243 := Aside0.mk (Kd.R_below (kK HO243) hb); replace HO247 := Aside0.mk (Kd.R_below (kK HO247) hb); replace HB := Aside0.mk (below_step zB hb); (try clear hb); (try clear hb2); (try clear hk); (try clear hi)) | (go_at_call 33; (with_reducible refine (runes_Has.calls k _ _ t244 98 true _ ?side1 ?side2 A6.out).mono ?_); (case side1 => repeat (first | exact (Kd.R_reads' HO247.out).2.2 | (with_reducible refine Kd.C_alloc ?_ _) | (with_reducible refine Kd.C_drewN ?_ _) | (with_reducible refine Kd.C_drew ?_))); (case side2 => exact (Kd.R_reads' HO247.out).2.1); rintro e w15 ⟨rfl, hb⟩; replace HO243 := Aside0.mk (Kd.R_below (kK HO243) hb); replace HO247 := Aside0.mk (Kd.R_below (kK HO247) hb); replace HB := Aside0.mk (below_step zB hb); (try clear hb); (try clear hb2); (try clear hk); (try clear hi)) | (go_at_call 33; (with_reducible refine (runes_Has.calls k _ _ t244 100 t251 _ ?side1 ?side2 A8.out).mono ?_); (case side1 => repeat (first | exact (Kd.R_reads' HO247.out).2.2 | (with_reducible refine Kd.C_alloc ?_ _) | (with_reducible refine Kd.C_drewN ?_ _) | (with_reducible refine Kd.C_drew ?_))); (case side2 => exact (Kd.R_reads' HO247.out).2.1); rintro e w16 ⟨rfl, hb⟩; replace HO243 := Aside0.mk (Kd.R_below (kK HO243) hb); replace HO247 := Aside0.mk (Kd.R_below (kK HO247) hb); replace HB := Aside0.mk (below_step zB hb); (try clear hb); (try clear hb2); (try clear hk); (try clear hi)))
     go_ret
     exact ⟨Z4, Z1⟩
    ·replace c7 := Bool.eq_false_iff.mpr c7
     subst c7
     have H1 : (some false) = some r := by rw [if_neg (show ¬ (false = true) by decide)] at H; exact H
     clear H
     have H := H1
     clear H1
     obtain rfl := Option.some.inj H
     go_enter Tryd.func16, Tryd.ntmps16
     go_wp2_with (first | ((with_reducible refine gate_dst (N := 8) rfl ?_); refine Kd.R_lit k36 _ 36 ?hg (N := 8) ?hd (xs := ([(⟨98, 99⟩ : S36), (⟨97, 97⟩ : S36)] : List (S36))) (inner := [.int .i32 98, .int .i32 99, .int .i32 97, .int .i32 97]) (ok := fun _ => True) (okp := fun _ => True) ?hr ?hp (fun _ hk => hk) trivial (Below.refl _ _) (Nat.le_refl _) Z25 ?_; (case hd => rfl); (case hg => rfl); (case hr => first | (go_simp; done) | (go_simp; rfl)); (case hp => exact (Reps.c2 (show Kd.M k36 _ _ _ (⟨98, 99⟩ : S36) [.int .i32 98, .int .i32 99] from (k36_mkM _ _ _ (⟨98, 99⟩ : S36) )) (Reps.c2 (show Kd.M k36 _ _ _ (⟨97, 97⟩ : S36) [.int .i32 97, .int .i32 97] from (k36_mkM _ _ _ (⟨97, 97⟩ : S36) )) (Reps.none _ _)))); intro v242 w17 ho18 hb hg_ hnew_; clear hg_ hnew_; (first | rw [← Ny241.out] at ho18 | (simp only [Int.reduceToNat] at ho18; rw [← Ny241.out] at ho18)); have HO243 := Aside0.mk (Kd.R_lower ho18 (below_size zB)); replace HB := Aside0.mk (below_step zB hb); clear hb ho18; obtain ⟨Ao19, co19, eo19⟩ := Kd.R_slice HO243.out; subst eo19) | ((with_reducible refine gC 13 rfl ?_); refine goesL_ (some 9) rfl rfl Tryd.func13 Z14 rfl #[.slice Ao19 y241.length co19] rfl Z2 ?_; (with_reducible refine (runes_Of.calls k _ _ y241 t244 t245 _ ?side1 ?side2 A1.out).mono ?_); (case side1 => repeat (first | exact (Kd.R_reads' HO243.out).2.2 | (with_reducible refine Kd.C_alloc ?_ _) | (with_reducible refine Kd.C_drewN ?_ _) | (with_reducible refine Kd.C_drew ?_))); (case side2 => exact (Kd.R_reads' HO243.out).2.1); rintro e w20 ⟨v246, rfl, ho0, hb⟩; refine ⟨_, rfl, ?_⟩; have HO247 := Aside0.mk (Kd.R_lower (Kd.R_new' ho0 (Kd.R_lt (kK HO243))) (below_size zB)); replace HO243 := Aside0.mk (Kd.R_elder' (kK HO243) (Kd.R_base ho0) hb); replace HB := Aside0.mk (below_step zB hb); (try clear hb); (try clear hb2); (try clear hk); (try clear hi); (try clear ho0); obtain ⟨Ao21, co21, eo21⟩ := Kd.R_slice HO247.out; subst eo21) | ((with_reducible refine gC 34 rfl ?_); refine goesL_ (some 14) rfl rfl Tryd.func34 Z14 rfl #[.slice Ao21 t244.length co21] rfl Z2 ?_; (with_reducible refine (runes_Text.calls k _ _ t244 t248 t249 _ ?side1 ?side2 A2.out).mono ?_); (case side1 => repeat (first | exact (Kd.R_reads' HO247.out).2.2 | (with_reducible refine Kd.C_alloc ?_ _) | (with_reducible refine Kd.C_drewN ?_ _) | (with_reducible refine Kd.C_drew ?_))); (case side2 => exact (Kd.R_reads' HO247.out).2.1); rintro e w22 ⟨rfl, hb⟩; refine ⟨_, rfl, ?_⟩; replace HO243 := Aside0.mk (Kd.R_below (kK HO243) hb); replace HO247 := Aside0.mk (Kd.R_below (kK HO247) hb); replace HB := Aside0.mk (below_step zB hb); (try clear hb); (try clear hb2); (try clear hk); (try clear hi)) | (go_at_call 33; (with_reducible refine (runes_Has.calls k _ _ t244 98 false _ ?side1 ?side2 A6.out).mono ?_); (case side1 => repeat (first | exact (Kd.R_reads' HO247.out).2.2 | (with_reducible refine Kd.C_alloc ?_ _) | (with_reducible refine Kd.C_drewN ?_ _) | (with_reducible refine Kd.C_drew ?_))); (case side2 => exact (Kd.R_reads' HO247.out).2.1); rintro e w23 ⟨rfl, hb⟩; replace HO243 := Aside0.mk (Kd.R_below (kK HO243) hb); replace HO247 := Aside0.mk (Kd.R_below (kK HO247) hb); replace HB := Aside0.mk (below_step zB hb); (try clear hb); (try clear hb2); (try clear hk); (try clear hi)))
     go_ret
     exact ⟨Z4, Z1⟩
   ·rw [if_neg c5] at H
    have c5b0 := e3 c5
    have c5b1 := e4 c5
    obtain rfl := Option.some.inj H
    go_enter Tryd.func16, Tryd.ntmps16
    go_wp2_with (first | ((with_reducible refine gate_dst (N := 8) rfl ?_); refine Kd.R_lit k36 _ 36 ?hg (N := 8) ?hd (xs := ([(⟨98, 99⟩ : S36), (⟨97, 97⟩ : S36)] : List (S36))) (inner := [.int .i32 98, .int .i32 99, .int .i32 97, .int .i32 97]) (ok := fun _ => True) (okp := fun _ => True) ?hr ?hp (fun _ hk => hk) trivial (Below.refl _ _) (Nat.le_refl _) Z25 ?_; (case hd => rfl); (case hg => rfl); (case hr => first | (go_simp; done) | (go_simp; rfl)); (case hp => exact (Reps.c2 (show Kd.M k36 _ _ _ (⟨98, 99⟩ : S36) [.int .i32 98, .int .i32 99] from (k36_mkM _ _ _ (⟨98, 99⟩ : S36) )) (Reps.c2 (show Kd.M k36 _ _ _ (⟨97, 97⟩ : S36) [.int .i32 97, .int .i32 97] from (k36_mkM _ _ _ (⟨97, 97⟩ : S36) )) (Reps.none _ _)))); intro v242 w24 ho25 hb hg_ hnew_; clear hg_ hnew_; (first | rw [← Ny241.out] at ho25 | (simp only [Int.reduceToNat] at ho25; rw [← Ny241.out] at ho25)); have HO243 := Aside0.mk (Kd.R_lower ho25 (below_size zB)); replace HB := Aside0.mk (below_step zB hb); clear hb ho25; obtain ⟨Ao26, co26, eo26⟩ := Kd.R_slice HO243.out; subst eo26) | ((with_reducible refine gC 13 rfl ?_); refine goesL_ (some 9) rfl rfl Tryd.func13 Z14 rfl #[.slice Ao26 y241.length co26] rfl Z2 ?_; (with_reducible refine (runes_Of.calls k _ _ y241 t244 t245 _ ?side1 ?side2 A1.out).mono ?_); (case side1 => repeat (first | exact (Kd.R_reads' HO243.out).2.2 | (with_reducible refine Kd.C_alloc ?_ _) | (with_reducible refine Kd.C_drewN ?_ _) | (with_reducible refine Kd.C_drew ?_))); (case side2 => exact (Kd.R_reads' HO243.out).2.1); rintro e w27 ⟨v246, rfl, ho0, hb⟩; refine ⟨_, rfl, ?_⟩; have HO247 := Aside0.mk (Kd.R_lower (Kd.R_new' ho0 (Kd.R_lt (kK HO243))) (below_size zB)); replace HO243 := Aside0.mk (Kd.R_elder' (kK HO243) (Kd.R_base ho0) hb); replace HB := Aside0.mk (below_step zB hb); (try clear hb); (try clear hb2); (try clear hk); (try clear hi); (try clear ho0); obtain ⟨Ao28, co28, eo28⟩ := Kd.R_slice HO247.out; subst eo28) | ((with_reducible refine gC 34 rfl ?_); refine goesL_ (some 14) rfl rfl Tryd.func34 Z14 rfl #[.slice Ao28 t244.length co28] rfl Z2 ?_; (with_reducible refine (runes_Text.calls k _ _ t244 t248 t249 _ ?side1 ?side2 A2.out).mono ?_); (case side1 => repeat (first | exact (Kd.R_reads' HO247.out).2.2 | (with_reducible refine Kd.C_alloc ?_ _) | (with_reducible refine Kd.C_drewN ?_ _) | (with_reducible refine Kd.C_drew ?_))); (case side2 => exact (Kd.R_reads' HO247.out).2.1); rintro e w29 ⟨rfl, hb⟩; refine ⟨_, rfl, ?_⟩; replace HO243 := Aside0.mk (Kd.R_below (kK HO243) hb); replace HO247 := Aside0.mk (Kd.R_below (kK HO247) hb); replace HB := Aside0.mk (below_step zB hb); (try clear hb); (try clear hb2); (try clear hk); (try clear hi)))
    go_ret
    exact ⟨Z4, Z1⟩
  ·rw [if_neg c4] at H
   have c4b0 := e3 c4
   have c4b1 := e4 c4
   obtain rfl := Option.some.inj H
   go_enter Tryd.func16, Tryd.ntmps16
   go_wp2_with (first | ((with_reducible refine gate_dst (N := 8) rfl ?_); refine Kd.R_lit k36 _ 36 ?hg (N := 8) ?hd (xs := ([(⟨98, 99⟩ : S36), (⟨97, 97⟩ : S36)] : List (S36))) (inner := [.int .i32 98, .int .i32 99, .int .i32 97, .int .i32 97]) (ok := fun _ => True) (okp := fun _ => True) ?hr ?hp (fun _ hk => hk) trivial (Below.refl _ _) (Nat.le_refl _) Z25 ?_; (case hd => rfl); (case hg => rfl); (case hr => first | (go_simp; done) | (go_simp; rfl)); (case hp => exact (Reps.c2 (show Kd.M k36 _ _ _ (⟨98, 99⟩ : S36) [.int .i32 98, .int .i32 99] from (k36_mkM _ _ _ (⟨98, 99⟩ : S36) )) (Reps.c2 (show Kd.M k36 _ _ _ (⟨97, 97⟩ : S36) [.int .i32 97, .int .i32 97] from (k36_mkM _ _ _ (⟨97, 97⟩ : S36) )) (Reps.none _ _)))); intro v242 w30 ho31 hb hg_ hnew_; clear hg_ hnew_; (first | rw [← Ny241.out] at ho31 | (simp only [Int.reduceToNat] at ho31; rw [← Ny241.out] at ho31)); have HO243 := Aside0.mk (Kd.R_lower ho31 (below_size zB)); replace HB := Aside0.mk (below_step zB hb); clear hb ho31; obtain ⟨Ao32, co32, eo32⟩ := Kd.R_slice HO243.out; subst eo32) | ((with_reducible refine gC 13 rfl ?_); refine goesL_ (some 9) rfl rfl Tryd.func13 Z14 rfl #[.slice Ao32 y241.length co32] rfl Z2 ?_; (with_reducible refine (runes_Of.calls k _ _ y241 t244 t245 _ ?side1 ?side2 A1.out).mono ?_); (case side1 => repeat (first | exact (Kd.R_reads' HO243.out).2.2 | (with_reducible refine Kd.C_alloc ?_ _) | (with_reducible refine Kd.C_drewN ?_ _) | (with_reducible refine Kd.C_drew ?_))); (case side2 => exact (Kd.R_reads' HO243.out).2.1); rintro e w33 ⟨v246, rfl, ho0, hb⟩; refine ⟨_, rfl, ?_⟩; have HO247 := Aside0.mk (Kd.R_lower (Kd.R_new' ho0 (Kd.R_lt (kK HO243))) (below_size zB)); replace HO243 := Aside0.mk (Kd.R_elder' (kK HO243) (Kd.R_base ho0) hb); replace HB := Aside0.mk (below_step zB hb); (try clear hb); (try clear hb2); (try clear hk); (try clear hi); (try clear ho0); obtain ⟨Ao34, co34, eo34⟩ := Kd.R_slice HO247.out; subst eo34) | ((with_reducible refine gC 34 rfl ?_); refine goesL_ (some 14) rfl rfl Tryd.func34 Z14 rfl #[.slice Ao34 t244.length co34] rfl Z2 ?_; (with_reducible refine (runes_Text.calls k _ _ t244 t248 t249 _ ?side1 ?side2 A2.out).mono ?_); (case side1 => repeat (first | exact (Kd.R_reads' HO247.out).2.2 | (with_reducible refine Kd.C_alloc ?_ _) | (with_reducible refine Kd.C_drewN ?_ _) | (with_reducible refine Kd.C_drew ?_))); (case side2 => exact (Kd.R_reads' HO247.out).2.1); rintro e w35 ⟨rfl, hb⟩; refine ⟨_, rfl, ?_⟩; replace HO243 := Aside0.mk (Kd.R_below (kK HO243) hb); replace HO247 := Aside0.mk (Kd.R_below (kK HO247) hb); replace HB := Aside0.mk (below_step zB hb); (try clear hb); (try clear hb2); (try clear hk); (try clear hi)))
   go_ret
   exact ⟨Z4, Z1⟩
 ·rw [if_neg c3] at H
  have c3b0 := e3 c3
  have c3b1 := e4 c3
  obtain rfl := Option.some.inj H
  go_enter Tryd.func16, Tryd.ntmps16
  go_wp2_with (first | ((with_reducible refine gate_dst (N := 8) rfl ?_); refine Kd.R_lit k36 _ 36 ?hg (N := 8) ?hd (xs := ([(⟨98, 99⟩ : S36), (⟨97, 97⟩ : S36)] : List (S36))) (inner := [.int .i32 98, .int .i32 99, .int .i32 97, .int .i32 97]) (ok := fun _ => True) (okp := fun _ => True) ?hr ?hp (fun _ hk => hk) trivial (Below.refl _ _) (Nat.le_refl _) Z25 ?_; (case hd => rfl); (case hg => rfl); (case hr => first | (go_simp; done) | (go_simp; rfl)); (case hp => exact (Reps.c2 (show Kd.M k36 _ _ _ (⟨98, 99⟩ : S36) [.int .i32 98, .int .i32 99] from (k36_mkM _ _ _ (⟨98, 99⟩ : S36) )) (Reps.c2 (show Kd.M k36 _ _ _ (⟨97, 97⟩ : S36) [.int .i32 97, .int .i32 97] from (k36_mkM _ _ _ (⟨97, 97⟩ : S36) )) (Reps.none _ _)))); intro v242 w36 ho37 hb hg_ hnew_; clear hg_ hnew_; (first | rw [← Ny241.out] at ho37 | (simp only [Int.reduceToNat] at ho37; rw [← Ny241.out] at ho37)); have HO243 := Aside0.mk (Kd.R_lower ho37 (below_size zB)); replace HB := Aside0.mk (below_step zB hb); clear hb ho37; obtain ⟨Ao38, co38, eo38⟩ := Kd.R_slice HO243.out; subst eo38) | ((with_reducible refine gC 13 rfl ?_); refine goesL_ (some 9) rfl rfl Tryd.func13 Z14 rfl #[.slice Ao38 y241.length co38] rfl Z2 ?_; (with_reducible refine (runes_Of.calls k _ _ y241 t244 t245 _ ?side1 ?side2 A1.out).mono ?_); (case side1 => repeat (first | exact (Kd.R_reads' HO243.out).2.2 | (with_reducible refine Kd.C_alloc ?_ _) | (with_reducible refine Kd.C_drewN ?_ _) | (with_reducible refine Kd.C_drew ?_))); (case side2 => exact (Kd.R_reads' HO243.out).2.1); rintro e w39 ⟨v246, rfl, ho0, hb⟩; refine ⟨_, rfl, ?_⟩; have HO247 := Aside0.mk (Kd.R_lower (Kd.R_new' ho0 (Kd.R_lt (kK HO243))) (below_size zB)); replace HO243 := Aside0.mk (Kd.R_elder' (kK HO243) (Kd.R_base ho0) hb); replace HB := Aside0.mk (below_step zB hb); (try clear hb); (try clear hb2); (try clear hk); (try clear hi); (try clear ho0); obtain ⟨Ao40, co40, eo40⟩ := Kd.R_slice HO247.out; subst eo40) | ((with_reducible refine gC 34 rfl ?_); refine goesL_ (some 14) rfl rfl Tryd.func34 Z14 rfl #[.slice Ao40 t244.length co40] rfl Z2 ?_; (with_reducible refine (runes_Text.calls k _ _ t244 t248 t249 _ ?side1 ?side2 A2.out).mono ?_); (case side1 => repeat (first | exact (Kd.R_reads' HO247.out).2.2 | (with_reducible refine Kd.C_alloc ?_ _) | (with_reducible refine Kd.C_drewN ?_ _) | (with_reducible refine Kd.C_drew ?_))); (case side2 => exact (Kd.R_reads' HO247.out).2.1); rintro e w41 ⟨rfl, hb⟩; refine ⟨_, rfl, ?_⟩; replace HO243 := Aside0.mk (Kd.R_below (kK HO243) hb); replace HO247 := Aside0.mk (Kd.R_below (kK HO247) hb); replace HB := Aside0.mk (below_step zB hb); (try clear hb); (try clear hb2); (try clear hk); (try clear hi)))
  go_ret
  exact ⟨Z4, Z1⟩
mutual
def quoinref02_Check.l0 : Nat → List (S36) → Int → Option (Int)
 | 0, _, _ => none
 | k + 1, x0, x3 => if x3 < (x0.length : Int) then (if 0 ≤ x3 then (if ((rd_T36 x0 x3).f0) < 0 then (quoinref02_Check.j1 k x0 x3 true) else (if ((rd_T36 x0 x3).f0) > ((rd_T36 x0 x3).f1) then (quoinref02_Check.j1 k x0 x3 true) else (quoinref02_Check.j1 k x0 x3 (decide (((rd_T36 x0 x3).f1) > 1114111))))) else (none)) else (if (x0.length : Int) > 2048 then (some 21) else (some 0))
def quoinref02_Check.j1 : Nat → List (S36) → Int → Bool → Option (Int)
 | 0, _, _, _ => none
 | k + 1, x0, x3, x36 => if x36 = true then (some 20) else (if x3 > 0 then (if 0 ≤ x3 then (if x3 < (x0.length : Int) then (if 0 ≤ (wrap64 (x3 - 1)) then (if (wrap64 (x3 - 1)) < (x0.length : Int) then (if ((rd_T36 x0 x3).f0) < (wrap32 (((rd_T36 x0 (wrap64 (x3 - 1))).f1) + 2)) then (some 20) else (quoinref02_Check.l0 k x0 (wrap64 (x3 + 1)))) else (none)) else (none)) else (none)) else (none)) else (quoinref02_Check.l0 k x0 (wrap64 (x3 + 1))))
end
def quoinref02_Check.f (k : Nat) (l0 : List (S36)) : Option (Int) := quoinref02_Check.l0 k l0 0
set_option maxHeartbeats 8000000 in
set_option maxRecDepth 100000 in
theorem quoinref02_Check.calls (k : Nat) (A0 : Option Addr) (c0 : Nat) (l0 : List (S36)) (r : Int) (w : World) (hr0 : Kd.C k36 w A0 l0.length l0) (hc0 : l0.length ≤ c0) (h : quoinref02_Check.f k l0 = some r) :
  Calls Tryd.prog 18 #[.slice A0 l0.length c0] w fun e w' => e = .returned (.int .i64 r) ∧ Drawn0 w w' := by
 have HR0 := Aside0.mk hr0
 have HC0 := Aside0.mk hc0
 clear hr0 hc0
 have H : (quoinref02_Check.l0 k l0 0) = some r := h
 clear h
 have H' := Aside0.mk H
 clear H
 go_enter Tryd.func18, Tryd.ntmps18
 go_wp2
 repeat (go_quiet (fail); try go_wp2)
 go_loopg [3] k (fun kq v3 w' => ∃ (x3_1 : Int), v3 = .int .i64 x3_1 ∧ Aside0 (quoinref02_Check.l0 kq l0 x3_1 = some r) ∧ Aside0 (kq ≤ k) ∧ Drawn0 w w')
 case atStart => exact ⟨(0), Z3, H', ⟨Nat.le_refl _⟩, Z7⟩
 case round =>
  clear H'
  try clear c1
  obtain ⟨x3_1, rfl, HA, HK1, ⟨m1, rfl⟩⟩ := hrel
  cases gk with
  | zero => exact absurd HA.out (by simp [quoinref02_Check.l0])
  | succ k1 =>
   have H := HA.out
   clear HA
   simp only [quoinref02_Check.l0] at H
   by_cases c2 : x3_1 < (l0.length : Int)
   ·rw [if_pos c2] at H
    have c2b0 := decide_eq_true c2
    clear c2
    have HC3 := Aside0.mk H
    clear H
    go_upto_region 4 with (fail)
    repeat (go_quiet (fail); go_upto_region 4 with (fail))
    go_cut [36] (fun v36 wc => ∃ (kq : Nat) (x36_2 : Bool), v36 = .bool x36_2 ∧ Aside0 (quoinref02_Check.j1 kq l0 x3_1 x36_2 = some r) ∧ Aside0 (kq ≤ k1) ∧ Drawn0 w wc)
    case first =>
     have H := HC3.out
     clear HC3
     by_cases c4 : 0 ≤ x3_1
     ·rw [if_pos c4] at H
      have c4b0 := decide_eq_true c4
      clear c4
      (first | rw [c4b0] | (simp only [i64_w, i32_w]; rw [c4b0]) | skip)
      by_cases c5 : ((rd_T36 l0 x3_1).f0) < 0
      ·rw [if_pos c5] at H
       have c5b0 := decide_eq_true c5
       clear c5
       have H' := Aside0.mk H
       clear H
       have p262 : 0 ≤ (x3_1 : Int) := of_decide_eq_true Z0
       have q262 : x3_1 < (l0.length : Int) := of_decide_eq_true Z0
       obtain ⟨ad262, e262, hx262_0, hx262_1⟩ := at_T36 HR0.out x3_1 p262 q262
       cases e262
       replace p262 := eq_true p262
       replace q262 := eq_true q262
       go_wp2
       repeat (go_quiet (fail); try go_wp2)
       go_meet
       case rel => exact ⟨_, (true), Z3, H', ⟨by have := HK1.out; first | omega | exact Nat.le_refl _⟩, Z7⟩
      ·rw [if_neg c5] at H
       have c5b0 := decide_eq_false c5
       clear c5
       by_cases c6 : ((rd_T36 l0 x3_1).f0) > ((rd_T36 l0 x3_1).f1)
       ·rw [if_pos c6] at H
        have c6b0 : decide (((rd_T36 l0 x3_1).f1) < ((rd_T36 l0 x3_1).f0)) = true := decide_eq_true c6
        clear c6
        have H' := Aside0.mk H
        clear H
        have p262 : 0 ≤ (x3_1 : Int) := of_decide_eq_true Z0
        have q262 : x3_1 < (l0.length : Int) := of_decide_eq_true Z0
        obtain ⟨ad262, e262, hx262_0, hx262_1⟩ := at_T36 HR0.out x3_1 p262 q262
        cases e262
        replace p262 := eq_true p262
        replace q262 := eq_true q262
        have p263 : 0 ≤ (x3_1 : Int) := of_decide_eq_true Z0
        have q263 : x3_1 < (l0.length : Int) := of_decide_eq_true Z0
        obtain ⟨ad263, e263, hx263_0, hx263_1⟩ := at_T36 HR0.out x3_1 p263 q263
        obtain rfl : ad262 = ad263 := (by injection e263)
        replace p263 := eq_true p263
        replace q263 := eq_true q263
        have p264 : 0 ≤ (x3_1 : Int) := of_decide_eq_true Z0
        have q264 : x3_1 < (l0.length : Int) := of_decide_eq_true Z0
        obtain ⟨ad264, e264, hx264_0, hx264_1⟩ := at_T36 HR0.out x3_1 p264 q264
        obtain rfl : ad262 = ad264 := (by injection e264)
        replace p264 := eq_true p264
        replace q264 := eq_true q264
        go_wp2
        repeat (go_quiet (fail); try go_wp2)
        go_meet
        case rel => exact ⟨_, (true), Z3, H', ⟨by have := HK1.out; first | omega | exact Nat.le_refl _⟩, Z7⟩
       ·rw [if_neg c6] at H
        have c6b0 : decide (((rd_T36 l0 x3_1).f1) < ((rd_T36 l0 x3_1).f0)) = false := decide_eq_false c6
        clear c6
        have H' := Aside0.mk H
        clear H
        have p262 : 0 ≤ (x3_1 : Int) := of_decide_eq_true Z0
        have q262 : x3_1 < (l0.length : Int) := of_decide_eq_true Z0
        obtain ⟨ad262, e262, hx262_0, hx262_1⟩ := at_T36 HR0.out x3_1 p262 q262
        cases e262
        replace p262 := eq_true p262
        replace q262 := eq_true q262
        have p263 : 0 ≤ (x3_1 : Int) := of_decide_eq_true Z0
        have q263 : x3_1 < (l0.length : Int) := of_decide_eq_true Z0
        obtain ⟨ad263, e263, hx263_0, hx263_1⟩ := at_T36 HR0.out x3_1 p263 q263
        obtain rfl : ad262 = ad263 := (by injection e263)
        replace p263 := eq_true p263
        replace q263 := eq_true q263
        have p264 : 0 ≤ (x3_1 : Int) := of_decide_eq_true Z0
        have q264 : x3_1 < (l0.length : Int) := of_decide_eq_true Z0
        obtain ⟨ad264, e264, hx264_0, hx264_1⟩ := at_T36 HR0.out x3_1 p264 q264
        obtain rfl : ad262 = ad264 := (by injection e264)
        replace p264 := eq_true p264
        replace q264 := eq_true q264
        have p265 : 0 ≤ (x3_1 : Int) := of_decide_eq_true Z0
        have q265 : x3_1 < (l0.length : Int) := of_decide_eq_true Z0
        obtain ⟨ad265, e265, hx265_0, hx265_1⟩ := at_T36 HR0.out x3_1 p265 q265
        obtain rfl : ad262 = ad265 := (by injection e265)
        replace p265 := eq_true p265
        replace q265 := eq_true q265
        go_wp2
        repeat (go_quiet (fail); try go_wp2)
        go_meet
        case rel => exact ⟨_, (decide (((rd_T36 l0 x3_1).f1) > 1114111)), Z3, H', ⟨by have := HK1.out; first | omega | exact Nat.le_refl _⟩, Z7⟩
     ·rw [if_neg c4] at H
      exact absurd H Z25
    case rest =>
     clear HC3
     try clear c1
     try clear c2
     try clear c2b0
     try clear p2
     try clear q2
     try clear hx2
     try clear c4
     try clear c4b0
     try clear c5
     try clear c5b0
     try clear c6
     try clear c6b0
     try clear hx262_0
     try clear hx262_1
     try clear hx263_0
     try clear hx263_1
     try clear hx264_0
     try clear hx264_1
     try clear hx265_0
     try clear hx265_1
     try clear p262
     try clear p263
     try clear p264
     try clear p265
     try clear q262
     try clear q263
     try clear q264
     try clear q265
     obtain ⟨kq, x36_2, rfl, HA, HJ2, ⟨mc2, rfl⟩⟩ := hcut
     cases kq with
     | zero => exact absurd HA.out (by simp [quoinref02_Check.j1])
     | succ kj2 =>
      have H := HA.out
      clear HA
      simp only [quoinref02_Check.j1] at H
      by_cases c7 : x36_2 = true
      ·subst c7
       have H1 : (some 20) = some r := by rw [if_pos rfl] at H; exact H
       clear H
       have H := H1
       clear H1
       obtain rfl := Option.some.inj H
       go_wp2
       repeat (go_quiet (fail); try go_wp2)
       go_ret
       exact ⟨Z3, Z7⟩
      ·replace c7 := Bool.eq_false_iff.mpr c7
       subst c7
       have H1 : (if x3_1 > 0 then (if 0 ≤ x3_1 then (if x3_1 < (l0.length : Int) then (if 0 ≤ (wrap64 (x3_1 - 1)) then (if (wrap64 (x3_1 - 1)) < (l0.length : Int) then (if ((rd_T36 l0 x3_1).f0) < (wrap32 (((rd_T36 l0 (wrap64 (x3_1 - 1))).f1) + 2)) then (some 20) else (quoinref02_Check.l0 kj2 l0 (wrap64 (x3_1 + 1)))) else (none)) else (none)) else (none)) else (none)) else (quoinref02_Check.l0 kj2 l0 (wrap64 (x3_1 + 1)))) = some r := by rw [if_neg (show ¬ (false = true) by decide)] at H; exact H
       clear H
       have H := H1
       clear H1
       by_cases c8 : x3_1 > 0
       ·rw [if_pos c8] at H
        have c8b0 : decide (0 < x3_1) = true := decide_eq_true c8
        clear c8
        by_cases c9 : 0 ≤ x3_1
        ·rw [if_pos c9] at H
         have c9b0 := decide_eq_true c9
         clear c9
         by_cases c10 : x3_1 < (l0.length : Int)
         ·rw [if_pos c10] at H
          have c10b0 := decide_eq_true c10
          clear c10
          obtain ⟨ji11, hji11⟩ : ∃ j_ : Int, (wrap64 (x3_1 - 1)) = j_ := ⟨_, rfl⟩
          replace H : (if 0 ≤ (ji11) then (if (ji11) < (l0.length : Int) then (if ((rd_T36 l0 x3_1).f0) < (wrap32 (((rd_T36 l0 (ji11)).f1) + 2)) then (some 20) else (quoinref02_Check.l0 kj2 l0 (wrap64 (x3_1 + 1)))) else (none)) else (none)) = some r := by first | (rw [hji11] at H; exact H) | (simp only [hji11] at H ⊢; exact H)
          have hji11w : (IntKind.i64.wrap (x3_1 - 1)) = ji11 := (i64_w _).trans hji11
          by_cases c12 : 0 ≤ (ji11)
          ·rw [if_pos c12] at H
           have c12b0 := decide_eq_true c12
           clear c12
           by_cases c13 : (ji11) < (l0.length : Int)
           ·rw [if_pos c13] at H
            have c13b0 := decide_eq_true c13
            clear c13
            by_cases c14 : ((rd_T36 l0 x3_1).f0) < (wrap32 (((rd_T36 l0 (ji11)).f1) + 2))
            ·rw [if_pos c14] at H
             have c14b0 := decide_eq_true c14
             clear c14
             obtain rfl := Option.some.inj H
             have p266 : 0 ≤ (x3_1 : Int) := of_decide_eq_true Z0
             have q266 : x3_1 < (l0.length : Int) := of_decide_eq_true Z0
             obtain ⟨ad266, e266, hx266_0, hx266_1⟩ := at_T36 HR0.out x3_1 p266 q266
             cases e266
             replace p266 := eq_true p266
             replace q266 := eq_true q266
             have p267 : 0 ≤ ((ji11) : Int) := of_decide_eq_true Z0
             have q267 : (ji11) < (l0.length : Int) := of_decide_eq_true Z0
             obtain ⟨ad267, e267, hx267_0, hx267_1⟩ := at_T36 HR0.out (ji11) p267 q267
             obtain rfl : ad266 = ad267 := (by injection e267)
             replace p267 := eq_true p267
             replace q267 := eq_true q267
             go_wp2
             repeat (go_quiet (fail); try go_wp2)
             go_ret
             exact ⟨by first | rfl | (simp; done) | (simp only [← hji11] <;> (first | rfl | (simp; done))) | (simp only [← hji11] <;> rw [u32_tmod]) | (simp only [← hji11] <;> simp <;> omega) | (simp [*]; done) | (simp <;> omega) | rw [u32_tmod], Z7⟩
            ·rw [if_neg c14] at H
             have c14b0 := decide_eq_false c14
             clear c14
             have H' := Aside0.mk H
             clear H
             have p266 : 0 ≤ (x3_1 : Int) := of_decide_eq_true Z0
             have q266 : x3_1 < (l0.length : Int) := of_decide_eq_true Z0
             obtain ⟨ad266, e266, hx266_0, hx266_1⟩ := at_T36 HR0.out x3_1 p266 q266
             cases e266
             replace p266 := eq_true p266
             replace q266 := eq_true q266
             have p267 : 0 ≤ ((ji11) : Int) := of_decide_eq_true Z0
             have q267 : (ji11) < (l0.length : Int) := of_decide_eq_true Z0
             obtain ⟨ad267, e267, hx267_0, hx267_1⟩ := at_T36 HR0.out (ji11) p267 q267
             obtain rfl : ad266 = ad267 := (by injection e267)
             replace p267 := eq_true p267
             replace q267 := eq_true q267
             go_wp2
             repeat (go_quiet (fail); try go_wp2)
             go_roundg kj2
             case measure => have := HK1.out; have := HJ2.out; omega
             case rel => exact ⟨(wrap64 (x3_1 + 1)), Z3, H', ⟨by have := HK1.out; have := HJ2.out; omega⟩, Z7⟩
           ·rw [if_neg c13] at H
            exact absurd H Z25
          ·rw [if_neg c12] at H
           exact absurd H Z25
         ·rw [if_neg c10] at H
          exact absurd H Z25
        ·rw [if_neg c9] at H
         exact absurd H Z25
       ·rw [if_neg c8] at H
        have c8b0 : decide (0 < x3_1) = false := decide_eq_false c8
        clear c8
        have H' := Aside0.mk H
        clear H
        go_wp2
        repeat (go_quiet (fail); try go_wp2)
        go_roundg kj2
        case measure => have := HK1.out; have := HJ2.out; omega
        case rel => exact ⟨(wrap64 (x3_1 + 1)), Z3, H', ⟨by have := HK1.out; have := HJ2.out; omega⟩, Z7⟩
   ·rw [if_neg c2] at H
    have c2b0 := decide_eq_false c2
    clear c2
    by_cases c15 : (l0.length : Int) > 2048
    ·rw [if_pos c15] at H
     have c15b0 : decide (2048 < (l0.length : Int)) = true := decide_eq_true c15
     have c15b1 : decide (2048 < l0.length) = true := decide_eq_true Z21
     clear c15
     obtain rfl := Option.some.inj H
     go_wp2
     repeat (go_quiet (fail); try go_wp2)
     go_ret
     exact ⟨Z3, Z7⟩
    ·rw [if_neg c15] at H
     have c15b0 : decide (2048 < (l0.length : Int)) = false := decide_eq_false c15
     have c15b1 : decide (2048 < l0.length) = false := decide_eq_false Z21
     clear c15
     obtain rfl := Option.some.inj H
     go_wp2
     repeat (go_quiet (fail); try go_wp2)
     go_ret
     exact ⟨Z3, Z7⟩
def runes_checked.l0 : Nat → List (List (S36)) → Int → Int → Option (Int)
 | 0, _, _, _ => none
 | k + 1, x6, x7, x8 => if x8 < x7 then (if 0 ≤ x8 then (if x8 < (x6.length : Int) then ((runes_Check.f k (rd_L2 x6 x8)).bind fun t280 => (if t280 = 0 then (runes_checked.l0 k x6 x7 (wrap64 (x8 + 1))) else (some t280))) else (none)) else (none)) else (some 0)
def runes_checked.f (k : Nat) (l0 : List (List (S36))) : Option (Int) := runes_checked.l0 k l0 (l0.length : Int) 0
set_option maxHeartbeats 8000000 in
set_option maxRecDepth 100000 in
theorem runes_checked.calls (k : Nat) (A0 : Option Addr) (c0 : Nat) (l0 : List (List (S36))) (r : Int) (w : World) (hr0 : Kd.C (Kd.slice 36 k36) w A0 l0.length l0) (hc0 : l0.length ≤ c0) (h : runes_checked.f k l0 = some r) :
  Calls Tryd.prog 46 #[.slice A0 l0.length c0] w fun e w' => e = .returned (.int .i64 r) ∧ Below w.heap.size w w' := by
 have HR0 := Aside0.mk hr0
 have HC0 := Aside0.mk hc0
 clear hr0 hc0
 have HB := Aside0.mk (Below.refl w.heap.size w)
 have H : (runes_checked.l0 k l0 (l0.length : Int) 0) = some r := h
 clear h
 have H' := Aside0.mk H
 clear H
 go_enter Tryd.func46, Tryd.ntmps46
 go_wp2
 go_loopg [8] k (fun kq v8 w' => ∃ (x8_1 : Int), v8 = .int .i64 x8_1 ∧ Aside0 (runes_checked.l0 kq l0 (l0.length : Int) x8_1 = some r) ∧ Aside0 (kq ≤ k) ∧ Aside0 (Below w.heap.size w w'))
 case atStart => exact ⟨(0), Z3, H', ⟨Nat.le_refl _⟩, ⟨Z1⟩⟩
 case round =>
  clear H'
  obtain ⟨x8_1, rfl, HA, HK1, HB⟩ := hrel
  cases gk with
  | zero => exact absurd HA.out (by simp [runes_checked.l0])
  | succ k1 =>
   have H := HA.out
   clear HA
   simp only [runes_checked.l0] at H
   by_cases c2 : x8_1 < (l0.length : Int)
   ·rw [if_pos c2] at H
    have c2b0 := decide_eq_true c2
    clear c2
    by_cases c3 : 0 ≤ x8_1
    ·rw [if_pos c3] at H
     have c3b0 := decide_eq_true c3
     clear c3
     by_cases c4 : x8_1 < (l0.length : Int)
     ·rw [if_pos c4] at H
      have c4b0 := decide_eq_true c4
      clear c4
      replace H := bS H
      obtain ⟨t280, A5, H⟩ := H
      try dsimp only at H
      by_cases c6 : t280 = 0
      ·rw [if_pos c6] at H
       have c6b0 := e1 c6
       have c6b1 := e2 c6
       clear c6
       have H' := Aside0.mk H
       clear H
       have p279 : 0 ≤ (x8_1 : Int) := of_decide_eq_true Z0
       have q279 : x8_1 < (l0.length : Int) := of_decide_eq_true Z0
       obtain ⟨ad279, A279_0, c279_0, e279, hx279_0, hl279_0, hi279_0⟩ := at_L2 HR0.out x8_1 p279 q279
       cases e279
       replace hx279_0 := (HB.out.cell (World.block_lt_of_cell? w _ hx279_0)).trans hx279_0
       have HR279_0 := Aside0.mk hi279_0
       have HC279_0 := Aside0.mk hl279_0
       clear hi279_0 hl279_0
       replace p279 := eq_true p279
       replace q279 := eq_true q279
       go_wp2_with (first | ((with_reducible refine gC 17 rfl ?_); refine goesL_ (some 13) rfl rfl Tryd.func17 Z14 rfl #[.slice A279_0 (rd_L2 l0 x8_1).length c279_0] rfl Z2 ?_; (with_reducible refine (runes_Check.calls k1 _ _ (rd_L2 l0 x8_1) t280 _ ?side1 ?side2 A5.out).mono ?_); (case side1 => repeat (first | exact (Kd.C_below HR279_0.out HB.out) | (with_reducible refine Kd.C_alloc ?_ _) | (with_reducible refine Kd.C_drewN ?_ _) | (with_reducible refine Kd.C_drew ?_))); (case side2 => exact HC279_0.out); rintro e w7 ⟨rfl, hb⟩; refine ⟨_, rfl, ?_⟩; replace HB := Aside0.mk (below_step zB hb); (try clear hb); (try clear hb2); (try clear hk); (try clear hi)))
       go_roundg k1
       case measure => have := HK1.out; omega
       case rel => exact ⟨(wrap64 (x8_1 + 1)), Z3, H', ⟨Z23⟩, ⟨Z1⟩⟩
      ·rw [if_neg c6] at H
       have c6b0 := e3 c6
       have c6b1 := e4 c6
       obtain rfl := Option.some.inj H
       have p279 : 0 ≤ (x8_1 : Int) := of_decide_eq_true Z0
       have q279 : x8_1 < (l0.length : Int) := of_decide_eq_true Z0
       obtain ⟨ad279, A279_0, c279_0, e279, hx279_0, hl279_0, hi279_0⟩ := at_L2 HR0.out x8_1 p279 q279
       cases e279
       replace hx279_0 := (HB.out.cell (World.block_lt_of_cell? w _ hx279_0)).trans hx279_0
       have HR279_0 := Aside0.mk hi279_0
       have HC279_0 := Aside0.mk hl279_0
       clear hi279_0 hl279_0
       replace p279 := eq_true p279
       replace q279 := eq_true q279
       go_wp2_with (first | ((with_reducible refine gC 17 rfl ?_); refine goesL_ (some 13) rfl rfl Tryd.func17 Z14 rfl #[.slice A279_0 (rd_L2 l0 x8_1).length c279_0] rfl Z2 ?_; (with_reducible refine (runes_Check.calls k1 _ _ (rd_L2 l0 x8_1) t280 _ ?side1 ?side2 A5.out).mono ?_); (case side1 => repeat (first | exact (Kd.C_below HR279_0.out HB.out) | (with_reducible refine Kd.C_alloc ?_ _) | (with_reducible refine Kd.C_drewN ?_ _) | (with_reducible refine Kd.C_drew ?_))); (case side2 => exact HC279_0.out); rintro e w8 ⟨rfl, hb⟩; refine ⟨_, rfl, ?_⟩; replace HB := Aside0.mk (below_step zB hb); (try clear hb); (try clear hb2); (try clear hk); (try clear hi)))
       go_ret
       exact ⟨Z4, Z1⟩
     ·rw [if_neg c4] at H
      exact absurd H Z25
    ·rw [if_neg c3] at H
     exact absurd H Z25
   ·rw [if_neg c2] at H
    have c2b0 := decide_eq_false c2
    clear c2
    obtain rfl := Option.some.inj H
    go_wp2
    go_ret
    exact ⟨Z4, Z1⟩
def api_Range_47.f (l0 : List (List S36)) : Option (List S36) := if l0.flatten.length ≤ 17592186044416 then some l0.flatten else none
theorem api_Range_47.step (l : List (List S36)) (x : Int) (h0 : 0 ≤ x) (h : x < (l.length : Int)) : (l.take (x + 1).toNat).flatten = (l.take x.toNat).flatten ++ rd_L2 l x := by
 have hl : x.toNat < l.length := by omega
 rw [show (x + 1).toNat = x.toNat + 1 from by omega, List.take_succ_eq_append_getElem hl, List.flatten_append]
 unfold rd_L2
 rw [List.getD_eq_getElem?_getD, List.getElem?_eq_getElem hl]
 simp
theorem api_Range_47.le (l : List (List S36)) (n : Nat) : (l.take n).flatten.length ≤ l.flatten.length := by
 have h := congrArg (fun z => z.flatten.length) (List.take_append_drop n l)
 simp only [List.flatten_append, List.length_append] at h
 omega
def api_Range_47.ren : Go.Shelf.Ren := ⟨fun | 4 => 66 | n => n, fun | 25 => 36 | n => n, fun n => n⟩
theorem api_Range_47.growL : Lays8.n4 Tryd.prog api_Range_47.ren := {
 mixed := by kernel_rfl
 f4 := ⟨Tryd.f66.name, Z27, Tryd.func66.trans (congrArg some Z14)⟩
 t0 := Tryd.underlying0
 a0 := Tryd.isAgg0
 z0 := Tryd.sizeOf0
 v0 := Tryd.zeroValue0
 t3 := Tryd.underlying3
 a3 := Tryd.isAgg3
 z3 := Tryd.sizeOf3
 v3 := Tryd.zeroValue3
 t4 := Tryd.underlying4
 a4 := Tryd.isAgg4
 z4 := Tryd.sizeOf4
 v4 := Tryd.zeroValue4
 t9 := Tryd.underlying9
 a9 := Tryd.isAgg9
 z9 := Tryd.sizeOf9
 v9 := Tryd.zeroValue9
 t20 := Tryd.underlying20
 a20 := Tryd.isAgg20
 z20 := Tryd.sizeOf20
 v20 := Tryd.zeroValue20
 t22 := Tryd.underlying22
 a22 := Tryd.isAgg22
 z22 := Tryd.sizeOf22
 v22 := Tryd.zeroValue22 }
theorem api_Range_47.zc (cs : Array Value) (n : Nat) : (Builtin.zeroCells cs n).size = n * cs.size := by
 unfold Builtin.zeroCells
 simp
theorem api_Range_47.grow (n : Nat) (w : World) (hn : n * 8 ≤ 140737488355328) :
  Calls Tryd.prog 66 #[.slice none 0 0, .int .i64 n] w fun e w' => ∃ v, e = .returned v ∧ Kd.R k36 36 w' w.heap.size (fun _ => True) v ([] : List S36) ∧ Below w.heap.size w w' := by
 rcases Nat.eq_zero_or_pos n with rfl | hp
 ·refine (Any8.slices_Grow_room api_Range_47.growL none 0 0 0 w (Nat.le_refl _) Z21 Z21 Z21).mono ?_
  rintro e w' ⟨rfl, rfl⟩
  exact ⟨_, rfl, Kd.R_nil _ _ _ _ _, Below.refl _ _⟩
 ·obtain ⟨i0, hi0, hz0, hz1, hz2⟩ := info_parts info36
  refine (Any8.slices_Grow_grow api_Range_47.growL i0 _ hi0 hz0 (by rw [hz1]; decide) none 0 0 n [] w (Nat.le_refl _) Z21 (by rw [hz2]; omega) Z21 Z25 (fun _ => rfl) (fun a h => by cases h)).mono ?_
  rintro e w' ⟨rfl, rfl⟩
  have hge := grownCap_ge w (0 + n) 0 36
  have hle := grownCap_le_maxLen w (0 + n) 0 36 (by unfold maxLen; omega)
  refine ⟨_, rfl, ⟨fun _ _ => trivial, [], ⟨Z25, .inr ⟨w.heap.size, _, _, rfl, Nat.le_refl _, blk_new w.drew _, Nat.zero_le _, hle, ?_, Z25⟩⟩, Reps.none _ _⟩, ?_⟩
  ·show (#[] ++ Builtin.zeroCells _ _ ++ Builtin.zeroCells _ _).size = _
   rw [Array.size_append, Array.size_append, api_Range_47.zc, api_Range_47.zc]
   show 0 + _ * 2 + _ * 2 = _ * 2
   have : (api_Range_47.ren.t 25) = 36 := rfl
   rw [this]
   omega
  ·exact (below_drew1 (Below.refl _ _)).alloc (Nat.le_refl _) _
def api_Range_47.sz (l : List (List S36)) (x : Int) : Int := ((l.take x.toNat).flatten.length : Int)
theorem api_Range_47.sz0 (l : List (List S36)) : api_Range_47.sz l 0 = 0 := by unfold api_Range_47.sz; simp
theorem api_Range_47.sz1 (l : List (List S36)) (x : Int) (h0 : 0 ≤ x) (h : x < (l.length : Int)) (hb : l.flatten.length ≤ 17592186044416) : wrap64 (api_Range_47.sz l x + ((rd_L2 l x).length : Int)) = api_Range_47.sz l (x + 1) ∧ 0 ≤ api_Range_47.sz l (x + 1) := by
 have h1 := congrArg List.length (api_Range_47.step l x h0 h)
 have h2 := api_Range_47.le l (x + 1).toNat
 rw [List.length_append] at h1
 unfold api_Range_47.sz wrap64
 omega
theorem api_Range_47.sz2 (l : List (List S36)) (x : Int) (h : x = (l.length : Int)) : api_Range_47.sz l x = ((l.flatten.length : Nat) : Int) := by
 unfold api_Range_47.sz
 rw [List.take_of_length_le Z21]
set_option maxHeartbeats 8000000 in
set_option maxRecDepth 100000 in
theorem api_Range_47.calls (A0 : Option Addr) (c0 : Nat) (l0 : List (List (S36))) (r : List (S36)) (w : World) (hr0 : Kd.C (Kd.slice 36 k36) w A0 l0.length l0) (hc0 : l0.length ≤ c0) (h : api_Range_47.f l0 = some r) :
  Calls Tryd.prog 47 #[.slice A0 l0.length c0] w fun e w' => ∃ v0_ : Value, e = .returned (v0_) ∧ Kd.R k36 36 w' w.heap.size (fun _ => True) v0_ r ∧ Below w.heap.size w w' := by
 unfold api_Range_47.f at h
 by_cases hb : l0.flatten.length ≤ 17592186044416
 rotate_left
 ·rw [if_neg hb] at h; exact absurd h Z25
 rw [if_pos hb] at h
 obtain rfl := Option.some.inj h
 clear h
 have hlen := hr0.2.1
 have HR0 := Aside0.mk hr0
 clear hr0 hc0
 have HBD := Aside0.mk hb
 clear hb
 go_enter Tryd.func47, Tryd.ntmps47
 go_wp2
 go_loopw [3, 11] (fun s i wr => ∃ (x : Int), 0 ≤ x ∧ x ≤ (l0.length : Int) ∧ i = .int .i64 x ∧ s = .int .i64 (api_Range_47.sz l0 x) ∧ w = wr) (fun _ i _ => l0.length - (intOf i).toNat)
 case atStart => exact ⟨0, Z21, Z21, rfl, by rw [api_Range_47.sz0], rfl⟩
 case round =>
  obtain ⟨x, hx0, hx1, rfl, rfl, rfl⟩ := hrel
  by_cases hlt : x < (l0.length : Int)
  ·have d1 : decide (x < (l0.length : Int)) = true := decide_eq_true hlt
   obtain ⟨ad, A1, c1, e0, h0, h1, h2⟩ := at_L2 HR0.out x hx0 hlt
   cases e0
   obtain ⟨hsum, hpos⟩ := api_Range_47.sz1 l0 x hx0 hlt HBD.out
   have hw : wrap64 (x + 1) = x + 1 := by unfold wrap64; omega
   have d2 : decide (api_Range_47.sz l0 (x + 1) < 0) = false := decide_eq_false Z21
   have p0 := eq_true hx0
   have q0 := eq_true hlt
   go_wp2
   go_roundw
   case rel => exact ⟨x + 1, Z21, Z21, by first | rfl | rw [hw], by first | exact congrArg _ hsum | rfl, Z25⟩
   case measure => simp [intOf]; omega
  ·have d1 : decide (x < (l0.length : Int)) = false := decide_eq_false hlt
   obtain ⟨n, hn⟩ : ∃ n : Nat, n = l0.flatten.length := ⟨_, rfl⟩
   rw [api_Range_47.sz2 l0 x Z21, ← hn]
   have hn8 : n * 8 ≤ 140737488355328 := by have := HBD.out; omega
   clear hlt hx0 hx1 hn
   have hn8 := Aside0.mk hn8
   go_wp2_with (go_at_call 66; refine (api_Range_47.grow n w hn8.out).mono ?_; rintro e W1 ⟨v1, rfl, hR, hB⟩; have R1 := Aside0.mk hR; have B1 := Aside0.mk hB; clear hR hB)
   go_loopw [6, 27] (fun u i wr => ∃ (x : Int), 0 ≤ x ∧ x ≤ (l0.length : Int) ∧ i = .int .i64 x ∧ Aside0 (Kd.R k36 36 wr w.heap.size (fun _ => True) u (l0.take x.toNat).flatten) ∧ Aside0 (Below w.heap.size w wr)) (fun _ i _ => l0.length - (intOf i).toNat)
   case atStart => exact ⟨0, Z21, Z21, rfl, by simpa using R1, B1⟩
   case round =>
    clear R1 B1
    obtain ⟨x, hx0, hx1, rfl, HO, HB⟩ := hrel
    by_cases hlt : x < (l0.length : Int)
    ·have d1 : decide (x < (l0.length : Int)) = true := decide_eq_true hlt
     obtain ⟨ad, A1, c1, e0, h0, h1, h2⟩ := at_L2 HR0.out x hx0 hlt
     cases e0
     replace h0 := (HB.out.cell (World.block_lt_of_cell? w _ h0)).trans h0
     have HR1 := Aside0.mk h2
     clear h2
     obtain ⟨ys, hys⟩ : ∃ ys, rd_L2 l0 x = ys := ⟨_, rfl⟩
     obtain ⟨xs, hxs⟩ : ∃ xs, (l0.take x.toNat).flatten = xs := ⟨_, rfl⟩
     have hst := api_Range_47.step l0 x hx0 hlt
     have hle := api_Range_47.le l0 (x + 1).toNat
     rw [hys, hxs] at hst
     have hl2 : (xs.length + ys.length) * 8 ≤ 140737488355328 := by
      have h3 := congrArg List.length hst
      rw [List.length_append] at h3
      have := HBD.out
      omega
     rw [hxs] at HO
     rw [hys] at h0 h1 HR1
     clear hxs hys hle
     have hst := Aside0.mk hst
     have hl2 := Aside0.mk hl2
     have h1 := Aside0.mk h1
     have hw : wrap64 (x + 1) = x + 1 := by unfold wrap64; omega
     have p0 := eq_true hx0
     have q0 := eq_true hlt
     go_wp2_with ((with_reducible refine gate_builtin (b := .append) (xs := #[.tmp 31, .tmp 32]) rfl ?_); at_builtin; refine Kd.R_append_rows k36 (w0 := w) w.heap.size rfl (.tmp 31) (.tmp 32) 22 36 (.agg #[(.int .i32 0), (.int .i32 0)]) 8 rfl Tryd.underlying22 info36 rfl Z27 Z21 u6 xs ys _ _ _ (fun _ => True) (fun _ => False) rfl rfl ?aO ?aR (fun _ _ h => h) (fun _ h => h.elim) ?aF ?aB ?aS ?aL ?_; (case aR => exact Kd.C_below HR1.out HB.out); (case aB => exact HB.out); (case aF => exact (fun _ _ => trivial)); (case aO => exact HO.out); (case aS => exact (below_size HB.out)); (case aL => exact hl2.out); intro v5 w5 ho hb hg hat; have HO2 := Aside0.mk ho; have HB2 := Aside0.mk hb; clear ho hb hg hat)
     go_roundw
     case rel => exact ⟨x + 1, Z21, Z21, by first | rfl | rw [hw], ⟨by rw [hst.out]; exact HO2.out⟩, HB2⟩
     case measure => simp [intOf]; omega
    ·have d1 : decide (x < (l0.length : Int)) = false := decide_eq_false hlt
     rw [List.take_of_length_le Z21] at HO
     clear hlt hx0 hx1
     go_wp2
     go_ret
     exact ⟨_, rfl, HO.out, HB.out⟩
def runes_Union.f (k : Nat) (l0 : List (List (S36))) : Option ((List (S36)) × Int) := (runes_checked.f k l0).bind fun t281 => (if t281 = 0 then ((api_Range_47.f l0).bind fun t282 => ((runes_made.f k t282).bind fun bt285 => (some (bt285.1, bt285.2)))) else (some (([] : List (S36)), t281)))
set_option maxHeartbeats 8000000 in
set_option maxRecDepth 100000 in
theorem runes_Union.calls (k : Nat) (A0 : Option Addr) (c0 : Nat) (l0 : List (List (S36))) (r1 : List (S36)) (r2 : Int) (w : World) (hr0 : Kd.C (Kd.slice 36 k36) w A0 l0.length l0) (hc0 : l0.length ≤ c0) (h : runes_Union.f k l0 = some (r1, r2)) :
  Calls Tryd.prog 23 #[.slice A0 l0.length c0] w fun e w' => ∃ v0_ : Value, e = .returned (.tuple #[v0_, .int .i64 r2]) ∧ Kd.R k36 36 w' w.heap.size (fun _ => True) v0_ r1 ∧ Below w.heap.size w w' := by
 have HR0 := Aside0.mk hr0
 have HC0 := Aside0.mk hc0
 clear hr0 hc0
 have HB := Aside0.mk (Below.refl w.heap.size w)
 have H : ((runes_checked.f k l0).bind fun t281 => (if t281 = 0 then ((api_Range_47.f l0).bind fun t282 => ((runes_made.f k t282).bind fun bt285 => (some (bt285.1, bt285.2)))) else (some (([] : List (S36)), t281)))) = some (r1, r2) := h
 clear h
 replace H := bS H
 obtain ⟨t281, A2, H⟩ := H
 try dsimp only at H
 by_cases c3 : t281 = 0
 ·rw [if_pos c3] at H
  have c3b0 := e1 c3
  have c3b1 := e2 c3
  clear c3
  replace H := bS H
  obtain ⟨t282, A4, H⟩ := H
  try dsimp only at H
  replace H := bS H
  obtain ⟨⟨t285, t286⟩, A5, H⟩ := H
  try dsimp only at H
  simp only [Option.some.injEq, Prod.mk.injEq] at H
  obtain ⟨rfl, rfl⟩ := H
  go_enter Tryd.func23, Tryd.ntmps23
  go_wp2_with (first | ((with_reducible refine gC 46 rfl ?_); refine goesL_ (some 6) rfl rfl Tryd.func46 Z14 rfl #[.slice A0 l0.length c0] rfl Z2 ?_; (with_reducible refine (runes_checked.calls k _ _ l0 t281 _ ?side1 ?side2 A2.out).mono ?_); (case side1 => repeat (first | exact HR0.out | (with_reducible refine Kd.C_alloc ?_ _) | (with_reducible refine Kd.C_drewN ?_ _) | (with_reducible refine Kd.C_drew ?_))); (case side2 => exact HC0.out); rintro e w6 ⟨rfl, hb⟩; refine ⟨_, rfl, ?_⟩; replace HB := Aside0.mk (below_step zB hb); (try clear hb); (try clear hb2); (try clear hk); (try clear hi)) | ((with_reducible refine gC 47 rfl ?_); refine goesL_ (some 11) rfl rfl Tryd.func47 Z14 rfl #[.slice A0 l0.length c0] rfl Z2 ?_; (with_reducible refine (api_Range_47.calls _ _ l0 t282 _ ?side1 ?side2 A4.out).mono ?_); (case side1 => repeat (first | exact (Kd.C_below HR0.out HB.out) | (with_reducible refine Kd.C_alloc ?_ _) | (with_reducible refine Kd.C_drewN ?_ _) | (with_reducible refine Kd.C_drew ?_))); (case side2 => exact HC0.out); rintro e w7 ⟨v283, rfl, ho0, hb⟩; refine ⟨_, rfl, ?_⟩; have HO284 := Aside0.mk (Kd.R_lower ho0 (below_size zB)); replace HB := Aside0.mk (below_step zB hb); (try clear hb); (try clear hb2); (try clear hk); (try clear hi); (try clear ho0); obtain ⟨Ao8, co8, eo8⟩ := Kd.R_slice HO284.out; subst eo8) | ((with_reducible refine gC 41 rfl ?_); refine goesL_ (some 12) rfl rfl Tryd.func41 Z14 rfl #[.slice Ao8 t282.length co8] rfl Z2 ?_; (with_reducible refine (runes_made.calls k _ _ t282 t285 t286 _ ?side1 ?side2 A5.out).mono ?_); (case side1 => repeat (first | exact (Kd.R_reads' HO284.out).2.2 | (with_reducible refine Kd.C_alloc ?_ _) | (with_reducible refine Kd.C_drewN ?_ _) | (with_reducible refine Kd.C_drew ?_))); (case side2 => exact (Kd.R_reads' HO284.out).2.1); rintro e w9 ⟨v287, rfl, ho0, hb⟩; refine ⟨_, rfl, ?_⟩; have HO288 := Aside0.mk (Kd.R_lower (Kd.R_new' ho0 (Kd.R_lt (kK HO284))) (below_size zB)); replace HO284 := Aside0.mk (Kd.R_elder' (kK HO284) (Kd.R_base ho0) hb); replace HB := Aside0.mk (below_step zB hb); (try clear hb); (try clear hb2); (try clear hk); (try clear hi); (try clear ho0)))
  go_ret2
  exact ⟨_, Z4, by (with_reducible repeat (first | apply Kd.R_alloc | apply Kd.R_drewN | apply Kd.R_drew)); exact Kd.R_mono HO288.out (fun _ hk => trivial), Z1⟩
 ·rw [if_neg c3] at H
  have c3b0 := e3 c3
  have c3b1 := e4 c3
  simp only [Option.some.injEq, Prod.mk.injEq] at H
  obtain ⟨rfl, rfl⟩ := H
  go_enter Tryd.func23, Tryd.ntmps23
  go_wp2_with (first | ((with_reducible refine gC 46 rfl ?_); refine goesL_ (some 6) rfl rfl Tryd.func46 Z14 rfl #[.slice A0 l0.length c0] rfl Z2 ?_; (with_reducible refine (runes_checked.calls k _ _ l0 t281 _ ?side1 ?side2 A2.out).mono ?_); (case side1 => repeat (first | exact HR0.out | (with_reducible refine Kd.C_alloc ?_ _) | (with_reducible refine Kd.C_drewN ?_ _) | (with_reducible refine Kd.C_drew ?_))); (case side2 => exact HC0.out); rintro e w10 ⟨rfl, hb⟩; refine ⟨_, rfl, ?_⟩; replace HB := Aside0.mk (below_step zB hb); (try clear hb); (try clear hb2); (try clear hk); (try clear hi)))
  go_ret2
  exact ⟨_, Z4, Z8, Z1⟩
def quoinref02_checked.l0 : Nat → List (List (S36)) → Int → Option (Int)
 | 0, _, _ => none
 | k + 1, x0, x3 => if x3 < (x0.length : Int) then (if 0 ≤ x3 then ((quoinref02_Check.f k (rd_L2 x0 x3)).bind fun t290 => (if t290 = 0 then (quoinref02_checked.l0 k x0 (wrap64 (x3 + 1))) else (some t290))) else (none)) else (some 0)
def quoinref02_checked.f (k : Nat) (l0 : List (List (S36))) : Option (Int) := quoinref02_checked.l0 k l0 0
set_option maxHeartbeats 8000000 in
set_option maxRecDepth 100000 in
theorem quoinref02_checked.calls (k : Nat) (A0 : Option Addr) (c0 : Nat) (l0 : List (List (S36))) (r : Int) (w : World) (hr0 : Kd.C (Kd.slice 36 k36) w A0 l0.length l0) (hc0 : l0.length ≤ c0) (h : quoinref02_checked.f k l0 = some r) :
  Calls Tryd.prog 48 #[.slice A0 l0.length c0] w fun e w' => e = .returned (.int .i64 r) ∧ Drawn0 w w' := by
 have HR0 := Aside0.mk hr0
 have HC0 := Aside0.mk hc0
 clear hr0 hc0
 have H : (quoinref02_checked.l0 k l0 0) = some r := h
 clear h
 have H' := Aside0.mk H
 clear H
 go_enter Tryd.func48, Tryd.ntmps48
 go_wp2
 go_loopg [3] k (fun kq v3 w' => ∃ (x3_1 : Int), v3 = .int .i64 x3_1 ∧ Aside0 (quoinref02_checked.l0 kq l0 x3_1 = some r) ∧ Aside0 (kq ≤ k) ∧ Drawn0 w w')
 case atStart => exact ⟨(0), Z3, H', ⟨Nat.le_refl _⟩, Z7⟩
 case round =>
  clear H'
  obtain ⟨x3_1, rfl, HA, HK1, ⟨m1, rfl⟩⟩ := hrel
  cases gk with
  | zero => exact absurd HA.out (by simp [quoinref02_checked.l0])
  | succ k1 =>
   have H := HA.out
   clear HA
   simp only [quoinref02_checked.l0] at H
   by_cases c2 : x3_1 < (l0.length : Int)
   ·rw [if_pos c2] at H
    have c2b0 := decide_eq_true c2
    clear c2
    by_cases c3 : 0 ≤ x3_1
    ·rw [if_pos c3] at H
     have c3b0 := decide_eq_true c3
     clear c3
     replace H := bS H
     obtain ⟨t290, A4, H⟩ := H
     try dsimp only at H
     by_cases c5 : t290 = 0
     ·rw [if_pos c5] at H
      have c5b0 := e1 c5
      have c5b1 := e2 c5
      clear c5
      have H' := Aside0.mk H
      clear H
      have p289 : 0 ≤ (x3_1 : Int) := of_decide_eq_true Z0
      have q289 : x3_1 < (l0.length : Int) := of_decide_eq_true Z0
      obtain ⟨ad289, A289_0, c289_0, e289, hx289_0, hl289_0, hi289_0⟩ := at_L2 HR0.out x3_1 p289 q289
      cases e289
      have HR289_0 := Aside0.mk hi289_0
      have HC289_0 := Aside0.mk hl289_0
      clear hi289_0 hl289_0
      replace p289 := eq_true p289
      replace q289 := eq_true q289
      go_wp2_with (first | ((with_reducible refine gC 18 rfl ?_); refine goesL_ (some 15) rfl rfl Tryd.func18 Z14 rfl #[.slice A289_0 (rd_L2 l0 x3_1).length c289_0] rfl Z2 ?_; (with_reducible refine (quoinref02_Check.calls k1 _ _ (rd_L2 l0 x3_1) t290 _ ?side1 ?side2 A4.out).mono ?_); (case side1 => repeat (first | exact HR289_0.out | (with_reducible refine Kd.C_alloc ?_ _) | (with_reducible refine Kd.C_drewN ?_ _) | (with_reducible refine Kd.C_drew ?_))); (case side2 => exact HC289_0.out); rintro e w' ⟨rfl, ⟨nd, rfl⟩⟩; refine ⟨_, rfl, ?_⟩))
      go_roundg k1
      case measure => have := HK1.out; omega
      case rel => exact ⟨(wrap64 (x3_1 + 1)), Z3, H', ⟨Z23⟩, Z7⟩
     ·rw [if_neg c5] at H
      have c5b0 := e3 c5
      have c5b1 := e4 c5
      obtain rfl := Option.some.inj H
      have p289 : 0 ≤ (x3_1 : Int) := of_decide_eq_true Z0
      have q289 : x3_1 < (l0.length : Int) := of_decide_eq_true Z0
      obtain ⟨ad289, A289_0, c289_0, e289, hx289_0, hl289_0, hi289_0⟩ := at_L2 HR0.out x3_1 p289 q289
      cases e289
      have HR289_0 := Aside0.mk hi289_0
      have HC289_0 := Aside0.mk hl289_0
      clear hi289_0 hl289_0
      replace p289 := eq_true p289
      replace q289 := eq_true q289
      go_wp2_with (first | ((with_reducible refine gC 18 rfl ?_); refine goesL_ (some 15) rfl rfl Tryd.func18 Z14 rfl #[.slice A289_0 (rd_L2 l0 x3_1).length c289_0] rfl Z2 ?_; (with_reducible refine (quoinref02_Check.calls k1 _ _ (rd_L2 l0 x3_1) t290 _ ?side1 ?side2 A4.out).mono ?_); (case side1 => repeat (first | exact HR289_0.out | (with_reducible refine Kd.C_alloc ?_ _) | (with_reducible refine Kd.C_drewN ?_ _) | (with_reducible refine Kd.C_drew ?_))); (case side2 => exact HC289_0.out); rintro e w' ⟨rfl, ⟨nd, rfl⟩⟩; refine ⟨_, rfl, ?_⟩))
      go_ret
      exact ⟨Z3, Z7⟩
    ·rw [if_neg c3] at H
     exact absurd H Z25
   ·rw [if_neg c2] at H
    have c2b0 := decide_eq_false c2
    clear c2
    obtain rfl := Option.some.inj H
    go_wp2
    go_ret
    exact ⟨Z3, Z7⟩
def quoinref02_Union.f (k : Nat) (l0 : List (List (S36))) : Option ((List (S36)) × Int) := (quoinref02_checked.f k l0).bind fun t291 => (if t291 = 0 then ((quoinref02_made.f k l0 0).bind fun bt292 => (some (bt292.1, bt292.2))) else (some (([] : List (S36)), t291)))
set_option maxHeartbeats 8000000 in
set_option maxRecDepth 100000 in
theorem quoinref02_Union.calls (k : Nat) (A0 : Option Addr) (c0 : Nat) (l0 : List (List (S36))) (r1 : List (S36)) (r2 : Int) (w : World) (hr0 : Kd.C (Kd.slice 36 k36) w A0 l0.length l0) (hc0 : l0.length ≤ c0) (h : quoinref02_Union.f k l0 = some (r1, r2)) :
  Calls Tryd.prog 24 #[.slice A0 l0.length c0] w fun e w' => ∃ v0_ : Value, e = .returned (.tuple #[v0_, .int .i64 r2]) ∧ Kd.R k36 36 w' w.heap.size (fun _ => True) v0_ r1 ∧ Below w.heap.size w w' := by
 have HR0 := Aside0.mk hr0
 have HC0 := Aside0.mk hc0
 clear hr0 hc0
 have HB := Aside0.mk (Below.refl w.heap.size w)
 have H : ((quoinref02_checked.f k l0).bind fun t291 => (if t291 = 0 then ((quoinref02_made.f k l0 0).bind fun bt292 => (some (bt292.1, bt292.2))) else (some (([] : List (S36)), t291)))) = some (r1, r2) := h
 clear h
 replace H := bS H
 obtain ⟨t291, A2, H⟩ := H
 try dsimp only at H
 by_cases c3 : t291 = 0
 ·rw [if_pos c3] at H
  have c3b0 := e1 c3
  have c3b1 := e2 c3
  clear c3
  replace H := bS H
  obtain ⟨⟨t292, t293⟩, A4, H⟩ := H
  try dsimp only at H
  simp only [Option.some.injEq, Prod.mk.injEq] at H
  obtain ⟨rfl, rfl⟩ := H
  go_enter Tryd.func24, Tryd.ntmps24
  go_wp2_with (first | ((with_reducible refine gC 48 rfl ?_); refine goesL_ (some 6) rfl rfl Tryd.func48 Z14 rfl #[.slice A0 l0.length c0] rfl Z2 ?_; (with_reducible refine (quoinref02_checked.calls k _ _ l0 t291 _ ?side1 ?side2 A2.out).mono ?_); (case side1 => repeat (first | exact HR0.out | (with_reducible refine Kd.C_alloc ?_ _) | (with_reducible refine Kd.C_drewN ?_ _) | (with_reducible refine Kd.C_drew ?_))); (case side2 => exact HC0.out); rintro e w' ⟨rfl, ⟨nd, rfl⟩⟩; refine ⟨_, rfl, ?_⟩) | ((with_reducible refine gC 42 rfl ?_); refine goesL_ (some 11) rfl rfl Tryd.func42 Z14 rfl #[.slice A0 l0.length c0, .int .i64 0] rfl Z2 ?_; (with_reducible refine (quoinref02_made.calls k _ _ l0 0 t292 t293 _ ?side1 ?side2 A4.out).mono ?_); (case side1 => repeat (first | exact HR0.out | (with_reducible refine Kd.C_alloc ?_ _) | (with_reducible refine Kd.C_drewN ?_ _) | (with_reducible refine Kd.C_drew ?_))); (case side2 => exact HC0.out); rintro e w5 ⟨v294, rfl, ho0, hb⟩; refine ⟨_, rfl, ?_⟩; have HO295 := Aside0.mk (Kd.R_lower ho0 (below_size zB)); replace HB := Aside0.mk (below_step zB hb); (try clear hb); (try clear hb2); (try clear hk); (try clear hi); (try clear ho0)))
  go_ret2
  exact ⟨_, Z4, by (with_reducible repeat (first | apply Kd.R_alloc | apply Kd.R_drewN | apply Kd.R_drew)); exact HO295.out, Z1⟩
 ·rw [if_neg c3] at H
  have c3b0 := e3 c3
  have c3b1 := e4 c3
  simp only [Option.some.injEq, Prod.mk.injEq] at H
  obtain ⟨rfl, rfl⟩ := H
  go_enter Tryd.func24, Tryd.ntmps24
  go_wp2_with (first | ((with_reducible refine gC 48 rfl ?_); refine goesL_ (some 6) rfl rfl Tryd.func48 Z14 rfl #[.slice A0 l0.length c0] rfl Z2 ?_; (with_reducible refine (quoinref02_checked.calls k _ _ l0 t291 _ ?side1 ?side2 A2.out).mono ?_); (case side1 => repeat (first | exact HR0.out | (with_reducible refine Kd.C_alloc ?_ _) | (with_reducible refine Kd.C_drewN ?_ _) | (with_reducible refine Kd.C_drew ?_))); (case side2 => exact HC0.out); rintro e w' ⟨rfl, ⟨nd, rfl⟩⟩; refine ⟨_, rfl, ?_⟩))
  go_ret2
  exact ⟨_, Z4, Z8, Z1⟩
def sortI (l : List Int) : List Int := l.mergeSort (fun x y => !Srt.lt y x)
theorem sortI.len (l : List Int) : (sortI l).length = l.length := (List.mergeSort_perm l _).length_eq
def slices_Sort_rune_rune.f (l0 : List Int) : Option (List Int) := if 0 < l0.length ∧ l0.length < 2305843009213693952 then some (sortI l0) else none
theorem rowI.open {w : World} {base : Nat} {ok : Nat → Prop} {v : Value} {xs : List Int} (h : Kd.R (Kd.int .i32) 21 w base ok v xs) (hx : 0 < xs.length) : ∃ (g cap : Nat) (cur : Array Value), v = .slice (some ⟨g, 0, none⟩) xs.length cap ∧ base ≤ g ∧ w.heap[g]? = some (.cells cur 21 (0, 0)) ∧ xs.length ≤ cap ∧ cap ≤ maxLen ∧ cur.size = cap ∧ ∀ (j : Nat) (p : Int), xs[j]? = some p → cur[j]? = some (Value.int .i32 p) := by
 obtain ⟨h0, inner, ho, hr⟩ := h
 rcases ho.2 with ⟨rfl, hn⟩ | ⟨g, cap, cur, rfl, hg, hh, hc, hm, hs, ht⟩
 ·omega
 ·refine ⟨g, cap, cur, rfl, hg, hh, hc, hm, by rw [hs]; exact Nat.mul_one cap, fun j p hj => ?_⟩
  have hjl : j < xs.length := (List.getElem?_eq_some_iff.1 hj).1
  have h1 := hr.2 j p hj
  have h2 : (inner.drop (j * 1)).take 1 = [.int .i32 p] := h1
  have h3 := congrArg (fun l : List Value => l[0]?) h2
  simp only [List.getElem?_take, List.getElem?_drop] at h3
  rw [← ht, List.getElem?_take] at h3
  simp only [Nat.mul_one, Nat.add_zero] at h3
  have h4 : (0 : Nat) < 1 := by decide
  rw [if_pos h4, if_pos (show j < xs.length * (Kd.int .i32).sz by show j < xs.length * 1; omega), Array.getElem?_toList] at h3
  exact h3
theorem rowI.shut {w : World} {base : Nat} {ok : Nat → Prop} {xs : List Int} {g cap : Nat} {cur : Array Value} (h0 : ok g) (hg : base ≤ g) (hh : w.heap[g]? = some (.cells cur 21 (0, 0))) (hc : xs.length ≤ cap) (hm : cap ≤ maxLen) (hs : cur.size = cap) (hx : ∀ (j : Nat) (p : Int), xs[j]? = some p → cur[j]? = some (Value.int .i32 p)) : Kd.R (Kd.int .i32) 21 w base ok (.slice (some ⟨g, 0, none⟩) xs.length cap) xs := by
 refine ⟨fun k hk => by simp [Value.ownBlock] at hk; rw [← hk]; exact h0, cur.toList.take (xs.length * 1), ⟨by rw [List.length_take, Array.length_toList]; show min (xs.length * 1) cur.size = xs.length * 1; omega, .inr ⟨g, cap, cur, rfl, hg, hh, hc, hm, by rw [hs]; exact (Nat.mul_one cap).symm, rfl⟩⟩, ⟨by rw [List.length_take, Array.length_toList]; show min (xs.length * 1) cur.size = xs.length * 1; omega, fun j p hj => ?_⟩⟩
 have hjl : j < xs.length := (List.getElem?_eq_some_iff.1 hj).1
 have h1 := hx j p hj
 show ((cur.toList.take (xs.length * 1)).drop (j * 1)).take 1 = [.int .i32 p]
 have hj2 : j < (cur.toList.take (xs.length * 1)).length := by rw [List.length_take, show cur.toList.length = cur.size from rfl]; omega
 rw [Nat.mul_one j, List.drop_eq_getElem_cons hj2, List.take_succ_cons, List.take_zero]
 congr 1
 have h2 : (cur.toList.take (xs.length * 1))[j]? = some (.int .i32 p) := by rw [List.getElem?_take, if_pos Z21, Array.getElem?_toList]; exact h1
 rw [List.getElem?_eq_getElem hj2] at h2
 exact Option.some.inj h2
theorem rowI.holds {w : World} {g : Nat} {cur : Array Value} {xs : List Int} (hh : w.heap[g]? = some (.cells cur 21 (0, 0))) (hx : ∀ (j : Nat) (p : Int), xs[j]? = some p → cur[j]? = some (Value.int .i32 p)) : Go.Sort.Holds Srt.enc w g 0 xs.toArray := by
 intro j hj
 have hj' : j < xs.length := by simpa using hj
 rw [Nat.zero_add, blk_cell hh, blk_frozen hh]
 refine ⟨?_, rfl⟩
 rw [hx j xs[j] (List.getElem?_eq_getElem hj')]
 rw [getElem!_pos xs.toArray j hj]
 rfl
theorem rowI.put {w : World} {g n : Nat} {os : Array Obj} {cur : Array Value} {d : Array Int} (hh : w.heap[g]? = some (.cells cur 21 (0, 0))) : (Go.Sort.grow (Go.Sort.putRow Srt.enc (Go.Sort.ahead w n) g 0 d) os).heap[g]? = some (.cells (Go.Sort.putCells Srt.enc 0 d cur) 21 (0, 0)) := by
 have hlt : g < w.heap.size := blk_lt hh
 show ((w.heap.modify g _) ++ os)[g]? = _
 rw [Array.getElem?_append_left (by rw [Array.size_modify]; exact hlt), Array.getElem?_modify, if_pos rfl, hh]
 rfl
theorem rowI.got {cur : Array Value} {d : Array Int} (hs : d.size ≤ cur.size) (j : Nat) (p : Int) (hj : d.toList[j]? = some p) : (Go.Sort.putCells Srt.enc 0 d cur)[j]? = some (.int .i32 p) := by
 have hjl : j < d.size := by simpa using (List.getElem?_eq_some_iff.1 hj).1
 unfold Go.Sort.putCells
 rw [Array.getElem?_mapIdx, Array.getElem?_eq_getElem (show j < cur.size by omega), Option.map_some, if_pos ⟨Nat.zero_le _, Z21⟩]
 rw [Array.getElem?_toList, Array.getElem?_eq_getElem hjl] at hj
 have e : d[j - 0]! = p := by rw [Nat.sub_zero, getElem!_pos d j hjl]; exact Option.some.inj hj
 rw [e]
theorem rowI.below {w0 w : World} {g n : Nat} {os : Array Obj} {d : Array Int} (hB : Below w0.heap.size w0 w) (hg : w0.heap.size ≤ g) : Below w0.heap.size w0 (Go.Sort.grow (Go.Sort.putRow Srt.enc (Go.Sort.ahead w n) g 0 d) os) := by
 refine hB.trans ⟨rfl, rfl, rfl, ?_, ?_⟩
 ·show w.heap.size ≤ ((w.heap.modify g _) ++ os).size
  rw [Array.size_append, Array.size_modify]; omega
 ·intro k hk
  show ((w.heap.modify g _) ++ os)[k]? = _
  have : k < w.heap.size := Nat.lt_of_lt_of_le hk hB.size
  rw [Array.getElem?_append_left (by rw [Array.size_modify]; exact this), Array.getElem?_modify, if_neg Z21]
theorem rowI.kept {w : World} {g n : Nat} {os : Array Obj} {d : Array Int} {P : Nat → Prop} (hP : P g) : Kept w (Go.Sort.grow (Go.Sort.putRow Srt.enc (Go.Sort.ahead w n) g 0 d) os) P := by
 refine ⟨?_, fun i hi hn => ?_⟩
 ·show w.heap.size ≤ ((w.heap.modify g _) ++ os).size
  rw [Array.size_append, Array.size_modify]; omega
 ·show ((w.heap.modify g _) ++ os)[i]? = _
  rw [Array.getElem?_append_left (by rw [Array.size_modify]; exact hi), Array.getElem?_modify, if_neg (show ¬ g = i from fun e => hn (by rw [← e]; exact hP))]
theorem sortI.eq (xs : List Int) (R : Array Int) (h1 : Go.Sort.PermIn 0 xs.toArray.size xs.toArray R) (h2 : Go.Sort.SortedIn Srt.lt 0 xs.toArray.size R) : R.toList = sortI xs := by
 have := Go.Sort.sorted_unique_holds (lt := Srt.lt) Srt.swo (fun x y a b => by simp at a b; omega) xs.toArray R h1 h2
 simpa [sortI] using this
theorem slices_Sort_rune_rune.calls (P0_ : Nat → Prop) (u9000_ : Value) (l0 : List Int) (r : List Int) (w0 w : World) (hB : Below w0.heap.size w0 w) (ho0 : Kd.R (Kd.int .i32) 21 w w0.heap.size P0_ u9000_ l0) (h : slices_Sort_rune_rune.f l0 = some r) :
  Calls Tryd.prog 61 #[u9000_] w fun e w' => e = .returned (.tuple #[]) ∧ Kd.R (Kd.int .i32) 21 w' w0.heap.size (fun k_ => (P0_ k_ ∨ w.heap.size ≤ k_)) u9000_ r ∧ Below w0.heap.size w0 w' ∧ Kept w w' (fun k_ => P0_ k_) := by
 unfold slices_Sort_rune_rune.f at h
 by_cases c : 0 < l0.length ∧ l0.length < 2305843009213693952
 rotate_left
 ·rw [if_neg c] at h; exact absurd h Z25
 rw [if_pos c] at h
 obtain rfl := Option.some.inj h
 have h0 := ho0.1
 obtain ⟨g, cap, cur, rfl, hg, hh, hc, hm, hs, hx⟩ := rowI.open ho0 c.1
 have hPg : P0_ g := h0 g (by simp [Value.ownBlock])
 have hs9 : l0.toArray.size = l0.length := by simp
 have hcon := Srt.sorts g cap l0.toArray w (rowI.holds hh hx) (blk_lt hh) (by rw [hs9]; exact c.2)
 rw [hs9] at hcon
 refine hcon.mono ?_
 rintro e w' ⟨rfl, R, h1, h2, n, os, rfl⟩
 have hR := sortI.eq l0 R (by rw [hs9]; exact h1) (by rw [hs9]; exact h2)
 have hRs : R.size = l0.length := by rw [h1.1, hs9]
 have hsl : (sortI l0).length = l0.length := sortI.len l0
 refine ⟨rfl, ?_, rowI.below hB hg, rowI.kept hPg⟩
 have := rowI.shut (w := Go.Sort.grow (Go.Sort.putRow Srt.enc (Go.Sort.ahead w n) g 0 R) os) (base := w0.heap.size) (ok := fun k_ => (P0_ k_ ∨ w.heap.size ≤ k_)) (xs := sortI l0) (.inl hPg) hg (rowI.put hh) (by rw [hsl]; exact hc) hm (by rw [← hs]; simp [Go.Sort.putCells]) (fun j p hj => rowI.got Z21 j p (by rw [hR]; exact hj))
 rw [hsl] at this
 exact this
end Go.Proofs.YtfnkboilepgmoaaDoor.R
