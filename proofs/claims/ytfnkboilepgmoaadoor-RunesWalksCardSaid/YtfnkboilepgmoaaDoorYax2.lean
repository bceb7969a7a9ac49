import Derived.Test.YtfnkboilepgmoaaDoorYPre
import Derived.Test.YtfnkboilepgmoaaDoorYax1
namespace Go.Proofs.YtfnkboilepgmoaaDoor.R
open Go.RowKit Go.Proofs.YtfnkboilepgmoaaDoorW.PrintWords Go.Proofs.YtfnkboilepgmoaaDoorW.PrintLast Go.Proofs.YtfnkboilepgmoaaDoorW.PrintMore
attribute [local go_sem] max2_int min2_int max_two min_two max_three min_three max_four min_four
set_option linter.unusedVariables false
set_option linter.unusedSimpArgs false
def quoinlaw02_awake.f (k : Nat)  : Option (Bool) := (runes_Of.f k (([(⟨98, 99⟩ : S36), (⟨97, 97⟩ : S36)] : List (S36)))).bind fun bt138 => ((runes_Text.f k bt138.1).bind fun bt142 => (if bt138.2 = 0 then (if bt142.2 = 0 then (if bt142.1.toList = ([91, 97, 45, 99, 93] : List UInt8) then ((runes_Has.f k bt138.1 98).bind fun t144 => (if t144 = true then ((runes_Has.f k bt138.1 100).bind fun t145 => (some (!t145))) else (some false))) else (some false)) else (some false)) else (some false)))
theorem quoinlaw02_awake.mono : ∀ k, LeO (quoinlaw02_awake.f k ) (quoinlaw02_awake.f (k + 1) ) := by
 intro  k
 unfold quoinlaw02_awake.f
 have m0 := @runes_Has.mono
 have m1 := @runes_Of.mono
 have m2 := @runes_Text.mono
 exact mO
set_option maxHeartbeats 8000000 in
set_option maxRecDepth 100000 in
theorem quoinlaw02_awake.calls {k : Nat} {r : Bool} {w : World} (h : quoinlaw02_awake.f k  = some r) :
  Calls Tryd.prog 16 #[] w fun e w' => e = .returned (.bool r) ∧ Below w.heap.size w w' := by
 have hu36 := Tryd.underlying36
 have HB := Aside0.mk (Below.refl w.heap.size w)
 have H : ((runes_Of.f k (([(⟨98, 99⟩ : S36), (⟨97, 97⟩ : S36)] : List (S36)))).bind fun bt138 => ((runes_Text.f k bt138.1).bind fun bt142 => (if bt138.2 = 0 then (if bt142.2 = 0 then (if bt142.1.toList = ([91, 97, 45, 99, 93] : List UInt8) then ((runes_Has.f k bt138.1 98).bind fun t144 => (if t144 = true then ((runes_Has.f k bt138.1 100).bind fun t145 => (some (!t145))) else (some false))) else (some false)) else (some false)) else (some false)))) = some r := h
 clear h
 obtain ⟨y135, hy135⟩ : ∃ y_ : List (S36), y_ = (([(⟨98, 99⟩ : S36), (⟨97, 97⟩ : S36)] : List (S36))) := ⟨_, rfl⟩
 replace H : ((runes_Of.f k y135).bind fun bt138 => ((runes_Text.f k bt138.1).bind fun bt142 => (if bt138.2 = 0 then (if bt142.2 = 0 then (if bt142.1.toList = ([91, 97, 45, 99, 93] : List UInt8) then ((runes_Has.f k bt138.1 98).bind fun t144 => (if t144 = true then ((runes_Has.f k bt138.1 100).bind fun t145 => (some (!t145))) else (some false))) else (some false)) else (some false)) else (some false)))) = some r := by first | (rw [hy135]; with_reducible exact H) | (have H2_ := (Option.bind_some _ _).symm.trans H; rw [hy135]; with_reducible exact H2_) | (have H2_ := (Option.bind_some _ _).symm.trans H; with_reducible exact H2_) | with_reducible exact H | (rw [hy135]; exact H) | exact H
 have Ny135 := Aside0.mk hy135
 clear hy135
 replace H := bS H
 obtain ⟨⟨t138, t139⟩, A1, H⟩ := H
 try dsimp only at H
 replace H := bS H
 obtain ⟨⟨t142, t143⟩, A2, H⟩ := H
 try dsimp only at H
 by_cases c3 : t139 = 0
 ·rw [if_pos c3] at H
  have c3b0 := e1 c3
  have c3b1 := e2 c3
  clear c3
  by_cases c4 : t143 = 0
  ·rw [if_pos c4] at H
   have c4b0 := e1 c4
   have c4b1 := e2 c4
   clear c4
   by_cases c5 : t142.toList = ([91, 97, 45, 99, 93] : List UInt8)
   ·rw [if_pos c5] at H
    have c5b0 := e1 c5
    have c5b1 := e2 c5
    clear c5
    replace H := bS H
    obtain ⟨t144, A6, H⟩ := H
    try dsimp only at H
    by_cases c7 : t144 = true
    ·subst c7
     have H1 : ((runes_Has.f k t138 100).bind fun t145 => (some (!t145))) = some r := by rw [if_pos rfl] at H; exact H
     clear H
     have H := H1
     clear H1
     replace H := bS H
     obtain ⟨t145, A8, H⟩ := H
     try dsimp only at H
     obtain rfl := Option.some.inj H
     go_enter Tryd.func16, Tryd.ntmps16
     go_wp2_with (first | ((with_reducible refine gate_dst (N := 8) rfl ?_); refine Kd.R_lit k36 _ 36 ?hg (N := 8) ?hd (xs := ([(⟨98, 99⟩ : S36), (⟨97, 97⟩ : S36)] : List (S36))) (inner := [.int .i32 98, .int .i32 99, .int .i32 97, .int .i32 97]) (ok := fun _ => True) (okp := fun _ => True) ?hr ?hp (fun _ hk => hk) trivial (Below.refl _ _) (Nat.le_refl _) (by simp) ?_; (case hd => rfl); (case hg => rfl); (case hr => first | (go_simp; done) | (go_simp; rfl)); (case hp => exact (Reps.c2 (show Kd.M k36 _ _ _ (⟨98, 99⟩ : S36) [.int .i32 98, .int .i32 99] from (k36_mkM _ _ _ (⟨98, 99⟩ : S36) )) (Reps.c2 (show Kd.M k36 _ _ _ (⟨97, 97⟩ : S36) [.int .i32 97, .int .i32 97] from (k36_mkM _ _ _ (⟨97, 97⟩ : S36) )) (Reps.none _ _)))); intro v136 w9 ho10 hb hg_ hnew_; clear hg_ hnew_; (first | rw [← Ny135.out] at ho10 | (simp only [Int.reduceToNat] at ho10; rw [← Ny135.out] at ho10)); have HO137 := Aside0.mk (Kd.R_lower ho10 (below_size zB)); replace HB := Aside0.mk (below_step zB hb); clear hb ho10; obtain ⟨Ao11, co11, eo11⟩ := Kd.R_slice HO137.out; subst eo11) | ((with_reducible refine gC 13 rfl ?_); refine goesL_ (some 9) rfl rfl Tryd.func13 Z10 rfl #[.slice Ao11 y135.length co11] rfl Z3 ?_; (with_reducible refine (runes_Of.calls k _ _ y135 t138 t139 _ ?side1 ?side2 A1.out).mono ?_); (case side1 => repeat (first | exact (Kd.R_reads' HO137.out).2.2 | (with_reducible refine Kd.C_alloc ?_ _) | (with_reducible refine Kd.C_drewN ?_ _) | (with_reducible refine Kd.C_drew ?_))); (case side2 => exact (Kd.R_reads' HO137.out).2.1); rintro e w12 ⟨v140, rfl, ho0, hb⟩; refine ⟨_, rfl, ?_⟩; have HO141 := Aside0.mk (Kd.R_lower (Kd.R_new' ho0 (Kd.R_lt (kK HO137))) (below_size zB)); replace HO137 := Aside0.mk (Kd.R_elder' (kK HO137) (Kd.R_base ho0) hb); replace HB := Aside0.mk (below_step zB hb); (try clear hb); (try clear hb2); (try clear hk); (try clear hi); (try clear ho0); obtain ⟨Ao13, co13, eo13⟩ := Kd.R_slice HO141.out; subst eo13) | ((with_reducible refine gC 34 rfl ?_); refine goesL_ (some 14) rfl rfl Tryd.func34 Z10 rfl #[.slice Ao13 t138.length co13] rfl Z3 ?_; (with_reducible refine (runes_Text.calls k _ _ t138 t142 t143 _ ?side1 ?side2 A2.out).mono ?_); (case side1 => repeat (first | exact (Kd.R_reads' HO141.out).2.2 | (with_reducible refine Kd.C_alloc ?_ _) | (with_reducible refine Kd.C_drewN ?_ _) | (with_reducible refine Kd.C_drew ?_))); (case side2 => exact (Kd.R_reads' HO141.out).2.1); rintro e w14 ⟨rfl, hb⟩; refine ⟨_, rfl, ?_⟩; replace HO137 := Aside0.mk (Kd.R_below (kK HO137) hb); replace HO141 := Aside0.mk (Kd.R_below (kK HO141) hb); replace HB := Aside0.mk (below_step zB hb); (try clear hb); (try clear hb2); (try clear hk); (try clear hi)) | (go_at_call 33; (with_reducible refine (runes_Has.calls k _ _ t138 98 true _ ?side1 ?side2 A6.out).mono ?_); (case side1 => repeat (first | exact (Kd.R_reads' HO141.out).2.2 | (with_reducible refine Kd.C_alloc ?_ _) | (with_reducible refine Kd.C_drewN ?_ _) | (with_reducible refine Kd.C_drew ?_))); (case side2 => exact (Kd.R_reads' HO141.out).2.1); rintro e w15 ⟨rfl, hb⟩; replace HO137 := Aside0.mk (Kd.R_below (kK HO137) hb); replace HO141 := Aside0.mk (Kd.R_below (kK HO141) hb); replace HB := Aside0.mk (below_step zB hb); (try clear hb); (try clear hb2); (try clear hk); (try clear hi)) | (go_at_call 33; (with_reducible refine (runes_Has.calls k _ _ t138 100 t145 _ ?side1 ?side2 A8.out).mono ?_); (case side1 => repeat (first | exact (Kd.R_reads' HO141.out).2.2 | (with_reducible refine Kd.C_alloc ?_ _) | (with_reducible refine Kd.C_drewN ?_ _) | (with_reducible refine Kd.C_drew ?_))); (case side2 => exact (Kd.R_reads' HO141.out).2.1); rintro e w16 ⟨rfl, hb⟩; replace HO137 := Aside0.mk (Kd.R_below (kK HO137) hb); replace HO141 := Aside0.mk (Kd.R_below (kK HO141) hb); replace HB := Aside0.mk (below_step zB hb); (try clear hb); (try clear hb2); (try clear hk); (try clear hi)))
     go_ret
     exact ⟨Z4, Z0⟩
    ·replace c7 := Bool.eq_false_iff.mpr c7
     subst c7
     have H1 : (some false) = some r := by rw [if_neg (show ¬ (false = true) by decide)] at H; exact H
     clear H
     have H := H1
     clear H1
     obtain rfl := Option.some.inj H
     go_enter Tryd.func16, Tryd.ntmps16
     go_wp2_with (first | ((with_reducible refine gate_dst (N := 8) rfl ?_); refine Kd.R_lit k36 _ 36 ?hg (N := 8) ?hd (xs := ([(⟨98, 99⟩ : S36), (⟨97, 97⟩ : S36)] : List (S36))) (inner := [.int .i32 98, .int .i32 99, .int .i32 97, .int .i32 97]) (ok := fun _ => True) (okp := fun _ => True) ?hr ?hp (fun _ hk => hk) trivial (Below.refl _ _) (Nat.le_refl _) (by simp) ?_; (case hd => rfl); (case hg => rfl); (case hr => first | (go_simp; done) | (go_simp; rfl)); (case hp => exact (Reps.c2 (show Kd.M k36 _ _ _ (⟨98, 99⟩ : S36) [.int .i32 98, .int .i32 99] from (k36_mkM _ _ _ (⟨98, 99⟩ : S36) )) (Reps.c2 (show Kd.M k36 _ _ _ (⟨97, 97⟩ : S36) [.int .i32 97, .int .i32 97] from (k36_mkM _ _ _ (⟨97, 97⟩ : S36) )) (Reps.none _ _)))); intro v136 w17 ho18 hb hg_ hnew_; clear hg_ hnew_; (first | rw [← Ny135.out] at ho18 | (simp only [Int.reduceToNat] at ho18; rw [← Ny135.out] at ho18)); have HO137 := Aside0.mk (Kd.R_lower ho18 (below_size zB)); replace HB := Aside0.mk (below_step zB hb); clear hb ho18; obtain ⟨Ao19, co19, eo19⟩ := Kd.R_slice HO137.out; subst eo19) | ((with_reducible refine gC 13 rfl ?_); refine goesL_ (some 9) rfl rfl Tryd.func13 Z10 rfl #[.slice Ao19 y135.length co19] rfl Z3 ?_; (with_reducible refine (runes_Of.calls k _ _ y135 t138 t139 _ ?side1 ?side2 A1.out).mono ?_); (case side1 => repeat (first | exact (Kd.R_reads' HO137.out).2.2 | (with_reducible refine Kd.C_alloc ?_ _) | (with_reducible refine Kd.C_drewN ?_ _) | (with_reducible refine Kd.C_drew ?_))); (case side2 => exact (Kd.R_reads' HO137.out).2.1); rintro e w20 ⟨v140, rfl, ho0, hb⟩; refine ⟨_, rfl, ?_⟩; have HO141 := Aside0.mk (Kd.R_lower (Kd.R_new' ho0 (Kd.R_lt (kK HO137))) (below_size zB)); replace HO137 := Aside0.mk (Kd.R_elder' (kK HO137) (Kd.R_base ho0) hb); replace HB := Aside0.mk (below_step zB hb); (try clear hb); (try clear hb2); (try clear hk); (try clear hi); (try clear ho0); obtain ⟨Ao21, co21, eo21⟩ := Kd.R_slice HO141.out; subst eo21) | ((with_reducible refine gC 34 rfl ?_); refine goesL_ (some 14) rfl rfl Tryd.func34 Z10 rfl #[.slice Ao21 t138.length co21] rfl Z3 ?_; (with_reducible refine (runes_Text.calls k _ _ t138 t142 t143 _ ?side1 ?side2 A2.out).mono ?_); (case side1 => repeat (first | exact (Kd.R_reads' HO141.out).2.2 | (with_reducible refine Kd.C_alloc ?_ _) | (with_reducible refine Kd.C_drewN ?_ _) | (with_reducible refine Kd.C_drew ?_))); (case side2 => exact (Kd.R_reads' HO141.out).2.1); rintro e w22 ⟨rfl, hb⟩; refine ⟨_, rfl, ?_⟩; replace HO137 := Aside0.mk (Kd.R_below (kK HO137) hb); replace HO141 := Aside0.mk (Kd.R_below (kK HO141) hb); replace HB := Aside0.mk (below_step zB hb); (try clear hb); (try clear hb2); (try clear hk); (try clear hi)) | (go_at_call 33; (with_reducible refine (runes_Has.calls k _ _ t138 98 false _ ?side1 ?side2 A6.out).mono ?_); (case side1 => repeat (first | exact (Kd.R_reads' HO141.out).2.2 | (with_reducible refine Kd.C_alloc ?_ _) | (with_reducible refine Kd.C_drewN ?_ _) | (with_reducible refine Kd.C_drew ?_))); (case side2 => exact (Kd.R_reads' HO141.out).2.1); rintro e w23 ⟨rfl, hb⟩; replace HO137 := Aside0.mk (Kd.R_below (kK HO137) hb); replace HO141 := Aside0.mk (Kd.R_below (kK HO141) hb); replace HB := Aside0.mk (below_step zB hb); (try clear hb); (try clear hb2); (try clear hk); (try clear hi)))
     go_ret
     exact ⟨Z4, Z0⟩
   ·rw [if_neg c5] at H
    have c5b0 := e3 c5
    have c5b1 := e4 c5
    obtain rfl := Option.some.inj H
    go_enter Tryd.func16, Tryd.ntmps16
    go_wp2_with (first | ((with_reducible refine gate_dst (N := 8) rfl ?_); refine Kd.R_lit k36 _ 36 ?hg (N := 8) ?hd (xs := ([(⟨98, 99⟩ : S36), (⟨97, 97⟩ : S36)] : List (S36))) (inner := [.int .i32 98, .int .i32 99, .int .i32 97, .int .i32 97]) (ok := fun _ => True) (okp := fun _ => True) ?hr ?hp (fun _ hk => hk) trivial (Below.refl _ _) (Nat.le_refl _) (by simp) ?_; (case hd => rfl); (case hg => rfl); (case hr => first | (go_simp; done) | (go_simp; rfl)); (case hp => exact (Reps.c2 (show Kd.M k36 _ _ _ (⟨98, 99⟩ : S36) [.int .i32 98, .int .i32 99] from (k36_mkM _ _ _ (⟨98, 99⟩ : S36) )) (Reps.c2 (show Kd.M k36 _ _ _ (⟨97, 97⟩ : S36) [.int .i32 97, .int .i32 97] from (k36_mkM _ _ _ (⟨97, 97⟩ : S36) )) (Reps.none _ _)))); intro v136 w24 ho25 hb hg_ hnew_; clear hg_ hnew_; (first | rw [← Ny135.out] at ho25 | (simp only [Int.reduceToNat] at ho25; rw [← Ny135.out] at ho25)); have HO137 := Aside0.mk (Kd.R_lower ho25 (below_size zB)); replace HB := Aside0.mk (below_step zB hb); clear hb ho25; obtain ⟨Ao26, co26, eo26⟩ := Kd.R_slice HO137.out; subst eo26) | ((with_reducible refine gC 13 rfl ?_); refine goesL_ (some 9) rfl rfl Tryd.func13 Z10 rfl #[.slice Ao26 y135.length co26] rfl Z3 ?_; (with_reducible refine (runes_Of.calls k _ _ y135 t138 t139 _ ?side1 ?side2 A1.out).mono ?_); (case side1 => repeat (first | exact (Kd.R_reads' HO137.out).2.2 | (with_reducible refine Kd.C_alloc ?_ _) | (with_reducible refine Kd.C_drewN ?_ _) | (with_reducible refine Kd.C_drew ?_))); (case side2 => exact (Kd.R_reads' HO137.out).2.1); rintro e w27 ⟨v140, rfl, ho0, hb⟩; refine ⟨_, rfl, ?_⟩; have HO141 := Aside0.mk (Kd.R_lower (Kd.R_new' ho0 (Kd.R_lt (kK HO137))) (below_size zB)); replace HO137 := Aside0.mk (Kd.R_elder' (kK HO137) (Kd.R_base ho0) hb); replace HB := Aside0.mk (below_step zB hb); (try clear hb); (try clear hb2); (try clear hk); (try clear hi); (try clear ho0); obtain ⟨Ao28, co28, eo28⟩ := Kd.R_slice HO141.out; subst eo28) | ((with_reducible refine gC 34 rfl ?_); refine goesL_ (some 14) rfl rfl Tryd.func34 Z10 rfl #[.slice Ao28 t138.length co28] rfl Z3 ?_; (with_reducible refine (runes_Text.calls k _ _ t138 t142 t143 _ ?side1 ?side2 A2.out).mono ?_); (case side1 => repeat (first | exact (Kd.R_reads' HO141.out).2.2 | (with_reducible refine Kd.C_alloc ?_ _) | (with_reducible refine Kd.C_drewN ?_ _) | (with_reducible refine Kd.C_drew ?_))); (case side2 => exact (Kd.R_reads' HO141.out).2.1); rintro e w29 ⟨rfl, hb⟩; refine ⟨_, rfl, ?_⟩; replace HO137 := Aside0.mk (Kd.R_below (kK HO137) hb); replace HO141 := Aside0.mk (Kd.R_below (kK HO141) hb); replace HB := Aside0.mk (below_step zB hb); (try clear hb); (try clear hb2); (try clear hk); (try clear hi)))
    go_ret
    exact ⟨Z4, Z0⟩
  ·rw [if_neg c4] at H
   have c4b0 := e3 c4
   have c4b1 := e4 c4
   obtain rfl := Option.some.inj H
   go_enter Tryd.func16, Tryd.ntmps16
   go_wp2_with (first | ((with_reducible refine gate_dst (N := 8) rfl ?_); refine Kd.R_lit k36 _ 36 ?hg (N := 8) ?hd (xs := ([(⟨98, 99⟩ : S36), (⟨97, 97⟩ : S36)] : List (S36))) (inner := [.int .i32 98, .int .i32 99, .int .i32 97, .int .i32 97]) (ok := fun _ => True) (okp := fun _ => True) ?hr ?hp (fun _ hk => hk) trivial (Below.refl _ _) (Nat.le_refl _) (by simp) ?_; (case hd => rfl); (case hg => rfl); (case hr => first | (go_simp; done) | (go_simp; rfl)); (case hp => exact (Reps.c2 (show Kd.M k36 _ _ _ (⟨98, 99⟩ : S36) [.int .i32 98, .int .i32 99] from (k36_mkM _ _ _ (⟨98, 99⟩ : S36) )) (Reps.c2 (show Kd.M k36 _ _ _ (⟨97, 97⟩ : S36) [.int .i32 97, .int .i32 97] from (k36_mkM _ _ _ (⟨97, 97⟩ : S36) )) (Reps.none _ _)))); intro v136 w30 ho31 hb hg_ hnew_; clear hg_ hnew_; (first | rw [← Ny135.out] at ho31 | (simp only [Int.reduceToNat] at ho31; rw [← Ny135.out] at ho31)); have HO137 := Aside0.mk (Kd.R_lower ho31 (below_size zB)); replace HB := Aside0.mk (below_step zB hb); clear hb ho31; obtain ⟨Ao32, co32, eo32⟩ := Kd.R_slice HO137.out; subst eo32) | ((with_reducible refine gC 13 rfl ?_); refine goesL_ (some 9) rfl rfl Tryd.func13 Z10 rfl #[.slice Ao32 y135.length co32] rfl Z3 ?_; (with_reducible refine (runes_Of.calls k _ _ y135 t138 t139 _ ?side1 ?side2 A1.out).mono ?_); (case side1 => repeat (first | exact (Kd.R_reads' HO137.out).2.2 | (with_reducible refine Kd.C_alloc ?_ _) | (with_reducible refine Kd.C_drewN ?_ _) | (with_reducible refine Kd.C_drew ?_))); (case side2 => exact (Kd.R_reads' HO137.out).2.1); rintro e w33 ⟨v140, rfl, ho0, hb⟩; refine ⟨_, rfl, ?_⟩; have HO141 := Aside0.mk (Kd.R_lower (Kd.R_new' ho0 (Kd.R_lt (kK HO137))) (below_size zB)); replace HO137 := Aside0.mk (Kd.R_elder' (kK HO137) (Kd.R_base ho0) hb); replace HB := Aside0.mk (below_step zB hb); (try clear hb); (try clear hb2); (try clear hk); (try clear hi); (try clear ho0); obtain ⟨Ao34, co34, eo34⟩ := Kd.R_slice HO141.out; subst eo34) | ((with_reducible refine gC 34 rfl ?_); refine goesL_ (some 14) rfl rfl Tryd.func34 Z10 rfl #[.slice Ao34 t138.length co34] rfl Z3 ?_; (with_reducible refine (runes_Text.calls k _ _ t138 t142 t143 _ ?side1 ?side2 A2.out).mono ?_); (case side1 => repeat (first | exact (Kd.R_reads' HO141.out).2.2 | (with_reducible refine Kd.C_alloc ?_ _) | (with_reducible refine Kd.C_drewN ?_ _) | (with_reducible refine Kd.C_drew ?_))); (case side2 => exact (Kd.R_reads' HO141.out).2.1); rintro e w35 ⟨rfl, hb⟩; refine ⟨_, rfl, ?_⟩; replace HO137 := Aside0.mk (Kd.R_below (kK HO137) hb); replace HO141 := Aside0.mk (Kd.R_below (kK HO141) hb); replace HB := Aside0.mk (below_step zB hb); (try clear hb); (try clear hb2); (try clear hk); (try clear hi)))
   go_ret
   exact ⟨Z4, Z0⟩
 ·rw [if_neg c3] at H
  have c3b0 := e3 c3
  have c3b1 := e4 c3
  obtain rfl := Option.some.inj H
  go_enter Tryd.func16, Tryd.ntmps16
  go_wp2_with (first | ((with_reducible refine gate_dst (N := 8) rfl ?_); refine Kd.R_lit k36 _ 36 ?hg (N := 8) ?hd (xs := ([(⟨98, 99⟩ : S36), (⟨97, 97⟩ : S36)] : List (S36))) (inner := [.int .i32 98, .int .i32 99, .int .i32 97, .int .i32 97]) (ok := fun _ => True) (okp := fun _ => True) ?hr ?hp (fun _ hk => hk) trivial (Below.refl _ _) (Nat.le_refl _) (by simp) ?_; (case hd => rfl); (case hg => rfl); (case hr => first | (go_simp; done) | (go_simp; rfl)); (case hp => exact (Reps.c2 (show Kd.M k36 _ _ _ (⟨98, 99⟩ : S36) [.int .i32 98, .int .i32 99] from (k36_mkM _ _ _ (⟨98, 99⟩ : S36) )) (Reps.c2 (show Kd.M k36 _ _ _ (⟨97, 97⟩ : S36) [.int .i32 97, .int .i32 97] from (k36_mkM _ _ _ (⟨97, 97⟩ : S36) )) (Reps.none _ _)))); intro v136 w36 ho37 hb hg_ hnew_; clear hg_ hnew_; (first | rw [← Ny135.out] at ho37 | (simp only [Int.reduceToNat] at ho37; rw [← Ny135.out] at ho37)); have HO137 := Aside0.mk (Kd.R_lower ho37 (below_size zB)); replace HB := Aside0.mk (below_step zB hb); clear hb ho37; obtain ⟨Ao38, co38, eo38⟩ := Kd.R_slice HO137.out; subst eo38) | ((with_reducible refine gC 13 rfl ?_); refine goesL_ (some 9) rfl rfl Tryd.func13 Z10 rfl #[.slice Ao38 y135.length co38] rfl Z3 ?_; (with_reducible refine (runes_Of.calls k _ _ y135 t138 t139 _ ?side1 ?side2 A1.out).mono ?_); (case side1 => repeat (first | exact (Kd.R_reads' HO137.out).2.2 | (with_reducible refine Kd.C_alloc ?_ _) | (with_reducible refine Kd.C_drewN ?_ _) | (with_reducible refine Kd.C_drew ?_))); (case side2 => exact (Kd.R_reads' HO137.out).2.1); rintro e w39 ⟨v140, rfl, ho0, hb⟩; refine ⟨_, rfl, ?_⟩; have HO141 := Aside0.mk (Kd.R_lower (Kd.R_new' ho0 (Kd.R_lt (kK HO137))) (below_size zB)); replace HO137 := Aside0.mk (Kd.R_elder' (kK HO137) (Kd.R_base ho0) hb); replace HB := Aside0.mk (below_step zB hb); (try clear hb); (try clear hb2); (try clear hk); (try clear hi); (try clear ho0); obtain ⟨Ao40, co40, eo40⟩ := Kd.R_slice HO141.out; subst eo40) | ((with_reducible refine gC 34 rfl ?_); refine goesL_ (some 14) rfl rfl Tryd.func34 Z10 rfl #[.slice Ao40 t138.length co40] rfl Z3 ?_; (with_reducible refine (runes_Text.calls k _ _ t138 t142 t143 _ ?side1 ?side2 A2.out).mono ?_); (case side1 => repeat (first | exact (Kd.R_reads' HO141.out).2.2 | (with_reducible refine Kd.C_alloc ?_ _) | (with_reducible refine Kd.C_drewN ?_ _) | (with_reducible refine Kd.C_drew ?_))); (case side2 => exact (Kd.R_reads' HO141.out).2.1); rintro e w41 ⟨rfl, hb⟩; refine ⟨_, rfl, ?_⟩; replace HO137 := Aside0.mk (Kd.R_below (kK HO137) hb); replace HO141 := Aside0.mk (Kd.R_below (kK HO141) hb); replace HB := Aside0.mk (below_step zB hb); (try clear hb); (try clear hb2); (try clear hk); (try clear hi)))
  go_ret
  exact ⟨Z4, Z0⟩
mutual
def quoinref02_Check.l0 : Nat → List (S36) → Int → Option (Int)
 | 0, _, _ => none
 | k + 1, x0, x3 => if x3 < (x0.length : Int) then (if 0 ≤ x3 then (if ((rd_T36 x0 x3).f0) < 0 then (quoinref02_Check.j1 k x0 x3 true) else (if ((rd_T36 x0 x3).f0) > ((rd_T36 x0 x3).f1) then (quoinref02_Check.j1 k x0 x3 true) else (quoinref02_Check.j1 k x0 x3 (decide (((rd_T36 x0 x3).f1) > 1114111))))) else (none)) else (if (x0.length : Int) > 2048 then (some 21) else (some 0))
def quoinref02_Check.j1 : Nat → List (S36) → Int → Bool → Option (Int)
 | 0, _, _, _ => none
 | k + 1, x0, x3, x36 => if x36 = true then (some 20) else (if x3 > 0 then (if 0 ≤ x3 then (if x3 < (x0.length : Int) then (if 0 ≤ (wrap64 (x3 - 1)) then (if (wrap64 (x3 - 1)) < (x0.length : Int) then (if ((rd_T36 x0 x3).f0) < (wrap32 (((rd_T36 x0 (wrap64 (x3 - 1))).f1) + 2)) then (some 20) else (quoinref02_Check.l0 k x0 (wrap64 (x3 + 1)))) else (none)) else (none)) else (none)) else (none)) else (quoinref02_Check.l0 k x0 (wrap64 (x3 + 1))))
end
def quoinref02_Check.f (k : Nat) (l0 : List (S36)) : Option (Int) := quoinref02_Check.l0 k l0 0
set_option maxHeartbeats 8000000 in
set_option maxRecDepth 100000 in
theorem quoinref02_Check.calls (k : Nat) (A0 : Option Addr) (c0 : Nat) (l0 : List (S36)) (r : Int) (w : World) (hr0 : Kd.C k36 w A0 l0.length l0) (hc0 : l0.length ≤ c0) (h : quoinref02_Check.f k l0 = some r) :
  Calls Tryd.prog 18 #[.slice A0 l0.length c0] w fun e w' => e = .returned (.int .i64 r) ∧ Drawn0 w w' := by
 have HR0 := Aside0.mk hr0
 have HC0 := Aside0.mk hc0
 clear hr0 hc0
 have H : (quoinref02_Check.l0 k l0 0) = some r := h
 clear h
 have H' := Aside0.mk H
 clear H
 go_enter Tryd.func18, Tryd.ntmps18
 go_wp2
 repeat (go_quiet (fail); try go_wp2)
 go_loopg [3] k (fun kq v3 w' => ∃ (x3_1 : Int), v3 = .int .i64 x3_1 ∧ Aside0 (quoinref02_Check.l0 kq l0 x3_1 = some r) ∧ Aside0 (kq ≤ k) ∧ Drawn0 w w')
 case atStart => exact ⟨(0), Z2, H', ⟨Nat.le_refl _⟩, Z8⟩
 case round =>
  clear H'
  try clear c1
  obtain ⟨x3_1, rfl, HA, HK1, ⟨m1, rfl⟩⟩ := hrel
  cases gk with
  | zero => exact absurd HA.out (by simp [quoinref02_Check.l0])
  | succ k1 =>
   have H := HA.out
   clear HA
   simp only [quoinref02_Check.l0] at H
   by_cases c2 : x3_1 < (l0.length : Int)
   ·rw [if_pos c2] at H
    have c2b0 := decide_eq_true c2
    clear c2
    have HC3 := Aside0.mk H
    clear H
    go_upto_region 4 with (fail)
    repeat (go_quiet (fail); go_upto_region 4 with (fail))
    go_cut [36] (fun v36 wc => ∃ (kq : Nat) (x36_2 : Bool), v36 = .bool x36_2 ∧ Aside0 (quoinref02_Check.j1 kq l0 x3_1 x36_2 = some r) ∧ Aside0 (kq ≤ k1) ∧ Drawn0 w wc)
    case first =>
     have H := HC3.out
     clear HC3
     by_cases c4 : 0 ≤ x3_1
     ·rw [if_pos c4] at H
      have c4b0 := decide_eq_true c4
      clear c4
      (first | rw [c4b0] | (simp only [i64_w, i32_w]; rw [c4b0]) | skip)
      by_cases c5 : ((rd_T36 l0 x3_1).f0) < 0
      ·rw [if_pos c5] at H
       have c5b0 := decide_eq_true c5
       clear c5
       have H' := Aside0.mk H
       clear H
       have p146 : 0 ≤ (x3_1 : Int) := of_decide_eq_true Z1
       have q146 : x3_1 < (l0.length : Int) := of_decide_eq_true Z1
       obtain ⟨ad146, e146, hx146_0, hx146_1⟩ := at_T36 HR0.out x3_1 p146 q146
       cases e146
       replace p146 := eq_true p146
       replace q146 := eq_true q146
       go_wp2
       repeat (go_quiet (fail); try go_wp2)
       go_meet
       case rel => exact ⟨_, (true), Z2, H', ⟨by have := HK1.out; first | omega | exact Nat.le_refl _⟩, Z8⟩
      ·rw [if_neg c5] at H
       have c5b0 := decide_eq_false c5
       clear c5
       by_cases c6 : ((rd_T36 l0 x3_1).f0) > ((rd_T36 l0 x3_1).f1)
       ·rw [if_pos c6] at H
        have c6b0 : decide (((rd_T36 l0 x3_1).f1) < ((rd_T36 l0 x3_1).f0)) = true := decide_eq_true c6
        clear c6
        have H' := Aside0.mk H
        clear H
        have p146 : 0 ≤ (x3_1 : Int) := of_decide_eq_true Z1
        have q146 : x3_1 < (l0.length : Int) := of_decide_eq_true Z1
        obtain ⟨ad146, e146, hx146_0, hx146_1⟩ := at_T36 HR0.out x3_1 p146 q146
        cases e146
        replace p146 := eq_true p146
        replace q146 := eq_true q146
        have p147 : 0 ≤ (x3_1 : Int) := of_decide_eq_true Z1
        have q147 : x3_1 < (l0.length : Int) := of_decide_eq_true Z1
        obtain ⟨ad147, e147, hx147_0, hx147_1⟩ := at_T36 HR0.out x3_1 p147 q147
        obtain rfl : ad146 = ad147 := (by injection e147)
        replace p147 := eq_true p147
        replace q147 := eq_true q147
        have p148 : 0 ≤ (x3_1 : Int) := of_decide_eq_true Z1
        have q148 : x3_1 < (l0.length : Int) := of_decide_eq_true Z1
        obtain ⟨ad148, e148, hx148_0, hx148_1⟩ := at_T36 HR0.out x3_1 p148 q148
        obtain rfl : ad146 = ad148 := (by injection e148)
        replace p148 := eq_true p148
        replace q148 := eq_true q148
        go_wp2
        repeat (go_quiet (fail); try go_wp2)
        go_meet
        case rel => exact ⟨_, (true), Z2, H', ⟨by have := HK1.out; first | omega | exact Nat.le_refl _⟩, Z8⟩
       ·rw [if_neg c6] at H
        have c6b0 : decide (((rd_T36 l0 x3_1).f1) < ((rd_T36 l0 x3_1).f0)) = false := decide_eq_false c6
        clear c6
        have H' := Aside0.mk H
        clear H
        have p146 : 0 ≤ (x3_1 : Int) := of_decide_eq_true Z1
        have q146 : x3_1 < (l0.length : Int) := of_decide_eq_true Z1
        obtain ⟨ad146, e146, hx146_0, hx146_1⟩ := at_T36 HR0.out x3_1 p146 q146
        cases e146
        replace p146 := eq_true p146
        replace q146 := eq_true q146
        have p147 : 0 ≤ (x3_1 : Int) := of_decide_eq_true Z1
        have q147 : x3_1 < (l0.length : Int) := of_decide_eq_true Z1
        obtain ⟨ad147, e147, hx147_0, hx147_1⟩ := at_T36 HR0.out x3_1 p147 q147
        obtain rfl : ad146 = ad147 := (by injection e147)
        replace p147 := eq_true p147
        replace q147 := eq_true q147
        have p148 : 0 ≤ (x3_1 : Int) := of_decide_eq_true Z1
        have q148 : x3_1 < (l0.length : Int) := of_decide_eq_true Z1
        obtain ⟨ad148, e148, hx148_0, hx148_1⟩ := at_T36 HR0.out x3_1 p148 q148
        obtain rfl : ad146 = ad148 := (by injection e148)
        replace p148 := eq_true p148
        replace q148 := eq_true q148
        have p149 : 0 ≤ (x3_1 : Int) := of_decide_eq_true Z1
        have q149 : x3_1 < (l0.length : Int) := of_decide_eq_true Z1
        obtain ⟨ad149, e149, hx149_0, hx149_1⟩ := at_T36 HR0.out x3_1 p149 q149
        obtain rfl : ad146 = ad149 := (by injection e149)
        replace p149 := eq_true p149
        replace q149 := eq_true q149
        go_wp2
        repeat (go_quiet (fail); try go_wp2)
        go_meet
        case rel => exact ⟨_, (decide (((rd_T36 l0 x3_1).f1) > 1114111)), Z2, H', ⟨by have := HK1.out; first | omega | exact Nat.le_refl _⟩, Z8⟩
     ·rw [if_neg c4] at H
      exact absurd H (by simp)
    case rest =>
     clear HC3
     try clear c1
     try clear p1
     try clear q1
     try clear hx1
     try clear c2
     try clear c2b0
     try clear p2
     try clear c4
     try clear c4b0
     try clear c5
     try clear c5b0
     try clear c6
     try clear c6b0
     try clear hx146_0
     try clear hx146_1
     try clear hx147_0
     try clear hx147_1
     try clear hx148_0
     try clear hx148_1
     try clear hx149_0
     try clear hx149_1
     try clear p146
     try clear p147
     try clear p148
     try clear p149
     try clear q146
     try clear q147
     try clear q148
     try clear q149
     obtain ⟨kq, x36_2, rfl, HA, HJ2, ⟨mc2, rfl⟩⟩ := hcut
     cases kq with
     | zero => exact absurd HA.out (by simp [quoinref02_Check.j1])
     | succ kj2 =>
      have H := HA.out
      clear HA
      simp only [quoinref02_Check.j1] at H
      by_cases c7 : x36_2 = true
      ·subst c7
       have H1 : (some 20) = some r := by rw [if_pos rfl] at H; exact H
       clear H
       have H := H1
       clear H1
       obtain rfl := Option.some.inj H
       go_wp2
       repeat (go_quiet (fail); try go_wp2)
       go_ret
       exact ⟨Z2, Z8⟩
      ·replace c7 := Bool.eq_false_iff.mpr c7
       subst c7
       have H1 : (if x3_1 > 0 then (if 0 ≤ x3_1 then (if x3_1 < (l0.length : Int) then (if 0 ≤ (wrap64 (x3_1 - 1)) then (if (wrap64 (x3_1 - 1)) < (l0.length : Int) then (if ((rd_T36 l0 x3_1).f0) < (wrap32 (((rd_T36 l0 (wrap64 (x3_1 - 1))).f1) + 2)) then (some 20) else (quoinref02_Check.l0 kj2 l0 (wrap64 (x3_1 + 1)))) else (none)) else (none)) else (none)) else (none)) else (quoinref02_Check.l0 kj2 l0 (wrap64 (x3_1 + 1)))) = some r := by rw [if_neg (show ¬ (false = true) by decide)] at H; exact H
       clear H
       have H := H1
       clear H1
       by_cases c8 : x3_1 > 0
       ·rw [if_pos c8] at H
        have c8b0 : decide (0 < x3_1) = true := decide_eq_true c8
        clear c8
        by_cases c9 : 0 ≤ x3_1
        ·rw [if_pos c9] at H
         have c9b0 := decide_eq_true c9
         clear c9
         by_cases c10 : x3_1 < (l0.length : Int)
         ·rw [if_pos c10] at H
          have c10b0 := decide_eq_true c10
          clear c10
          obtain ⟨ji11, hji11⟩ : ∃ j_ : Int, (wrap64 (x3_1 - 1)) = j_ := ⟨_, rfl⟩
          replace H : (if 0 ≤ (ji11) then (if (ji11) < (l0.length : Int) then (if ((rd_T36 l0 x3_1).f0) < (wrap32 (((rd_T36 l0 (ji11)).f1) + 2)) then (some 20) else (quoinref02_Check.l0 kj2 l0 (wrap64 (x3_1 + 1)))) else (none)) else (none)) = some r := by first | (rw [hji11] at H; exact H) | (simp only [hji11] at H ⊢; exact H)
          have hji11w : (IntKind.i64.wrap (x3_1 - 1)) = ji11 := (i64_w _).trans hji11
          by_cases c12 : 0 ≤ (ji11)
          ·rw [if_pos c12] at H
           have c12b0 := decide_eq_true c12
           clear c12
           by_cases c13 : (ji11) < (l0.length : Int)
           ·rw [if_pos c13] at H
            have c13b0 := decide_eq_true c13
            clear c13
            by_cases c14 : ((rd_T36 l0 x3_1).f0) < (wrap32 (((rd_T36 l0 (ji11)).f1) + 2))
            ·rw [if_pos c14] at H
             have c14b0 := decide_eq_true c14
             clear c14
             obtain rfl := Option.some.inj H
             have p150 : 0 ≤ (x3_1 : Int) := of_decide_eq_true Z1
             have q150 : x3_1 < (l0.length : Int) := of_decide_eq_true Z1
             obtain ⟨ad150, e150, hx150_0, hx150_1⟩ := at_T36 HR0.out x3_1 p150 q150
             cases e150
             replace p150 := eq_true p150
             replace q150 := eq_true q150
             have p151 : 0 ≤ ((ji11) : Int) := of_decide_eq_true Z1
             have q151 : (ji11) < (l0.length : Int) := of_decide_eq_true Z1
             obtain ⟨ad151, e151, hx151_0, hx151_1⟩ := at_T36 HR0.out (ji11) p151 q151
             obtain rfl : ad150 = ad151 := (by injection e151)
             replace p151 := eq_true p151
             replace q151 := eq_true q151
             go_wp2
             repeat (go_quiet (fail); try go_wp2)
             go_ret
             exact ⟨by first | rfl | (simp; done) | (simp only [← hji11] <;> (first | rfl | (simp; done))) | (simp only [← hji11] <;> rw [u32_tmod]) | (simp only [← hji11] <;> simp <;> omega) | (simp [*]; done) | (simp <;> omega) | rw [u32_tmod], Z8⟩
            ·rw [if_neg c14] at H
             have c14b0 := decide_eq_false c14
             clear c14
             have H' := Aside0.mk H
             clear H
             have p150 : 0 ≤ (x3_1 : Int) := of_decide_eq_true Z1
             have q150 : x3_1 < (l0.length : Int) := of_decide_eq_true Z1
             obtain ⟨ad150, e150, hx150_0, hx150_1⟩ := at_T36 HR0.out x3_1 p150 q150
             cases e150
             replace p150 := eq_true p150
             replace q150 := eq_true q150
             have p151 : 0 ≤ ((ji11) : Int) := of_decide_eq_true Z1
             have q151 : (ji11) < (l0.length : Int) := of_decide_eq_true Z1
             obtain ⟨ad151, e151, hx151_0, hx151_1⟩ := at_T36 HR0.out (ji11) p151 q151
             obtain rfl : ad150 = ad151 := (by injection e151)
             replace p151 := eq_true p151
             replace q151 := eq_true q151
             go_wp2
             repeat (go_quiet (fail); try go_wp2)
             go_roundg kj2
             case measure => have := HK1.out; have := HJ2.out; omega
             case rel => exact ⟨(wrap64 (x3_1 + 1)), Z2, H', ⟨by have := HK1.out; have := HJ2.out; omega⟩, Z8⟩
           ·rw [if_neg c13] at H
            exact absurd H (by simp)
          ·rw [if_neg c12] at H
           exact absurd H (by simp)
         ·rw [if_neg c10] at H
          exact absurd H (by simp)
        ·rw [if_neg c9] at H
         exact absurd H (by simp)
       ·rw [if_neg c8] at H
        have c8b0 : decide (0 < x3_1) = false := decide_eq_false c8
        clear c8
        have H' := Aside0.mk H
        clear H
        go_wp2
        repeat (go_quiet (fail); try go_wp2)
        go_roundg kj2
        case measure => have := HK1.out; have := HJ2.out; omega
        case rel => exact ⟨(wrap64 (x3_1 + 1)), Z2, H', ⟨by have := HK1.out; have := HJ2.out; omega⟩, Z8⟩
   ·rw [if_neg c2] at H
    have c2b0 := decide_eq_false c2
    clear c2
    by_cases c15 : (l0.length : Int) > 2048
    ·rw [if_pos c15] at H
     have c15b0 : decide (2048 < (l0.length : Int)) = true := decide_eq_true c15
     have c15b1 : decide (2048 < l0.length) = true := decide_eq_true Z12
     clear c15
     obtain rfl := Option.some.inj H
     go_wp2
     repeat (go_quiet (fail); try go_wp2)
     go_ret
     exact ⟨Z2, Z8⟩
    ·rw [if_neg c15] at H
     have c15b0 : decide (2048 < (l0.length : Int)) = false := decide_eq_false c15
     have c15b1 : decide (2048 < l0.length) = false := decide_eq_false Z12
     clear c15
     obtain rfl := Option.some.inj H
     go_wp2
     repeat (go_quiet (fail); try go_wp2)
     go_ret
     exact ⟨Z2, Z8⟩
def quoinref02_Size.l0 : Nat → List (S36) → Int → Int → Option (Int)
 | 0, _, _, _ => none
 | k + 1, x0, x3, x4 => if x4 < (x0.length : Int) then (if 0 ≤ x4 then (quoinref02_Size.l0 k x0 (wrap64 ((wrap64 (x3 + (wrap64 (wrap32 (((rd_T36 x0 x4).f1) - ((rd_T36 x0 x4).f0)))))) + 1)) (wrap64 (x4 + 1))) else (none)) else (some x3)
def quoinref02_Size.f (k : Nat) (l0 : List (S36)) : Option (Int) := (quoinref02_Check.f k l0).bind fun t152 => (if t152 = 0 then (quoinref02_Size.l0 k l0 0 0) else (some 0))
set_option maxHeartbeats 8000000 in
set_option maxRecDepth 100000 in
theorem quoinref02_Size.calls (k : Nat) (A0 : Option Addr) (c0 : Nat) (l0 : List (S36)) (r : Int) (w : World) (hr0 : Kd.C k36 w A0 l0.length l0) (hc0 : l0.length ≤ c0) (h : quoinref02_Size.f k l0 = some r) :
  Calls Tryd.prog 20 #[.slice A0 l0.length c0] w fun e w' => e = .returned (.int .i64 r) ∧ Drawn0 w w' := by
 have HR0 := Aside0.mk hr0
 have HC0 := Aside0.mk hc0
 clear hr0 hc0
 have H : ((quoinref02_Check.f k l0).bind fun t152 => (if t152 = 0 then (quoinref02_Size.l0 k l0 0 0) else (some 0))) = some r := h
 clear h
 replace H := bS H
 obtain ⟨t152, A2, H⟩ := H
 try dsimp only at H
 by_cases c3 : t152 = 0
 ·rw [if_pos c3] at H
  have c3b0 := e1 c3
  have c3b1 := e2 c3
  clear c3
  have H' := Aside0.mk H
  clear H
  go_enter Tryd.func20, Tryd.ntmps20
  go_wp2_with (first | (go_at_call 18; (with_reducible refine (quoinref02_Check.calls k _ _ l0 t152 _ ?side1 ?side2 A2.out).mono ?_); (case side1 => repeat (first | exact HR0.out | (with_reducible refine Kd.C_alloc ?_ _) | (with_reducible refine Kd.C_drewN ?_ _) | (with_reducible refine Kd.C_drew ?_))); (case side2 => exact HC0.out); rintro e w' ⟨rfl, ⟨nd, rfl⟩⟩; (try first | exact ⟨rfl, _, World.drewN_drewN _ _ _⟩ | exact ⟨rfl, _, Eq.trans (World.drewN_drewN _ _ _) (congrArg (World.drewN _) (Nat.add_assoc _ _ _))⟩)))
  repeat (go_quiet (first | (go_at_call 18; (with_reducible refine (quoinref02_Check.calls k _ _ l0 t152 _ ?side1 ?side2 A2.out).mono ?_); (case side1 => repeat (first | exact HR0.out | (with_reducible refine Kd.C_alloc ?_ _) | (with_reducible refine Kd.C_drewN ?_ _) | (with_reducible refine Kd.C_drew ?_))); (case side2 => exact HC0.out); rintro e w' ⟨rfl, ⟨nd, rfl⟩⟩; (try first | exact ⟨rfl, _, World.drewN_drewN _ _ _⟩ | exact ⟨rfl, _, Eq.trans (World.drewN_drewN _ _ _) (congrArg (World.drewN _) (Nat.add_assoc _ _ _))⟩))); try go_wp2_with (first | (go_at_call 18; (with_reducible refine (quoinref02_Check.calls k _ _ l0 t152 _ ?side1 ?side2 A2.out).mono ?_); (case side1 => repeat (first | exact HR0.out | (with_reducible refine Kd.C_alloc ?_ _) | (with_reducible refine Kd.C_drewN ?_ _) | (with_reducible refine Kd.C_drew ?_))); (case side2 => exact HC0.out); rintro e w' ⟨rfl, ⟨nd, rfl⟩⟩; (try first | exact ⟨rfl, _, World.drewN_drewN _ _ _⟩ | exact ⟨rfl, _, Eq.trans (World.drewN_drewN _ _ _) (congrArg (World.drewN _) (Nat.add_assoc _ _ _))⟩))))
  go_loopg [3, 4] k (fun kq v3 v4 w' => ∃ (x3_1 : Int) (x4_1 : Int), v3 = .int .i64 x3_1 ∧ v4 = .int .i64 x4_1 ∧ Aside0 (quoinref02_Size.l0 kq l0 x3_1 x4_1 = some r) ∧ Aside0 (kq ≤ k) ∧ Drawn0 w w')
  case atStart => exact ⟨(0), (0), Z2, Z2, H', ⟨Nat.le_refl _⟩, Z8⟩
  case round =>
   clear H'
   try clear c2
   try clear p2
   try clear c3
   try clear c3b0
   try clear c3b1
   obtain ⟨x3_1, x4_1, rfl, rfl, HA, HK1, ⟨m1, rfl⟩⟩ := hrel
   cases gk with
   | zero => exact absurd HA.out (by simp [quoinref02_Size.l0])
   | succ k1 =>
    have H := HA.out
    clear HA
    simp only [quoinref02_Size.l0] at H
    by_cases c4 : x4_1 < (l0.length : Int)
    ·rw [if_pos c4] at H
     have c4b0 := decide_eq_true c4
     clear c4
     by_cases c5 : 0 ≤ x4_1
     ·rw [if_pos c5] at H
      have c5b0 := decide_eq_true c5
      clear c5
      have H' := Aside0.mk H
      clear H
      have p153 : 0 ≤ (x4_1 : Int) := of_decide_eq_true Z1
      have q153 : x4_1 < (l0.length : Int) := of_decide_eq_true Z1
      obtain ⟨ad153, e153, hx153_0, hx153_1⟩ := at_T36 HR0.out x4_1 p153 q153
      cases e153
      replace p153 := eq_true p153
      replace q153 := eq_true q153
      have p154 : 0 ≤ (x4_1 : Int) := of_decide_eq_true Z1
      have q154 : x4_1 < (l0.length : Int) := of_decide_eq_true Z1
      obtain ⟨ad154, e154, hx154_0, hx154_1⟩ := at_T36 HR0.out x4_1 p154 q154
      obtain rfl : ad153 = ad154 := (by injection e154)
      replace p154 := eq_true p154
      replace q154 := eq_true q154
      go_wp2
      repeat (go_quiet (fail); try go_wp2)
      go_roundg k1
      case measure => have := HK1.out; omega
      case rel => exact ⟨(wrap64 ((wrap64 (x3_1 + (wrap64 (wrap32 (((rd_T36 l0 x4_1).f1) - ((rd_T36 l0 x4_1).f0)))))) + 1)), (wrap64 (x4_1 + 1)), Z2, Z2, H', ⟨Z15⟩, Z8⟩
     ·rw [if_neg c5] at H
      exact absurd H (by simp)
    ·rw [if_neg c4] at H
     have c4b0 := decide_eq_false c4
     clear c4
     obtain rfl := Option.some.inj H
     go_wp2
     repeat (go_quiet (fail); try go_wp2)
     go_ret
     exact ⟨Z2, Z8⟩
 ·rw [if_neg c3] at H
  have c3b0 := e3 c3
  have c3b1 := e4 c3
  obtain rfl := Option.some.inj H
  go_enter Tryd.func20, Tryd.ntmps20
  go_wp2_with (first | (go_at_call 18; (with_reducible refine (quoinref02_Check.calls k _ _ l0 t152 _ ?side1 ?side2 A2.out).mono ?_); (case side1 => repeat (first | exact HR0.out | (with_reducible refine Kd.C_alloc ?_ _) | (with_reducible refine Kd.C_drewN ?_ _) | (with_reducible refine Kd.C_drew ?_))); (case side2 => exact HC0.out); rintro e w' ⟨rfl, ⟨nd, rfl⟩⟩; (try first | exact ⟨rfl, _, World.drewN_drewN _ _ _⟩ | exact ⟨rfl, _, Eq.trans (World.drewN_drewN _ _ _) (congrArg (World.drewN _) (Nat.add_assoc _ _ _))⟩)))
  repeat (go_quiet (first | (go_at_call 18; (with_reducible refine (quoinref02_Check.calls k _ _ l0 t152 _ ?side1 ?side2 A2.out).mono ?_); (case side1 => repeat (first | exact HR0.out | (with_reducible refine Kd.C_alloc ?_ _) | (with_reducible refine Kd.C_drewN ?_ _) | (with_reducible refine Kd.C_drew ?_))); (case side2 => exact HC0.out); rintro e w' ⟨rfl, ⟨nd, rfl⟩⟩; (try first | exact ⟨rfl, _, World.drewN_drewN _ _ _⟩ | exact ⟨rfl, _, Eq.trans (World.drewN_drewN _ _ _) (congrArg (World.drewN _) (Nat.add_assoc _ _ _))⟩))); try go_wp2_with (first | (go_at_call 18; (with_reducible refine (quoinref02_Check.calls k _ _ l0 t152 _ ?side1 ?side2 A2.out).mono ?_); (case side1 => repeat (first | exact HR0.out | (with_reducible refine Kd.C_alloc ?_ _) | (with_reducible refine Kd.C_drewN ?_ _) | (with_reducible refine Kd.C_drew ?_))); (case side2 => exact HC0.out); rintro e w' ⟨rfl, ⟨nd, rfl⟩⟩; (try first | exact ⟨rfl, _, World.drewN_drewN _ _ _⟩ | exact ⟨rfl, _, Eq.trans (World.drewN_drewN _ _ _) (congrArg (World.drewN _) (Nat.add_assoc _ _ _))⟩))))
  go_ret
  exact ⟨Z2, Z8⟩
def quoinref02_Has.l0 : Nat → List (S36) → Int → Int → Option (Bool)
 | 0, _, _, _ => none
 | k + 1, x0, x1, x5 => if x5 < (x0.length : Int) then (if 0 ≤ x5 then (if ((rd_T36 x0 x5).f0) ≤ x1 then (if x1 ≤ ((rd_T36 x0 x5).f1) then (some true) else (quoinref02_Has.l0 k x0 x1 (wrap64 (x5 + 1)))) else (quoinref02_Has.l0 k x0 x1 (wrap64 (x5 + 1)))) else (none)) else (some false)
def quoinref02_Has.f (k : Nat) (l0 : List (S36)) (a1 : Int) : Option (Bool) := quoinref02_Has.l0 k l0 a1 0
set_option maxHeartbeats 8000000 in
set_option maxRecDepth 100000 in
theorem quoinref02_Has.calls (k : Nat) (A0 : Option Addr) (c0 : Nat) (l0 : List (S36)) (a1 : Int) (r : Bool) (w : World) (hr0 : Kd.C k36 w A0 l0.length l0) (hc0 : l0.length ≤ c0) (h : quoinref02_Has.f k l0 a1 = some r) :
  Calls Tryd.prog 22 #[.slice A0 l0.length c0, .int .i32 a1] w fun e w' => e = .returned (.bool r) ∧ Drawn0 w w' := by
 have HR0 := Aside0.mk hr0
 have HC0 := Aside0.mk hc0
 clear hr0 hc0
 have H : (quoinref02_Has.l0 k l0 a1 0) = some r := h
 clear h
 have H' := Aside0.mk H
 clear H
 go_enter Tryd.func22, Tryd.ntmps22
 go_wp2
 go_loopg [5] k (fun kq v5 w' => ∃ (x5_1 : Int), v5 = .int .i64 x5_1 ∧ Aside0 (quoinref02_Has.l0 kq l0 a1 x5_1 = some r) ∧ Aside0 (kq ≤ k) ∧ Drawn0 w w')
 case atStart => exact ⟨(0), Z2, H', ⟨Nat.le_refl _⟩, Z8⟩
 case round =>
  clear H'
  try clear c2
  try clear p2
  obtain ⟨x5_1, rfl, HA, HK1, ⟨m1, rfl⟩⟩ := hrel
  cases gk with
  | zero => exact absurd HA.out (by simp [quoinref02_Has.l0])
  | succ k1 =>
   have H := HA.out
   clear HA
   simp only [quoinref02_Has.l0] at H
   by_cases c3 : x5_1 < (l0.length : Int)
   ·rw [if_pos c3] at H
    have c3b0 := decide_eq_true c3
    clear c3
    by_cases c4 : 0 ≤ x5_1
    ·rw [if_pos c4] at H
     have c4b0 := decide_eq_true c4
     clear c4
     by_cases c5 : ((rd_T36 l0 x5_1).f0) ≤ a1
     ·rw [if_pos c5] at H
      have c5b0 := decide_eq_true c5
      clear c5
      by_cases c6 : a1 ≤ ((rd_T36 l0 x5_1).f1)
      ·rw [if_pos c6] at H
       have c6b0 := decide_eq_true c6
       clear c6
       obtain rfl := Option.some.inj H
       have p155 : 0 ≤ (x5_1 : Int) := of_decide_eq_true Z1
       have q155 : x5_1 < (l0.length : Int) := of_decide_eq_true Z1
       obtain ⟨ad155, e155, hx155_0, hx155_1⟩ := at_T36 HR0.out x5_1 p155 q155
       cases e155
       replace p155 := eq_true p155
       replace q155 := eq_true q155
       have p156 : 0 ≤ (x5_1 : Int) := of_decide_eq_true Z1
       have q156 : x5_1 < (l0.length : Int) := of_decide_eq_true Z1
       obtain ⟨ad156, e156, hx156_0, hx156_1⟩ := at_T36 HR0.out x5_1 p156 q156
       obtain rfl : ad155 = ad156 := (by injection e156)
       replace p156 := eq_true p156
       replace q156 := eq_true q156
       go_wp2
       go_ret
       exact ⟨Z2, Z8⟩
      ·rw [if_neg c6] at H
       have c6b0 := decide_eq_false c6
       clear c6
       have H' := Aside0.mk H
       clear H
       have p155 : 0 ≤ (x5_1 : Int) := of_decide_eq_true Z1
       have q155 : x5_1 < (l0.length : Int) := of_decide_eq_true Z1
       obtain ⟨ad155, e155, hx155_0, hx155_1⟩ := at_T36 HR0.out x5_1 p155 q155
       cases e155
       replace p155 := eq_true p155
       replace q155 := eq_true q155
       have p156 : 0 ≤ (x5_1 : Int) := of_decide_eq_true Z1
       have q156 : x5_1 < (l0.length : Int) := of_decide_eq_true Z1
       obtain ⟨ad156, e156, hx156_0, hx156_1⟩ := at_T36 HR0.out x5_1 p156 q156
       obtain rfl : ad155 = ad156 := (by injection e156)
       replace p156 := eq_true p156
       replace q156 := eq_true q156
       go_wp2
       go_roundg k1
       case measure => have := HK1.out; omega
       case rel => exact ⟨(wrap64 (x5_1 + 1)), Z2, H', ⟨Z15⟩, Z8⟩
     ·rw [if_neg c5] at H
      have c5b0 := decide_eq_false c5
      clear c5
      have H' := Aside0.mk H
      clear H
      have p155 : 0 ≤ (x5_1 : Int) := of_decide_eq_true Z1
      have q155 : x5_1 < (l0.length : Int) := of_decide_eq_true Z1
      obtain ⟨ad155, e155, hx155_0, hx155_1⟩ := at_T36 HR0.out x5_1 p155 q155
      cases e155
      replace p155 := eq_true p155
      replace q155 := eq_true q155
      go_wp2
      go_roundg k1
      case measure => have := HK1.out; omega
      case rel => exact ⟨(wrap64 (x5_1 + 1)), Z2, H', ⟨Z15⟩, Z8⟩
    ·rw [if_neg c4] at H
     exact absurd H (by simp)
   ·rw [if_neg c3] at H
    have c3b0 := decide_eq_false c3
    clear c3
    obtain rfl := Option.some.inj H
    go_wp2
    go_ret
    exact ⟨Z2, Z8⟩
end Go.Proofs.YtfnkboilepgmoaaDoor.R
