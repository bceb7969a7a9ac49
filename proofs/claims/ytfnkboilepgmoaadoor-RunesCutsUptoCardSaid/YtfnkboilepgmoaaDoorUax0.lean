import Derived.Test.YtfnkboilepgmoaaDoorUPre
namespace Go.Proofs.YtfnkboilepgmoaaDoor.R
open Go.RowKit Go.Proofs.YtfnkboilepgmoaaDoorW.PrintWords Go.Proofs.YtfnkboilepgmoaaDoorW.PrintLast Go.Proofs.YtfnkboilepgmoaaDoorW.PrintMore
attribute [local go_sem] max2_int min2_int max_two min_two max_three min_three max_four min_four
set_option linter.unusedVariables false
set_option linter.unusedSimpArgs false
def quoinref02_with.l0 : Nat → List Int → Int → Int → Option (List Int)
 | 0, _, _, _ => none
 | k + 1, x0, x1, x5 => if x5 < (x0.length : Int) then (if 0 ≤ x5 then (if (rd x0 x5) < x1 then (quoinref02_with.l0 k x0 x1 (wrap64 (x5 + 1))) else (if (rd x0 x5) = x1 then (some x0) else ((some (([] : List Int) : List Int)).bind fun y132 => (if x5 ≤ (x0.length : Int) then ((some (x0.take (x5 : Int).toNat : List Int)).bind fun y135 => (if y132.length + y135.length < 35184372088832 then ((some (y132 ++ y135 : List Int)).bind fun y139 => (if y139.length < 35184372088832 then ((some (y139 ++ [x1] : List Int)).bind fun y142 => ((some (x0.drop (x5 : Int).toNat : List Int)).bind fun y145 => (if y142.length + y145.length < 35184372088832 then (some (y142 ++ y145)) else (none)))) else (none))) else (none))) else (none))))) else (none)) else ((some (([] : List Int) : List Int)).bind fun y152 => (if 0 ≤ x5 then (if x5 ≤ (x0.length : Int) then ((some (x0.take (x5 : Int).toNat : List Int)).bind fun y155 => (if y152.length + y155.length < 35184372088832 then ((some (y152 ++ y155 : List Int)).bind fun y159 => (if y159.length < 35184372088832 then ((some (y159 ++ [x1] : List Int)).bind fun y162 => ((some (x0.drop (x5 : Int).toNat : List Int)).bind fun y165 => (if y162.length + y165.length < 35184372088832 then (some (y162 ++ y165)) else (none)))) else (none))) else (none))) else (none)) else (none)))
def quoinref02_with.f (k : Nat) (l0 : List Int) (a1 : Int) : Option (List Int) := quoinref02_with.l0 k l0 a1 0
set_option maxHeartbeats 8000000 in
set_option maxRecDepth 100000 in
theorem quoinref02_with.calls (k : Nat) (P0_ : Nat → Prop) (u9000_ : Value) (l0 : List Int) (a1 : Int) (r : List Int) (w0 w : World) (hB : Below w0.heap.size w0 w) (ho0 : Kd.R (Kd.int .i32) 21 w w0.heap.size P0_ u9000_ l0) (h : quoinref02_with.f k l0 a1 = some r) :
  Calls Tryd.prog 75 #[u9000_, .int .i32 a1] w fun e w' => ∃ v0_ : Value, e = .returned (v0_) ∧ Kd.R (Kd.int .i32) 21 w' w0.heap.size (fun k_ => (P0_ k_ ∨ w.heap.size ≤ k_)) v0_ r ∧ Below w0.heap.size w0 w' ∧ Kept w w' (fun k_ => P0_ k_) := by
 have HO0 := Aside0.mk (show Kd.R (Kd.int .i32) 21 w w0.heap.size (fun k_ => (P0_ k_ ∨ w.heap.size ≤ k_)) u9000_ l0 from Kd.R_mono ho0 (fun k_ hk => (.inl hk)))
 have HK := Aside0.mk (Kept.refl w (fun k_ => P0_ k_))
 have HW0 := Aside0.mk hB.size
 have HB := Aside0.mk hB
 clear hB
 have H : (quoinref02_with.l0 k l0 a1 0) = some r := h
 clear h
 have H' := Aside0.mk H
 clear H
 go_enter Tryd.func75, Tryd.ntmps75
 go_wp2
 go_loopg [5] k (fun kq v5 w' => ∃ (x5_1 : Int), v5 = .int .i64 x5_1 ∧ Aside0 (quoinref02_with.l0 kq l0 a1 x5_1 = some r) ∧ Aside0 (kq ≤ k) ∧ Aside0 (Kd.R (Kd.int .i32) 21 w' w0.heap.size (fun k_ => (P0_ k_ ∨ w.heap.size ≤ k_)) u9000_ l0) ∧ Aside0 (Kept w w' (fun k_ => P0_ k_)) ∧ Aside0 (Below w0.heap.size w0 w'))
 case atStart => exact ⟨(0), Z2, H', ⟨Nat.le_refl _⟩, ⟨by (with_reducible repeat (first | apply Kd.R_alloc | apply Kd.R_drewN | apply Kd.R_drew)); exact HO0.out⟩, ⟨Z6⟩, ⟨Z0⟩⟩
 case round =>
  clear H'
  try clear p2
  obtain ⟨x5_1, rfl, HA, HK1, HO_0, HK, HB⟩ := hrel
  cases gk with
  | zero => exact absurd HA.out (by simp [quoinref02_with.l0])
  | succ k1 =>
   have H := HA.out
   clear HA
   simp only [quoinref02_with.l0] at H
   by_cases c3 : x5_1 < (l0.length : Int)
   ·rw [if_pos c3] at H
    have c3b0 := decide_eq_true c3
    clear c3
    by_cases c4 : 0 ≤ x5_1
    ·rw [if_pos c4] at H
     have c4b0 := decide_eq_true c4
     clear c4
     by_cases c5 : (rd l0 x5_1) < a1
     ·rw [if_pos c5] at H
      have c5b0 := decide_eq_true c5
      clear c5
      have H' := Aside0.mk H
      clear H
      obtain ⟨Ao6, co6, eo6⟩ := Kd.R_slice HO_0.out
      subst eo6
      have p130 : 0 ≤ (x5_1 : Int) := of_decide_eq_true Z1
      have q130 : x5_1 < (l0.length : Int) := of_decide_eq_true Z1
      obtain ⟨ad130, e130, hx130_0⟩ := Kd.at_int (Kd.R_reads' HO_0.out).2.2 x5_1 p130 q130
      cases e130
      replace p130 := eq_true p130
      replace q130 := eq_true q130
      go_wp2
      go_roundg k1
      case measure => have := HK1.out; omega
      case rel => exact ⟨(wrap64 (x5_1 + 1)), Z2, H', ⟨Z18⟩, ⟨by (with_reducible repeat (first | apply Kd.R_alloc | apply Kd.R_drewN | apply Kd.R_drew)); exact HO_0.out⟩, ⟨Z6⟩, ⟨Z0⟩⟩
     ·rw [if_neg c5] at H
      have c5b0 := decide_eq_false c5
      clear c5
      by_cases c7 : (rd l0 x5_1) = a1
      ·rw [if_pos c7] at H
       have c7b0 := e1 c7
       have c7b1 := e2 c7
       clear c7
       obtain rfl := Option.some.inj H
       obtain ⟨Ao8, co8, eo8⟩ := Kd.R_slice HO_0.out
       subst eo8
       have p130 : 0 ≤ (x5_1 : Int) := of_decide_eq_true Z1
       have q130 : x5_1 < (l0.length : Int) := of_decide_eq_true Z1
       obtain ⟨ad130, e130, hx130_0⟩ := Kd.at_int (Kd.R_reads' HO_0.out).2.2 x5_1 p130 q130
       cases e130
       replace p130 := eq_true p130
       replace q130 := eq_true q130
       have p131 : 0 ≤ (x5_1 : Int) := of_decide_eq_true Z1
       have q131 : x5_1 < (l0.length : Int) := of_decide_eq_true Z1
       obtain ⟨ad131, e131, hx131_0⟩ := Kd.at_int (Kd.R_reads' HO_0.out).2.2 x5_1 p131 q131
       obtain rfl : ad130 = ad131 := (by injection e131)
       replace p131 := eq_true p131
       replace q131 := eq_true q131
       go_wp2
       go_ret
       exact ⟨_, Z4, by (with_reducible repeat (first | apply Kd.R_alloc | apply Kd.R_drewN | apply Kd.R_drew)); exact HO_0.out, Z0, Z6⟩
      ·rw [if_neg c7] at H
       have c7b0 := e3 c7
       have c7b1 := e4 c7
       obtain ⟨y132, hy132⟩ : ∃ y_ : List Int, y_ = (([] : List Int)) := ⟨_, rfl⟩
       replace H : (if x5_1 ≤ (l0.length : Int) then ((some (l0.take (x5_1 : Int).toNat : List Int)).bind fun y135 => (if y132.length + y135.length < 35184372088832 then ((some (y132 ++ y135 : List Int)).bind fun y139 => (if y139.length < 35184372088832 then ((some (y139 ++ [a1] : List Int)).bind fun y142 => ((some (l0.drop (x5_1 : Int).toNat : List Int)).bind fun y145 => (if y142.length + y145.length < 35184372088832 then (some (y142 ++ y145)) else (none)))) else (none))) else (none))) else (none)) = some r := by first | (rw [hy132]; with_reducible exact H) | (have H2_ := (Option.bind_some _ _).symm.trans H; rw [hy132]; with_reducible exact H2_) | (have H2_ := (Option.bind_some _ _).symm.trans H; with_reducible exact H2_) | with_reducible exact H | (rw [hy132]; exact H) | exact H
       have Ny132 := Aside0.mk hy132
       clear hy132
       have c9b0 := eq_true (of_decide_eq_true Z1 : 0 ≤ x5_1)
       by_cases c10 : x5_1 ≤ (l0.length : Int)
       ·rw [if_pos c10] at H
        have c10b0 := eq_true c10
        have c10b1 := decide_eq_true c10
        clear c10
        obtain ⟨y135, hy135⟩ : ∃ y_ : List Int, y_ = (l0.take (x5_1 : Int).toNat) := ⟨_, rfl⟩
        replace H : (if y132.length + y135.length < 35184372088832 then ((some (y132 ++ y135 : List Int)).bind fun y139 => (if y139.length < 35184372088832 then ((some (y139 ++ [a1] : List Int)).bind fun y142 => ((some (l0.drop (x5_1 : Int).toNat : List Int)).bind fun y145 => (if y142.length + y145.length < 35184372088832 then (some (y142 ++ y145)) else (none)))) else (none))) else (none)) = some r := by first | (rw [hy135]; with_reducible exact H) | (have H2_ := (Option.bind_some _ _).symm.trans H; rw [hy135]; with_reducible exact H2_) | (have H2_ := (Option.bind_some _ _).symm.trans H; with_reducible exact H2_) | with_reducible exact H | (rw [hy135]; exact H) | exact H
        have Ny135 := Aside0.mk hy135
        clear hy135
        by_cases c11 : y132.length + y135.length < 35184372088832
        ·rw [if_pos c11] at H
         have LMc11 := Aside0.mk c11
         clear c11
         obtain ⟨y139, hy139⟩ : ∃ y_ : List Int, y_ = (y132 ++ y135) := ⟨_, rfl⟩
         replace H : (if y139.length < 35184372088832 then ((some (y139 ++ [a1] : List Int)).bind fun y142 => ((some (l0.drop (x5_1 : Int).toNat : List Int)).bind fun y145 => (if y142.length + y145.length < 35184372088832 then (some (y142 ++ y145)) else (none)))) else (none)) = some r := by first | (rw [hy139]; with_reducible exact H) | (have H2_ := (Option.bind_some _ _).symm.trans H; rw [hy139]; with_reducible exact H2_) | (have H2_ := (Option.bind_some _ _).symm.trans H; with_reducible exact H2_) | with_reducible exact H | (rw [hy139]; exact H) | exact H
         have Ny139 := Aside0.mk hy139
         clear hy139
         by_cases c12 : y139.length < 35184372088832
         ·rw [if_pos c12] at H
          have LMc12 := Aside0.mk c12
          clear c12
          obtain ⟨y142, hy142⟩ : ∃ y_ : List Int, y_ = (y139 ++ [a1]) := ⟨_, rfl⟩
          replace H : ((some (l0.drop (x5_1 : Int).toNat : List Int)).bind fun y145 => (if y142.length + y145.length < 35184372088832 then (some (y142 ++ y145)) else (none))) = some r := by first | (rw [hy142]; with_reducible exact H) | (have H2_ := (Option.bind_some _ _).symm.trans H; rw [hy142]; with_reducible exact H2_) | (have H2_ := (Option.bind_some _ _).symm.trans H; with_reducible exact H2_) | with_reducible exact H | (rw [hy142]; exact H) | exact H
          have Ny142 := Aside0.mk hy142
          clear hy142
          have c13b0 := eq_true (of_decide_eq_true Z1 : 0 ≤ x5_1)
          have c14b0 := eq_true (of_decide_eq_true Z1 : x5_1 ≤ (l0.length : Int))
          obtain ⟨y145, hy145⟩ : ∃ y_ : List Int, y_ = (l0.drop (x5_1 : Int).toNat) := ⟨_, rfl⟩
          replace H : (if y142.length + y145.length < 35184372088832 then (some (y142 ++ y145)) else (none)) = some r := by first | (rw [hy145]; with_reducible exact H) | (have H2_ := (Option.bind_some _ _).symm.trans H; rw [hy145]; with_reducible exact H2_) | (have H2_ := (Option.bind_some _ _).symm.trans H; with_reducible exact H2_) | with_reducible exact H | (rw [hy145]; exact H) | exact H
          have Ny145 := Aside0.mk hy145
          clear hy145
          by_cases c15 : y142.length + y145.length < 35184372088832
          ·rw [if_pos c15] at H
           have LMc15 := Aside0.mk c15
           clear c15
           obtain ⟨y149, hy149⟩ : ∃ y_ : List Int, y_ = (y142 ++ y145) := ⟨_, rfl⟩
           replace H : (some y149) = some r := by first | (rw [hy149]; with_reducible exact H) | (have H2_ := (Option.bind_some _ _).symm.trans H; rw [hy149]; with_reducible exact H2_) | (have H2_ := (Option.bind_some _ _).symm.trans H; with_reducible exact H2_) | with_reducible exact H | (rw [hy149]; exact H) | exact H
           have Ny149 := Aside0.mk hy149
           clear hy149
           obtain rfl := Option.some.inj H
           obtain ⟨Ao16, co16, eo16⟩ := Kd.R_slice HO_0.out
           subst eo16
           have p130 : 0 ≤ (x5_1 : Int) := of_decide_eq_true Z1
           have q130 : x5_1 < (l0.length : Int) := of_decide_eq_true Z1
           obtain ⟨ad130, e130, hx130_0⟩ := Kd.at_int (Kd.R_reads' HO_0.out).2.2 x5_1 p130 q130
           cases e130
           replace p130 := eq_true p130
           replace q130 := eq_true q130
           have p131 : 0 ≤ (x5_1 : Int) := of_decide_eq_true Z1
           have q131 : x5_1 < (l0.length : Int) := of_decide_eq_true Z1
           obtain ⟨ad131, e131, hx131_0⟩ := Kd.at_int (Kd.R_reads' HO_0.out).2.2 x5_1 p131 q131
           obtain rfl : ad130 = ad131 := (by injection e131)
           replace p131 := eq_true p131
           replace q131 := eq_true q131
           go_wp2_with (first | ((with_reducible refine gate_dst (N := 34) rfl ?_); refine Kd.R_lit (Kd.int .i32) _ 21 ?hg (N := 34) ?hd (xs := ([] : List Int)) (inner := []) (ok := fun _ => True) (okp := fun _ => True) ?hr ?hp (fun _ hk => hk) trivial (Below.refl _ _) (Nat.le_refl _) Z19 ?_; (case hd => rfl); (case hg => rfl); (case hr => first | (go_simp; done) | (go_simp; rfl)); (case hp => exact (Reps.none _ _)); intro v133 w17 ho18 hb hg_ hnew_; clear hg_ hnew_; (first | rw [← Ny132.out] at ho18 | (simp only [Int.reduceToNat] at ho18; rw [← Ny132.out] at ho18)); have HO134 := Aside0.mk (Kd.R_lower (Kd.R_new' (Kd.R_newM (M := fun k_ => (P0_ k_ ∨ w.heap.size ≤ k_)) ho18 Z7 (fun k_ h_ => .inr h_)) (Kd.R_lt (kK HO_0))) (below_size zB)); replace HO_0 := Aside0.mk (Kd.R_elder' (kK HO_0) (Kd.R_base ho18) hb); replace HK := Aside0.mk (Kept.below (S := (fun k_ => P0_ k_)) Z6 hb); replace HB := Aside0.mk (below_step zB hb); clear hb ho18; have q19 : (x5_1 : Int) ≤ ((l0.length : Int) : Int) := of_decide_eq_true Z1; obtain ⟨i019, hi019, _, hsz19, _⟩ := info_parts info21; have hroom19 : l0.length ≤ co16 := (Kd.R_reads' HO_0.out).2.1; have hC19 : Kd.C (Kd.int .i32) _ (some ad130) l0.length l0 := (Kd.R_reads' HO_0.out).2.2; have hcut19 := cut_to (P := Tryd.prog) 56 21 .i64 Tryd.underlying56 hi019 (some ad130) l0.length co16 x5_1 (of_decide_eq_true Z1) q19 hroom19; have hr19 := Kd.C_take (m := (x5_1 : Int).toNat) hC19 Z20; have hy19 : y135.length = (x5_1 : Int).toNat := (by rw [Ny135.out, List.length_take]; omega); rw [← Ny135.out] at hr19; rw [← hy19] at hcut19; have HR138 := Aside0.mk hr19; have HC138 := Aside0.mk (show y135.length ≤ co16 from by omega); clear hr19 hC19 hroom19 hi019 hsz19; have KY19 := Aside0.mk hy19; clear hy19; have KL19 := Aside0.mk (show (x5_1 : Int).toNat ≤ l0.length from by omega); replace q19 := eq_true q19) | ((with_reducible refine gate_builtin (b := .append) (xs := #[.tmp 34, .tmp 37]) rfl ?_); at_builtin; refine Kd.R_append_rows (Kd.int .i32) (w0 := w0) w0.heap.size rfl (.tmp 34) (.tmp 37) 56 21 (.int .i32 0) 4 rfl Tryd.underlying56 info21 rfl (by decide) Z20 v133 y132 y135 _ _ _ (fun k_ => (P0_ k_ ∨ w.heap.size ≤ k_) ∧ some k_ ≠ (.slice (some ad130) l0.length co16 : Value).ownBlock) (fun _ => False) rfl rfl ?aO ?aR (fun _ _ h => h) (fun _ h => h.elim) ?aF ?aB ?aS ?aL ?_; (case aR => repeat (first | exact (by repeat (first | (with_reducible exact HR138.out) | (with_reducible refine Kd.C_alloc ?_ _) | (with_reducible refine Kd.C_drewN ?_ _) | (with_reducible refine Kd.C_drew ?_) | exact HR138.out)) | (with_reducible refine Kd.C_alloc ?_ _) | (with_reducible refine Kd.C_drewN ?_ _) | (with_reducible refine Kd.C_drew ?_))); (case aB => exact zB); (case aF => exact (fun k_ hk => ⟨(.inr (Nat.le_trans Z7 hk)), Kd.fresh' (Kd.R_lt (kK HO_0)) k_ hk⟩)); (case aO => exact (by (with_reducible repeat (first | apply Kd.R_alloc | apply Kd.R_drewN | apply Kd.R_drew)); exact Kd.R_mono HO134.out (fun _ hk => ⟨hk.1.1, hk.2⟩))); (case aS => exact (below_size zB)); (case aL => have := LMc11.out; omega); intro v140 w20 ho hb hg hat; rw [← Ny139.out] at ho; have n0_ := Aside0.mk (Kd.R_after (ok := (fun k_ => (P0_ k_ ∨ w.heap.size ≤ k_))) (kK HO_0) hg hat); have n1_ := Aside0.mk (hb); have n2_ := Aside0.mk (Kept.of_grown (S := (fun k_ => P0_ k_)) hg Z6 (fun k_ e_ => (HO134.out.1 k_ e_).1.1)); have n3_ := Aside0.mk ((show Kd.C (Kd.int .i32) w20 (some ad130) y135.length y135 from by rw [Ny135.out]; exact Kd.C_take (m := (x5_1 : Int).toNat) ((Kd.R_reads' (Kd.R_after (ok := (fun k_ => (P0_ k_ ∨ w.heap.size ≤ k_))) (kK HO_0) hg hat)).2.2) KL19.out)); have n4_ := Aside0.mk (ho); clear HO_0; clear HB; clear HK; clear HR138; clear HO134; have HO_0 := n0_; have HB := n1_; have HK := n2_; have HR138 := n3_; have HO141 := n4_; clear n0_ n1_ n2_ n3_ n4_; clear ho hb hg hat) | ((with_reducible refine gate_builtin (b := .append) (xs := #[.tmp 39, .tmp 41]) rfl ?_); at_builtin; refine Kd.R_append (Kd.int .i32) (w0 := w0) w0.heap.size rfl (.tmp 39) (.tmp 41) 56 21 (.int .i32 0) 4 rfl Tryd.underlying56 info21 rfl (by decide) Z20 v140 y139 a1 [.int .i32 a1] (fun k_ => (P0_ k_ ∨ w.heap.size ≤ k_) ∧ some k_ ≠ (.slice (some ad130) l0.length co16 : Value).ownBlock) (fun _ => False) rfl rfl ?aP (fun _ hk => hk.elim) ?aF ?aO ?aB ?aS ?aL ?_; (case aP => exact rfl); (case aB => exact zB); (case aF => exact (fun k_ hk => ⟨(.inr (Nat.le_trans Z7 hk)), Kd.fresh' (Kd.R_lt (kK HO_0)) k_ hk⟩)); (case aO => exact (kK HO141)); (case aS => exact (below_size zB)); (case aL => have := LMc12.out; omega); intro v143 w21 ho hb hg hat; rw [← Ny142.out] at ho; have n0_ := Aside0.mk (Kd.R_after (ok := (fun k_ => (P0_ k_ ∨ w.heap.size ≤ k_))) (kK HO_0) hg hat); have n1_ := Aside0.mk (hb); have n2_ := Aside0.mk (Kept.of_grown (S := (fun k_ => P0_ k_)) hg Z6 (fun k_ e_ => (HO141.out.1 k_ e_).1)); have n3_ := Aside0.mk ((show Kd.C (Kd.int .i32) w21 (some ad130) y135.length y135 from by rw [Ny135.out]; exact Kd.C_take (m := (x5_1 : Int).toNat) ((Kd.R_reads' (Kd.R_after (ok := (fun k_ => (P0_ k_ ∨ w.heap.size ≤ k_))) (kK HO_0) hg hat)).2.2) KL19.out)); have n4_ := Aside0.mk (ho); clear HO_0; clear HB; clear HK; clear HR138; clear HO141; have HO_0 := n0_; have HB := n1_; have HK := n2_; have HR138 := n3_; have HO144 := n4_; clear n0_ n1_ n2_ n3_ n4_; clear ho hb hg hat; have q22 : (x5_1 : Int) ≤ ((l0.length : Int) : Int) := of_decide_eq_true Z1; obtain ⟨i022, hi022, _, hsz22, _⟩ := info_parts info21; have hroom22 : l0.length ≤ co16 := (Kd.R_reads' HO_0.out).2.1; have hC22 : Kd.C (Kd.int .i32) _ (some ad130) l0.length l0 := (Kd.R_reads' HO_0.out).2.2; have q022 : (0 : Int) ≤ (x5_1 : Int) := of_decide_eq_true Z1; have hcut22 := cut_from (P := Tryd.prog) 56 21 .i64 Tryd.underlying56 hi022 1 hsz22 (some ad130) l0.length co16 x5_1 q022 q22; have hr22 := Kd.C_drop (m := (x5_1 : Int).toNat) (c := co16) hC22 Z20 hroom22; obtain ⟨A22, hA22⟩ : ∃ A1, A1 = (if co16 = (x5_1 : Int).toNat then (some ad130) else ((some ad130) : Option Addr).map (·.add ((x5_1 : Int).toNat * 1))) := ⟨_, rfl⟩; obtain ⟨c22, hc22⟩ : ∃ c1, c1 = co16 - (x5_1 : Int).toNat := ⟨_, rfl⟩; have hy22 : y145.length = l0.length - (x5_1 : Int).toNat := (by rw [Ny145.out, List.length_drop] <;> omega); rw [show (l0).drop (x5_1 : Int).toNat = y145 from Ny145.out.symm] at hr22; replace hr22 : Kd.C (Kd.int .i32) _ A22 y145.length y145 := (by rw [hA22]; exact hr22); rw [← hy22, ← hA22, ← hc22] at hcut22; have HR148 := Aside0.mk hr22; have HC148 := Aside0.mk (show y145.length ≤ c22 from by rw [hy22, hc22]; exact Nat.sub_le_sub_right hroom22 _); clear hr22 hC22 hroom22 hi022 hsz22 hc22; have KY22 := Aside0.mk hy22; have KA22 := Aside0.mk hA22; clear hy22 hA22; have KL22 := Aside0.mk (show (x5_1 : Int).toNat ≤ l0.length from by omega); replace q22 := eq_true q22) | ((with_reducible refine gate_builtin (b := .append) (xs := #[.tmp 43, .tmp 46]) rfl ?_); at_builtin; refine Kd.R_append_rows (Kd.int .i32) (w0 := w0) w0.heap.size rfl (.tmp 43) (.tmp 46) 56 21 (.int .i32 0) 4 rfl Tryd.underlying56 info21 rfl (by decide) Z20 v143 y142 y145 _ _ _ (fun k_ => (P0_ k_ ∨ w.heap.size ≤ k_) ∧ some k_ ≠ (.slice (some ad130) l0.length co16 : Value).ownBlock) (fun _ => False) rfl rfl ?aO ?aR (fun _ _ h => h) (fun _ h => h.elim) ?aF ?aB ?aS ?aL ?_; (case aR => repeat (first | exact (by repeat (first | (with_reducible exact HR148.out) | (with_reducible refine Kd.C_alloc ?_ _) | (with_reducible refine Kd.C_drewN ?_ _) | (with_reducible refine Kd.C_drew ?_) | exact HR148.out)) | (with_reducible refine Kd.C_alloc ?_ _) | (with_reducible refine Kd.C_drewN ?_ _) | (with_reducible refine Kd.C_drew ?_))); (case aB => exact zB); (case aF => exact (fun k_ hk => ⟨(.inr (Nat.le_trans Z7 hk)), Kd.fresh' (Kd.R_lt (kK HO_0)) k_ hk⟩)); (case aO => exact (kK HO144)); (case aS => exact (below_size zB)); (case aL => have := LMc15.out; omega); intro v150 w23 ho hb hg hat; rw [← Ny149.out] at ho; have n0_ := Aside0.mk (Kd.R_after (ok := (fun k_ => (P0_ k_ ∨ w.heap.size ≤ k_))) (kK HO_0) hg hat); have n1_ := Aside0.mk (hb); have n2_ := Aside0.mk (Kept.of_grown (S := (fun k_ => P0_ k_)) hg Z6 (fun k_ e_ => (HO144.out.1 k_ e_).1)); have n3_ := Aside0.mk ((show Kd.C (Kd.int .i32) w23 (some ad130) y135.length y135 from by rw [Ny135.out]; exact Kd.C_take (m := (x5_1 : Int).toNat) ((Kd.R_reads' (Kd.R_after (ok := (fun k_ => (P0_ k_ ∨ w.heap.size ≤ k_))) (kK HO_0) hg hat)).2.2) KL19.out)); have n4_ := Aside0.mk ((show Kd.C (Kd.int .i32) w23 A22 y145.length y145 from by rw [Ny145.out, KA22.out]; exact Kd.C_drop (m := (x5_1 : Int).toNat) (c := co16) ((Kd.R_reads' (Kd.R_after (ok := (fun k_ => (P0_ k_ ∨ w.heap.size ≤ k_))) (kK HO_0) hg hat)).2.2) KL22.out ((Kd.R_reads' (Kd.R_after (ok := (fun k_ => (P0_ k_ ∨ w.heap.size ≤ k_))) (kK HO_0) hg hat)).2.1))); have n5_ := Aside0.mk (ho); clear HO_0; clear HB; clear HK; clear HR138; clear HR148; clear HO144; have HO_0 := n0_; have HB := n1_; have HK := n2_; have HR138 := n3_; have HR148 := n4_; have HO151 := n5_; clear n0_ n1_ n2_ n3_ n4_ n5_; clear ho hb hg hat))
           go_ret
           exact ⟨_, Z4, by (with_reducible repeat (first | apply Kd.R_alloc | apply Kd.R_drewN | apply Kd.R_drew)); exact Kd.R_mono HO151.out (fun _ hk => hk.1), Z0, Z6⟩
          ·rw [if_neg c15] at H
           exact absurd H Z19
         ·rw [if_neg c12] at H
          exact absurd H Z19
        ·rw [if_neg c11] at H
         exact absurd H Z19
       ·rw [if_neg c10] at H
        exact absurd H Z19
    ·rw [if_neg c4] at H
     exact absurd H Z19
   ·rw [if_neg c3] at H
    have c3b0 := decide_eq_false c3
    clear c3
    obtain ⟨y152, hy152⟩ : ∃ y_ : List Int, y_ = (([] : List Int)) := ⟨_, rfl⟩
    replace H : (if 0 ≤ x5_1 then (if x5_1 ≤ (l0.length : Int) then ((some (l0.take (x5_1 : Int).toNat : List Int)).bind fun y155 => (if y152.length + y155.length < 35184372088832 then ((some (y152 ++ y155 : List Int)).bind fun y159 => (if y159.length < 35184372088832 then ((some (y159 ++ [a1] : List Int)).bind fun y162 => ((some (l0.drop (x5_1 : Int).toNat : List Int)).bind fun y165 => (if y162.length + y165.length < 35184372088832 then (some (y162 ++ y165)) else (none)))) else (none))) else (none))) else (none)) else (none)) = some r := by first | (rw [hy152]; with_reducible exact H) | (have H2_ := (Option.bind_some _ _).symm.trans H; rw [hy152]; with_reducible exact H2_) | (have H2_ := (Option.bind_some _ _).symm.trans H; with_reducible exact H2_) | with_reducible exact H | (rw [hy152]; exact H) | exact H
    have Ny152 := Aside0.mk hy152
    clear hy152
    by_cases c24 : 0 ≤ x5_1
    ·rw [if_pos c24] at H
     have c24b0 := eq_true c24
     have c24b1 := decide_eq_true c24
     clear c24
     by_cases c25 : x5_1 ≤ (l0.length : Int)
     ·rw [if_pos c25] at H
      have c25b0 := eq_true c25
      have c25b1 := decide_eq_true c25
      clear c25
      obtain ⟨y155, hy155⟩ : ∃ y_ : List Int, y_ = (l0.take (x5_1 : Int).toNat) := ⟨_, rfl⟩
      replace H : (if y152.length + y155.length < 35184372088832 then ((some (y152 ++ y155 : List Int)).bind fun y159 => (if y159.length < 35184372088832 then ((some (y159 ++ [a1] : List Int)).bind fun y162 => ((some (l0.drop (x5_1 : Int).toNat : List Int)).bind fun y165 => (if y162.length + y165.length < 35184372088832 then (some (y162 ++ y165)) else (none)))) else (none))) else (none)) = some r := by first | (rw [hy155]; with_reducible exact H) | (have H2_ := (Option.bind_some _ _).symm.trans H; rw [hy155]; with_reducible exact H2_) | (have H2_ := (Option.bind_some _ _).symm.trans H; with_reducible exact H2_) | with_reducible exact H | (rw [hy155]; exact H) | exact H
      have Ny155 := Aside0.mk hy155
      clear hy155
      by_cases c26 : y152.length + y155.length < 35184372088832
      ·rw [if_pos c26] at H
       have LMc26 := Aside0.mk c26
       clear c26
       obtain ⟨y159, hy159⟩ : ∃ y_ : List Int, y_ = (y152 ++ y155) := ⟨_, rfl⟩
       replace H : (if y159.length < 35184372088832 then ((some (y159 ++ [a1] : List Int)).bind fun y162 => ((some (l0.drop (x5_1 : Int).toNat : List Int)).bind fun y165 => (if y162.length + y165.length < 35184372088832 then (some (y162 ++ y165)) else (none)))) else (none)) = some r := by first | (rw [hy159]; with_reducible exact H) | (have H2_ := (Option.bind_some _ _).symm.trans H; rw [hy159]; with_reducible exact H2_) | (have H2_ := (Option.bind_some _ _).symm.trans H; with_reducible exact H2_) | with_reducible exact H | (rw [hy159]; exact H) | exact H
       have Ny159 := Aside0.mk hy159
       clear hy159
       by_cases c27 : y159.length < 35184372088832
       ·rw [if_pos c27] at H
        have LMc27 := Aside0.mk c27
        clear c27
        obtain ⟨y162, hy162⟩ : ∃ y_ : List Int, y_ = (y159 ++ [a1]) := ⟨_, rfl⟩
        replace H : ((some (l0.drop (x5_1 : Int).toNat : List Int)).bind fun y165 => (if y162.length + y165.length < 35184372088832 then (some (y162 ++ y165)) else (none))) = some r := by first | (rw [hy162]; with_reducible exact H) | (have H2_ := (Option.bind_some _ _).symm.trans H; rw [hy162]; with_reducible exact H2_) | (have H2_ := (Option.bind_some _ _).symm.trans H; with_reducible exact H2_) | with_reducible exact H | (rw [hy162]; exact H) | exact H
        have Ny162 := Aside0.mk hy162
        clear hy162
        have c28b0 := eq_true (of_decide_eq_true Z1 : 0 ≤ x5_1)
        have c29b0 := eq_true (of_decide_eq_true Z1 : x5_1 ≤ (l0.length : Int))
        obtain ⟨y165, hy165⟩ : ∃ y_ : List Int, y_ = (l0.drop (x5_1 : Int).toNat) := ⟨_, rfl⟩
        replace H : (if y162.length + y165.length < 35184372088832 then (some (y162 ++ y165)) else (none)) = some r := by first | (rw [hy165]; with_reducible exact H) | (have H2_ := (Option.bind_some _ _).symm.trans H; rw [hy165]; with_reducible exact H2_) | (have H2_ := (Option.bind_some _ _).symm.trans H; with_reducible exact H2_) | with_reducible exact H | (rw [hy165]; exact H) | exact H
        have Ny165 := Aside0.mk hy165
        clear hy165
        by_cases c30 : y162.length + y165.length < 35184372088832
        ·rw [if_pos c30] at H
         have LMc30 := Aside0.mk c30
         clear c30
         obtain ⟨y169, hy169⟩ : ∃ y_ : List Int, y_ = (y162 ++ y165) := ⟨_, rfl⟩
         replace H : (some y169) = some r := by first | (rw [hy169]; with_reducible exact H) | (have H2_ := (Option.bind_some _ _).symm.trans H; rw [hy169]; with_reducible exact H2_) | (have H2_ := (Option.bind_some _ _).symm.trans H; with_reducible exact H2_) | with_reducible exact H | (rw [hy169]; exact H) | exact H
         have Ny169 := Aside0.mk hy169
         clear hy169
         obtain rfl := Option.some.inj H
         obtain ⟨Ao31, co31, eo31⟩ := Kd.R_slice HO_0.out
         subst eo31
         go_wp2_with (first | ((with_reducible refine gate_dst (N := 34) rfl ?_); refine Kd.R_lit (Kd.int .i32) _ 21 ?hg (N := 34) ?hd (xs := ([] : List Int)) (inner := []) (ok := fun _ => True) (okp := fun _ => True) ?hr ?hp (fun _ hk => hk) trivial (Below.refl _ _) (Nat.le_refl _) Z19 ?_; (case hd => rfl); (case hg => rfl); (case hr => first | (go_simp; done) | (go_simp; rfl)); (case hp => exact (Reps.none _ _)); intro v153 w32 ho33 hb hg_ hnew_; clear hg_ hnew_; (first | rw [← Ny152.out] at ho33 | (simp only [Int.reduceToNat] at ho33; rw [← Ny152.out] at ho33)); have HO154 := Aside0.mk (Kd.R_lower (Kd.R_new' (Kd.R_newM (M := fun k_ => (P0_ k_ ∨ w.heap.size ≤ k_)) ho33 Z7 (fun k_ h_ => .inr h_)) (Kd.R_lt (kK HO_0))) (below_size zB)); replace HO_0 := Aside0.mk (Kd.R_elder' (kK HO_0) (Kd.R_base ho33) hb); replace HK := Aside0.mk (Kept.below (S := (fun k_ => P0_ k_)) Z6 hb); replace HB := Aside0.mk (below_step zB hb); clear hb ho33; have q34 : (x5_1 : Int) ≤ ((l0.length : Int) : Int) := of_decide_eq_true Z1; obtain ⟨i034, hi034, _, hsz34, _⟩ := info_parts info21; have hroom34 : l0.length ≤ co31 := (Kd.R_reads' HO_0.out).2.1; have hC34 : Kd.C (Kd.int .i32) _ Ao31 l0.length l0 := (Kd.R_reads' HO_0.out).2.2; have hcut34 := cut_to (P := Tryd.prog) 56 21 .i64 Tryd.underlying56 hi034 Ao31 l0.length co31 x5_1 (of_decide_eq_true Z1) q34 hroom34; have hr34 := Kd.C_take (m := (x5_1 : Int).toNat) hC34 Z20; have hy34 : y155.length = (x5_1 : Int).toNat := (by rw [Ny155.out, List.length_take]; omega); rw [← Ny155.out] at hr34; rw [← hy34] at hcut34; have HR158 := Aside0.mk hr34; have HC158 := Aside0.mk (show y155.length ≤ co31 from by omega); clear hr34 hC34 hroom34 hi034 hsz34; have KY34 := Aside0.mk hy34; clear hy34; have KL34 := Aside0.mk (show (x5_1 : Int).toNat ≤ l0.length from by omega); replace q34 := eq_true q34) | ((with_reducible refine gate_builtin (b := .append) (xs := #[.tmp 34, .tmp 37]) rfl ?_); at_builtin; refine Kd.R_append_rows (Kd.int .i32) (w0 := w0) w0.heap.size rfl (.tmp 34) (.tmp 37) 56 21 (.int .i32 0) 4 rfl Tryd.underlying56 info21 rfl (by decide) Z20 v153 y152 y155 _ _ _ (fun k_ => (P0_ k_ ∨ w.heap.size ≤ k_) ∧ some k_ ≠ (.slice Ao31 l0.length co31 : Value).ownBlock) (fun _ => False) rfl rfl ?aO ?aR (fun _ _ h => h) (fun _ h => h.elim) ?aF ?aB ?aS ?aL ?_; (case aR => repeat (first | exact (by repeat (first | (with_reducible exact HR158.out) | (with_reducible refine Kd.C_alloc ?_ _) | (with_reducible refine Kd.C_drewN ?_ _) | (with_reducible refine Kd.C_drew ?_) | exact HR158.out)) | (with_reducible refine Kd.C_alloc ?_ _) | (with_reducible refine Kd.C_drewN ?_ _) | (with_reducible refine Kd.C_drew ?_))); (case aB => exact zB); (case aF => exact (fun k_ hk => ⟨(.inr (Nat.le_trans Z7 hk)), Kd.fresh' (Kd.R_lt (kK HO_0)) k_ hk⟩)); (case aO => exact (by (with_reducible repeat (first | apply Kd.R_alloc | apply Kd.R_drewN | apply Kd.R_drew)); exact Kd.R_mono HO154.out (fun _ hk => ⟨hk.1.1, hk.2⟩))); (case aS => exact (below_size zB)); (case aL => have := LMc26.out; omega); intro v160 w35 ho hb hg hat; rw [← Ny159.out] at ho; have n0_ := Aside0.mk (Kd.R_after (ok := (fun k_ => (P0_ k_ ∨ w.heap.size ≤ k_))) (kK HO_0) hg hat); have n1_ := Aside0.mk (hb); have n2_ := Aside0.mk (Kept.of_grown (S := (fun k_ => P0_ k_)) hg Z6 (fun k_ e_ => (HO154.out.1 k_ e_).1.1)); have n3_ := Aside0.mk ((show Kd.C (Kd.int .i32) w35 Ao31 y155.length y155 from by rw [Ny155.out]; exact Kd.C_take (m := (x5_1 : Int).toNat) ((Kd.R_reads' (Kd.R_after (ok := (fun k_ => (P0_ k_ ∨ w.heap.size ≤ k_))) (kK HO_0) hg hat)).2.2) KL34.out)); have n4_ := Aside0.mk (ho); clear HO_0; clear HB; clear HK; clear HR158; clear HO154; have HO_0 := n0_; have HB := n1_; have HK := n2_; have HR158 := n3_; have HO161 := n4_; clear n0_ n1_ n2_ n3_ n4_; clear ho hb hg hat) | ((with_reducible refine gate_builtin (b := .append) (xs := #[.tmp 39, .tmp 41]) rfl ?_); at_builtin; refine Kd.R_append (Kd.int .i32) (w0 := w0) w0.heap.size rfl (.tmp 39) (.tmp 41) 56 21 (.int .i32 0) 4 rfl Tryd.underlying56 info21 rfl (by decide) Z20 v160 y159 a1 [.int .i32 a1] (fun k_ => (P0_ k_ ∨ w.heap.size ≤ k_) ∧ some k_ ≠ (.slice Ao31 l0.length co31 : Value).ownBlock) (fun _ => False) rfl rfl ?aP (fun _ hk => hk.elim) ?aF ?aO ?aB ?aS ?aL ?_; (case aP => exact rfl); (case aB => exact zB); (case aF => exact (fun k_ hk => ⟨(.inr (Nat.le_trans Z7 hk)), Kd.fresh' (Kd.R_lt (kK HO_0)) k_ hk⟩)); (case aO => exact (kK HO161)); (case aS => exact (below_size zB)); (case aL => have := LMc27.out; omega); intro v163 w36 ho hb hg hat; rw [← Ny162.out] at ho; have n0_ := Aside0.mk (Kd.R_after (ok := (fun k_ => (P0_ k_ ∨ w.heap.size ≤ k_))) (kK HO_0) hg hat); have n1_ := Aside0.mk (hb); have n2_ := Aside0.mk (Kept.of_grown (S := (fun k_ => P0_ k_)) hg Z6 (fun k_ e_ => (HO161.out.1 k_ e_).1)); have n3_ := Aside0.mk ((show Kd.C (Kd.int .i32) w36 Ao31 y155.length y155 from by rw [Ny155.out]; exact Kd.C_take (m := (x5_1 : Int).toNat) ((Kd.R_reads' (Kd.R_after (ok := (fun k_ => (P0_ k_ ∨ w.heap.size ≤ k_))) (kK HO_0) hg hat)).2.2) KL34.out)); have n4_ := Aside0.mk (ho); clear HO_0; clear HB; clear HK; clear HR158; clear HO161; have HO_0 := n0_; have HB := n1_; have HK := n2_; have HR158 := n3_; have HO164 := n4_; clear n0_ n1_ n2_ n3_ n4_; clear ho hb hg hat; have q37 : (x5_1 : Int) ≤ ((l0.length : Int) : Int) := of_decide_eq_true Z1; obtain ⟨i037, hi037, _, hsz37, _⟩ := info_parts info21; have hroom37 : l0.length ≤ co31 := (Kd.R_reads' HO_0.out).2.1; have hC37 : Kd.C (Kd.int .i32) _ Ao31 l0.length l0 := (Kd.R_reads' HO_0.out).2.2; have q037 : (0 : Int) ≤ (x5_1 : Int) := of_decide_eq_true Z1; have hcut37 := cut_from (P := Tryd.prog) 56 21 .i64 Tryd.underlying56 hi037 1 hsz37 Ao31 l0.length co31 x5_1 q037 q37; have hr37 := Kd.C_drop (m := (x5_1 : Int).toNat) (c := co31) hC37 Z20 hroom37; obtain ⟨A37, hA37⟩ : ∃ A1, A1 = (if co31 = (x5_1 : Int).toNat then Ao31 else (Ao31 : Option Addr).map (·.add ((x5_1 : Int).toNat * 1))) := ⟨_, rfl⟩; obtain ⟨c37, hc37⟩ : ∃ c1, c1 = co31 - (x5_1 : Int).toNat := ⟨_, rfl⟩; have hy37 : y165.length = l0.length - (x5_1 : Int).toNat := (by rw [Ny165.out, List.length_drop] <;> omega); rw [show (l0).drop (x5_1 : Int).toNat = y165 from Ny165.out.symm] at hr37; replace hr37 : Kd.C (Kd.int .i32) _ A37 y165.length y165 := (by rw [hA37]; exact hr37); rw [← hy37, ← hA37, ← hc37] at hcut37; have HR168 := Aside0.mk hr37; have HC168 := Aside0.mk (show y165.length ≤ c37 from by rw [hy37, hc37]; exact Nat.sub_le_sub_right hroom37 _); clear hr37 hC37 hroom37 hi037 hsz37 hc37; have KY37 := Aside0.mk hy37; have KA37 := Aside0.mk hA37; clear hy37 hA37; have KL37 := Aside0.mk (show (x5_1 : Int).toNat ≤ l0.length from by omega); replace q37 := eq_true q37) | ((with_reducible refine gate_builtin (b := .append) (xs := #[.tmp 43, .tmp 46]) rfl ?_); at_builtin; refine Kd.R_append_rows (Kd.int .i32) (w0 := w0) w0.heap.size rfl (.tmp 43) (.tmp 46) 56 21 (.int .i32 0) 4 rfl Tryd.underlying56 info21 rfl (by decide) Z20 v163 y162 y165 _ _ _ (fun k_ => (P0_ k_ ∨ w.heap.size ≤ k_) ∧ some k_ ≠ (.slice Ao31 l0.length co31 : Value).ownBlock) (fun _ => False) rfl rfl ?aO ?aR (fun _ _ h => h) (fun _ h => h.elim) ?aF ?aB ?aS ?aL ?_; (case aR => repeat (first | exact (by repeat (first | (with_reducible exact HR168.out) | (with_reducible refine Kd.C_alloc ?_ _) | (with_reducible refine Kd.C_drewN ?_ _) | (with_reducible refine Kd.C_drew ?_) | exact HR168.out)) | (with_reducible refine Kd.C_alloc ?_ _) | (with_reducible refine Kd.C_drewN ?_ _) | (with_reducible refine Kd.C_drew ?_))); (case aB => exact zB); (case aF => exact (fun k_ hk => ⟨(.inr (Nat.le_trans Z7 hk)), Kd.fresh' (Kd.R_lt (kK HO_0)) k_ hk⟩)); (case aO => exact (kK HO164)); (case aS => exact (below_size zB)); (case aL => have := LMc30.out; omega); intro v170 w38 ho hb hg hat; rw [← Ny169.out] at ho; have n0_ := Aside0.mk (Kd.R_after (ok := (fun k_ => (P0_ k_ ∨ w.heap.size ≤ k_))) (kK HO_0) hg hat); have n1_ := Aside0.mk (hb); have n2_ := Aside0.mk (Kept.of_grown (S := (fun k_ => P0_ k_)) hg Z6 (fun k_ e_ => (HO164.out.1 k_ e_).1)); have n3_ := Aside0.mk ((show Kd.C (Kd.int .i32) w38 Ao31 y155.length y155 from by rw [Ny155.out]; exact Kd.C_take (m := (x5_1 : Int).toNat) ((Kd.R_reads' (Kd.R_after (ok := (fun k_ => (P0_ k_ ∨ w.heap.size ≤ k_))) (kK HO_0) hg hat)).2.2) KL34.out)); have n4_ := Aside0.mk ((show Kd.C (Kd.int .i32) w38 A37 y165.length y165 from by rw [Ny165.out, KA37.out]; exact Kd.C_drop (m := (x5_1 : Int).toNat) (c := co31) ((Kd.R_reads' (Kd.R_after (ok := (fun k_ => (P0_ k_ ∨ w.heap.size ≤ k_))) (kK HO_0) hg hat)).2.2) KL37.out ((Kd.R_reads' (Kd.R_after (ok := (fun k_ => (P0_ k_ ∨ w.heap.size ≤ k_))) (kK HO_0) hg hat)).2.1))); have n5_ := Aside0.mk (ho); clear HO_0; clear HB; clear HK; clear HR158; clear HR168; clear HO164; have HO_0 := n0_; have HB := n1_; have HK := n2_; have HR158 := n3_; have HR168 := n4_; have HO171 := n5_; clear n0_ n1_ n2_ n3_ n4_ n5_; clear ho hb hg hat))
         go_ret
         exact ⟨_, Z4, by (with_reducible repeat (first | apply Kd.R_alloc | apply Kd.R_drewN | apply Kd.R_drew)); exact Kd.R_mono HO171.out (fun _ hk => hk.1), Z0, Z6⟩
        ·rw [if_neg c30] at H
         exact absurd H Z19
       ·rw [if_neg c27] at H
        exact absurd H Z19
      ·rw [if_neg c26] at H
       exact absurd H Z19
     ·rw [if_neg c25] at H
      exact absurd H Z19
    ·rw [if_neg c24] at H
     exact absurd H Z19
mutual
def quoinref02_starts.l0 : Nat → List (List (S36)) → List Int → Int → Option (List Int)
 | 0, _, _, _ => none
 | k + 1, x0, x3, x4 => if x4 < (x0.length : Int) then (quoinref02_starts.l1 k x0 x3 x4 0) else (some x3)
def quoinref02_starts.l1 : Nat → List (List (S36)) → List Int → Int → Int → Option (List Int)
 | 0, _, _, _, _ => none
 | k + 1, x0, x3, x4, x5 => if 0 ≤ x4 then (if x4 < (x0.length : Int) then (if x5 < ((rd_L2 x0 x4).length : Int) then (if 0 ≤ x5 then ((quoinref02_with.f k x3 ((rd_T36 (rd_L2 x0 x4) x5).f0)).bind fun t178 => (if ((rd_T36 (rd_L2 x0 x4) x5).f1) < 1114111 then ((quoinref02_with.f k t178 (wrap32 (((rd_T36 (rd_L2 x0 x4) x5).f1) + 1))).bind fun t185 => (quoinref02_starts.l1 k x0 t185 x4 (wrap64 (x5 + 1)))) else (quoinref02_starts.l1 k x0 t178 x4 (wrap64 (x5 + 1))))) else (none)) else (quoinref02_starts.l0 k x0 x3 (wrap64 (x4 + 1)))) else (none)) else (none)
end
def quoinref02_starts.f (k : Nat) (l0 : List (List (S36))) : Option (List Int) := quoinref02_starts.l0 k l0 (([0] : List Int)) 0
set_option maxHeartbeats 8000000 in
set_option maxRecDepth 100000 in
theorem quoinref02_starts.calls (k : Nat) (A0 : Option Addr) (c0 : Nat) (l0 : List (List (S36))) (r : List Int) (w : World) (hr0 : Kd.C (Kd.slice 36 k36) w A0 l0.length l0) (hc0 : l0.length ≤ c0) (h : quoinref02_starts.f k l0 = some r) :
  Calls Tryd.prog 63 #[.slice A0 l0.length c0] w fun e w' => ∃ v0_ : Value, e = .returned (v0_) ∧ Kd.R (Kd.int .i32) 21 w' w.heap.size (fun _ => True) v0_ r ∧ Below w.heap.size w w' := by
 have HR0 := Aside0.mk hr0
 have HC0 := Aside0.mk hc0
 clear hr0 hc0
 have HB := Aside0.mk (Below.refl w.heap.size w)
 have H : (quoinref02_starts.l0 k l0 (([0] : List Int)) 0) = some r := h
 clear h
 obtain ⟨y172, hy172⟩ : ∃ y_ : List Int, y_ = (([0] : List Int)) := ⟨_, rfl⟩
 replace H : (quoinref02_starts.l0 k l0 y172 0) = some r := by first | (rw [hy172]; with_reducible exact H) | (have H2_ := (Option.bind_some _ _).symm.trans H; rw [hy172]; with_reducible exact H2_) | (have H2_ := (Option.bind_some _ _).symm.trans H; with_reducible exact H2_) | with_reducible exact H | (rw [hy172]; exact H) | exact H
 have Ny172 := Aside0.mk hy172
 clear hy172
 have H' := Aside0.mk H
 clear H
 go_enter Tryd.func63, Tryd.ntmps63
 go_wp2_with (first | ((with_reducible refine gate_dst (N := 6) rfl ?_); refine Kd.R_lit (Kd.int .i32) _ 21 ?hg (N := 6) ?hd (xs := ([0] : List Int)) (inner := [.int .i32 0]) (ok := fun _ => True) (okp := fun _ => True) ?hr ?hp (fun _ hk => hk) trivial (Below.refl _ _) (Nat.le_refl _) Z19 ?_; (case hd => rfl); (case hg => rfl); (case hr => first | (go_simp; done) | (go_simp; rfl)); (case hp => exact (Reps.one (show Kd.M (Kd.int .i32) _ _ _ 0 [.int .i32 0] from rfl) (Reps.none _ _))); intro v173 w2 ho3 hb hg_ hnew_; clear hg_ hnew_; (first | rw [← Ny172.out] at ho3 | (simp only [Int.reduceToNat] at ho3; rw [← Ny172.out] at ho3)); have HO174 := Aside0.mk (Kd.R_lower ho3 (below_size zB)); replace HB := Aside0.mk (below_step zB hb); clear hb ho3))
 go_loopg [3, 4] k (fun kq v3 v4 w' => ∃ (x3_1 : List Int) (x4_1 : Int), v4 = .int .i64 x4_1 ∧ Aside0 (quoinref02_starts.l0 kq l0 x3_1 x4_1 = some r) ∧ Aside0 (kq ≤ k) ∧ Aside0 (Kd.R (Kd.int .i32) 21 w' w.heap.size (fun _ => True) v3 x3_1) ∧ Aside0 (Below w.heap.size w w'))
 case atStart => exact ⟨(y172), (0), Z2, H', ⟨Nat.le_refl _⟩, ⟨by (with_reducible repeat (first | apply Kd.R_alloc | apply Kd.R_drewN | apply Kd.R_drew)); exact HO174.out⟩, ⟨Z0⟩⟩
 case round =>
  clear H'
  try clear p2
  obtain ⟨x3_1, x4_1, rfl, HA, HK1, HO_3, HB⟩ := hrel
  cases gk with
  | zero => exact absurd HA.out (by simp [quoinref02_starts.l0])
  | succ k1 =>
   have H := HA.out
   clear HA
   simp only [quoinref02_starts.l0] at H
   by_cases c4 : x4_1 < (l0.length : Int)
   ·rw [if_pos c4] at H
    have c4b0 := decide_eq_true c4
    clear c4
    have H' := Aside0.mk H
    clear H
    go_wp2
    go_loopg [3, 5] k1 (fun kq v3 v5 w' => ∃ (x3_2 : List Int) (x5_2 : Int), v5 = .int .i64 x5_2 ∧ Aside0 (quoinref02_starts.l1 kq l0 x3_2 x4_1 x5_2 = some r) ∧ Aside0 (kq ≤ k1) ∧ Aside0 (Kd.R (Kd.int .i32) 21 w' w.heap.size (fun _ => True) v3 x3_2) ∧ Aside0 (Below w.heap.size w w'))
    case atStart => exact ⟨(x3_1), (0), Z2, H', ⟨Nat.le_refl _⟩, ⟨by (with_reducible repeat (first | apply Kd.R_alloc | apply Kd.R_drewN | apply Kd.R_drew)); exact HO_3.out⟩, ⟨Z0⟩⟩
    case round =>
     clear H'
     try clear p2
     try clear c4
     try clear c4b0
     try clear p2
     obtain ⟨x3_2, x5_2, rfl, HA, HK2, HO_3, HB⟩ := hrel
     cases gk with
     | zero => exact absurd HA.out (by simp [quoinref02_starts.l1])
     | succ k2 =>
      have H := HA.out
      clear HA
      simp only [quoinref02_starts.l1] at H
      by_cases c5 : 0 ≤ x4_1
      ·rw [if_pos c5] at H
       have c5b0 := decide_eq_true c5
       clear c5
       by_cases c6 : x4_1 < (l0.length : Int)
       ·rw [if_pos c6] at H
        have c6b0 := decide_eq_true c6
        clear c6
        by_cases c7 : x5_2 < ((rd_L2 l0 x4_1).length : Int)
        ·rw [if_pos c7] at H
         have c7b0 := decide_eq_true c7
         clear c7
         by_cases c8 : 0 ≤ x5_2
         ·rw [if_pos c8] at H
          have c8b0 := decide_eq_true c8
          clear c8
          replace H := bS H
          obtain ⟨t178, A9, H⟩ := H
          try dsimp only at H
          by_cases c10 : ((rd_T36 (rd_L2 l0 x4_1) x5_2).f1) < 1114111
          ·rw [if_pos c10] at H
           have c10b0 := decide_eq_true c10
           clear c10
           replace H := bS H
           obtain ⟨t185, A11, H⟩ := H
           try dsimp only at H
           have H' := Aside0.mk H
           clear H
           have p175 : 0 ≤ (x4_1 : Int) := of_decide_eq_true Z1
           have q175 : x4_1 < (l0.length : Int) := of_decide_eq_true Z1
           obtain ⟨ad175, A175_0, c175_0, e175, hx175_0, hl175_0, hi175_0⟩ := at_L2 HR0.out x4_1 p175 q175
           cases e175
           replace hx175_0 := (HB.out.cell (World.block_lt_of_cell? w _ hx175_0)).trans hx175_0
           have HR175_0 := Aside0.mk hi175_0
           have HC175_0 := Aside0.mk hl175_0
           clear hi175_0 hl175_0
           replace p175 := eq_true p175
           replace q175 := eq_true q175
           have p176 : 0 ≤ (x4_1 : Int) := of_decide_eq_true Z1
           have q176 : x4_1 < (l0.length : Int) := of_decide_eq_true Z1
           obtain ⟨ad176, A176_0, c176_0, e176, hx176_0, hl176_0, hi176_0⟩ := at_L2 HR0.out x4_1 p176 q176
           obtain rfl : ad175 = ad176 := (by injection e176)
           replace hx176_0 := (HB.out.cell (World.block_lt_of_cell? w _ hx176_0)).trans hx176_0
           have HR176_0 := Aside0.mk hi176_0
           have HC176_0 := Aside0.mk hl176_0
           clear hi176_0 hl176_0
           replace p176 := eq_true p176
           replace q176 := eq_true q176
           have ea_ := Option.some.inj (hx175_0.symm.trans hx176_0)
           injection ea_ with ea_ en_ ec_
           subst ea_
           subst ec_
           clear en_
           have p177 : 0 ≤ (x5_2 : Int) := of_decide_eq_true Z1
           have q177 : x5_2 < ((rd_L2 l0 x4_1).length : Int) := of_decide_eq_true Z1
           obtain ⟨ad177, e177, hx177_0, hx177_1⟩ := at_T36 HR176_0.out x5_2 p177 q177
           cases e177
           replace hx177_0 := (HB.out.cell (World.block_lt_of_cell? w _ hx177_0)).trans hx177_0
           replace hx177_1 := (HB.out.cell (World.block_lt_of_cell? w _ hx177_1)).trans hx177_1
           replace p177 := eq_true p177
           replace q177 := eq_true q177
           obtain ⟨Ao12, co12, eo12⟩ := Kd.R_slice HO_3.out
           subst eo12
           go_wp2_with (first | ((with_reducible refine gC 75 rfl ?_); refine goesL_ (some 31) rfl rfl Tryd.func75 Z5 rfl #[.slice Ao12 x3_2.length co12, .int .i32 ((rd_T36 (rd_L2 l0 x4_1) x5_2).f0)] rfl Z3 ?_; (with_reducible refine (quoinref02_with.calls k2 (fun k_ => some k_ = (.slice Ao12 x3_2.length co12 : Value).ownBlock) (.slice Ao12 x3_2.length co12) x3_2 ((rd_T36 (rd_L2 l0 x4_1) x5_2).f0) t178 w _ ?side1 ?side2 A9.out).mono ?_); (case side1 => repeat (first | (with_reducible first | exact HB.out | apply below_alloc | apply pw_below_drewN | apply below_drew1 | refine below_set ?_ (Aside0.out Z15)) | exact HB.out)); (case side2 => exact Kd.R_tight rfl HO_3.out); rintro e w13 ⟨v179, rfl, ho0, hb, hkp⟩; refine ⟨_, rfl, ?_⟩; have n0_ := Aside0.mk (Kd.R_mono (ok' := fun k_ => True) ho0 (fun k_ hk_ => trivial)); have n1_ := Aside0.mk (hb); clear HB; clear HO_3; have HO180 := n0_; have HB := n1_; clear n0_ n1_; (try clear hb); (try clear hkp); (try clear ho0); have p181 : 0 ≤ (x4_1 : Int) := of_decide_eq_true Z1; have q181 : x4_1 < (l0.length : Int) := of_decide_eq_true Z1; obtain ⟨ad181, A181_0, c181_0, e181, hx181_0, hl181_0, hi181_0⟩ := at_L2 HR0.out x4_1 p181 q181; obtain rfl : ad175 = ad181 := (by injection e181); replace hx181_0 := (HB.out.cell (World.block_lt_of_cell? w _ hx181_0)).trans hx181_0; have HR181_0 := Aside0.mk hi181_0; have HC181_0 := Aside0.mk hl181_0; clear hi181_0 hl181_0; replace p181 := eq_true p181; replace q181 := eq_true q181; have p182 : 0 ≤ (x5_2 : Int) := of_decide_eq_true Z1; have q182 : x5_2 < ((rd_L2 l0 x4_1).length : Int) := of_decide_eq_true Z1; obtain ⟨ad182, e182, hx182_0, hx182_1⟩ := at_T36 HR181_0.out x5_2 p182 q182; cases e182; replace hx182_0 := (HB.out.cell (World.block_lt_of_cell? w _ hx182_0)).trans hx182_0; replace hx182_1 := (HB.out.cell (World.block_lt_of_cell? w _ hx182_1)).trans hx182_1; replace p182 := eq_true p182; replace q182 := eq_true q182; have p183 : 0 ≤ (x4_1 : Int) := of_decide_eq_true Z1; have q183 : x4_1 < (l0.length : Int) := of_decide_eq_true Z1; obtain ⟨ad183, A183_0, c183_0, e183, hx183_0, hl183_0, hi183_0⟩ := at_L2 HR0.out x4_1 p183 q183; obtain rfl : ad175 = ad183 := (by injection e183); replace hx183_0 := (HB.out.cell (World.block_lt_of_cell? w _ hx183_0)).trans hx183_0; have HR183_0 := Aside0.mk hi183_0; have HC183_0 := Aside0.mk hl183_0; clear hi183_0 hl183_0; replace p183 := eq_true p183; replace q183 := eq_true q183; have ea_ := Option.some.inj (hx181_0.symm.trans hx183_0); injection ea_ with ea_ en_ ec_; subst ea_; subst ec_; clear en_; have p184 : 0 ≤ (x5_2 : Int) := of_decide_eq_true Z1; have q184 : x5_2 < ((rd_L2 l0 x4_1).length : Int) := of_decide_eq_true Z1; obtain ⟨ad184, e184, hx184_0, hx184_1⟩ := at_T36 HR183_0.out x5_2 p184 q184; cases e184; replace hx184_0 := (HB.out.cell (World.block_lt_of_cell? w _ hx184_0)).trans hx184_0; replace hx184_1 := (HB.out.cell (World.block_lt_of_cell? w _ hx184_1)).trans hx184_1; replace p184 := eq_true p184; replace q184 := eq_true q184; obtain ⟨Ao14, co14, eo14⟩ := Kd.R_slice HO180.out; subst eo14) | ((with_reducible refine gC 75 rfl ?_); refine goesL_ (some 51) rfl rfl Tryd.func75 Z5 rfl #[.slice Ao14 t178.length co14, .int .i32 (wrap32 (((rd_T36 (rd_L2 l0 x4_1) x5_2).f1) + 1))] rfl Z3 ?_; (with_reducible refine (quoinref02_with.calls k2 (fun k_ => some k_ = (.slice Ao14 t178.length co14 : Value).ownBlock) (.slice Ao14 t178.length co14) t178 (wrap32 (((rd_T36 (rd_L2 l0 x4_1) x5_2).f1) + 1)) t185 w _ ?side1 ?side2 A11.out).mono ?_); (case side1 => repeat (first | (with_reducible first | exact HB.out | apply below_alloc | apply pw_below_drewN | apply below_drew1 | refine below_set ?_ (Aside0.out Z15)) | exact HB.out)); (case side2 => exact Kd.R_tight rfl HO180.out); rintro e w15 ⟨v186, rfl, ho0, hb, hkp⟩; refine ⟨_, rfl, ?_⟩; have n0_ := Aside0.mk (Kd.R_mono (ok' := fun k_ => True) ho0 (fun k_ hk_ => trivial)); have n1_ := Aside0.mk (hb); clear HB; clear HO180; have HO187 := n0_; have HB := n1_; clear n0_ n1_; (try clear hb); (try clear hkp); (try clear ho0)))
           go_roundg k2
           case measure => have := HK1.out; have := HK2.out; omega
           case rel => exact ⟨(t185), (wrap64 (x5_2 + 1)), Z2, H', ⟨by have := HK1.out; have := HK2.out; omega⟩, ⟨by (with_reducible repeat (first | apply Kd.R_alloc | apply Kd.R_drewN | apply Kd.R_drew)); exact HO187.out⟩, ⟨Z0⟩⟩
          ·rw [if_neg c10] at H
           have c10b0 := decide_eq_false c10
           clear c10
           have H' := Aside0.mk H
           clear H
           have p175 : 0 ≤ (x4_1 : Int) := of_decide_eq_true Z1
           have q175 : x4_1 < (l0.length : Int) := of_decide_eq_true Z1
           obtain ⟨ad175, A175_0, c175_0, e175, hx175_0, hl175_0, hi175_0⟩ := at_L2 HR0.out x4_1 p175 q175
           cases e175
           replace hx175_0 := (HB.out.cell (World.block_lt_of_cell? w _ hx175_0)).trans hx175_0
           have HR175_0 := Aside0.mk hi175_0
           have HC175_0 := Aside0.mk hl175_0
           clear hi175_0 hl175_0
           replace p175 := eq_true p175
           replace q175 := eq_true q175
           have p176 : 0 ≤ (x4_1 : Int) := of_decide_eq_true Z1
           have q176 : x4_1 < (l0.length : Int) := of_decide_eq_true Z1
           obtain ⟨ad176, A176_0, c176_0, e176, hx176_0, hl176_0, hi176_0⟩ := at_L2 HR0.out x4_1 p176 q176
           obtain rfl : ad175 = ad176 := (by injection e176)
           replace hx176_0 := (HB.out.cell (World.block_lt_of_cell? w _ hx176_0)).trans hx176_0
           have HR176_0 := Aside0.mk hi176_0
           have HC176_0 := Aside0.mk hl176_0
           clear hi176_0 hl176_0
           replace p176 := eq_true p176
           replace q176 := eq_true q176
           have ea_ := Option.some.inj (hx175_0.symm.trans hx176_0)
           injection ea_ with ea_ en_ ec_
           subst ea_
           subst ec_
           clear en_
           have p177 : 0 ≤ (x5_2 : Int) := of_decide_eq_true Z1
           have q177 : x5_2 < ((rd_L2 l0 x4_1).length : Int) := of_decide_eq_true Z1
           obtain ⟨ad177, e177, hx177_0, hx177_1⟩ := at_T36 HR176_0.out x5_2 p177 q177
           cases e177
           replace hx177_0 := (HB.out.cell (World.block_lt_of_cell? w _ hx177_0)).trans hx177_0
           replace hx177_1 := (HB.out.cell (World.block_lt_of_cell? w _ hx177_1)).trans hx177_1
           replace p177 := eq_true p177
           replace q177 := eq_true q177
           obtain ⟨Ao16, co16, eo16⟩ := Kd.R_slice HO_3.out
           subst eo16
           go_wp2_with (first | ((with_reducible refine gC 75 rfl ?_); refine goesL_ (some 31) rfl rfl Tryd.func75 Z5 rfl #[.slice Ao16 x3_2.length co16, .int .i32 ((rd_T36 (rd_L2 l0 x4_1) x5_2).f0)] rfl Z3 ?_; (with_reducible refine (quoinref02_with.calls k2 (fun k_ => some k_ = (.slice Ao16 x3_2.length co16 : Value).ownBlock) (.slice Ao16 x3_2.length co16) x3_2 ((rd_T36 (rd_L2 l0 x4_1) x5_2).f0) t178 w _ ?side1 ?side2 A9.out).mono ?_); (case side1 => repeat (first | (with_reducible first | exact HB.out | apply below_alloc | apply pw_below_drewN | apply below_drew1 | refine below_set ?_ (Aside0.out Z15)) | exact HB.out)); (case side2 => exact Kd.R_tight rfl HO_3.out); rintro e w17 ⟨v179, rfl, ho0, hb, hkp⟩; refine ⟨_, rfl, ?_⟩; have n0_ := Aside0.mk (Kd.R_mono (ok' := fun k_ => True) ho0 (fun k_ hk_ => trivial)); have n1_ := Aside0.mk (hb); clear HB; clear HO_3; have HO180 := n0_; have HB := n1_; clear n0_ n1_; (try clear hb); (try clear hkp); (try clear ho0); have p181 : 0 ≤ (x4_1 : Int) := of_decide_eq_true Z1; have q181 : x4_1 < (l0.length : Int) := of_decide_eq_true Z1; obtain ⟨ad181, A181_0, c181_0, e181, hx181_0, hl181_0, hi181_0⟩ := at_L2 HR0.out x4_1 p181 q181; obtain rfl : ad175 = ad181 := (by injection e181); replace hx181_0 := (HB.out.cell (World.block_lt_of_cell? w _ hx181_0)).trans hx181_0; have HR181_0 := Aside0.mk hi181_0; have HC181_0 := Aside0.mk hl181_0; clear hi181_0 hl181_0; replace p181 := eq_true p181; replace q181 := eq_true q181; have p182 : 0 ≤ (x5_2 : Int) := of_decide_eq_true Z1; have q182 : x5_2 < ((rd_L2 l0 x4_1).length : Int) := of_decide_eq_true Z1; obtain ⟨ad182, e182, hx182_0, hx182_1⟩ := at_T36 HR181_0.out x5_2 p182 q182; cases e182; replace hx182_0 := (HB.out.cell (World.block_lt_of_cell? w _ hx182_0)).trans hx182_0; replace hx182_1 := (HB.out.cell (World.block_lt_of_cell? w _ hx182_1)).trans hx182_1; replace p182 := eq_true p182; replace q182 := eq_true q182))
           go_roundg k2
           case measure => have := HK1.out; have := HK2.out; omega
           case rel => exact ⟨(t178), (wrap64 (x5_2 + 1)), Z2, H', ⟨by have := HK1.out; have := HK2.out; omega⟩, ⟨by (with_reducible repeat (first | apply Kd.R_alloc | apply Kd.R_drewN | apply Kd.R_drew)); exact HO180.out⟩, ⟨Z0⟩⟩
         ·rw [if_neg c8] at H
          exact absurd H Z19
        ·rw [if_neg c7] at H
         have c7b0 := decide_eq_false c7
         clear c7
         have H' := Aside0.mk H
         clear H
         have p175 : 0 ≤ (x4_1 : Int) := of_decide_eq_true Z1
         have q175 : x4_1 < (l0.length : Int) := of_decide_eq_true Z1
         obtain ⟨ad175, A175_0, c175_0, e175, hx175_0, hl175_0, hi175_0⟩ := at_L2 HR0.out x4_1 p175 q175
         cases e175
         replace hx175_0 := (HB.out.cell (World.block_lt_of_cell? w _ hx175_0)).trans hx175_0
         have HR175_0 := Aside0.mk hi175_0
         have HC175_0 := Aside0.mk hl175_0
         clear hi175_0 hl175_0
         replace p175 := eq_true p175
         replace q175 := eq_true q175
         go_wp2
         go_roundg k2
         case measure => have := HK1.out; have := HK2.out; omega
         case rel => exact ⟨(x3_2), (wrap64 (x4_1 + 1)), Z2, H', ⟨by have := HK1.out; have := HK2.out; omega⟩, ⟨by (with_reducible repeat (first | apply Kd.R_alloc | apply Kd.R_drewN | apply Kd.R_drew)); exact HO_3.out⟩, ⟨Z0⟩⟩
       ·rw [if_neg c6] at H
        exact absurd H Z19
      ·rw [if_neg c5] at H
       exact absurd H Z19
   ·rw [if_neg c4] at H
    have c4b0 := decide_eq_false c4
    clear c4
    obtain rfl := Option.some.inj H
    go_wp2
    go_ret
    exact ⟨_, Z4, by (with_reducible repeat (first | apply Kd.R_alloc | apply Kd.R_drewN | apply Kd.R_drew)); exact HO_3.out, Z0⟩
mutual
def quoinref02_Check.l0 : Nat → List (S36) → Int → Option (Int)
 | 0, _, _ => none
 | k + 1, x0, x3 => if x3 < (x0.length : Int) then (if 0 ≤ x3 then (if ((rd_T36 x0 x3).f0) < 0 then (quoinref02_Check.j1 k x0 x3 true) else (if ((rd_T36 x0 x3).f0) > ((rd_T36 x0 x3).f1) then (quoinref02_Check.j1 k x0 x3 true) else (quoinref02_Check.j1 k x0 x3 (decide (((rd_T36 x0 x3).f1) > 1114111))))) else (none)) else (if (x0.length : Int) > 2048 then (some 21) else (some 0))
def quoinref02_Check.j1 : Nat → List (S36) → Int → Bool → Option (Int)
 | 0, _, _, _ => none
 | k + 1, x0, x3, x36 => if x36 = true then (some 20) else (if x3 > 0 then (if 0 ≤ x3 then (if x3 < (x0.length : Int) then (if 0 ≤ (wrap64 (x3 - 1)) then (if (wrap64 (x3 - 1)) < (x0.length : Int) then (if ((rd_T36 x0 x3).f0) < (wrap32 (((rd_T36 x0 (wrap64 (x3 - 1))).f1) + 2)) then (some 20) else (quoinref02_Check.l0 k x0 (wrap64 (x3 + 1)))) else (none)) else (none)) else (none)) else (none)) else (quoinref02_Check.l0 k x0 (wrap64 (x3 + 1))))
end
def quoinref02_Check.f (k : Nat) (l0 : List (S36)) : Option (Int) := quoinref02_Check.l0 k l0 0
set_option maxHeartbeats 8000000 in
set_option maxRecDepth 100000 in
theorem quoinref02_Check.calls (k : Nat) (A0 : Option Addr) (c0 : Nat) (l0 : List (S36)) (r : Int) (w : World) (hr0 : Kd.C k36 w A0 l0.length l0) (hc0 : l0.length ≤ c0) (h : quoinref02_Check.f k l0 = some r) :
  Calls Tryd.prog 18 #[.slice A0 l0.length c0] w fun e w' => e = .returned (.int .i64 r) ∧ Drawn0 w w' := by
 have HR0 := Aside0.mk hr0
 have HC0 := Aside0.mk hc0
 clear hr0 hc0
 have H : (quoinref02_Check.l0 k l0 0) = some r := h
 clear h
 have H' := Aside0.mk H
 clear H
 go_enter Tryd.func18, Tryd.ntmps18
 go_wp2
 repeat (go_quiet (fail); try go_wp2)
 go_loopg [3] k (fun kq v3 w' => ∃ (x3_1 : Int), v3 = .int .i64 x3_1 ∧ Aside0 (quoinref02_Check.l0 kq l0 x3_1 = some r) ∧ Aside0 (kq ≤ k) ∧ Drawn0 w w')
 case atStart => exact ⟨(0), Z2, H', ⟨Nat.le_refl _⟩, Z8⟩
 case round =>
  clear H'
  try clear c1
  obtain ⟨x3_1, rfl, HA, HK1, ⟨m1, rfl⟩⟩ := hrel
  cases gk with
  | zero => exact absurd HA.out (by simp [quoinref02_Check.l0])
  | succ k1 =>
   have H := HA.out
   clear HA
   simp only [quoinref02_Check.l0] at H
   by_cases c2 : x3_1 < (l0.length : Int)
   ·rw [if_pos c2] at H
    have c2b0 := decide_eq_true c2
    clear c2
    have HC3 := Aside0.mk H
    clear H
    go_upto_region 4 with (fail)
    repeat (go_quiet (fail); go_upto_region 4 with (fail))
    go_cut [36] (fun v36 wc => ∃ (kq : Nat) (x36_2 : Bool), v36 = .bool x36_2 ∧ Aside0 (quoinref02_Check.j1 kq l0 x3_1 x36_2 = some r) ∧ Aside0 (kq ≤ k1) ∧ Drawn0 w wc)
    case first =>
     have H := HC3.out
     clear HC3
     by_cases c4 : 0 ≤ x3_1
     ·rw [if_pos c4] at H
      have c4b0 := decide_eq_true c4
      clear c4
      (first | rw [c4b0] | (simp only [i64_w, i32_w]; rw [c4b0]) | skip)
      by_cases c5 : ((rd_T36 l0 x3_1).f0) < 0
      ·rw [if_pos c5] at H
       have c5b0 := decide_eq_true c5
       clear c5
       have H' := Aside0.mk H
       clear H
       have p262 : 0 ≤ (x3_1 : Int) := of_decide_eq_true Z1
       have q262 : x3_1 < (l0.length : Int) := of_decide_eq_true Z1
       obtain ⟨ad262, e262, hx262_0, hx262_1⟩ := at_T36 HR0.out x3_1 p262 q262
       cases e262
       replace p262 := eq_true p262
       replace q262 := eq_true q262
       go_wp2
       repeat (go_quiet (fail); try go_wp2)
       go_meet
       case rel => exact ⟨_, (true), Z2, H', ⟨by have := HK1.out; first | omega | exact Nat.le_refl _⟩, Z8⟩
      ·rw [if_neg c5] at H
       have c5b0 := decide_eq_false c5
       clear c5
       by_cases c6 : ((rd_T36 l0 x3_1).f0) > ((rd_T36 l0 x3_1).f1)
       ·rw [if_pos c6] at H
        have c6b0 : decide (((rd_T36 l0 x3_1).f1) < ((rd_T36 l0 x3_1).f0)) = true := decide_eq_true c6
        clear c6
        have H' := Aside0.mk H
        clear H
        have p262 : 0 ≤ (x3_1 : Int) := of_decide_eq_true Z1
        have q262 : x3_1 < (l0.length : Int) := of_decide_eq_true Z1
        obtain ⟨ad262, e262, hx262_0, hx262_1⟩ := at_T36 HR0.out x3_1 p262 q262
        cases e262
        replace p262 := eq_true p262
        replace q262 := eq_true q262
        have p263 : 0 ≤ (x3_1 : Int) := of_decide_eq_true Z1
        have q263 : x3_1 < (l0.length : Int) := of_decide_eq_true Z1
        obtain ⟨ad263, e263, hx263_0, hx263_1⟩ := at_T36 HR0.out x3_1 p263 q263
        obtain rfl : ad262 = ad263 := (by injection e263)
        replace p263 := eq_true p263
        replace q263 := eq_true q263
        have p264 : 0 ≤ (x3_1 : Int) := of_decide_eq_true Z1
        have q264 : x3_1 < (l0.length : Int) := of_decide_eq_true Z1
        obtain ⟨ad264, e264, hx264_0, hx264_1⟩ := at_T36 HR0.out x3_1 p264 q264
        obtain rfl : ad262 = ad264 := (by injection e264)
        replace p264 := eq_true p264
        replace q264 := eq_true q264
        go_wp2
        repeat (go_quiet (fail); try go_wp2)
        go_meet
        case rel => exact ⟨_, (true), Z2, H', ⟨by have := HK1.out; first | omega | exact Nat.le_refl _⟩, Z8⟩
       ·rw [if_neg c6] at H
        have c6b0 : decide (((rd_T36 l0 x3_1).f1) < ((rd_T36 l0 x3_1).f0)) = false := decide_eq_false c6
        clear c6
        have H' := Aside0.mk H
        clear H
        have p262 : 0 ≤ (x3_1 : Int) := of_decide_eq_true Z1
        have q262 : x3_1 < (l0.length : Int) := of_decide_eq_true Z1
        obtain ⟨ad262, e262, hx262_0, hx262_1⟩ := at_T36 HR0.out x3_1 p262 q262
        cases e262
        replace p262 := eq_true p262
        replace q262 := eq_true q262
        have p263 : 0 ≤ (x3_1 : Int) := of_decide_eq_true Z1
        have q263 : x3_1 < (l0.length : Int) := of_decide_eq_true Z1
        obtain ⟨ad263, e263, hx263_0, hx263_1⟩ := at_T36 HR0.out x3_1 p263 q263
        obtain rfl : ad262 = ad263 := (by injection e263)
        replace p263 := eq_true p263
        replace q263 := eq_true q263
        have p264 : 0 ≤ (x3_1 : Int) := of_decide_eq_true Z1
        have q264 : x3_1 < (l0.length : Int) := of_decide_eq_true Z1
        obtain ⟨ad264, e264, hx264_0, hx264_1⟩ := at_T36 HR0.out x3_1 p264 q264
        obtain rfl : ad262 = ad264 := (by injection e264)
        replace p264 := eq_true p264
        replace q264 := eq_true q264
        have p265 : 0 ≤ (x3_1 : Int) := of_decide_eq_true Z1
        have q265 : x3_1 < (l0.length : Int) := of_decide_eq_true Z1
        obtain ⟨ad265, e265, hx265_0, hx265_1⟩ := at_T36 HR0.out x3_1 p265 q265
        obtain rfl : ad262 = ad265 := (by injection e265)
        replace p265 := eq_true p265
        replace q265 := eq_true q265
        go_wp2
        repeat (go_quiet (fail); try go_wp2)
        go_meet
        case rel => exact ⟨_, (decide (((rd_T36 l0 x3_1).f1) > 1114111)), Z2, H', ⟨by have := HK1.out; first | omega | exact Nat.le_refl _⟩, Z8⟩
     ·rw [if_neg c4] at H
      exact absurd H Z19
    case rest =>
     clear HC3
     try clear c1
     try clear c2
     try clear c2b0
     try clear p2
     try clear q2
     try clear hx2
     try clear c4
     try clear c4b0
     try clear c5
     try clear c5b0
     try clear c6
     try clear c6b0
     try clear hx262_0
     try clear hx262_1
     try clear hx263_0
     try clear hx263_1
     try clear hx264_0
     try clear hx264_1
     try clear hx265_0
     try clear hx265_1
     try clear p262
     try clear p263
     try clear p264
     try clear p265
     try clear q262
     try clear q263
     try clear q264
     try clear q265
     obtain ⟨kq, x36_2, rfl, HA, HJ2, ⟨mc2, rfl⟩⟩ := hcut
     cases kq with
     | zero => exact absurd HA.out (by simp [quoinref02_Check.j1])
     | succ kj2 =>
      have H := HA.out
      clear HA
      simp only [quoinref02_Check.j1] at H
      by_cases c7 : x36_2 = true
      ·subst c7
       have H1 : (some 20) = some r := by rw [if_pos rfl] at H; exact H
       clear H
       have H := H1
       clear H1
       obtain rfl := Option.some.inj H
       go_wp2
       repeat (go_quiet (fail); try go_wp2)
       go_ret
       exact ⟨Z2, Z8⟩
      ·replace c7 := Bool.eq_false_iff.mpr c7
       subst c7
       have H1 : (if x3_1 > 0 then (if 0 ≤ x3_1 then (if x3_1 < (l0.length : Int) then (if 0 ≤ (wrap64 (x3_1 - 1)) then (if (wrap64 (x3_1 - 1)) < (l0.length : Int) then (if ((rd_T36 l0 x3_1).f0) < (wrap32 (((rd_T36 l0 (wrap64 (x3_1 - 1))).f1) + 2)) then (some 20) else (quoinref02_Check.l0 kj2 l0 (wrap64 (x3_1 + 1)))) else (none)) else (none)) else (none)) else (none)) else (quoinref02_Check.l0 kj2 l0 (wrap64 (x3_1 + 1)))) = some r := by rw [if_neg (show ¬ (false = true) by decide)] at H; exact H
       clear H
       have H := H1
       clear H1
       by_cases c8 : x3_1 > 0
       ·rw [if_pos c8] at H
        have c8b0 : decide (0 < x3_1) = true := decide_eq_true c8
        clear c8
        by_cases c9 : 0 ≤ x3_1
        ·rw [if_pos c9] at H
         have c9b0 := decide_eq_true c9
         clear c9
         by_cases c10 : x3_1 < (l0.length : Int)
         ·rw [if_pos c10] at H
          have c10b0 := decide_eq_true c10
          clear c10
          obtain ⟨ji11, hji11⟩ : ∃ j_ : Int, (wrap64 (x3_1 - 1)) = j_ := ⟨_, rfl⟩
          replace H : (if 0 ≤ (ji11) then (if (ji11) < (l0.length : Int) then (if ((rd_T36 l0 x3_1).f0) < (wrap32 (((rd_T36 l0 (ji11)).f1) + 2)) then (some 20) else (quoinref02_Check.l0 kj2 l0 (wrap64 (x3_1 + 1)))) else (none)) else (none)) = some r := by first | (rw [hji11] at H; exact H) | (simp only [hji11] at H ⊢; exact H)
          have hji11w : (IntKind.i64.wrap (x3_1 - 1)) = ji11 := (i64_w _).trans hji11
          by_cases c12 : 0 ≤ (ji11)
          ·rw [if_pos c12] at H
           have c12b0 := decide_eq_true c12
           clear c12
           by_cases c13 : (ji11) < (l0.length : Int)
           ·rw [if_pos c13] at H
            have c13b0 := decide_eq_true c13
            clear c13
            by_cases c14 : ((rd_T36 l0 x3_1).f0) < (wrap32 (((rd_T36 l0 (ji11)).f1) + 2))
            ·rw [if_pos c14] at H
             have c14b0 := decide_eq_true c14
             clear c14
             obtain rfl := Option.some.inj H
             have p266 : 0 ≤ (x3_1 : Int) := of_decide_eq_true Z1
             have q266 : x3_1 < (l0.length : Int) := of_decide_eq_true Z1
             obtain ⟨ad266, e266, hx266_0, hx266_1⟩ := at_T36 HR0.out x3_1 p266 q266
             cases e266
             replace p266 := eq_true p266
             replace q266 := eq_true q266
             have p267 : 0 ≤ ((ji11) : Int) := of_decide_eq_true Z1
             have q267 : (ji11) < (l0.length : Int) := of_decide_eq_true Z1
             obtain ⟨ad267, e267, hx267_0, hx267_1⟩ := at_T36 HR0.out (ji11) p267 q267
             obtain rfl : ad266 = ad267 := (by injection e267)
             replace p267 := eq_true p267
             replace q267 := eq_true q267
             go_wp2
             repeat (go_quiet (fail); try go_wp2)
             go_ret
             exact ⟨by first | rfl | (simp; done) | (simp only [← hji11] <;> (first | rfl | (simp; done))) | (simp only [← hji11] <;> rw [u32_tmod]) | (simp only [← hji11] <;> simp <;> omega) | (simp [*]; done) | (simp <;> omega) | rw [u32_tmod], Z8⟩
            ·rw [if_neg c14] at H
             have c14b0 := decide_eq_false c14
             clear c14
             have H' := Aside0.mk H
             clear H
             have p266 : 0 ≤ (x3_1 : Int) := of_decide_eq_true Z1
             have q266 : x3_1 < (l0.length : Int) := of_decide_eq_true Z1
             obtain ⟨ad266, e266, hx266_0, hx266_1⟩ := at_T36 HR0.out x3_1 p266 q266
             cases e266
             replace p266 := eq_true p266
             replace q266 := eq_true q266
             have p267 : 0 ≤ ((ji11) : Int) := of_decide_eq_true Z1
             have q267 : (ji11) < (l0.length : Int) := of_decide_eq_true Z1
             obtain ⟨ad267, e267, hx267_0, hx267_1⟩ := at_T36 HR0.out (ji11) p267 q267
             obtain rfl : ad266 = ad267 := (by injection e267)
             replace p267 := eq_true p267
             replace q267 := eq_true q267
             go_wp2
             repeat (go_quiet (fail); try go_wp2)
             go_roundg kj2
             case measure => have := HK1.out; have := HJ2.out; omega
             case rel => exact ⟨(wrap64 (x3_1 + 1)), Z2, H', ⟨by have := HK1.out; have := HJ2.out; omega⟩, Z8⟩
           ·rw [if_neg c13] at H
            exact absurd H Z19
          ·rw [if_neg c12] at H
           exact absurd H Z19
         ·rw [if_neg c10] at H
          exact absurd H Z19
        ·rw [if_neg c9] at H
         exact absurd H Z19
       ·rw [if_neg c8] at H
        have c8b0 : decide (0 < x3_1) = false := decide_eq_false c8
        clear c8
        have H' := Aside0.mk H
        clear H
        go_wp2
        repeat (go_quiet (fail); try go_wp2)
        go_roundg kj2
        case measure => have := HK1.out; have := HJ2.out; omega
        case rel => exact ⟨(wrap64 (x3_1 + 1)), Z2, H', ⟨by have := HK1.out; have := HJ2.out; omega⟩, Z8⟩
   ·rw [if_neg c2] at H
    have c2b0 := decide_eq_false c2
    clear c2
    by_cases c15 : (l0.length : Int) > 2048
    ·rw [if_pos c15] at H
     have c15b0 : decide (2048 < (l0.length : Int)) = true := decide_eq_true c15
     have c15b1 : decide (2048 < l0.length) = true := decide_eq_true Z20
     clear c15
     obtain rfl := Option.some.inj H
     go_wp2
     repeat (go_quiet (fail); try go_wp2)
     go_ret
     exact ⟨Z2, Z8⟩
    ·rw [if_neg c15] at H
     have c15b0 : decide (2048 < (l0.length : Int)) = false := decide_eq_false c15
     have c15b1 : decide (2048 < l0.length) = false := decide_eq_false Z20
     clear c15
     obtain rfl := Option.some.inj H
     go_wp2
     repeat (go_quiet (fail); try go_wp2)
     go_ret
     exact ⟨Z2, Z8⟩
end Go.Proofs.YtfnkboilepgmoaaDoor.R
