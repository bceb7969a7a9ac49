import Derived.Test.YtcajiapjdlphmaaGPre
import Derived.Test.YtcajiapjdlphmaaGabcdefx0
import Derived.Test.YtcajiapjdlphmaaGabcdefx7
import Derived.Test.YtcajiapjdlphmaaGabdfx0
import Derived.Test.YtcajiapjdlphmaaGabx0
namespace Go.Proofs.Ytcajiapjdlphmaa.H
open Go.RowKit Go.Proofs.YtcajiapjdlphmaaW.PrintWords Go.Proofs.YtcajiapjdlphmaaW.PrintLast Go.Proofs.YtcajiapjdlphmaaW.PrintMore
attribute [local go_sem] max2_int min2_int max_two min_two max_three min_three max_four min_four
set_option linter.unusedVariables false
set_option linter.unusedSimpArgs false
def goscan_Terms.names : List ByteArray := [⟨#[105, 100, 101, 110, 116, 105, 102, 105, 101, 114]⟩, ⟨#[105, 110, 116, 95, 108, 105, 116]⟩, ⟨#[102, 108, 111, 97, 116, 95, 108, 105, 116]⟩, ⟨#[105, 109, 97, 103, 105, 110, 97, 114, 121, 95, 108, 105, 116]⟩, ⟨#[114, 117, 110, 101, 95, 108, 105, 116]⟩, ⟨#[115, 116, 114, 105, 110, 103, 95, 108, 105, 116]⟩]
def goscan_Terms.loop (k : Nat) (n : Int) : List S36 → List ByteArray → Option (List ByteArray × Int)
 | [], out => some (out, 0)
 | t :: l, out => if t.f0 < 2 then some ([], 1) else (if n ≤ t.f0 then some ([], 1) else ((goscan_Text.f k t.f0).bind fun b => (if out.length < 8796093022208 then (if b.2 = true then goscan_Terms.loop k n l (out ++ [b.1]) else (if 0 ≤ wrap64 (t.f0 - 2) then (if wrap64 (t.f0 - 2) < 6 then goscan_Terms.loop k n l (out ++ [goscan_Terms.names.getD (wrap64 (t.f0 - 2)).toNat ByteArray.empty]) else none) else none)) else none)))
theorem goscan_Terms.loop_mono (k : Nat) (n : Int) : ∀ (l : List S36) (s : List ByteArray), LeO (goscan_Terms.loop k n l s) (goscan_Terms.loop (k + 1) n l s)
 | [], s => LeO.refl _
 | t :: l, s => by
  unfold goscan_Terms.loop
  have ih := goscan_Terms.loop_mono k n l
  repeat' first
   | exact ih _
   | exact goscan_Text.mono _ _
   | exact LeO.refl _
   | exact LeO.none _
   | refine LeO.ite ?_ ?_
   | refine LeO.bind ?_ (fun _ => ?_)
def goscan_Terms.f (k : Nat) (l0 : List S36) : Option (List ByteArray × Int) := (goscan_kindNewline.f k).bind fun n => goscan_Terms.loop k n l0 []
theorem goscan_Terms.mono : ∀ a0 k, LeO (goscan_Terms.f k a0) (goscan_Terms.f (k + 1) a0) := by
 intro a0 k
 unfold goscan_Terms.f
 repeat' first
   | exact goscan_kindNewline.mono _
   | exact goscan_Terms.loop_mono _ _ _ _
   | refine LeO.bind ?_ (fun _ => ?_)
theorem goscan_Terms.cells6 {W : World} {b : Nat} (h : W.heap[b]? = some (.cells (goscan_Terms.names.map Value.string).toArray 65 (0, 0))) (j : Int) (h0 : 0 ≤ j) (h1 : j < 6) : W.cell? ⟨b, j.toNat, none⟩ = some (.string (goscan_Terms.names.getD j.toNat ByteArray.empty)) := by
 rw [cell_of_row _ _ j.toNat _ _ (0, 0) h]
 rcases (by omega : j.toNat = 0 ∨ j.toNat = 1 ∨ j.toNat = 2 ∨ j.toNat = 3 ∨ j.toNat = 4 ∨ j.toNat = 5) with e | e | e | e | e | e <;> rw [e] <;> rfl
set_option maxHeartbeats 8000000 in
set_option maxRecDepth 100000 in
theorem goscan_Terms.calls (k : Nat) (A0 : Option Addr) (c0 : Nat) (l0 : List (S36)) (r1 : List ByteArray) (r2 : Int) (w : World) (hr0 : Kd.C k36 w A0 l0.length l0) (hc0 : l0.length ≤ c0) (h : goscan_Terms.f k l0 = some (r1, r2)) :
  Calls Try.prog 23 #[.slice A0 l0.length c0] w fun e w' => ∃ v0_ : Value, e = .returned (.tuple #[v0_, .int .i64 r2]) ∧ Kd.R Kd.string 9 w' w.heap.size (fun _ => True) v0_ r1 ∧ Below w.heap.size w w' := by
 have HR0 := Aside0.mk hr0
 have HC0 := Aside0.mk hc0
 clear hr0 hc0
 unfold goscan_Terms.f at h
 obtain ⟨n, Q1, h⟩ := Option.bind_eq_some_iff.mp h
 replace Q1 := Aside0.mk Q1
 have H := Aside0.mk h
 clear h
 go_enter Try.func23, Try.ntmps23
 go_upto_region 4 with (first
  | (go_at_call 34; refine (goscan_kindNewline.calls k _ _ Q1.out).mono ?_; rintro e W1 ⟨rfl, hb⟩; have B1 := Aside0.mk ((Below.refl w.heap.size w).alloc (Nat.le_refl _) _ |>.trans (hb.mono (Nat.le_trans (Nat.le_succ _) (Nat.le_of_eq (szAlloc w _).symm)))); have BA := Aside0.mk (show W1.heap[w.heap.size]? = some (.cells (goscan_Terms.names.map Value.string).toArray 65 (0, 0)) from blk_below (blk_new w _) hb); clear hb))
 have hg : w.heap.size ≤ w.heap.size := Nat.le_refl _
 generalize hgg : w.heap.size = g at BA ⊢
 go_wp2
 go_loopw [6, 15] (fun ov i wr => ∃ (x : Int) (v : Value) (out : List ByteArray), 0 ≤ x ∧ x ≤ (l0.length : Int) ∧ i = .int .i64 x ∧ ov = v ∧ Aside0 (Kd.R Kd.string 9 wr w.heap.size (fun _ => True) v out) ∧ Aside0 (Below w.heap.size w wr) ∧ Aside0 (wr.heap[g]? = some (.cells (goscan_Terms.names.map Value.string).toArray 65 (0, 0))) ∧ Aside0 (goscan_Terms.loop k n (l0.drop x.toNat) out = some (r1, r2))) (fun _ i _ => l0.length - (intOf i).toNat)
 case atStart => exact ⟨0, _, _, by omega, by omega, rfl, rfl, ⟨Kd.R_nil _ _ _ _ _⟩, B1, BA, H⟩
 case round =>
  clear B1 BA H hgg hg
  obtain ⟨x, v, out, hx0, hx1, rfl, rfl, HO, HB, BA, HL⟩ := hrel
  by_cases hlt : x < (l0.length : Int)
  ·obtain ⟨A, c, rfl⟩ := Kd.R_slice HO.out
   obtain ⟨ad, e0, h0, h1, h2⟩ := at_T36 (Kd.C_below HR0.out HB.out) x hx0 hlt
   obtain rfl := e0
   have hd : l0.drop x.toNat = rd_T36 l0 x :: l0.drop (x + 1).toNat := by
    have hl : x.toNat < l0.length := by omega
    rw [List.drop_eq_getElem_cons hl, show (x + 1).toNat = x.toNat + 1 from by omega]
    congr 1
    unfold rd_T36
    rw [List.getD_eq_getElem?_getD, List.getElem?_eq_getElem hl]
    rfl
   have hl := HL.out
   clear HL
   rw [hd] at hl
   clear hd
   obtain ⟨⟨t0, t1, t2⟩, ht⟩ : ∃ t, rd_T36 l0 x = t := ⟨_, rfl⟩
   rw [ht] at hl h0 h1 h2
   clear ht
   unfold goscan_Terms.loop at hl
   dsimp only at hl h0 h1 h2
   have hw : wrap64 (x + 1) = x + 1 := by unfold wrap64; have := HR0.out.2.1; omega
   have hw := Aside0.mk hw
   have hlb : decide (x < (l0.length : Int)) = true := decide_eq_true hlt
   have hbx := (Below.refl wr.heap.size wr).alloc (Nat.le_refl _) (.cells #[.int .i64 t0, .int .i64 t1, .int .i64 t2] 36)
   have HOX := Aside0.mk (Kd.R_below HO.out hbx)
   have HBX := Aside0.mk (HB.out.trans (hbx.mono HB.out.size))
   have BAX := Aside0.mk (blk_below BA.out hbx)
   clear hbx
   have BT := Aside0.mk (blk_new wr (.cells #[.int .i64 t0, .int .i64 t1, .int .i64 t2] 36))
   go_upto_region 7 with (fail)
   generalize wr.alloc (.cells #[.int .i64 t0, .int .i64 t1, .int .i64 t2] 36) = wx at HOX HBX BAX BT ⊢
   generalize wr.heap.size = q at BT ⊢
   have ct0 := (blk_cell BT.out 0).trans rfl
   clear HO HB BA h0 h1 h2
   by_cases d1 : t0 < 2
   ·rw [if_pos d1] at hl
    obtain ⟨rfl, rfl⟩ := Prod.mk.inj (Option.some.inj hl)
    clear hl
    have d1b : decide (t0 < 2) = true := decide_eq_true d1
    clear d1
    go_wp2
    go_ret2
    exact ⟨_, rfl, Kd.R_nil _ _ _ _ _, HBX.out⟩
   ·rw [if_neg d1] at hl
    have d1b : decide (t0 < 2) = false := decide_eq_false d1
    by_cases d2 : n ≤ t0
    ·rw [if_pos d2] at hl
     obtain ⟨rfl, rfl⟩ := Prod.mk.inj (Option.some.inj hl)
     clear hl d1
     have d2b : decide (n ≤ t0) = true := decide_eq_true d2
     clear d2
     go_wp2
     go_ret2
     exact ⟨_, rfl, Kd.R_nil _ _ _ _ _, HBX.out⟩
    ·rw [if_neg d2] at hl
     have d2b : decide (n ≤ t0) = false := decide_eq_false d2
     clear d2 d1
     obtain ⟨⟨s, b⟩, E1, hl⟩ := Option.bind_eq_some_iff.mp hl
     replace E1 := Aside0.mk E1
     dsimp only at hl
     by_cases d3 : out.length < 8796093022208
     ·rw [if_pos d3] at hl
      have LM := Aside0.mk d3
      clear d3
      cases b with
      | true =>
       rw [if_pos rfl] at hl
       have hl := Aside0.mk hl
       go_upto_if 35 with (go_at_call 19; refine (goscan_Text.calls k _ _ _ _ E1.out).mono ?_; rintro e w2 ⟨rfl, hb⟩; have HO2 := Aside0.mk (Kd.R_below HOX.out hb); have HB2 := Aside0.mk (HBX.out.trans (hb.mono HBX.out.size)); have BA2 := Aside0.mk (blk_below BAX.out hb); clear hb)
       go_wp2_with ((with_reducible refine gate_builtin (b := .append) (xs := #[.tmp 41, .tmp 43]) rfl ?_); at_builtin; refine Kd.R_append Kd.string (w0 := w) w.heap.size rfl (.tmp 41) (.tmp 43) 38 9 (.string ⟨#[]⟩) 16 rfl Try.underlying38 info9 rfl (by decide) (by omega) (.slice A out.length c) out s [.string s] (fun _ => True) (fun _ => False) rfl rfl rfl (fun _ hk => hk.elim) (fun _ _ => trivial) HO2.out HB2.out HB2.out.size (by have := LM.out; omega) ?_; intro v1 w4 ho hb hg hat; have HO4 := Aside0.mk ho; have HB4 := Aside0.mk hb; have BA4 := Aside0.mk (blk_grown BA2.out hg (Kd.R_ne HO2.out BA2.out (by decide))); clear ho hb hg hat)
       go_roundw
       case rel => exact ⟨x + 1, _, _, by omega, by omega, by rw [hw.out], rfl, HO4, HB4, BA4, hl⟩
       case measure => simp [intOf]; omega
      | false =>
       rw [if_neg (by decide)] at hl
       by_cases d4 : 0 ≤ wrap64 (t0 - 2)
       ·rw [if_pos d4] at hl
        by_cases d5 : wrap64 (t0 - 2) < 6
        ·rw [if_pos d5] at hl
         have hl := Aside0.mk hl
         obtain ⟨j, hj⟩ : ∃ j, wrap64 (t0 - 2) = j := ⟨_, rfl⟩
         have hj' : IntKind.i64.wrap (t0 - 2) = j := (i64_w _).trans hj
         rw [hj] at hl d4 d5
         go_upto_if 35 with (go_at_call 19; refine (goscan_Text.calls k _ _ _ _ E1.out).mono ?_; rintro e w2 ⟨rfl, hb⟩; have HO2 := Aside0.mk (Kd.R_below HOX.out hb); have HB2 := Aside0.mk (HBX.out.trans (hb.mono HBX.out.size)); have BA2 := Aside0.mk (blk_below BAX.out hb); have BT2 := (blk_cell (blk_below BT.out hb) 0).trans rfl; clear hb)
         have e6 := goscan_Terms.cells6 BA2.out j d4 d5
         clear ct0
         go_wp2_with ((with_reducible refine gate_builtin (b := .append) (xs := #[.tmp 41, .tmp 43]) rfl ?_); at_builtin; refine Kd.R_append Kd.string (w0 := w) w.heap.size rfl (.tmp 41) (.tmp 43) 38 9 (.string ⟨#[]⟩) 16 rfl Try.underlying38 info9 rfl (by decide) (by omega) (.slice A out.length c) out (goscan_Terms.names.getD j.toNat ByteArray.empty) [.string (goscan_Terms.names.getD j.toNat ByteArray.empty)] (fun _ => True) (fun _ => False) rfl rfl rfl (fun _ hk => hk.elim) (fun _ _ => trivial) HO2.out HB2.out HB2.out.size (by have := LM.out; omega) ?_; intro v1 w4 ho hb hg hat; have HO4 := Aside0.mk ho; have HB4 := Aside0.mk hb; have BA4 := Aside0.mk (blk_grown BA2.out hg (Kd.R_ne HO2.out BA2.out (by decide))); clear ho hb hg hat)
         go_roundw
         case rel => exact ⟨x + 1, _, _, by omega, by omega, by rw [hw.out], rfl, HO4, HB4, BA4, hl⟩
         case measure => simp [intOf]; omega
        ·rw [if_neg d5] at hl
         cases hl
       ·rw [if_neg d4] at hl
        cases hl
     ·rw [if_neg d3] at hl
      cases hl
  ·have hx : l0.drop x.toNat = [] := List.drop_eq_nil_of_le (by omega)
   have hl := HL.out
   clear HL
   rw [hx] at hl
   clear hx
   unfold goscan_Terms.loop at hl
   obtain ⟨rfl, rfl⟩ := Prod.mk.inj (Option.some.inj hl)
   clear hl
   have hlb : decide (x < (l0.length : Int)) = false := decide_eq_false hlt
   go_wp2
   go_ret2
   exact ⟨_, rfl, HO.out, HB.out⟩
mutual
def quoinref26_Terms.l0 : Nat → List (S36) → List ByteArray → List ByteArray → Int → Option (List ByteArray × Int)
 | 0, _, _, _, _ => none
 | k + 1, x0, x4, x5, x6 => if x6 < (x0.length : Int) then (if 0 ≤ x6 then (if ((rd_T36 x0 x6).f0) < 2 then (quoinref26_Terms.j1 k x0 x4 x5 x6 true) else ((quoinref26_Kinds.f k).bind fun t666 => (quoinref26_Terms.j1 k x0 x4 x5 x6 (decide (((rd_T36 x0 x6).f0) ≥ (wrap64 ((t666.length : Int) - 3))))))) else (none)) else (some (x5, 0))
def quoinref26_Terms.j1 : Nat → List (S36) → List ByteArray → List ByteArray → Int → Bool → Option (List ByteArray × Int)
 | 0, _, _, _, _, _ => none
 | k + 1, x0, x4, x5, x6, x32 => if x32 = true then (some (([] : List ByteArray), 1)) else (if 0 ≤ x6 then (if x6 < (x0.length : Int) then ((quoinref26_Text.f k ((rd_T36 x0 x6).f0)).bind fun bt670 => (if bt670.2 = true then (if x5.length < 8796093022208 then (quoinref26_Terms.l0 k x0 x4 (x5 ++ [bt670.1]) (wrap64 (x6 + 1))) else (none)) else (if 0 ≤ (wrap64 (((rd_T36 x0 x6).f0) - 2)) then (if (wrap64 (((rd_T36 x0 x6).f0) - 2)) < (x4.length : Int) then (if x5.length < 8796093022208 then (quoinref26_Terms.l0 k x0 x4 (x5 ++ [rdOf ByteArray.empty x4 (wrap64 (((rd_T36 x0 x6).f0) - 2))]) (wrap64 (x6 + 1))) else (none)) else (none)) else (none)))) else (none)) else (none))
end
def quoinref26_Terms.f (k : Nat) (l0 : List (S36)) : Option (List ByteArray × Int) := quoinref26_Terms.l0 k l0 (([(⟨#[105, 100, 101, 110, 116, 105, 102, 105, 101, 114]⟩ : ByteArray), (⟨#[105, 110, 116, 95, 108, 105, 116]⟩ : ByteArray), (⟨#[102, 108, 111, 97, 116, 95, 108, 105, 116]⟩ : ByteArray), (⟨#[105, 109, 97, 103, 105, 110, 97, 114, 121, 95, 108, 105, 116]⟩ : ByteArray), (⟨#[114, 117, 110, 101, 95, 108, 105, 116]⟩ : ByteArray), (⟨#[115, 116, 114, 105, 110, 103, 95, 108, 105, 116]⟩ : ByteArray)] : List ByteArray)) ([] : List ByteArray) 0
theorem quoinref26_Terms.mono_l : ∀ k, (∀ y0 y1 y2 y3, LeO (quoinref26_Terms.l0 k y0 y1 y2 y3) (quoinref26_Terms.l0 (k + 1) y0 y1 y2 y3)) ∧ (∀ y0 y1 y2 y3 y4, LeO (quoinref26_Terms.j1 k y0 y1 y2 y3 y4) (quoinref26_Terms.j1 (k + 1) y0 y1 y2 y3 y4))
 | 0 => ⟨fun _ _ _ _ r h => by simp [quoinref26_Terms.l0] at h, fun _ _ _ _ _ r h => by simp [quoinref26_Terms.j1] at h⟩
 | k + 1 => by
  obtain ⟨ih0, ih1⟩ := quoinref26_Terms.mono_l k
  refine ⟨?_, ?_⟩
  ·intro y0 y1 y2 y3
   unfold quoinref26_Terms.l0
   repeat' first
   | (with_reducible exact ih0 _ _ _ _)
   | (with_reducible exact ih1 _ _ _ _ _)
   | (with_reducible exact quoinref26_Kinds.mono _)
   | (with_reducible exact quoinref26_Text.mono _ _)
   | (with_reducible exact LeO.refl _)
   | (with_reducible exact LeO.none _)
   | (with_reducible refine LeO.ite ?_ ?_)
   | (with_reducible refine LeO.bind ?_ (fun _ => ?_))
   | exact ih0 _ _ _ _
   | exact ih1 _ _ _ _ _
   | exact quoinref26_Kinds.mono _
   | exact quoinref26_Text.mono _ _
   | exact LeO.none _
   | refine LeO.ite ?_ ?_
   | refine LeO.bind ?_ (fun _ => ?_)
  ·intro y0 y1 y2 y3 y4
   unfold quoinref26_Terms.j1
   repeat' first
   | (with_reducible exact ih0 _ _ _ _)
   | (with_reducible exact ih1 _ _ _ _ _)
   | (with_reducible exact quoinref26_Kinds.mono _)
   | (with_reducible exact quoinref26_Text.mono _ _)
   | (with_reducible exact LeO.refl _)
   | (with_reducible exact LeO.none _)
   | (with_reducible refine LeO.ite ?_ ?_)
   | (with_reducible refine LeO.bind ?_ (fun _ => ?_))
   | exact ih0 _ _ _ _
   | exact ih1 _ _ _ _ _
   | exact quoinref26_Kinds.mono _
   | exact quoinref26_Text.mono _ _
   | exact LeO.none _
   | refine LeO.ite ?_ ?_
   | refine LeO.bind ?_ (fun _ => ?_)
theorem quoinref26_Terms.mono : ∀ a0 k, LeO (quoinref26_Terms.f k a0) (quoinref26_Terms.f (k + 1) a0) := by
 intro a0 k
 obtain ⟨ih0, ih1⟩ := quoinref26_Terms.mono_l k
 unfold quoinref26_Terms.f
 repeat' first
   | (with_reducible exact ih0 _ _ _ _)
   | (with_reducible exact ih1 _ _ _ _ _)
   | (with_reducible exact quoinref26_Kinds.mono _)
   | (with_reducible exact quoinref26_Text.mono _ _)
   | (with_reducible exact LeO.refl _)
   | (with_reducible exact LeO.none _)
   | (with_reducible refine LeO.ite ?_ ?_)
   | (with_reducible refine LeO.bind ?_ (fun _ => ?_))
   | exact ih0 _ _ _ _
   | exact ih1 _ _ _ _ _
   | exact quoinref26_Kinds.mono _
   | exact quoinref26_Text.mono _ _
   | exact LeO.none _
   | refine LeO.ite ?_ ?_
   | refine LeO.bind ?_ (fun _ => ?_)
def quoinref26_Terms.T6 : Bool × List (List Nat × List Nat) := (true, [([], []), ([], []), ([0, 1], [0, 1]), ([2], [2]), ([3], [3]), ([4], [4]), ([5], [5]), ([6], [6]), ([6], [6]), ([7, 8, 6], [6, 7, 8]), ([9, 6], [6, 9]), ([10, 6], [6, 10]), ([6, 6], [6]), ([12, 6], [6, 12]), ([13, 6], [6, 13]), ([11, 14, 6], [6, 11, 14]), ([6, 15], [6, 15])])
def quoinref26_Terms.B6 : List Nat := [0, 0, 3, 7, 15, 31, 63, 127, 127, 511, 1023, 2047, 127, 4223, 12415, 32767, 65535]
theorem quoinref26_Terms.tab6 : rtab .any (opsOf Try.f24 6) = quoinref26_Terms.T6 := by kernel_rfl
theorem quoinref26_Terms.bits6 : waitsOk quoinref26_Terms.T6.2 quoinref26_Terms.B6 = true := by kernel_rfl
set_option maxHeartbeats 8000000 in
set_option maxRecDepth 100000 in
theorem quoinref26_Terms.calls (k : Nat) (A0 : Option Addr) (c0 : Nat) (l0 : List (S36)) (r1 : List ByteArray) (r2 : Int) (w : World) (hr0 : Kd.C k36 w A0 l0.length l0) (hc0 : l0.length ≤ c0) (h : quoinref26_Terms.f k l0 = some (r1, r2)) :
  Calls Try.prog 24 #[.slice A0 l0.length c0] w fun e w' => ∃ v0_ : Value, e = .returned (.tuple #[v0_, .int .i64 r2]) ∧ Kd.R Kd.string 9 w' w.heap.size (fun _ => True) v0_ r1 ∧ Below w.heap.size w w' := by
 have HR0 := Aside0.mk hr0
 have HC0 := Aside0.mk hc0
 clear hr0 hc0
 have HB := Aside0.mk (Below.refl w.heap.size w)
 have H : (quoinref26_Terms.l0 k l0 (([(⟨#[105, 100, 101, 110, 116, 105, 102, 105, 101, 114]⟩ : ByteArray), (⟨#[105, 110, 116, 95, 108, 105, 116]⟩ : ByteArray), (⟨#[102, 108, 111, 97, 116, 95, 108, 105, 116]⟩ : ByteArray), (⟨#[105, 109, 97, 103, 105, 110, 97, 114, 121, 95, 108, 105, 116]⟩ : ByteArray), (⟨#[114, 117, 110, 101, 95, 108, 105, 116]⟩ : ByteArray), (⟨#[115, 116, 114, 105, 110, 103, 95, 108, 105, 116]⟩ : ByteArray)] : List ByteArray)) ([] : List ByteArray) 0) = some (r1, r2) := h
 clear h
 obtain ⟨y661, hy661⟩ : ∃ y_ : List ByteArray, y_ = (([(⟨#[105, 100, 101, 110, 116, 105, 102, 105, 101, 114]⟩ : ByteArray), (⟨#[105, 110, 116, 95, 108, 105, 116]⟩ : ByteArray), (⟨#[102, 108, 111, 97, 116, 95, 108, 105, 116]⟩ : ByteArray), (⟨#[105, 109, 97, 103, 105, 110, 97, 114, 121, 95, 108, 105, 116]⟩ : ByteArray), (⟨#[114, 117, 110, 101, 95, 108, 105, 116]⟩ : ByteArray), (⟨#[115, 116, 114, 105, 110, 103, 95, 108, 105, 116]⟩ : ByteArray)] : List ByteArray)) := ⟨_, rfl⟩
 replace H : (quoinref26_Terms.l0 k l0 y661 ([] : List ByteArray) 0) = some (r1, r2) := by first | (rw [hy661]; with_reducible exact H) | (have H2_ := (Option.bind_some _ _).symm.trans H; rw [hy661]; with_reducible exact H2_) | (have H2_ := (Option.bind_some _ _).symm.trans H; with_reducible exact H2_) | with_reducible exact H | (rw [hy661]; exact H) | exact H
 have Ny661 := Aside0.mk hy661
 clear hy661
 have H' := Aside0.mk H
 clear H
 go_enter Try.func24, Try.ntmps24
 go_wp2_with (first | ((with_reducible refine gate_dst (N := 9) rfl ?_); (try (refine gate_guard (by rfl) ?_; dsimp only)); refine Kd.R_lit Kd.string _ 9 ?hg (N := 9) ?hd (xs := ([(⟨#[105, 100, 101, 110, 116, 105, 102, 105, 101, 114]⟩ : ByteArray), (⟨#[105, 110, 116, 95, 108, 105, 116]⟩ : ByteArray), (⟨#[102, 108, 111, 97, 116, 95, 108, 105, 116]⟩ : ByteArray), (⟨#[105, 109, 97, 103, 105, 110, 97, 114, 121, 95, 108, 105, 116]⟩ : ByteArray), (⟨#[114, 117, 110, 101, 95, 108, 105, 116]⟩ : ByteArray), (⟨#[115, 116, 114, 105, 110, 103, 95, 108, 105, 116]⟩ : ByteArray)] : List ByteArray)) (inner := [.string (⟨#[105, 100, 101, 110, 116, 105, 102, 105, 101, 114]⟩ : ByteArray), .string (⟨#[105, 110, 116, 95, 108, 105, 116]⟩ : ByteArray), .string (⟨#[102, 108, 111, 97, 116, 95, 108, 105, 116]⟩ : ByteArray), .string (⟨#[105, 109, 97, 103, 105, 110, 97, 114, 121, 95, 108, 105, 116]⟩ : ByteArray), .string (⟨#[114, 117, 110, 101, 95, 108, 105, 116]⟩ : ByteArray), .string (⟨#[115, 116, 114, 105, 110, 103, 95, 108, 105, 116]⟩ : ByteArray)]) (ok := fun _ => True) (okp := fun _ => True) ?hr ?hp (fun _ hk => hk) trivial (Below.refl _ _) (Nat.le_refl _) (by simp) ?_; (case hd => rfl); (case hg => rfl); (case hr => first | (go_simp; done) | (go_simp; rfl)); (case hp => exact (Reps.one (show Kd.M Kd.string _ _ _ (⟨#[105, 100, 101, 110, 116, 105, 102, 105, 101, 114]⟩ : ByteArray) [.string (⟨#[105, 100, 101, 110, 116, 105, 102, 105, 101, 114]⟩ : ByteArray)] from rfl) (Reps.one (show Kd.M Kd.string _ _ _ (⟨#[105, 110, 116, 95, 108, 105, 116]⟩ : ByteArray) [.string (⟨#[105, 110, 116, 95, 108, 105, 116]⟩ : ByteArray)] from rfl) (Reps.one (show Kd.M Kd.string _ _ _ (⟨#[102, 108, 111, 97, 116, 95, 108, 105, 116]⟩ : ByteArray) [.string (⟨#[102, 108, 111, 97, 116, 95, 108, 105, 116]⟩ : ByteArray)] from rfl) (Reps.one (show Kd.M Kd.string _ _ _ (⟨#[105, 109, 97, 103, 105, 110, 97, 114, 121, 95, 108, 105, 116]⟩ : ByteArray) [.string (⟨#[105, 109, 97, 103, 105, 110, 97, 114, 121, 95, 108, 105, 116]⟩ : ByteArray)] from rfl) (Reps.one (show Kd.M Kd.string _ _ _ (⟨#[114, 117, 110, 101, 95, 108, 105, 116]⟩ : ByteArray) [.string (⟨#[114, 117, 110, 101, 95, 108, 105, 116]⟩ : ByteArray)] from rfl) (Reps.one (show Kd.M Kd.string _ _ _ (⟨#[115, 116, 114, 105, 110, 103, 95, 108, 105, 116]⟩ : ByteArray) [.string (⟨#[115, 116, 114, 105, 110, 103, 95, 108, 105, 116]⟩ : ByteArray)] from rfl) (Reps.none _ _)))))))); intro v662 w2 ho3 hb hg_ hnew_; clear hg_ hnew_; (first | rw [← Ny661.out] at ho3 | (simp only [Int.reduceToNat] at ho3; rw [← Ny661.out] at ho3)); have n0_ := Aside0.mk (Kd.R_lower ho3 (below_size (by repeat (first | (with_reducible first | exact HB.out | apply below_alloc | apply pw_below_drewN | apply below_drew1) | exact HB.out)))); have n1_ := Aside0.mk (below_step (by repeat (first | (with_reducible first | exact HB.out | apply below_alloc | apply pw_below_drewN | apply below_drew1) | exact HB.out)) hb); clear HB; have HO663 := n0_; have HB := n1_; clear n0_ n1_; clear hb ho3))
 go_loopg [5, 6] k (fun kq v5 v6 w' => ∃ (x5_1 : List ByteArray) (x6_1 : Int), v6 = .int .i64 x6_1 ∧ Aside0 (quoinref26_Terms.l0 kq l0 y661 x5_1 x6_1 = some (r1, r2)) ∧ Aside0 (kq ≤ k) ∧ Aside0 (Kd.R Kd.string 9 w' w.heap.size (fun k_ => some k_ ≠ (v5 : Value).ownBlock) v662 y661) ∧ Aside0 (Kd.R Kd.string 9 w' w.heap.size (fun k_ => some k_ ≠ (v662 : Value).ownBlock) v5 x5_1) ∧ Aside0 (Below w.heap.size w w'))
 case atStart => exact ⟨(([] : List ByteArray)), (0), (by first | rfl | (simp; done) | (simp [*]; done) | (simp <;> omega) | rw [u32_tmod]), H', ⟨Nat.le_refl _⟩, ⟨by (with_reducible repeat (first | apply Kd.R_alloc | apply Kd.R_drewN | apply Kd.R_drew)); exact Kd.R_mono HO663.out (fun _ hk => (by simp [Value.ownBlock]))⟩, ⟨by first | exact Kd.R_nil _ _ _ _ _ | exact Kd.N_nil _ _ _ _ _ | exact Kd.V_nil _ _ _ _ _ | exact Kd.Q_nil _ _ _ _ _ | exact Kd.S_nil _ _ _ _ _⟩, ⟨by repeat (first | (with_reducible first | exact HB.out | apply below_alloc | apply pw_below_drewN | apply below_drew1) | exact HB.out)⟩⟩
 case round =>
  clear H'
  try clear c2
  try clear p2
  obtain ⟨x5_1, x6_1, rfl, HA, HK1, HO_4, HO_5, HB⟩ := hrel
  cases gk with
  | zero => exact absurd HA.out (by simp [quoinref26_Terms.l0])
  | succ k1 =>
   have H := HA.out
   clear HA
   simp only [quoinref26_Terms.l0] at H
   by_cases c4 : x6_1 < (l0.length : Int)
   ·rw [if_pos c4] at H
    have c4b0 : decide (x6_1 < (l0.length : Int)) = true := decide_eq_true c4
    clear c4
    have HC5 := Aside0.mk H
    clear H
    go_upto_region 6 with (fail)
    go_cut [32] (fun v32 wc => ∃ (kq : Nat) (x32_4 : Bool), v32 = .bool x32_4 ∧ Aside0 (quoinref26_Terms.j1 kq l0 y661 x5_1 x6_1 x32_4 = some (r1, r2)) ∧ Aside0 (kq ≤ k1) ∧ Aside0 (Kd.R Kd.string 9 wc w.heap.size (fun k_ => some k_ ≠ (u5 : Value).ownBlock) v662 y661) ∧ Aside0 (Kd.R Kd.string 9 wc w.heap.size (fun k_ => some k_ ≠ (v662 : Value).ownBlock) u5 x5_1) ∧ Aside0 (Below w.heap.size w wc))
    case first =>
     have H := HC5.out
     clear HC5
     by_cases c6 : 0 ≤ x6_1
     ·rw [if_pos c6] at H
      have c6b0 : decide (0 ≤ x6_1) = true := decide_eq_true c6
      clear c6
      (first | rw [c6b0] | (simp only [i64_w, i32_w]; rw [c6b0]) | skip)
      by_cases c7 : ((rd_T36 l0 x6_1).f0) < 2
      ·rw [if_pos c7] at H
       have c7b0 : decide (((rd_T36 l0 x6_1).f0) < 2) = true := decide_eq_true c7
       clear c7
       have H' := Aside0.mk H
       clear H
       try go_wp2
       have n0_ := Aside0.mk (Kd.R_drew HO_4.out)
       have n1_ := Aside0.mk (Kd.R_drew HO_5.out)
       have n2_ := Aside0.mk (below_drew1 HB.out)
       clear HO_4
       clear HO_5
       clear HB
       have HO_4 := n0_
       have HO_5 := n1_
       have HB := n2_
       clear n0_ n1_ n2_
       have p664 : 0 ≤ (x6_1 : Int) := of_decide_eq_true (by first | (with_reducible assumption) | assumption)
       have q664 : x6_1 < (l0.length : Int) := of_decide_eq_true (by first | (with_reducible assumption) | assumption)
       obtain ⟨ad664, e664, hx664_0, hx664_1, hx664_2⟩ := at_T36 HR0.out x6_1 p664 q664
       have hw664_2 := hx664_2
       have hw664_1 := hx664_1
       have hw664_0 := hx664_0
       cases e664
       replace hx664_0 := (HB.out.cell (World.block_lt_of_cell? w _ hx664_0)).trans hx664_0
       replace hx664_1 := (HB.out.cell (World.block_lt_of_cell? w _ hx664_1)).trans hx664_1
       replace hx664_2 := (HB.out.cell (World.block_lt_of_cell? w _ hx664_2)).trans hx664_2
       replace p664 := eq_true p664
       replace q664 := eq_true q664
       refine start_ (n := 17) (S := fun w' => w'.cell? (ad664.add ((x6_1).toNat * 3)) = some (.int .i64 ((rd_T36 l0 x6_1).f0)) ∧ w'.cell? ⟨(ad664.add ((x6_1).toNat * 3)).block, (ad664.add ((x6_1).toNat * 3)).off + 1, none⟩ = some (.int .i64 ((rd_T36 l0 x6_1).f1)) ∧ w'.cell? ⟨(ad664.add ((x6_1).toNat * 3)).block, (ad664.add ((x6_1).toNat * 3)).off + 2, none⟩ = some (.int .i64 ((rd_T36 l0 x6_1).f2))) (ds := []) #[false, false, false, false, false, false, false, false, false, false, false, false, false, false, false, false, false] (by kernel_rfl) rfl rfl ⟨((HB.out.cell (World.block_lt_of_cell? w _ hw664_0)).trans hw664_0), ((HB.out.cell (World.block_lt_of_cell? w _ hw664_1)).trans hw664_1), ((HB.out.cell (World.block_lt_of_cell? w _ hw664_2)).trans hw664_2)⟩ (fun hHeld => ?_); refine with_tabW quoinref26_Terms.tab6 quoinref26_Terms.bits6 (fun HT_ HW_ => ?_)
       generalize wr.drew = w8 at HO_4 HO_5 HB hx664_0 hx664_1 hx664_2 hHeld ⊢
       refine pure_ (i := 0) (N := some 16) (v := ?_) (a' := ?_) #[true, false, false, false, false, false, false, false, false, false, false, false, false, false, false, false, false] rfl rfl (any_of HT_.out (by kernel_rfl)) (fun _ _ _ h => h) (Or.inl ⟨by rfl, ?_⟩) ?_ ?_
       rotate_left
       ·intro w'
        go_simp
        with_reducible rfl
       rotate_left
       ·simp only [Act.put, List.setIfInBounds_toArray, List.set_cons_zero, List.set_cons_succ, i64_w, i32_w]
        rfl
       refine pure_ (i := 1) (N := some 17) (v := ?_) (a' := ?_) #[true, true, false, false, false, false, false, false, false, false, false, false, false, false, false, false, false] rfl rfl (any_of HT_.out (by kernel_rfl)) (fun _ _ _ h => h) (Or.inl ⟨by rfl, ?_⟩) ?_ ?_
       rotate_left
       ·intro w'
        go_simp
        with_reducible rfl
       rotate_left
       ·simp only [Act.put, List.setIfInBounds_toArray, List.set_cons_zero, List.set_cons_succ, i64_w, i32_w]
        rfl
       refine pure_ (i := 2) (N := some 18) (v := ?_) (a' := ?_) #[true, true, true, false, false, false, false, false, false, false, false, false, false, false, false, false, false] rfl rfl (any_of HT_.out (by kernel_rfl)) (fun _ _ _ h => h) (Or.inl ⟨by rfl, ?_⟩) ?_ ?_
       rotate_left
       ·intro w'
        go_simp
        with_reducible rfl
       rotate_left
       ·simp only [Act.put, List.setIfInBounds_toArray, List.set_cons_zero, List.set_cons_succ, i64_w, i32_w]
        rfl
       refine pure_ (i := 3) (N := some 19) (v := ?_) (a' := ?_) #[true, true, true, true, false, false, false, false, false, false, false, false, false, false, false, false, false] rfl rfl (any_of HT_.out (by kernel_rfl)) (fun _ _ _ h => h) (Or.inl ⟨by rfl, ?_⟩) ?_ ?_
       rotate_left
       ·intro w'
        go_simp
        with_reducible rfl
       rotate_left
       ·simp only [Act.put, List.setIfInBounds_toArray, List.set_cons_zero, List.set_cons_succ, i64_w, i32_w]
        rfl
       refine take_ (i := 4) (N := some 20) (v := ?_) (a' := ?_) #[true, true, true, true, true, false, false, false, false, false, false, false, false, false, false, false, false] rfl rfl (take_ofW HT_.out HW_.out (by kernel_rfl)) (fun _ _ _ h => h) (Or.inl ⟨by rfl, ?_⟩) hHeld ?_ ?_
       rotate_left
       ·rintro w' ⟨s0, s1, s2⟩
        go_simp
        with_reducible rfl
       rotate_left
       ·simp only [Act.put, List.setIfInBounds_toArray, List.set_cons_zero, List.set_cons_succ, i64_w, i32_w]
        rfl
       refine pure_ (i := 5) (N := some 21) (v := ?_) (a' := ?_) #[true, true, true, true, true, true, false, false, false, false, false, false, false, false, false, false, false] rfl rfl (any_of HT_.out (by kernel_rfl)) (fun _ _ _ h => h) (Or.inl ⟨by rfl, ?_⟩) ?_ ?_
       rotate_left
       ·intro w'
        go_simp
        with_reducible rfl
       rotate_left
       ·simp only [Act.put, List.setIfInBounds_toArray, List.set_cons_zero, List.set_cons_succ, i64_w, i32_w]
        rfl
       refine pure_ (i := 6) (N := some 22) (v := ?_) (a' := ?_) #[true, true, true, true, true, true, true, false, false, false, false, false, false, false, false, false, false] rfl rfl (any_of HT_.out (by kernel_rfl)) (fun _ _ _ h => h) (Or.inl ⟨by rfl, ?_⟩) ?_ ?_
       rotate_left
       ·intro w'
        go_simp
        with_reducible rfl
       rotate_left
       ·simp only [Act.put, List.setIfInBounds_toArray, List.set_cons_zero, List.set_cons_succ, i64_w, i32_w]
        rfl
       refine pure_ (i := 7) (N := some 23) (v := undef) (a' := ?_) #[true, true, true, true, true, true, true, true, false, false, false, false, false, false, false, false, false] rfl rfl (any_of HT_.out (by kernel_rfl)) (fun _ _ _ h => h) (Or.inr ⟨by rfl, rfl⟩) ?_ ?_
       rotate_left
       ·simp only [Act.put, List.setIfInBounds_toArray, List.set_cons_zero, List.set_cons_succ, i64_w, i32_w]
        rfl
       refine pure_ (i := 8) (N := some 24) (v := undef) (a' := ?_) #[true, true, true, true, true, true, true, true, true, false, false, false, false, false, false, false, false] rfl rfl (any_of HT_.out (by kernel_rfl)) (fun _ _ _ h => h) (Or.inr ⟨by rfl, rfl⟩) ?_ ?_
       rotate_left
       ·simp only [Act.put, List.setIfInBounds_toArray, List.set_cons_zero, List.set_cons_succ, i64_w, i32_w]
        rfl
       refine pure_ (i := 9) (N := some 25) (v := undef) (a' := ?_) #[true, true, true, true, true, true, true, true, true, true, false, false, false, false, false, false, false] rfl rfl (any_of HT_.out (by kernel_rfl)) (fun _ _ _ h => h) (Or.inr ⟨by rfl, rfl⟩) ?_ ?_
       rotate_left
       ·simp only [Act.put, List.setIfInBounds_toArray, List.set_cons_zero, List.set_cons_succ, i64_w, i32_w]
        rfl
       refine pure_ (i := 10) (N := some 26) (v := undef) (a' := ?_) #[true, true, true, true, true, true, true, true, true, true, true, false, false, false, false, false, false] rfl rfl (any_of HT_.out (by kernel_rfl)) (fun _ _ _ h => h) (Or.inr ⟨by rfl, rfl⟩) ?_ ?_
       rotate_left
       ·simp only [Act.put, List.setIfInBounds_toArray, List.set_cons_zero, List.set_cons_succ, i64_w, i32_w]
        rfl
       refine pure_ (i := 11) (N := some 27) (v := undef) (a' := ?_) #[true, true, true, true, true, true, true, true, true, true, true, true, false, false, false, false, false] rfl rfl (any_of HT_.out (by kernel_rfl)) (fun _ _ _ h => h) (Or.inr ⟨by rfl, rfl⟩) ?_ ?_
       rotate_left
       ·simp only [Act.put, List.setIfInBounds_toArray, List.set_cons_zero, List.set_cons_succ, i64_w, i32_w]
        rfl
       refine pure_ (i := 12) (N := some 28) (v := undef) (a' := ?_) #[true, true, true, true, true, true, true, true, true, true, true, true, true, false, false, false, false] rfl rfl (any_of HT_.out (by kernel_rfl)) (fun _ _ _ h => h) (Or.inr ⟨by rfl, rfl⟩) ?_ ?_
       rotate_left
       ·simp only [Act.put, List.setIfInBounds_toArray, List.set_cons_zero, List.set_cons_succ, i64_w, i32_w]
        rfl
       refine pure_ (i := 13) (N := some 29) (v := undef) (a' := ?_) #[true, true, true, true, true, true, true, true, true, true, true, true, true, true, false, false, false] rfl rfl (any_of HT_.out (by kernel_rfl)) (fun _ _ _ h => h) (Or.inr ⟨by rfl, rfl⟩) ?_ ?_
       rotate_left
       ·simp only [Act.put, List.setIfInBounds_toArray, List.set_cons_zero, List.set_cons_succ, i64_w, i32_w]
        rfl
       refine pure_ (i := 14) (N := some 30) (v := undef) (a' := ?_) #[true, true, true, true, true, true, true, true, true, true, true, true, true, true, true, false, false] rfl rfl (any_of HT_.out (by kernel_rfl)) (fun _ _ _ h => h) (Or.inr ⟨by rfl, rfl⟩) ?_ ?_
       rotate_left
       ·simp only [Act.put, List.setIfInBounds_toArray, List.set_cons_zero, List.set_cons_succ, i64_w, i32_w]
        rfl
       refine pure_ (i := 15) (N := some 31) (v := undef) (a' := ?_) #[true, true, true, true, true, true, true, true, true, true, true, true, true, true, true, true, false] rfl rfl (any_of HT_.out (by kernel_rfl)) (fun _ _ _ h => h) (Or.inr ⟨by rfl, rfl⟩) ?_ ?_
       rotate_left
       ·simp only [Act.put, List.setIfInBounds_toArray, List.set_cons_zero, List.set_cons_succ, i64_w, i32_w]
        rfl
       refine pure_ (i := 16) (N := some 32) (v := ?_) (a' := ?_) #[true, true, true, true, true, true, true, true, true, true, true, true, true, true, true, true, true] rfl rfl (any_of HT_.out (by kernel_rfl)) (fun _ _ _ h => h) (Or.inl ⟨by rfl, ?_⟩) ?_ ?_
       rotate_left
       ·intro w'
        go_simp
        with_reducible rfl
       rotate_left
       ·simp only [Act.put, List.setIfInBounds_toArray, List.set_cons_zero, List.set_cons_succ, i64_w, i32_w]
        rfl
       refine done_ (done_of HT_.out (by kernel_rfl)) ?_
       try go_wp2
       go_meet
       case rel => exact ⟨_, (true), (by first | rfl | (simp; done) | (simp [*]; done) | (simp <;> omega) | rw [u32_tmod]), H', ⟨by have := HK1.out; first | omega | exact Nat.le_refl _⟩, ⟨by (with_reducible repeat (first | apply Kd.R_alloc | apply Kd.R_drewN | apply Kd.R_drew)); exact HO_4.out⟩, ⟨by (with_reducible repeat (first | apply Kd.R_alloc | apply Kd.R_drewN | apply Kd.R_drew)); exact HO_5.out⟩, ⟨by repeat (first | (with_reducible first | exact HB.out | apply below_alloc | apply pw_below_drewN | apply below_drew1) | exact HB.out)⟩⟩
      ·rw [if_neg c7] at H
       have c7b0 : decide (((rd_T36 l0 x6_1).f0) < 2) = false := decide_eq_false c7
       clear c7
       replace H := Option.bind_eq_some_iff.mp H
       obtain ⟨t666, A90, H⟩ := H
       replace H : (quoinref26_Terms.j1 k1 l0 y661 x5_1 x6_1 (decide (((rd_T36 l0 x6_1).f0) ≥ (wrap64 ((t666.length : Int) - 3))))) = some (r1, r2) := H
       have A9 := Aside0.mk A90
       clear A90
       have H' := Aside0.mk H
       clear H
       try go_wp2
       have n0_ := Aside0.mk (Kd.R_drew HO_4.out)
       have n1_ := Aside0.mk (Kd.R_drew HO_5.out)
       have n2_ := Aside0.mk (below_drew1 HB.out)
       clear HO_4
       clear HO_5
       clear HB
       have HO_4 := n0_
       have HO_5 := n1_
       have HB := n2_
       clear n0_ n1_ n2_
       have p664 : 0 ≤ (x6_1 : Int) := of_decide_eq_true (by first | (with_reducible assumption) | assumption)
       have q664 : x6_1 < (l0.length : Int) := of_decide_eq_true (by first | (with_reducible assumption) | assumption)
       obtain ⟨ad664, e664, hx664_0, hx664_1, hx664_2⟩ := at_T36 HR0.out x6_1 p664 q664
       have hw664_2 := hx664_2
       have hw664_1 := hx664_1
       have hw664_0 := hx664_0
       cases e664
       replace hx664_0 := (HB.out.cell (World.block_lt_of_cell? w _ hx664_0)).trans hx664_0
       replace hx664_1 := (HB.out.cell (World.block_lt_of_cell? w _ hx664_1)).trans hx664_1
       replace hx664_2 := (HB.out.cell (World.block_lt_of_cell? w _ hx664_2)).trans hx664_2
       replace p664 := eq_true p664
       replace q664 := eq_true q664
       have p665 : 0 ≤ (x6_1 : Int) := of_decide_eq_true (by first | (with_reducible assumption) | assumption)
       have q665 : x6_1 < (l0.length : Int) := of_decide_eq_true (by first | (with_reducible assumption) | assumption)
       obtain ⟨ad665, e665, hx665_0, hx665_1, hx665_2⟩ := at_T36 HR0.out x6_1 p665 q665
       have hw665_2 := hx665_2
       have hw665_1 := hx665_1
       have hw665_0 := hx665_0
       obtain rfl : ad664 = ad665 := (by injection e665)
       replace hx665_0 := (HB.out.cell (World.block_lt_of_cell? w _ hx665_0)).trans hx665_0
       replace hx665_1 := (HB.out.cell (World.block_lt_of_cell? w _ hx665_1)).trans hx665_1
       replace hx665_2 := (HB.out.cell (World.block_lt_of_cell? w _ hx665_2)).trans hx665_2
       replace p665 := eq_true p665
       replace q665 := eq_true q665
       refine start_ (n := 17) (S := fun w' => w'.cell? (ad664.add ((x6_1).toNat * 3)) = some (.int .i64 ((rd_T36 l0 x6_1).f0)) ∧ w'.cell? ⟨(ad664.add ((x6_1).toNat * 3)).block, (ad664.add ((x6_1).toNat * 3)).off + 1, none⟩ = some (.int .i64 ((rd_T36 l0 x6_1).f1)) ∧ w'.cell? ⟨(ad664.add ((x6_1).toNat * 3)).block, (ad664.add ((x6_1).toNat * 3)).off + 2, none⟩ = some (.int .i64 ((rd_T36 l0 x6_1).f2)) ∧ w'.cell? (ad664.add ((x6_1).toNat * 3)) = some (.int .i64 ((rd_T36 l0 x6_1).f0)) ∧ w'.cell? ⟨(ad664.add ((x6_1).toNat * 3)).block, (ad664.add ((x6_1).toNat * 3)).off + 1, none⟩ = some (.int .i64 ((rd_T36 l0 x6_1).f1)) ∧ w'.cell? ⟨(ad664.add ((x6_1).toNat * 3)).block, (ad664.add ((x6_1).toNat * 3)).off + 2, none⟩ = some (.int .i64 ((rd_T36 l0 x6_1).f2))) (ds := []) #[false, false, false, false, false, false, false, false, false, false, false, false, false, false, false, false, false] (by kernel_rfl) rfl rfl ⟨((HB.out.cell (World.block_lt_of_cell? w _ hw664_0)).trans hw664_0), ((HB.out.cell (World.block_lt_of_cell? w _ hw664_1)).trans hw664_1), ((HB.out.cell (World.block_lt_of_cell? w _ hw664_2)).trans hw664_2), ((HB.out.cell (World.block_lt_of_cell? w _ hw665_0)).trans hw665_0), ((HB.out.cell (World.block_lt_of_cell? w _ hw665_1)).trans hw665_1), ((HB.out.cell (World.block_lt_of_cell? w _ hw665_2)).trans hw665_2)⟩ (fun hHeld => ?_); refine with_tabW quoinref26_Terms.tab6 quoinref26_Terms.bits6 (fun HT_ HW_ => ?_)
       generalize wr.drew = w10 at HO_4 HO_5 HB hx664_0 hx664_1 hx664_2 hx665_0 hx665_1 hx665_2 hHeld ⊢
       refine pure_ (i := 0) (N := some 16) (v := ?_) (a' := ?_) #[true, false, false, false, false, false, false, false, false, false, false, false, false, false, false, false, false] rfl rfl (any_of HT_.out (by kernel_rfl)) (fun _ _ _ h => h) (Or.inl ⟨by rfl, ?_⟩) ?_ ?_
       rotate_left
       ·intro w'
        go_simp
        with_reducible rfl
       rotate_left
       ·simp only [Act.put, List.setIfInBounds_toArray, List.set_cons_zero, List.set_cons_succ, i64_w, i32_w]
        rfl
       refine pure_ (i := 1) (N := some 17) (v := ?_) (a' := ?_) #[true, true, false, false, false, false, false, false, false, false, false, false, false, false, false, false, false] rfl rfl (any_of HT_.out (by kernel_rfl)) (fun _ _ _ h => h) (Or.inl ⟨by rfl, ?_⟩) ?_ ?_
       rotate_left
       ·intro w'
        go_simp
        with_reducible rfl
       rotate_left
       ·simp only [Act.put, List.setIfInBounds_toArray, List.set_cons_zero, List.set_cons_succ, i64_w, i32_w]
        rfl
       refine pure_ (i := 2) (N := some 18) (v := ?_) (a' := ?_) #[true, true, true, false, false, false, false, false, false, false, false, false, false, false, false, false, false] rfl rfl (any_of HT_.out (by kernel_rfl)) (fun _ _ _ h => h) (Or.inl ⟨by rfl, ?_⟩) ?_ ?_
       rotate_left
       ·intro w'
        go_simp
        with_reducible rfl
       rotate_left
       ·simp only [Act.put, List.setIfInBounds_toArray, List.set_cons_zero, List.set_cons_succ, i64_w, i32_w]
        rfl
       refine pure_ (i := 3) (N := some 19) (v := ?_) (a' := ?_) #[true, true, true, true, false, false, false, false, false, false, false, false, false, false, false, false, false] rfl rfl (any_of HT_.out (by kernel_rfl)) (fun _ _ _ h => h) (Or.inl ⟨by rfl, ?_⟩) ?_ ?_
       rotate_left
       ·intro w'
        go_simp
        with_reducible rfl
       rotate_left
       ·simp only [Act.put, List.setIfInBounds_toArray, List.set_cons_zero, List.set_cons_succ, i64_w, i32_w]
        rfl
       refine take_ (i := 4) (N := some 20) (v := ?_) (a' := ?_) #[true, true, true, true, true, false, false, false, false, false, false, false, false, false, false, false, false] rfl rfl (take_ofW HT_.out HW_.out (by kernel_rfl)) (fun _ _ _ h => h) (Or.inl ⟨by rfl, ?_⟩) hHeld ?_ ?_
       rotate_left
       ·rintro w' ⟨s0, s1, s2, s3, s4, s5⟩
        go_simp
        with_reducible rfl
       rotate_left
       ·simp only [Act.put, List.setIfInBounds_toArray, List.set_cons_zero, List.set_cons_succ, i64_w, i32_w]
        rfl
       refine pure_ (i := 5) (N := some 21) (v := ?_) (a' := ?_) #[true, true, true, true, true, true, false, false, false, false, false, false, false, false, false, false, false] rfl rfl (any_of HT_.out (by kernel_rfl)) (fun _ _ _ h => h) (Or.inl ⟨by rfl, ?_⟩) ?_ ?_
       rotate_left
       ·intro w'
        go_simp
        with_reducible rfl
       rotate_left
       ·simp only [Act.put, List.setIfInBounds_toArray, List.set_cons_zero, List.set_cons_succ, i64_w, i32_w]
        rfl
       refine pure_ (i := 6) (N := some 22) (v := ?_) (a' := ?_) #[true, true, true, true, true, true, true, false, false, false, false, false, false, false, false, false, false] rfl rfl (any_of HT_.out (by kernel_rfl)) (fun _ _ _ h => h) (Or.inl ⟨by rfl, ?_⟩) ?_ ?_
       rotate_left
       ·intro w'
        go_simp
        with_reducible rfl
       rotate_left
       ·simp only [Act.put, List.setIfInBounds_toArray, List.set_cons_zero, List.set_cons_succ, i64_w, i32_w]
        rfl
       refine pure_ (i := 7) (N := some 23) (v := ?_) (a' := ?_) #[true, true, true, true, true, true, true, true, false, false, false, false, false, false, false, false, false] rfl rfl (any_of HT_.out (by kernel_rfl)) (fun _ _ _ h => h) (Or.inl ⟨by rfl, ?_⟩) ?_ ?_
       rotate_left
       ·intro w'
        go_simp
        with_reducible rfl
       rotate_left
       ·simp only [Act.put, List.setIfInBounds_toArray, List.set_cons_zero, List.set_cons_succ, i64_w, i32_w]
        rfl
       refine pure_ (i := 8) (N := some 24) (v := ?_) (a' := ?_) #[true, true, true, true, true, true, true, true, true, false, false, false, false, false, false, false, false] rfl rfl (any_of HT_.out (by kernel_rfl)) (fun _ _ _ h => h) (Or.inl ⟨by rfl, ?_⟩) ?_ ?_
       rotate_left
       ·intro w'
        go_simp
        with_reducible rfl
       rotate_left
       ·simp only [Act.put, List.setIfInBounds_toArray, List.set_cons_zero, List.set_cons_succ, i64_w, i32_w]
        rfl
       refine pure_ (i := 9) (N := some 25) (v := ?_) (a' := ?_) #[true, true, true, true, true, true, true, true, true, true, false, false, false, false, false, false, false] rfl rfl (any_of HT_.out (by kernel_rfl)) (fun _ _ _ h => h) (Or.inl ⟨by rfl, ?_⟩) ?_ ?_
       rotate_left
       ·intro w'
        go_simp
        with_reducible rfl
       rotate_left
       ·simp only [Act.put, List.setIfInBounds_toArray, List.set_cons_zero, List.set_cons_succ, i64_w, i32_w]
        rfl
       refine pure_ (i := 10) (N := some 26) (v := ?_) (a' := ?_) #[true, true, true, true, true, true, true, true, true, true, true, false, false, false, false, false, false] rfl rfl (any_of HT_.out (by kernel_rfl)) (fun _ _ _ h => h) (Or.inl ⟨by rfl, ?_⟩) ?_ ?_
       rotate_left
       ·intro w'
        go_simp
        with_reducible rfl
       rotate_left
       ·simp only [Act.put, List.setIfInBounds_toArray, List.set_cons_zero, List.set_cons_succ, i64_w, i32_w]
        rfl
       refine take_ (i := 11) (N := some 27) (v := ?_) (a' := ?_) #[true, true, true, true, true, true, true, true, true, true, true, true, false, false, false, false, false] rfl rfl (take_ofW HT_.out HW_.out (by kernel_rfl)) (fun _ _ _ h => h) (Or.inl ⟨by rfl, ?_⟩) hHeld ?_ ?_
       rotate_left
       ·rintro w' ⟨s0, s1, s2, s3, s4, s5⟩
        go_simp
        with_reducible rfl
       rotate_left
       ·simp only [Act.put, List.setIfInBounds_toArray, List.set_cons_zero, List.set_cons_succ, i64_w, i32_w]
        rfl
       refine one_ (i := 12) (N := some 28) #[true, true, true, true, true, true, true, true, true, true, true, true, true, false, false, false, false] rfl rfl (one_of HT_.out (by kernel_rfl)) (by decide) (fun K hK => ?_)
       refine goes_ Try.func18 (by kernel_rfl) rfl #[] (by rfl) rfl rfl (by (try simp only [List.map_toArray, List.map_cons, List.map_nil]); first | done | rfl | (simp only [List.length_drop, List.length_take]; rfl)) ?_
       with_reducible refine (quoinref26_Kinds.calls k1  t666 _ A9.out).mono ?_
       rintro e w11 ⟨v667, rfl, ho0, hb⟩
       refine ⟨_, rfl, ?_⟩
       have n0_ := Aside0.mk (Kd.R_elder' (by (with_reducible repeat (first | apply Kd.R_alloc | apply Kd.R_drewN | apply Kd.R_drew)); exact HO_4.out) (Kd.R_base ho0) hb)
       have n1_ := Aside0.mk (Kd.R_elder' (by (with_reducible repeat (first | apply Kd.R_alloc | apply Kd.R_drewN | apply Kd.R_drew)); exact HO_5.out) (Kd.R_base ho0) hb)
       have n2_ := Aside0.mk (Kd.R_lower (Kd.R_new' (Kd.R_new' ho0 (Kd.R_lt (by (with_reducible repeat (first | apply Kd.R_alloc | apply Kd.R_drewN | apply Kd.R_drew)); exact HO_4.out))) (Kd.R_lt (by (with_reducible repeat (first | apply Kd.R_alloc | apply Kd.R_drewN | apply Kd.R_drew)); exact HO_5.out))) (below_size (by repeat (first | (with_reducible first | exact HB.out | apply below_alloc | apply pw_below_drewN | apply below_drew1) | exact HB.out))))
       have n3_ := Aside0.mk (below_step (by repeat (first | (with_reducible first | exact HB.out | apply below_alloc | apply pw_below_drewN | apply below_drew1) | exact HB.out)) hb)
       clear HO_4
       clear HO_5
       clear HB
       have HO_4 := n0_
       have HO_5 := n1_
       have HO668 := n2_
       have HB := n3_
       clear n0_ n1_ n2_ n3_
       (try clear hb)
       (try clear hb2)
       (try clear hk)
       (try clear hi)
       (try clear ho0)
       obtain ⟨Ao12, co12, eo12⟩ := Kd.R_slice HO668.out
       (first | subst eo12 | (injection eo12 with f1_ f2_ f3_; have f4_ := f1_.symm; have f5_ := f3_.symm; clear f1_ f2_ f3_; subst f4_; subst f5_))
       refine hK.out _ _ ⟨((HB.out.cell (World.block_lt_of_cell? w _ hw664_0)).trans hw664_0), ((HB.out.cell (World.block_lt_of_cell? w _ hw664_1)).trans hw664_1), ((HB.out.cell (World.block_lt_of_cell? w _ hw664_2)).trans hw664_2), ((HB.out.cell (World.block_lt_of_cell? w _ hw665_0)).trans hw665_0), ((HB.out.cell (World.block_lt_of_cell? w _ hw665_1)).trans hw665_1), ((HB.out.cell (World.block_lt_of_cell? w _ hw665_2)).trans hw665_2)⟩ (fun hHeld => ?_)
       clear hK K
       refine norm_ (a' := ?_) ?_ ?_
       rotate_left
       ·show Act.put _ (some 28) _ = _
        simp only [Act.put, List.setIfInBounds_toArray, List.set_cons_zero, List.set_cons_succ, i64_w, i32_w]
        rfl
       refine pure_ (i := 13) (N := some 29) (v := ?_) (a' := ?_) #[true, true, true, true, true, true, true, true, true, true, true, true, true, true, false, false, false] rfl rfl (any_of HT_.out (by kernel_rfl)) (fun _ _ _ h => h) (Or.inl ⟨by rfl, ?_⟩) ?_ ?_
       rotate_left
       ·intro w'
        go_simp
        with_reducible rfl
       rotate_left
       ·simp only [Act.put, List.setIfInBounds_toArray, List.set_cons_zero, List.set_cons_succ, i64_w, i32_w]
        rfl
       refine pure_ (i := 14) (N := some 30) (v := ?_) (a' := ?_) #[true, true, true, true, true, true, true, true, true, true, true, true, true, true, true, false, false] rfl rfl (any_of HT_.out (by kernel_rfl)) (fun _ _ _ h => h) (Or.inl ⟨by rfl, ?_⟩) ?_ ?_
       rotate_left
       ·intro w'
        go_simp
        with_reducible rfl
       rotate_left
       ·simp only [Act.put, List.setIfInBounds_toArray, List.set_cons_zero, List.set_cons_succ, i64_w, i32_w]
        rfl
       refine pure_ (i := 15) (N := some 31) (v := ?_) (a' := ?_) #[true, true, true, true, true, true, true, true, true, true, true, true, true, true, true, true, false] rfl rfl (any_of HT_.out (by kernel_rfl)) (fun _ _ _ h => h) (Or.inl ⟨by rfl, ?_⟩) ?_ ?_
       rotate_left
       ·intro w'
        go_simp
        with_reducible rfl
       rotate_left
       ·simp only [Act.put, List.setIfInBounds_toArray, List.set_cons_zero, List.set_cons_succ, i64_w, i32_w]
        rfl
       refine pure_ (i := 16) (N := some 32) (v := ?_) (a' := ?_) #[true, true, true, true, true, true, true, true, true, true, true, true, true, true, true, true, true] rfl rfl (any_of HT_.out (by kernel_rfl)) (fun _ _ _ h => h) (Or.inl ⟨by rfl, ?_⟩) ?_ ?_
       rotate_left
       ·intro w'
        go_simp
        with_reducible rfl
       rotate_left
       ·simp only [Act.put, List.setIfInBounds_toArray, List.set_cons_zero, List.set_cons_succ, i64_w, i32_w]
        rfl
       refine done_ (done_of HT_.out (by kernel_rfl)) ?_
       try go_wp2
       go_meet
       case rel => exact ⟨_, (decide (((rd_T36 l0 x6_1).f0) ≥ (wrap64 ((t666.length : Int) - 3)))), (by first | rfl | (simp; done) | (simp [*]; done) | (simp <;> omega) | rw [u32_tmod]), H', ⟨by have := HK1.out; first | omega | exact Nat.le_refl _⟩, ⟨by (with_reducible repeat (first | apply Kd.R_alloc | apply Kd.R_drewN | apply Kd.R_drew)); exact Kd.R_mono HO_4.out (fun _ hk => hk.1)⟩, ⟨by (with_reducible repeat (first | apply Kd.R_alloc | apply Kd.R_drewN | apply Kd.R_drew)); exact Kd.R_mono HO_5.out (fun _ hk => hk.1)⟩, ⟨by repeat (first | (with_reducible first | exact HB.out | apply below_alloc | apply pw_below_drewN | apply below_drew1) | exact HB.out)⟩⟩
     ·rw [if_neg c6] at H
      exact absurd H (by simp)
    case rest =>
     clear HC5
     try clear c1
     try clear c2
     try clear p2
     try clear c4
     try clear c4b0
     try clear c6
     try clear c6b0
     try clear p6
     try clear q6
     try clear hx6
     try clear c7
     try clear c7b0
     try clear hx664_0
     try clear hx664_1
     try clear hx664_2
     try clear hx665_0
     try clear hx665_1
     try clear hx665_2
     try clear p2
     try clear p664
     try clear p665
     try clear q664
     try clear q665
     obtain ⟨kq, x32_4, rfl, HA, HJ4, HO_4, HO_5, HB⟩ := hcut
     cases kq with
     | zero => exact absurd HA.out (by simp [quoinref26_Terms.j1])
     | succ kj4 =>
      have H := HA.out
      clear HA
      simp only [quoinref26_Terms.j1] at H
      by_cases c13 : x32_4 = true
      ·subst c13
       have H1 : (some (([] : List ByteArray), 1)) = some (r1, r2) := by rw [if_pos rfl] at H; exact H
       clear H
       have H := H1
       clear H1
       simp only [Option.some.injEq, Prod.mk.injEq] at H
       obtain ⟨rfl, rfl⟩ := H
       go_wp2
       go_ret2
       exact ⟨_, by first | rfl | (simp [errW_none, errW_some] <;> rfl) | (simp [*, errW_none, errW_some] <;> rfl), by first | exact Kd.R_nil _ _ _ _ _ | exact Kd.N_nil _ _ _ _ _ | exact Kd.V_nil _ _ _ _ _ | exact Kd.Q_nil _ _ _ _ _ | exact Kd.S_nil _ _ _ _ _, by repeat (first | (with_reducible first | exact HB.out | apply below_alloc | apply pw_below_drewN | apply below_drew1) | exact HB.out)⟩
      ·replace c13 := Bool.eq_false_iff.mpr c13
       subst c13
       have H1 : (if 0 ≤ x6_1 then (if x6_1 < (l0.length : Int) then ((quoinref26_Text.f kj4 ((rd_T36 l0 x6_1).f0)).bind fun bt670 => (if bt670.2 = true then (if x5_1.length < 8796093022208 then (quoinref26_Terms.l0 kj4 l0 y661 (x5_1 ++ [bt670.1]) (wrap64 (x6_1 + 1))) else (none)) else (if 0 ≤ (wrap64 (((rd_T36 l0 x6_1).f0) - 2)) then (if (wrap64 (((rd_T36 l0 x6_1).f0) - 2)) < (y661.length : Int) then (if x5_1.length < 8796093022208 then (quoinref26_Terms.l0 kj4 l0 y661 (x5_1 ++ [rdOf ByteArray.empty y661 (wrap64 (((rd_T36 l0 x6_1).f0) - 2))]) (wrap64 (x6_1 + 1))) else (none)) else (none)) else (none)))) else (none)) else (none)) = some (r1, r2) := by rw [if_neg (show ¬ (false = true) by decide)] at H; exact H
       clear H
       have H := H1
       clear H1
       by_cases c14 : 0 ≤ x6_1
       ·rw [if_pos c14] at H
        have c14b0 : decide (0 ≤ x6_1) = true := decide_eq_true c14
        clear c14
        by_cases c15 : x6_1 < (l0.length : Int)
        ·rw [if_pos c15] at H
         have c15b0 : decide (x6_1 < (l0.length : Int)) = true := decide_eq_true c15
         clear c15
         replace H := Option.bind_eq_some_iff.mp H
         obtain ⟨⟨t670, t671⟩, A160, H⟩ := H
         replace H : (if t671 = true then (if x5_1.length < 8796093022208 then (quoinref26_Terms.l0 kj4 l0 y661 (x5_1 ++ [t670]) (wrap64 (x6_1 + 1))) else (none)) else (if 0 ≤ (wrap64 (((rd_T36 l0 x6_1).f0) - 2)) then (if (wrap64 (((rd_T36 l0 x6_1).f0) - 2)) < (y661.length : Int) then (if x5_1.length < 8796093022208 then (quoinref26_Terms.l0 kj4 l0 y661 (x5_1 ++ [rdOf ByteArray.empty y661 (wrap64 (((rd_T36 l0 x6_1).f0) - 2))]) (wrap64 (x6_1 + 1))) else (none)) else (none)) else (none))) = some (r1, r2) := H
         have A16 := Aside0.mk A160
         clear A160
         by_cases c17 : t671 = true
         ·subst c17
          have H1 : (if x5_1.length < 8796093022208 then (quoinref26_Terms.l0 kj4 l0 y661 (x5_1 ++ [t670]) (wrap64 (x6_1 + 1))) else (none)) = some (r1, r2) := by rw [if_pos rfl] at H; exact H
          clear H
          have H := H1
          clear H1
          by_cases c18 : x5_1.length < 8796093022208
          ·rw [if_pos c18] at H
           have LMc18 := Aside0.mk c18
           clear c18
           obtain ⟨y672, hy672⟩ : ∃ y_ : List ByteArray, y_ = (x5_1 ++ [t670]) := ⟨_, rfl⟩
           replace H : (quoinref26_Terms.l0 kj4 l0 y661 y672 (wrap64 (x6_1 + 1))) = some (r1, r2) := by first | (rw [hy672]; with_reducible exact H) | (have H2_ := (Option.bind_some _ _).symm.trans H; rw [hy672]; with_reducible exact H2_) | (have H2_ := (Option.bind_some _ _).symm.trans H; with_reducible exact H2_) | with_reducible exact H | (rw [hy672]; exact H) | exact H
           have Ny672 := Aside0.mk hy672
           clear hy672
           have H' := Aside0.mk H
           clear H
           have p669 : 0 ≤ (x6_1 : Int) := of_decide_eq_true (by first | (with_reducible assumption) | assumption)
           have q669 : x6_1 < (l0.length : Int) := of_decide_eq_true (by first | (with_reducible assumption) | assumption)
           obtain ⟨ad669, e669, hx669_0, hx669_1, hx669_2⟩ := at_T36 HR0.out x6_1 p669 q669
           cases e669
           replace hx669_0 := (HB.out.cell (World.block_lt_of_cell? w _ hx669_0)).trans hx669_0
           replace hx669_1 := (HB.out.cell (World.block_lt_of_cell? w _ hx669_1)).trans hx669_1
           replace hx669_2 := (HB.out.cell (World.block_lt_of_cell? w _ hx669_2)).trans hx669_2
           replace p669 := eq_true p669
           replace q669 := eq_true q669
           go_wp2_with (first | ((with_reducible refine gate_callee (f := 20) rfl ?_); refine goesL_ (some 39) rfl rfl Try.func20 (by kernel_rfl) rfl #[.int .i64 ((rd_T36 l0 x6_1).f0)] rfl (by (try simp only [List.map_toArray, List.map_cons, List.map_nil]); first | done | rfl | (simp only [List.length_drop, List.length_take]; rfl)) ?_; (with_reducible refine (quoinref26_Text.calls kj4 ((rd_T36 l0 x6_1).f0) t670 true _ A16.out).mono ?_); rintro e w19 ⟨rfl, hb⟩; refine ⟨_, rfl, ?_⟩; have n0_ := Aside0.mk (Kd.R_below (by (with_reducible repeat (first | apply Kd.R_alloc | apply Kd.R_drewN | apply Kd.R_drew)); exact HO_4.out) hb); have n1_ := Aside0.mk (Kd.R_below (by (with_reducible repeat (first | apply Kd.R_alloc | apply Kd.R_drewN | apply Kd.R_drew)); exact HO_5.out) hb); have n2_ := Aside0.mk (below_step (by repeat (first | (with_reducible first | exact HB.out | apply below_alloc | apply pw_below_drewN | apply below_drew1) | exact HB.out)) hb); clear HO_4; clear HO_5; clear HB; have HO_4 := n0_; have HO_5 := n1_; have HB := n2_; clear n0_ n1_ n2_; (try clear hb); (try clear hb2); (try clear hk); (try clear hi)) | ((with_reducible refine gate_builtin (b := .append) (xs := #[.tmp 53, .tmp 55]) rfl ?_); (try (refine gate_guard (by rfl) ?_; dsimp only)); at_builtin; refine Kd.R_append Kd.string (w0 := w) w.heap.size rfl (.tmp 53) (.tmp 55) 38 9 (.string ⟨#[]⟩) 16 rfl Try.underlying38 info9 rfl (by decide) (by omega) u5 x5_1 t670 [.string t670] (fun k_ => some k_ ≠ (v662 : Value).ownBlock) (fun _ => False) rfl rfl ?aP (fun _ hk => hk.elim) ?aF ?aO ?aB ?aS ?aL ?_; (case aP => exact rfl); (case aB => exact (by repeat (first | (with_reducible first | exact HB.out | apply below_alloc | apply pw_below_drewN | apply below_drew1) | exact HB.out))); (case aF => exact (fun k_ hk => Kd.fresh' (Kd.R_lt (by (with_reducible repeat (first | apply Kd.R_alloc | apply Kd.R_drewN | apply Kd.R_drew)); exact HO_4.out)) k_ hk)); (case aO => exact (by (with_reducible repeat (first | apply Kd.R_alloc | apply Kd.R_drewN | apply Kd.R_drew)); exact HO_5.out)); (case aS => exact (below_size (by repeat (first | (with_reducible first | exact HB.out | apply below_alloc | apply pw_below_drewN | apply below_drew1) | exact HB.out)))); (case aL => have := LMc18.out; omega); intro v673 w20 ho hb hg hat; rw [← Ny672.out] at ho; have n0_ := Aside0.mk (Kd.R_after (ok := (fun _ => True)) (by (with_reducible repeat (first | apply Kd.R_alloc | apply Kd.R_drewN | apply Kd.R_drew)); exact Kd.R_mono HO_4.out (fun _ hk => ⟨trivial, hk⟩)) hg hat); have n1_ := Aside0.mk (hb); have n2_ := Aside0.mk (ho); clear HO_4; clear HB; clear HO_5; have HO_4 := n0_; have HB := n1_; have HO674 := n2_; clear n0_ n1_ n2_; clear ho hb hg hat))
           go_roundg kj4
           case measure => have := HK1.out; have := HJ4.out; omega
           case rel => exact ⟨(y672), (wrap64 (x6_1 + 1)), (by first | rfl | (simp; done) | (simp [*]; done) | (simp <;> omega) | rw [u32_tmod]), H', ⟨by have := HK1.out; have := HJ4.out; omega⟩, ⟨by (with_reducible repeat (first | apply Kd.R_alloc | apply Kd.R_drewN | apply Kd.R_drew)); exact Kd.R_mono HO_4.out (fun _ hk => hk.2)⟩, ⟨by (with_reducible repeat (first | apply Kd.R_alloc | apply Kd.R_drewN | apply Kd.R_drew)); exact HO674.out⟩, ⟨by repeat (first | (with_reducible first | exact HB.out | apply below_alloc | apply pw_below_drewN | apply below_drew1) | exact HB.out)⟩⟩
          ·rw [if_neg c18] at H
           exact absurd H (by simp)
         ·replace c17 := Bool.eq_false_iff.mpr c17
          subst c17
          have H1 : (if 0 ≤ (wrap64 (((rd_T36 l0 x6_1).f0) - 2)) then (if (wrap64 (((rd_T36 l0 x6_1).f0) - 2)) < (y661.length : Int) then (if x5_1.length < 8796093022208 then (quoinref26_Terms.l0 kj4 l0 y661 (x5_1 ++ [rdOf ByteArray.empty y661 (wrap64 (((rd_T36 l0 x6_1).f0) - 2))]) (wrap64 (x6_1 + 1))) else (none)) else (none)) else (none)) = some (r1, r2) := by rw [if_neg (show ¬ (false = true) by decide)] at H; exact H
          clear H
          have H := H1
          clear H1
          obtain ⟨ji21, hji21⟩ : ∃ j_ : Int, (wrap64 (((rd_T36 l0 x6_1).f0) - 2)) = j_ := ⟨_, rfl⟩
          replace H : (if 0 ≤ (ji21) then (if (ji21) < (y661.length : Int) then (if x5_1.length < 8796093022208 then (quoinref26_Terms.l0 kj4 l0 y661 (x5_1 ++ [rdOf ByteArray.empty y661 (ji21)]) (wrap64 (x6_1 + 1))) else (none)) else (none)) else (none)) = some (r1, r2) := by first | (rw [hji21] at H; exact H) | (simp only [hji21] at H ⊢; exact H)
          (try rw [hji21] at A16)
          have hji21w : (IntKind.i64.wrap (((rd_T36 l0 x6_1).f0) - 2)) = ji21 := (i64_w _).trans hji21
          by_cases c22 : 0 ≤ (ji21)
          ·rw [if_pos c22] at H
           have c22b0 : decide (0 ≤ (ji21)) = true := decide_eq_true c22
           clear c22
           by_cases c23 : (ji21) < (y661.length : Int)
           ·rw [if_pos c23] at H
            have c23b0 : decide ((ji21) < (y661.length : Int)) = true := decide_eq_true c23
            clear c23
            by_cases c24 : x5_1.length < 8796093022208
            ·rw [if_pos c24] at H
             have LMc24 := Aside0.mk c24
             clear c24
             obtain ⟨y677, hy677⟩ : ∃ y_ : List ByteArray, y_ = (x5_1 ++ [rdOf ByteArray.empty y661 (ji21)]) := ⟨_, rfl⟩
             replace H : (quoinref26_Terms.l0 kj4 l0 y661 y677 (wrap64 (x6_1 + 1))) = some (r1, r2) := by first | (rw [hy677]; with_reducible exact H) | (have H2_ := (Option.bind_some _ _).symm.trans H; rw [hy677]; with_reducible exact H2_) | (have H2_ := (Option.bind_some _ _).symm.trans H; with_reducible exact H2_) | with_reducible exact H | (rw [hy677]; exact H) | exact H
             have Ny677 := Aside0.mk hy677
             clear hy677
             have H' := Aside0.mk H
             clear H
             have p669 : 0 ≤ (x6_1 : Int) := of_decide_eq_true (by first | (with_reducible assumption) | assumption)
             have q669 : x6_1 < (l0.length : Int) := of_decide_eq_true (by first | (with_reducible assumption) | assumption)
             obtain ⟨ad669, e669, hx669_0, hx669_1, hx669_2⟩ := at_T36 HR0.out x6_1 p669 q669
             cases e669
             replace hx669_0 := (HB.out.cell (World.block_lt_of_cell? w _ hx669_0)).trans hx669_0
             replace hx669_1 := (HB.out.cell (World.block_lt_of_cell? w _ hx669_1)).trans hx669_1
             replace hx669_2 := (HB.out.cell (World.block_lt_of_cell? w _ hx669_2)).trans hx669_2
             replace p669 := eq_true p669
             replace q669 := eq_true q669
             go_wp2_with (first | ((with_reducible refine gate_callee (f := 20) rfl ?_); refine goesL_ (some 39) rfl rfl Try.func20 (by kernel_rfl) rfl #[.int .i64 ((rd_T36 l0 x6_1).f0)] rfl (by (try simp only [List.map_toArray, List.map_cons, List.map_nil]); first | done | rfl | (simp only [List.length_drop, List.length_take]; rfl)) ?_; (with_reducible refine (quoinref26_Text.calls kj4 ((rd_T36 l0 x6_1).f0) t670 false _ A16.out).mono ?_); rintro e w25 ⟨rfl, hb⟩; refine ⟨_, rfl, ?_⟩; have n0_ := Aside0.mk (Kd.R_below (by (with_reducible repeat (first | apply Kd.R_alloc | apply Kd.R_drewN | apply Kd.R_drew)); exact HO_4.out) hb); have n1_ := Aside0.mk (Kd.R_below (by (with_reducible repeat (first | apply Kd.R_alloc | apply Kd.R_drewN | apply Kd.R_drew)); exact HO_5.out) hb); have n2_ := Aside0.mk (below_step (by repeat (first | (with_reducible first | exact HB.out | apply below_alloc | apply pw_below_drewN | apply below_drew1) | exact HB.out)) hb); clear HO_4; clear HO_5; clear HB; have HO_4 := n0_; have HO_5 := n1_; have HB := n2_; clear n0_ n1_ n2_; (try clear hb); (try clear hb2); (try clear hk); (try clear hi); have p675 : 0 ≤ (x6_1 : Int) := of_decide_eq_true (by first | (with_reducible assumption) | assumption); have q675 : x6_1 < (l0.length : Int) := of_decide_eq_true (by first | (with_reducible assumption) | assumption); obtain ⟨ad675, e675, hx675_0, hx675_1, hx675_2⟩ := at_T36 HR0.out x6_1 p675 q675; obtain rfl : ad669 = ad675 := (by injection e675); replace hx675_0 := (HB.out.cell (World.block_lt_of_cell? w _ hx675_0)).trans hx675_0; replace hx675_1 := (HB.out.cell (World.block_lt_of_cell? w _ hx675_1)).trans hx675_1; replace hx675_2 := (HB.out.cell (World.block_lt_of_cell? w _ hx675_2)).trans hx675_2; replace p675 := eq_true p675; replace q675 := eq_true q675; obtain ⟨Ao26, co26, eo26⟩ := Kd.R_slice HO_4.out; subst eo26; have p676 : 0 ≤ ((ji21) : Int) := of_decide_eq_true (by first | (with_reducible assumption) | assumption); have q676 : (ji21) < (y661.length : Int) := of_decide_eq_true (by first | (with_reducible assumption) | assumption); obtain ⟨ad676, e676, hx676_0⟩ := Kd.at_string (Kd.R_reads' HO_4.out).2.2 (ji21) p676 q676; cases e676; replace p676 := eq_true p676; replace q676 := eq_true q676) | ((with_reducible refine gate_builtin (b := .append) (xs := #[.tmp 53, .tmp 55]) rfl ?_); (try (refine gate_guard (by rfl) ?_; dsimp only)); at_builtin; refine Kd.R_append Kd.string (w0 := w) w.heap.size rfl (.tmp 53) (.tmp 55) 38 9 (.string ⟨#[]⟩) 16 rfl Try.underlying38 info9 rfl (by decide) (by omega) u5 x5_1 (rdOf ByteArray.empty y661 (ji21)) [.string (rdOf ByteArray.empty y661 (ji21))] (fun k_ => some k_ ≠ (.slice (some ad676) y661.length co26 : Value).ownBlock) (fun _ => False) rfl rfl ?aP (fun _ hk => hk.elim) ?aF ?aO ?aB ?aS ?aL ?_; (case aP => exact rfl); (case aB => exact (by repeat (first | (with_reducible first | exact HB.out | apply below_alloc | apply pw_below_drewN | apply below_drew1) | exact HB.out))); (case aF => exact (fun k_ hk => Kd.fresh' (Kd.R_lt (by (with_reducible repeat (first | apply Kd.R_alloc | apply Kd.R_drewN | apply Kd.R_drew)); exact HO_4.out)) k_ hk)); (case aO => exact (by (with_reducible repeat (first | apply Kd.R_alloc | apply Kd.R_drewN | apply Kd.R_drew)); exact HO_5.out)); (case aS => exact (below_size (by repeat (first | (with_reducible first | exact HB.out | apply below_alloc | apply pw_below_drewN | apply below_drew1) | exact HB.out)))); (case aL => have := LMc24.out; omega); intro v678 w27 ho hb hg hat; rw [← Ny677.out] at ho; have n0_ := Aside0.mk (Kd.R_after (ok := (fun _ => True)) (by (with_reducible repeat (first | apply Kd.R_alloc | apply Kd.R_drewN | apply Kd.R_drew)); exact Kd.R_mono HO_4.out (fun _ hk => ⟨trivial, hk⟩)) hg hat); have n1_ := Aside0.mk (hb); have n2_ := Aside0.mk (ho); clear HO_4; clear HB; clear HO_5; have HO_4 := n0_; have HB := n1_; have HO679 := n2_; clear n0_ n1_ n2_; clear ho hb hg hat))
             go_roundg kj4
             case measure => have := HK1.out; have := HJ4.out; omega
             case rel => exact ⟨(y677), (wrap64 (x6_1 + 1)), (by first | rfl | (simp; done) | (simp [*]; done) | (simp <;> omega) | rw [u32_tmod]), H', ⟨by have := HK1.out; have := HJ4.out; omega⟩, ⟨by (with_reducible repeat (first | apply Kd.R_alloc | apply Kd.R_drewN | apply Kd.R_drew)); exact Kd.R_mono HO_4.out (fun _ hk => hk.2)⟩, ⟨by (with_reducible repeat (first | apply Kd.R_alloc | apply Kd.R_drewN | apply Kd.R_drew)); exact HO679.out⟩, ⟨by repeat (first | (with_reducible first | exact HB.out | apply below_alloc | apply pw_below_drewN | apply below_drew1) | exact HB.out)⟩⟩
            ·rw [if_neg c24] at H
             exact absurd H (by simp)
           ·rw [if_neg c23] at H
            exact absurd H (by simp)
          ·rw [if_neg c22] at H
           exact absurd H (by simp)
        ·rw [if_neg c15] at H
         exact absurd H (by simp)
       ·rw [if_neg c14] at H
        exact absurd H (by simp)
   ·rw [if_neg c4] at H
    have c4b0 : decide (x6_1 < (l0.length : Int)) = false := decide_eq_false c4
    clear c4
    simp only [Option.some.injEq, Prod.mk.injEq] at H
    obtain ⟨rfl, rfl⟩ := H
    go_wp2
    go_ret2
    exact ⟨_, by first | rfl | (simp [errW_none, errW_some] <;> rfl) | (simp [*, errW_none, errW_some] <;> rfl), by (with_reducible repeat (first | apply Kd.R_alloc | apply Kd.R_drewN | apply Kd.R_drew)); exact Kd.R_mono HO_5.out (fun _ hk => trivial), by repeat (first | (with_reducible first | exact HB.out | apply below_alloc | apply pw_below_drewN | apply below_drew1) | exact HB.out)⟩
end Go.Proofs.Ytcajiapjdlphmaa.H
