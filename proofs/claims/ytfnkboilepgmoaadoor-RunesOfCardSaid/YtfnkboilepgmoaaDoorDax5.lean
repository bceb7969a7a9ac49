import Derived.Test.YtfnkboilepgmoaaDoorDPre
import Derived.Test.YtfnkboilepgmoaaDoorDax1
import Derived.Test.YtfnkboilepgmoaaDoorDax4
namespace Go.Proofs.YtfnkboilepgmoaaDoor.R
open Go.RowKit Go.Proofs.YtfnkboilepgmoaaDoorW.PrintWords Go.Proofs.YtfnkboilepgmoaaDoorW.PrintLast Go.Proofs.YtfnkboilepgmoaaDoorW.PrintMore
attribute [local go_sem] max2_int min2_int max_two min_two max_three min_three max_four min_four
set_option linter.unusedVariables false
set_option linter.unusedSimpArgs false
def runes_Text.loop : List S36 → List UInt8 → Option (List UInt8)
 | [], s => some s
 | t :: l, s => if s.length ≤ 1000000000 then (runes_one.f t.f0).bind fun a => (if a.size ≤ 1000 then (if t.f1 = t.f0 then runes_Text.loop l (s ++ a.data.toList) else (runes_one.f t.f1).bind fun b => (if b.size ≤ 1000 then runes_Text.loop l (s ++ a.data.toList ++ (⟨#[45]⟩ ++ b).data.toList) else none)) else none) else none
def runes_Text.f (k : Nat) (l0 : List S36) : Option (ByteArray × Int) := (runes_Check.f k l0).bind fun e => if e = 0 then (runes_Text.loop l0 [91]).bind fun s => (if s.length ≤ 1000000000 then some (⟨(s ++ [93]).toArray⟩, 0) else none) else some (⟨#[]⟩, e)
theorem runes_Text.mono : ∀ a0 k, LeO (runes_Text.f k a0) (runes_Text.f (k + 1) a0) := by
 intro a0 k
 unfold runes_Text.f
 exact LeO.bind (runes_Check.mono _ _) (fun _ => LeO.refl _)
theorem runes_Text.kept {B b : Nat} {bs : List Value} {w w1 : World} (h : Lib.IsBuilderF 78 5 B b bs w) (hb : Below w.heap.size w w1) : Lib.IsBuilderF 78 5 B b bs w1 := by
 have key : ∀ p, Lib.BuilderAtF 78 5 B b p bs w → Lib.BuilderAtF 78 5 B b p bs w1 := by
  rintro p ⟨h0, v, h1, h2, h3⟩
  exact ⟨h0, v, blk_below h1 hb, h2.kept (row := none) ⟨hb.os, hb.tape, hb.output, hb.size, fun k hk _ => hb.block k hk⟩ (by cases v.ownBlock <;> simp), h3⟩
 exact h.imp (key _) (key _)
theorem runes_Text.bcat (s : List UInt8) (a : ByteArray) : Lib.byteCells s ++ Lib.strCells a = Lib.byteCells (s ++ a.data.toList) := by simp [Lib.byteCells, Lib.strCells]
theorem runes_Text.step {B b : Nat} {s : List UInt8} {a : ByteArray} {w : World} (h : Lib.BuilderAtF 78 5 B b (.pointer (some ⟨b, 0, none⟩)) (Lib.byteCells s ++ Lib.strCells a) w) : Lib.IsBuilderF 78 5 B b (Lib.byteCells (s ++ a.data.toList)) w := .inr (by rw [← runes_Text.bcat]; exact h)
theorem runes_Text.fresh {B : Nat} {w : World} (h : B ≤ w.heap.size) : Lib.IsBuilderF 78 5 B w.heap.size [] (w.alloc (.cells #[.pointer none, .slice none 0 0] 78 (0, 0))) :=
 .inl (Lib.BuilderAtF.of ⟨h, .slice none 0 0, blk_new w _, own_nil _ _ _ _, by simp [Value.ownBlock]⟩)
set_option maxHeartbeats 8000000 in
set_option maxRecDepth 100000 in
theorem runes_Text.calls (k : Nat) (A0 : Option Addr) (c0 : Nat) (l0 : List (S36)) (r1 : ByteArray) (r2 : Int) (w : World) (hr0 : Kd.C k36 w A0 l0.length l0) (hc0 : l0.length ≤ c0) (h : runes_Text.f k l0 = some (r1, r2)) :
  Calls Tryd.prog 34 #[.slice A0 l0.length c0] w fun e w' => e = .returned (.tuple #[.string r1, .int .i64 r2]) ∧ Below w.heap.size w w' := by
 have HR0 := Aside0.mk hr0
 have HC0 := Aside0.mk hc0
 clear hr0 hc0
 unfold runes_Text.f at h
 obtain ⟨e0, Q1, h⟩ := Option.bind_eq_some_iff.mp h
 replace Q1 := Aside0.mk Q1
 by_cases c1 : e0 = 0
 rotate_left
 ·rw [if_neg c1] at h
  obtain ⟨rfl, rfl⟩ := Prod.mk.inj (Option.some.inj h)
  clear h
  have d1 : (e0 != 0) = true := bne_iff_ne.mpr c1
  clear c1
  go_enter Tryd.func34, Tryd.ntmps34
  go_wp2_with (go_at_call 17; refine (runes_Check.calls k _ _ _ _ _ HR0.out HC0.out Q1.out).mono ?_; rintro e W1 ⟨rfl, hb⟩; have B1 := Aside0.mk hb; clear hb)
  go_ret2
  exact ⟨rfl, B1.out⟩
 rw [if_pos c1] at h
 subst c1
 obtain ⟨S, L1, h⟩ := Option.bind_eq_some_iff.mp h
 replace L1 := Aside0.mk L1
 by_cases c2 : S.length ≤ 1000000000
 rotate_left
 ·rw [if_neg c2] at h; exact absurd h (by simp)
 rw [if_pos c2] at h
 obtain ⟨rfl, rfl⟩ := Prod.mk.inj (Option.some.inj h)
 clear h
 have c2 := Aside0.mk c2
 go_enter Tryd.func34, Tryd.ntmps34
 go_upto_region 5 with (go_at_call 17; refine (runes_Check.calls k _ _ _ _ _ HR0.out HC0.out Q1.out).mono ?_; rintro e W1 ⟨rfl, hb⟩; have B1 := Aside0.mk hb; clear hb)
 have hg : w.heap.size ≤ W1.heap.size := B1.out.size
 have I2 := Aside0.mk (runes_Text.fresh hg)
 have B2 := Aside0.mk (B1.out.alloc hg (.cells #[.pointer none, .slice none 0 0] 78 (0, 0)))
 generalize W1.alloc (.cells #[.pointer none, .slice none 0 0] 78 (0, 0)) = W2 at I2 B2 ⊢
 generalize hgg : W1.heap.size = g at I2 hg ⊢
 clear hgg B1
 go_wp2_with (go_at_call 55; refine (Tryd.Builder_WriteString w.heap.size g [] ⟨#[91]⟩ W2 I2.out (by simp [ByteArray.size]) B2.out.size).mono ?_; rintro e W3 ⟨rfl, hi, hb, -⟩; have I3 := Aside0.mk (show Lib.IsBuilderF 78 5 w.heap.size g (Lib.byteCells [91]) W3 from .inr hi); have B3 := Aside0.mk (B2.out.trans hb); clear hi hb)
 go_loopw [16] (fun i wr => ∃ (x : Int) (s : List UInt8), 0 ≤ x ∧ x ≤ (l0.length : Int) ∧ i = .int .i64 x ∧ Aside0 (Lib.IsBuilderF 78 5 w.heap.size g (Lib.byteCells s) wr) ∧ Aside0 (Below w.heap.size w wr) ∧ Aside0 (runes_Text.loop (l0.drop x.toNat) s = some S)) (fun i _ => l0.length - (intOf i).toNat)
 case atStart => exact ⟨0, _, Z20, Z20, rfl, I3, B3, L1⟩
 case round =>
  clear I2 B2 I3 B3 L1
  obtain ⟨x, s, hx0, hx1, rfl, HI, HB, HL⟩ := hrel
  by_cases hlt : x < (l0.length : Int)
  ·obtain ⟨ad, e0, h0, h1⟩ := at_T36 (Kd.C_below HR0.out HB.out) x hx0 hlt
   obtain rfl := e0
   have hd : l0.drop x.toNat = rd_T36 l0 x :: l0.drop (x + 1).toNat := by
    have hl : x.toNat < l0.length := by omega
    rw [List.drop_eq_getElem_cons hl, show (x + 1).toNat = x.toNat + 1 from by omega]
    congr 1
    unfold rd_T36
    rw [List.getD_eq_getElem?_getD, List.getElem?_eq_getElem hl]
    rfl
   have hl := HL.out
   clear HL
   rw [hd] at hl
   clear hd
   obtain ⟨⟨t0, t1⟩, ht⟩ : ∃ t, rd_T36 l0 x = t := ⟨_, rfl⟩
   rw [ht] at hl h0 h1
   clear ht
   unfold runes_Text.loop at hl
   dsimp only at hl h0 h1
   have hw : wrap64 (x + 1) = x + 1 := by unfold wrap64; have := HR0.out.2.1; omega
   have hw := Aside0.mk hw
   have hlb : decide (x < (l0.length : Int)) = true := decide_eq_true hlt
   by_cases d1 : s.length ≤ 1000000000
   rotate_left
   ·rw [if_neg d1] at hl; exact absurd hl (by simp)
   rw [if_pos d1] at hl
   obtain ⟨a, E1, hl⟩ := Option.bind_eq_some_iff.mp hl
   replace E1 := Aside0.mk E1
   by_cases d2 : a.size ≤ 1000
   rotate_left
   ·rw [if_neg d2] at hl; exact absurd hl (by simp)
   rw [if_pos d2] at hl
   have hl := Aside0.mk hl
   have d1 := Aside0.mk d1
   have d2 := Aside0.mk d2
   have hbx := (Below.refl wr.heap.size wr).alloc (Nat.le_refl _) (.cells #[.int .i32 t0, .int .i32 t1] 36)
   have HIX := Aside0.mk (runes_Text.kept HI.out hbx)
   have HBX := Aside0.mk (HB.out.trans (hbx.mono HB.out.size))
   have hgq : g < wr.heap.size := HI.out.elim (·.lt) (·.lt)
   clear hbx HI
   have BT := Aside0.mk (blk_new wr (.cells #[.int .i32 t0, .int .i32 t1] 36))
   go_upto_region 9 with (fail)
   generalize wr.alloc (.cells #[.int .i32 t0, .int .i32 t1] 36) = wx at HIX HBX BT ⊢
   generalize hq : wr.heap.size = q at BT hgq ⊢
   have ct0 := (blk_cell BT.out 0).trans rfl
   have ct1 := (blk_cell BT.out 1).trans rfl
   clear h0 h1
   have OK4 : ∀ {w1 w2 : World}, w1.heap[q]? = some (.cells #[.int .i32 t0, .int .i32 t1] 36 (0, 0)) → Lib.OthersKept 5 (some g) w1 w2 → w2.heap[q]? = some (.cells #[.int .i32 t0, .int .i32 t1] 36 (0, 0)) := fun h1 h2 => h2 q _ h1 (by simp; omega) (by rintro c fz h; simp at h)
   go_upto_region 10 with (first | (go_at_call 56; refine (runes_one.calls E1.out).mono ?_; rintro e w' ⟨rfl, ⟨nd, rfl⟩⟩) | (go_at_call 55; refine (Tryd.Builder_WriteString w.heap.size g _ a (wx.drewN nd) (show Lib.IsBuilderF 78 5 w.heap.size g (Lib.byteCells s) (wx.drewN nd) from HIX.out) (by rw [Lib.byteCells_length]; have := d1.out; have := d2.out; omega) HBX.out.size).mono ?_; rintro e W4 ⟨rfl, hi, hb, hk⟩; have I4 := Aside0.mk (show Lib.IsBuilderF 78 5 w.heap.size g (Lib.byteCells (s ++ a.data.toList)) W4 from .inr (by rw [← runes_Text.bcat]; exact hi)); have B4 := Aside0.mk (HBX.out.trans (show Below w.heap.size wx W4 from ⟨hb.os, hb.tape, hb.output, hb.size, hb.block⟩)); have BT4 := Aside0.mk (OK4 (show (wx.drewN nd).heap[q]? = _ from BT.out) hk); clear hi hb hk))
   have cu0 := (blk_cell BT4.out 0).trans rfl
   have cu1 := (blk_cell BT4.out 1).trans rfl
   clear HIX HBX BT ct0 ct1
   by_cases d3 : t1 = t0
   ·have hl' := hl.out
    rw [if_pos d3] at hl'
    have hl := Aside0.mk hl'
    clear hl'
    have d3b : (t1 != t0) = false := bne_eq_false_iff_eq.mpr d3
    clear d3
    go_wp2
    go_roundw
    case rel => exact ⟨x + 1, _, Z20, Z20, by rw [hw.out], I4, B4, hl⟩
    case measure => simp [intOf]; omega
   ·have hl' := hl.out
    rw [if_neg d3] at hl'
    obtain ⟨b, E2, hl'⟩ := Option.bind_eq_some_iff.mp hl'
    replace E2 := Aside0.mk E2
    by_cases d4 : b.size ≤ 1000
    rotate_left
    ·rw [if_neg d4] at hl'; exact absurd hl' (by simp)
    rw [if_pos d4] at hl'
    have hl := Aside0.mk hl'
    clear hl'
    have d3b : (t1 != t0) = true := bne_iff_ne.mpr d3
    clear d3
    go_wp2_with (first | (go_at_call 56; refine (runes_one.calls E2.out).mono ?_; rintro e w' ⟨rfl, ⟨ne, rfl⟩⟩) | (go_at_call 55; have hi4 : Lib.IsBuilderF 78 5 w.heap.size g (Lib.byteCells (s ++ a.data.toList)) (W4.drewN ne) := I4.out; refine Calls.mono (Tryd.Builder_WriteString w.heap.size g _ _ (W4.drewN ne) hi4 ?hz B4.out.size) ?_; (case hz => rw [Lib.byteCells_length, List.length_append, ByteArray.size_append]; have e1 : a.data.toList.length = a.size := rfl; have e2 : (⟨#[45]⟩ : ByteArray).size = 1 := rfl; have := d1.out; have := d2.out; omega); rintro e W5 ⟨rfl, hi, hb, -⟩; have I5 := Aside0.mk (runes_Text.step hi); have B5 := Aside0.mk (B4.out.trans (show Below w.heap.size W4 W5 from ⟨hb.os, hb.tape, hb.output, hb.size, hb.block⟩)); clear hi hi4 hb))
    go_roundw
    case rel => exact ⟨x + 1, _, Z20, Z20, by rw [hw.out], I5, B5, hl⟩
    case measure => simp [intOf]; omega
  ·have hlb : decide (x < (l0.length : Int)) = false := decide_eq_false hlt
   have hx : x = l0.length := by omega
   have hl := HL.out
   rw [List.drop_eq_nil_of_le Z20] at hl
   obtain rfl := Option.some.inj hl
   clear hl HL
   go_wp2_with (first | (go_at_call 55; refine (Tryd.Builder_WriteString w.heap.size g _ ⟨#[93]⟩ wr HI.out (by rw [Lib.byteCells_length]; have := c2.out; simp [ByteArray.size]; omega) HB.out.size).mono ?_; rintro e W3 ⟨rfl, hi, hb, -⟩; have I3 := Aside0.mk (show Lib.IsBuilderF 78 5 w.heap.size g (Lib.byteCells (s ++ (⟨#[93]⟩ : ByteArray).data.toList)) W3 from .inr (by rw [← runes_Text.bcat]; exact hi)); have B3 := Aside0.mk (HB.out.trans hb); clear hi hb) | (go_at_call 57; refine (Tryd.Builder_String_any w.heap.size g _ W3 I3.out B3.out.size).mono ?_; rintro e W4 ⟨rfl, hb⟩; have B4 := Aside0.mk (B3.out.trans hb); clear hb))
   go_ret2
   exact ⟨rfl, B4.out⟩
def quoinlaw02_awake.f (k : Nat)  : Option (Bool) := (runes_Of.f k (([(⟨98, 99⟩ : S36), (⟨97, 97⟩ : S36)] : List (S36)))).bind fun bt244 => ((runes_Text.f k bt244.1).bind fun bt248 => (if bt244.2 = 0 then (if bt248.2 = 0 then (if bt248.1.toList = ([91, 97, 45, 99, 93] : List UInt8) then ((runes_Has.f k bt244.1 98).bind fun t250 => (if t250 = true then ((runes_Has.f k bt244.1 100).bind fun t251 => (some (!t251))) else (some false))) else (some false)) else (some false)) else (some false)))
theorem quoinlaw02_awake.mono : ∀ k, LeO (quoinlaw02_awake.f k ) (quoinlaw02_awake.f (k + 1) ) := by
 intro  k
 unfold quoinlaw02_awake.f
 have m0 := @runes_Has.mono
 have m1 := @runes_Of.mono
 have m2 := @runes_Text.mono
 exact mO
set_option maxHeartbeats 8000000 in
set_option maxRecDepth 100000 in
theorem quoinlaw02_awake.calls {k : Nat} {r : Bool} {w : World} (h : quoinlaw02_awake.f k  = some r) :
  Calls Tryd.prog 16 #[] w fun e w' => e = .returned (.bool r) ∧ Below w.heap.size w w' := by
 have hu36 := Tryd.underlying36
 have HB := Aside0.mk (Below.refl w.heap.size w)
 have H : ((runes_Of.f k (([(⟨98, 99⟩ : S36), (⟨97, 97⟩ : S36)] : List (S36)))).bind fun bt244 => ((runes_Text.f k bt244.1).bind fun bt248 => (if bt244.2 = 0 then (if bt248.2 = 0 then (if bt248.1.toList = ([91, 97, 45, 99, 93] : List UInt8) then ((runes_Has.f k bt244.1 98).bind fun t250 => (if t250 = true then ((runes_Has.f k bt244.1 100).bind fun t251 => (some (!t251))) else (some false))) else (some false)) else (some false)) else (some false)))) = some r := h
 clear h
 obtain ⟨y241, hy241⟩ : ∃ y_ : List (S36), y_ = (([(⟨98, 99⟩ : S36), (⟨97, 97⟩ : S36)] : List (S36))) := ⟨_, rfl⟩
 replace H : ((runes_Of.f k y241).bind fun bt244 => ((runes_Text.f k bt244.1).bind fun bt248 => (if bt244.2 = 0 then (if bt248.2 = 0 then (if bt248.1.toList = ([91, 97, 45, 99, 93] : List UInt8) then ((runes_Has.f k bt244.1 98).bind fun t250 => (if t250 = true then ((runes_Has.f k bt244.1 100).bind fun t251 => (some (!t251))) else (some false))) else (some false)) else (some false)) else (some false)))) = some r := by first | (rw [hy241]; with_reducible exact H) | (have H2_ := (Option.bind_some _ _).symm.trans H; rw [hy241]; with_reducible exact H2_) | (have H2_ := (Option.bind_some _ _).symm.trans H; with_reducible exact H2_) | with_reducible exact H | (rw [hy241]; exact H) | exact H
 have Ny241 := Aside0.mk hy241
 clear hy241
 replace H := bS H
 obtain ⟨⟨t244, t245⟩, A1, H⟩ := H
 try dsimp only at H
 replace H := bS H
 obtain ⟨⟨t248, t249⟩, A2, H⟩ := H
 try dsimp only at H
 by_cases c3 : t245 = 0
 ·rw [if_pos c3] at H
  have c3b0 := e1 c3
  have c3b1 := e2 c3
  clear c3
  by_cases c4 : t249 = 0
  ·rw [if_pos c4] at H
   have c4b0 := e1 c4
   have c4b1 := e2 c4
   clear c4
   by_cases c5 : t248.toList = ([91, 97, 45, 99, 93] : List UInt8)
   ·rw [if_pos c5] at H
    have c5b0 := e1 c5
    have c5b1 := e2 c5
    clear c5
    replace H := bS H
    obtain ⟨t250, A6, H⟩ := H
    try dsimp only at H
    by_cases c7 : t250 = true
    ·subst c7
     have H1 : ((runes_Has.f k t244 100).bind fun t251 => (some (!t251))) = some r := by rw [if_pos rfl] at H; exact H
     clear H
     have H := H1
     clear H1
     replace H := bS H
     obtain ⟨t251, A8, H⟩ := H
     try dsimp only at H
     obtain rfl := Option.some.inj H
     go_enter Tryd.func16, Tryd.ntmps16
     go_wp2_with (first | ((with_reducible refine gate_dst (N := 8) rfl ?_); refine Kd.R_lit k36 _ 36 ?hg (N := 8) ?hd (xs := ([(⟨98, 99⟩ : S36), (⟨97, 97⟩ : S36)] : List (S36))) (inner := [.int .i32 98, .int .i32 99, .int .i32 97, .int .i32 97]) (ok := fun _ => True) (okp := fun _ => True) ?hr ?hp (fun _ hk => hk) trivial (Below.refl _ _) (Nat.le_refl _) (by simp) ?_; (case hd => rfl); (case hg => rfl); (case hr => first | (go_simp; done) | (go_simp; rfl)); (case hp => exact (Reps.c2 (show Kd.M k36 _ _ _ (⟨98, 99⟩ : S36) [.int .i32 98, .int .i32 99] from (k36_mkM _ _ _ (⟨98, 99⟩ : S36) )) (Reps.c2 (show Kd.M k36 _ _ _ (⟨97, 97⟩ : S36) [.int .i32 97, .int .i32 97] from (k36_mkM _ _ _ (⟨97, 97⟩ : S36) )) (Reps.none _ _)))); intro v242 w9 ho10 hb hg_ hnew_; clear hg_ hnew_; (first | rw [← Ny241.out] at ho10 | (simp only [Int.reduceToNat] at ho10; rw [← Ny241.out] at ho10)); have HO243 := Aside0.mk (Kd.R_lower ho10 (below_size zB)); replace HB := Aside0.mk (below_step zB hb); clear hb ho10; obtain ⟨Ao11, co11, eo11⟩ := Kd.R_slice HO243.out; subst eo11) | ((with_reducible refine gC 13 rfl ?_); refine goesL_ (some 9) rfl rfl Tryd.func13 Z13 rfl #[.slice Ao11 y241.length co11] rfl Z2 ?_; (with_reducible refine (runes_Of.calls k _ _ y241 t244 t245 _ ?side1 ?side2 A1.out).mono ?_); (case side1 => repeat (first | exact (Kd.R_reads' HO243.out).2.2 | (with_reducible refine Kd.C_alloc ?_ _) | (with_reducible refine Kd.C_drewN ?_ _) | (with_reducible refine Kd.C_drew ?_))); (case side2 => exact (Kd.R_reads' HO243.out).2.1); rintro e w12 ⟨v246, rfl, ho0, hb⟩; refine ⟨_, rfl, ?_⟩; have HO247 := Aside0.mk (Kd.R_lower (Kd.R_new' ho0 (Kd.R_lt (kK HO243))) (below_size zB)); replace HO243 := Aside0.mk (Kd.R_elder' (kK HO243) (Kd.R_base ho0) hb); replace HB := Aside0.mk (below_step zB hb); (try clear hb); (try clear hb2); (try clear hk); (try clear hi); (try clear ho0); obtain ⟨Ao13, co13, eo13⟩ := Kd.R_slice HO247.out; subst eo13) | ((with_reducible refine gC 34 rfl ?_); refine goesL_ (some 14) rfl rfl Tryd.func34 Z13 rfl #[.slice Ao13 t244.length co13] rfl Z2 ?_; (with_reducible refine (runes_Text.calls k _ _ t244 t248 t249 _ ?side1 ?side2 A2.out).mono ?_); (case side1 => repeat (first | exact (Kd.R_reads' HO247.out).2.2 | (with_reducible refine Kd.C_alloc ?_ _) | (with_reducible refine Kd.C_drewN ?_ _) | (with_reducible refine Kd.C_drew ?_))); (case side2 => exact (Kd.R_reads' HO247.out).2.1); rintro e w14 ⟨rfl, hb⟩; refine ⟨_, rfl, ?_⟩; replace HO243 := Aside0.mk (Kd.R_below (kK HO243) hb); replace HO247 := Aside0.mk (Kd.R_below (kK HO247) hb); replace HB := Aside0.mk (below_step zB hb); (try clear hb); (try clear hb2); (try clear hk); (try clear hi)) | (go_at_call 33; (with_reducible refine (runes_Has.calls k _ _ t244 98 true _ ?side1 ?side2 A6.out).mono ?_); (case side1 => repeat (first | exact (Kd.R_reads' HO247.out).2.2 | (with_reducible refine Kd.C_alloc ?_ _) | (with_reducible refine Kd.C_drewN ?_ _) | (with_reducible refine Kd.C_drew ?_))); (case side2 => exact (Kd.R_reads' HO247.out).2.1); rintro e w15 ⟨rfl, hb⟩; replace HO243 := Aside0.mk (Kd.R_below (kK HO243) hb); replace HO247 := Aside0.mk (Kd.R_below (kK HO247) hb); replace HB := Aside0.mk (below_step zB hb); (try clear hb); (try clear hb2); (try clear hk); (try clear hi)) | (go_at_call 33; (with_reducible refine (runes_Has.calls k _ _ t244 100 t251 _ ?side1 ?side2 A8.out).mono ?_); (case side1 => repeat (first | exact (Kd.R_reads' HO247.out).2.2 | (with_reducible refine Kd.C_alloc ?_ _) | (with_reducible refine Kd.C_drewN ?_ _) | (with_reducible refine Kd.C_drew ?_))); (case side2 => exact (Kd.R_reads' HO247.out).2.1); rintro e w16 ⟨rfl, hb⟩; replace HO243 := Aside0.mk (Kd.R_below (kK HO243) hb); replace HO247 := Aside0.mk (Kd.R_below (kK HO247) hb); replace HB := Aside0.mk (below_step zB hb); (try clear hb); (try clear hb2); (try clear hk); (try clear hi)))
     go_ret
     exact ⟨Z4, Z1⟩
    ·replace c7 := Bool.eq_false_iff.mpr c7
     subst c7
     have H1 : (some false) = some r := by rw [if_neg (show ¬ (false = true) by decide)] at H; exact H
     clear H
     have H := H1
     clear H1
     obtain rfl := Option.some.inj H
     go_enter Tryd.func16, Tryd.ntmps16
     go_wp2_with (first | ((with_reducible refine gate_dst (N := 8) rfl ?_); refine Kd.R_lit k36 _ 36 ?hg (N := 8) ?hd (xs := ([(⟨98, 99⟩ : S36), (⟨97, 97⟩ : S36)] : List (S36))) (inner := [.int .i32 98, .int .i32 99, .int .i32 97, .int .i32 97]) (ok := fun _ => True) (okp := fun _ => True) ?hr ?hp (fun _ hk => hk) trivial (Below.refl _ _) (Nat.le_refl _) (by simp) ?_; (case hd => rfl); (case hg => rfl); (case hr => first | (go_simp; done) | (go_simp; rfl)); (case hp => exact (Reps.c2 (show Kd.M k36 _ _ _ (⟨98, 99⟩ : S36) [.int .i32 98, .int .i32 99] from (k36_mkM _ _ _ (⟨98, 99⟩ : S36) )) (Reps.c2 (show Kd.M k36 _ _ _ (⟨97, 97⟩ : S36) [.int .i32 97, .int .i32 97] from (k36_mkM _ _ _ (⟨97, 97⟩ : S36) )) (Reps.none _ _)))); intro v242 w17 ho18 hb hg_ hnew_; clear hg_ hnew_; (first | rw [← Ny241.out] at ho18 | (simp only [Int.reduceToNat] at ho18; rw [← Ny241.out] at ho18)); have HO243 := Aside0.mk (Kd.R_lower ho18 (below_size zB)); replace HB := Aside0.mk (below_step zB hb); clear hb ho18; obtain ⟨Ao19, co19, eo19⟩ := Kd.R_slice HO243.out; subst eo19) | ((with_reducible refine gC 13 rfl ?_); refine goesL_ (some 9) rfl rfl Tryd.func13 Z13 rfl #[.slice Ao19 y241.length co19] rfl Z2 ?_; (with_reducible refine (runes_Of.calls k _ _ y241 t244 t245 _ ?side1 ?side2 A1.out).mono ?_); (case side1 => repeat (first | exact (Kd.R_reads' HO243.out).2.2 | (with_reducible refine Kd.C_alloc ?_ _) | (with_reducible refine Kd.C_drewN ?_ _) | (with_reducible refine Kd.C_drew ?_))); (case side2 => exact (Kd.R_reads' HO243.out).2.1); rintro e w20 ⟨v246, rfl, ho0, hb⟩; refine ⟨_, rfl, ?_⟩; have HO247 := Aside0.mk (Kd.R_lower (Kd.R_new' ho0 (Kd.R_lt (kK HO243))) (below_size zB)); replace HO243 := Aside0.mk (Kd.R_elder' (kK HO243) (Kd.R_base ho0) hb); replace HB := Aside0.mk (below_step zB hb); (try clear hb); (try clear hb2); (try clear hk); (try clear hi); (try clear ho0); obtain ⟨Ao21, co21, eo21⟩ := Kd.R_slice HO247.out; subst eo21) | ((with_reducible refine gC 34 rfl ?_); refine goesL_ (some 14) rfl rfl Tryd.func34 Z13 rfl #[.slice Ao21 t244.length co21] rfl Z2 ?_; (with_reducible refine (runes_Text.calls k _ _ t244 t248 t249 _ ?side1 ?side2 A2.out).mono ?_); (case side1 => repeat (first | exact (Kd.R_reads' HO247.out).2.2 | (with_reducible refine Kd.C_alloc ?_ _) | (with_reducible refine Kd.C_drewN ?_ _) | (with_reducible refine Kd.C_drew ?_))); (case side2 => exact (Kd.R_reads' HO247.out).2.1); rintro e w22 ⟨rfl, hb⟩; refine ⟨_, rfl, ?_⟩; replace HO243 := Aside0.mk (Kd.R_below (kK HO243) hb); replace HO247 := Aside0.mk (Kd.R_below (kK HO247) hb); replace HB := Aside0.mk (below_step zB hb); (try clear hb); (try clear hb2); (try clear hk); (try clear hi)) | (go_at_call 33; (with_reducible refine (runes_Has.calls k _ _ t244 98 false _ ?side1 ?side2 A6.out).mono ?_); (case side1 => repeat (first | exact (Kd.R_reads' HO247.out).2.2 | (with_reducible refine Kd.C_alloc ?_ _) | (with_reducible refine Kd.C_drewN ?_ _) | (with_reducible refine Kd.C_drew ?_))); (case side2 => exact (Kd.R_reads' HO247.out).2.1); rintro e w23 ⟨rfl, hb⟩; replace HO243 := Aside0.mk (Kd.R_below (kK HO243) hb); replace HO247 := Aside0.mk (Kd.R_below (kK HO247) hb); replace HB := Aside0.mk (below_step zB hb); (try clear hb); (try clear hb2); (try clear hk); (try clear hi)))
     go_ret
     exact ⟨Z4, Z1⟩
   ·rw [if_neg c5] at H
    have c5b0 := e3 c5
    have c5b1 := e4 c5
    obtain rfl := Option.some.inj H
    go_enter Tryd.func16, Tryd.ntmps16
    go_wp2_with (first | ((with_reducible refine gate_dst (N := 8) rfl ?_); refine Kd.R_lit k36 _ 36 ?hg (N := 8) ?hd (xs := ([(⟨98, 99⟩ : S36), (⟨97, 97⟩ : S36)] : List (S36))) (inner := [.int .i32 98, .int .i32 99, .int .i32 97, .int .i32 97]) (ok := fun _ => True) (okp := fun _ => True) ?hr ?hp (fun _ hk => hk) trivial (Below.refl _ _) (Nat.le_refl _) (by simp) ?_; (case hd => rfl); (case hg => rfl); (case hr => first | (go_simp; done) | (go_simp; rfl)); (case hp => exact (Reps.c2 (show Kd.M k36 _ _ _ (⟨98, 99⟩ : S36) [.int .i32 98, .int .i32 99] from (k36_mkM _ _ _ (⟨98, 99⟩ : S36) )) (Reps.c2 (show Kd.M k36 _ _ _ (⟨97, 97⟩ : S36) [.int .i32 97, .int .i32 97] from (k36_mkM _ _ _ (⟨97, 97⟩ : S36) )) (Reps.none _ _)))); intro v242 w24 ho25 hb hg_ hnew_; clear hg_ hnew_; (first | rw [← Ny241.out] at ho25 | (simp only [Int.reduceToNat] at ho25; rw [← Ny241.out] at ho25)); have HO243 := Aside0.mk (Kd.R_lower ho25 (below_size zB)); replace HB := Aside0.mk (below_step zB hb); clear hb ho25; obtain ⟨Ao26, co26, eo26⟩ := Kd.R_slice HO243.out; subst eo26) | ((with_reducible refine gC 13 rfl ?_); refine goesL_ (some 9) rfl rfl Tryd.func13 Z13 rfl #[.slice Ao26 y241.length co26] rfl Z2 ?_; (with_reducible refine (runes_Of.calls k _ _ y241 t244 t245 _ ?side1 ?side2 A1.out).mono ?_); (case side1 => repeat (first | exact (Kd.R_reads' HO243.out).2.2 | (with_reducible refine Kd.C_alloc ?_ _) | (with_reducible refine Kd.C_drewN ?_ _) | (with_reducible refine Kd.C_drew ?_))); (case side2 => exact (Kd.R_reads' HO243.out).2.1); rintro e w27 ⟨v246, rfl, ho0, hb⟩; refine ⟨_, rfl, ?_⟩; have HO247 := Aside0.mk (Kd.R_lower (Kd.R_new' ho0 (Kd.R_lt (kK HO243))) (below_size zB)); replace HO243 := Aside0.mk (Kd.R_elder' (kK HO243) (Kd.R_base ho0) hb); replace HB := Aside0.mk (below_step zB hb); (try clear hb); (try clear hb2); (try clear hk); (try clear hi); (try clear ho0); obtain ⟨Ao28, co28, eo28⟩ := Kd.R_slice HO247.out; subst eo28) | ((with_reducible refine gC 34 rfl ?_); refine goesL_ (some 14) rfl rfl Tryd.func34 Z13 rfl #[.slice Ao28 t244.length co28] rfl Z2 ?_; (with_reducible refine (runes_Text.calls k _ _ t244 t248 t249 _ ?side1 ?side2 A2.out).mono ?_); (case side1 => repeat (first | exact (Kd.R_reads' HO247.out).2.2 | (with_reducible refine Kd.C_alloc ?_ _) | (with_reducible refine Kd.C_drewN ?_ _) | (with_reducible refine Kd.C_drew ?_))); (case side2 => exact (Kd.R_reads' HO247.out).2.1); rintro e w29 ⟨rfl, hb⟩; refine ⟨_, rfl, ?_⟩; replace HO243 := Aside0.mk (Kd.R_below (kK HO243) hb); replace HO247 := Aside0.mk (Kd.R_below (kK HO247) hb); replace HB := Aside0.mk (below_step zB hb); (try clear hb); (try clear hb2); (try clear hk); (try clear hi)))
    go_ret
    exact ⟨Z4, Z1⟩
  ·rw [if_neg c4] at H
   have c4b0 := e3 c4
   have c4b1 := e4 c4
   obtain rfl := Option.some.inj H
   go_enter Tryd.func16, Tryd.ntmps16
   go_wp2_with (first | ((with_reducible refine gate_dst (N := 8) rfl ?_); refine Kd.R_lit k36 _ 36 ?hg (N := 8) ?hd (xs := ([(⟨98, 99⟩ : S36), (⟨97, 97⟩ : S36)] : List (S36))) (inner := [.int .i32 98, .int .i32 99, .int .i32 97, .int .i32 97]) (ok := fun _ => True) (okp := fun _ => True) ?hr ?hp (fun _ hk => hk) trivial (Below.refl _ _) (Nat.le_refl _) (by simp) ?_; (case hd => rfl); (case hg => rfl); (case hr => first | (go_simp; done) | (go_simp; rfl)); (case hp => exact (Reps.c2 (show Kd.M k36 _ _ _ (⟨98, 99⟩ : S36) [.int .i32 98, .int .i32 99] from (k36_mkM _ _ _ (⟨98, 99⟩ : S36) )) (Reps.c2 (show Kd.M k36 _ _ _ (⟨97, 97⟩ : S36) [.int .i32 97, .int .i32 97] from (k36_mkM _ _ _ (⟨97, 97⟩ : S36) )) (Reps.none _ _)))); intro v242 w30 ho31 hb hg_ hnew_; clear hg_ hnew_; (first | rw [← Ny241.out] at ho31 | (simp only [Int.reduceToNat] at ho31; rw [← Ny241.out] at ho31)); have HO243 := Aside0.mk (Kd.R_lower ho31 (below_size zB)); replace HB := Aside0.mk (below_step zB hb); clear hb ho31; obtain ⟨Ao32, co32, eo32⟩ := Kd.R_slice HO243.out; subst eo32) | ((with_reducible refine gC 13 rfl ?_); refine goesL_ (some 9) rfl rfl Tryd.func13 Z13 rfl #[.slice Ao32 y241.length co32] rfl Z2 ?_; (with_reducible refine (runes_Of.calls k _ _ y241 t244 t245 _ ?side1 ?side2 A1.out).mono ?_); (case side1 => repeat (first | exact (Kd.R_reads' HO243.out).2.2 | (with_reducible refine Kd.C_alloc ?_ _) | (with_reducible refine Kd.C_drewN ?_ _) | (with_reducible refine Kd.C_drew ?_))); (case side2 => exact (Kd.R_reads' HO243.out).2.1); rintro e w33 ⟨v246, rfl, ho0, hb⟩; refine ⟨_, rfl, ?_⟩; have HO247 := Aside0.mk (Kd.R_lower (Kd.R_new' ho0 (Kd.R_lt (kK HO243))) (below_size zB)); replace HO243 := Aside0.mk (Kd.R_elder' (kK HO243) (Kd.R_base ho0) hb); replace HB := Aside0.mk (below_step zB hb); (try clear hb); (try clear hb2); (try clear hk); (try clear hi); (try clear ho0); obtain ⟨Ao34, co34, eo34⟩ := Kd.R_slice HO247.out; subst eo34) | ((with_reducible refine gC 34 rfl ?_); refine goesL_ (some 14) rfl rfl Tryd.func34 Z13 rfl #[.slice Ao34 t244.length co34] rfl Z2 ?_; (with_reducible refine (runes_Text.calls k _ _ t244 t248 t249 _ ?side1 ?side2 A2.out).mono ?_); (case side1 => repeat (first | exact (Kd.R_reads' HO247.out).2.2 | (with_reducible refine Kd.C_alloc ?_ _) | (with_reducible refine Kd.C_drewN ?_ _) | (with_reducible refine Kd.C_drew ?_))); (case side2 => exact (Kd.R_reads' HO247.out).2.1); rintro e w35 ⟨rfl, hb⟩; refine ⟨_, rfl, ?_⟩; replace HO243 := Aside0.mk (Kd.R_below (kK HO243) hb); replace HO247 := Aside0.mk (Kd.R_below (kK HO247) hb); replace HB := Aside0.mk (below_step zB hb); (try clear hb); (try clear hb2); (try clear hk); (try clear hi)))
   go_ret
   exact ⟨Z4, Z1⟩
 ·rw [if_neg c3] at H
  have c3b0 := e3 c3
  have c3b1 := e4 c3
  obtain rfl := Option.some.inj H
  go_enter Tryd.func16, Tryd.ntmps16
  go_wp2_with (first | ((with_reducible refine gate_dst (N := 8) rfl ?_); refine Kd.R_lit k36 _ 36 ?hg (N := 8) ?hd (xs := ([(⟨98, 99⟩ : S36), (⟨97, 97⟩ : S36)] : List (S36))) (inner := [.int .i32 98, .int .i32 99, .int .i32 97, .int .i32 97]) (ok := fun _ => True) (okp := fun _ => True) ?hr ?hp (fun _ hk => hk) trivial (Below.refl _ _) (Nat.le_refl _) (by simp) ?_; (case hd => rfl); (case hg => rfl); (case hr => first | (go_simp; done) | (go_simp; rfl)); (case hp => exact (Reps.c2 (show Kd.M k36 _ _ _ (⟨98, 99⟩ : S36) [.int .i32 98, .int .i32 99] from (k36_mkM _ _ _ (⟨98, 99⟩ : S36) )) (Reps.c2 (show Kd.M k36 _ _ _ (⟨97, 97⟩ : S36) [.int .i32 97, .int .i32 97] from (k36_mkM _ _ _ (⟨97, 97⟩ : S36) )) (Reps.none _ _)))); intro v242 w36 ho37 hb hg_ hnew_; clear hg_ hnew_; (first | rw [← Ny241.out] at ho37 | (simp only [Int.reduceToNat] at ho37; rw [← Ny241.out] at ho37)); have HO243 := Aside0.mk (Kd.R_lower ho37 (below_size zB)); replace HB := Aside0.mk (below_step zB hb); clear hb ho37; obtain ⟨Ao38, co38, eo38⟩ := Kd.R_slice HO243.out; subst eo38) | ((with_reducible refine gC 13 rfl ?_); refine goesL_ (some 9) rfl rfl Tryd.func13 Z13 rfl #[.slice Ao38 y241.length co38] rfl Z2 ?_; (with_reducible refine (runes_Of.calls k _ _ y241 t244 t245 _ ?side1 ?side2 A1.out).mono ?_); (case side1 => repeat (first | exact (Kd.R_reads' HO243.out).2.2 | (with_reducible refine Kd.C_alloc ?_ _) | (with_reducible refine Kd.C_drewN ?_ _) | (with_reducible refine Kd.C_drew ?_))); (case side2 => exact (Kd.R_reads' HO243.out).2.1); rintro e w39 ⟨v246, rfl, ho0, hb⟩; refine ⟨_, rfl, ?_⟩; have HO247 := Aside0.mk (Kd.R_lower (Kd.R_new' ho0 (Kd.R_lt (kK HO243))) (below_size zB)); replace HO243 := Aside0.mk (Kd.R_elder' (kK HO243) (Kd.R_base ho0) hb); replace HB := Aside0.mk (below_step zB hb); (try clear hb); (try clear hb2); (try clear hk); (try clear hi); (try clear ho0); obtain ⟨Ao40, co40, eo40⟩ := Kd.R_slice HO247.out; subst eo40) | ((with_reducible refine gC 34 rfl ?_); refine goesL_ (some 14) rfl rfl Tryd.func34 Z13 rfl #[.slice Ao40 t244.length co40] rfl Z2 ?_; (with_reducible refine (runes_Text.calls k _ _ t244 t248 t249 _ ?side1 ?side2 A2.out).mono ?_); (case side1 => repeat (first | exact (Kd.R_reads' HO247.out).2.2 | (with_reducible refine Kd.C_alloc ?_ _) | (with_reducible refine Kd.C_drewN ?_ _) | (with_reducible refine Kd.C_drew ?_))); (case side2 => exact (Kd.R_reads' HO247.out).2.1); rintro e w41 ⟨rfl, hb⟩; refine ⟨_, rfl, ?_⟩; replace HO243 := Aside0.mk (Kd.R_below (kK HO243) hb); replace HO247 := Aside0.mk (Kd.R_below (kK HO247) hb); replace HB := Aside0.mk (below_step zB hb); (try clear hb); (try clear hb2); (try clear hk); (try clear hi)))
  go_ret
  exact ⟨Z4, Z1⟩
def quoinlaw02_RunesOf.f (k : Nat) (l0 : List (S36)) : Option (Bool) := (runes_Of.f k l0).bind fun bt252 => ((quoinref02_Of.f k l0).bind fun bt256 => ((quoinref02_Same.f bt252.1 bt256.1).bind fun t260 => (if t260 = true then (if bt252.2 = bt256.2 then ((quoinlaw02_awake.f k).bind fun t261 => (some t261)) else (some false)) else (some false))))
set_option maxHeartbeats 8000000 in
set_option maxRecDepth 100000 in
theorem quoinlaw02_RunesOf.calls (k : Nat) (A0 : Option Addr) (c0 : Nat) (l0 : List (S36)) (r : Bool) (w : World) (hr0 : Kd.C k36 w A0 l0.length l0) (hc0 : l0.length ≤ c0) (h : quoinlaw02_RunesOf.f k l0 = some r) :
  Calls Tryd.prog 3 #[.slice A0 l0.length c0] w fun e w' => e = .returned (.bool r) ∧ Below w.heap.size w w' := by
 have HR0 := Aside0.mk hr0
 have HC0 := Aside0.mk hc0
 clear hr0 hc0
 have HB := Aside0.mk (Below.refl w.heap.size w)
 have H : ((runes_Of.f k l0).bind fun bt252 => ((quoinref02_Of.f k l0).bind fun bt256 => ((quoinref02_Same.f bt252.1 bt256.1).bind fun t260 => (if t260 = true then (if bt252.2 = bt256.2 then ((quoinlaw02_awake.f k).bind fun t261 => (some t261)) else (some false)) else (some false))))) = some r := h
 clear h
 replace H := bS H
 obtain ⟨⟨t252, t253⟩, A2, H⟩ := H
 try dsimp only at H
 replace H := bS H
 obtain ⟨⟨t256, t259⟩, A3, H⟩ := H
 try dsimp only at H
 replace H := bS H
 obtain ⟨t260, A4, H⟩ := H
 try dsimp only at H
 by_cases c5 : t260 = true
 ·subst c5
  have H1 : (if t253 = t259 then ((quoinlaw02_awake.f k).bind fun t261 => (some t261)) else (some false)) = some r := by rw [if_pos rfl] at H; exact H
  clear H
  have H := H1
  clear H1
  by_cases c6 : t253 = t259
  ·rw [if_pos c6] at H
   have c6b0 := e1 c6
   have c6b1 := e2 c6
   clear c6
   replace H := bS H
   obtain ⟨t261, A7, H⟩ := H
   try dsimp only at H
   obtain rfl := Option.some.inj H
   go_enter Tryd.func3, Tryd.ntmps3
   go_wp2_with (first | ((with_reducible refine gC 13 rfl ?_); refine goesL_ (some 9) rfl rfl Tryd.func13 Z13 rfl #[.slice A0 l0.length c0] rfl Z2 ?_; (with_reducible refine (runes_Of.calls k _ _ l0 t252 t253 _ ?side1 ?side2 A2.out).mono ?_); (case side1 => repeat (first | exact HR0.out | (with_reducible refine Kd.C_alloc ?_ _) | (with_reducible refine Kd.C_drewN ?_ _) | (with_reducible refine Kd.C_drew ?_))); (case side2 => exact HC0.out); rintro e w8 ⟨v254, rfl, ho0, hb⟩; refine ⟨_, rfl, ?_⟩; have HO255 := Aside0.mk (Kd.R_lower ho0 (below_size zB)); replace HB := Aside0.mk (below_step zB hb); (try clear hb); (try clear hb2); (try clear hk); (try clear hi); (try clear ho0)) | ((with_reducible refine gC 14 rfl ?_); refine goesL_ (some 14) rfl rfl Tryd.func14 Z13 rfl #[.slice A0 l0.length c0] rfl Z2 ?_; (with_reducible refine (quoinref02_Of.calls k (fun k_ => k_ < w.heap.size) _ _ l0 t256 t259 _ ?side1 A3.out).mono ?_); (case side1 => exact Kd.V_mk HC0.out (Kd.F_below (Kd.C_F k36_heap HR0.out) zB)); rintro e w9 ⟨v257, rfl, ho0, hb⟩; refine ⟨_, rfl, ?_⟩; have HO258 := Aside0.mk (Kd.R_lower (Kd.R_new' (Kd.R_mono (ok' := fun k_ => True) ho0 (fun _ hk_ => trivial)) (Kd.R_lt (kK HO255))) (below_size zB)); replace HO255 := Aside0.mk (Kd.R_elder' (kK HO255) (Kd.R_base ho0) hb); replace HB := Aside0.mk (below_step zB hb); (try clear hb); (try clear hb2); (try clear hk); (try clear hi); (try clear ho0); obtain ⟨Ao10, co10, eo10⟩ := Kd.R_slice HO255.out; subst eo10; obtain ⟨Ao11, co11, eo11⟩ := Kd.R_slice HO258.out; subst eo11) | ((with_reducible refine gC 15 rfl ?_); refine goesL_ (some 19) rfl rfl Tryd.func15 Z13 rfl #[.slice Ao10 t252.length co10, .slice Ao11 t256.length co11] rfl Z2 ?_; (with_reducible refine (quoinref02_Same.calls _ _ t252 _ _ t256 true _ ?side1 ?side2 ?side3 ?side4 A4.out).mono ?_); (case side1 => repeat (first | exact (Kd.R_reads' HO255.out).2.2 | (with_reducible refine Kd.C_alloc ?_ _) | (with_reducible refine Kd.C_drewN ?_ _) | (with_reducible refine Kd.C_drew ?_))); (case side2 => exact (Kd.R_reads' HO255.out).2.1); (case side3 => repeat (first | exact (Kd.R_reads' HO258.out).2.2 | (with_reducible refine Kd.C_alloc ?_ _) | (with_reducible refine Kd.C_drewN ?_ _) | (with_reducible refine Kd.C_drew ?_))); (case side4 => exact (Kd.R_reads' HO258.out).2.1); rintro e w12 ⟨rfl, hb⟩; refine ⟨_, rfl, ?_⟩; replace HO255 := Aside0.mk (Kd.R_below (kK HO255) hb); replace HO258 := Aside0.mk (Kd.R_below (kK HO258) hb); replace HB := Aside0.mk (below_step zB hb); (try clear hb); (try clear hb2); (try clear hk); (try clear hi)) | (go_at_call 16; (with_reducible refine (quoinlaw02_awake.calls A7.out).mono ?_); rintro e w13 ⟨rfl, hb⟩; replace HO255 := Aside0.mk (Kd.R_below (kK HO255) hb); replace HO258 := Aside0.mk (Kd.R_below (kK HO258) hb); replace HB := Aside0.mk (below_step zB hb); (try clear hb); (try clear hb2); (try clear hk); (try clear hi)))
   go_ret
   exact ⟨Z4, Z1⟩
  ·rw [if_neg c6] at H
   have c6b0 := e3 c6
   have c6b1 := e4 c6
   obtain rfl := Option.some.inj H
   go_enter Tryd.func3, Tryd.ntmps3
   go_wp2_with (first | ((with_reducible refine gC 13 rfl ?_); refine goesL_ (some 9) rfl rfl Tryd.func13 Z13 rfl #[.slice A0 l0.length c0] rfl Z2 ?_; (with_reducible refine (runes_Of.calls k _ _ l0 t252 t253 _ ?side1 ?side2 A2.out).mono ?_); (case side1 => repeat (first | exact HR0.out | (with_reducible refine Kd.C_alloc ?_ _) | (with_reducible refine Kd.C_drewN ?_ _) | (with_reducible refine Kd.C_drew ?_))); (case side2 => exact HC0.out); rintro e w14 ⟨v254, rfl, ho0, hb⟩; refine ⟨_, rfl, ?_⟩; have HO255 := Aside0.mk (Kd.R_lower ho0 (below_size zB)); replace HB := Aside0.mk (below_step zB hb); (try clear hb); (try clear hb2); (try clear hk); (try clear hi); (try clear ho0)) | ((with_reducible refine gC 14 rfl ?_); refine goesL_ (some 14) rfl rfl Tryd.func14 Z13 rfl #[.slice A0 l0.length c0] rfl Z2 ?_; (with_reducible refine (quoinref02_Of.calls k (fun k_ => k_ < w.heap.size) _ _ l0 t256 t259 _ ?side1 A3.out).mono ?_); (case side1 => exact Kd.V_mk HC0.out (Kd.F_below (Kd.C_F k36_heap HR0.out) zB)); rintro e w15 ⟨v257, rfl, ho0, hb⟩; refine ⟨_, rfl, ?_⟩; have HO258 := Aside0.mk (Kd.R_lower (Kd.R_new' (Kd.R_mono (ok' := fun k_ => True) ho0 (fun _ hk_ => trivial)) (Kd.R_lt (kK HO255))) (below_size zB)); replace HO255 := Aside0.mk (Kd.R_elder' (kK HO255) (Kd.R_base ho0) hb); replace HB := Aside0.mk (below_step zB hb); (try clear hb); (try clear hb2); (try clear hk); (try clear hi); (try clear ho0); obtain ⟨Ao16, co16, eo16⟩ := Kd.R_slice HO255.out; subst eo16; obtain ⟨Ao17, co17, eo17⟩ := Kd.R_slice HO258.out; subst eo17) | ((with_reducible refine gC 15 rfl ?_); refine goesL_ (some 19) rfl rfl Tryd.func15 Z13 rfl #[.slice Ao16 t252.length co16, .slice Ao17 t256.length co17] rfl Z2 ?_; (with_reducible refine (quoinref02_Same.calls _ _ t252 _ _ t256 true _ ?side1 ?side2 ?side3 ?side4 A4.out).mono ?_); (case side1 => repeat (first | exact (Kd.R_reads' HO255.out).2.2 | (with_reducible refine Kd.C_alloc ?_ _) | (with_reducible refine Kd.C_drewN ?_ _) | (with_reducible refine Kd.C_drew ?_))); (case side2 => exact (Kd.R_reads' HO255.out).2.1); (case side3 => repeat (first | exact (Kd.R_reads' HO258.out).2.2 | (with_reducible refine Kd.C_alloc ?_ _) | (with_reducible refine Kd.C_drewN ?_ _) | (with_reducible refine Kd.C_drew ?_))); (case side4 => exact (Kd.R_reads' HO258.out).2.1); rintro e w18 ⟨rfl, hb⟩; refine ⟨_, rfl, ?_⟩; replace HO255 := Aside0.mk (Kd.R_below (kK HO255) hb); replace HO258 := Aside0.mk (Kd.R_below (kK HO258) hb); replace HB := Aside0.mk (below_step zB hb); (try clear hb); (try clear hb2); (try clear hk); (try clear hi)))
   go_ret
   exact ⟨Z4, Z1⟩
 ·replace c5 := Bool.eq_false_iff.mpr c5
  subst c5
  have H1 : (some false) = some r := by rw [if_neg (show ¬ (false = true) by decide)] at H; exact H
  clear H
  have H := H1
  clear H1
  obtain rfl := Option.some.inj H
  go_enter Tryd.func3, Tryd.ntmps3
  go_wp2_with (first | ((with_reducible refine gC 13 rfl ?_); refine goesL_ (some 9) rfl rfl Tryd.func13 Z13 rfl #[.slice A0 l0.length c0] rfl Z2 ?_; (with_reducible refine (runes_Of.calls k _ _ l0 t252 t253 _ ?side1 ?side2 A2.out).mono ?_); (case side1 => repeat (first | exact HR0.out | (with_reducible refine Kd.C_alloc ?_ _) | (with_reducible refine Kd.C_drewN ?_ _) | (with_reducible refine Kd.C_drew ?_))); (case side2 => exact HC0.out); rintro e w19 ⟨v254, rfl, ho0, hb⟩; refine ⟨_, rfl, ?_⟩; have HO255 := Aside0.mk (Kd.R_lower ho0 (below_size zB)); replace HB := Aside0.mk (below_step zB hb); (try clear hb); (try clear hb2); (try clear hk); (try clear hi); (try clear ho0)) | ((with_reducible refine gC 14 rfl ?_); refine goesL_ (some 14) rfl rfl Tryd.func14 Z13 rfl #[.slice A0 l0.length c0] rfl Z2 ?_; (with_reducible refine (quoinref02_Of.calls k (fun k_ => k_ < w.heap.size) _ _ l0 t256 t259 _ ?side1 A3.out).mono ?_); (case side1 => exact Kd.V_mk HC0.out (Kd.F_below (Kd.C_F k36_heap HR0.out) zB)); rintro e w20 ⟨v257, rfl, ho0, hb⟩; refine ⟨_, rfl, ?_⟩; have HO258 := Aside0.mk (Kd.R_lower (Kd.R_new' (Kd.R_mono (ok' := fun k_ => True) ho0 (fun _ hk_ => trivial)) (Kd.R_lt (kK HO255))) (below_size zB)); replace HO255 := Aside0.mk (Kd.R_elder' (kK HO255) (Kd.R_base ho0) hb); replace HB := Aside0.mk (below_step zB hb); (try clear hb); (try clear hb2); (try clear hk); (try clear hi); (try clear ho0); obtain ⟨Ao21, co21, eo21⟩ := Kd.R_slice HO255.out; subst eo21; obtain ⟨Ao22, co22, eo22⟩ := Kd.R_slice HO258.out; subst eo22) | ((with_reducible refine gC 15 rfl ?_); refine goesL_ (some 19) rfl rfl Tryd.func15 Z13 rfl #[.slice Ao21 t252.length co21, .slice Ao22 t256.length co22] rfl Z2 ?_; (with_reducible refine (quoinref02_Same.calls _ _ t252 _ _ t256 false _ ?side1 ?side2 ?side3 ?side4 A4.out).mono ?_); (case side1 => repeat (first | exact (Kd.R_reads' HO255.out).2.2 | (with_reducible refine Kd.C_alloc ?_ _) | (with_reducible refine Kd.C_drewN ?_ _) | (with_reducible refine Kd.C_drew ?_))); (case side2 => exact (Kd.R_reads' HO255.out).2.1); (case side3 => repeat (first | exact (Kd.R_reads' HO258.out).2.2 | (with_reducible refine Kd.C_alloc ?_ _) | (with_reducible refine Kd.C_drewN ?_ _) | (with_reducible refine Kd.C_drew ?_))); (case side4 => exact (Kd.R_reads' HO258.out).2.1); rintro e w23 ⟨rfl, hb⟩; refine ⟨_, rfl, ?_⟩; replace HO255 := Aside0.mk (Kd.R_below (kK HO255) hb); replace HO258 := Aside0.mk (Kd.R_below (kK HO258) hb); replace HB := Aside0.mk (below_step zB hb); (try clear hb); (try clear hb2); (try clear hk); (try clear hi)))
  go_ret
  exact ⟨Z4, Z1⟩
def quoinlaw02_RunesOf.Pure : Prop := ∀ (l0 : List (S36)), l0.length ≤ 9223372036854775807 → l0.length * 8 ≤ 140737488351232 → (∀ x ∈ l0, (Lit.int .i32 x.f0).wf = true ∧ (Lit.int .i32 x.f1).wf = true) → ∃ k, quoinlaw02_RunesOf.f k l0 = some true
theorem quoinlaw02_RunesOf.walk (P : quoinlaw02_RunesOf.Pure) (A0 : Option Addr) (c0 : Nat) (l0 : List (S36)) (w : World) (hr0 : Kd.C k36 w A0 l0.length l0) (hc0 : l0.length ≤ c0) (w0_0 : l0.length ≤ 9223372036854775807) (w0_1 : l0.length * 8 ≤ 140737488351232) (w0_2 : (∀ x ∈ l0, (Lit.int .i32 x.f0).wf = true ∧ (Lit.int .i32 x.f1).wf = true)) :
  Calls Tryd.prog 3 #[.slice A0 l0.length c0] w fun e w' => e = .returned (.bool true) ∧ Below w.heap.size w w' := by
 obtain ⟨k, h⟩ := P l0 w0_0 w0_1 w0_2
 refine (quoinlaw02_RunesOf.calls k _ _ l0 true w hr0 hc0 h).mono ?_
 rintro e w' ⟨rfl, hd⟩
 exact ⟨rfl, hd⟩
end Go.Proofs.YtfnkboilepgmoaaDoor.R
