import Derived.Test.YtcajiapjdlphmaaGPureBase
import Derived.Lib.IndexAny
import Derived.Test.YtcajiapjdlphmaaGPre
import Derived.Test.YtcajiapjdlphmaaGabcdefx10
import Derived.Test.YtcajiapjdlphmaaGabcdefx9
import Derived.Test.YtcajiapjdlphmaaGabfx0
import Derived.Test.YtcajiapjdlphmaaGbfx0
import Derived.Test.YtcajiapjdlphmaaGbfx1
import Derived.Test.YtcajiapjdlphmaaGbfx2
import Derived.Test.YtcajiapjdlphmaaGbfx3
import Derived.Test.YtcajiapjdlphmaaGbx0
namespace Go.Proofs.Ytcajiapjdlphmaa.Pure
open Go.RowKit Go.Proofs.Ytcajiapjdlphmaa.H Go.Proofs.YtcajiapjdlphmaaW.PrintWords Go.Proofs.YtcajiapjdlphmaaW.PrintLast
set_option maxRecDepth 100000
def right (s : Nat) : Int → List S36 → Bool
  | _, [] => true
  | p, t :: l => decide (2 ≤ t.f0) && decide (t.f0 < 84) && decide (p ≤ t.f1) && decide (t.f1 ≤ t.f2) && decide (t.f2 ≤ (s : Int)) && right s t.f2 l
def code (b : Bool) : Int := if b then 0 else 71
theorem check_loop (ks : List ByteArray) (hk : ks.length = 84) (a : ByteArray) (l : List S36) (hl : l.length ≤ 65536) (n : Nat) : ∀ (i : Nat) (p : Int), i + n = l.length → ∃ j, Ev (fun k => token_Check.l0 k ks a p l (l.length : Int) i) (j, code (right a.size p (l.drop i))) := by
  induction n with
  | zero =>
    intro i p hi
    refine ⟨0, Ev.succ ?_⟩
    rw [List.drop_eq_nil_of_le (by omega)]
    simp only [token_Check.l0, if_neg (show ¬ ((i : Nat) : Int) < ((l.length : Nat) : Int) by omega), right, code, if_true]
    exact Ev.now _
  | succ n ih =>
    intro i p hi
    have hil : i < l.length := by omega
    rw [List.drop_eq_getElem_cons hil]
    obtain ⟨t, ht⟩ : ∃ t, l[i] = t := ⟨_, rfl⟩
    obtain ⟨j, hj⟩ := ih (i + 1) t.f2 (by omega)
    have key : ∃ j, Ev (fun k => token_Check.l0 (k + 1) ks a p l (l.length : Int) i) (j, code (right a.size p (t :: l.drop (i + 1)))) := by
      simp only [token_Check.l0, if_pos (show ((i : Nat) : Int) < ((l.length : Nat) : Int) by omega), if_pos (show (0 : Int) ≤ ((i : Nat) : Int) by omega), rd_at l i hil, ht, hk, right]
      by_cases c1 : t.f0 < 2
      · simp only [if_pos c1, decide_eq_false (show ¬ 2 ≤ t.f0 by omega), Bool.false_and, code]
        exact ⟨_, Ev.now _⟩
      by_cases c2 : t.f0 ≥ ((84 : Nat) : Int)
      · simp only [if_neg c1, if_pos c2, decide_eq_false (show ¬ t.f0 < 84 by omega), Bool.and_false, Bool.false_and, code]
        exact ⟨_, Ev.now _⟩
      by_cases c3 : t.f1 < p
      · simp only [if_neg c1, if_neg c2, if_pos c3, decide_eq_false (show ¬ p ≤ t.f1 by omega), Bool.and_false, Bool.false_and, code]
        exact ⟨_, Ev.now _⟩
      by_cases c4 : t.f2 < t.f1
      · simp only [if_neg c1, if_neg c2, if_neg c3, if_pos c4, decide_eq_false (show ¬ t.f1 ≤ t.f2 by omega), Bool.and_false, Bool.false_and, code]
        exact ⟨_, Ev.now _⟩
      by_cases c5 : t.f2 > (a.size : Int)
      · simp only [if_neg c1, if_neg c2, if_neg c3, if_neg c4, if_pos c5, decide_eq_false (show ¬ t.f2 ≤ (a.size : Int) by omega), Bool.and_false, Bool.false_and, code]
        exact ⟨_, Ev.now _⟩
      simp only [if_neg c1, if_neg c2, if_neg c3, if_neg c4, if_neg c5, decide_eq_true (show 2 ≤ t.f0 by omega), decide_eq_true (show t.f0 < 84 by omega), decide_eq_true (show p ≤ t.f1 by omega), decide_eq_true (show t.f1 ≤ t.f2 by omega), decide_eq_true (show t.f2 ≤ (a.size : Int) by omega), Bool.true_and, wr (show -9223372036854775808 ≤ (i : Int) + 1 by omega) (show (i : Int) + 1 ≤ 9223372036854775807 by omega)]
      exact ⟨j, hj⟩
    rw [ht]
    obtain ⟨j', h'⟩ := key
    exact ⟨j', Ev.succ h'⟩
theorem good_at : token_Kinds.good 120 KS = true := by decide +kernel
theorem tkinds_ev : Ev (fun k => token_Kinds.f k KS) 0 := by
  refine Ev.of (fun k => token_Kinds.mono KS k) (k := 120) ?_
  unfold token_Kinds.f
  rw [if_pos good_at]
def checkOf (a : ByteArray) (l : List S36) : Bool := decide (l.length ≤ 65536) && right a.size 0 l
theorem check_ev (a : ByteArray) (l : List S36) : ∃ j, Ev (fun k => token_Check.f k KS a l) (j, code (checkOf a l)) := by
  unfold token_Check.f checkOf
  by_cases c : (l.length : Int) > 65536
  · refine ⟨65536, Ev.bind tkinds_ev ?_⟩
    simp only [if_true, if_pos c, decide_eq_false (show ¬ l.length ≤ 65536 by omega), Bool.false_and, code]
    exact Ev.now _
  · obtain ⟨j, hj⟩ := check_loop KS KS_len a l (by omega) l.length 0 0 (by omega)
    refine ⟨j, Ev.bind tkinds_ev ?_⟩
    simp only [if_true, if_neg c, decide_eq_true (show l.length ≤ 65536 by omega), Bool.true_and]
    exact hj
theorem rtk_at : quoinref07_Kinds.f 8000 KS = some true := by decide +kernel
theorem rtk_ev : Ev (fun k => quoinref07_Kinds.f k KS) true := Ev.of (fun k => quoinref07_Kinds.mono KS k) rtk_at
def before (l : List S36) (i : Nat) : Int := if i = 0 then 0 else (rd_T36 l ((i : Int) - 1)).f2
theorem five (p1 p2 p3 p4 q : Prop) [Decidable p1] [Decidable p2] [Decidable p3] [Decidable p4] [Decidable q] : (if p1 then (if p2 then (if p3 then (if p4 then some (decide q) else some false) else some false) else some false) else some false) = some (decide p1 && decide p2 && decide p3 && decide p4 && decide q) := by
  by_cases h1 : p1 <;> by_cases h2 : p2 <;> by_cases h3 : p3 <;> by_cases h4 : p4 <;> simp [h1, h2, h3, h4]
theorem right_at (a : ByteArray) (l : List S36) (hl : l.length ≤ 65536) (i : Nat) (hil : i < l.length) : quoinref07_right.f 84 a l i = some (decide (2 ≤ l[i].f0) && decide (l[i].f0 < 84) && decide (before l i ≤ l[i].f1) && decide (l[i].f1 ≤ l[i].f2) && decide (l[i].f2 ≤ (a.size : Int))) := by
  unfold quoinref07_right.f before
  rw [if_pos (show (0 : Int) ≤ ((i : Nat) : Int) by omega), if_pos (show ((i : Nat) : Int) < ((l.length : Nat) : Int) by omega), rd_at l i hil]
  by_cases c : i = 0
  · rw [if_neg (show ¬ ((i : Nat) : Int) > 0 by omega), if_pos c]
    exact five _ _ _ _ _
  · rw [if_pos (show (i : Int) > 0 by omega), if_neg c, wr (show -9223372036854775808 ≤ (i : Int) - 1 by omega) (show (i : Int) - 1 ≤ 9223372036854775807 by omega), if_pos (show (0 : Int) ≤ (i : Int) - 1 by omega), if_pos (show (i : Int) - 1 < ((l.length : Nat) : Int) by omega)]
    exact five _ _ _ _ _
theorem rcheck_loop (a : ByteArray) (l : List S36) (hl : l.length ≤ 65536) (n : Nat) : ∀ (i : Nat), i + n = l.length → ∃ j, Ev (fun k => quoinref07_Check.l0 k KS a l i) (j, code (right a.size (before l i) (l.drop i))) := by
  induction n with
  | zero =>
    intro i hi
    refine ⟨0, Ev.succ ?_⟩
    rw [List.drop_eq_nil_of_le (by omega)]
    simp only [quoinref07_Check.l0, if_neg (show ¬ ((i : Nat) : Int) < ((l.length : Nat) : Int) by omega), right, code, if_true]
    exact Ev.now _
  | succ n ih =>
    intro i hi
    have hil : i < l.length := by omega
    obtain ⟨j, hj⟩ := ih (i + 1) (by omega)
    rw [List.drop_eq_getElem_cons hil]
    have hb : before l (i + 1) = l[i].f2 := by
      unfold before
      rw [if_neg (by omega), show ((i + 1 : Nat) : Int) - 1 = (i : Int) by omega, rd_at l i hil]
    rw [hb] at hj
    have hr := right_at a l hl i hil
    have hK : ((KS.length : Nat) : Int) = 84 := by rw [KS_len]; rfl
    have key : ∃ j, Ev (fun k => quoinref07_Check.l0 (k + 1) KS a l i) (j, code (right a.size (before l i) (l[i] :: l.drop (i + 1)))) := by
      simp only [quoinref07_Check.l0, if_pos (show ((i : Nat) : Int) < ((l.length : Nat) : Int) by omega), hK, hr, right]
      obtain ⟨b, hbb⟩ : ∃ b, (decide (2 ≤ l[i].f0) && decide (l[i].f0 < 84) && decide (before l i ≤ l[i].f1) && decide (l[i].f1 ≤ l[i].f2) && decide (l[i].f2 ≤ (a.size : Int))) = b := ⟨_, rfl⟩
      rw [hbb]
      cases b with
      | false => exact ⟨i, Ev.bind (Ev.now _) (by simp only [Bool.false_eq_true, if_false, Bool.false_and, code]; exact Ev.now _)⟩
      | true =>
        refine ⟨j, Ev.bind (Ev.now _) ?_⟩
        simp only [if_true, Bool.true_and, wr (show -9223372036854775808 ≤ (i : Int) + 1 by omega) (show (i : Int) + 1 ≤ 9223372036854775807 by omega)]
        exact hj
    obtain ⟨j', h'⟩ := key
    exact ⟨j', Ev.succ h'⟩
theorem rcheck_ev (a : ByteArray) (l : List S36) : ∃ j, Ev (fun k => quoinref07_Check.f k KS a l) (j, code (checkOf a l)) := by
  unfold quoinref07_Check.f checkOf
  by_cases c : (l.length : Int) > 65536
  · refine ⟨65536, Ev.bind rtk_ev ?_⟩
    simp only [if_true, if_pos c, decide_eq_false (show ¬ l.length ≤ 65536 by omega), Bool.false_and, code]
    exact Ev.now _
  · obtain ⟨j, hj⟩ := rcheck_loop a l (by omega) l.length 0 (by omega)
    refine ⟨j, Ev.bind rtk_ev ?_⟩
    simp only [if_true, if_neg c, decide_eq_true (show l.length ≤ 65536 by omega), Bool.true_and]
    exact hj
def linedOf (a : ByteArray) (t : S36) : Bool := if t.f0 = 81 then true else if t.f0 = 83 then decide ((10 : UInt8) ∈ (a.extract t.f1.toNat t.f2.toNat).data.toList) else false
def ender (l : List S36) : S36 := ⟨semi, (rd_T36 l ((l.length : Int) - 1)).f2, (rd_T36 l ((l.length : Int) - 1)).f2⟩
  where semi : Int := (kindOf ⟨#[59]⟩).1
def ins (a : ByteArray) : List S36 → List S36 → Bool → List S36
  | [], o, b => if b then o ++ [ender o] else o
  | t :: l, o, b => if t.f0 < 81 then ins a l (o ++ [t]) (followsOf t.f0) else if b && linedOf a t then ins a l (o ++ [ender o]) false else ins a l o b
def insOf (a : ByteArray) (l : List S36) : List S36 × Int := if checkOf a l then (if 65536 < ((ins a l [] false).length : Int) then ([], 71) else (ins a l [] false, 0)) else ([], 71)
theorem semi_at : (kindOf ⟨#[59]⟩).1 = ender.semi := rfl
theorem semi_num : num ⟨#[115, 101, 109, 105]⟩ = ender.semi := by decide +kernel
theorem semi_all : quoinref26_number.f 220 ⟨#[115, 101, 109, 105]⟩ = some ender.semi := by decide +kernel
theorem semi_ev : Ev (fun k => quoinref26_number.f k ⟨#[115, 101, 109, 105]⟩) ender.semi := number_ev semi_all
theorem newl_ev : Ev (fun k => quoinref26_number.f k ⟨#[110, 101, 119, 108, 105, 110, 101]⟩) 81 := number_ev (k := 220) (by decide +kernel)
theorem comm_ev : Ev (fun k => quoinref26_number.f k ⟨#[99, 111, 109, 109, 101, 110, 116]⟩) 83 := number_ev (k := 220) (by decide +kernel)
theorem rd_last (o : List S36) (t : S36) : rd_T36 (o ++ [t]) (((o ++ [t]).length : Int) - 1) = t := by
  have : (((o ++ [t]).length : Nat) : Int) - 1 = ((o.length : Nat) : Int) := by simp
  rw [this, rd_at (o ++ [t]) o.length (by simp)]
  simp
def Mark (o : List S36) (b : Bool) : Prop := b = true → ∃ o' t, o = o' ++ [t] ∧ (Lit.int .i64 t.f0).wf = true
def marked (o : List S36) (b : Bool) : Bool := b && followsOf (rd_T36 o ((o.length : Int) - 1)).f0
def ended (o : List S36) (b : Bool) : List S36 := if b then o ++ [ender o] else o
theorem endf_ev (o : List S36) (b : Bool) (hm : Mark o b) (hl : o.length < 5864062014805) : Ev (fun k => goscan_Insert.endf k ender.semi o b) (ended o (marked o b)) := by
  unfold goscan_Insert.endf marked ended
  cases b with
  | false => simp only [Bool.false_eq_true, if_false, Bool.false_and]; exact Ev.now _
  | true =>
    obtain ⟨o', t, rfl, hw⟩ := hm rfl
    simp only [if_true, if_pos (show 0 < (o' ++ [t]).length by simp), if_pos hl, Bool.true_and]
    refine Ev.bind (follows_ev _ (by rw [rd_last]; exact hw)) ?_
    cases followsOf (rd_T36 (o' ++ [t]) (((o' ++ [t]).length : Int) - 1)).f0 with
    | true => simp only [if_true]; exact Ev.now _
    | false => simp only [Bool.false_eq_true, if_false]; exact Ev.now _
theorem contains_nl (x : ByteArray) : strings_Contains.f x ⟨#[10]⟩ = some (decide ((10 : UInt8) ∈ x.data.toList)) := by
  unfold strings_Contains.f strings_Index.f stringslite_Index.f
  have : Lib.indexByte x.data.toList ((⟨#[10]⟩ : ByteArray).get! 0) = Lib.indexByte x.data.toList 10 := rfl
  rw [if_pos (show (⟨#[10]⟩ : ByteArray).size = 1 from rfl), this]
  simp only [Option.bind_some]
  have h := Lib.contains_iff_indexByte x.data.toList 10
  rw [List.contains_eq_mem] at h
  simp only [ge_iff_le]
  rw [h]
theorem ended_len (o : List S36) (b : Bool) : (ended o b).length ≤ o.length + 1 := by
  unfold ended; split <;> simp
theorem insert_loop (a : ByteArray) : ∀ (l o : List S36) (b : Bool) (p : Int), 0 ≤ p → right a.size p l = true → Mark o b → o.length + 2 * l.length ≤ 5864062014800 → ∃ s, Ev (fun k => goscan_Insert.loop k 81 ender.semi a l (o, b)) s ∧ Ev (fun k => goscan_Insert.endf k ender.semi s.1 s.2) (ins a l o (marked o b))
  | [], o, b, p, _, _, hm, hl => by
    refine ⟨(o, b), by simp only [goscan_Insert.loop]; exact Ev.now _, ?_⟩
    have := endf_ev o b hm (by simp at hl; omega)
    simpa only [ins, ended] using this
  | t :: l, o, b, p, hp, hr, hm, hl => by
    simp only [right, Bool.and_eq_true, decide_eq_true_eq] at hr
    obtain ⟨⟨⟨⟨⟨r1, r2⟩, r3⟩, r4⟩, r5⟩, hr'⟩ := hr
    simp only [List.length_cons] at hl
    have he := endf_ev o b hm (by omega)
    have hel := ended_len o (marked o b)
    have ih := fun o b (hm : Mark o b) (hl : o.length + 2 * l.length ≤ 5864062014800) => insert_loop a l o b t.f2 (by omega) hr' hm hl
    have nomark : ∀ o, Mark o false := fun o h => absurd h (by simp)
    have end_step : linedOf a t = true → ¬ t.f0 < 81 → ∃ s, Ev (fun k => (goscan_Insert.endf k ender.semi o b).bind fun o => goscan_Insert.loop k 81 ender.semi a l (o, false)) s ∧ Ev (fun k => goscan_Insert.endf k ender.semi s.1 s.2) (ins a (t :: l) o (marked o b)) := by
      intro hlin c1
      obtain ⟨s, h1, h2⟩ := ih (ended o (marked o b)) false (nomark _) (by omega)
      refine ⟨s, Ev.bind he h1, ?_⟩
      have e : ins a (t :: l) o (marked o b) = ins a l (ended o (marked o b)) (marked (ended o (marked o b)) false) := by
        simp only [ins, if_neg c1, hlin, Bool.and_true]
        show _ = ins a l (ended o (marked o b)) false
        unfold ended
        cases marked o b <;> simp
      rw [e]; exact h2
    simp only [goscan_Insert.loop]
    by_cases c1 : t.f0 < 81
    · simp only [if_pos c1, if_pos (show o.length < 5864062014805 by omega)]
      obtain ⟨s, h1, h2⟩ := ih (o ++ [t]) true (fun _ => ⟨o, t, rfl, wf_of (by omega) (by omega)⟩) (by simp; omega)
      refine ⟨s, h1, ?_⟩
      have e : ins a (t :: l) o (marked o b) = ins a l (o ++ [t]) (marked (o ++ [t]) true) := by
        simp only [ins, if_pos c1, marked, Bool.true_and, rd_last]
      rw [e]; exact h2
    simp only [if_neg c1]
    by_cases c2 : t.f0 = 81
    · simp only [if_pos c2]
      exact end_step (by simp [linedOf, c2]) c1
    simp only [if_neg c2, show wrap64 (81 + 2) = 83 by decide +kernel]
    by_cases c3 : t.f0 = 83
    · simp only [if_pos c3, if_pos (show 0 ≤ t.f1 by omega), if_pos r4, if_pos r5, contains_nl, Option.bind_some]
      by_cases c4 : (10 : UInt8) ∈ (a.extract t.f1.toNat t.f2.toNat).data.toList
      · simp only [decide_eq_true c4, if_true]
        exact end_step (by simp only [linedOf, if_neg c2, if_pos c3, decide_eq_true c4]) c1
      · simp only [decide_eq_false c4, Bool.false_eq_true, if_false]
        obtain ⟨s, h1, h2⟩ := ih o b hm (by omega)
        refine ⟨s, h1, ?_⟩
        have e : ins a (t :: l) o (marked o b) = ins a l o (marked o b) := by
          simp only [ins, if_neg c1, linedOf, if_neg c2, if_pos c3, decide_eq_false c4, Bool.and_false, Bool.false_eq_true, if_false]
        rw [e]; exact h2
    · simp only [if_neg c3]
      obtain ⟨s, h1, h2⟩ := ih o b hm (by omega)
      refine ⟨s, h1, ?_⟩
      have e : ins a (t :: l) o (marked o b) = ins a l o (marked o b) := by
        simp only [ins, if_neg c1, linedOf, if_neg c2, if_neg c3, Bool.and_false, Bool.false_eq_true, if_false]
      rw [e]; exact h2
theorem insert_ev (a : ByteArray) (l : List S36) : Ev (fun k => goscan_Insert.f k a l) (insOf a l) := by
  unfold goscan_Insert.f insOf
  obtain ⟨j, hj⟩ := check_ev a l
  refine Ev.bind kinds_ev (Ev.bind hj ?_)
  by_cases c : checkOf a l = true
  · have c' := c
    simp only [checkOf, Bool.and_eq_true, decide_eq_true_eq] at c'
    simp only [c, code, if_true]
    refine Ev.bind newline_ev (Ev.bind (kind_ev _) ?_)
    obtain ⟨s, h1, h2⟩ := insert_loop a l [] false 0 (by omega) c'.2 (fun h => absurd h (by simp)) (by simp; omega)
    refine Ev.bind h1 (Ev.bind h2 ?_)
    show Ev _ (if 65536 < ((ins a l [] (marked [] false)).length : Int) then ([], 71) else (ins a l [] (marked [] false), 0))
    split
    · exact Ev.now _
    · exact Ev.now _
  · rw [Bool.not_eq_true] at c
    simp only [c, code, Bool.false_eq_true, if_false]
    exact Ev.now _
theorem bt_list (a : ByteArray) (i : Nat) (h : i < a.data.toList.length) : bt a (i : Int) = ((a.data.toList[i]).toNat : Int) := by
  have h' : (i : Int).toNat < a.size := by simpa using h
  unfold bt
  rw [dif_pos h']
  rfl
theorem extract_list (a : ByteArray) (i j : Nat) : (a.extract i j).data.toList = (a.data.toList.drop i).take (j - i) := by
  rw [ByteArray.data_extract, Array.toList_extract, List.extract_eq_take_drop]
theorem u8_int (x : UInt8) (n : Nat) (h : n < 256) : ((x.toNat : Nat) : Int) = (n : Int) ↔ x = UInt8.ofNat n := by
  constructor
  · intro e
    have e : x.toNat = n := by omega
    rw [← e]; simp
  · rintro rfl
    simp [Nat.mod_eq_of_lt h]
theorem rlined_loop (a : ByteArray) (ha : a.size ≤ 140737488351232) (f0 f1 : Int) (e n : Nat) : ∀ i : Nat, i + n = e → e ≤ a.size → Ev (fun k => quoinref26_lined.l0 k a i f0 f1 e) (decide ((10 : UInt8) ∈ (a.data.toList.drop i).take (e - i))) := by
  induction n with
  | zero =>
    intro i hi he
    apply Ev.succ
    simp only [quoinref26_lined.l0, if_neg (show ¬ (i : Int) < (e : Int) by omega)]
    rw [show e - i = 0 by omega]
    simp only [List.take_zero, List.not_mem_nil, decide_false]
    exact Ev.now _
  | succ n ih =>
    intro i hi he
    have hil : i < a.data.toList.length := by simpa using (show i < a.size by omega)
    apply Ev.succ
    rw [List.drop_eq_getElem_cons hil, show e - i = (e - (i + 1)) + 1 by omega, List.take_succ_cons]
    simp only [quoinref26_lined.l0, if_pos (show (i : Int) < (e : Int) by omega), if_pos (show (0 : Int) ≤ (i : Int) by omega), if_pos (show (i : Int) < (a.size : Int) by omega), bt_list a i hil, wr (show -9223372036854775808 ≤ (i : Int) + 1 by omega) (show (i : Int) + 1 ≤ 9223372036854775807 by omega)]
    have hx := u8_int (a.data.toList[i]) 10 (by omega)
    by_cases c : ((a.data.toList[i].toNat : Nat) : Int) = 10
    · simp only [if_pos c]
      have := hx.1 c
      rw [decide_eq_true (by rw [this]; exact List.mem_cons_self)]
      exact Ev.now _
    · simp only [if_neg c]
      have hne : a.data.toList[i] ≠ 10 := fun h => c (hx.2 h)
      have : (10 : UInt8) ∈ a.data.toList[i] :: (a.data.toList.drop (i + 1)).take (e - (i + 1)) ↔ (10 : UInt8) ∈ (a.data.toList.drop (i + 1)).take (e - (i + 1)) := by
        rw [List.mem_cons]
        exact ⟨fun h => h.resolve_left (fun e => hne e.symm), .inr⟩
      rw [decide_eq_decide.2 this]
      exact ih (i + 1) (by omega) he
theorem rlined_ev (a : ByteArray) (ha : a.size ≤ 140737488351232) (t : S36) (h0 : 0 ≤ t.f1) (h1 : t.f1 ≤ t.f2) (h2 : t.f2 ≤ (a.size : Int)) : Ev (fun k => quoinref26_lined.f k a t.f0 t.f1 t.f2) (linedOf a t) := by
  unfold quoinref26_lined.f linedOf
  refine Ev.bind newl_ev ?_
  by_cases c : t.f0 = 81
  · simp only [if_pos c]; exact Ev.now _
  simp only [if_neg c]
  refine Ev.bind comm_ev ?_
  by_cases c2 : t.f0 = 83
  · simp only [if_pos c2]
    obtain ⟨i, hi⟩ : ∃ i : Nat, t.f1 = i := ⟨t.f1.toNat, by omega⟩
    obtain ⟨e, he⟩ : ∃ e : Nat, t.f2 = e := ⟨t.f2.toNat, by omega⟩
    rw [hi, he, extract_list]
    exact rlined_loop a ha _ _ e (e - i) i (by omega) (by omega)
  · simp only [if_neg c2]; exact Ev.now _
theorem right_get (s : Nat) : ∀ (l : List S36) (p : Int), 0 ≤ p → right s p l = true → ∀ t ∈ l, 2 ≤ t.f0 ∧ t.f0 < 84 ∧ 0 ≤ t.f1 ∧ t.f1 ≤ t.f2 ∧ t.f2 ≤ (s : Int)
  | [], _, _, _, _, h => absurd h (by simp)
  | u :: l, p, hp, hr, t, ht => by
    simp only [right, Bool.and_eq_true, decide_eq_true_eq] at hr
    rcases List.mem_cons.1 ht with rfl | h
    · omega
    · exact right_get s l u.f2 (by omega) hr.2 t h
theorem rinsert_loop (a : ByteArray) (ha : a.size ≤ 140737488351232) (l : List S36) (hl : l.length ≤ 65536) (hr : ∀ t ∈ l, 2 ≤ t.f0 ∧ t.f0 < 84 ∧ 0 ≤ t.f1 ∧ t.f1 ≤ t.f2 ∧ t.f2 ≤ (a.size : Int)) (n : Nat) : ∀ (i : Nat) (o : List S36) (b : Bool), i + n = l.length → o.length + 2 * n ≤ 5864062014800 → (b = true → 0 < o.length) → Ev (fun k => quoinref26_Insert.l0 k a l o b 81 i) (if ((ins a (l.drop i) o b).length : Int) > 65536 then ([], 71) else (ins a (l.drop i) o b, 0)) := by
  have fin : ∀ (o : List S36), Ev (fun k => quoinref26_Insert.l0 k a l o false 81 ((l.length : Int) + 1)) (if (o.length : Int) > 65536 then ([], 71) else (o, 0)) := by
    intro o
    apply Ev.succ
    simp only [quoinref26_Insert.l0, if_neg (show ¬ (l.length : Int) + 1 ≤ (l.length : Int) by omega)]
    split <;> exact Ev.now _
  have semi_step : ∀ (o : List S36) (j : Int) (r : List S36 × Int), 0 < o.length → o.length < 5864062014802 → Ev (fun k => quoinref26_Insert.l0 k a l (o ++ [ender o]) false 81 (wrap64 (j + 1))) r →
      Ev (fun k => if 0 ≤ (wrap64 ((o.length : Int) - 1)) then (if (wrap64 ((o.length : Int) - 1)) < (o.length : Int) then ((quoinref26_number.f k (⟨#[115, 101, 109, 105]⟩ : ByteArray)).bind fun t550 => (if o.length < 5864062014805 then (quoinref26_Insert.l0 k a l (o ++ [(⟨t550, (rd_T36 o (wrap64 ((o.length : Int) - 1))).f2, (rd_T36 o (wrap64 ((o.length : Int) - 1))).f2⟩ : S36)]) false 81 (wrap64 (j + 1))) else (none))) else (none)) else (none)) r := by
    intro o j r h0 h1 h
    simp only [wr (show -9223372036854775808 ≤ (o.length : Int) - 1 by omega) (show (o.length : Int) - 1 ≤ 9223372036854775807 by omega), if_pos (show (0 : Int) ≤ (o.length : Int) - 1 by omega), if_pos (show (o.length : Int) - 1 < (o.length : Int) by omega)]
    refine Ev.bind semi_ev ?_
    simp only [if_pos (show o.length < 5864062014805 by omega)]
    exact h
  induction n with
  | zero =>
    intro i o b hi ho hb
    rw [List.drop_eq_nil_of_le (by omega)]
    apply Ev.succ
    simp only [quoinref26_Insert.l0, if_pos (show (i : Int) ≤ (l.length : Int) by omega), if_neg (show ¬ (i : Int) < (l.length : Int) by omega)]
    apply Ev.succ
    have hw : wrap64 ((i : Int) + 1) = (l.length : Int) + 1 := by rw [wr (by omega) (by omega)]; omega
    cases b with
    | true =>
      simp only [quoinref26_Insert.j1, Bool.false_eq_true, if_false, if_true, if_pos (show (i : Int) = (l.length : Int) by omega), ins]
      refine semi_step o i _ (hb rfl) (by omega) ?_
      rw [hw]
      exact fin _
    | false =>
      simp only [quoinref26_Insert.j1, Bool.false_eq_true, if_false, ins, hw]
      exact fin _
  | succ n ih =>
    intro i o b hi ho hb
    have hil : i < l.length := by omega
    have ht := hr l[i] (List.getElem_mem hil)
    rw [List.drop_eq_getElem_cons hil]
    have hw : wrap64 ((i : Int) + 1) = ((i + 1 : Nat) : Int) := by rw [wr (by omega) (by omega)]; omega
    apply Ev.succ
    simp only [quoinref26_Insert.l0, if_pos (show (i : Int) ≤ (l.length : Int) by omega), if_pos (show (i : Int) < (l.length : Int) by omega), if_pos (show (0 : Int) ≤ (i : Int) by omega), rd_at l i hil]
    apply Ev.succ
    by_cases c1 : l[i].f0 < 81
    · simp only [decide_eq_true c1, quoinref26_Insert.j1, if_true, if_pos (show (i : Int) < (l.length : Int) by omega), if_pos (show (0 : Int) ≤ (i : Int) by omega), rd_at l i hil, if_pos (show o.length < 5864062014805 by omega), ins, if_pos c1]
      refine Ev.bind (rfollows_ev _) ?_
      rw [hw]
      exact ih (i + 1) (o ++ [l[i]]) _ (by omega) (by simp; omega) (by simp)
    · simp only [decide_eq_false c1, quoinref26_Insert.j1, Bool.false_eq_true, if_false, ins, if_neg c1]
      cases b with
      | false =>
        simp only [Bool.false_eq_true, if_false, Bool.false_and, hw]
        exact ih (i + 1) o false (by omega) (by omega) (by simp)
      | true =>
        simp only [if_true, if_neg (show ¬ (i : Int) = (l.length : Int) by omega), if_pos (show (i : Int) < (l.length : Int) by omega), if_pos (show (0 : Int) ≤ (i : Int) by omega), rd_at l i hil, Bool.true_and]
        refine Ev.bind (rlined_ev a ha _ ht.2.2.1 ht.2.2.2.1 ht.2.2.2.2) ?_
        cases linedOf a l[i] with
        | true =>
          simp only [if_true]
          refine semi_step o i _ (hb rfl) (by omega) ?_
          rw [hw]
          exact ih (i + 1) _ false (by omega) (by simp; omega) (by simp)
        | false =>
          simp only [Bool.false_eq_true, if_false, hw]
          exact ih (i + 1) o true (by omega) (by omega) hb
theorem rinsert_ev (a : ByteArray) (ha : a.size ≤ 140737488351232) (l : List S36) : Ev (fun k => quoinref26_Insert.f k a l) (insOf a l) := by
  unfold quoinref26_Insert.f insOf
  obtain ⟨j, hj⟩ := rcheck_ev a l
  refine Ev.bind rkinds_ev (Ev.bind hj ?_)
  by_cases c : checkOf a l = true
  · have c' := c
    simp only [checkOf, Bool.and_eq_true, decide_eq_true_eq] at c'
    simp only [c, code, if_true]
    refine Ev.bind rkinds_ev ?_
    rw [KS_len, show wrap64 (((84 : Nat) : Int) - 3) = 81 by decide +kernel]
    exact rinsert_loop a ha l c'.1 (right_get a.size l 0 (by omega) c'.2) l.length 0 [] false (by omega) (by simp; omega) (by simp)
  · rw [Bool.not_eq_true] at c
    simp only [c, code, Bool.false_eq_true, if_false]
    exact Ev.now _
theorem insOf_len (a : ByteArray) (l : List S36) : (insOf a l).1.length ≤ 65536 := by
  unfold insOf
  split
  · split
    · simp
    · simpa using (by omega : (ins a l [] false).length ≤ 65536)
  · simp
theorem GoscanInserts : quoinlaw26_GoscanInserts.Pure := by
  intro a0 l1 h0 _ _ _
  refine Ev.rounds ?_
  unfold quoinlaw26_GoscanInserts.f
  have hlen := insOf_len a0 l1
  refine Ev.bind (insert_ev a0 l1) (Ev.bind (rinsert_ev a0 h0 l1) (Ev.bind (same_ev _ (by omega)) ?_))
  simp only [if_true]
  exact Ev.bind awake_ev (Ev.now _)
end Go.Proofs.Ytcajiapjdlphmaa.Pure
