import Derived.Lib.IndexAny
import Derived.Lib.MapLaws
import Derived.Lib.RuneCountTail
import Derived.Laws.Strings
import Derived.Lib.TrimAscii
import Derived.Test.YtcajiapjdlphmaaEPre
import Derived.Test.YtcajiapjdlphmaaEabcdefx0
import Derived.Test.YtcajiapjdlphmaaEabcdefx1
import Derived.Test.YtcajiapjdlphmaaEabcdefx2
import Derived.Test.YtcajiapjdlphmaaEabcdefx3
import Derived.Test.YtcajiapjdlphmaaEabcdefx4
import Derived.Test.YtcajiapjdlphmaaEabcdefx5
import Derived.Test.YtcajiapjdlphmaaEabcdefx6
import Derived.Test.YtcajiapjdlphmaaEabcdefx7
import Derived.Test.YtcajiapjdlphmaaEabcdfx0
import Derived.Test.YtcajiapjdlphmaaEabfx0
import Derived.Test.YtcajiapjdlphmaaEbcefx0
import Derived.Test.YtcajiapjdlphmaaEbfx0
import Derived.Test.YtcajiapjdlphmaaEbfx1
import Derived.Test.YtcajiapjdlphmaaEefx0
import Derived.Test.YtcajiapjdlphmaaEefx1
import Derived.Test.YtcajiapjdlphmaaEefx2
import Derived.Test.YtcajiapjdlphmaaEefx3
import Derived.Test.YtcajiapjdlphmaaEefx4
import Derived.Test.YtcajiapjdlphmaaEfx0
namespace Go.Proofs.Ytcajiapjdlphmaa.Pure
open Go.RowKit Go.Proofs.Ytcajiapjdlphmaa.H Go.Proofs.YtcajiapjdlphmaaW.PrintWords Go.Proofs.YtcajiapjdlphmaaW.PrintLast
set_option maxRecDepth 100000
theorem Ev.succ {α : Type} {g : Nat → Option α} {r : α} (h : Ev (fun k => g (k + 1)) r) : Ev g r := Ev.step (fun _ => rfl) h
theorem Ev.const {α : Type} {a : Option α} {r : α} (h : a = some r) : Ev (fun _ => a) r := ⟨0, fun _ _ => h⟩
theorem wf64 {x : Int} (h : (Lit.int .i64 x).wf = true) : -9223372036854775808 ≤ x ∧ x ≤ 9223372036854775807 := by
  have : IntKind.i64.min = -9223372036854775808 := by decide
  have h := h
  simp only [Lit.wf, decide_eq_true_eq, Bool.and_eq_true] at h
  have h2 : IntKind.i64.max = 9223372036854775807 := by decide
  omega
theorem wf_of {x : Int} (h0 : -9223372036854775808 ≤ x) (h1 : x ≤ 9223372036854775807) : (Lit.int .i64 x).wf = true := by
  have : IntKind.i64.min = -9223372036854775808 := by decide
  have h2 : IntKind.i64.max = 9223372036854775807 := by decide
  simp only [Lit.wf, decide_eq_true_eq, Bool.and_eq_true]
  omega
theorem wr {x : Int} (h0 : -9223372036854775808 ≤ x) (h1 : x ≤ 9223372036854775807) : wrap64 x = x := by unfold wrap64; omega
theorem rdOf_at (l : List ByteArray) (i : Nat) (h : i < l.length) : rdOf ByteArray.empty l (i : Int) = l[i] := by
  unfold rdOf
  rw [List.getD_eq_getElem?_getD, Int.toNat_natCast, List.getElem?_eq_getElem h]
  rfl
def TX : List ByteArray := (goscan_texts.f 60).getD []
def KS : List ByteArray := (goscan_Kinds.f 120).getD []
theorem texts_at : goscan_texts.f 60 = some TX := by decide +kernel
theorem kinds_at : goscan_Kinds.f 120 = some KS := by decide +kernel
theorem rkinds_at : quoinref26_Kinds.f 120 = some KS := by decide +kernel
theorem awake_at : quoinlaw26_awake.f 120 = some true := by decide +kernel
theorem TX_len : TX.length = 73 := by decide +kernel
theorem KS_len : KS.length = 84 := by decide +kernel
theorem texts_ev : Ev (fun k => goscan_texts.f k) TX := Ev.of (fun k => goscan_texts.mono k) texts_at
theorem kinds_ev : Ev (fun k => goscan_Kinds.f k) KS := Ev.of (fun k => goscan_Kinds.mono k) kinds_at
theorem rkinds_ev : Ev (fun k => quoinref26_Kinds.f k) KS := Ev.of (fun k => quoinref26_Kinds.mono k) rkinds_at
theorem awake_ev : Ev (fun k => quoinlaw26_awake.f k) true := Ev.of (fun k => quoinlaw26_awake.mono k) awake_at
theorem newline_ev : Ev (fun k => goscan_kindNewline.f k) 81 := by
  unfold goscan_kindNewline.f
  refine Ev.bind texts_ev ?_
  rw [TX_len]
  exact Ev.const (by decide +kernel)
theorem ops_eq : quoinref26_operators.f = some quoinref26_operators.l := rfl
theorem ops_len : quoinref26_operators.l.length = 96 := by decide +kernel
theorem keys_eq : quoinref26_keywords.f = some quoinref26_keywords.l := rfl
theorem keys_len : quoinref26_keywords.l.length = 25 := by decide +kernel
def textOf (a : Int) : ByteArray × Bool := if 8 ≤ a ∧ a < 81 then (TX.getD (a - 8).toNat ByteArray.empty, true) else (⟨#[]⟩, false)
theorem text_ev (a : Int) (h : (Lit.int .i64 a).wf = true) : Ev (fun k => goscan_Text.f k a) (textOf a) := by
  obtain ⟨h0, h1⟩ := wf64 h
  unfold goscan_Text.f
  refine Ev.bind texts_ev ?_
  rw [TX_len]
  unfold textOf
  by_cases c : a < 8
  · simp only [if_pos c, if_neg (show ¬ (8 ≤ a ∧ a < 81) by omega)]
    exact Ev.now _
  · have w : wrap64 (a - 8) = a - 8 := wr (by omega) (by omega)
    simp only [if_neg c, w]
    by_cases c2 : a - 8 ≥ ((73 : Nat) : Int)
    · simp only [if_pos c2, if_neg (show ¬ (8 ≤ a ∧ a < 81) by omega)]
      exact Ev.now _
    · simp only [if_neg c2, if_pos (show 0 ≤ a - 8 by omega), if_pos (show a - 8 < ((73 : Nat) : Int) by omega), if_pos (show (8 ≤ a ∧ a < 81) by omega)]
      exact Ev.now _
theorem number_ev {s : ByteArray} {k : Nat} {r : Int} (h : quoinref26_number.f k s = some r) : Ev (fun k => quoinref26_number.f k s) r := Ev.of (fun k => quoinref26_number.mono s k) h
def num (s : ByteArray) : Int := (quoinref26_number.f 220 s).getD 0
def F15 : List ByteArray := [⟨#[105, 100, 101, 110, 116]⟩, ⟨#[105, 110, 116]⟩, ⟨#[102, 108, 111, 97, 116]⟩, ⟨#[105, 109, 97, 103]⟩, ⟨#[99, 104, 97, 114]⟩, ⟨#[115, 116, 114, 105, 110, 103]⟩, ⟨#[107, 98, 114, 101, 97, 107]⟩, ⟨#[107, 99, 111, 110, 116, 105, 110, 117, 101]⟩, ⟨#[107, 102, 97, 108, 108, 116, 104, 114, 111, 117, 103, 104]⟩, ⟨#[107, 114, 101, 116, 117, 114, 110]⟩, ⟨#[105, 110, 99]⟩, ⟨#[100, 101, 99]⟩, ⟨#[114, 112, 97, 114, 101, 110]⟩, ⟨#[114, 98, 114, 97, 99, 107]⟩, ⟨#[114, 98, 114, 97, 99, 101]⟩]
theorem num_all : F15.all (fun s => quoinref26_number.f 220 s == some (num s)) = true := by decide +kernel
theorem num_of {s : ByteArray} (h : s ∈ F15) : Ev (fun k => quoinref26_number.f k s) (num s) := number_ev (by simpa using List.all_eq_true.1 num_all s h)
def followsOf (a : Int) : Bool := decide (a ∈ F15.map num)
theorem rfollows_loop (a : Int) (n : Nat) : ∀ i : Nat, i + n = 15 → Ev (fun k => quoinref26_Follows.l0 k a F15 i) (decide (a ∈ (F15.drop i).map num)) := by
  induction n with
  | zero =>
    intro i hi
    obtain rfl : i = 15 := by omega
    apply Ev.succ
    simp only [quoinref26_Follows.l0]
    exact Ev.now _
  | succ n ih =>
    intro i hi
    apply Ev.succ
    have hl : i < F15.length := by show i < 15; omega
    simp only [quoinref26_Follows.l0, if_pos (show ((i : Nat) : Int) < ((F15.length : Nat) : Int) by omega), if_pos (show (0 : Int) ≤ ((i : Nat) : Int) by omega)]
    rw [rdOf_at _ _ hl, List.drop_eq_getElem_cons hl]
    refine Ev.bind (num_of (List.getElem_mem hl)) ?_
    by_cases c : num F15[i] = a
    · simp only [if_pos c]
      rw [decide_eq_true (by rw [List.map_cons, c]; exact List.mem_cons_self)]
      exact Ev.now _
    · simp only [if_neg c, wr (show -9223372036854775808 ≤ (i : Int) + 1 by omega) (show (i : Int) + 1 ≤ 9223372036854775807 by omega)]
      have e : decide (a ∈ List.map num (F15[i] :: List.drop (i + 1) F15)) = decide (a ∈ List.map num (List.drop (i + 1) F15)) := by
        congr 1
        rw [List.map_cons, List.mem_cons]
        exact propext ⟨fun h => h.resolve_left (fun h => c h.symm), Or.inr⟩
      rw [e]
      exact ih (i + 1) (by omega)
theorem rfollows_ev (a : Int) : Ev (fun k => quoinref26_Follows.f k a) (followsOf a) := rfollows_loop a 15 0 rfl
theorem follows_all : ∀ i : Fin 81, goscan_Follows.f 70 (i.1 : Int) = some (followsOf i.1) := by decide +kernel
theorem follows_out (a : Int) (h : a < 0 ∨ 81 ≤ a) : followsOf a = false := by
  have h1 : (F15.map num).all (fun x => decide (0 ≤ x) && decide (x < 81)) = true := by decide +kernel
  refine decide_eq_false fun hm => ?_
  have := List.all_eq_true.1 h1 a hm
  simp at this
  omega
theorem follows_ev (a : Int) (h : (Lit.int .i64 a).wf = true) : Ev (fun k => goscan_Follows.f k a) (followsOf a) := by
  by_cases c : 0 ≤ a ∧ a < 81
  · have := follows_all ⟨a.toNat, by omega⟩
    refine Ev.of (fun k => goscan_Follows.mono a k) (k := 70) ?_
    have e : ((a.toNat : Nat) : Int) = a := by omega
    simpa [e] using this
  · rw [follows_out a (by omega)]
    unfold goscan_Follows.f
    have key : ∀ b, b = false → Ev (fun k => goscan_Follows.j0 k a b) false := by
      rintro b rfl
      apply Ev.succ
      simp only [goscan_Follows.j0, Bool.false_eq_true, if_false]
      have e : textOf a = (⟨#[]⟩, false) := if_neg (by omega)
      refine Ev.bind (text_ev a h) ?_
      rw [e]
      exact Ev.const (by decide +kernel)
    by_cases c2 : a ≥ 2
    · simp only [if_pos c2]
      exact key _ (decide_eq_false (by omega))
    · simp only [if_neg c2]
      exact key _ rfl
def place (s : ByteArray) : List ByteArray → Nat → Option Nat
  | [], _ => none
  | x :: l, i => if x.toList = s.toList then some i else place s l (i + 1)
def kindOf (s : ByteArray) : Int × Bool := match place s TX 8 with | some i => ((i : Nat), true) | none => (0, false)
theorem index_loop (s : ByteArray) (n : Nat) : ∀ i : Nat, i + n = 73 → Ev (fun k => slices_Index_string_string.l0 k TX s 73 i) (match place s (TX.drop i) i with | some j => (j : Int) | none => -1) := by
  induction n with
  | zero =>
    intro i hi
    obtain rfl : i = 73 := by omega
    apply Ev.succ
    rw [show TX.drop 73 = [] from List.drop_eq_nil_of_le (by rw [TX_len]; omega)]
    simp only [slices_Index_string_string.l0]
    exact Ev.now _
  | succ n ih =>
    intro i hi
    apply Ev.succ
    have hl : i < TX.length := by rw [TX_len]; omega
    simp only [slices_Index_string_string.l0, if_pos (show ((i : Nat) : Int) < 73 by omega), if_pos (show (0 : Int) ≤ ((i : Nat) : Int) by omega), if_pos (show ((i : Nat) : Int) < ((TX.length : Nat) : Int) by omega)]
    rw [rdOf_at _ _ hl, List.drop_eq_getElem_cons hl]
    by_cases c : s.toList = TX[i].toList
    · simp only [if_pos c, place, if_pos c.symm]
      exact Ev.now _
    · simp only [if_neg c, place, if_neg (fun h => c (Eq.symm h)), wr (show -9223372036854775808 ≤ (i : Int) + 1 by omega) (show (i : Int) + 1 ≤ 9223372036854775807 by omega)]
      exact ih (i + 1) (by omega)
theorem place_le (s : ByteArray) : ∀ (l : List ByteArray) (i j : Nat), place s l i = some j → i ≤ j ∧ j < i + l.length
  | [], i, j, h => by simp [place] at h
  | x :: l, i, j, h => by
    unfold place at h
    split at h
    · have : i = j := by simpa using h
      subst this
      simp
    · have := place_le s l (i + 1) j h
      simp only [List.length_cons]
      omega
theorem place_shift (s : ByteArray) : ∀ (l : List ByteArray) (i m : Nat), place s l (i + m) = (place s l i).map (· + m)
  | [], i, m => rfl
  | x :: l, i, m => by
    unfold place
    split
    · rfl
    · rw [show i + m + 1 = (i + 1) + m by omega]
      exact place_shift s l (i + 1) m
theorem kind_ev (s : ByteArray) : Ev (fun k => goscan_Kind.f k s) (kindOf s) := by
  unfold goscan_Kind.f
  refine Ev.bind texts_ev ?_
  have h := index_loop s 73 0 rfl
  have hx : Ev (fun k => slices_Index_string_string.f k TX s) (match place s TX 0 with | some j => (j : Int) | none => -1) := by
    unfold slices_Index_string_string.f
    rw [TX_len]
    exact h
  refine Ev.bind hx ?_
  unfold kindOf
  have e := place_shift s TX 0 8
  rw [Nat.zero_add] at e
  rw [e]
  cases hp : place s TX 0 with
  | none => exact Ev.const (by decide +kernel)
  | some j =>
    have := place_le s TX 0 j hp
    rw [TX_len] at this
    simp only [Option.map_some]
    rw [if_neg (by omega)]
    refine Ev.const ?_
    rw [wr (by omega) (by omega)]
    congr 2
    omega
theorem same_loop (l : List S36) (hl : l.length ≤ 9223372036854775806) (n : Nat) : ∀ i : Nat, i + n = l.length → Ev (fun k => quoinref07_Same.l0 k l l i) true := by
  induction n with
  | zero =>
    intro i hi
    apply Ev.succ
    simp only [quoinref07_Same.l0, if_neg (show ¬ ((i : Nat) : Int) < ((l.length : Nat) : Int) by omega)]
    exact Ev.now _
  | succ n ih =>
    intro i hi
    apply Ev.succ
    simp only [quoinref07_Same.l0, if_pos (show ((i : Nat) : Int) < ((l.length : Nat) : Int) by omega), if_pos (show (0 : Int) ≤ ((i : Nat) : Int) by omega), beq_self_eq_true, Bool.not_true, Bool.or_self, Bool.false_eq_true, if_false, wr (show -9223372036854775808 ≤ (i : Int) + 1 by omega) (show (i : Int) + 1 ≤ 9223372036854775807 by omega)]
    exact ih (i + 1) (by omega)
theorem same_ev (l : List S36) (hl : l.length ≤ 9223372036854775806) : Ev (fun k => quoinref07_Same.f k l l) true := by
  unfold quoinref07_Same.f
  simp only [if_true]
  exact same_loop l hl l.length 0 (by omega)
theorem rd_at (l : List S36) (i : Nat) (h : i < l.length) : rd_T36 l (i : Int) = l[i] := by
  unfold rd_T36
  rw [List.getD_eq_getElem?_getD, Int.toNat_natCast, List.getElem?_eq_getElem h]
  rfl
def right (s : Nat) : Int → List S36 → Bool
  | _, [] => true
  | p, t :: l => decide (2 ≤ t.f0) && decide (t.f0 < 84) && decide (p ≤ t.f1) && decide (t.f1 ≤ t.f2) && decide (t.f2 ≤ (s : Int)) && right s t.f2 l
def code (b : Bool) : Int := if b then 0 else 71
theorem check_loop (ks : List ByteArray) (hk : ks.length = 84) (a : ByteArray) (l : List S36) (hl : l.length ≤ 65536) (n : Nat) : ∀ (i : Nat) (p : Int), i + n = l.length → ∃ j, Ev (fun k => token_Check.l0 k ks a p l (l.length : Int) i) (j, code (right a.size p (l.drop i))) := by
  induction n with
  | zero =>
    intro i p hi
    refine ⟨0, Ev.succ ?_⟩
    rw [List.drop_eq_nil_of_le (by omega)]
    simp only [token_Check.l0, if_neg (show ¬ ((i : Nat) : Int) < ((l.length : Nat) : Int) by omega), right, code, if_true]
    exact Ev.now _
  | succ n ih =>
    intro i p hi
    have hil : i < l.length := by omega
    rw [List.drop_eq_getElem_cons hil]
    obtain ⟨t, ht⟩ : ∃ t, l[i] = t := ⟨_, rfl⟩
    obtain ⟨j, hj⟩ := ih (i + 1) t.f2 (by omega)
    have key : ∃ j, Ev (fun k => token_Check.l0 (k + 1) ks a p l (l.length : Int) i) (j, code (right a.size p (t :: l.drop (i + 1)))) := by
      simp only [token_Check.l0, if_pos (show ((i : Nat) : Int) < ((l.length : Nat) : Int) by omega), if_pos (show (0 : Int) ≤ ((i : Nat) : Int) by omega), rd_at l i hil, ht, hk, right]
      by_cases c1 : t.f0 < 2
      · simp only [if_pos c1, decide_eq_false (show ¬ 2 ≤ t.f0 by omega), Bool.false_and, code]
        exact ⟨_, Ev.now _⟩
      by_cases c2 : t.f0 ≥ ((84 : Nat) : Int)
      · simp only [if_neg c1, if_pos c2, decide_eq_false (show ¬ t.f0 < 84 by omega), Bool.and_false, Bool.false_and, code]
        exact ⟨_, Ev.now _⟩
      by_cases c3 : t.f1 < p
      · simp only [if_neg c1, if_neg c2, if_pos c3, decide_eq_false (show ¬ p ≤ t.f1 by omega), Bool.and_false, Bool.false_and, code]
        exact ⟨_, Ev.now _⟩
      by_cases c4 : t.f2 < t.f1
      · simp only [if_neg c1, if_neg c2, if_neg c3, if_pos c4, decide_eq_false (show ¬ t.f1 ≤ t.f2 by omega), Bool.and_false, Bool.false_and, code]
        exact ⟨_, Ev.now _⟩
      by_cases c5 : t.f2 > (a.size : Int)
      · simp only [if_neg c1, if_neg c2, if_neg c3, if_neg c4, if_pos c5, decide_eq_false (show ¬ t.f2 ≤ (a.size : Int) by omega), Bool.and_false, Bool.false_and, code]
        exact ⟨_, Ev.now _⟩
      simp only [if_neg c1, if_neg c2, if_neg c3, if_neg c4, if_neg c5, decide_eq_true (show 2 ≤ t.f0 by omega), decide_eq_true (show t.f0 < 84 by omega), decide_eq_true (show p ≤ t.f1 by omega), decide_eq_true (show t.f1 ≤ t.f2 by omega), decide_eq_true (show t.f2 ≤ (a.size : Int) by omega), Bool.true_and, wr (show -9223372036854775808 ≤ (i : Int) + 1 by omega) (show (i : Int) + 1 ≤ 9223372036854775807 by omega)]
      exact ⟨j, hj⟩
    rw [ht]
    obtain ⟨j', h'⟩ := key
    exact ⟨j', Ev.succ h'⟩
theorem good_at : token_Kinds.good 120 KS = true := by decide +kernel
theorem tkinds_ev : Ev (fun k => token_Kinds.f k KS) 0 := by
  refine Ev.of (fun k => token_Kinds.mono KS k) (k := 120) ?_
  unfold token_Kinds.f
  rw [if_pos good_at]
def checkOf (a : ByteArray) (l : List S36) : Bool := decide (l.length ≤ 65536) && right a.size 0 l
theorem check_ev (a : ByteArray) (l : List S36) : ∃ j, Ev (fun k => token_Check.f k KS a l) (j, code (checkOf a l)) := by
  unfold token_Check.f checkOf
  by_cases c : (l.length : Int) > 65536
  · refine ⟨65536, Ev.bind tkinds_ev ?_⟩
    simp only [if_true, if_pos c, decide_eq_false (show ¬ l.length ≤ 65536 by omega), Bool.false_and, code]
    exact Ev.now _
  · obtain ⟨j, hj⟩ := check_loop KS KS_len a l (by omega) l.length 0 0 (by omega)
    refine ⟨j, Ev.bind tkinds_ev ?_⟩
    simp only [if_true, if_neg c, decide_eq_true (show l.length ≤ 65536 by omega), Bool.true_and]
    exact hj
theorem rtk_at : quoinref07_Kinds.f 8000 KS = some true := by decide +kernel
theorem rtk_ev : Ev (fun k => quoinref07_Kinds.f k KS) true := Ev.of (fun k => quoinref07_Kinds.mono KS k) rtk_at
def before (l : List S36) (i : Nat) : Int := if i = 0 then 0 else (rd_T36 l ((i : Int) - 1)).f2
theorem five (p1 p2 p3 p4 q : Prop) [Decidable p1] [Decidable p2] [Decidable p3] [Decidable p4] [Decidable q] : (if p1 then (if p2 then (if p3 then (if p4 then some (decide q) else some false) else some false) else some false) else some false) = some (decide p1 && decide p2 && decide p3 && decide p4 && decide q) := by
  by_cases h1 : p1 <;> by_cases h2 : p2 <;> by_cases h3 : p3 <;> by_cases h4 : p4 <;> simp [h1, h2, h3, h4]
theorem right_at (a : ByteArray) (l : List S36) (hl : l.length ≤ 65536) (i : Nat) (hil : i < l.length) : quoinref07_right.f 84 a l i = some (decide (2 ≤ l[i].f0) && decide (l[i].f0 < 84) && decide (before l i ≤ l[i].f1) && decide (l[i].f1 ≤ l[i].f2) && decide (l[i].f2 ≤ (a.size : Int))) := by
  unfold quoinref07_right.f before
  rw [if_pos (show (0 : Int) ≤ ((i : Nat) : Int) by omega), if_pos (show ((i : Nat) : Int) < ((l.length : Nat) : Int) by omega), rd_at l i hil]
  by_cases c : i = 0
  · rw [if_neg (show ¬ ((i : Nat) : Int) > 0 by omega), if_pos c]
    exact five _ _ _ _ _
  · rw [if_pos (show (i : Int) > 0 by omega), if_neg c, wr (show -9223372036854775808 ≤ (i : Int) - 1 by omega) (show (i : Int) - 1 ≤ 9223372036854775807 by omega), if_pos (show (0 : Int) ≤ (i : Int) - 1 by omega), if_pos (show (i : Int) - 1 < ((l.length : Nat) : Int) by omega)]
    exact five _ _ _ _ _
theorem rcheck_loop (a : ByteArray) (l : List S36) (hl : l.length ≤ 65536) (n : Nat) : ∀ (i : Nat), i + n = l.length → ∃ j, Ev (fun k => quoinref07_Check.l0 k KS a l i) (j, code (right a.size (before l i) (l.drop i))) := by
  induction n with
  | zero =>
    intro i hi
    refine ⟨0, Ev.succ ?_⟩
    rw [List.drop_eq_nil_of_le (by omega)]
    simp only [quoinref07_Check.l0, if_neg (show ¬ ((i : Nat) : Int) < ((l.length : Nat) : Int) by omega), right, code, if_true]
    exact Ev.now _
  | succ n ih =>
    intro i hi
    have hil : i < l.length := by omega
    obtain ⟨j, hj⟩ := ih (i + 1) (by omega)
    rw [List.drop_eq_getElem_cons hil]
    have hb : before l (i + 1) = l[i].f2 := by
      unfold before
      rw [if_neg (by omega), show ((i + 1 : Nat) : Int) - 1 = (i : Int) by omega, rd_at l i hil]
    rw [hb] at hj
    have hr := right_at a l hl i hil
    have hK : ((KS.length : Nat) : Int) = 84 := by rw [KS_len]; rfl
    have key : ∃ j, Ev (fun k => quoinref07_Check.l0 (k + 1) KS a l i) (j, code (right a.size (before l i) (l[i] :: l.drop (i + 1)))) := by
      simp only [quoinref07_Check.l0, if_pos (show ((i : Nat) : Int) < ((l.length : Nat) : Int) by omega), hK, hr, right]
      obtain ⟨b, hbb⟩ : ∃ b, (decide (2 ≤ l[i].f0) && decide (l[i].f0 < 84) && decide (before l i ≤ l[i].f1) && decide (l[i].f1 ≤ l[i].f2) && decide (l[i].f2 ≤ (a.size : Int))) = b := ⟨_, rfl⟩
      rw [hbb]
      cases b with
      | false => exact ⟨i, Ev.bind (Ev.now _) (by simp only [Bool.false_eq_true, if_false, Bool.false_and, code]; exact Ev.now _)⟩
      | true =>
        refine ⟨j, Ev.bind (Ev.now _) ?_⟩
        simp only [if_true, Bool.true_and, wr (show -9223372036854775808 ≤ (i : Int) + 1 by omega) (show (i : Int) + 1 ≤ 9223372036854775807 by omega)]
        exact hj
    obtain ⟨j', h'⟩ := key
    exact ⟨j', Ev.succ h'⟩
theorem rcheck_ev (a : ByteArray) (l : List S36) : ∃ j, Ev (fun k => quoinref07_Check.f k KS a l) (j, code (checkOf a l)) := by
  unfold quoinref07_Check.f checkOf
  by_cases c : (l.length : Int) > 65536
  · refine ⟨65536, Ev.bind rtk_ev ?_⟩
    simp only [if_true, if_pos c, decide_eq_false (show ¬ l.length ≤ 65536 by omega), Bool.false_and, code]
    exact Ev.now _
  · obtain ⟨j, hj⟩ := rcheck_loop a l (by omega) l.length 0 (by omega)
    refine ⟨j, Ev.bind rtk_ev ?_⟩
    simp only [if_true, if_neg c, decide_eq_true (show l.length ≤ 65536 by omega), Bool.true_and]
    exact hj
def linedOf (a : ByteArray) (t : S36) : Bool := if t.f0 = 81 then true else if t.f0 = 83 then decide ((10 : UInt8) ∈ (a.extract t.f1.toNat t.f2.toNat).data.toList) else false
def ender (l : List S36) : S36 := ⟨semi, (rd_T36 l ((l.length : Int) - 1)).f2, (rd_T36 l ((l.length : Int) - 1)).f2⟩
  where semi : Int := (kindOf ⟨#[59]⟩).1
def ins (a : ByteArray) : List S36 → List S36 → Bool → List S36
  | [], o, b => if b then o ++ [ender o] else o
  | t :: l, o, b => if t.f0 < 81 then ins a l (o ++ [t]) (followsOf t.f0) else if b && linedOf a t then ins a l (o ++ [ender o]) false else ins a l o b
def insOf (a : ByteArray) (l : List S36) : List S36 × Int := if checkOf a l then (if 65536 < ((ins a l [] false).length : Int) then ([], 71) else (ins a l [] false, 0)) else ([], 71)
theorem semi_all : quoinref26_number.f 220 ⟨#[115, 101, 109, 105]⟩ = some ender.semi := by decide +kernel
theorem semi_ev : Ev (fun k => quoinref26_number.f k ⟨#[115, 101, 109, 105]⟩) ender.semi := number_ev semi_all
theorem newl_ev : Ev (fun k => quoinref26_number.f k ⟨#[110, 101, 119, 108, 105, 110, 101]⟩) 81 := number_ev (k := 220) (by decide +kernel)
theorem comm_ev : Ev (fun k => quoinref26_number.f k ⟨#[99, 111, 109, 109, 101, 110, 116]⟩) 83 := number_ev (k := 220) (by decide +kernel)
theorem rd_last (o : List S36) (t : S36) : rd_T36 (o ++ [t]) (((o ++ [t]).length : Int) - 1) = t := by
  have : (((o ++ [t]).length : Nat) : Int) - 1 = ((o.length : Nat) : Int) := by simp
  rw [this, rd_at (o ++ [t]) o.length (by simp)]
  simp
def Mark (o : List S36) (b : Bool) : Prop := b = true → ∃ o' t, o = o' ++ [t] ∧ (Lit.int .i64 t.f0).wf = true
def marked (o : List S36) (b : Bool) : Bool := b && followsOf (rd_T36 o ((o.length : Int) - 1)).f0
def ended (o : List S36) (b : Bool) : List S36 := if b then o ++ [ender o] else o
theorem endf_ev (o : List S36) (b : Bool) (hm : Mark o b) (hl : o.length < 5864062014805) : Ev (fun k => goscan_Insert.endf k ender.semi o b) (ended o (marked o b)) := by
  unfold goscan_Insert.endf marked ended
  cases b with
  | false => simp only [Bool.false_eq_true, if_false, Bool.false_and]; exact Ev.now _
  | true =>
    obtain ⟨o', t, rfl, hw⟩ := hm rfl
    simp only [if_true, if_pos (show 0 < (o' ++ [t]).length by simp), if_pos hl, Bool.true_and]
    refine Ev.bind (follows_ev _ (by rw [rd_last]; exact hw)) ?_
    cases followsOf (rd_T36 (o' ++ [t]) (((o' ++ [t]).length : Int) - 1)).f0 with
    | true => simp only [if_true]; exact Ev.now _
    | false => simp only [Bool.false_eq_true, if_false]; exact Ev.now _
theorem contains_nl (x : ByteArray) : strings_Contains.f x ⟨#[10]⟩ = some (decide ((10 : UInt8) ∈ x.data.toList)) := by
  unfold strings_Contains.f strings_Index.f stringslite_Index.f
  have : Lib.indexByte x.data.toList ((⟨#[10]⟩ : ByteArray).get! 0) = Lib.indexByte x.data.toList 10 := rfl
  rw [if_pos (show (⟨#[10]⟩ : ByteArray).size = 1 from rfl), this]
  simp only [Option.bind_some]
  have h := Lib.contains_iff_indexByte x.data.toList 10
  rw [List.contains_eq_mem] at h
  simp only [ge_iff_le]
  rw [h]
theorem ended_len (o : List S36) (b : Bool) : (ended o b).length ≤ o.length + 1 := by
  unfold ended; split <;> simp
theorem insert_loop (a : ByteArray) : ∀ (l o : List S36) (b : Bool) (p : Int), 0 ≤ p → right a.size p l = true → Mark o b → o.length + 2 * l.length ≤ 5864062014800 → ∃ s, Ev (fun k => goscan_Insert.loop k 81 ender.semi a l (o, b)) s ∧ Ev (fun k => goscan_Insert.endf k ender.semi s.1 s.2) (ins a l o (marked o b))
  | [], o, b, p, _, _, hm, hl => by
    refine ⟨(o, b), by simp only [goscan_Insert.loop]; exact Ev.now _, ?_⟩
    have := endf_ev o b hm (by simp at hl; omega)
    simpa only [ins, ended] using this
  | t :: l, o, b, p, hp, hr, hm, hl => by
    simp only [right, Bool.and_eq_true, decide_eq_true_eq] at hr
    obtain ⟨⟨⟨⟨⟨r1, r2⟩, r3⟩, r4⟩, r5⟩, hr'⟩ := hr
    simp only [List.length_cons] at hl
    have he := endf_ev o b hm (by omega)
    have hel := ended_len o (marked o b)
    have ih := fun o b (hm : Mark o b) (hl : o.length + 2 * l.length ≤ 5864062014800) => insert_loop a l o b t.f2 (by omega) hr' hm hl
    have nomark : ∀ o, Mark o false := fun o h => absurd h (by simp)
    have end_step : linedOf a t = true → ¬ t.f0 < 81 → ∃ s, Ev (fun k => (goscan_Insert.endf k ender.semi o b).bind fun o => goscan_Insert.loop k 81 ender.semi a l (o, false)) s ∧ Ev (fun k => goscan_Insert.endf k ender.semi s.1 s.2) (ins a (t :: l) o (marked o b)) := by
      intro hlin c1
      obtain ⟨s, h1, h2⟩ := ih (ended o (marked o b)) false (nomark _) (by omega)
      refine ⟨s, Ev.bind he h1, ?_⟩
      have e : ins a (t :: l) o (marked o b) = ins a l (ended o (marked o b)) (marked (ended o (marked o b)) false) := by
        simp only [ins, if_neg c1, hlin, Bool.and_true]
        show _ = ins a l (ended o (marked o b)) false
        unfold ended
        cases marked o b <;> simp
      rw [e]; exact h2
    simp only [goscan_Insert.loop]
    by_cases c1 : t.f0 < 81
    · simp only [if_pos c1, if_pos (show o.length < 5864062014805 by omega)]
      obtain ⟨s, h1, h2⟩ := ih (o ++ [t]) true (fun _ => ⟨o, t, rfl, wf_of (by omega) (by omega)⟩) (by simp; omega)
      refine ⟨s, h1, ?_⟩
      have e : ins a (t :: l) o (marked o b) = ins a l (o ++ [t]) (marked (o ++ [t]) true) := by
        simp only [ins, if_pos c1, marked, Bool.true_and, rd_last]
      rw [e]; exact h2
    simp only [if_neg c1]
    by_cases c2 : t.f0 = 81
    · simp only [if_pos c2]
      exact end_step (by simp [linedOf, c2]) c1
    simp only [if_neg c2, show wrap64 (81 + 2) = 83 by decide +kernel]
    by_cases c3 : t.f0 = 83
    · simp only [if_pos c3, if_pos (show 0 ≤ t.f1 by omega), if_pos r4, if_pos r5, contains_nl, Option.bind_some]
      by_cases c4 : (10 : UInt8) ∈ (a.extract t.f1.toNat t.f2.toNat).data.toList
      · simp only [decide_eq_true c4, if_true]
        exact end_step (by simp only [linedOf, if_neg c2, if_pos c3, decide_eq_true c4]) c1
      · simp only [decide_eq_false c4, Bool.false_eq_true, if_false]
        obtain ⟨s, h1, h2⟩ := ih o b hm (by omega)
        refine ⟨s, h1, ?_⟩
        have e : ins a (t :: l) o (marked o b) = ins a l o (marked o b) := by
          simp only [ins, if_neg c1, linedOf, if_neg c2, if_pos c3, decide_eq_false c4, Bool.and_false, Bool.false_eq_true, if_false]
        rw [e]; exact h2
    · simp only [if_neg c3]
      obtain ⟨s, h1, h2⟩ := ih o b hm (by omega)
      refine ⟨s, h1, ?_⟩
      have e : ins a (t :: l) o (marked o b) = ins a l o (marked o b) := by
        simp only [ins, if_neg c1, linedOf, if_neg c2, if_neg c3, Bool.and_false, Bool.false_eq_true, if_false]
      rw [e]; exact h2
theorem insert_ev (a : ByteArray) (l : List S36) : Ev (fun k => goscan_Insert.f k a l) (insOf a l) := by
  unfold goscan_Insert.f insOf
  obtain ⟨j, hj⟩ := check_ev a l
  refine Ev.bind kinds_ev (Ev.bind hj ?_)
  by_cases c : checkOf a l = true
  · have c' := c
    simp only [checkOf, Bool.and_eq_true, decide_eq_true_eq] at c'
    simp only [c, code, if_true]
    refine Ev.bind newline_ev (Ev.bind (kind_ev _) ?_)
    obtain ⟨s, h1, h2⟩ := insert_loop a l [] false 0 (by omega) c'.2 (fun h => absurd h (by simp)) (by simp; omega)
    refine Ev.bind h1 (Ev.bind h2 ?_)
    show Ev _ (if 65536 < ((ins a l [] (marked [] false)).length : Int) then ([], 71) else (ins a l [] (marked [] false), 0))
    split
    · exact Ev.now _
    · exact Ev.now _
  · rw [Bool.not_eq_true] at c
    simp only [c, code, Bool.false_eq_true, if_false]
    exact Ev.now _
theorem bt_list (a : ByteArray) (i : Nat) (h : i < a.data.toList.length) : bt a (i : Int) = ((a.data.toList[i]).toNat : Int) := by
  have h' : (i : Int).toNat < a.size := by simpa using h
  unfold bt
  rw [dif_pos h']
  rfl
theorem extract_list (a : ByteArray) (i j : Nat) : (a.extract i j).data.toList = (a.data.toList.drop i).take (j - i) := by
  rw [ByteArray.data_extract, Array.toList_extract, List.extract_eq_take_drop]
theorem u8_int (x : UInt8) (n : Nat) (h : n < 256) : ((x.toNat : Nat) : Int) = (n : Int) ↔ x = UInt8.ofNat n := by
  constructor
  · intro e
    have e : x.toNat = n := by omega
    rw [← e]; simp
  · rintro rfl
    simp [Nat.mod_eq_of_lt h]
theorem rlined_loop (a : ByteArray) (ha : a.size ≤ 140737488351232) (f0 f1 : Int) (e n : Nat) : ∀ i : Nat, i + n = e → e ≤ a.size → Ev (fun k => quoinref26_lined.l0 k a i f0 f1 e) (decide ((10 : UInt8) ∈ (a.data.toList.drop i).take (e - i))) := by
  induction n with
  | zero =>
    intro i hi he
    apply Ev.succ
    simp only [quoinref26_lined.l0, if_neg (show ¬ (i : Int) < (e : Int) by omega)]
    rw [show e - i = 0 by omega]
    simp only [List.take_zero, List.not_mem_nil, decide_false]
    exact Ev.now _
  | succ n ih =>
    intro i hi he
    have hil : i < a.data.toList.length := by simpa using (show i < a.size by omega)
    apply Ev.succ
    rw [List.drop_eq_getElem_cons hil, show e - i = (e - (i + 1)) + 1 by omega, List.take_succ_cons]
    simp only [quoinref26_lined.l0, if_pos (show (i : Int) < (e : Int) by omega), if_pos (show (0 : Int) ≤ (i : Int) by omega), if_pos (show (i : Int) < (a.size : Int) by omega), bt_list a i hil, wr (show -9223372036854775808 ≤ (i : Int) + 1 by omega) (show (i : Int) + 1 ≤ 9223372036854775807 by omega)]
    have hx := u8_int (a.data.toList[i]) 10 (by omega)
    by_cases c : ((a.data.toList[i].toNat : Nat) : Int) = 10
    · simp only [if_pos c]
      have := hx.1 c
      rw [decide_eq_true (by rw [this]; exact List.mem_cons_self)]
      exact Ev.now _
    · simp only [if_neg c]
      have hne : a.data.toList[i] ≠ 10 := fun h => c (hx.2 h)
      have : (10 : UInt8) ∈ a.data.toList[i] :: (a.data.toList.drop (i + 1)).take (e - (i + 1)) ↔ (10 : UInt8) ∈ (a.data.toList.drop (i + 1)).take (e - (i + 1)) := by
        rw [List.mem_cons]
        exact ⟨fun h => h.resolve_left (fun e => hne e.symm), .inr⟩
      rw [decide_eq_decide.2 this]
      exact ih (i + 1) (by omega) he
theorem rlined_ev (a : ByteArray) (ha : a.size ≤ 140737488351232) (t : S36) (h0 : 0 ≤ t.f1) (h1 : t.f1 ≤ t.f2) (h2 : t.f2 ≤ (a.size : Int)) : Ev (fun k => quoinref26_lined.f k a t.f0 t.f1 t.f2) (linedOf a t) := by
  unfold quoinref26_lined.f linedOf
  refine Ev.bind newl_ev ?_
  by_cases c : t.f0 = 81
  · simp only [if_pos c]; exact Ev.now _
  simp only [if_neg c]
  refine Ev.bind comm_ev ?_
  by_cases c2 : t.f0 = 83
  · simp only [if_pos c2]
    obtain ⟨i, hi⟩ : ∃ i : Nat, t.f1 = i := ⟨t.f1.toNat, by omega⟩
    obtain ⟨e, he⟩ : ∃ e : Nat, t.f2 = e := ⟨t.f2.toNat, by omega⟩
    rw [hi, he, extract_list]
    exact rlined_loop a ha _ _ e (e - i) i (by omega) (by omega)
  · simp only [if_neg c2]; exact Ev.now _
theorem right_get (s : Nat) : ∀ (l : List S36) (p : Int), 0 ≤ p → right s p l = true → ∀ t ∈ l, 2 ≤ t.f0 ∧ t.f0 < 84 ∧ 0 ≤ t.f1 ∧ t.f1 ≤ t.f2 ∧ t.f2 ≤ (s : Int)
  | [], _, _, _, _, h => absurd h (by simp)
  | u :: l, p, hp, hr, t, ht => by
    simp only [right, Bool.and_eq_true, decide_eq_true_eq] at hr
    rcases List.mem_cons.1 ht with rfl | h
    · omega
    · exact right_get s l u.f2 (by omega) hr.2 t h
theorem rinsert_loop (a : ByteArray) (ha : a.size ≤ 140737488351232) (l : List S36) (hl : l.length ≤ 65536) (hr : ∀ t ∈ l, 2 ≤ t.f0 ∧ t.f0 < 84 ∧ 0 ≤ t.f1 ∧ t.f1 ≤ t.f2 ∧ t.f2 ≤ (a.size : Int)) (n : Nat) : ∀ (i : Nat) (o : List S36) (b : Bool), i + n = l.length → o.length + 2 * n ≤ 5864062014800 → (b = true → 0 < o.length) → Ev (fun k => quoinref26_Insert.l0 k a l o b 81 i) (if ((ins a (l.drop i) o b).length : Int) > 65536 then ([], 71) else (ins a (l.drop i) o b, 0)) := by
  have fin : ∀ (o : List S36), Ev (fun k => quoinref26_Insert.l0 k a l o false 81 ((l.length : Int) + 1)) (if (o.length : Int) > 65536 then ([], 71) else (o, 0)) := by
    intro o
    apply Ev.succ
    simp only [quoinref26_Insert.l0, if_neg (show ¬ (l.length : Int) + 1 ≤ (l.length : Int) by omega)]
    split <;> exact Ev.now _
  have semi_step : ∀ (o : List S36) (j : Int) (r : List S36 × Int), 0 < o.length → o.length < 5864062014802 → Ev (fun k => quoinref26_Insert.l0 k a l (o ++ [ender o]) false 81 (wrap64 (j + 1))) r →
      Ev (fun k => if 0 ≤ (wrap64 ((o.length : Int) - 1)) then (if (wrap64 ((o.length : Int) - 1)) < (o.length : Int) then ((quoinref26_number.f k (⟨#[115, 101, 109, 105]⟩ : ByteArray)).bind fun t550 => (if o.length < 5864062014805 then (quoinref26_Insert.l0 k a l (o ++ [(⟨t550, (rd_T36 o (wrap64 ((o.length : Int) - 1))).f2, (rd_T36 o (wrap64 ((o.length : Int) - 1))).f2⟩ : S36)]) false 81 (wrap64 (j + 1))) else (none))) else (none)) else (none)) r := by
    intro o j r h0 h1 h
    simp only [wr (show -9223372036854775808 ≤ (o.length : Int) - 1 by omega) (show (o.length : Int) - 1 ≤ 9223372036854775807 by omega), if_pos (show (0 : Int) ≤ (o.length : Int) - 1 by omega), if_pos (show (o.length : Int) - 1 < (o.length : Int) by omega)]
    refine Ev.bind semi_ev ?_
    simp only [if_pos (show o.length < 5864062014805 by omega)]
    exact h
  induction n with
  | zero =>
    intro i o b hi ho hb
    rw [List.drop_eq_nil_of_le (by omega)]
    apply Ev.succ
    simp only [quoinref26_Insert.l0, if_pos (show (i : Int) ≤ (l.length : Int) by omega), if_neg (show ¬ (i : Int) < (l.length : Int) by omega)]
    apply Ev.succ
    have hw : wrap64 ((i : Int) + 1) = (l.length : Int) + 1 := by rw [wr (by omega) (by omega)]; omega
    cases b with
    | true =>
      simp only [quoinref26_Insert.j1, Bool.false_eq_true, if_false, if_true, if_pos (show (i : Int) = (l.length : Int) by omega), ins]
      refine semi_step o i _ (hb rfl) (by omega) ?_
      rw [hw]
      exact fin _
    | false =>
      simp only [quoinref26_Insert.j1, Bool.false_eq_true, if_false, ins, hw]
      exact fin _
  | succ n ih =>
    intro i o b hi ho hb
    have hil : i < l.length := by omega
    have ht := hr l[i] (List.getElem_mem hil)
    rw [List.drop_eq_getElem_cons hil]
    have hw : wrap64 ((i : Int) + 1) = ((i + 1 : Nat) : Int) := by rw [wr (by omega) (by omega)]; omega
    apply Ev.succ
    simp only [quoinref26_Insert.l0, if_pos (show (i : Int) ≤ (l.length : Int) by omega), if_pos (show (i : Int) < (l.length : Int) by omega), if_pos (show (0 : Int) ≤ (i : Int) by omega), rd_at l i hil]
    apply Ev.succ
    by_cases c1 : l[i].f0 < 81
    · simp only [decide_eq_true c1, quoinref26_Insert.j1, if_true, if_pos (show (i : Int) < (l.length : Int) by omega), if_pos (show (0 : Int) ≤ (i : Int) by omega), rd_at l i hil, if_pos (show o.length < 5864062014805 by omega), ins, if_pos c1]
      refine Ev.bind (rfollows_ev _) ?_
      rw [hw]
      exact ih (i + 1) (o ++ [l[i]]) _ (by omega) (by simp; omega) (by simp)
    · simp only [decide_eq_false c1, quoinref26_Insert.j1, Bool.false_eq_true, if_false, ins, if_neg c1]
      cases b with
      | false =>
        simp only [Bool.false_eq_true, if_false, Bool.false_and, hw]
        exact ih (i + 1) o false (by omega) (by omega) (by simp)
      | true =>
        simp only [if_true, if_neg (show ¬ (i : Int) = (l.length : Int) by omega), if_pos (show (i : Int) < (l.length : Int) by omega), if_pos (show (0 : Int) ≤ (i : Int) by omega), rd_at l i hil, Bool.true_and]
        refine Ev.bind (rlined_ev a ha _ ht.2.2.1 ht.2.2.2.1 ht.2.2.2.2) ?_
        cases linedOf a l[i] with
        | true =>
          simp only [if_true]
          refine semi_step o i _ (hb rfl) (by omega) ?_
          rw [hw]
          exact ih (i + 1) _ false (by omega) (by simp; omega) (by simp)
        | false =>
          simp only [Bool.false_eq_true, if_false, hw]
          exact ih (i + 1) o true (by omega) (by omega) hb
theorem rinsert_ev (a : ByteArray) (ha : a.size ≤ 140737488351232) (l : List S36) : Ev (fun k => quoinref26_Insert.f k a l) (insOf a l) := by
  unfold quoinref26_Insert.f insOf
  obtain ⟨j, hj⟩ := rcheck_ev a l
  refine Ev.bind rkinds_ev (Ev.bind hj ?_)
  by_cases c : checkOf a l = true
  · have c' := c
    simp only [checkOf, Bool.and_eq_true, decide_eq_true_eq] at c'
    simp only [c, code, if_true]
    refine Ev.bind rkinds_ev ?_
    rw [KS_len, show wrap64 (((84 : Nat) : Int) - 3) = 81 by decide +kernel]
    exact rinsert_loop a ha l c'.1 (right_get a.size l 0 (by omega) c'.2) l.length 0 [] false (by omega) (by simp; omega) (by simp)
  · rw [Bool.not_eq_true] at c
    simp only [c, code, Bool.false_eq_true, if_false]
    exact Ev.now _
theorem insOf_len (a : ByteArray) (l : List S36) : (insOf a l).1.length ≤ 65536 := by
  unfold insOf
  split
  · split
    · simp
    · simpa using (by omega : (ins a l [] false).length ≤ 65536)
  · simp
open Go.RowKit Go.Proofs.Ytcajiapjdlphmaa.H Go.Proofs.YtcajiapjdlphmaaW.PrintWords Go.Proofs.YtcajiapjdlphmaaW.PrintLast Go.Proofs.YtcajiapjdlphmaaW.PrintMore
set_option linter.unusedVariables false
set_option linter.unusedSimpArgs false
def rest (a : ByteArray) (p : Nat) : List UInt8 := a.data.toList.drop p
def hd (L : List UInt8) : Int := ((L.getD 0 0).toNat : Int)
theorem hd_range (L : List UInt8) : 0 ≤ hd L ∧ hd L ≤ 255 := by
  have := (L.getD 0 0).toNat_lt
  unfold hd
  omega
theorem rest_add (a : ByteArray) (p n : Nat) : rest a (p + n) = (rest a p).drop n := by unfold rest; rw [List.drop_drop]
theorem rest_len (a : ByteArray) (p : Nat) : (rest a p).length = a.size - p := by unfold rest; rw [List.length_drop]; rfl
theorem hd_rest (a : ByteArray) (p : Nat) (h : p < a.size) : bt a (p : Int) = hd (rest a p) := by
  have h' : p < a.data.toList.length := by simpa using h
  have e : rest a p = a.data.toList[p] :: a.data.toList.drop (p + 1) := List.drop_eq_getElem_cons h'
  rw [e]
  unfold bt hd
  rw [dif_pos (show (p : Int).toNat < a.size from h)]
  rfl
theorem hd_past (a : ByteArray) (p : Nat) (h : a.size ≤ p) : hd (rest a p) = 0 := by
  have : rest a p = [] := List.drop_eq_nil_of_le (by simpa using h)
  rw [this]; rfl
theorem hd_pos {L : List UInt8} (h : hd L ≠ 0) : 1 ≤ L.length := by
  cases L with
  | nil => exact absurd rfl h
  | cons x t => simp
theorem at_eq (a : ByteArray) (p : Nat) : goscan_at.f a (p : Int) = some (hd (rest a p)) := by
  unfold goscan_at.f
  by_cases h : p < a.size
  · rw [if_pos (by omega), if_pos (by omega), hd_rest a p h]
  · rw [if_neg (by omega), hd_past a p (by omega)]
theorem wrp {p n : Nat} (hp : p + n ≤ 1000000) : wrap64 ((p : Int) + (n : Int)) = ((p + n : Nat) : Int) := by rw [wr (by omega) (by omega)]; omega
theorem wrp1 {p : Nat} (hp : p + 1 ≤ 1000000) : wrap64 ((p : Int) + 1) = ((p + 1 : Nat) : Int) := wrp (n := 1) hp
theorem wrp2 {p : Nat} (hp : p + 2 ≤ 1000000) : wrap64 ((p : Int) + 2) = ((p + 2 : Nat) : Int) := wrp (n := 2) hp
def dig (c b : Int) : Bool := (decide (48 ≤ c) && decide (c ≤ 57) && decide (c - 48 < b)) || (decide (b = 16) && ((decide (97 ≤ c) && decide (c ≤ 102)) || (decide (65 ≤ c) && decide (c ≤ 70))))
def Base (b : Int) : Prop := b = 2 ∨ b = 8 ∨ b = 10 ∨ b = 16
theorem digit_all : ∀ c : Fin 256, goscan_digit.f c.1 2 = some (dig c.1 2) ∧ goscan_digit.f c.1 8 = some (dig c.1 8) ∧ goscan_digit.f c.1 10 = some (dig c.1 10) ∧ goscan_digit.f c.1 16 = some (dig c.1 16) := by decide +kernel
theorem digit_eq (c b : Int) (hb : Base b) (h0 : 0 ≤ c) (h1 : c ≤ 255) : goscan_digit.f c b = some (dig c b) := by
  have h := digit_all ⟨c.toNat, by omega⟩
  have e : ((⟨c.toNat, by omega⟩ : Fin 256).1 : Int) = c := by simp; omega
  rw [e] at h
  rcases hb with rfl | rfl | rfl | rfl
  · exact h.1
  · exact h.2.1
  · exact h.2.2.1
  · exact h.2.2.2
theorem dig_hd (L : List UInt8) (b : Int) (hb : Base b) : goscan_digit.f (hd L) b = some (dig (hd L) b) := digit_eq _ _ hb (hd_range L).1 (hd_range L).2
theorem dig_pos {c b : Int} (h : dig c b = true) : 48 ≤ c := by
  simp only [dig, Bool.or_eq_true, Bool.and_eq_true, decide_eq_true_eq] at h
  omega
theorem dig_len {L : List UInt8} {b : Int} (h : dig (hd L) b = true) : 1 ≤ L.length := hd_pos (by have := dig_pos h; omega)
def more (b : Int) (L : List UInt8) : Nat :=
  if h : dig (hd L) b = true then more b (L.drop 1) + 1 else if h2 : hd L = 95 ∧ dig (hd (L.drop 1)) b = true then more b (L.drop 2) + 2 else 0
  termination_by L.length
  decreasing_by
    · have := dig_len h; simp; omega
    · have := hd_pos (L := L) (by omega); simp; omega
theorem more_le_n (b : Int) (n : Nat) : ∀ L : List UInt8, L.length ≤ n → more b L ≤ L.length := by
  induction n using Nat.strongRecOn with
  | _ n ih =>
    intro L hn
    rw [more]
    split
    · rename_i h
      have h1 := dig_len h
      have := ih (n - 1) (by omega) (L.drop 1) (by rw [List.length_drop]; omega)
      rw [List.length_drop] at this; omega
    · split
      · rename_i h
        have h1 := dig_len h.2
        rw [List.length_drop] at h1
        have := ih (n - 1) (by omega) (L.drop 2) (by rw [List.length_drop]; omega)
        rw [List.length_drop] at this; omega
      · omega
theorem more_le (b : Int) (L : List UInt8) : more b L ≤ L.length := more_le_n b _ L (Nat.le_refl _)
theorem more_ev (a : ByteArray) (ha : a.size ≤ 262144) (b : Int) (hb : Base b) (n : Nat) : ∀ p : Nat, p ≤ 262160 → (rest a p).length ≤ n → Ev (fun k => goscan_more.l0 k a p b) ((p + more b (rest a p) : Nat) : Int) := by
  induction n using Nat.strongRecOn with
  | _ n ih =>
    intro p hp hn
    have hl := rest_len a p
    apply Ev.succ
    simp only [goscan_more.l0, at_eq, Option.bind_some, dig_hd _ b hb]
    rw [more]
    by_cases c1 : dig (hd (rest a p)) b = true
    · have := dig_len c1
      rw [dif_pos c1]
      simp only [c1, if_true, wrp1 (show p + 1 ≤ 1000000 by omega)]
      have h := ih (n - 1) (by omega) (p + 1) (by omega) (by rw [rest_len]; omega)
      rw [rest_add] at h
      rw [show p + (more b ((rest a p).drop 1) + 1) = p + 1 + more b ((rest a p).drop 1) by omega]
      exact h
    · rw [dif_neg c1]
      rw [Bool.not_eq_true] at c1
      simp only [c1, Bool.false_eq_true, if_false]
      by_cases c2 : hd (rest a p) = 95
      · have := hd_pos (L := rest a p) (by omega)
        simp only [if_pos c2, wrp1 (show p + 1 ≤ 1000000 by omega), at_eq, Option.bind_some, dig_hd _ b hb, rest_add]
        by_cases c3 : dig (hd ((rest a p).drop 1)) b = true
        · have h3 := dig_len c3
          rw [List.length_drop] at h3
          rw [dif_pos ⟨c2, c3⟩]
          simp only [c3, if_true, wrp2 (show p + 2 ≤ 1000000 by omega)]
          have h := ih (n - 1) (by omega) (p + 2) (by omega) (by rw [rest_len]; omega)
          rw [rest_add] at h
          rw [show p + (more b ((rest a p).drop 2) + 2) = p + 2 + more b ((rest a p).drop 2) by omega]
          exact h
        · rw [dif_neg (fun h => c3 h.2)]
          rw [Bool.not_eq_true] at c3
          simp only [c3, Bool.false_eq_true, if_false]
          exact Ev.now _
      · rw [dif_neg (fun h => c2 h.1)]
        simp only [if_neg c2]
        exact Ev.now _
theorem more_ev' (a : ByteArray) (ha : a.size ≤ 262144) (b : Int) (hb : Base b) (p : Nat) (hp : p ≤ 262160) : Ev (fun k => goscan_more.f k a p b) ((p + more b (rest a p) : Nat) : Int) := more_ev a ha b hb _ p hp (Nat.le_refl _)
def ab (p : Nat) (r : Int) : Int := if r < 0 then -1 else p + r
def Fit (L : List UInt8) (r : Int) : Prop := r = -1 ∨ (1 ≤ r ∧ r ≤ (L.length : Int))
theorem ab_none (p : Nat) : ab p (-1) = -1 := rfl
theorem ab_some {p : Nat} {r : Int} (h : 0 ≤ r) : ab p r = p + r := if_neg (by omega)
theorem mx_max (a b : Int) : mx a b = max a b := by unfold mx; split <;> omega
theorem mx_ab (p : Nat) {r s : Int} (hr : -1 ≤ r) (hs : -1 ≤ s) : mx (ab p r) (ab p s) = ab p (max r s) := by
  rw [mx_max]; unfold ab; split <;> split <;> split <;> omega
def number (b : Int) (L : List UInt8) : Int := if dig (hd L) b then (more b L : Int) else -1
theorem more_pos {b : Int} {L : List UInt8} (h : dig (hd L) b = true) : 1 ≤ more b L := by rw [more, dif_pos h]; omega
theorem number_fit (b : Int) (L : List UInt8) : Fit L (number b L) := by
  unfold number Fit
  split
  · rename_i h
    have := more_pos h
    have := more_le b L
    omega
  · exact .inl rfl
theorem gnum_ev (a : ByteArray) (ha : a.size ≤ 262144) (b : Int) (hb : Base b) (p : Nat) (hp : p ≤ 262160) : Ev (fun k => goscan_number.f k a p b) (ab p (number b (rest a p))) := by
  unfold goscan_number.f number
  simp only [at_eq, Option.bind_some, dig_hd _ b hb]
  by_cases c : dig (hd (rest a p)) b = true
  · simp only [c, if_true]
    refine Ev.bind (more_ev' a ha b hb p hp) ?_
    rw [ab_some (by omega), show ((p + more b (rest a p) : Nat) : Int) = (p : Int) + (more b (rest a p) : Int) by omega]
    exact Ev.now _
  · rw [Bool.not_eq_true] at c
    simp only [c, Bool.false_eq_true, if_false]
    exact Ev.now _
theorem is_eq (a : ByteArray) (p : Nat) (c d : Int) (hc : 0 < c) (hd' : 0 < d) : goscan_is.f a p c d = some (decide (hd (rest a p) = c ∨ hd (rest a p) = d)) := by
  unfold goscan_is.f
  by_cases h : p < a.size
  · rw [if_pos (by omega), if_pos (by omega), hd_rest a p h]
    by_cases e : hd (rest a p) = c
    · rw [if_pos e, decide_eq_true (.inl e)]
    · rw [if_neg e]
      congr 1
      by_cases e2 : hd (rest a p) = d
      · rw [decide_eq_true (.inr e2), e2]; simp
      · rw [decide_eq_false (fun h => h.elim e e2)]; simpa using e2
  · rw [if_neg (by omega), hd_past a p (by omega), decide_eq_false (by omega)]
def pre (c d b : Int) (L : List UInt8) : Int := if (hd (L.drop 1) = c ∨ hd (L.drop 1) = d) ∧ 0 < more b (L.drop 2) then 2 + (more b (L.drop 2) : Int) else 0
def wholeOf (L : List UInt8) : Int := if hd L = 48 then max (max (max (1 + (more 8 (L.drop 1) : Int)) (pre 98 66 2 L)) (pre 111 79 8 L)) (pre 120 88 16 L) else number 10 L
theorem whole_step (a : ByteArray) (ha : a.size ≤ 262144) (p : Nat) (hp : p ≤ 262144) (Y : List S95) (i : Nat) (hi : i < Y.length) (hy : Y.length ≤ 10) (c d b : Int) (he : rd_T95 Y i = ⟨c, d, b⟩) (hb : Base b) (hc : 0 < c) (hd' : 0 < d) (m : Int) (hm : 1 ≤ m) (r : Int)
    (h : Ev (fun k => goscan_wholeForm.l0 k a p (p + max m (pre c d b (rest a p))) Y (Y.length : Int) ((i + 1 : Nat) : Int)) r) : Ev (fun k => goscan_wholeForm.l0 k a p (p + m) Y (Y.length : Int) (i : Int)) r := by
  apply Ev.succ
  simp only [goscan_wholeForm.l0, if_pos (show (i : Int) < (Y.length : Int) by omega), if_pos (show (0 : Int) ≤ (i : Int) by omega), he, wrp1 (show p + 1 ≤ 1000000 by omega), wrp2 (show p + 2 ≤ 1000000 by omega), wrp1 (show i + 1 ≤ 1000000 by omega), is_eq _ _ _ _ hc hd', Option.bind_some, rest_add]
  unfold pre at h
  by_cases c1 : hd ((rest a p).drop 1) = c ∨ hd ((rest a p).drop 1) = d
  · simp only [decide_eq_true c1, if_true]
    refine Ev.bind (more_ev' a ha b hb (p + 2) (by omega)) ?_
    rw [rest_add]
    by_cases c2 : 0 < more b ((rest a p).drop 2)
    · rw [if_pos ⟨c1, c2⟩] at h
      simp only [if_pos (show ((p + 2 + more b ((rest a p).drop 2) : Nat) : Int) > ((p + 2 : Nat) : Int) by omega), mx_max]
      rw [show max ((p : Int) + m) ((p + 2 + more b ((rest a p).drop 2) : Nat) : Int) = (p : Int) + max m (2 + (more b ((rest a p).drop 2) : Int)) by omega]
      exact h
    · rw [if_neg (fun x => c2 x.2)] at h
      simp only [if_neg (show ¬ ((p + 2 + more b ((rest a p).drop 2) : Nat) : Int) > ((p + 2 : Nat) : Int) by omega)]
      rw [show max m 0 = m by omega] at h
      exact h
  · simp only [decide_eq_false c1, Bool.false_eq_true, if_false]
    rw [if_neg (fun x => c1 x.1), show max m 0 = m by omega] at h
    exact h
theorem pre_len (c d b : Int) (L : List UInt8) : pre c d b L ≤ (L.length : Int) := by
  unfold pre
  split
  · rename_i h
    have := more_le b (L.drop 2)
    rw [List.length_drop] at this
    omega
  · omega
theorem whole_fit (L : List UInt8) : Fit L (wholeOf L) := by
  unfold wholeOf
  split
  · rename_i h
    have h1 := hd_pos (L := L) (by omega)
    have h2 := more_le 8 (L.drop 1)
    rw [List.length_drop] at h2
    have := pre_len 98 66 2 L
    have := pre_len 111 79 8 L
    have := pre_len 120 88 16 L
    right; omega
  · exact number_fit 10 L
theorem b2 : Base 2 := .inl rfl
theorem b8 : Base 8 := .inr (.inl rfl)
theorem b10 : Base 10 := .inr (.inr (.inl rfl))
theorem b16 : Base 16 := .inr (.inr (.inr rfl))
theorem whole_ev (a : ByteArray) (ha : a.size ≤ 262144) (p : Nat) (hp : p ≤ 262144) : Ev (fun k => goscan_wholeForm.f k a p) (ab p (wholeOf (rest a p))) := by
  unfold goscan_wholeForm.f wholeOf
  simp only [at_eq, Option.bind_some]
  by_cases c : hd (rest a p) = 48
  · simp only [if_pos c, wrp1 (show p + 1 ≤ 1000000 by omega)]
    refine Ev.bind (more_ev' a ha 8 b8 (p + 1) (by omega)) ?_
    rw [rest_add, mx_max, show max ((p + 1 : Nat) : Int) ((p + 1 + more 8 ((rest a p).drop 1) : Nat) : Int) = (p : Int) + (1 + (more 8 ((rest a p).drop 1) : Int)) by omega]
    have s := fun i hi c d b he hb hc hd m hm r h => whole_step a ha p hp [⟨98, 66, 2⟩, ⟨111, 79, 8⟩, ⟨120, 88, 16⟩] i hi (by decide) c d b he hb hc hd m hm r h
    refine s 0 (by decide) 98 66 2 rfl b2 (by omega) (by omega) _ (by omega) _ ?_
    refine s 1 (by decide) 111 79 8 rfl b8 (by omega) (by omega) _ (by omega) _ ?_
    refine s 2 (by decide) 120 88 16 rfl b16 (by omega) (by omega) _ (by omega) _ ?_
    apply Ev.succ
    rw [ab_some (by omega)]
    simp only [goscan_wholeForm.l0, if_neg (show ¬ ((2 + 1 : Nat) : Int) < (([⟨98, 66, 2⟩, ⟨111, 79, 8⟩, ⟨120, 88, 16⟩] : List S95).length : Int) by decide)]
    exact Ev.now _
  · simp only [if_neg c, dig_hd _ 10 b10, Option.bind_some]
    unfold number
    by_cases c1 : dig (hd (rest a p)) 10 = true
    · simp only [c1, if_true]
      refine Ev.bind (more_ev' a ha 10 b10 p (by omega)) ?_
      rw [ab_some (by omega), show ((p + more 10 (rest a p) : Nat) : Int) = (p : Int) + (more 10 (rest a p) : Int) by omega]
      exact Ev.now _
    · rw [Bool.not_eq_true] at c1
      simp only [c1, Bool.false_eq_true, if_false]
      exact Ev.now _
def nm (b : Int) (L : List UInt8) : Nat := if dig (hd L) b then more b L else 0
theorem nm_le (b : Int) (L : List UInt8) : nm b L ≤ L.length := by
  unfold nm; split
  · exact more_le b L
  · omega
theorem number_nm (b : Int) (L : List UInt8) : number b L = if 0 < nm b L then (nm b L : Int) else -1 := by
  unfold number nm
  split
  · rename_i h
    rw [if_pos (show 0 < more b L from more_pos h)]
  · simp
def sh (s : Nat) (n : Int) : Int := if n < 0 then -1 else s + n
theorem ab_sh (p s : Nat) (n : Int) : ab (p + s) n = ab p (sh s n) := by
  unfold ab sh; split <;> split <;> omega
theorem sh_fit {L : List UInt8} {s : Nat} {n : Int} (h : Fit (L.drop s) n) : Fit L (sh s n) := by
  unfold Fit at *
  rw [List.length_drop] at h
  unfold sh
  split <;> omega
theorem max_fit {L : List UInt8} {r s : Int} (h : Fit L r) (h2 : Fit L s) : Fit L (max r s) := by unfold Fit at *; omega
theorem fit_ge {L : List UInt8} {r : Int} (h : Fit L r) : -1 ≤ r := by unfold Fit at *; omega
theorem fit_none (L : List UInt8) : Fit L (-1) := .inl rfl
def powerOf (c d : Int) (L : List UInt8) : Int := if hd L = c ∨ hd L = d then (if hd (L.drop 1) = 43 ∨ hd (L.drop 1) = 45 then sh 2 (number 10 (L.drop 2)) else sh 1 (number 10 (L.drop 1))) else -1
theorem power_fit (c d : Int) (L : List UInt8) : Fit L (powerOf c d L) := by
  unfold powerOf
  split
  · split
    · exact sh_fit (number_fit _ _)
    · exact sh_fit (number_fit _ _)
  · exact fit_none L
theorem power_ev (a : ByteArray) (ha : a.size ≤ 262144) (c d : Int) (hc : 0 < c) (hd' : 0 < d) (p : Nat) (hp : p ≤ 262150) : Ev (fun k => goscan_powerForm.f k a p c d) (ab p (powerOf c d (rest a p))) := by
  unfold goscan_powerForm.f powerOf
  simp only [is_eq _ _ _ _ hc hd', Option.bind_some, wrp1 (show p + 1 ≤ 1000000 by omega)]
  by_cases c1 : hd (rest a p) = c ∨ hd (rest a p) = d
  · simp only [decide_eq_true c1, if_true, if_pos c1, is_eq a (p + 1) 43 45 (by omega) (by omega), rest_add, wrp1 (show p + 1 + 1 ≤ 1000000 by omega), Option.bind_some]
    by_cases c2 : hd ((rest a p).drop 1) = 43 ∨ hd ((rest a p).drop 1) = 45
    · simp only [decide_eq_true c2, if_true, if_pos c2]
      have h := gnum_ev a ha 10 b10 (p + 1 + 1) (by omega)
      rw [show p + 1 + 1 = p + 2 by omega, rest_add, ab_sh] at h
      exact Ev.bind h (Ev.now _)
    · simp only [decide_eq_false c2, Bool.false_eq_true, if_false, if_neg c2]
      have h := gnum_ev a ha 10 b10 (p + 1) (by omega)
      rw [rest_add, ab_sh] at h
      exact Ev.bind h (Ev.now _)
  · simp only [decide_eq_false c1, Bool.false_eq_true, if_false, if_neg c1]
    exact Ev.now _
def frac (b : Int) (m : Nat) (L : List UInt8) : Nat := m + 1 + nm b (L.drop (m + 1))
def hexOf (L : List UInt8) : Int :=
  if hd L = 48 ∧ (hd (L.drop 1) = 120 ∨ hd (L.drop 1) = 88) then
    if 0 < more 16 (L.drop 2) then
      (if hd (L.drop (2 + more 16 (L.drop 2))) = 46 then sh (frac 16 (2 + more 16 (L.drop 2)) L) (powerOf 112 80 (L.drop (frac 16 (2 + more 16 (L.drop 2)) L))) else sh (2 + more 16 (L.drop 2)) (powerOf 112 80 (L.drop (2 + more 16 (L.drop 2)))))
    else if hd (L.drop 2) = 46 ∧ 0 < nm 16 (L.drop 3) then sh (3 + nm 16 (L.drop 3)) (powerOf 112 80 (L.drop (3 + nm 16 (L.drop 3)))) else -1
  else -1
theorem hex_fit (L : List UInt8) : Fit L (hexOf L) := by
  unfold hexOf
  split
  · split
    · split
      · exact sh_fit (power_fit _ _ _)
      · exact sh_fit (power_fit _ _ _)
    · split
      · exact sh_fit (power_fit _ _ _)
      · exact fit_none L
  · exact fit_none L
theorem frac_ab (b : Int) (p m : Nat) (L : List UInt8) : mx ((p + m + 1 : Nat) : Int) (ab (p + m + 1) (number b (L.drop (m + 1)))) = ((p + frac b m L : Nat) : Int) := by
  rw [mx_max, number_nm]
  unfold frac ab
  split <;> split <;> omega
theorem hex_ev (a : ByteArray) (ha : a.size ≤ 262144) (p : Nat) (hp : p ≤ 262144) : Ev (fun k => goscan_hexForm.f k a p) (ab p (hexOf (rest a p))) := by
  unfold goscan_hexForm.f
  obtain ⟨L, hL⟩ : ∃ L, rest a p = L := ⟨_, rfl⟩
  have hlen := rest_len a p
  rw [hL] at hlen
  have hpw : ∀ q : Nat, p + q ≤ 262150 → Ev (fun k => goscan_powerForm.f k a ((p + q : Nat) : Int) 112 80) (ab p (sh q (powerOf 112 80 (L.drop q)))) := fun q hq => by
    have := power_ev a ha 112 80 (by omega) (by omega) (p + q) (by omega)
    rwa [rest_add, hL, ab_sh] at this
  have stop : Ev (fun k => goscan_hexForm.j0 k a p true) (-1) := by
    apply Ev.succ
    simp only [goscan_hexForm.j0, if_true]
    exact Ev.now _
  simp only [at_eq, Option.bind_some, wrp1 (show p + 1 ≤ 1000000 by omega), is_eq a (p + 1) 120 88 (by omega) (by omega), rest_add, hL]
  unfold hexOf
  by_cases c0 : hd L = 48
  rotate_left
  · simp only [if_neg c0]
    rw [if_neg (fun h => c0 h.1)]
    exact stop
  simp only [if_pos c0]
  by_cases c1 : hd (L.drop 1) = 120 ∨ hd (L.drop 1) = 88
  rotate_left
  · rw [if_neg (fun h => c1 h.2)]
    simp only [decide_eq_false c1, Bool.not_false]
    exact stop
  rw [if_pos ⟨c0, c1⟩]
  simp only [decide_eq_true c1, Bool.not_true]
  have l0 := hd_pos (L := L) (by omega)
  have l1 := hd_pos (L := L.drop 1) (by omega)
  rw [List.length_drop] at l1
  apply Ev.succ
  simp only [goscan_hexForm.j0, Bool.false_eq_true, if_false, wrp2 (show p + 2 ≤ 1000000 by omega)]
  refine Ev.bind (more_ev' a ha 16 b16 (p + 2) (by omega)) ?_
  rw [rest_add, hL]
  have lm := more_le 16 (L.drop 2)
  rw [List.length_drop] at lm
  obtain ⟨m, hm⟩ : ∃ m, more 16 (L.drop 2) = m := ⟨_, rfl⟩
  rw [hm] at lm ⊢
  by_cases c2 : 0 < m
  · simp only [if_pos (show ((p + 2 + m : Nat) : Int) > ((p + 2 : Nat) : Int) by omega), if_pos c2, at_eq, Option.bind_some]
    rw [show p + 2 + m = p + (2 + m) by omega, rest_add, hL]
    apply Ev.succ
    by_cases c3 : hd (L.drop (2 + m)) = 46
    · simp only [goscan_hexForm.j1, c3, beq_self_eq_true, if_true, wrp1 (show p + (2 + m) + 1 ≤ 1000000 by omega)]
      refine Ev.bind (gnum_ev a ha 16 b16 (p + (2 + m) + 1) (by omega)) ?_
      rw [show p + (2 + m) + 1 = p + (2 + m + 1) by omega, rest_add, hL, show p + (2 + m + 1) = p + (2 + m) + 1 by omega, frac_ab]
      have l3 := hd_pos (L := L.drop (2 + m)) (by omega)
      rw [List.length_drop] at l3
      have l4 := nm_le 16 (L.drop (2 + m + 1))
      rw [List.length_drop] at l4
      simp only [if_neg (show ¬ ((p + frac 16 (2 + m) L : Nat) : Int) < 0 by omega)]
      exact Ev.bind (hpw _ (by unfold frac; omega)) (Ev.now _)
    · rw [if_neg c3, show (hd (L.drop (2 + m)) == 46) = false from beq_eq_false_iff_ne.2 c3]
      simp only [goscan_hexForm.j1, Bool.false_eq_true, if_false, if_neg (show ¬ ((p + (2 + m) : Nat) : Int) = ((p + 2 : Nat) : Int) by omega), if_neg (show ¬ ((p + (2 + m) : Nat) : Int) < 0 by omega)]
      exact Ev.bind (hpw _ (by omega)) (Ev.now _)
  · rw [show m = 0 by omega]
    simp only [if_neg (show ¬ ((p + 2 + 0 : Nat) : Int) > ((p + 2 : Nat) : Int) by omega), if_neg (show ¬ 0 < 0 by omega)]
    apply Ev.succ
    simp only [goscan_hexForm.j1, Bool.false_eq_true, if_false, Nat.add_zero, if_true, at_eq, Option.bind_some, rest_add, hL, wrp1 (show p + 2 + 1 ≤ 1000000 by omega)]
    by_cases c3 : hd (L.drop 2) = 46
    · simp only [if_pos c3]
      refine Ev.bind (gnum_ev a ha 16 b16 (p + 2 + 1) (by omega)) ?_
      rw [show p + 2 + 1 = p + 3 by omega, rest_add, hL, number_nm]
      have l3 := hd_pos (L := L.drop 2) (by omega)
      rw [List.length_drop] at l3
      have l4 := nm_le 16 (L.drop 3)
      rw [List.length_drop] at l4
      by_cases c4 : 0 < nm 16 (L.drop 3)
      · rw [if_pos c4, if_pos ⟨c3, c4⟩, ab_some (by omega)]
        simp only [if_neg (show ¬ ((p + 3 : Nat) : Int) + (nm 16 (L.drop 3) : Int) < 0 by omega)]
        rw [show ((p + 3 : Nat) : Int) + (nm 16 (L.drop 3) : Int) = ((p + (3 + nm 16 (L.drop 3)) : Nat) : Int) by omega]
        exact Ev.bind (hpw _ (by omega)) (Ev.now _)
      · rw [if_neg c4, if_neg (fun h => c4 h.2), ab_none]
        simp only [if_pos (show (-1 : Int) < 0 by omega)]
        exact Ev.now _
    · rw [if_neg (fun h => c3 h.1)]
      simp only [if_neg c3]
      exact Ev.now _
def dotOf (L : List UInt8) : Int := if 0 < nm 10 L then (if hd (L.drop (nm 10 L)) = 46 then (frac 10 (nm 10 L) L : Int) else -1) else if hd L = 46 then sh 1 (number 10 (L.drop 1)) else -1
def expOf (L : List UInt8) (q : Int) : Int := if q < 0 then -1 else sh q.toNat (powerOf 101 69 (L.drop q.toNat))
def brokenOf (L : List UInt8) : Int := max (max (dotOf L) (expOf L (max (number 10 L) (dotOf L)))) (hexOf L)
theorem dot_fit (L : List UInt8) : Fit L (dotOf L) := by
  unfold dotOf
  split
  · split
    · rename_i h h2
      have l3 := hd_pos (L := L.drop (nm 10 L)) (by omega)
      rw [List.length_drop] at l3
      have l4 := nm_le 10 (L.drop (nm 10 L + 1))
      rw [List.length_drop] at l4
      right; unfold frac; omega
    · exact fit_none L
  · split
    · exact sh_fit (number_fit _ _)
    · exact fit_none L
theorem exp_fit (L : List UInt8) (q : Int) : Fit L (expOf L q) := by
  unfold expOf
  split
  · exact fit_none L
  · exact sh_fit (power_fit _ _ _)
theorem broken_fit (L : List UInt8) : Fit L (brokenOf L) := max_fit (max_fit (dot_fit L) (exp_fit L _)) (hex_fit L)
theorem broken_ev (a : ByteArray) (ha : a.size ≤ 262144) (p : Nat) (hp : p ≤ 262144) : Ev (fun k => goscan_brokenForm.f k a p) (ab p (brokenOf (rest a p))) := by
  obtain ⟨L, hL⟩ : ∃ L, rest a p = L := ⟨_, rfl⟩
  have hlen := rest_len a p
  have hnum := gnum_ev a ha 10 b10 p (by omega)
  have hhex := hex_ev a ha p hp
  rw [hL] at hlen hnum hhex ⊢
  have fin : ∀ (t : Int), Fit L t → t = number 10 L → Ev (fun k => goscan_brokenForm.j1 k a p (ab p (dotOf L)) (ab p t)) (ab p (brokenOf L)) := by
    intro t ht et
    have hd' := dot_fit L
    apply Ev.succ
    simp only [goscan_brokenForm.j1]
    rw [mx_ab p (fit_ge ht) (fit_ge hd')]
    have hq := max_fit ht hd'
    unfold brokenOf
    rw [← et]
    obtain ⟨q, eq⟩ : ∃ q, max t (dotOf L) = q := ⟨_, rfl⟩
    rw [eq] at hq ⊢
    by_cases c : q < 0
    · have e1 : ab p q = -1 := if_pos c
      have e2 : expOf L q = -1 := if_pos c
      rw [e1, e2]
      simp only [if_neg (show ¬ (-1 : Int) ≥ 0 by omega)]
      refine Ev.bind hhex ?_
      rw [mx_ab p (fit_ge hd') (fit_ge (hex_fit L)), show max (dotOf L) (-1) = dotOf L by have := fit_ge hd'; omega]
      exact Ev.now _
    · obtain ⟨m, em⟩ : ∃ m : Nat, q = m := ⟨q.toNat, by omega⟩
      subst em
      have e2 : expOf L (m : Int) = sh m (powerOf 101 69 (L.drop m)) := if_neg c
      rw [ab_some (by omega), e2]
      have hm : m ≤ L.length := by unfold Fit at hq; omega
      simp only [if_pos (show (p : Int) + (m : Int) ≥ 0 by omega)]
      have hpw := power_ev a ha 101 69 (by omega) (by omega) (p + m) (by omega)
      rw [rest_add, hL, ab_sh] at hpw
      refine Ev.bind (g := fun k => goscan_powerForm.f k a ((p : Int) + (m : Int)) 101 69) hpw (Ev.bind hhex ?_)
      have hs := sh_fit (L := L) (s := m) (power_fit 101 69 (L.drop m))
      rw [mx_ab p (fit_ge hd') (fit_ge hs), mx_ab p (fit_ge (max_fit hd' hs)) (fit_ge (hex_fit L))]
      exact Ev.now _
  unfold goscan_brokenForm.f
  refine Ev.bind hnum ?_
  by_cases c0 : 0 < nm 10 L
  · have en : number 10 L = (nm 10 L : Int) := by rw [number_nm, if_pos c0]
    have ln := nm_le 10 L
    rw [en, ab_some (by omega)]
    simp only [if_pos (show (p : Int) + (nm 10 L : Int) ≥ 0 by omega)]
    rw [show (p : Int) + (nm 10 L : Int) = ((p + nm 10 L : Nat) : Int) by omega, at_eq, rest_add, hL]
    simp only [Option.bind_some]
    apply Ev.succ
    have fin := fin (nm 10 L) (by have := number_fit 10 L; rwa [en] at this) en.symm
    rw [ab_some (show (0 : Int) ≤ (nm 10 L : Int) by omega)] at fin
    unfold dotOf at fin
    rw [if_pos c0] at fin
    by_cases c1 : hd (L.drop (nm 10 L)) = 46
    · simp only [goscan_brokenForm.j0, c1, beq_self_eq_true, if_true, wrp1 (show p + nm 10 L + 1 ≤ 1000000 by omega)]
      refine Ev.bind (gnum_ev a ha 10 b10 (p + nm 10 L + 1) (by omega)) ?_
      rw [show p + nm 10 L + 1 = p + (nm 10 L + 1) by omega, rest_add, hL, show p + (nm 10 L + 1) = p + nm 10 L + 1 by omega, frac_ab]
      rw [if_pos c1, ab_some (by omega)] at fin
      exact fin
    · rw [if_neg c1] at fin
      rw [show (hd (L.drop (nm 10 L)) == 46) = false from beq_eq_false_iff_ne.2 c1]
      simp only [goscan_brokenForm.j0, Bool.false_eq_true, if_false, if_neg (show ¬ ((p + nm 10 L : Nat) : Int) < 0 by omega)]
      exact fin
  · have en : number 10 L = -1 := by rw [number_nm, if_neg c0]
    rw [en, ab_none]
    simp only [if_neg (show ¬ (-1 : Int) ≥ 0 by omega)]
    apply Ev.succ
    simp only [goscan_brokenForm.j0, Bool.false_eq_true, if_false, if_pos (show (-1 : Int) < 0 by omega), at_eq, Option.bind_some, hL]
    have fin := fin (-1) (fit_none L) en.symm
    rw [ab_none] at fin
    unfold dotOf at fin
    rw [if_neg c0] at fin
    by_cases c1 : hd L = 46
    · simp only [if_pos c1, wrp1 (show p + 1 ≤ 1000000 by omega)]
      refine Ev.bind (gnum_ev a ha 10 b10 (p + 1) (by omega)) ?_
      rw [rest_add, hL, ab_sh]
      rw [if_pos c1] at fin
      exact fin
    · simp only [if_neg c1]
      rw [if_neg c1] at fin
      exact fin
def withI (L : List UInt8) (r : Int) : Int := if r > 0 ∧ hd (L.drop r.toNat) = 105 then r + 1 else -1
def imagOf (L : List UInt8) : Int := max (max (withI L (number 10 L)) (withI L (wholeOf L))) (withI L (brokenOf L))
theorem withI_fit {L : List UInt8} {r : Int} (h : Fit L r) : Fit L (withI L r) := by
  unfold withI
  split
  · rename_i c
    have l3 := hd_pos (L := L.drop r.toNat) (by omega)
    rw [List.length_drop] at l3
    right; omega
  · exact fit_none L
theorem imag_fit (L : List UInt8) : Fit L (imagOf L) := max_fit (max_fit (withI_fit (number_fit 10 L)) (withI_fit (whole_fit L))) (withI_fit (broken_fit L))
theorem imag_step (a : ByteArray) (ha : a.size ≤ 262144) (p : Nat) (hp : p ≤ 262144) (Y : List Int) (i : Nat) (hi : i < Y.length) (hy : Y.length ≤ 10) (t : Int) (ht : Fit (rest a p) t) (he : rd Y i = ab p t) (m : Int) (hm : -1 ≤ m) (r : Int)
    (h : Ev (fun k => goscan_imagForm.l0 k a p (ab p (max m (withI (rest a p) t))) Y (Y.length : Int) ((i + 1 : Nat) : Int)) r) : Ev (fun k => goscan_imagForm.l0 k a p (ab p m) Y (Y.length : Int) (i : Int)) r := by
  apply Ev.succ
  have hlen := rest_len a p
  simp only [goscan_imagForm.l0, if_pos (show (i : Int) < (Y.length : Int) by omega), if_pos (show (0 : Int) ≤ (i : Int) by omega), he, wrp1 (show i + 1 ≤ 1000000 by omega)]
  unfold withI at h
  by_cases c : t > 0
  · obtain ⟨n, rfl⟩ : ∃ n : Nat, t = n := ⟨t.toNat, by omega⟩
    have hn : n ≤ (rest a p).length := by unfold Fit at ht; omega
    rw [ab_some (show (0 : Int) ≤ (n : Int) by omega)]
    simp only [if_pos (show (p : Int) + (n : Int) > (p : Int) by omega)]
    rw [show (p : Int) + (n : Int) = ((p + n : Nat) : Int) by omega]
    simp only [at_eq, Option.bind_some, rest_add, wrp1 (show p + n + 1 ≤ 1000000 by omega)]
    rw [Int.toNat_natCast] at h
    by_cases c2 : hd ((rest a p).drop n) = 105
    · simp only [if_pos c2]
      rw [if_pos ⟨c, c2⟩] at h
      have e := mx_ab p (r := m) (s := (n : Int) + 1) hm (by omega)
      rw [ab_some (show (0 : Int) ≤ (n : Int) + 1 by omega), show (p : Int) + ((n : Int) + 1) = ((p + n + 1 : Nat) : Int) by omega] at e
      rw [e]
      exact h
    · simp only [if_neg c2]
      rw [if_neg (fun x => c2 x.2), show max m (-1) = m by omega] at h
      exact h
  · have : t = -1 := by unfold Fit at ht; omega
    subst this
    rw [ab_none]
    simp only [if_neg (show ¬ (-1 : Int) > (p : Int) by omega)]
    rw [if_neg (fun x => c x.1), show max m (-1) = m by omega] at h
    exact h
theorem imag_ev (a : ByteArray) (ha : a.size ≤ 262144) (p : Nat) (hp : p ≤ 262144) : Ev (fun k => goscan_imagForm.f k a p) (ab p (imagOf (rest a p))) := by
  unfold goscan_imagForm.f
  refine Ev.bind (gnum_ev a ha 10 b10 p (by omega)) (Ev.bind (whole_ev a ha p hp) (Ev.bind (broken_ev a ha p hp) ?_))
  simp only [Option.bind_some]
  obtain ⟨L, hL⟩ : ∃ L, rest a p = L := ⟨_, rfl⟩
  have s := fun i hi t ht he m hm r h => imag_step a ha p hp [ab p (number 10 L), ab p (wholeOf L), ab p (brokenOf L)] i hi (by simp) t ht he m hm r h
  rw [hL] at s ⊢
  have f1 := withI_fit (number_fit 10 L)
  have f2 := withI_fit (whole_fit L)
  have f3 := withI_fit (broken_fit L)
  refine s 0 (by simp) (number 10 L) (number_fit 10 L) rfl (-1) (by omega) _ ?_
  refine s 1 (by simp) (wholeOf L) (whole_fit L) rfl _ (by omega) _ ?_
  refine s 2 (by simp) (brokenOf L) (broken_fit L) rfl _ (by omega) _ ?_
  apply Ev.succ
  simp only [goscan_imagForm.l0, List.length_cons, List.length_nil, if_neg (show ¬ ((2 + 1 : Nat) : Int) < ((0 + 1 + 1 + 1 : Nat) : Int) by omega)]
  have e : max (max (max (-1) (withI L (number 10 L))) (withI L (wholeOf L))) (withI L (brokenOf L)) = imagOf L := by
    have := fit_ge f1
    unfold imagOf; omega
  rw [e]
  exact Ev.now _
theorem enc_size (r : Nat) (h0 : r < 55296 ∨ 57344 ≤ r) (h1 : r ≤ 1114111) : (Utf8.encode (r : Int)).size = if r < 128 then 1 else if r < 2048 then 2 else if r < 65536 then 3 else 4 := by
  have hv : Utf8.valid (r : Int) = true := by
    simp only [Utf8.valid, Bool.or_eq_true, Bool.and_eq_true, decide_eq_true_eq]; omega
  unfold Utf8.encode
  simp only [hv, if_true, Int.toNat_natCast]
  split
  · rfl
  · split
    · rfl
    · split <;> rfl
def dec (L : List UInt8) : Nat × Nat := Lib.decodeL L
theorem dec_width (L : List UInt8) (hL : L ≠ []) (h : (dec L).1 ≠ 65533) : (Utf8.encode ((dec L).1 : Int)).size = (dec L).2 ∧ 1 ≤ (dec L).2 ∧ (dec L).2 ≤ L.length := by
  have hl : 0 < L.length := List.length_pos_iff.2 hL
  unfold dec at h ⊢
  rw [Lib.decodeL_N] at h ⊢
  have k0 := (L.getD 0 0).toNat_lt
  have k1 := (L.getD 1 0).toNat_lt
  have k2 := (L.getD 2 0).toNat_lt
  have k3 := (L.getD 3 0).toNat_lt
  rcases Lib.decodeN_shape L.length (L.getD 0 0).toNat (L.getD 1 0).toNat (L.getD 2 0).toNat (L.getD 3 0).toNat with ⟨c, e⟩ | ⟨c1, c2, c3, cv, e⟩ | ⟨c1, c2, c3, c4, cv, cs, e⟩ | ⟨c1, c2, c3, c4, c5, cv, cw, e⟩ | e
  · rw [e]
    refine ⟨?_, by dsimp only; omega, by dsimp only; omega⟩
    rw [enc_size _ (by dsimp only; omega) (by dsimp only; omega), if_pos (by dsimp only; omega)]
  · rw [e]
    refine ⟨?_, by dsimp only; omega, by dsimp only; omega⟩
    rw [enc_size _ (by dsimp only; omega) (by dsimp only; omega), if_neg (by dsimp only; omega), if_pos (by dsimp only; omega)]
  · rw [e]
    refine ⟨?_, by dsimp only; omega, by dsimp only; omega⟩
    rw [enc_size _ (by dsimp only; omega) (by dsimp only; omega), if_neg (by dsimp only; omega), if_neg (by dsimp only; omega), if_pos (by dsimp only; omega)]
  · rw [e]
    refine ⟨?_, by dsimp only; omega, by dsimp only; omega⟩
    rw [enc_size _ (by dsimp only; omega) (by dsimp only; omega), if_neg (by dsimp only; omega), if_neg (by dsimp only; omega), if_neg (by dsimp only; omega)]
  · rw [e] at h
    exact absurd rfl h
def nextOf (L : List UInt8) : Int × Int × Bool := if L = [] then (0, 0, false) else if (dec L).1 = 65533 then (if L.take 3 = [239, 191, 189] then (65533, 3, true) else (0, 1, false)) else (((dec L).1 : Int), ((dec L).2 : Int), true)
theorem rest_nil {a : ByteArray} {p : Nat} : rest a p = [] ↔ a.size ≤ p := by
  constructor
  · intro h
    have := rest_len a p
    rw [h] at this
    simp at this; omega
  · intro h
    exact List.drop_eq_nil_of_le (by simpa using h)
theorem bytes_list (x : ByteArray) : x.toList = x.data.toList := by
  exact Go.ByteArray.toList_eq x
theorem next_eq (a : ByteArray) (p : Nat) : text_Next.f a (p : Int) = some (nextOf (rest a p)) := by
  unfold text_Next.f nextOf
  rw [if_neg (by omega)]
  by_cases h : a.size ≤ p
  · rw [if_pos (by omega), if_pos (rest_nil.2 h)]
  have hne : rest a p ≠ [] := fun e => h (rest_nil.1 e)
  have hlen := rest_len a p
  rw [if_neg (by omega), if_neg hne, Int.toNat_natCast]
  have hd : Utf8.decode (a.extract p a.size) 0 = dec (rest a p) := by
    rw [Lib.tail_decode, Nat.add_zero]
    exact (Lib.decodeL_drop a p).symm
  rw [hd]
  by_cases c : (dec (rest a p)).1 = 65533
  · rw [if_pos (by rw [c]; rfl), if_pos c]
    have e3 : ((a.extract p a.size).extract 0 3).toList = (rest a p).take 3 := by
      rw [bytes_list, ByteArray.data_extract, ByteArray.data_extract, Array.toList_extract, Array.toList_extract, List.extract_eq_take_drop, List.extract_eq_take_drop]
      simp only [Nat.sub_zero, List.drop_zero]
      congr 1
      exact List.take_of_length_le (by rw [List.length_drop]; exact Nat.le_refl _)
    rw [e3]
    by_cases c3 : (rest a p).take 3 = [239, 191, 189]
    · have : 3 ≤ (rest a p).length := by
        have := congrArg List.length c3
        rw [List.length_take] at this
        simp at this; omega
      rw [if_pos (by omega), if_pos c3, if_pos c3]
    · rw [if_neg c3, if_neg c3]
      split <;> rfl
  · rw [if_neg (fun e => c (by omega)), if_neg c, (dec_width _ hne c).1]
def pr (L : List UInt8) : Int := if (nextOf L).2.2 = true then (if (nextOf L).1 = 65279 then 0 else (nextOf L).1) else 0
def pw (L : List UInt8) : Nat := if pr L = 0 then 0 else (nextOf L).2.1.toNat
theorem next_fit (L : List UInt8) (h : (nextOf L).2.2 = true) : 0 ≤ (nextOf L).1 ∧ 1 ≤ (nextOf L).2.1 ∧ (nextOf L).2.1 ≤ (L.length : Int) := by
  unfold nextOf at h ⊢
  by_cases c : L = []
  · rw [if_pos c] at h; simp at h
  rw [if_neg c] at h ⊢
  by_cases c2 : (dec L).1 = 65533
  · rw [if_pos c2] at h ⊢
    by_cases c3 : L.take 3 = [239, 191, 189]
    · have := congrArg List.length c3
      rw [List.length_take] at this
      simp at this
      rw [if_pos c3]
      refine ⟨by omega, by dsimp only; omega, by dsimp only; omega⟩
    · rw [if_neg c3] at h; simp at h
  · rw [if_neg c2]
    have := dec_width L c c2
    refine ⟨by dsimp only; omega, by dsimp only; omega, by dsimp only; omega⟩
theorem plain_eq (a : ByteArray) (p : Nat) : goscan_plainRune.f a (p : Int) = some (pr (rest a p), (pw (rest a p) : Int)) := by
  unfold goscan_plainRune.f
  rw [next_eq]
  simp only [Option.bind_some]
  unfold pw pr
  by_cases c : (nextOf (rest a p)).2.2 = true
  · have hf := next_fit _ c
    simp only [if_pos c]
    by_cases c0 : (nextOf (rest a p)).1 = 0
    · simp only [if_pos c0, if_neg (show ¬ (nextOf (rest a p)).1 = 65279 by omega)]; simp [c0]
    · simp only [if_neg c0]
      by_cases c1 : (nextOf (rest a p)).1 = 65279
      · simp only [if_pos c1, if_true]; rfl
      · simp only [if_neg c1, if_neg c0]
        rw [show (((nextOf (rest a p)).2.1.toNat : Nat) : Int) = (nextOf (rest a p)).2.1 by omega]
  · simp only [if_neg c, if_true]; rfl
theorem piece_fit (L : List UInt8) : (pr L = 0 ∧ pw L = 0) ∨ (1 ≤ pr L ∧ 1 ≤ pw L ∧ pw L ≤ L.length) := by
  by_cases c : pr L = 0
  · left
    exact ⟨c, if_pos c⟩
  · right
    have hw : pw L = (nextOf L).2.1.toNat := if_neg c
    unfold pr at c ⊢
    by_cases c1 : (nextOf L).2.2 = true
    · have hf := next_fit _ c1
      rw [if_pos c1] at c ⊢
      by_cases c2 : (nextOf L).1 = 65279
      · rw [if_pos c2] at c; omega
      · rw [if_neg c2] at c ⊢; omega
    · rw [if_neg c1] at c; omega
theorem pfx_eq (a q : ByteArray) (p : Nat) (hp : p ≤ a.size) : strings_HasPrefix.f (a.extract p a.size) q = some (decide ((rest a p).take q.size = q.data.toList)) := by
  have hlen := rest_len a p
  have hs : (a.extract p a.size).size = a.size - p := by rw [ByteArray.size_extract]; omega
  have hq : q.data.toList.length = q.size := rfl
  unfold strings_HasPrefix.f stringslite_HasPrefix.f
  rw [hs]
  by_cases c : q.size ≤ a.size - p
  · rw [if_pos (by omega), if_pos (by omega), if_pos (by omega)]
    simp only [Option.bind_some, Int.toNat_natCast]
    congr 1
    have e : ((a.extract p a.size).extract 0 q.size).toList = (rest a p).take q.size := by
      rw [bytes_list, ByteArray.data_extract, ByteArray.data_extract, Array.toList_extract, Array.toList_extract, List.extract_eq_take_drop, List.extract_eq_take_drop]
      simp only [Nat.sub_zero, List.drop_zero]
      congr 1
      exact List.take_of_length_le (by rw [List.length_drop]; exact Nat.le_refl _)
    rw [e, bytes_list q]
    by_cases c2 : (rest a p).take q.size = q.data.toList
    · rw [decide_eq_true c2, c2]; exact beq_self_eq_true _
    · rw [decide_eq_false c2]; exact beq_eq_false_iff_ne.2 c2
  · rw [if_neg (by omega)]
    simp only [Option.bind_some]
    rw [decide_eq_false]
    intro h
    have := congrArg List.length h
    rw [List.length_take, hq] at this
    omega
theorem byte_int (x : UInt8) (n : Nat) (h : n < 256) : ((x.toNat : Nat) : Int) = (n : Int) ↔ x = UInt8.ofNat n := by
  constructor
  · intro e
    have e : x.toNat = n := by omega
    rw [← e]; simp
  · rintro rfl
    simp [Nat.mod_eq_of_lt h]
theorem hd_cons (x : UInt8) (t : List UInt8) : hd (x :: t) = (x.toNat : Int) := rfl
theorem two_eq (L : List UInt8) (x y : Nat) (hx : 0 < x) (hy : 0 < y) (hx' : x < 256) (hy' : y < 256) : L.take 2 = [UInt8.ofNat x, UInt8.ofNat y] ↔ hd L = x ∧ hd (L.drop 1) = y := by
  match L with
  | [] => simp [hd]; omega
  | [u] => simp [hd]; omega
  | u :: v :: t =>
    simp only [List.take_succ_cons, List.take_zero, List.cons.injEq, and_true, List.drop_succ_cons, List.drop_zero, hd_cons]
    rw [byte_int u x hx', byte_int v y hy']
def blank (c : Int) : Bool := decide (c = 9 ∨ c = 13 ∨ c = 32)
def blanks (L : List UInt8) : Nat := if h : blank (hd L) = true then blanks (L.drop 1) + 1 else 0
  termination_by L.length
  decreasing_by
    have := hd_pos (L := L) (by simp [blank] at h; omega); simp; omega
def len0 (n : Nat) : Int := if n = 0 then -1 else n
def blankOf (L : List UInt8) : Int := len0 (blanks L)
theorem blank_all : ∀ c : Fin 256, strings_IndexByte.f ⟨#[9, 13, 32]⟩ (c.1 : Int) = some (if blank c.1 then (if c.1 = 9 then 0 else if c.1 = 13 then 1 else 2) else -1) := by decide +kernel
theorem blank_eq (c : Int) (h0 : 0 ≤ c) (h1 : c ≤ 255) : ∃ t, strings_IndexByte.f ⟨#[9, 13, 32]⟩ c = some t ∧ (t ≥ 0 ↔ blank c = true) := by
  have h := blank_all ⟨c.toNat, by omega⟩
  have e : ((⟨c.toNat, by omega⟩ : Fin 256).1 : Int) = c := by simp; omega
  rw [e] at h
  refine ⟨_, h, ?_⟩
  by_cases b : blank c = true
  · rw [if_pos b]
    refine ⟨fun _ => b, fun _ => ?_⟩
    split
    · omega
    · split <;> omega
  · rw [if_neg b]
    exact ⟨fun h => absurd h (by omega), fun h => absurd h b⟩
theorem blank_loop (a : ByteArray) (ha : a.size ≤ 262144) (p : Nat) (n : Nat) : ∀ q : Nat, a.size - q ≤ n → p ≤ q → q ≤ a.size → Ev (fun k => goscan_blankForm.l0 k a p q) (ab p (len0 (q - p + blanks (rest a q)))) := by
  have stop : ∀ q : Nat, p ≤ q → Ev (fun k => if (q : Int) = (p : Int) then some (-1 : Int) else some (q : Int)) (ab p (len0 (q - p + 0))) := by
    intro q hq
    by_cases c : q = p
    · subst c
      simp only [if_true, Nat.sub_self, Nat.add_zero, len0]
      exact Ev.now _
    · simp only [if_neg (show ¬ (q : Int) = (p : Int) by omega)]
      unfold len0
      rw [if_neg (by omega), ab_some (by omega), show (p : Int) + ((q - p + 0 : Nat) : Int) = (q : Int) by omega]
      exact Ev.now _
  induction n with
  | zero =>
    intro q h0 h1 h2
    apply Ev.succ
    rw [rest_nil.2 (by omega), blanks, dif_neg (by decide)]
    simp only [goscan_blankForm.l0, if_neg (show ¬ (q : Int) < (a.size : Int) by omega)]
    exact stop q h1
  | succ n ih =>
    intro q h0 h1 h2
    apply Ev.succ
    by_cases c : q < a.size
    · obtain ⟨t, ht, hb⟩ := blank_eq (hd (rest a q)) (hd_range _).1 (hd_range _).2
      simp only [goscan_blankForm.l0, if_pos (show (q : Int) < (a.size : Int) by omega), if_pos (show (0 : Int) ≤ (q : Int) by omega), hd_rest a q c, ht, Option.bind_some, wrp1 (show q + 1 ≤ 1000000 by omega)]
      rw [blanks]
      by_cases cb : blank (hd (rest a q)) = true
      · simp only [if_pos (hb.2 cb)]
        rw [dif_pos cb]
        have h := ih (q + 1) (by omega) (by omega) (by omega)
        rw [rest_add] at h
        rw [show q - p + (blanks ((rest a q).drop 1) + 1) = q + 1 - p + blanks ((rest a q).drop 1) by omega]
        exact h
      · simp only [if_neg (fun h => cb (hb.1 h))]
        rw [dif_neg cb]
        exact stop q h1
    · rw [rest_nil.2 (by omega), blanks, dif_neg (by decide)]
      simp only [goscan_blankForm.l0, if_neg (show ¬ (q : Int) < (a.size : Int) by omega)]
      exact stop q h1
theorem blank_ev (a : ByteArray) (ha : a.size ≤ 262144) (p : Nat) (hp : p ≤ a.size) : Ev (fun k => goscan_blankForm.f k a p) (ab p (blankOf (rest a p))) := by
  have := blank_loop a ha p (a.size - p) p (Nat.le_refl _) (Nat.le_refl _) hp
  rw [Nat.sub_self, Nat.zero_add] at this
  exact this
theorem blanks_le_n (n : Nat) : ∀ L : List UInt8, L.length ≤ n → blanks L ≤ L.length := by
  induction n with
  | zero => intro L h; cases L with
    | nil => rw [blanks, dif_neg (by decide)]; omega
    | cons x t => simp at h
  | succ n ih =>
    intro L h
    rw [blanks]
    split
    · rename_i c
      have h1 := hd_pos (L := L) (by simp [blank] at c; omega)
      have := ih (L.drop 1) (by rw [List.length_drop]; omega)
      rw [List.length_drop] at this; omega
    · omega
theorem len0_fit {L : List UInt8} {n : Nat} (h : n ≤ L.length) : Fit L (len0 n) := by unfold len0 Fit; split <;> omega
theorem blank_fit (L : List UInt8) : Fit L (blankOf L) := len0_fit (blanks_le_n _ L (Nat.le_refl _))
def newlineOf (L : List UInt8) : Int := if hd L = 10 then 1 else -1
theorem newlineForm_eq (a : ByteArray) (ha : a.size ≤ 262144) (p : Nat) (hp : p ≤ a.size) : goscan_newlineForm.f a p = some (ab p (newlineOf (rest a p))) := by
  unfold goscan_newlineForm.f newlineOf
  rw [at_eq, Option.bind_some, wrp1 (by omega)]
  split
  · rw [ab_some (by omega)]; rfl
  · rfl
theorem newline_fit (L : List UInt8) : Fit L (newlineOf L) := by
  unfold newlineOf
  split
  · have := hd_pos (L := L) (by omega); right; omega
  · exact fit_none L
def lineEnd (L : List UInt8) : Nat := if h : 1 ≤ pw L ∧ pr L ≠ 10 then pw L + lineEnd (L.drop (pw L)) else 0
  termination_by L.length
  decreasing_by
    have := piece_fit L; simp; omega
theorem line_loop (a : ByteArray) (ha : a.size ≤ 262144) (n : Nat) : ∀ q : Nat, a.size - q ≤ n → q ≤ a.size → Ev (fun k => goscan_remarkForm.l0 k a q) ((q + lineEnd (rest a q) : Nat) : Int) := by
  induction n using Nat.strongRecOn with
  | _ n ih =>
    intro q h0 h2
    have hlen := rest_len a q
    have hf := piece_fit (rest a q)
    apply Ev.succ
    simp only [goscan_remarkForm.l0, plain_eq, Option.bind_some]
    rw [lineEnd]
    by_cases c1 : pw (rest a q) = 0
    · rw [dif_neg (by omega)]
      simp only [if_pos (show ((pw (rest a q) : Nat) : Int) = 0 by omega)]
      exact Ev.now _
    · simp only [if_neg (show ¬ ((pw (rest a q) : Nat) : Int) = 0 by omega)]
      by_cases c2 : pr (rest a q) = 10
      · rw [dif_neg (fun h => h.2 c2)]
        simp only [if_pos c2]
        exact Ev.now _
      · rw [dif_pos ⟨by omega, c2⟩]
        simp only [if_neg c2]
        rw [wrp (show q + pw (rest a q) ≤ 1000000 by omega)]
        have h := ih (a.size - (q + pw (rest a q))) (by omega) (q + pw (rest a q)) (by omega) (by omega)
        rw [rest_add] at h
        rw [show q + (pw (rest a q) + lineEnd ((rest a q).drop (pw (rest a q)))) = q + pw (rest a q) + lineEnd ((rest a q).drop (pw (rest a q))) by omega]
        exact h
theorem lineEnd_le_n (n : Nat) : ∀ L : List UInt8, L.length ≤ n → lineEnd L ≤ L.length := by
  induction n using Nat.strongRecOn with
  | _ n ih =>
    intro L h
    rw [lineEnd]
    have hf := piece_fit L
    split
    · rename_i c
      have := ih (L.length - pw L) (by omega) (L.drop (pw L)) (by rw [List.length_drop]; omega)
      rw [List.length_drop] at this; omega
    · omega
theorem pr_ascii (L : List UInt8) (h0 : 0 < hd L) (h1 : hd L < 128) : pr L = hd L ∧ pw L = 1 := by
  match L with
  | [] => exact absurd h0 (by decide)
  | x :: t =>
    rw [hd_cons] at h0 h1 ⊢
    have e : dec (x :: t) = (x.toNat, 1) := Lib.decodeL_ascii x t (by omega)
    have en : nextOf (x :: t) = ((x.toNat : Int), 1, true) := by
      unfold nextOf
      rw [if_neg (by simp), e]
      dsimp only
      rw [if_neg (by omega)]; rfl
    have e1 : pr (x :: t) = (x.toNat : Int) := by
      unfold pr
      rw [en]
      dsimp only
      rw [if_pos rfl, if_neg (by omega)]
    refine ⟨e1, ?_⟩
    unfold pw
    rw [e1, en, if_neg (by omega)]; rfl
def remarkOf (L : List UInt8) : Int := if hd L = 47 ∧ hd (L.drop 1) = 47 then (lineEnd L : Int) else -1
theorem remark_ev (a : ByteArray) (ha : a.size ≤ 262144) (p : Nat) (hp : p ≤ a.size) : Ev (fun k => goscan_remarkForm.f k a p) (ab p (remarkOf (rest a p))) := by
  unfold goscan_remarkForm.f remarkOf
  simp only [if_pos (show (0 : Int) ≤ (p : Int) by omega), if_pos (show (p : Int) ≤ (a.size : Int) by omega), Int.toNat_natCast, pfx_eq a _ p hp, Option.bind_some]
  have e := two_eq (rest a p) 47 47 (by omega) (by omega) (by omega) (by omega)
  by_cases c : hd (rest a p) = 47 ∧ hd ((rest a p).drop 1) = 47
  · have e' : (rest a p).take (⟨#[47, 47]⟩ : ByteArray).size = (⟨#[47, 47]⟩ : ByteArray).data.toList := e.2 c
    rw [decide_eq_true e', if_pos c, ab_some (by omega), show (p : Int) + (lineEnd (rest a p) : Int) = ((p + lineEnd (rest a p) : Nat) : Int) by omega]
    simp only [if_true]
    exact line_loop a ha _ p (Nat.le_refl _) hp
  · have e' : ¬ (rest a p).take (⟨#[47, 47]⟩ : ByteArray).size = (⟨#[47, 47]⟩ : ByteArray).data.toList := fun h => c (e.1 h)
    rw [decide_eq_false e', if_neg c]
    simp only [Bool.false_eq_true, if_false]
    exact Ev.now _
theorem remark_fit (L : List UInt8) : Fit L (remarkOf L) := by
  unfold remarkOf
  split
  · rename_i c
    have hp := pr_ascii L (by omega) (by omega)
    have := lineEnd_le_n _ L (Nat.le_refl _)
    have h2 : 1 ≤ lineEnd L := by rw [lineEnd, dif_pos ⟨by omega, by omega⟩]; omega
    right; omega
  · exact fit_none L
def comEnd (L : List UInt8) : Int := if hd L = 42 ∧ hd (L.drop 1) = 47 then 2 else if h : 1 ≤ pw L then sh (pw L) (comEnd (L.drop (pw L))) else -1
  termination_by L.length
  decreasing_by
    have := piece_fit L; simp; omega
theorem com_loop (a : ByteArray) (ha : a.size ≤ 262144) (n : Nat) : ∀ q : Nat, a.size - q ≤ n → q ≤ a.size → Ev (fun k => goscan_commentForm.l0 k a q) (ab q (comEnd (rest a q))) := by
  induction n using Nat.strongRecOn with
  | _ n ih =>
    intro q h0 h2
    have hlen := rest_len a q
    have hf := piece_fit (rest a q)
    apply Ev.succ
    have hmn : mn (q : Int) (a.size : Int) = (q : Int) := by unfold mn; rw [if_neg (by omega)]
    have e := two_eq (rest a q) 42 47 (by omega) (by omega) (by omega) (by omega)
    simp only [goscan_commentForm.l0, hmn, if_pos (show (0 : Int) ≤ (q : Int) by omega), if_pos (show (q : Int) ≤ (a.size : Int) by omega), Int.toNat_natCast, pfx_eq a _ q h2, Option.bind_some, plain_eq]
    rw [comEnd]
    by_cases c : hd (rest a q) = 42 ∧ hd ((rest a q).drop 1) = 47
    · have e' : (rest a q).take (⟨#[42, 47]⟩ : ByteArray).size = (⟨#[42, 47]⟩ : ByteArray).data.toList := e.2 c
      rw [if_pos c, wrp2 (by omega)]
      simp only [decide_eq_true e', if_true]
      exact Ev.now _
    · have e' : ¬ (rest a q).take (⟨#[42, 47]⟩ : ByteArray).size = (⟨#[42, 47]⟩ : ByteArray).data.toList := fun h => c (e.1 h)
      rw [if_neg c]
      simp only [decide_eq_false e', Bool.false_eq_true, if_false]
      by_cases c1 : pw (rest a q) = 0
      · rw [dif_neg (by omega)]
        simp only [if_pos (show ((pw (rest a q) : Nat) : Int) = 0 by omega)]
        exact Ev.now _
      · rw [dif_pos (by omega)]
        simp only [if_neg (show ¬ ((pw (rest a q) : Nat) : Int) = 0 by omega)]
        rw [wrp (show q + pw (rest a q) ≤ 1000000 by omega)]
        have h := ih (a.size - (q + pw (rest a q))) (by omega) (q + pw (rest a q)) (by omega) (by omega)
        rw [rest_add, ab_sh] at h
        exact h
theorem comEnd_fit_n (n : Nat) : ∀ L : List UInt8, L.length ≤ n → Fit L (comEnd L) := by
  induction n using Nat.strongRecOn with
  | _ n ih =>
    intro L h
    rw [comEnd]
    have hf := piece_fit L
    split
    · rename_i c
      have := hd_pos (L := L.drop 1) (by omega)
      rw [List.length_drop] at this
      right; omega
    · split
      · exact sh_fit (ih (L.length - pw L) (by omega) (L.drop (pw L)) (by rw [List.length_drop]; omega))
      · exact fit_none L
def commentOf (L : List UInt8) : Int := if hd L = 47 ∧ hd (L.drop 1) = 42 then sh 2 (comEnd (L.drop 2)) else -1
theorem comment_fit (L : List UInt8) : Fit L (commentOf L) := by
  unfold commentOf
  split
  · exact sh_fit (comEnd_fit_n _ _ (Nat.le_refl _))
  · exact fit_none L
theorem comment_ev (a : ByteArray) (ha : a.size ≤ 262144) (p : Nat) (hp : p ≤ a.size) : Ev (fun k => goscan_commentForm.f k a p) (ab p (commentOf (rest a p))) := by
  have hlen := rest_len a p
  unfold goscan_commentForm.f commentOf
  simp only [if_pos (show (0 : Int) ≤ (p : Int) by omega), if_pos (show (p : Int) ≤ (a.size : Int) by omega), Int.toNat_natCast, pfx_eq a _ p hp, Option.bind_some]
  have e := two_eq (rest a p) 47 42 (by omega) (by omega) (by omega) (by omega)
  by_cases c : hd (rest a p) = 47 ∧ hd ((rest a p).drop 1) = 42
  · have e' : (rest a p).take (⟨#[47, 42]⟩ : ByteArray).size = (⟨#[47, 42]⟩ : ByteArray).data.toList := e.2 c
    have := hd_pos (L := (rest a p).drop 1) (by omega)
    rw [List.length_drop] at this
    rw [decide_eq_true e', if_pos c, ← ab_sh, ← rest_add, wrp2 (by omega)]
    simp only [if_true]
    exact com_loop a ha _ (p + 2) (Nat.le_refl _) (by omega)
  · have e' : ¬ (rest a p).take (⟨#[47, 42]⟩ : ByteArray).size = (⟨#[47, 42]⟩ : ByteArray).data.toList := fun h => c (e.1 h)
    rw [decide_eq_false e', if_neg c]
    simp only [Bool.false_eq_true, if_false]
    exact Ev.now _
def letter (L : List UInt8) : Nat := if pr L = 95 ∨ (97 ≤ pr L ∧ pr L ≤ 122) ∨ (65 ≤ pr L ∧ pr L ≤ 90) ∨ 128 ≤ pr L then pw L else 0
theorem letter_eq (a : ByteArray) (p : Nat) : goscan_letter.f a p = some (letter (rest a p) : Int) := by
  unfold goscan_letter.f letter
  simp only [plain_eq, Option.bind_some]
  by_cases c1 : pr (rest a p) = 95
  · rw [if_pos c1, if_pos (.inl c1)]
  rw [if_neg c1]
  by_cases c2 : pr (rest a p) ≥ 97
  · rw [if_pos c2]
    by_cases c3 : pr (rest a p) ≤ 122
    · rw [if_pos c3, if_pos (by omega)]
    · rw [if_neg c3, if_pos (by omega), if_neg (by omega)]
      by_cases c4 : pr (rest a p) ≥ 128
      · rw [if_pos c4, if_pos (by omega)]
      · rw [if_neg c4, if_neg (by omega)]; rfl
  · rw [if_neg c2]
    by_cases c3 : pr (rest a p) ≥ 65
    · rw [if_pos c3]
      by_cases c4 : pr (rest a p) ≤ 90
      · rw [if_pos c4, if_pos (by omega)]
      · rw [if_neg c4, if_neg (by omega), if_neg (by omega)]; rfl
    · rw [if_neg c3, if_neg (by omega), if_neg (by omega)]; rfl
theorem letter_le (L : List UInt8) : letter L ≤ L.length := by
  have := piece_fit L
  unfold letter; split <;> omega
def word (L : List UInt8) : Nat := if h : dig (hd L) 10 = true then 1 + word (L.drop 1) else if h2 : 1 ≤ letter L then letter L + word (L.drop (letter L)) else 0
  termination_by L.length
  decreasing_by
    · have := dig_len h; simp; omega
    · have := letter_le L; simp; omega
theorem word_le_n (n : Nat) : ∀ L : List UInt8, L.length ≤ n → word L ≤ L.length := by
  induction n using Nat.strongRecOn with
  | _ n ih =>
    intro L h
    rw [word]
    split
    · rename_i c
      have h1 := dig_len c
      have := ih (L.length - 1) (by omega) (L.drop 1) (by rw [List.length_drop]; omega)
      rw [List.length_drop] at this; omega
    · split
      · have h1 := letter_le L
        have := ih (L.length - letter L) (by omega) (L.drop (letter L)) (by rw [List.length_drop]; omega)
        rw [List.length_drop] at this; omega
      · omega
theorem word_loop (a : ByteArray) (ha : a.size ≤ 262144) (n : Nat) : ∀ q s : Nat, a.size - (q + s) ≤ n → 1 ≤ s → q + s ≤ a.size → Ev (fun k => goscan_identForm.l0 k a q s) ((q + s + word (rest a (q + s)) : Nat) : Int) := by
  induction n using Nat.strongRecOn with
  | _ n ih =>
    intro q s h0 h1 h2
    have hlen := rest_len a (q + s)
    apply Ev.succ
    simp only [goscan_identForm.l0, if_pos (show (s : Int) > 0 by omega), wrp (show q + s ≤ 1000000 by omega), letter_eq, at_eq, Option.bind_some, dig_hd _ 10 b10]
    rw [word]
    by_cases c1 : dig (hd (rest a (q + s))) 10 = true
    · have := dig_len c1
      rw [dif_pos c1]
      simp only [c1, if_true]
      have h := ih (a.size - (q + s + 1)) (by omega) (q + s) 1 (Nat.le_refl _) (by omega) (by omega)
      rw [rest_add] at h
      rw [← Nat.add_assoc]
      exact h
    · rw [dif_neg c1]
      rw [Bool.not_eq_true] at c1
      simp only [c1, Bool.false_eq_true, if_false]
      have hl := letter_le (rest a (q + s))
      by_cases c2 : 1 ≤ letter (rest a (q + s))
      · rw [dif_pos c2]
        have h := ih (a.size - (q + s + letter (rest a (q + s)))) (by omega) (q + s) (letter (rest a (q + s))) (Nat.le_refl _) c2 (by omega)
        rw [rest_add a (q + s)] at h
        rw [← Nat.add_assoc]
        exact h
      · rw [dif_neg c2, show letter (rest a (q + s)) = 0 by omega]
        apply Ev.succ
        simp only [goscan_identForm.l0, if_neg (show ¬ ((0 : Nat) : Int) > 0 by omega)]
        exact Ev.now _
def identOf (L : List UInt8) : Int := if letter L = 0 then -1 else ((letter L + word (L.drop (letter L)) : Nat) : Int)
theorem ident_fit (L : List UInt8) : Fit L (identOf L) := by
  have := letter_le L
  have h2 := word_le_n _ (L.drop (letter L)) (Nat.le_refl _)
  rw [List.length_drop] at h2
  unfold identOf
  split
  · exact fit_none L
  · right; omega
theorem ident_ev (a : ByteArray) (ha : a.size ≤ 262144) (p : Nat) (hp : p ≤ a.size) : Ev (fun k => goscan_identForm.f k a p) (ab p (identOf (rest a p))) := by
  have hlen := rest_len a p
  have hl := letter_le (rest a p)
  unfold goscan_identForm.f identOf
  simp only [letter_eq, Option.bind_some]
  by_cases c : letter (rest a p) = 0
  · rw [if_pos c, c]
    simp only [if_pos (show ((0 : Nat) : Int) = 0 from rfl)]
    exact Ev.now _
  · rw [if_neg c, ab_some (by omega)]
    simp only [if_neg (show ¬ ((letter (rest a p) : Nat) : Int) = 0 by omega)]
    have h := word_loop a ha _ p (letter (rest a p)) (Nat.le_refl _) (by omega) (by omega)
    rw [rest_add] at h
    rw [show (p : Int) + ((letter (rest a p) + word ((rest a p).drop (letter (rest a p))) : Nat) : Int) = ((p + letter (rest a p) + word ((rest a p).drop (letter (rest a p))) : Nat) : Int) by omega]
    exact h
def hexv (c : Int) : Int := if c ≤ 57 then c - 48 else if 97 ≤ c then c - 87 else c - 55
theorem hexv_all : ∀ c : Fin 256, dig (c.1 : Int) 16 = true → strings_IndexByte.f (⟨#[48, 49, 50, 51, 52, 53, 54, 55, 56, 57, 97, 98, 99, 100, 101, 102]⟩ : ByteArray) (Go.bits .or .u8 (c.1 : Int) 32) = some (hexv c.1) ∧ 0 ≤ hexv c.1 ∧ hexv c.1 ≤ 15 := by decide +kernel
theorem hexv_eq (c : Int) (h0 : 0 ≤ c) (h1 : c ≤ 255) (hd : dig c 16 = true) : strings_IndexByte.f (⟨#[48, 49, 50, 51, 52, 53, 54, 55, 56, 57, 97, 98, 99, 100, 101, 102]⟩ : ByteArray) (Go.bits .or .u8 c 32) = some (hexv c) ∧ 0 ≤ hexv c ∧ hexv c ≤ 15 := by
  have h := hexv_all ⟨c.toNat, by omega⟩
  have e : ((⟨c.toNat, by omega⟩ : Fin 256).1 : Int) = c := by simp; omega
  rw [e] at h
  exact h hd
def hexn : Nat → Int → List UInt8 → Int
  | 0, v, _ => v
  | n + 1, v, L => if dig (hd L) 16 = true then hexn n (v * 16 + hexv (hd L)) (L.drop 1) else -1
theorem pow16 : ∀ j : Fin 11, (16 : Int) ^ j.1 ≤ 1099511627776 := by decide
theorem hexn_ev (a : ByteArray) (ha : a.size ≤ 262144) (p m : Nat) (hp : p + m ≤ 262160) (n : Nat) : ∀ (q j : Nat) (v : Int), q + n = p + m → 0 ≤ v → j + n ≤ 10 → v + 1 ≤ 16 ^ j → Ev (fun k => goscan_digits16.l0 k a p m v q) (hexn n v (rest a q)) := by
  induction n with
  | zero =>
    intro q j v hq h0 hj h1
    apply Ev.succ
    simp only [goscan_digits16.l0, wrp (show p + m ≤ 1000000 by omega), if_neg (show ¬ (q : Int) < ((p + m : Nat) : Int) by omega), hexn]
    exact Ev.now _
  | succ n ih =>
    intro q j v hq h0 hj h1
    apply Ev.succ
    simp only [goscan_digits16.l0, wrp (show p + m ≤ 1000000 by omega), if_pos (show (q : Int) < ((p + m : Nat) : Int) by omega), at_eq, Option.bind_some, dig_hd _ 16 b16, hexn]
    by_cases c : dig (hd (rest a q)) 16 = true
    · have hv := hexv_eq (hd (rest a q)) (hd_range _).1 (hd_range _).2 c
      have hl := dig_len c
      have hlen := rest_len a q
      have hb := pow16 ⟨j, by omega⟩
      have hb : (16 : Int) ^ j ≤ 1099511627776 := hb
      have hs : (16 : Int) ^ (j + 1) = 16 ^ j * 16 := Int.pow_succ _ _
      simp only [c, if_true, if_pos (show (0 : Int) ≤ (q : Int) by omega), if_pos (show (q : Int) < (a.size : Int) by omega), hd_rest a q (by omega), hv.1, Option.bind_some, wrp1 (show q + 1 ≤ 1000000 by omega)]
      rw [wr (x := v * 16) (by omega) (by omega), wr (x := v * 16 + hexv (hd (rest a q))) (by omega) (by omega), ← rest_add]
      exact ih (q + 1) (j + 1) _ (by omega) (by omega) (by omega) (by rw [hs]; omega)
    · rw [if_neg c]
      rw [Bool.not_eq_true] at c
      simp only [c, Bool.false_eq_true, if_false]
      exact Ev.now _
theorem hexn_ev' (a : ByteArray) (ha : a.size ≤ 262144) (p m : Nat) (hp : p ≤ 262150) (hm : m ≤ 8) : Ev (fun k => goscan_digits16.f k a p m) (hexn m 0 (rest a p)) :=
  hexn_ev a ha p m (by omega) m p 0 0 (by omega) (by omega) (by omega) (by decide)
def simple (c : Int) : Bool := decide (c = 97 ∨ c = 98 ∨ c = 102 ∨ c = 110 ∨ c = 114 ∨ c = 116 ∨ c = 118 ∨ c = 92)
theorem simple_all : ∀ c : Fin 256, (strings_IndexByte.f (⟨#[97, 98, 102, 110, 114, 116, 118, 92]⟩ : ByteArray) (c.1 : Int)).map (fun t => decide (t ≥ 0)) = some (simple c.1) := by decide +kernel
theorem simple_eq (c : Int) (h0 : 0 ≤ c) (h1 : c ≤ 255) : ∃ t, strings_IndexByte.f (⟨#[97, 98, 102, 110, 114, 116, 118, 92]⟩ : ByteArray) c = some t ∧ decide (t ≥ 0) = simple c := by
  have h := simple_all ⟨c.toNat, by omega⟩
  have e : ((⟨c.toNat, by omega⟩ : Fin 256).1 : Int) = c := by simp; omega
  rw [e] at h
  cases ht : strings_IndexByte.f (⟨#[97, 98, 102, 110, 114, 116, 118, 92]⟩ : ByteArray) c with
  | none => rw [ht] at h; simp at h
  | some t =>
    rw [ht] at h
    exact ⟨t, rfl, Option.some.inj h⟩
def okRune (r : Int) : Bool := decide (0 ≤ r ∧ r ≤ 1114111 ∧ (r < 55296 ∨ 57343 < r))
def escOf (q : Int) (L : List UInt8) : Int :=
  if hd L = 92 then
    (if (hd (L.drop 1) = q ∨ simple (hd (L.drop 1)) = true) then 2
    else if 48 ≤ hd (L.drop 1) ∧ hd (L.drop 1) ≤ 51 then (if dig (hd (L.drop 2)) 8 = true ∧ dig (hd (L.drop 3)) 8 = true then 4 else -1)
    else if hd (L.drop 1) = 120 then (if hexn 2 0 (L.drop 2) ≥ 0 then 4 else -1)
    else if hd (L.drop 1) = 117 then (if okRune (hexn 4 0 (L.drop 2)) then 6 else -1)
    else if hd (L.drop 1) = 85 then (if okRune (hexn 8 0 (L.drop 2)) then 10 else -1)
    else -1)
  else -1
theorem esc_tail (p : Nat) (hp : p ≤ 262144) (m : Nat) (v : Int) (hm : m ≤ 8) : Ev (fun k => if v ≥ 0 then (if v ≤ 1114111 then (if v < 55296 then some (wrap64 (((p + 2 : Nat) : Int) + m)) else if v > 57343 then some (wrap64 (((p + 2 : Nat) : Int) + m)) else some (-1)) else some (-1)) else some (-1)) (ab p (if okRune v = true then ((2 + m : Nat) : Int) else -1)) := by
  rw [wrp (show p + 2 + m ≤ 1000000 by omega)]
  unfold okRune
  by_cases d1 : v ≥ 0
  · simp only [if_pos d1]
    by_cases d2 : v ≤ 1114111
    · simp only [if_pos d2]
      by_cases d3 : v < 55296
      · simp only [if_pos d3]
        rw [if_pos (decide_eq_true (by omega)), ab_some (by omega), show (p : Int) + ((2 + m : Nat) : Int) = ((p + 2 + m : Nat) : Int) by omega]
        exact Ev.now _
      · simp only [if_neg d3]
        by_cases d4 : v > 57343
        · simp only [if_pos d4]
          rw [if_pos (decide_eq_true (by omega)), ab_some (by omega), show (p : Int) + ((2 + m : Nat) : Int) = ((p + 2 + m : Nat) : Int) by omega]
          exact Ev.now _
        · simp only [if_neg d4]
          rw [if_neg (by simp only [decide_eq_true_eq]; omega)]
          exact Ev.now _
    · simp only [if_neg d2]
      rw [if_neg (by simp only [decide_eq_true_eq]; omega)]
      exact Ev.now _
  · simp only [if_neg d1]
    rw [if_neg (by simp only [decide_eq_true_eq]; omega)]
    exact Ev.now _
theorem esc_ev (a : ByteArray) (ha : a.size ≤ 262144) (q : Int) (hq : 0 < q) (p : Nat) (hp : p ≤ a.size) : Ev (fun k => goscan_escapeForm.f k a p q) (ab p (escOf q (rest a p))) := by
  obtain ⟨L, hL⟩ : ∃ L, rest a p = L := ⟨_, rfl⟩
  have hlen := rest_len a p
  rw [hL] at hlen
  have hadd : ∀ n, rest a (p + n) = L.drop n := fun n => by rw [rest_add, hL]
  have hat : ∀ n, goscan_at.f a ((p + n : Nat) : Int) = some (hd (L.drop n)) := fun n => by rw [at_eq, hadd]
  have hp2 : p ≤ 262144 := Nat.le_trans hp ha
  have w1 : wrap64 ((p : Int) + 1) = ((p + 1 : Nat) : Int) := wrp1 (by omega)
  have w2 : wrap64 ((p : Int) + 2) = ((p + 2 : Nat) : Int) := wrp2 (by omega)
  have w3 : wrap64 ((p : Int) + 3) = ((p + 3 : Nat) : Int) := wrp (n := 3) (by omega)
  have w4 : wrap64 ((p : Int) + 4) = ((p + 4 : Nat) : Int) := wrp (n := 4) (by omega)
  have hx2 := hexn_ev' a ha (p + 2) 2 (by omega) (by omega)
  have hx4 := hexn_ev' a ha (p + 2) 4 (by omega) (by omega)
  have hx8 := hexn_ev' a ha (p + 2) 8 (by omega) (by omega)
  rw [hadd] at hx2 hx4 hx8
  have tail := fun m v hm => esc_tail p hp2 m v hm
  have stop : Ev (fun k => goscan_escapeForm.j0 k a p q true) (-1) := by
    apply Ev.succ
    simp only [goscan_escapeForm.j0, if_true]
    exact Ev.now _
  unfold goscan_escapeForm.f escOf
  simp only [at_eq, Option.bind_some, hL, w1]
  by_cases c0 : hd L = 92
  rotate_left
  · simp only [if_neg c0]
    exact stop
  simp only [if_pos c0]
  obtain ⟨c, hc⟩ : ∃ c, hd (L.drop 1) = c := ⟨_, rfl⟩
  have hcr := hd_range (L.drop 1)
  rw [hc] at hcr ⊢
  by_cases c1 : p + 1 < a.size
  rotate_left
  · have e0 : c = 0 := by rw [← hc, ← hadd 1]; exact hd_past a (p + 1) (by omega)
    subst e0
    simp only [decide_eq_true (show ((p + 1 : Nat) : Int) ≥ (a.size : Int) by omega)]
    rw [if_neg (by simp [simple]; omega), if_neg (by omega), if_neg (by omega), if_neg (by omega), if_neg (by omega)]
    exact stop
  simp only [decide_eq_false (show ¬ ((p + 1 : Nat) : Int) ≥ (a.size : Int) by omega)]
  have hbt : bt a ((p + 1 : Nat) : Int) = c := by rw [hd_rest a _ c1, hadd, hc]
  have yes : Ev (fun k => goscan_escapeForm.j1 k a p c true) (ab p 2) := by
    apply Ev.succ
    simp only [goscan_escapeForm.j1, if_true, w2]
    exact Ev.now _
  apply Ev.succ
  simp only [goscan_escapeForm.j0, Bool.false_eq_true, if_false, w1, if_pos (show (0 : Int) ≤ ((p + 1 : Nat) : Int) by omega), if_pos (show ((p + 1 : Nat) : Int) < (a.size : Int) by omega), hbt]
  obtain ⟨t, ht, hs⟩ := simple_eq c hcr.1 hcr.2
  simp only [ht, Option.bind_some, hs]
  by_cases c2 : c = q
  · simp only [if_pos c2]
    rw [if_pos (.inl c2)]
    rw [c2] at yes
    rw [c2]
    exact yes
  simp only [if_neg c2]
  by_cases c3 : simple c = true
  · rw [if_pos (.inr c3), c3]
    exact yes
  rw [if_neg (fun h => h.elim c2 c3)]
  rw [Bool.not_eq_true] at c3
  rw [c3]
  apply Ev.succ
  simp only [goscan_escapeForm.j1, Bool.false_eq_true, if_false]
  by_cases c4 : 48 ≤ c ∧ c ≤ 51
  · rw [if_pos c4]
    simp only [if_pos (show c ≥ 48 from c4.1), decide_eq_true c4.2]
    apply Ev.succ
    simp only [goscan_escapeForm.j2, if_true, w2, w3, w4, hat, Option.bind_some, dig_hd _ 8 b8]
    by_cases d1 : dig (hd (L.drop 2)) 8 = true
    · simp only [d1, if_true]
      by_cases d2 : dig (hd (L.drop 3)) 8 = true
      · simp only [d2, and_self, if_true]
        exact Ev.now _
      · rw [Bool.not_eq_true] at d2
        simp only [d2, Bool.false_eq_true, and_false, if_false]
        exact Ev.now _
    · rw [Bool.not_eq_true] at d1
      simp only [d1, Bool.false_eq_true, false_and, if_false]
      exact Ev.now _
  rw [if_neg c4]
  have go2 : ∀ r : Int, Ev (fun k => goscan_escapeForm.j2 k a p c false) r → Ev (fun k => if c ≥ 48 then goscan_escapeForm.j2 k a p c (decide (c ≤ 51)) else goscan_escapeForm.j2 k a p c false) r := by
    intro r h
    by_cases c5 : c ≥ 48
    · simp only [if_pos c5, decide_eq_false (show ¬ c ≤ 51 by omega)]
      exact h
    · simp only [if_neg c5]
      exact h
  apply go2
  apply Ev.succ
  simp only [goscan_escapeForm.j2, Bool.false_eq_true, if_false, w2, w4]
  by_cases c6 : c = 120
  · simp only [if_pos c6]
    refine Ev.bind hx2 ?_
    by_cases d : hexn 2 0 (L.drop 2) ≥ 0
    · simp only [if_pos d]; exact Ev.now _
    · simp only [if_neg d]; exact Ev.now _
  simp only [if_neg c6]
  by_cases c7 : c = 117
  · simp only [if_pos c7]
    apply Ev.succ
    simp only [goscan_escapeForm.j3, if_true, if_neg (show ¬ c = 85 by omega), w2]
    exact Ev.bind hx4 (tail 4 _ (by omega))
  simp only [if_neg c7]
  apply Ev.succ
  by_cases c8 : c = 85
  · simp only [goscan_escapeForm.j3, c8, beq_self_eq_true, if_true, w2]
    exact Ev.bind hx8 (tail 8 _ (by omega))
  · rw [show (c == 85) = false from beq_eq_false_iff_ne.2 c8, if_neg c8]
    simp only [goscan_escapeForm.j3, Bool.false_eq_true, if_false]
    exact Ev.now _
theorem hexn_len (n : Nat) : ∀ (v : Int) (L : List UInt8), 0 ≤ hexn n v L → n ≤ L.length ∨ n = 0 := by
  induction n with
  | zero => intro v L _; exact .inr rfl
  | succ n ih =>
    intro v L h
    unfold hexn at h
    by_cases c : dig (hd L) 16 = true
    · rw [if_pos c] at h
      have h1 := dig_len c
      have := ih _ _ h
      rw [List.length_drop] at this
      omega
    · rw [if_neg c] at h; omega
theorem esc_fit (q : Int) (hq : 0 < q) (L : List UInt8) : Fit L (escOf q L) := by
  unfold escOf
  split
  · rename_i c0
    have l0 := hd_pos (L := L) (by omega)
    split
    · rename_i c
      have : hd (L.drop 1) ≠ 0 := by
        intro e
        rw [e] at c
        rcases c with c | c
        · omega
        · exact absurd c (by decide)
      have := hd_pos this
      rw [List.length_drop] at this
      right; omega
    · split
      · split
        · rename_i c
          have := dig_len c.2
          rw [List.length_drop] at this
          right; omega
        · exact fit_none L
      · split
        · split
          · rename_i c
            have := hexn_len 2 0 _ c
            rw [List.length_drop] at this
            right; omega
          · exact fit_none L
        · split
          · split
            · rename_i c
              simp only [okRune, decide_eq_true_eq] at c
              have := hexn_len 4 0 _ c.1
              rw [List.length_drop] at this
              right; omega
            · exact fit_none L
          · split
            · split
              · rename_i c
                simp only [okRune, decide_eq_true_eq] at c
                have := hexn_len 8 0 _ c.1
                rw [List.length_drop] at this
                right; omega
              · exact fit_none L
            · exact fit_none L
  · exact fit_none L
def oneOf (q : Int) (L : List UInt8) : Int := if hd L = 92 then escOf q L else if pw L = 0 ∨ pr L = 10 ∨ pr L = q then -1 else (pw L : Int)
theorem one_fit (q : Int) (hq : 0 < q) (L : List UInt8) : Fit L (oneOf q L) := by
  have := piece_fit L
  unfold oneOf
  split
  · exact esc_fit q hq L
  · split
    · exact fit_none L
    · right; omega
theorem wr32 {q : Int} (h0 : 0 ≤ q) (h1 : q ≤ 255) : wrap32 q = q := by unfold wrap32; omega
theorem one_ev (a : ByteArray) (ha : a.size ≤ 262144) (q : Int) (hq : 0 < q) (hq' : q ≤ 255) (p : Nat) (hp : p ≤ a.size) : Ev (fun k => goscan_oneForm.f k a p q) (ab p (oneOf q (rest a p))) := by
  have hf := piece_fit (rest a p)
  have hlen := rest_len a p
  unfold goscan_oneForm.f oneOf
  simp only [at_eq, Option.bind_some, plain_eq, wr32 (show 0 ≤ q by omega) hq']
  by_cases c : hd (rest a p) = 92
  · simp only [if_pos c]
    exact Ev.bind (esc_ev a ha q hq p hp) (Ev.now _)
  simp only [if_neg c]
  by_cases c1 : pw (rest a p) = 0
  · simp only [if_pos (show ((pw (rest a p) : Nat) : Int) = 0 by omega)]
    rw [if_pos (.inl c1)]; exact Ev.now _
  simp only [if_neg (show ¬ ((pw (rest a p) : Nat) : Int) = 0 by omega)]
  by_cases c2 : pr (rest a p) = 10
  · simp only [if_pos c2]
    rw [if_pos (.inr (.inl c2))]; exact Ev.now _
  simp only [if_neg c2]
  by_cases c3 : pr (rest a p) = q
  · simp only [if_pos c3]
    rw [if_pos (.inr (.inr c3))]; exact Ev.now _
  simp only [if_neg c3]
  rw [if_neg (by omega), ab_some (by omega), wrp (show p + pw (rest a p) ≤ 1000000 by omega), show (p : Int) + ((pw (rest a p) : Nat) : Int) = ((p + pw (rest a p) : Nat) : Int) by omega]
  exact Ev.now _
def charOf (L : List UInt8) : Int := if hd L = 39 then (if oneOf 39 (L.drop 1) < 0 then -1 else if hd (L.drop (1 + (oneOf 39 (L.drop 1)).toNat)) = 39 then 2 + oneOf 39 (L.drop 1) else -1) else -1
theorem char_fit (L : List UInt8) : Fit L (charOf L) := by
  unfold charOf
  split
  · split
    · exact fit_none L
    · split
      · rename_i c0 c1 c2
        have h := hd_pos (L := L.drop (1 + (oneOf 39 (L.drop 1)).toNat)) (by omega)
        rw [List.length_drop] at h
        right; omega
      · exact fit_none L
  · exact fit_none L
theorem char_ev (a : ByteArray) (ha : a.size ≤ 262144) (p : Nat) (hp : p ≤ a.size) : Ev (fun k => goscan_charForm.f k a p) (ab p (charOf (rest a p))) := by
  have hlen := rest_len a p
  unfold goscan_charForm.f charOf
  simp only [at_eq, Option.bind_some, wrp1 (show p + 1 ≤ 1000000 by omega)]
  by_cases c : hd (rest a p) = 39
  · have l0 := hd_pos (L := rest a p) (by omega)
    simp only [if_pos c]
    refine Ev.bind (one_ev a ha 39 (by omega) (by omega) (p + 1) (by omega)) ?_
    rw [rest_add]
    have hf := one_fit 39 (by omega) ((rest a p).drop 1)
    by_cases c1 : oneOf 39 ((rest a p).drop 1) < 0
    · simp only [if_pos c1]
      rw [show oneOf 39 ((rest a p).drop 1) = -1 by unfold Fit at hf; omega, ab_none]
      simp only [if_pos (show (-1 : Int) < 0 by omega)]
      exact Ev.now _
    · obtain ⟨n, hn⟩ : ∃ n : Nat, oneOf 39 ((rest a p).drop 1) = n := ⟨(oneOf 39 ((rest a p).drop 1)).toNat, by omega⟩
      rw [hn] at hf ⊢
      have hb : n + 1 ≤ (rest a p).length := by unfold Fit at hf; rw [List.length_drop] at hf; omega
      rw [ab_some (by omega), show ((p + 1 : Nat) : Int) + (n : Int) = ((p + (1 + n) : Nat) : Int) by omega]
      simp only [if_neg (show ¬ ((p + (1 + n) : Nat) : Int) < 0 by omega), if_neg (show ¬ (n : Int) < 0 by omega), at_eq, rest_add a p (1 + n), Option.bind_some, Int.toNat_natCast, wrp1 (show p + (1 + n) + 1 ≤ 1000000 by omega)]
      by_cases c2 : hd ((rest a p).drop (1 + n)) = 39
      · simp only [if_pos c2]
        rw [ab_some (by omega), show (p : Int) + (2 + (n : Int)) = ((p + (1 + n) + 1 : Nat) : Int) by omega]
        exact Ev.now _
      · simp only [if_neg c2]
        exact Ev.now _
  · simp only [if_neg c]
    exact Ev.now _
def strEnd (L : List UInt8) : Int := if hd L = 34 then 1 else if h : 0 < oneOf 34 L then sh (oneOf 34 L).toNat (strEnd (L.drop (oneOf 34 L).toNat)) else -1
  termination_by L.length
  decreasing_by
    have := one_fit 34 (by omega) L
    unfold Fit at this
    simp; omega
def rawEnd (L : List UInt8) : Int := if hd L = 96 then 1 else if h : 1 ≤ pw L then sh (pw L) (rawEnd (L.drop (pw L))) else -1
  termination_by L.length
  decreasing_by
    have := piece_fit L; simp; omega
theorem strEnd_fit_n (n : Nat) : ∀ L : List UInt8, L.length ≤ n → Fit L (strEnd L) := by
  induction n using Nat.strongRecOn with
  | _ n ih =>
    intro L h
    rw [strEnd]
    have hf := one_fit 34 (by omega) L
    unfold Fit at hf
    split
    · have := hd_pos (L := L) (by omega)
      right; omega
    · split
      · exact sh_fit (ih (L.length - (oneOf 34 L).toNat) (by omega) _ (by rw [List.length_drop]; omega))
      · exact fit_none L
theorem rawEnd_fit_n (n : Nat) : ∀ L : List UInt8, L.length ≤ n → Fit L (rawEnd L) := by
  induction n using Nat.strongRecOn with
  | _ n ih =>
    intro L h
    rw [rawEnd]
    have hf := piece_fit L
    split
    · have := hd_pos (L := L) (by omega)
      right; omega
    · split
      · exact sh_fit (ih (L.length - pw L) (by omega) _ (by rw [List.length_drop]; omega))
      · exact fit_none L
theorem str_loop (a : ByteArray) (ha : a.size ≤ 262144) (n : Nat) : ∀ q : Nat, a.size - q ≤ n → q ≤ a.size → Ev (fun k => goscan_quotedForm.l0 k a q) (ab q (strEnd (rest a q))) := by
  induction n using Nat.strongRecOn with
  | _ n ih =>
    intro q h0 h2
    have hlen := rest_len a q
    have hf := one_fit 34 (by omega) (rest a q)
    unfold Fit at hf
    apply Ev.succ
    simp only [goscan_quotedForm.l0, at_eq, Option.bind_some]
    rw [strEnd]
    by_cases c : hd (rest a q) = 34
    · simp only [if_pos c, wrp1 (show q + 1 ≤ 1000000 by omega)]
      exact Ev.now _
    simp only [if_neg c]
    refine Ev.bind (one_ev a ha 34 (by omega) (by omega) q h2) ?_
    by_cases c1 : 0 < oneOf 34 (rest a q)
    · rw [dif_pos c1]
      obtain ⟨m, hm⟩ : ∃ m : Nat, oneOf 34 (rest a q) = m := ⟨(oneOf 34 (rest a q)).toNat, by omega⟩
      rw [hm] at c1 hf ⊢
      rw [ab_some (by omega), Int.toNat_natCast]
      simp only [if_neg (show ¬ (q : Int) + (m : Int) < 0 by omega)]
      have h := ih (a.size - (q + m)) (by omega) (q + m) (by omega) (by omega)
      rw [rest_add, ab_sh] at h
      exact h
    · rw [dif_neg c1, show oneOf 34 (rest a q) = -1 by omega, ab_none]
      simp only [if_pos (show (-1 : Int) < 0 by omega)]
      exact Ev.now _
theorem raw_loop (a : ByteArray) (ha : a.size ≤ 262144) (n : Nat) : ∀ q : Nat, a.size - q ≤ n → q ≤ a.size → Ev (fun k => goscan_quotedForm.l1 k a q) (ab q (rawEnd (rest a q))) := by
  induction n using Nat.strongRecOn with
  | _ n ih =>
    intro q h0 h2
    have hlen := rest_len a q
    have hf := piece_fit (rest a q)
    apply Ev.succ
    simp only [goscan_quotedForm.l1, at_eq, Option.bind_some, plain_eq]
    rw [rawEnd]
    by_cases c : hd (rest a q) = 96
    · simp only [if_pos c, wrp1 (show q + 1 ≤ 1000000 by omega)]
      exact Ev.now _
    simp only [if_neg c]
    by_cases c1 : 1 ≤ pw (rest a q)
    · rw [dif_pos c1]
      simp only [if_neg (show ¬ ((pw (rest a q) : Nat) : Int) = 0 by omega)]
      rw [wrp (show q + pw (rest a q) ≤ 1000000 by omega)]
      have h := ih (a.size - (q + pw (rest a q))) (by omega) (q + pw (rest a q)) (by omega) (by omega)
      rw [rest_add, ab_sh] at h
      exact h
    · rw [dif_neg c1]
      simp only [if_pos (show ((pw (rest a q) : Nat) : Int) = 0 by omega)]
      exact Ev.now _
def quotedOf (L : List UInt8) : Int := if hd L = 34 then sh 1 (strEnd (L.drop 1)) else if hd L = 96 then sh 1 (rawEnd (L.drop 1)) else -1
theorem quoted_fit (L : List UInt8) : Fit L (quotedOf L) := by
  unfold quotedOf
  split
  · exact sh_fit (strEnd_fit_n _ _ (Nat.le_refl _))
  · split
    · exact sh_fit (rawEnd_fit_n _ _ (Nat.le_refl _))
    · exact fit_none L
theorem quoted_ev (a : ByteArray) (ha : a.size ≤ 262144) (p : Nat) (hp : p ≤ a.size) : Ev (fun k => goscan_quotedForm.f k a p) (ab p (quotedOf (rest a p))) := by
  have hlen := rest_len a p
  unfold goscan_quotedForm.f quotedOf
  simp only [at_eq, Option.bind_some, wrp1 (show p + 1 ≤ 1000000 by omega)]
  by_cases c : hd (rest a p) = 34
  · have l0 := hd_pos (L := rest a p) (by omega)
    simp only [if_pos c]
    have h := str_loop a ha _ (p + 1) (Nat.le_refl _) (by omega)
    rw [rest_add, ab_sh] at h
    exact h
  simp only [if_neg c]
  by_cases c : hd (rest a p) = 96
  · have l0 := hd_pos (L := rest a p) (by omega)
    simp only [if_pos c]
    have h := raw_loop a ha _ (p + 1) (Nat.le_refl _) (by omega)
    rw [rest_add, ab_sh] at h
    exact h
  simp only [if_neg c]
  exact Ev.now _
def forms (L : List UInt8) : List Int := [blankOf L, newlineOf L, remarkOf L, commentOf L, identOf L, wholeOf L, brokenOf L, imagOf L, charOf L, quotedOf L]
theorem forms_fit (L : List UInt8) : ∀ r ∈ forms L, Fit L r := by
  intro r h
  simp only [forms, List.mem_cons, List.not_mem_nil, or_false] at h
  rcases h with rfl | rfl | rfl | rfl | rfl | rfl | rfl | rfl | rfl | rfl
  · exact blank_fit L
  · exact newline_fit L
  · exact remark_fit L
  · exact comment_fit L
  · exact ident_fit L
  · exact whole_fit L
  · exact broken_fit L
  · exact imag_fit L
  · exact char_fit L
  · exact quoted_fit L
def longOf (L : List UInt8) : Int × Int := goscan_longest.pick (forms L) 0 (0, -1)
theorem pick_ab (p : Nat) : ∀ (l : List Int) (j m i : Int), (∀ r ∈ l, -1 ≤ r) → 0 ≤ m → goscan_longest.pick (l.map (ab p)) j ((p : Int) + m, i) = ((p : Int) + (goscan_longest.pick l j (m, i)).1, (goscan_longest.pick l j (m, i)).2)
  | [], j, m, i, _, _ => rfl
  | r :: l, j, m, i, h, hm => by
    have hr := h r List.mem_cons_self
    have hl : ∀ r ∈ l, -1 ≤ r := fun x hx => h x (List.mem_cons_of_mem _ hx)
    simp only [List.map_cons, goscan_longest.pick]
    by_cases c : r > m
    · rw [if_pos c, ab_some (by omega), if_pos (by omega)]
      exact pick_ab p l (j + 1) r j hl (by omega)
    · rw [if_neg c, if_neg (by unfold ab; split <;> omega)]
      exact pick_ab p l (j + 1) m i hl hm
theorem pick_fit (n : Int) : ∀ (l : List Int) (j m i : Int), (∀ r ∈ l, r = -1 ∨ (1 ≤ r ∧ r ≤ n)) → 0 ≤ m → m ≤ n → -1 ≤ i → i < j → (i = -1 ↔ m = 0) →
    0 ≤ (goscan_longest.pick l j (m, i)).1 ∧ (goscan_longest.pick l j (m, i)).1 ≤ n ∧ -1 ≤ (goscan_longest.pick l j (m, i)).2 ∧ (goscan_longest.pick l j (m, i)).2 < j + l.length ∧ ((goscan_longest.pick l j (m, i)).2 = -1 ↔ (goscan_longest.pick l j (m, i)).1 = 0)
  | [], j, m, i, _, h0, h1, h2, h3, h4 => by simp only [goscan_longest.pick, List.length_nil]; omega
  | r :: l, j, m, i, h, h0, h1, h2, h3, h4 => by
    have hr := h r List.mem_cons_self
    have hl : ∀ r ∈ l, r = -1 ∨ (1 ≤ r ∧ r ≤ n) := fun x hx => h x (List.mem_cons_of_mem _ hx)
    simp only [goscan_longest.pick, List.length_cons]
    by_cases c : r > m
    · rw [if_pos c]
      have := pick_fit n l (j + 1) r j hl (by omega) (by omega) (by omega) (by omega) (by omega)
      omega
    · rw [if_neg c]
      have := pick_fit n l (j + 1) m i hl h0 h1 h2 (by omega) h4
      omega
theorem long_fit (L : List UInt8) : 0 ≤ (longOf L).1 ∧ (longOf L).1 ≤ (L.length : Int) ∧ -1 ≤ (longOf L).2 ∧ (longOf L).2 < 10 ∧ ((longOf L).2 = -1 ↔ (longOf L).1 = 0) := by
  have := pick_fit L.length (forms L) 0 0 (-1) (forms_fit L) (by omega) (by omega) (by omega) (by omega) (by omega)
  have e : ((forms L).length : Int) = 10 := rfl
  rw [e] at this
  refine ⟨this.1, this.2.1, this.2.2.1, ?_, this.2.2.2.2⟩
  show (goscan_longest.pick (forms L) 0 (0, -1)).2 < 10
  omega
theorem long_ev (a : ByteArray) (ha : a.size ≤ 262144) (p : Nat) (hp : p ≤ a.size) : Ev (fun k => goscan_longest.f k a p) ((p : Int) + (longOf (rest a p)).1, (longOf (rest a p)).2) := by
  have hp2 : p ≤ 262144 := Nat.le_trans hp ha
  unfold goscan_longest.f
  refine Ev.bind (blank_ev a ha p hp) (Ev.bind (Ev.const (newlineForm_eq a ha p hp)) (Ev.bind (remark_ev a ha p hp) (Ev.bind (comment_ev a ha p hp) (Ev.bind (ident_ev a ha p hp) (Ev.bind (whole_ev a ha p hp2) (Ev.bind (broken_ev a ha p hp2) (Ev.bind (imag_ev a ha p hp2) (Ev.bind (char_ev a ha p hp) (Ev.bind (quoted_ev a ha p hp) ?_)))))))))
  have h := pick_ab p (forms (rest a p)) 0 0 (-1) (fun r hr => fit_ge (forms_fit _ r hr)) (by omega)
  rw [Int.add_zero] at h
  have e : goscan_longest.pick [ab p (blankOf (rest a p)), ab p (newlineOf (rest a p)), ab p (remarkOf (rest a p)), ab p (commentOf (rest a p)), ab p (identOf (rest a p)), ab p (wholeOf (rest a p)), ab p (brokenOf (rest a p)), ab p (imagOf (rest a p)), ab p (charOf (rest a p)), ab p (quotedOf (rest a p))] 0 ((p : Int), -1) = ((p : Int) + (longOf (rest a p)).1, (longOf (rest a p)).2) := h
  rw [e]
  exact Ev.now _
def writ (L : List UInt8) : List S69 → Int → Int × Int → Int × Int
  | [], _, s => s
  | t :: l, i, s => writ L l (i + 1) (if (t.f1.size : Int) > s.2 ∧ L.take t.f1.size = t.f1.data.toList then (8 + i, (t.f1.size : Int)) else s)
def writOf (L : List UInt8) : Int × Int := writ L goscan_operators.l 0 (0, 0)
theorem rd69_at (l : List S69) (i : Nat) (h : i < l.length) : rd_T69 l (i : Int) = l[i] := by
  unfold rd_T69
  rw [List.getD_eq_getElem?_getD, Int.toNat_natCast, List.getElem?_eq_getElem h]
  rfl
theorem writ_loop (a : ByteArray) (ha : a.size ≤ 262144) (p : Nat) (hp : p ≤ a.size) (Y : List S69) (hy : Y.length ≤ 1000) (n : Nat) : ∀ (i : Nat) (c m : Int), i + n = Y.length → 0 ≤ m → m ≤ 262144 → Ev (fun k => goscan_written.l0 k a p c (p + m) Y (Y.length : Int) i) ((writ (rest a p) (Y.drop i) i (c, m)).1, (p : Int) + (writ (rest a p) (Y.drop i) i (c, m)).2) := by
  have hlen := rest_len a p
  induction n with
  | zero =>
    intro i c m hi h0 h1
    apply Ev.succ
    rw [List.drop_eq_nil_of_le (by omega)]
    simp only [goscan_written.l0, if_neg (show ¬ (i : Int) < (Y.length : Int) by omega), writ]
    exact Ev.now _
  | succ n ih =>
    intro i c m hi h0 h1
    have hil : i < Y.length := by omega
    apply Ev.succ
    rw [List.drop_eq_getElem_cons hil]
    obtain ⟨t, ht⟩ : ∃ t, Y[i] = t := ⟨_, rfl⟩
    rw [ht]
    simp only [goscan_written.l0, if_pos (show (i : Int) < (Y.length : Int) by omega), if_pos (show (0 : Int) ≤ (i : Int) by omega), rd69_at Y i hil, ht, if_pos (show (0 : Int) ≤ (p : Int) by omega), if_pos (show (p : Int) ≤ (a.size : Int) by omega), Int.toNat_natCast, pfx_eq a _ p hp, Option.bind_some, wrp1 (show i + 1 ≤ 1000000 by omega), writ]
    rw [wr (x := (p : Int) + m - p) (by omega) (by omega), show (p : Int) + m - p = m by omega]
    have hstep : ((i : Int) + 1) = ((i + 1 : Nat) : Int) := by omega
    rw [hstep]
    by_cases c1 : (t.f1.size : Int) > m
    · simp only [if_pos c1]
      by_cases c2 : (rest a p).take t.f1.size = t.f1.data.toList
      · have hs : t.f1.size ≤ (rest a p).length := by
          have := congrArg List.length c2
          rw [List.length_take] at this
          have e : t.f1.data.toList.length = t.f1.size := rfl
          omega
        rw [if_pos ⟨c1, c2⟩]
        simp only [decide_eq_true c2, if_true]
        rw [wrp (show p + t.f1.size ≤ 1000000 by omega), wr (x := 8 + (i : Int)) (by omega) (by omega)]
        have hh := ih (i + 1) (8 + (i : Int)) (t.f1.size : Int) (by omega) (by omega) (by omega)
        rw [show (p : Int) + (t.f1.size : Int) = ((p + t.f1.size : Nat) : Int) by omega] at hh
        exact hh
      · rw [if_neg (fun h => c2 h.2)]
        simp only [decide_eq_false c2, Bool.false_eq_true, if_false]
        exact ih (i + 1) _ _ (by omega) h0 h1
    · simp only [if_neg c1]
      rw [if_neg (fun h => c1 h.1)]
      exact ih (i + 1) _ _ (by omega) h0 h1
theorem opers_len : goscan_operators.l.length = 48 := by decide +kernel
theorem writ_ev (a : ByteArray) (ha : a.size ≤ 262144) (p : Nat) (hp : p ≤ a.size) : Ev (fun k => goscan_written.f k a p) ((writOf (rest a p)).1, (p : Int) + (writOf (rest a p)).2) := by
  have h := writ_loop a ha p hp goscan_operators.l (by rw [opers_len]; omega) goscan_operators.l.length 0 0 0 (by omega) (by omega) (by omega)
  rw [Int.add_zero, List.drop_zero] at h
  unfold goscan_written.f
  exact Ev.bind (Ev.const rfl) h
theorem writ_fit (L : List UInt8) : ∀ (l : List S69) (i c m : Int), 0 ≤ i → 0 ≤ m → m ≤ (L.length : Int) → (0 < m → 8 ≤ c ∧ c < 8 + i) →
    0 ≤ (writ L l i (c, m)).2 ∧ (writ L l i (c, m)).2 ≤ (L.length : Int) ∧ (0 < (writ L l i (c, m)).2 → 8 ≤ (writ L l i (c, m)).1 ∧ (writ L l i (c, m)).1 < 8 + i + l.length)
  | [], i, c, m, hi, h0, h1, h2 => by simp only [writ, List.length_nil]; omega
  | t :: l, i, c, m, hi, h0, h1, h2 => by
    simp only [writ, List.length_cons]
    by_cases c1 : (t.f1.size : Int) > m ∧ L.take t.f1.size = t.f1.data.toList
    · rw [if_pos c1]
      have hs : t.f1.size ≤ L.length := by
        have := congrArg List.length c1.2
        rw [List.length_take] at this
        have e : t.f1.data.toList.length = t.f1.size := rfl
        omega
      have := writ_fit L l (i + 1) (8 + i) t.f1.size (by omega) (by omega) (by omega) (by omega)
      omega
    · rw [if_neg c1]
      have := writ_fit L l (i + 1) c m (by omega) h0 h1 (by omega)
      omega
theorem writOf_fit (L : List UInt8) : 0 ≤ (writOf L).2 ∧ (writOf L).2 ≤ (L.length : Int) ∧ (0 < (writOf L).2 → 8 ≤ (writOf L).1 ∧ (writOf L).1 < 56) := by
  have := writ_fit L goscan_operators.l 0 0 0 (by omega) (by omega) (by omega) (by omega)
  rw [opers_len] at this
  unfold writOf
  omega
def textOfN (L : List UInt8) (n : Int) : ByteArray := ⟨(L.take n.toNat).toArray⟩
theorem extract_text (a : ByteArray) (p : Nat) (n : Int) (hn : 0 ≤ n) : a.extract p ((p : Int) + n).toNat = textOfN (rest a p) n := by
  unfold textOfN rest
  have e : ((p : Int) + n).toNat = p + n.toNat := by omega
  rw [e]
  apply ByteArray.ext
  apply Array.ext'
  rw [ByteArray.data_extract, Array.toList_extract, List.extract_eq_take_drop]
  simp
def kindAt (L : List UInt8) (n i : Int) : Int := if i = 4 then (if (kindOf (textOfN L n)).2 = true then (kindOf (textOfN L n)).1 else 2) else (goscan_next.kinds 81).getD i.toNat 0
def tokOf (L : List UInt8) : Int × Int × Bool := if (writOf L).2 > (longOf L).1 then ((writOf L).1, (writOf L).2, true) else if (longOf L).2 < 0 then (0, 0, false) else (kindAt L (longOf L).1 (longOf L).2, (longOf L).1, true)
theorem kinds_two : ∀ i : Fin 10, (goscan_next.kinds 81).getD i.1 0 = 2 ↔ i.1 = 4 := by decide +kernel
theorem kinds_fit : ∀ i : Fin 10, (goscan_next.kinds 81).getD i.1 0 = 0 ∨ (2 ≤ (goscan_next.kinds 81).getD i.1 0 ∧ (goscan_next.kinds 81).getD i.1 0 < 84) := by decide +kernel
theorem kindOf_fit (s : ByteArray) (h : (kindOf s).2 = true) : 8 ≤ (kindOf s).1 ∧ (kindOf s).1 < 81 := by
  unfold kindOf at h ⊢
  cases hp : place s TX 8 with
  | none => rw [hp] at h; simp at h
  | some j =>
    have := place_le s TX 8 j hp
    rw [TX_len] at this
    dsimp only
    omega
theorem tok_fit (L : List UInt8) (h : (tokOf L).2.2 = true) : 1 ≤ (tokOf L).2.1 ∧ (tokOf L).2.1 ≤ (L.length : Int) ∧ ((tokOf L).1 = 0 ∨ (2 ≤ (tokOf L).1 ∧ (tokOf L).1 < 84)) := by
  have hw := writOf_fit L
  have hl := long_fit L
  unfold tokOf at h ⊢
  by_cases c : (writOf L).2 > (longOf L).1
  · rw [if_pos c]
    refine ⟨by dsimp only; omega, by dsimp only; omega, .inr ?_⟩
    dsimp only
    omega
  · rw [if_neg c] at h ⊢
    by_cases c2 : (longOf L).2 < 0
    · rw [if_pos c2] at h; simp at h
    · rw [if_neg c2]
      refine ⟨by dsimp only; omega, by dsimp only; omega, ?_⟩
      dsimp only
      unfold kindAt
      by_cases c3 : (longOf L).2 = 4
      · rw [if_pos c3]
        right
        split
        · rename_i c4
          have := kindOf_fit _ c4
          omega
        · omega
      · rw [if_neg c3]
        exact kinds_fit ⟨(longOf L).2.toNat, by omega⟩
def nextAt (p : Nat) (t : Int × Int × Bool) : Int × Int × Int × Bool := if t.2.2 = true then (t.1, (p : Int), (p : Int) + t.2.1, true) else (0, 0, 0, false)
theorem gnext_ev (a : ByteArray) (ha : a.size ≤ 262144) (p : Nat) (hp : p ≤ a.size) : Ev (fun k => goscan_next.f k a p) (nextAt p (tokOf (rest a p))) := by
  have hlen := rest_len a p
  have hw := writOf_fit (rest a p)
  have hl := long_fit (rest a p)
  unfold goscan_next.f tokOf nextAt
  refine Ev.bind (long_ev a ha p hp) (Ev.bind (writ_ev a ha p hp) ?_)
  by_cases c : (writOf (rest a p)).2 > (longOf (rest a p)).1
  · simp only [if_pos c, if_pos (show (p : Int) + (writOf (rest a p)).2 > (p : Int) + (longOf (rest a p)).1 by omega), if_true]
    exact Ev.now _
  · simp only [if_neg c, if_neg (show ¬ (p : Int) + (writOf (rest a p)).2 > (p : Int) + (longOf (rest a p)).1 by omega)]
    refine Ev.bind newline_ev ?_
    by_cases c2 : (longOf (rest a p)).2 < 0
    · simp only [if_pos c2, Bool.false_eq_true, if_false]
      exact Ev.now _
    · simp only [if_neg c2, if_pos (show (longOf (rest a p)).2 < 10 by omega), if_true]
      have h2 := kinds_two ⟨(longOf (rest a p)).2.toNat, by omega⟩
      unfold kindAt
      by_cases c3 : (longOf (rest a p)).2 = 4
      · have e : (goscan_next.kinds 81).getD (longOf (rest a p)).2.toNat 0 = 2 := h2.2 (by dsimp only; omega)
        rw [if_pos c3]
        simp only [if_pos e, if_pos (show (0 : Int) ≤ (p : Int) by omega), if_pos (show (p : Int) ≤ (p : Int) + (longOf (rest a p)).1 by omega), if_pos (show (p : Int) + (longOf (rest a p)).1 ≤ (a.size : Int) by omega), Int.toNat_natCast, extract_text a p _ hl.1]
        refine Ev.bind (kind_ev _) ?_
        by_cases c4 : (kindOf (textOfN (rest a p) (longOf (rest a p)).1)).2 = true
        · simp only [if_pos c4]; exact Ev.now _
        · simp only [if_neg c4]; exact Ev.now _
      · have e : ¬ (goscan_next.kinds 81).getD (longOf (rest a p)).2.toNat 0 = 2 := fun h => c3 (by have := h2.1 h; dsimp only at this; omega)
        rw [if_neg c3]
        simp only [if_neg e]
        exact Ev.now _
def rawL (L : List UInt8) (p : Nat) (o : List S36) : List S36 × Int × Int :=
  if L = [] then (o, 0, 0)
  else if h : (tokOf L).2.2 = true then
    (if (tokOf L).1 > 0 then (if 65536 ≤ o.length then ([], 3, (p : Int)) else rawL (L.drop (tokOf L).2.1.toNat) (p + (tokOf L).2.1.toNat) (o ++ [⟨(tokOf L).1, (p : Int), (p : Int) + (tokOf L).2.1⟩]))
    else rawL (L.drop (tokOf L).2.1.toNat) (p + (tokOf L).2.1.toNat) o)
  else if (nextOf L).2.2 = true then ([], 60, (p : Int)) else ([], 10, (p : Int))
  termination_by L.length
  decreasing_by
    all_goals (have := tok_fit L h; simp; omega)
theorem raw_loop2 (a : ByteArray) (ha : a.size ≤ 262144) (n : Nat) : ∀ (p : Nat) (o : List S36), a.size - p ≤ n → p ≤ a.size → o.length ≤ 65536 → Ev (fun k => goscan_Raw.l0 k a o p) (rawL (rest a p) p o) := by
  induction n using Nat.strongRecOn with
  | _ n ih =>
    intro p o h0 h1 h2
    have hlen := rest_len a p
    apply Ev.succ
    rw [rawL]
    by_cases c : p < a.size
    rotate_left
    · rw [if_pos (rest_nil.2 (by omega))]
      simp only [goscan_Raw.l0, if_neg (show ¬ (p : Int) < (a.size : Int) by omega)]
      exact Ev.now _
    rw [if_neg (fun e => by have := rest_nil.1 e; omega)]
    simp only [goscan_Raw.l0, if_pos (show (p : Int) < (a.size : Int) by omega), next_eq, Option.bind_some]
    refine Ev.bind (gnext_ev a ha p h1) ?_
    unfold nextAt
    by_cases c1 : (tokOf (rest a p)).2.2 = true
    · have ht := tok_fit _ c1
      rw [dif_pos c1]
      simp only [if_pos c1, if_true]
      obtain ⟨m, hm⟩ : ∃ m : Nat, (tokOf (rest a p)).2.1 = m := ⟨(tokOf (rest a p)).2.1.toNat, by omega⟩
      rw [hm] at ht ⊢
      rw [Int.toNat_natCast]
      have ihh := fun o (ho : o.length ≤ 65536) => ih (a.size - (p + m)) (by omega) (p + m) o (by omega) (by omega) ho
      rw [rest_add] at ihh
      rw [show (p : Int) + (m : Int) = ((p + m : Nat) : Int) by omega]
      by_cases c2 : (tokOf (rest a p)).1 > 0
      · simp only [if_pos c2]
        by_cases c3 : 65536 ≤ o.length
        · simp only [if_pos c3, if_pos (show (o.length : Int) ≥ 65536 by omega)]
          exact Ev.now _
        · simp only [if_neg c3, if_neg (show ¬ (o.length : Int) ≥ 65536 by omega), if_pos (show o.length < 5864062014805 by omega)]
          exact ihh _ (by simp; omega)
      · simp only [if_neg c2]
        exact ihh _ h2
    · rw [dif_neg c1]
      simp only [if_neg c1, Bool.false_eq_true, if_false]
      by_cases c2 : (nextOf (rest a p)).2.2 = true
      · simp only [if_pos c2]; exact Ev.now _
      · simp only [if_neg c2]; exact Ev.now _
def bom (L : List UInt8) : Bool := decide (L.take 3 = [239, 187, 191])
def rawOf (a : ByteArray) : List S36 × Int × Int := if a.size > 262144 then ([], 3, 0) else if bom (rest a 0) = true then rawL (rest a 3) 3 [] else rawL (rest a 0) 0 []
theorem graw_ev (a : ByteArray) : Ev (fun k => goscan_Raw.f k a) (rawOf a) := by
  unfold goscan_Raw.f rawOf
  by_cases c : a.size > 262144
  · simp only [if_pos c, if_pos (show (a.size : Int) > 262144 by omega)]
    exact Ev.now _
  simp only [if_neg c, if_neg (show ¬ (a.size : Int) > 262144 by omega)]
  have hp := pfx_eq a ⟨#[239, 187, 191]⟩ 0 (by omega)
  have e0 : a.extract 0 a.size = a := ByteArray.extract_zero_size
  rw [e0] at hp
  have hb : decide ((rest a 0).take (⟨#[239, 187, 191]⟩ : ByteArray).size = (⟨#[239, 187, 191]⟩ : ByteArray).data.toList) = bom (rest a 0) := rfl
  rw [hb] at hp
  simp only [hp, Option.bind_some]
  by_cases cb : bom (rest a 0) = true
  · simp only [cb, if_true]
    have h3 : 3 ≤ a.size := by
      have := congrArg List.length (of_decide_eq_true cb)
      rw [List.length_take, rest_len] at this
      simp at this; omega
    apply Ev.succ
    simp only [goscan_Raw.j0]
    exact raw_loop2 a (by omega) _ 3 [] (Nat.le_refl _) h3 (by simp)
  · rw [Bool.not_eq_true] at cb
    simp only [cb, Bool.false_eq_true, if_false]
    apply Ev.succ
    simp only [goscan_Raw.j0]
    exact raw_loop2 a (by omega) _ 0 [] (Nat.le_refl _) (by omega) (by simp)
theorem rat_eq (a : ByteArray) (p : Nat) : quoinref26_at.f a (p : Int) = some (hd (rest a p)) := by
  unfold quoinref26_at.f
  rw [if_neg (by omega)]
  by_cases h : p < a.size
  · rw [if_neg (by omega), if_pos (by omega), if_pos (by omega), hd_rest a p h]
  · rw [if_pos (by omega), hd_past a p (by omega)]
theorem ris_all : ∀ c : Fin 256, quoinref26_is.f 1 c.1 2 = some (dig c.1 2) ∧ quoinref26_is.f 1 c.1 8 = some (dig c.1 8) ∧ quoinref26_is.f 1 c.1 10 = some (dig c.1 10) ∧ quoinref26_is.f 1 c.1 16 = some (dig c.1 16) := by decide +kernel
theorem ris_ev (c b : Int) (hb : Base b) (h0 : 0 ≤ c) (h1 : c ≤ 255) : Ev (fun k => quoinref26_is.f k c b) (dig c b) := by
  have h := ris_all ⟨c.toNat, by omega⟩
  have e : ((⟨c.toNat, by omega⟩ : Fin 256).1 : Int) = c := by simp; omega
  rw [e] at h
  refine Ev.of (fun k => quoinref26_is.mono c b k) (k := 1) ?_
  rcases hb with rfl | rfl | rfl | rfl
  · exact h.1
  · exact h.2.1
  · exact h.2.2.1
  · exact h.2.2.2
theorem ris_hd (L : List UInt8) (b : Int) (hb : Base b) : Ev (fun k => quoinref26_is.f k (hd L) b) (dig (hd L) b) := ris_ev _ _ hb (hd_range L).1 (hd_range L).2
theorem rmore_ev (a : ByteArray) (ha : a.size ≤ 262144) (b : Int) (hb : Base b) (n : Nat) : ∀ p : Nat, p ≤ 262160 → (rest a p).length ≤ n → Ev (fun k => quoinref26_digits.l0 k a p b) ((p + more b (rest a p) : Nat) : Int) := by
  induction n using Nat.strongRecOn with
  | _ n ih =>
    intro p hp hn
    have hl := rest_len a p
    apply Ev.succ
    simp only [quoinref26_digits.l0, rat_eq, Option.bind_some]
    refine Ev.bind (ris_hd _ b hb) ?_
    rw [more]
    by_cases c1 : dig (hd (rest a p)) b = true
    · have := dig_len c1
      rw [dif_pos c1]
      simp only [c1, if_true, wrp1 (show p + 1 ≤ 1000000 by omega)]
      have h := ih (n - 1) (by omega) (p + 1) (by omega) (by rw [rest_len]; omega)
      rw [rest_add] at h
      rw [show p + (more b ((rest a p).drop 1) + 1) = p + 1 + more b ((rest a p).drop 1) by omega]
      exact h
    · rw [dif_neg c1]
      rw [Bool.not_eq_true] at c1
      simp only [c1, Bool.false_eq_true, if_false]
      by_cases c2 : hd (rest a p) = 95
      · have := hd_pos (L := rest a p) (by omega)
        simp only [if_pos c2, wrp1 (show p + 1 ≤ 1000000 by omega), rat_eq, Option.bind_some, rest_add]
        refine Ev.bind (ris_hd _ b hb) ?_
        by_cases c3 : dig (hd ((rest a p).drop 1)) b = true
        · have h3 := dig_len c3
          rw [List.length_drop] at h3
          rw [dif_pos ⟨c2, c3⟩]
          simp only [c3, if_true, wrp2 (show p + 2 ≤ 1000000 by omega)]
          have h := ih (n - 1) (by omega) (p + 2) (by omega) (by rw [rest_len]; omega)
          rw [rest_add] at h
          rw [show p + (more b ((rest a p).drop 2) + 2) = p + 2 + more b ((rest a p).drop 2) by omega]
          exact h
        · rw [dif_neg (fun h => c3 h.2)]
          rw [Bool.not_eq_true] at c3
          simp only [c3, Bool.false_eq_true, if_false]
          exact Ev.now _
      · rw [dif_neg (fun h => c2 h.1)]
        simp only [if_neg c2]
        exact Ev.now _
theorem rdigits_ev (a : ByteArray) (ha : a.size ≤ 262144) (b : Int) (hb : Base b) (p : Nat) (hp : p ≤ 262150) : Ev (fun k => quoinref26_digits.f k a p b) (ab p (number b (rest a p))) := by
  unfold quoinref26_digits.f number
  simp only [rat_eq, Option.bind_some]
  refine Ev.bind (ris_hd _ b hb) ?_
  by_cases c : dig (hd (rest a p)) b = true
  · simp only [c, if_true, wrp1 (show p + 1 ≤ 1000000 by omega)]
    have h := rmore_ev a ha b hb _ (p + 1) (by omega) (Nat.le_refl _)
    rw [rest_add] at h
    rw [more, dif_pos c, ab_some (by omega), show (p : Int) + ((more b ((rest a p).drop 1) + 1 : Nat) : Int) = ((p + 1 + more b ((rest a p).drop 1) : Nat) : Int) by omega]
    exact h
  · rw [Bool.not_eq_true] at c
    simp only [c, Bool.false_eq_true, if_false]
    exact Ev.now _
def lowOf (c : Int) : Int := if 65 ≤ c ∧ c ≤ 90 then c + 32 else c
theorem low_eq (c : Int) (h0 : 0 ≤ c) (h1 : c ≤ 255) : quoinref26_low.f c = some (lowOf c) := by
  unfold quoinref26_low.f lowOf
  by_cases c1 : c ≥ 65
  · rw [if_pos c1]
    by_cases c2 : c ≤ 90
    · rw [if_pos c2, if_pos ⟨c1, c2⟩]
      congr 1; omega
    · rw [if_neg c2, if_neg (fun h => c2 h.2)]
  · rw [if_neg c1, if_neg (fun h => c1 h.1)]
theorem low_hd (L : List UInt8) : quoinref26_low.f (hd L) = some (lowOf (hd L)) := low_eq _ (hd_range L).1 (hd_range L).2
def prefOf (b : Int) (L : List UInt8) : Int := if 0 < more b L then (more b L : Int) else -1
theorem dig95 (b : Int) (hb : Base b) : dig 95 b = false := by rcases hb with rfl | rfl | rfl | rfl <;> decide
theorem pref_ev (a : ByteArray) (ha : a.size ≤ 262144) (b : Int) (hb : Base b) (p : Nat) (hp : p ≤ 262148) : Ev (fun k => quoinref26_prefixed.f k a p b) (ab p (prefOf b (rest a p))) := by
  unfold quoinref26_prefixed.f prefOf
  simp only [rat_eq, Option.bind_some, wrp1 (show p + 1 ≤ 1000000 by omega)]
  by_cases c : hd (rest a p) = 95
  · simp only [if_pos c]
    have h := rdigits_ev a ha b hb (p + 1) (by omega)
    rw [rest_add, ab_sh] at h
    have e : sh 1 (number b ((rest a p).drop 1)) = (if 0 < more b (rest a p) then (more b (rest a p) : Int) else -1) := by
      rw [more, dif_neg (by rw [c, dig95 b hb]; decide)]
      unfold number sh
      by_cases d : dig (hd ((rest a p).drop 1)) b = true
      · rw [if_pos d, dif_pos ⟨c, d⟩, more, dif_pos d, show ((rest a p).drop 1).drop 1 = (rest a p).drop 2 by rw [List.drop_drop], if_neg (by omega), if_pos (by omega)]
        omega
      · rw [if_neg d, dif_neg (fun h => d h.2), if_pos (by omega), if_neg (by omega)]
    rw [← e]
    exact Ev.bind h (Ev.now _)
  · simp only [if_neg c]
    have h := rdigits_ev a ha b hb p (by omega)
    have e : number b (rest a p) = (if 0 < more b (rest a p) then (more b (rest a p) : Int) else -1) := by
      unfold number
      by_cases d : dig (hd (rest a p)) b = true
      · rw [if_pos d, if_pos (show 0 < more b (rest a p) from more_pos d)]
      · rw [if_neg d, more, dif_neg d, dif_neg (fun h => c h.1), if_neg (by omega)]
    rw [← e]
    exact Ev.bind h (Ev.now _)
theorem more_zero {b : Int} {L : List UInt8} (h : dig (hd L) b = false) (h2 : hd L ≠ 95) : more b L = 0 := by
  rw [more, dif_neg (by rw [h]; decide), dif_neg (fun x => h2 x.1)]
theorem whole_alt (L : List UInt8) : wholeOf L = (if 49 ≤ hd L ∧ hd L ≤ 57 then number 10 L else if hd L = 48 then
    (if lowOf (hd (L.drop 1)) = 98 then max (sh 2 (prefOf 2 (L.drop 2))) 1 else if lowOf (hd (L.drop 1)) = 111 then max (sh 2 (prefOf 8 (L.drop 2))) 1 else if lowOf (hd (L.drop 1)) = 120 then max (sh 2 (prefOf 16 (L.drop 2))) 1 else max (sh 1 (prefOf 8 (L.drop 1))) 1) else -1) := by
  have hr := hd_range L
  have hr1 := hd_range (L.drop 1)
  unfold wholeOf
  by_cases c0 : hd L = 48
  rotate_left
  · rw [if_neg c0]
    by_cases c1 : 49 ≤ hd L ∧ hd L ≤ 57
    · rw [if_pos c1]
    · rw [if_neg c1, if_neg c0]
      unfold number
      rw [if_neg]
      intro h
      simp only [dig, Bool.or_eq_true, Bool.and_eq_true, decide_eq_true_eq] at h
      omega
  rw [if_pos c0, if_neg (by omega), if_pos c0]
  have low : ∀ x y : Int, 97 ≤ x → x ≤ 122 → y = x - 32 → ((hd (L.drop 1) = x ∨ hd (L.drop 1) = y) ↔ lowOf (hd (L.drop 1)) = x) := by
    intro x y h0 h1 h2
    unfold lowOf
    split <;> omega
  have l1 := low 98 66 (by omega) (by omega) (by omega)
  have l2 := low 111 79 (by omega) (by omega) (by omega)
  have l3 := low 120 88 (by omega) (by omega) (by omega)
  have m0 : lowOf (hd (L.drop 1)) = 98 ∨ lowOf (hd (L.drop 1)) = 111 ∨ lowOf (hd (L.drop 1)) = 120 → more 8 (L.drop 1) = 0 := by
    intro h
    have hx : hd (L.drop 1) = 98 ∨ hd (L.drop 1) = 66 ∨ hd (L.drop 1) = 111 ∨ hd (L.drop 1) = 79 ∨ hd (L.drop 1) = 120 ∨ hd (L.drop 1) = 88 := by
      rcases h with h | h | h
      · have := l1.2 h; omega
      · have := l2.2 h; omega
      · have := l3.2 h; omega
    refine more_zero ?_ (by omega)
    rcases hx with h | h | h | h | h | h <;> rw [h] <;> decide
  have pl : ∀ x y b : Int, 97 ≤ x → x ≤ 122 → y = x - 32 → pre x y b L = (if lowOf (hd (L.drop 1)) = x ∧ 0 < more b (L.drop 2) then 2 + (more b (L.drop 2) : Int) else 0) := by
    intro x y b h0 h1 h2
    unfold pre
    simp only [low x y h0 h1 h2]
  rw [pl 98 66 2 (by omega) (by omega) (by omega), pl 111 79 8 (by omega) (by omega) (by omega), pl 120 88 16 (by omega) (by omega) (by omega)]
  unfold prefOf sh
  repeat' split
  all_goals omega
theorem pref_ge (b : Int) (L : List UInt8) : -1 ≤ prefOf b L := by unfold prefOf; split <;> omega
theorem sh_ge (s : Nat) {n : Int} (h : -1 ≤ n) : -1 ≤ sh s n := by unfold sh; split <;> omega
theorem rwhole_ev (a : ByteArray) (ha : a.size ≤ 262144) (p : Nat) (hp : p ≤ 262144) : Ev (fun k => quoinref26_whole.f k a p) (ab p (wholeOf (rest a p))) := by
  rw [whole_alt]
  obtain ⟨L, hL⟩ : ∃ L, rest a p = L := ⟨_, rfl⟩
  have hr := hd_range L
  have w1 := wrp1 (show p + 1 ≤ 1000000 by omega)
  have w2 := wrp2 (show p + 2 ≤ 1000000 by omega)
  have hp2 : ∀ b, Base b → Ev (fun k => quoinref26_prefixed.f k a ((p + 2 : Nat) : Int) b) (ab p (sh 2 (prefOf b (L.drop 2)))) := fun b hb => by
    have h := pref_ev a ha b hb (p + 2) (by omega)
    rwa [rest_add, hL, ab_sh] at h
  have hp1 : Ev (fun k => quoinref26_prefixed.f k a ((p + 1 : Nat) : Int) 8) (ab p (sh 1 (prefOf 8 (L.drop 1)))) := by
    have h := pref_ev a ha 8 b8 (p + 1) (by omega)
    rwa [rest_add, hL, ab_sh] at h
  have one : ((p + 1 : Nat) : Int) = ab p 1 := by rw [ab_some (by omega)]; omega
  have fin : ∀ (s : Nat) (n : Int), -1 ≤ n → mx (ab p (sh s n)) ((p + 1 : Nat) : Int) = ab p (max (sh s n) 1) := fun s n h => by
    rw [one, mx_ab p (sh_ge s h) (by omega)]
  have tail : ¬ (49 ≤ hd L ∧ hd L ≤ 57) → Ev (fun k => quoinref26_whole.j0 k a p false) (ab p (if hd L = 48 then
      (if lowOf (hd (L.drop 1)) = 98 then max (sh 2 (prefOf 2 (L.drop 2))) 1 else if lowOf (hd (L.drop 1)) = 111 then max (sh 2 (prefOf 8 (L.drop 2))) 1 else if lowOf (hd (L.drop 1)) = 120 then max (sh 2 (prefOf 16 (L.drop 2))) 1 else max (sh 1 (prefOf 8 (L.drop 1))) 1) else -1)) := by
    intro _
    apply Ev.succ
    simp only [quoinref26_whole.j0, Bool.false_eq_true, if_false, rat_eq, Option.bind_some, hL, w1, w2, rest_add, low_hd]
    by_cases c0 : hd L = 48
    · simp only [if_pos c0]
      by_cases c1 : lowOf (hd (L.drop 1)) = 98
      · simp only [if_pos c1]
        refine Ev.bind (hp2 2 b2) ?_
        rw [fin 2 _ (pref_ge _ _)]; exact Ev.now _
      simp only [if_neg c1]
      by_cases c2 : lowOf (hd (L.drop 1)) = 111
      · simp only [if_pos c2]
        refine Ev.bind (hp2 8 b8) ?_
        rw [fin 2 _ (pref_ge _ _)]; exact Ev.now _
      simp only [if_neg c2]
      by_cases c3 : lowOf (hd (L.drop 1)) = 120
      · simp only [if_pos c3]
        refine Ev.bind (hp2 16 b16) ?_
        rw [fin 2 _ (pref_ge _ _)]; exact Ev.now _
      simp only [if_neg c3]
      refine Ev.bind hp1 ?_
      rw [fin 1 _ (pref_ge _ _)]; exact Ev.now _
    · simp only [if_neg c0]
      exact Ev.now _
  unfold quoinref26_whole.f
  simp only [rat_eq, Option.bind_some, hL]
  by_cases c1 : hd L ≥ 49
  · simp only [if_pos c1]
    by_cases c2 : hd L ≤ 57
    · rw [if_pos ⟨c1, c2⟩, decide_eq_true c2]
      apply Ev.succ
      simp only [quoinref26_whole.j0, if_true]
      have h := rdigits_ev a ha 10 b10 p (by omega)
      rw [hL] at h
      exact Ev.bind h (Ev.now _)
    · rw [if_neg (fun h => c2 h.2), decide_eq_false c2]
      exact tail (fun h => c2 h.2)
  · simp only [if_neg c1]
    rw [if_neg (fun h => c1 h.1)]
    exact tail (fun h => c1 h.1)
theorem low_is (L : List UInt8) (c d : Int) (h0 : 97 ≤ c) (h1 : c ≤ 122) (h2 : d = c - 32) : (lowOf (hd L) = c) = (hd L = c ∨ hd L = d) := by
  apply propext
  have := hd_range L
  unfold lowOf
  split <;> omega
theorem rexp_ev (a : ByteArray) (ha : a.size ≤ 262144) (c d : Int) (h0 : 97 ≤ c) (h1 : c ≤ 122) (h2 : d = c - 32) (p : Nat) (hp : p ≤ 262148) : Ev (fun k => quoinref26_exponent.f k a p c) (ab p (powerOf c d (rest a p))) := by
  unfold quoinref26_exponent.f powerOf
  simp only [rat_eq, Option.bind_some, low_hd, low_is _ c d h0 h1 h2, wrp1 (show p + 1 ≤ 1000000 by omega)]
  by_cases c1 : hd (rest a p) = c ∨ hd (rest a p) = d
  · simp only [if_pos c1, rat_eq, Option.bind_some, rest_add, wrp1 (show p + 1 + 1 ≤ 1000000 by omega)]
    have hh2 := rdigits_ev a ha 10 b10 (p + 1 + 1) (by omega)
    rw [show p + 1 + 1 = p + 2 by omega, rest_add, ab_sh] at hh2
    have hh1 := rdigits_ev a ha 10 b10 (p + 1) (by omega)
    rw [rest_add, ab_sh] at hh1
    by_cases c2 : hd ((rest a p).drop 1) = 43
    · simp only [if_pos c2]
      rw [if_pos (.inl c2)]
      exact Ev.bind hh2 (Ev.now _)
    simp only [if_neg c2]
    by_cases c3 : hd ((rest a p).drop 1) = 45
    · simp only [if_pos c3]
      rw [if_pos (.inr c3)]
      exact Ev.bind hh2 (Ev.now _)
    simp only [if_neg c3]
    rw [if_neg (fun h => h.elim c2 c3)]
    exact Ev.bind hh1 (Ev.now _)
  · simp only [if_neg c1]
    exact Ev.now _
def mantOf (L : List UInt8) : Int := if hd L = 46 then sh 1 (number 16 (L.drop 1)) else if 0 < more 16 L then (if hd (L.drop (more 16 L)) = 46 then (frac 16 (more 16 L) L : Int) else (more 16 L : Int)) else -1
theorem mant_fit (L : List UInt8) : Fit L (mantOf L) := by
  unfold mantOf
  split
  · exact sh_fit (number_fit _ _)
  · split
    · split
      · rename_i h h2
        have l3 := hd_pos (L := L.drop (more 16 L)) (by omega)
        rw [List.length_drop] at l3
        have l4 := nm_le 16 (L.drop (more 16 L + 1))
        rw [List.length_drop] at l4
        right; unfold frac; omega
      · have := more_le 16 L
        right; omega
    · exact fit_none L
theorem mant_ev (a : ByteArray) (ha : a.size ≤ 262144) (p : Nat) (hp : p ≤ 262146) : Ev (fun k => quoinref26_mantissa.f k a p) (ab p (mantOf (rest a p))) := by
  obtain ⟨L, hL⟩ : ∃ L, rest a p = L := ⟨_, rfl⟩
  have hlen := rest_len a p
  have hpre := pref_ev a ha 16 b16 p (by omega)
  have hml := more_le 16 L
  unfold quoinref26_mantissa.f
  simp only [rat_eq, Option.bind_some, wrp1 (show p + 1 ≤ 1000000 by omega), hL] at hpre hlen ⊢
  unfold mantOf
  by_cases c : hd L = 46
  · simp only [if_pos c]
    have h := rdigits_ev a ha 16 b16 (p + 1) (by omega)
    rw [rest_add, hL, ab_sh] at h
    exact Ev.bind h (Ev.now _)
  simp only [if_neg c]
  refine Ev.bind hpre ?_
  unfold prefOf
  by_cases d : 0 < more 16 L
  · rw [if_pos d, if_pos d, ab_some (by omega), show (p : Int) + (more 16 L : Int) = ((p + more 16 L : Nat) : Int) by omega]
    simp only [if_neg (show ¬ ((p + more 16 L : Nat) : Int) < 0 by omega), rat_eq, Option.bind_some, rest_add, hL, wrp1 (show p + more 16 L + 1 ≤ 1000000 by omega)]
    by_cases e : hd (L.drop (more 16 L)) = 46
    · simp only [if_pos e]
      have h := rdigits_ev a ha 16 b16 (p + more 16 L + 1) (by omega)
      refine Ev.bind h ?_
      rw [show p + more 16 L + 1 = p + (more 16 L + 1) by omega, rest_add, hL, show p + (more 16 L + 1) = p + more 16 L + 1 by omega, frac_ab, ab_some (by omega)]
      exact Ev.now _
    · simp only [if_neg e]
      rw [ab_some (by omega), show (p : Int) + (more 16 L : Int) = ((p + more 16 L : Nat) : Int) by omega]
      exact Ev.now _
  · rw [if_neg d, if_neg d, ab_none]
    simp only [if_pos (show (-1 : Int) < 0 by omega)]
    exact Ev.now _
def afterOf (c d : Int) (L : List UInt8) (m : Int) : Int := if m < 0 then -1 else sh m.toNat (powerOf c d (L.drop m.toNat))
theorem hex_alt (L : List UInt8) (h0 : hd L = 48) (h1 : hd (L.drop 1) = 120 ∨ hd (L.drop 1) = 88) : hexOf L = afterOf 112 80 L (sh 2 (mantOf (L.drop 2))) := by
  unfold hexOf mantOf afterOf
  rw [if_pos ⟨h0, h1⟩]
  have hdd : ∀ n, (L.drop 2).drop n = L.drop (2 + n) := fun n => by rw [List.drop_drop]
  by_cases c : hd (L.drop 2) = 46
  · have hm : more 16 (L.drop 2) = 0 := more_zero (by rw [c]; decide) (by omega)
    rw [hm, if_neg (by omega), if_pos c, hdd, number_nm]
    by_cases d : 0 < nm 16 (L.drop 3)
    · rw [if_pos ⟨c, d⟩, if_pos d]
      have e : sh 2 (sh 1 (nm 16 (L.drop 3) : Int)) = ((3 + nm 16 (L.drop 3) : Nat) : Int) := by unfold sh; rw [if_neg (show ¬ (nm 16 (L.drop 3) : Int) < 0 by omega), if_neg (by omega)]; omega
      rw [e, if_neg (by omega), Int.toNat_natCast]
    · rw [if_neg (fun h => d h.2), if_neg d]
      rfl
  · rw [if_neg c]
    by_cases d : 0 < more 16 (L.drop 2)
    · rw [if_pos d, if_pos d, hdd]
      have e : sh 2 (more 16 (L.drop 2) : Int) = ((2 + more 16 (L.drop 2) : Nat) : Int) := by unfold sh; rw [if_neg (by omega)]; omega
      have e2 : sh 2 ((frac 16 (more 16 (L.drop 2)) (L.drop 2) : Nat) : Int) = ((frac 16 (2 + more 16 (L.drop 2)) L : Nat) : Int) := by
        unfold sh frac
        rw [if_neg (by omega), hdd, show 2 + (more 16 (L.drop 2) + 1) = 2 + more 16 (L.drop 2) + 1 by omega]
        omega
      by_cases f : hd (L.drop (2 + more 16 (L.drop 2))) = 46
      · rw [if_pos f, if_pos f, e2, if_neg (by omega), Int.toNat_natCast]
      · rw [if_neg f, if_neg f, e, if_neg (by omega), Int.toNat_natCast]
    · rw [if_neg d, if_neg d, if_neg (show ¬ (hd (L.drop 2) = 46 ∧ 0 < nm 16 (L.drop 3)) from fun h => c h.1)]; rfl
def decOf (L : List UInt8) : Int := if 0 < nm 10 L then (if hd (L.drop (nm 10 L)) = 46 then max (frac 10 (nm 10 L) L : Int) (sh (frac 10 (nm 10 L) L) (powerOf 101 69 (L.drop (frac 10 (nm 10 L) L)))) else sh (nm 10 L) (powerOf 101 69 (L.drop (nm 10 L)))) else -1
def floatOf (L : List UInt8) : Int := if hd L = 46 then (if 0 < nm 10 (L.drop 1) then max (1 + (nm 10 (L.drop 1) : Int)) (sh (1 + nm 10 (L.drop 1)) (powerOf 101 69 (L.drop (1 + nm 10 (L.drop 1))))) else -1)
  else if hd L = 48 ∧ (hd (L.drop 1) = 120 ∨ hd (L.drop 1) = 88) then (if hexOf L ≥ 0 then hexOf L else decOf L) else decOf L
theorem power_ge (c d : Int) (L : List UInt8) : -1 ≤ powerOf c d L := fit_ge (power_fit c d L)
theorem float_alt (L : List UInt8) : brokenOf L = floatOf L := by
  have hh := fit_ge (hex_fit L)
  unfold brokenOf floatOf
  by_cases c0 : hd L = 46
  · have hn : nm 10 L = 0 := by unfold nm; rw [if_neg (by rw [c0]; decide)]
    have hx : hexOf L = -1 := by unfold hexOf; rw [if_neg (fun h => by have := h.1; omega)]
    have hd0 : dotOf L = sh 1 (number 10 (L.drop 1)) := by unfold dotOf; rw [hn, if_neg (by omega), if_pos c0]
    have hnum : number 10 L = -1 := by rw [number_nm, hn]; rfl
    rw [if_pos c0, hx, hd0, hnum, number_nm]
    by_cases d : 0 < nm 10 (L.drop 1)
    · rw [if_pos d, if_pos d]
      have e : sh 1 (nm 10 (L.drop 1) : Int) = ((1 + nm 10 (L.drop 1) : Nat) : Int) := by unfold sh; rw [if_neg (by omega)]; omega
      rw [e, show max (-1) ((1 + nm 10 (L.drop 1) : Nat) : Int) = ((1 + nm 10 (L.drop 1) : Nat) : Int) by omega]
      unfold expOf
      rw [if_neg (by omega), Int.toNat_natCast]
      omega
    · rw [if_neg d, if_neg d]
      rfl
  rw [if_neg c0]
  by_cases c1 : hd L = 48 ∧ (hd (L.drop 1) = 120 ∨ hd (L.drop 1) = 88)
  · have m0 : more 10 (L.drop 1) = 0 := by
      refine more_zero ?_ (by omega)
      rcases c1.2 with h | h <;> rw [h] <;> decide
    have hdig : dig (hd L) 10 = true := by rw [c1.1]; decide
    have hn : nm 10 L = 1 := by unfold nm; rw [if_pos hdig, more, dif_pos hdig, m0]
    have hnum : number 10 L = 1 := by rw [number_nm, hn]; rfl
    have hd0 : dotOf L = -1 := by unfold dotOf; rw [hn, if_pos (by omega), if_neg (by omega)]
    have hp : powerOf 101 69 (L.drop 1) = -1 := by unfold powerOf; rw [if_neg (by omega)]
    have he : expOf L 1 = -1 := by
      unfold expOf
      rw [if_neg (by omega), show (1 : Int).toNat = 1 from rfl, hp]; rfl
    have hdec : decOf L = -1 := by unfold decOf; rw [hn, if_pos (by omega), if_neg (by omega), hp]; rfl
    rw [if_pos c1, hnum, hd0, hdec, show max (1 : Int) (-1) = 1 by omega, he]
    split <;> omega
  · have hx : hexOf L = -1 := by unfold hexOf; rw [if_neg c1]
    rw [if_neg c1, hx]
    unfold decOf dotOf
    rw [number_nm 10 L]
    by_cases d : 0 < nm 10 L
    · simp only [if_pos d]
      by_cases f : hd (L.drop (nm 10 L)) = 46
      · simp only [if_pos f]
        rw [show max (nm 10 L : Int) (frac 10 (nm 10 L) L : Int) = ((frac 10 (nm 10 L) L : Nat) : Int) by unfold frac; omega]
        unfold expOf
        rw [if_neg (by omega), Int.toNat_natCast]
        omega
      · simp only [if_neg f]
        rw [show max (nm 10 L : Int) (-1) = ((nm 10 L : Nat) : Int) by omega]
        unfold expOf
        rw [if_neg (by omega), Int.toNat_natCast]
        have := sh_ge (nm 10 L) (power_ge 101 69 (L.drop (nm 10 L)))
        omega
    · simp only [if_neg d, if_neg c0]
      rfl
def c2 (L : List UInt8) : Int := hd L % 32 * 64 + hd (L.drop 1) % 64
def c3 (L : List UInt8) : Int := hd L % 16 * 4096 + hd (L.drop 1) % 64 * 64 + hd (L.drop 2) % 64
def c4 (L : List UInt8) : Int := hd L % 8 * 262144 + hd (L.drop 1) % 64 * 4096 + hd (L.drop 2) % 64 * 64 + hd (L.drop 3) % 64
def ok1 (L : List UInt8) : Prop := 1 ≤ L.length ∧ hd L < 128
def ok2 (L : List UInt8) : Prop := 2 ≤ L.length ∧ hd L / 32 = 6 ∧ hd (L.drop 1) / 64 = 2 ∧ 128 ≤ c2 L
def ok3 (L : List UInt8) : Prop := 3 ≤ L.length ∧ hd L / 16 = 14 ∧ hd (L.drop 1) / 64 = 2 ∧ hd (L.drop 2) / 64 = 2 ∧ 2048 ≤ c3 L ∧ (c3 L < 55296 ∨ 57344 ≤ c3 L)
def ok4 (L : List UInt8) : Prop := 4 ≤ L.length ∧ hd L / 8 = 30 ∧ hd (L.drop 1) / 64 = 2 ∧ hd (L.drop 2) / 64 = 2 ∧ hd (L.drop 3) / 64 = 2 ∧ 65536 ≤ c4 L ∧ c4 L ≤ 1114111
instance (L : List UInt8) : Decidable (ok1 L) := by unfold ok1; exact inferInstance
instance (L : List UInt8) : Decidable (ok2 L) := by unfold ok2; exact inferInstance
instance (L : List UInt8) : Decidable (ok3 L) := by unfold ok3; exact inferInstance
instance (L : List UInt8) : Decidable (ok4 L) := by unfold ok4; exact inferInstance
theorem hd_drop (L : List UInt8) (i : Nat) : hd (L.drop i) = ((L.getD i 0).toNat : Int) := by
  unfold hd
  rw [List.getD_eq_getElem?_getD, List.getElem?_drop, List.getD_eq_getElem?_getD, Nat.add_zero]
theorem hd_zero (L : List UInt8) : hd L = ((L.getD 0 0).toNat : Int) := rfl
theorem dec_alt (L : List UInt8) (hL : L ≠ []) : (ok1 L ∧ (dec L).1 = (hd L).toNat ∧ (dec L).2 = 1) ∨ (¬ ok1 L ∧ ok2 L ∧ ((dec L).1 : Int) = c2 L ∧ (dec L).2 = 2) ∨ (¬ ok1 L ∧ ¬ ok2 L ∧ ok3 L ∧ ((dec L).1 : Int) = c3 L ∧ (dec L).2 = 3) ∨ (¬ ok1 L ∧ ¬ ok2 L ∧ ¬ ok3 L ∧ ok4 L ∧ ((dec L).1 : Int) = c4 L ∧ (dec L).2 = 4) ∨ (¬ ok1 L ∧ ¬ ok2 L ∧ ¬ ok3 L ∧ ¬ ok4 L ∧ dec L = (65533, 1)) := by
  have hl : 0 < L.length := List.length_pos_iff.2 hL
  unfold ok1 ok2 ok3 ok4 c2 c3 c4 dec
  rw [Lib.decodeL_N, hd_drop, hd_drop, hd_drop, hd_zero]
  have k0 := (L.getD 0 0).toNat_lt
  have k1 := (L.getD 1 0).toNat_lt
  have k2 := (L.getD 2 0).toNat_lt
  have k3 := (L.getD 3 0).toNat_lt
  generalize (L.getD 0 0).toNat = b0 at *
  generalize (L.getD 1 0).toNat = b1 at *
  generalize (L.getD 2 0).toNat = b2 at *
  generalize (L.getD 3 0).toNat = b3 at *
  generalize L.length = n at *
  unfold Lib.decodeN
  by_cases g0 : b0 < 128
  · rw [if_pos g0]; left; dsimp only; omega
  rw [if_neg g0]; right
  by_cases g1 : b0 / 32 = 6 ∧ (1 < n ∧ b1 / 64 = 2)
  · rw [if_pos g1]
    by_cases g2 : b0 % 32 * 64 + b1 % 64 ≥ 128
    · rw [if_pos g2]; left; dsimp only; omega
    · rw [if_neg g2]; right; right; right
      refine ⟨?_, ?_, ?_, ?_, rfl⟩ <;> omega
  rw [if_neg g1]; right
  by_cases g2 : b0 / 16 = 14 ∧ (1 < n ∧ b1 / 64 = 2) ∧ (2 < n ∧ b2 / 64 = 2)
  · rw [if_pos g2]
    by_cases g3 : b0 % 16 * 4096 + b1 % 64 * 64 + b2 % 64 ≥ 2048 ∧ (b0 % 16 * 4096 + b1 % 64 * 64 + b2 % 64 < 55296 ∨ (57344 ≤ b0 % 16 * 4096 + b1 % 64 * 64 + b2 % 64 ∧ b0 % 16 * 4096 + b1 % 64 * 64 + b2 % 64 ≤ 1114111))
    · rw [if_pos g3]; left
      refine ⟨?_, ?_, ?_, ?_, rfl⟩ <;> (try dsimp only) <;> omega
    · rw [if_neg g3]; right; right
      refine ⟨?_, ?_, ?_, ?_, rfl⟩ <;> omega
  rw [if_neg g2]; right
  by_cases g3 : b0 / 8 = 30 ∧ (1 < n ∧ b1 / 64 = 2) ∧ (2 < n ∧ b2 / 64 = 2) ∧ (3 < n ∧ b3 / 64 = 2)
  · rw [if_pos g3]
    by_cases g4 : b0 % 8 * 262144 + b1 % 64 * 4096 + b2 % 64 * 64 + b3 % 64 ≥ 65536 ∧ (b0 % 8 * 262144 + b1 % 64 * 4096 + b2 % 64 * 64 + b3 % 64 < 55296 ∨ (57344 ≤ b0 % 8 * 262144 + b1 % 64 * 4096 + b2 % 64 * 64 + b3 % 64 ∧ b0 % 8 * 262144 + b1 % 64 * 4096 + b2 % 64 * 64 + b3 % 64 ≤ 1114111))
    · rw [if_pos g4]; left
      refine ⟨?_, ?_, ?_, ?_, ?_, rfl⟩ <;> (try dsimp only) <;> omega
    · rw [if_neg g4]; right
      refine ⟨?_, ?_, ?_, ?_, rfl⟩ <;> omega
  rw [if_neg g3]; right
  refine ⟨?_, ?_, ?_, ?_, rfl⟩ <;> omega
theorem extract_list2 (a : ByteArray) (p n : Nat) : (a.extract p (p + n)).data.toList = (rest a p).take n := by
  unfold rest
  rw [ByteArray.data_extract, Array.toList_extract, List.extract_eq_take_drop, Nat.add_sub_cancel_left]
theorem rune_eq (v : Int) : quoinref01_Rune.f v = some (decide (0 ≤ v ∧ v ≤ 1114111 ∧ (v < 55296 ∨ 57343 < v))) := by
  unfold quoinref01_Rune.f
  by_cases h0 : v ≥ 0
  · rw [if_pos h0]
    by_cases h1 : v ≤ 1114111
    · rw [if_pos h1]
      by_cases h2 : v < 55296
      · rw [if_pos h2, decide_eq_true (by omega)]
      · rw [if_neg h2]
        congr 1
        exact decide_eq_decide.2 (by omega)
    · rw [if_neg h1, decide_eq_false (by omega)]
  · rw [if_neg h0, decide_eq_false (by omega)]
def encZ (v : Int) : List Int := if v ≤ 127 then [v] else if v ≤ 2047 then [192 + v / 64, 128 + v % 64] else if v ≤ 65535 then [224 + v / 4096, 128 + v / 64 % 64, 128 + v % 64] else [240 + v / 262144, 128 + v / 4096 % 64, 128 + v / 64 % 64, 128 + v % 64]
theorem bytes_eq (v : Int) (h0 : 0 ≤ v) (h1 : v ≤ 1114111) : quoinref01_bytes.f v = some (encZ v) := by
  unfold quoinref01_bytes.f encZ
  rw [Int.emod_eq_of_lt (show 0 ≤ v by omega) (show v < 4294967296 by omega)]
  by_cases c1 : v ≤ 127
  · rw [if_pos c1, if_pos c1, Int.emod_eq_of_lt (show 0 ≤ v by omega) (show v < 256 by omega)]
  rw [if_neg c1, if_neg c1]
  by_cases c2 : v ≤ 2047
  · rw [if_pos c2, if_pos c2, Int.emod_eq_of_lt (a := 192 + v / 64) (by omega) (show 192 + v / 64 < 4294967296 by omega), Int.emod_eq_of_lt (a := 192 + v / 64) (by omega) (show 192 + v / 64 < 256 by omega)]
  rw [if_neg c2, if_neg c2]
  by_cases c3 : v ≤ 65535
  · rw [if_pos c3, if_pos c3, Int.emod_eq_of_lt (a := 224 + v / 4096) (by omega) (show 224 + v / 4096 < 4294967296 by omega), Int.emod_eq_of_lt (a := 224 + v / 4096) (by omega) (show 224 + v / 4096 < 256 by omega)]
  rw [if_neg c3, if_neg c3, Int.emod_eq_of_lt (a := 240 + v / 262144) (by omega) (show 240 + v / 262144 < 4294967296 by omega), Int.emod_eq_of_lt (a := 240 + v / 262144) (by omega) (show 240 + v / 262144 < 256 by omega)]
def Hit (n : Nat) (v : Int) (L : List UInt8) : Prop := v ≤ 1114111 ∧ (v < 55296 ∨ 57343 < v) ∧ (encZ v).map (fun x => UInt8.ofNat x.toNat) = L.take n
theorem ofInt (e : Int) (x : UInt8) (h0 : 0 ≤ e) (h1 : e < 256) : UInt8.ofNat e.toNat = x ↔ e = (x.toNat : Int) := by
  have := byte_int x e.toNat (by omega)
  constructor
  · intro h
    have := this.2 h.symm
    omega
  · intro h
    exact (this.1 (by omega)).symm
theorem hit1 (L : List UInt8) (hl : 1 ≤ L.length) : Hit 1 (hd L) L ↔ ok1 L := by
  have hr := hd_range L
  unfold Hit ok1
  rw [Lib.takeA L hl]
  unfold encZ
  by_cases c1 : hd L ≤ 127
  · rw [if_pos c1]
    simp only [List.map_cons, List.map_nil, List.cons.injEq, and_true]
    rw [ofInt _ _ hr.1 (by omega)]
    refine ⟨fun _ => by omega, fun _ => ⟨by omega, by omega, rfl⟩⟩
  · rw [if_neg c1, if_pos (show hd L ≤ 2047 by omega)]
    simp only [List.map_cons, List.map_nil, List.cons.injEq]
    refine ⟨fun h => ?_, fun h => by omega⟩
    have := h.2.2.2
    simp at this
theorem hit2 (L : List UInt8) (hl : 2 ≤ L.length) : Hit 2 (c2 L) L ↔ ok2 L := by
  have hr0 := hd_range L
  have hr1 := hd_range (L.drop 1)
  unfold Hit ok2
  rw [Lib.takeB L hl]
  have e0 := hd_zero L
  have e1 := hd_drop L 1
  unfold c2
  generalize hd L = b0 at *
  generalize hd (L.drop 1) = b1 at *
  unfold encZ
  by_cases c1 : b0 % 32 * 64 + b1 % 64 ≤ 127
  · rw [if_pos c1]
    simp only [List.map_cons, List.map_nil, List.cons.injEq]
    refine ⟨fun h => ?_, fun h => by omega⟩
    have := h.2.2.2
    simp at this
  · rw [if_neg c1, if_pos (show b0 % 32 * 64 + b1 % 64 ≤ 2047 by omega)]
    simp only [List.map_cons, List.map_nil, List.cons.injEq, and_true]
    rw [ofInt _ _ (by omega) (by omega), ofInt _ _ (by omega) (by omega)]
    omega
theorem hit3 (L : List UInt8) (hl : 3 ≤ L.length) : Hit 3 (c3 L) L ↔ ok3 L := by
  have hr0 := hd_range L
  have hr1 := hd_range (L.drop 1)
  have hr2 := hd_range (L.drop 2)
  unfold Hit ok3
  rw [Lib.takeC L hl]
  have e0 := hd_zero L
  have e1 := hd_drop L 1
  have e2 := hd_drop L 2
  unfold c3
  generalize hd L = b0 at *
  generalize hd (L.drop 1) = b1 at *
  generalize hd (L.drop 2) = b2 at *
  unfold encZ
  by_cases c1 : b0 % 16 * 4096 + b1 % 64 * 64 + b2 % 64 ≤ 127
  · rw [if_pos c1]
    simp only [List.map_cons, List.map_nil, List.cons.injEq]
    refine ⟨fun h => ?_, fun h => by omega⟩
    have := h.2.2.2
    simp at this
  rw [if_neg c1]
  by_cases c2 : b0 % 16 * 4096 + b1 % 64 * 64 + b2 % 64 ≤ 2047
  · rw [if_pos c2]
    simp only [List.map_cons, List.map_nil, List.cons.injEq]
    refine ⟨fun h => ?_, fun h => by omega⟩
    have := h.2.2.2.2
    simp at this
  rw [if_neg c2, if_pos (by omega)]
  simp only [List.map_cons, List.map_nil, List.cons.injEq, and_true]
  rw [ofInt _ _ (by omega) (by omega), ofInt _ _ (by omega) (by omega), ofInt _ _ (by omega) (by omega)]
  omega
theorem hit4 (L : List UInt8) (hl : 4 ≤ L.length) : Hit 4 (c4 L) L ↔ ok4 L := by
  have hr0 := hd_range L
  have hr1 := hd_range (L.drop 1)
  have hr2 := hd_range (L.drop 2)
  have hr3 := hd_range (L.drop 3)
  unfold Hit ok4
  rw [Lib.takeD L hl]
  have e0 := hd_zero L
  have e1 := hd_drop L 1
  have e2 := hd_drop L 2
  have e3 := hd_drop L 3
  unfold c4
  generalize hd L = b0 at *
  generalize hd (L.drop 1) = b1 at *
  generalize hd (L.drop 2) = b2 at *
  generalize hd (L.drop 3) = b3 at *
  unfold encZ
  by_cases c1 : b0 % 8 * 262144 + b1 % 64 * 4096 + b2 % 64 * 64 + b3 % 64 ≤ 127
  · rw [if_pos c1]
    simp only [List.map_cons, List.map_nil, List.cons.injEq]
    refine ⟨fun h => ?_, fun h => by omega⟩
    have := h.2.2.2
    simp at this
  rw [if_neg c1]
  by_cases c2 : b0 % 8 * 262144 + b1 % 64 * 4096 + b2 % 64 * 64 + b3 % 64 ≤ 2047
  · rw [if_pos c2]
    simp only [List.map_cons, List.map_nil, List.cons.injEq]
    refine ⟨fun h => ?_, fun h => by omega⟩
    have := h.2.2.2.2
    simp at this
  rw [if_neg c2]
  by_cases c3 : b0 % 8 * 262144 + b1 % 64 * 4096 + b2 % 64 * 64 + b3 % 64 ≤ 65535
  · rw [if_pos c3]
    simp only [List.map_cons, List.map_nil, List.cons.injEq]
    refine ⟨fun h => ?_, fun h => by omega⟩
    have := h.2.2.2.2.2
    simp at this
  rw [if_neg c3]
  simp only [List.map_cons, List.map_nil, List.cons.injEq, and_true]
  by_cases c4 : b0 % 8 * 262144 + b1 % 64 * 4096 + b2 % 64 * 64 + b3 % 64 ≤ 1114111
  · rw [ofInt _ _ (by omega) (by omega), ofInt _ _ (by omega) (by omega), ofInt _ _ (by omega) (by omega), ofInt _ _ (by omega) (by omega)]
    omega
  · exact ⟨fun h => absurd h.1 c4, fun h => absurd h.2.2.2.2.2.2 c4⟩
theorem wr32' {v : Int} (h0 : 0 ≤ v) (h1 : v ≤ 2147483647) : wrap32 v = v := by unfold wrap32; omega
theorem try_ev (a : ByteArray) (ha : a.size ≤ 262144) (p n : Nat) (hn : 1 ≤ n ∧ n ≤ 4) (hp : p + n ≤ a.size) (v : Int) (h0 : 0 ≤ v) (h1 : v ≤ 2097151) (r : Int × Int × Bool) (hyes : Hit n v (rest a p) → r = (v, (n : Int), true)) (hno : ¬ Hit n v (rest a p) → Ev (fun k => quoinref01_Next.l0 k a p ((n + 1 : Nat) : Int)) r) : Ev (fun k => quoinref01_Next.l1 k a p n v n) r := by
  apply Ev.succ
  simp only [quoinref01_Next.l1, if_neg (show ¬ (n : Int) < (n : Int) by omega), wr32' h0 (show v ≤ 2147483647 by omega), wrp1 (show n + 1 ≤ 1000000 by omega), rune_eq, Option.bind_some, wrp (show p + n ≤ 1000000 by omega)]
  by_cases c1 : v ≤ 1114111
  rotate_left
  · simp only [if_neg c1]
    exact hno (fun h => c1 h.1)
  simp only [if_pos c1]
  by_cases c2 : v < 55296 ∨ 57343 < v
  rotate_left
  · simp only [decide_eq_false (show ¬ (0 ≤ v ∧ v ≤ 1114111 ∧ (v < 55296 ∨ 57343 < v)) from fun h => c2 h.2.2), Bool.false_eq_true, if_false]
    exact hno (fun h => c2 h.2.1)
  simp only [decide_eq_true (show 0 ≤ v ∧ v ≤ 1114111 ∧ (v < 55296 ∨ 57343 < v) from ⟨h0, c1, c2⟩), if_true, bytes_eq v h0 c1, Option.bind_some, if_pos (show (0 : Int) ≤ (p : Int) by omega), if_pos (show (p : Int) ≤ ((p + n : Nat) : Int) by omega), if_pos (show ((p + n : Nat) : Int) ≤ (a.size : Int) by omega), Int.toNat_natCast]
  have e : (a.extract p (p + n)).toList = (rest a p).take n := by
    rw [bytes_list, extract_list2]
  have e2 : (strOfNums (encZ v)).toList = (encZ v).map (fun x => UInt8.ofNat x.toNat) := by rw [bytes_list]; rfl
  by_cases c3 : (strOfNums (encZ v)).toList = (a.extract p (p + n)).toList
  · simp only [if_pos c3]
    rw [hyes ⟨c1, c2, by rw [← e2, c3, e]⟩]
    exact Ev.now _
  · simp only [if_neg c3]
    exact hno (fun h => c3 (by rw [e2, e]; exact h.2.2))
theorem next_alt (L : List UInt8) (hL : L ≠ []) : nextOf L = if ok1 L then (hd L, 1, true) else if ok2 L then (c2 L, 2, true) else if ok3 L then (c3 L, 3, true) else if ok4 L then (c4 L, 4, true) else (0, 1, false) := by
  have hr := hd_range L
  unfold nextOf
  rw [if_neg hL]
  rcases dec_alt L hL with ⟨h1, e, e2⟩ | ⟨h1, h2, e, e2⟩ | ⟨h1, h2, h3, e, e2⟩ | ⟨h1, h2, h3, h4, e, e2⟩ | ⟨h1, h2, h3, h4, e⟩
  · have hlt := h1.2
    rw [if_pos h1, if_neg (by omega), e, e2, show (((hd L).toNat : Nat) : Int) = hd L by omega]; rfl
  · have hlt := h2
    unfold ok2 c2 at hlt
    have : c2 L ≤ 2047 := by unfold c2; omega
    rw [if_neg h1, if_pos h2, if_neg (by omega), e, e2]; rfl
  · rw [if_neg h1, if_neg h2, if_pos h3]
    by_cases c : (dec L).1 = 65533
    · have hh := (hit3 L h3.1).2 h3
      have e3 : c3 L = 65533 := by omega
      rw [if_pos c]
      have hh2 := hh.2.2
      have z : (encZ 65533).map (fun x => UInt8.ofNat x.toNat) = [239, 191, 189] := by decide
      rw [e3] at hh2 ⊢
      rw [z] at hh2
      rw [if_pos hh2.symm]
    · rw [if_neg c, e, e2]; rfl
  · have hlt := h4
    unfold ok4 at hlt
    rw [if_neg h1, if_neg h2, if_neg h3, if_pos h4, if_neg (by omega), e, e2]; rfl
  · rw [if_neg h1, if_neg h2, if_neg h3, if_neg h4, e]
    dsimp only
    rw [if_pos rfl]
    by_cases c : L.take 3 = [239, 191, 189]
    · exfalso
      have hl : 3 ≤ L.length := by
        have := congrArg List.length c
        rw [List.length_take] at this
        simp at this; omega
      refine h3 ((hit3 L hl).1 ?_)
      rw [Lib.takeC L hl] at c
      simp only [List.cons.injEq, and_true] at c
      have e0 := hd_zero L
      have e1 := hd_drop L 1
      have e2 := hd_drop L 2
      rw [c.1] at e0
      rw [c.2.1] at e1
      rw [c.2.2] at e2
      have e3 : c3 L = 65533 := by
        unfold c3
        rw [e0, e1, e2]; decide
      rw [e3]
      refine ⟨by omega, by omega, ?_⟩
      rw [Lib.takeC L hl, c.1, c.2.1, c.2.2]
      decide
    · rw [if_neg c]
def lead (n : Nat) (b : Int) : Int := if n = 1 then b else if n = 2 then b % 32 else if n = 3 then b % 16 else b % 8
theorem enter_ev (a : ByteArray) (ha : a.size ≤ 262144) (p n : Nat) (hn : n = 1 ∨ n = 2 ∨ n = 3 ∨ n = 4) (hp : p + n ≤ a.size) (r : Int × Int × Bool) (h : Ev (fun k => quoinref01_Next.l1 k a p n (lead n (hd (rest a p))) 1) r) : Ev (fun k => quoinref01_Next.l0 k a p n) r := by
  have hr := hd_range (rest a p)
  apply Ev.succ
  simp only [quoinref01_Next.l0, if_pos (show (n : Int) ≤ 4 by omega)]
  rw [wr (x := (a.size : Int) - p) (by omega) (by omega), decide_eq_true (show (n : Int) ≤ (a.size : Int) - p by omega)]
  apply Ev.succ
  simp only [quoinref01_Next.j2, if_true, if_pos (show (0 : Int) ≤ (p : Int) by omega), if_pos (show (p : Int) < (a.size : Int) by omega), hd_rest a p (by omega), Int.emod_eq_of_lt hr.1 (show hd (rest a p) < 4294967296 by omega)]
  have fin : Ev (fun k => quoinref01_Next.j3 k a p n (lead n (hd (rest a p)))) r := by
    apply Ev.succ
    simp only [quoinref01_Next.j3]
    exact h
  rcases hn with rfl | rfl | rfl | rfl
  · simp only [if_neg (show ¬ ((1 : Nat) : Int) > 1 by omega)]
    exact fin
  · have e : shl .u32 1 (wrap64 (7 - ((2 : Nat) : Int))) = 32 := by decide +kernel
    simp only [if_pos (show ((2 : Nat) : Int) > 1 by omega), e, if_pos (show (0 : Int) ≤ wrap64 (7 - ((2 : Nat) : Int)) by decide +kernel), if_neg (show ¬ (32 : Int) = 0 by omega)]
    exact fin
  · have e : shl .u32 1 (wrap64 (7 - ((3 : Nat) : Int))) = 16 := by decide +kernel
    simp only [if_pos (show ((3 : Nat) : Int) > 1 by omega), e, if_pos (show (0 : Int) ≤ wrap64 (7 - ((3 : Nat) : Int)) by decide +kernel), if_neg (show ¬ (16 : Int) = 0 by omega)]
    exact fin
  · have e : shl .u32 1 (wrap64 (7 - ((4 : Nat) : Int))) = 8 := by decide +kernel
    simp only [if_pos (show ((4 : Nat) : Int) > 1 by omega), e, if_pos (show (0 : Int) ≤ wrap64 (7 - ((4 : Nat) : Int)) by decide +kernel), if_neg (show ¬ (8 : Int) = 0 by omega)]
    exact fin
theorem stop_ev (a : ByteArray) (ha : a.size ≤ 262144) (p n : Nat) (hp : p ≤ a.size) (hn : 4 < n ∨ a.size < p + n) (hn5 : n ≤ 5) : Ev (fun k => quoinref01_Next.l0 k a p n) (0, 1, false) := by
  have no : Ev (fun k => quoinref01_Next.j2 k a p n false) (0, 1, false) := by
    apply Ev.succ
    simp only [quoinref01_Next.j2, Bool.false_eq_true, if_false]
    exact Ev.now _
  apply Ev.succ
  simp only [quoinref01_Next.l0]
  by_cases c : (n : Int) ≤ 4
  · simp only [if_pos c]
    rw [wr (x := (a.size : Int) - p) (by omega) (by omega), decide_eq_false (show ¬ (n : Int) ≤ (a.size : Int) - p by omega)]
    exact no
  · simp only [if_neg c]
    exact no
theorem step_ev (a : ByteArray) (ha : a.size ≤ 262144) (p n i : Nat) (x : Int) (hi : i < n) (hn : n ≤ 4) (hp : p + n ≤ a.size) (h0 : 0 ≤ x) (h1 : x ≤ 1048576) (r : Int × Int × Bool) (h : Ev (fun k => quoinref01_Next.l1 k a p n (x * 64 + hd ((rest a p).drop i) % 64) ((i + 1 : Nat) : Int)) r) : Ev (fun k => quoinref01_Next.l1 k a p n x i) r := by
  have hr := hd_range ((rest a p).drop i)
  apply Ev.succ
  simp only [quoinref01_Next.l1, if_pos (show (i : Int) < (n : Int) by omega), wrp (show p + i ≤ 1000000 by omega), if_pos (show (0 : Int) ≤ ((p + i : Nat) : Int) by omega), if_pos (show ((p + i : Nat) : Int) < (a.size : Int) by omega), hd_rest a (p + i) (by omega), rest_add, wrp1 (show i + 1 ≤ 1000000 by omega)]
  rw [Int.emod_eq_of_lt (a := x * 64) (by omega) (by omega), Int.emod_eq_of_lt (a := hd ((rest a p).drop i)) (b := 4294967296) (by omega) (by omega), Int.emod_eq_of_lt (a := x * 64 + hd ((rest a p).drop i) % 64) (by omega) (by omega)]
  exact h
theorem rnext_ev (a : ByteArray) (ha : a.size ≤ 262144) (p : Nat) (hp : p ≤ a.size) : Ev (fun k => quoinref01_Next.f k a p) (nextOf (rest a p)) := by
  have hlen := rest_len a p
  unfold quoinref01_Next.f
  simp only [if_neg (show ¬ (p : Int) < 0 by omega)]
  by_cases c : p < a.size
  rotate_left
  · rw [decide_eq_true (show (p : Int) ≥ (a.size : Int) by omega)]
    apply Ev.succ
    simp only [quoinref01_Next.j0, if_true]
    unfold nextOf
    rw [if_pos (rest_nil.2 (by omega))]
    exact Ev.now _
  have hne : rest a p ≠ [] := fun e => by have := rest_nil.1 e; omega
  rw [decide_eq_false (show ¬ (p : Int) ≥ (a.size : Int) by omega), next_alt _ hne]
  apply Ev.succ
  simp only [quoinref01_Next.j0, Bool.false_eq_true, if_false]
  have hr0 := hd_range (rest a p)
  have hr1 := hd_range ((rest a p).drop 1)
  have hr2 := hd_range ((rest a p).drop 2)
  have hr3 := hd_range ((rest a p).drop 3)
  refine enter_ev a ha p 1 (.inl rfl) (by omega) _ ?_
  refine try_ev a ha p 1 (by omega) (by omega) (hd (rest a p)) hr0.1 (by omega) _ (fun h => if_pos ((hit1 _ (by omega)).1 h)) (fun n1 => ?_)
  rw [if_neg (fun h => n1 ((hit1 _ (by omega)).2 h))]
  by_cases l2 : p + 2 ≤ a.size
  rotate_left
  · rw [if_neg (fun h => by have := h.1; omega), if_neg (fun h => by have := h.1; omega), if_neg (fun h => by have := h.1; omega)]
    exact stop_ev a ha p 2 hp (by omega) (by omega)
  refine enter_ev a ha p 2 (.inr (.inl rfl)) l2 _ ?_
  refine step_ev a ha p 2 1 (hd (rest a p) % 32) (by omega) (by omega) l2 (by omega) (by omega) _ ?_
  refine try_ev a ha p 2 (by omega) l2 (c2 (rest a p)) (by unfold c2; omega) (by unfold c2; omega) _ (fun h => if_pos ((hit2 _ (by omega)).1 h)) (fun n2 => ?_)
  rw [if_neg (fun h => n2 ((hit2 _ (by omega)).2 h))]
  by_cases l3 : p + 3 ≤ a.size
  rotate_left
  · rw [if_neg (fun h => by have := h.1; omega), if_neg (fun h => by have := h.1; omega)]
    exact stop_ev a ha p 3 hp (by omega) (by omega)
  refine enter_ev a ha p 3 (.inr (.inr (.inl rfl))) l3 _ ?_
  refine step_ev a ha p 3 1 (hd (rest a p) % 16) (by omega) (by omega) l3 (by omega) (by omega) _ ?_
  refine step_ev a ha p 3 2 (hd (rest a p) % 16 * 64 + hd ((rest a p).drop 1) % 64) (by omega) (by omega) l3 (by omega) (by omega) _ ?_
  have e3 : (hd (rest a p) % 16 * 64 + hd ((rest a p).drop 1) % 64) * 64 + hd ((rest a p).drop 2) % 64 = c3 (rest a p) := by unfold c3; omega
  rw [e3]
  refine try_ev a ha p 3 (by omega) l3 (c3 (rest a p)) (by unfold c3; omega) (by unfold c3; omega) _ (fun h => if_pos ((hit3 _ (by omega)).1 h)) (fun n3 => ?_)
  rw [if_neg (fun h => n3 ((hit3 _ (by omega)).2 h))]
  by_cases l4 : p + 4 ≤ a.size
  rotate_left
  · rw [if_neg (fun h => by have := h.1; omega)]
    exact stop_ev a ha p 4 hp (by omega) (by omega)
  refine enter_ev a ha p 4 (.inr (.inr (.inr rfl))) l4 _ ?_
  refine step_ev a ha p 4 1 (hd (rest a p) % 8) (by omega) (by omega) l4 (by omega) (by omega) _ ?_
  refine step_ev a ha p 4 2 (hd (rest a p) % 8 * 64 + hd ((rest a p).drop 1) % 64) (by omega) (by omega) l4 (by omega) (by omega) _ ?_
  refine step_ev a ha p 4 3 ((hd (rest a p) % 8 * 64 + hd ((rest a p).drop 1) % 64) * 64 + hd ((rest a p).drop 2) % 64) (by omega) (by omega) l4 (by omega) (by omega) _ ?_
  have e4 : ((hd (rest a p) % 8 * 64 + hd ((rest a p).drop 1) % 64) * 64 + hd ((rest a p).drop 2) % 64) * 64 + hd ((rest a p).drop 3) % 64 = c4 (rest a p) := by unfold c4; omega
  rw [e4]
  refine try_ev a ha p 4 (by omega) l4 (c4 (rest a p)) (by unfold c4; omega) (by unfold c4; omega) _ (fun h => if_pos ((hit4 _ (by omega)).1 h)) (fun n4 => ?_)
  rw [if_neg (fun h => n4 ((hit4 _ (by omega)).2 h))]
  exact stop_ev a ha p 5 hp (by omega) (by omega)
theorem rpiece_ev (a : ByteArray) (ha : a.size ≤ 262144) (p : Nat) (hp : p ≤ a.size) : Ev (fun k => quoinref26_piece.f k a p) (pr (rest a p), (pw (rest a p) : Int)) := by
  unfold quoinref26_piece.f
  refine Ev.bind (rnext_ev a ha p hp) ?_
  unfold pw pr
  by_cases c : (nextOf (rest a p)).2.2 = true
  · have hf := next_fit _ c
    simp only [if_pos c]
    by_cases c0 : (nextOf (rest a p)).1 = 0
    · simp only [if_pos c0, if_neg (show ¬ (nextOf (rest a p)).1 = 65279 by omega)]
      simp only [c0, if_true]
      exact Ev.now _
    · simp only [if_neg c0]
      by_cases c1 : (nextOf (rest a p)).1 = 65279
      · simp only [if_pos c1, if_true]; exact Ev.now _
      · simp only [if_neg c1, if_neg c0]
        rw [show (((nextOf (rest a p)).2.1.toNat : Nat) : Int) = (nextOf (rest a p)).2.1 by omega]
        exact Ev.now _
  · simp only [if_neg c, if_true]; exact Ev.now _
theorem rfloat_ev (a : ByteArray) (ha : a.size ≤ 262144) (p : Nat) (hp : p ≤ a.size) : Ev (fun k => quoinref26_float.f k a p) (ab p (brokenOf (rest a p))) := by
  rw [float_alt]
  obtain ⟨L, hL⟩ : ∃ L, rest a p = L := ⟨_, rfl⟩
  have hlen := rest_len a p
  have hdig := rdigits_ev a ha 10 b10 p (by omega)
  have hexf := hex_fit L
  rw [hL] at hlen hdig ⊢
  have hadd : ∀ n, rest a (p + n) = L.drop n := fun n => by rw [rest_add, hL]
  have hexp : ∀ (c d : Int) (q : Nat), 97 ≤ c → c ≤ 122 → d = c - 32 → q ≤ L.length → Ev (fun k => quoinref26_exponent.f k a ((p + q : Nat) : Int) c) (ab p (sh q (powerOf c d (L.drop q)))) := fun c d q h0 h1 h2 hq => by
    have := rexp_ev a ha c d h0 h1 h2 (p + q) (by omega)
    rwa [hadd, ab_sh] at this
  have hn := nm_le 10 L
  have dec : Ev (fun k => quoinref26_float.j1 k a p) (ab p (decOf L)) := by
    apply Ev.succ
    simp only [quoinref26_float.j1]
    refine Ev.bind hdig ?_
    rw [number_nm]
    unfold decOf
    by_cases c : 0 < nm 10 L
    · rw [if_pos c, if_pos c, ab_some (by omega), show (p : Int) + (nm 10 L : Int) = ((p + nm 10 L : Nat) : Int) by omega]
      simp only [if_neg (show ¬ ((p + nm 10 L : Nat) : Int) < 0 by omega), rat_eq, Option.bind_some, hadd, wrp1 (show p + nm 10 L + 1 ≤ 1000000 by omega)]
      by_cases d : hd (L.drop (nm 10 L)) = 46
      · simp only [if_pos d]
        have h := rdigits_ev a ha 10 b10 (p + nm 10 L + 1) (by omega)
        have l3 := hd_pos (L := L.drop (nm 10 L)) (by omega)
        rw [List.length_drop] at l3
        have l4 := nm_le 10 (L.drop (nm 10 L + 1))
        rw [List.length_drop] at l4
        have hf : frac 10 (nm 10 L) L ≤ L.length := by unfold frac; omega
        refine Ev.bind h ?_
        rw [show p + nm 10 L + 1 = p + (nm 10 L + 1) by omega, hadd, show p + (nm 10 L + 1) = p + nm 10 L + 1 by omega, frac_ab]
        refine Ev.bind (hexp 101 69 _ (by omega) (by omega) (by omega) hf) ?_
        have hs := sh_ge (frac 10 (nm 10 L) L) (power_ge 101 69 (L.drop (frac 10 (nm 10 L) L)))
        rw [show ((p + frac 10 (nm 10 L) L : Nat) : Int) = ab p (frac 10 (nm 10 L) L : Int) by rw [ab_some (by omega)]; omega, mx_ab p (by omega) hs]
        exact Ev.now _
      · simp only [if_neg d]
        exact Ev.bind (hexp 101 69 _ (by omega) (by omega) (by omega) hn) (Ev.now _)
    · rw [if_neg c, if_neg c, ab_none]
      simp only [if_pos (show (-1 : Int) < 0 by omega)]
      exact Ev.now _
  unfold quoinref26_float.f floatOf
  simp only [rat_eq, Option.bind_some, hL, wrp1 (show p + 1 ≤ 1000000 by omega), hadd, low_hd]
  by_cases c0 : hd L = 46
  · have l0 := hd_pos (L := L) (by omega)
    simp only [if_pos c0]
    have h := rdigits_ev a ha 10 b10 (p + 1) (by omega)
    rw [hadd] at h
    refine Ev.bind h ?_
    rw [number_nm]
    have l4 := nm_le 10 (L.drop 1)
    rw [List.length_drop] at l4
    by_cases d : 0 < nm 10 (L.drop 1)
    · rw [if_pos d, if_pos d, ab_some (by omega), show ((p + 1 : Nat) : Int) + (nm 10 (L.drop 1) : Int) = ((p + (1 + nm 10 (L.drop 1)) : Nat) : Int) by omega]
      simp only [if_neg (show ¬ ((p + (1 + nm 10 (L.drop 1)) : Nat) : Int) < 0 by omega)]
      refine Ev.bind (hexp 101 69 _ (by omega) (by omega) (by omega) (by omega)) ?_
      have hs := sh_ge (1 + nm 10 (L.drop 1)) (power_ge 101 69 (L.drop (1 + nm 10 (L.drop 1))))
      rw [show ((p + (1 + nm 10 (L.drop 1)) : Nat) : Int) = ab p (1 + (nm 10 (L.drop 1) : Int)) by rw [ab_some (by omega)]; omega, mx_ab p (by omega) hs]
      exact Ev.now _
    · rw [if_neg d, if_neg d, ab_none]
      simp only [if_pos (show (-1 : Int) < 0 by omega)]
      exact Ev.now _
  simp only [if_neg c0]
  have no : Ev (fun k => quoinref26_float.j0 k a p false) (ab p (decOf L)) := by
    apply Ev.succ
    simp only [quoinref26_float.j0, Bool.false_eq_true, if_false]
    exact dec
  by_cases c1 : hd L = 48
  rotate_left
  · simp only [if_neg c1]
    rw [if_neg (fun h => c1 h.1)]
    exact no
  simp only [if_pos c1]
  have el := low_is (L.drop 1) 120 88 (by omega) (by omega) (by omega)
  by_cases c2 : hd (L.drop 1) = 120 ∨ hd (L.drop 1) = 88
  rotate_left
  · rw [if_neg (fun h => c2 h.2), show (lowOf (hd (L.drop 1)) == 120) = false from beq_eq_false_iff_ne.2 (fun h => c2 (el ▸ h))]
    exact no
  rw [if_pos ⟨c1, c2⟩, show lowOf (hd (L.drop 1)) = 120 from el.mpr c2]
  have l1 := hd_pos (L := L.drop 1) (by omega)
  rw [List.length_drop] at l1
  apply Ev.succ
  simp only [quoinref26_float.j0, beq_self_eq_true, if_true, wrp2 (show p + 2 ≤ 1000000 by omega)]
  have hm := mant_ev a ha (p + 2) (by omega)
  rw [hadd, ab_sh] at hm
  refine Ev.bind hm ?_
  have hx := hex_alt L c1 c2
  have mf := sh_fit (L := L) (s := 2) (mant_fit (L.drop 2))
  obtain ⟨m, em⟩ : ∃ m, sh 2 (mantOf (L.drop 2)) = m := ⟨_, rfl⟩
  rw [em] at hx mf ⊢
  unfold afterOf at hx
  by_cases d : m < 0
  · rw [if_pos d] at hx
    rw [hx, show m = -1 by unfold Fit at mf; omega, ab_none]
    simp only [if_neg (show ¬ (-1 : Int) ≥ 0 by omega)]
    exact dec
  · rw [if_neg d] at hx
    obtain ⟨q, rfl⟩ : ∃ q : Nat, m = q := ⟨m.toNat, by omega⟩
    rw [Int.toNat_natCast] at hx
    have hq : q ≤ L.length := by unfold Fit at mf; omega
    rw [ab_some (by omega), show (p : Int) + (q : Int) = ((p + q : Nat) : Int) by omega]
    simp only [if_pos (show ((p + q : Nat) : Int) ≥ 0 by omega)]
    refine Ev.bind (hexp 112 80 q (by omega) (by omega) (by omega) hq) ?_
    rw [← hx]
    by_cases e : hexOf L ≥ 0
    · simp only [if_pos e, if_pos (show ab p (hexOf L) ≥ 0 by rw [ab_some e]; omega)]
      exact Ev.now _
    · simp only [if_neg e]
      rw [show hexOf L = -1 by unfold Fit at hexf; omega, ab_none]
      simp only [if_neg (show ¬ (-1 : Int) ≥ 0 by omega)]
      exact dec
theorem rimag_step (a : ByteArray) (ha : a.size ≤ 262144) (p : Nat) (hp : p ≤ a.size) (Y : List Int) (i : Nat) (hi : i < Y.length) (hy : Y.length ≤ 10) (t : Int) (ht : Fit (rest a p) t) (he : rd Y i = ab p t) (m : Int) (hm : -1 ≤ m) (r : Int)
    (h : Ev (fun k => quoinref26_imag.l0 k a Y (ab p (max m (withI (rest a p) t))) ((i + 1 : Nat) : Int)) r) : Ev (fun k => quoinref26_imag.l0 k a Y (ab p m) (i : Int)) r := by
  apply Ev.succ
  have hlen := rest_len a p
  simp only [quoinref26_imag.l0, if_pos (show (i : Int) < (Y.length : Int) by omega), if_pos (show (0 : Int) ≤ (i : Int) by omega), he, wrp1 (show i + 1 ≤ 1000000 by omega)]
  unfold withI at h
  by_cases c : t > 0
  · obtain ⟨n, rfl⟩ : ∃ n : Nat, t = n := ⟨t.toNat, by omega⟩
    have hn : n ≤ (rest a p).length := by unfold Fit at ht; omega
    rw [ab_some (show (0 : Int) ≤ (n : Int) by omega)]
    simp only [if_pos (show (p : Int) + (n : Int) ≥ 0 by omega)]
    rw [show (p : Int) + (n : Int) = ((p + n : Nat) : Int) by omega]
    simp only [rat_eq, Option.bind_some, rest_add, wrp1 (show p + n + 1 ≤ 1000000 by omega)]
    rw [Int.toNat_natCast] at h
    by_cases c2 : hd ((rest a p).drop n) = 105
    · simp only [if_pos c2]
      rw [if_pos ⟨c, c2⟩] at h
      have e := mx_ab p (r := m) (s := (n : Int) + 1) hm (by omega)
      rw [ab_some (show (0 : Int) ≤ (n : Int) + 1 by omega), show (p : Int) + ((n : Int) + 1) = ((p + n + 1 : Nat) : Int) by omega] at e
      rw [e]
      exact h
    · simp only [if_neg c2]
      rw [if_neg (fun x => c2 x.2), show max m (-1) = m by omega] at h
      exact h
  · have : t = -1 := by unfold Fit at ht; omega
    subst this
    rw [ab_none]
    simp only [if_neg (show ¬ (-1 : Int) ≥ 0 by omega)]
    rw [if_neg (fun x => c x.1), show max m (-1) = m by omega] at h
    exact h
theorem rimag_ev (a : ByteArray) (ha : a.size ≤ 262144) (p : Nat) (hp : p ≤ a.size) : Ev (fun k => quoinref26_imag.f k a p) (ab p (imagOf (rest a p))) := by
  have hp2 : p ≤ 262144 := Nat.le_trans hp ha
  unfold quoinref26_imag.f
  refine Ev.bind (rdigits_ev a ha 10 b10 p (by omega)) (Ev.bind (rwhole_ev a ha p hp2) (Ev.bind (rfloat_ev a ha p hp) ?_))
  obtain ⟨L, hL⟩ : ∃ L, rest a p = L := ⟨_, rfl⟩
  have s := fun i hi t ht he m hm r h => rimag_step a ha p hp [ab p (number 10 L), ab p (wholeOf L), ab p (brokenOf L)] i hi (by simp) t ht he m hm r h
  rw [hL] at s ⊢
  have f1 := withI_fit (number_fit 10 L)
  have f2 := withI_fit (whole_fit L)
  have f3 := withI_fit (broken_fit L)
  refine s 0 (by simp) (number 10 L) (number_fit 10 L) rfl (-1) (by omega) _ ?_
  refine s 1 (by simp) (wholeOf L) (whole_fit L) rfl _ (by omega) _ ?_
  refine s 2 (by simp) (brokenOf L) (broken_fit L) rfl _ (by omega) _ ?_
  apply Ev.succ
  simp only [quoinref26_imag.l0, List.length_cons, List.length_nil, if_neg (show ¬ ((2 + 1 : Nat) : Int) < ((0 + 1 + 1 + 1 : Nat) : Int) by omega)]
  have e : max (max (max (-1) (withI L (number 10 L))) (withI L (wholeOf L))) (withI L (brokenOf L)) = imagOf L := by
    have := fit_ge f1
    unfold imagOf; omega
  rw [e]
  exact Ev.now _
theorem rblank_loop (a : ByteArray) (ha : a.size ≤ 262144) (p : Nat) (n : Nat) : ∀ q : Nat, a.size - q ≤ n → p ≤ q → q ≤ a.size → Ev (fun k => quoinref26_blanks.l0 k a q p) (ab p (len0 (q - p + blanks (rest a q)))) := by
  induction n using Nat.strongRecOn with
  | _ n ih =>
    intro q h0 h1 h2
    have hlen := rest_len a q
    apply Ev.succ
    simp only [quoinref26_blanks.l0, rat_eq, Option.bind_some, wrp1 (show q + 1 ≤ 1000000 by omega)]
    rw [blanks]
    have more : blank (hd (rest a q)) = true → Ev (fun k => quoinref26_blanks.l0 k a ((q + 1 : Nat) : Int) p) (ab p (len0 (q - p + (blanks ((rest a q).drop 1) + 1)))) := by
      intro cb
      have hl := hd_pos (L := rest a q) (by simp [blank] at cb; omega)
      have h := ih (a.size - (q + 1)) (by omega) (q + 1) (by omega) (by omega) (by omega)
      rw [rest_add] at h
      rw [show q - p + (blanks ((rest a q).drop 1) + 1) = q + 1 - p + blanks ((rest a q).drop 1) by omega]
      exact h
    by_cases c1 : hd (rest a q) = 32
    · have cb : blank (hd (rest a q)) = true := by rw [c1]; decide
      simp only [if_pos c1]
      rw [dif_pos cb]
      exact more cb
    simp only [if_neg c1]
    by_cases c2 : hd (rest a q) = 9
    · have cb : blank (hd (rest a q)) = true := by rw [c2]; decide
      simp only [if_pos c2]
      rw [dif_pos cb]
      exact more cb
    simp only [if_neg c2]
    by_cases c3 : hd (rest a q) = 13
    · have cb : blank (hd (rest a q)) = true := by rw [c3]; decide
      simp only [if_pos c3]
      rw [dif_pos cb]
      exact more cb
    simp only [if_neg c3]
    rw [dif_neg (by simp [blank]; omega)]
    by_cases c : q = p
    · subst c
      simp only [if_true, Nat.sub_self, Nat.add_zero, len0]
      exact Ev.now _
    · simp only [if_neg (show ¬ (q : Int) = (p : Int) by omega)]
      unfold len0
      rw [if_neg (by omega), ab_some (by omega), show (p : Int) + ((q - p + 0 : Nat) : Int) = (q : Int) by omega]
      exact Ev.now _
theorem rblank_ev (a : ByteArray) (ha : a.size ≤ 262144) (p : Nat) (hp : p ≤ a.size) : Ev (fun k => quoinref26_blanks.f k a p) (ab p (blankOf (rest a p))) := by
  have := rblank_loop a ha p (a.size - p) p (Nat.le_refl _) (Nat.le_refl _) hp
  rw [Nat.sub_self, Nat.zero_add] at this
  exact this
theorem rline_loop (a : ByteArray) (ha : a.size ≤ 262144) (n : Nat) : ∀ q : Nat, a.size - q ≤ n → q ≤ a.size → Ev (fun k => quoinref26_remark.l0 k a q) ((q + lineEnd (rest a q) : Nat) : Int) := by
  induction n using Nat.strongRecOn with
  | _ n ih =>
    intro q h0 h2
    have hlen := rest_len a q
    have hf := piece_fit (rest a q)
    apply Ev.succ
    simp only [quoinref26_remark.l0]
    refine Ev.bind (rpiece_ev a ha q h2) ?_
    rw [lineEnd]
    by_cases c1 : pw (rest a q) = 0
    · rw [dif_neg (by omega)]
      simp only [if_pos (show ((pw (rest a q) : Nat) : Int) = 0 by omega)]
      exact Ev.now _
    · simp only [if_neg (show ¬ ((pw (rest a q) : Nat) : Int) = 0 by omega)]
      by_cases c2 : pr (rest a q) = 10
      · rw [dif_neg (fun h => h.2 c2)]
        simp only [if_pos c2]
        exact Ev.now _
      · rw [dif_pos ⟨by omega, c2⟩]
        simp only [if_neg c2]
        rw [wrp (show q + pw (rest a q) ≤ 1000000 by omega)]
        have h := ih (a.size - (q + pw (rest a q))) (by omega) (q + pw (rest a q)) (by omega) (by omega)
        rw [rest_add] at h
        rw [show q + (pw (rest a q) + lineEnd ((rest a q).drop (pw (rest a q)))) = q + pw (rest a q) + lineEnd ((rest a q).drop (pw (rest a q))) by omega]
        exact h
theorem lineEnd_two (L : List UInt8) (h0 : hd L = 47) (h1 : hd (L.drop 1) = 47) : lineEnd L = 2 + lineEnd (L.drop 2) := by
  have p0 := pr_ascii L (by omega) (by omega)
  have p1 := pr_ascii (L.drop 1) (by omega) (by omega)
  rw [lineEnd.eq_1 L, dif_pos (by omega), p0.2, lineEnd.eq_1 (L.drop 1), dif_pos (by omega), p1.2, show (L.drop 1).drop 1 = L.drop 2 by rw [List.drop_drop]]
  omega
theorem rremark_ev (a : ByteArray) (ha : a.size ≤ 262144) (p : Nat) (hp : p ≤ a.size) : Ev (fun k => quoinref26_remark.f k a p) (ab p (remarkOf (rest a p))) := by
  have hlen := rest_len a p
  have no : Ev (fun k => quoinref26_remark.j0 k a p true) (-1) := by
    apply Ev.succ
    simp only [quoinref26_remark.j0, if_true]
    exact Ev.now _
  unfold quoinref26_remark.f remarkOf
  simp only [rat_eq, Option.bind_some, wrp1 (show p + 1 ≤ 1000000 by omega), rest_add]
  by_cases c0 : hd (rest a p) = 47
  rotate_left
  · simp only [if_neg c0]
    rw [if_neg (fun h => c0 h.1)]
    exact no
  simp only [if_pos c0]
  by_cases c1 : hd ((rest a p).drop 1) = 47
  rotate_left
  · rw [if_neg (fun h => c1 h.2), show (hd ((rest a p).drop 1) != 47) = true from bne_iff_ne.2 c1]
    exact no
  have l1 := hd_pos (L := (rest a p).drop 1) (by omega)
  rw [List.length_drop] at l1
  rw [if_pos ⟨c0, c1⟩, c1, lineEnd_two _ c0 c1, ab_some (by omega), show ((47 : Int) != 47) = false from by decide]
  apply Ev.succ
  simp only [quoinref26_remark.j0, Bool.false_eq_true, if_false, wrp2 (show p + 2 ≤ 1000000 by omega)]
  have h := rline_loop a ha _ (p + 2) (Nat.le_refl _) (by omega)
  rw [rest_add] at h
  rw [show (p : Int) + ((2 + lineEnd ((rest a p).drop 2) : Nat) : Int) = ((p + 2 + lineEnd ((rest a p).drop 2) : Nat) : Int) by omega]
  exact h
theorem rcom_loop (a : ByteArray) (ha : a.size ≤ 262144) (n : Nat) : ∀ q : Nat, a.size - q ≤ n → q ≤ a.size → Ev (fun k => quoinref26_comment.l0 k a q) (ab q (comEnd (rest a q))) := by
  induction n using Nat.strongRecOn with
  | _ n ih =>
    intro q h0 h2
    have hlen := rest_len a q
    have hf := piece_fit (rest a q)
    have go : Ev (fun k => quoinref26_comment.j2 k a q true) (ab q (if h : 1 ≤ pw (rest a q) then sh (pw (rest a q)) (comEnd ((rest a q).drop (pw (rest a q)))) else -1)) := by
      apply Ev.succ
      simp only [quoinref26_comment.j2, if_true]
      refine Ev.bind (rpiece_ev a ha q h2) ?_
      by_cases c1 : pw (rest a q) = 0
      · rw [dif_neg (by omega)]
        simp only [if_pos (show ((pw (rest a q) : Nat) : Int) = 0 by omega)]
        exact Ev.now _
      · rw [dif_pos (by omega)]
        simp only [if_neg (show ¬ ((pw (rest a q) : Nat) : Int) = 0 by omega)]
        rw [wrp (show q + pw (rest a q) ≤ 1000000 by omega)]
        have h := ih (a.size - (q + pw (rest a q))) (by omega) (q + pw (rest a q)) (by omega) (by omega)
        rw [rest_add, ab_sh] at h
        exact h
    apply Ev.succ
    simp only [quoinref26_comment.l0, rat_eq, Option.bind_some, wrp1 (show q + 1 ≤ 1000000 by omega), rest_add]
    rw [comEnd]
    by_cases c0 : hd (rest a q) = 42
    rotate_left
    · simp only [if_neg c0]
      rw [if_neg (fun h => c0 h.1)]
      exact go
    simp only [if_pos c0]
    by_cases c1 : hd ((rest a q).drop 1) = 47
    rotate_left
    · rw [if_neg (fun h => c1 h.2), show (hd ((rest a q).drop 1) != 47) = true from bne_iff_ne.2 c1]
      exact go
    rw [if_pos ⟨c0, c1⟩, c1, show ((47 : Int) != 47) = false from by decide]
    apply Ev.succ
    simp only [quoinref26_comment.j2, Bool.false_eq_true, if_false, wrp2 (show q + 2 ≤ 1000000 by omega)]
    exact Ev.now _
theorem rcomment_ev (a : ByteArray) (ha : a.size ≤ 262144) (p : Nat) (hp : p ≤ a.size) : Ev (fun k => quoinref26_comment.f k a p) (ab p (commentOf (rest a p))) := by
  have hlen := rest_len a p
  have no : Ev (fun k => quoinref26_comment.j0 k a p true) (-1) := by
    apply Ev.succ
    simp only [quoinref26_comment.j0, if_true]
    exact Ev.now _
  unfold quoinref26_comment.f commentOf
  simp only [rat_eq, Option.bind_some, wrp1 (show p + 1 ≤ 1000000 by omega), rest_add]
  by_cases c0 : hd (rest a p) = 47
  rotate_left
  · simp only [if_neg c0]
    rw [if_neg (fun h => c0 h.1)]
    exact no
  simp only [if_pos c0]
  by_cases c1 : hd ((rest a p).drop 1) = 42
  rotate_left
  · rw [if_neg (fun h => c1 h.2), show (hd ((rest a p).drop 1) != 42) = true from bne_iff_ne.2 c1]
    exact no
  have l1 := hd_pos (L := (rest a p).drop 1) (by omega)
  rw [List.length_drop] at l1
  rw [if_pos ⟨c0, c1⟩, c1, ← ab_sh, ← rest_add, show ((42 : Int) != 42) = false from by decide]
  apply Ev.succ
  simp only [quoinref26_comment.j0, Bool.false_eq_true, if_false, wrp2 (show p + 2 ≤ 1000000 by omega)]
  exact rcom_loop a ha _ (p + 2) (Nat.le_refl _) (by omega)
theorem rletter_ev (a : ByteArray) (ha : a.size ≤ 262144) (p : Nat) (hp : p ≤ a.size) : Ev (fun k => quoinref26_letter.f k a p) (letter (rest a p) : Int) := by
  unfold quoinref26_letter.f letter
  refine Ev.bind (rpiece_ev a ha p hp) ?_
  apply Ev.const
  by_cases c2 : pr (rest a p) ≥ 97
  · by_cases c3 : pr (rest a p) ≤ 122
    · simp only [if_pos c2, if_pos c3]
      rw [if_pos (by omega)]
    · simp only [if_pos c2, if_neg c3, if_pos (show pr (rest a p) ≥ 65 by omega), if_neg (show ¬ pr (rest a p) ≤ 90 by omega), if_neg (show ¬ pr (rest a p) = 95 by omega)]
      by_cases c4 : pr (rest a p) ≥ 128
      · simp only [if_pos c4]
        rw [if_pos (by omega)]
      · simp only [if_neg c4]
        rw [if_neg (by omega)]; rfl
  · by_cases c3 : pr (rest a p) ≥ 65
    · by_cases c4 : pr (rest a p) ≤ 90
      · simp only [if_neg c2, if_pos c3, if_pos c4]
        rw [if_pos (by omega)]
      · by_cases c5 : pr (rest a p) = 95
        · simp only [if_neg c2, if_pos c3, if_neg c4, if_pos c5]
          rw [if_pos (by omega)]
        · simp only [if_neg c2, if_pos c3, if_neg c4, if_neg c5, if_neg (show ¬ pr (rest a p) ≥ 128 by omega)]
          rw [if_neg (by omega)]; rfl
    · simp only [if_neg c2, if_neg c3, if_neg (show ¬ pr (rest a p) = 95 by omega), if_neg (show ¬ pr (rest a p) ≥ 128 by omega)]
      rw [if_neg (by omega)]; rfl
theorem letter_dig (L : List UInt8) (h : dig (hd L) 10 = true) : letter L = 0 := by
  simp only [dig, Bool.or_eq_true, Bool.and_eq_true, decide_eq_true_eq] at h
  have p0 := pr_ascii L (by omega) (by omega)
  unfold letter
  rw [if_neg (by omega)]
theorem rword_loop (a : ByteArray) (ha : a.size ≤ 262144) (n : Nat) : ∀ q : Nat, a.size - q ≤ n → q ≤ a.size → Ev (fun k => quoinref26_word.l0 k a q) ((q + word (rest a q) : Nat) : Int) := by
  induction n using Nat.strongRecOn with
  | _ n ih =>
    intro q h0 h2
    have hlen := rest_len a q
    have hl := letter_le (rest a q)
    apply Ev.succ
    simp only [quoinref26_word.l0]
    refine Ev.bind (rletter_ev a ha q h2) ?_
    rw [word]
    by_cases c1 : dig (hd (rest a q)) 10 = true
    · have hz := letter_dig _ c1
      have := dig_len c1
      rw [dif_pos c1]
      simp only [hz, if_neg (show ¬ ((0 : Nat) : Int) > 0 by omega), rat_eq, Option.bind_some]
      refine Ev.bind (ris_hd _ 10 b10) ?_
      simp only [c1, if_true]
      refine Ev.bind (rletter_ev a ha q h2) ?_
      rw [hz, mx_max, show max ((0 : Nat) : Int) 1 = 1 by omega, wrp1 (by omega)]
      have h := ih (a.size - (q + 1)) (by omega) (q + 1) (by omega) (by omega)
      rw [rest_add] at h
      rw [← Nat.add_assoc]
      exact h
    rw [dif_neg c1]
    by_cases c2 : 1 ≤ letter (rest a q)
    · rw [dif_pos c2]
      simp only [if_pos (show ((letter (rest a q) : Nat) : Int) > 0 by omega)]
      refine Ev.bind (rletter_ev a ha q h2) ?_
      rw [mx_max, show max ((letter (rest a q) : Nat) : Int) 1 = ((letter (rest a q) : Nat) : Int) by omega, wrp (show q + letter (rest a q) ≤ 1000000 by omega)]
      have h := ih (a.size - (q + letter (rest a q))) (by omega) (q + letter (rest a q)) (by omega) (by omega)
      rw [rest_add] at h
      rw [← Nat.add_assoc]
      exact h
    · rw [dif_neg c2]
      simp only [if_neg (show ¬ ((letter (rest a q) : Nat) : Int) > 0 by omega), rat_eq, Option.bind_some]
      refine Ev.bind (ris_hd _ 10 b10) ?_
      rw [Bool.not_eq_true] at c1
      simp only [c1, Bool.false_eq_true, if_false]
      exact Ev.now _
theorem rword_ev (a : ByteArray) (ha : a.size ≤ 262144) (p : Nat) (hp : p ≤ a.size) : Ev (fun k => quoinref26_word.f k a p) (ab p (identOf (rest a p))) := by
  have hl := letter_le (rest a p)
  unfold quoinref26_word.f identOf
  refine Ev.bind (rletter_ev a ha p hp) ?_
  by_cases c : letter (rest a p) = 0
  · rw [if_pos c, c]
    simp only [if_pos (show ((0 : Nat) : Int) = 0 from rfl)]
    exact Ev.now _
  · rw [if_neg c, ab_some (by omega)]
    simp only [if_neg (show ¬ ((letter (rest a p) : Nat) : Int) = 0 by omega)]
    have h := rword_loop a ha _ p (Nat.le_refl _) hp
    have nd : ¬ dig (hd (rest a p)) 10 = true := fun h => c (letter_dig _ h)
    rw [word, dif_neg nd, dif_pos (by omega)] at h
    exact h
theorem lowv_all : ∀ c : Fin 256, dig (lowOf (c.1 : Int)) 16 = dig (c.1 : Int) 16 ∧ 0 ≤ lowOf (c.1 : Int) ∧ lowOf (c.1 : Int) ≤ 255 ∧ (dig (c.1 : Int) 16 = true → 0 ≤ hexv c.1 ∧ hexv c.1 ≤ 15 ∧ (if lowOf (c.1 : Int) ≥ 97 then (lowOf (c.1 : Int) - 97) % 256 = hexv c.1 - 10 else (lowOf (c.1 : Int) - 48) % 256 = hexv c.1)) := by decide +kernel
theorem lowv_eq (c : Int) (h0 : 0 ≤ c) (h1 : c ≤ 255) : dig (lowOf c) 16 = dig c 16 ∧ 0 ≤ lowOf c ∧ lowOf c ≤ 255 ∧ (dig c 16 = true → 0 ≤ hexv c ∧ hexv c ≤ 15 ∧ (if lowOf c ≥ 97 then (lowOf c - 97) % 256 = hexv c - 10 else (lowOf c - 48) % 256 = hexv c)) := by
  have h := lowv_all ⟨c.toNat, by omega⟩
  have e : ((⟨c.toNat, by omega⟩ : Fin 256).1 : Int) = c := by simp; omega
  rw [e] at h
  exact h
theorem rhexn_ev (a : ByteArray) (ha : a.size ≤ 262144) (p m : Nat) (hp : p + m ≤ 262160) (n : Nat) : ∀ (i j : Nat) (v : Int), i + n = m → 0 ≤ v → j + n ≤ 10 → v + 1 ≤ 16 ^ j → Ev (fun k => quoinref26_hexed.l0 k a p m v i) (hexn n v (rest a (p + i))) := by
  induction n with
  | zero =>
    intro i j v hq h0 hj h1
    apply Ev.succ
    simp only [quoinref26_hexed.l0, if_neg (show ¬ (i : Int) < (m : Int) by omega), hexn]
    exact Ev.now _
  | succ n ih =>
    intro i j v hq h0 hj h1
    apply Ev.succ
    have hr := hd_range (rest a (p + i))
    have hv := lowv_eq (hd (rest a (p + i))) hr.1 hr.2
    simp only [quoinref26_hexed.l0, if_pos (show (i : Int) < (m : Int) by omega), wrp (show p + i ≤ 1000000 by omega), rat_eq, Option.bind_some, low_hd, hexn, wrp1 (show i + 1 ≤ 1000000 by omega)]
    refine Ev.bind (ris_ev _ 16 b16 hv.2.1 hv.2.2.1) ?_
    rw [hv.1]
    by_cases c : dig (hd (rest a (p + i))) 16 = true
    · have hx := hv.2.2.2 c
      have hb := pow16 ⟨j, by omega⟩
      have hb : (16 : Int) ^ j ≤ 1099511627776 := hb
      have hs : (16 : Int) ^ (j + 1) = 16 ^ j * 16 := Int.pow_succ _ _
      have hnext := ih (i + 1) (j + 1) (v * 16 + hexv (hd (rest a (p + i)))) (by omega) (by omega) (by omega) (by rw [hs]; omega)
      rw [← Nat.add_assoc, rest_add a (p + i) 1] at hnext
      simp only [c, if_true]
      by_cases d : lowOf (hd (rest a (p + i))) ≥ 97
      · rw [if_pos d] at hx
        simp only [if_pos d]
        rw [hx.2.2, wr (x := 16 * v) (by omega) (by omega), wr (x := 16 * v + (hexv (hd (rest a (p + i))) - 10)) (by omega) (by omega), wr (by omega) (by omega), show 16 * v + (hexv (hd (rest a (p + i))) - 10) + 10 = v * 16 + hexv (hd (rest a (p + i))) by omega]
        exact hnext
      · rw [if_neg d] at hx
        simp only [if_neg d]
        rw [hx.2.2, wr (x := 16 * v) (by omega) (by omega), wr (by omega) (by omega), show 16 * v + hexv (hd (rest a (p + i))) = v * 16 + hexv (hd (rest a (p + i))) by omega]
        exact hnext
    · rw [if_neg c]
      rw [Bool.not_eq_true] at c
      simp only [c, Bool.false_eq_true, if_false]
      exact Ev.now _
theorem rhexn_ev' (a : ByteArray) (ha : a.size ≤ 262144) (p m : Nat) (hp : p ≤ 262150) (hm : m ≤ 8) : Ev (fun k => quoinref26_hexed.f k a p m) (hexn m 0 (rest a p)) :=
  rhexn_ev a ha p m (by omega) m 0 0 0 (by omega) (by omega) (by omega) (by decide)
theorem okRune_iff (v : Int) : okRune v = true ↔ (0 ≤ v ∧ v ≤ 1114111 ∧ (v < 55296 ∨ 57343 < v)) := by unfold okRune; exact decide_eq_true_iff
theorem resc_tail (p : Nat) (hp : p ≤ 262144) (m : Nat) (v : Int) (hm : m ≤ 8) : Ev (fun k => if v < 0 then some (-1) else (if v > 1114111 then some (-1) else (if v ≥ 55296 then (if v ≤ 57343 then some (-1) else some (wrap64 (((p + 2 : Nat) : Int) + m))) else some (wrap64 (((p + 2 : Nat) : Int) + m))))) (ab p (if okRune v = true then ((2 + m : Nat) : Int) else -1)) := by
  rw [wrp (show p + 2 + m ≤ 1000000 by omega)]
  have hi := okRune_iff v
  have yes : (0 ≤ v ∧ v ≤ 1114111 ∧ (v < 55296 ∨ 57343 < v)) → ab p (if okRune v = true then ((2 + m : Nat) : Int) else -1) = ((p + 2 + m : Nat) : Int) := fun h => by
    rw [if_pos (hi.2 h), ab_some (by omega)]; omega
  have no : ¬ (0 ≤ v ∧ v ≤ 1114111 ∧ (v < 55296 ∨ 57343 < v)) → ab p (if okRune v = true then ((2 + m : Nat) : Int) else -1) = -1 := fun h => by
    rw [if_neg (fun x => h (hi.1 x))]; rfl
  by_cases d1 : v < 0
  · simp only [if_pos d1]; rw [no (by omega)]; exact Ev.now _
  simp only [if_neg d1]
  by_cases d2 : v > 1114111
  · simp only [if_pos d2]; rw [no (by omega)]; exact Ev.now _
  simp only [if_neg d2]
  by_cases d3 : v ≥ 55296
  · simp only [if_pos d3]
    by_cases d4 : v ≤ 57343
    · simp only [if_pos d4]; rw [no (by omega)]; exact Ev.now _
    · simp only [if_neg d4]; rw [yes (by omega)]; exact Ev.now _
  · simp only [if_neg d3]; rw [yes (by omega)]; exact Ev.now _
theorem simple_iff (c : Int) : simple c = true ↔ (c = 97 ∨ c = 98 ∨ c = 102 ∨ c = 110 ∨ c = 114 ∨ c = 116 ∨ c = 118 ∨ c = 92) := by unfold simple; exact decide_eq_true_iff
def escTail (c : Int) (L : List UInt8) : Int :=
  if c = 120 then (if hexn 2 0 (L.drop 2) ≥ 0 then 4 else -1)
  else if c = 117 then (if okRune (hexn 4 0 (L.drop 2)) then 6 else -1)
  else if c = 85 then (if okRune (hexn 8 0 (L.drop 2)) then 10 else -1)
  else -1
theorem resc_after (a : ByteArray) (ha : a.size ≤ 262144) (p : Nat) (hp : p ≤ a.size) (L : List UInt8) (hL : rest a p = L) (c : Int) : Ev (fun k => quoinref26_escape.j1 k a p c false) (ab p (escTail c L)) := by
  have hp2 : p ≤ 262144 := Nat.le_trans hp ha
  have hadd : ∀ n, rest a (p + n) = L.drop n := fun n => by rw [rest_add, hL]
  have w2 := wrp2 (show p + 2 ≤ 1000000 by omega)
  have w4 : wrap64 ((p : Int) + 4) = ((p + 4 : Nat) : Int) := wrp (n := 4) (by omega)
  have hx0 := rhexn_ev' a ha (p + 2) 0 (by omega) (by omega)
  have hx2 := rhexn_ev' a ha (p + 2) 2 (by omega) (by omega)
  have hx4 := rhexn_ev' a ha (p + 2) 4 (by omega) (by omega)
  have hx8 := rhexn_ev' a ha (p + 2) 8 (by omega) (by omega)
  rw [hadd] at hx0 hx2 hx4 hx8
  have tail := fun m v hm => resc_tail p hp2 m v hm
  have two : ∀ r : Int, c = 120 → r = -1 → Ev (fun k => quoinref26_escape.j2 k a p c) r := by
    rintro r rfl rfl
    apply Ev.succ
    simp only [quoinref26_escape.j2, if_neg (show ¬ (120 : Int) = 117 by omega)]
    apply Ev.succ
    simp only [quoinref26_escape.j3, if_neg (show ¬ (120 : Int) = 85 by omega), w2]
    refine Ev.bind hx0 ?_
    simp only [if_true]
    exact Ev.now _
  apply Ev.succ
  simp only [quoinref26_escape.j1, Bool.false_eq_true, if_false, w2, w4]
  unfold escTail
  by_cases c6 : c = 120
  · simp only [if_pos c6]
    refine Ev.bind hx2 ?_
    by_cases d : hexn 2 0 (L.drop 2) ≥ 0
    · simp only [if_pos d]; exact Ev.now _
    · simp only [if_neg d]
      exact two _ c6 rfl
  simp only [if_neg c6]
  apply Ev.succ
  by_cases c7 : c = 117
  · simp only [quoinref26_escape.j2, if_pos c7]
    apply Ev.succ
    simp only [quoinref26_escape.j3, if_neg (show ¬ c = 85 by omega), w2]
    refine Ev.bind hx4 ?_
    simp only [if_neg (show ¬ (4 : Int) = 0 by omega)]
    exact tail 4 _ (by omega)
  simp only [quoinref26_escape.j2, if_neg c7]
  apply Ev.succ
  by_cases c8 : c = 85
  · simp only [quoinref26_escape.j3, if_pos c8, w2]
    exact Ev.bind hx8 (tail 8 _ (by omega))
  · simp only [quoinref26_escape.j3, if_neg c8, w2]
    refine Ev.bind hx0 ?_
    simp only [if_true]
    exact Ev.now _
theorem resc_ev (a : ByteArray) (ha : a.size ≤ 262144) (q : Int) (hq : 57 < q ∨ (0 < q ∧ q < 48)) (p : Nat) (hp : p ≤ a.size) (h92 : hd (rest a p) = 92) : Ev (fun k => quoinref26_escape.f k a p q) (ab p (escOf q (rest a p))) := by
  obtain ⟨L, hL⟩ : ∃ L, rest a p = L := ⟨_, rfl⟩
  have hp2 : p ≤ 262144 := Nat.le_trans hp ha
  have hadd : ∀ n, rest a (p + n) = L.drop n := fun n => by rw [rest_add, hL]
  have hat : ∀ n, quoinref26_at.f a ((p + n : Nat) : Int) = some (hd (L.drop n)) := fun n => by rw [rat_eq, hadd]
  have w1 := wrp1 (show p + 1 ≤ 1000000 by omega)
  have w2 := wrp2 (show p + 2 ≤ 1000000 by omega)
  have w3 : wrap64 ((p : Int) + 3) = ((p + 3 : Nat) : Int) := wrp (n := 3) (by omega)
  have w4 : wrap64 ((p : Int) + 4) = ((p + 4 : Nat) : Int) := wrp (n := 4) (by omega)
  have after := resc_after a ha p hp L hL
  rw [hL] at h92 ⊢
  unfold escOf
  rw [if_pos h92]
  unfold quoinref26_escape.f
  simp only [w1, hat, Option.bind_some]
  obtain ⟨c, hc⟩ : ∃ c, hd (L.drop 1) = c := ⟨_, rfl⟩
  rw [hc]
  have yes : ∀ c, Ev (fun k => quoinref26_escape.j0 k a p c true) (ab p 2) := by
    intro c
    apply Ev.succ
    simp only [quoinref26_escape.j0, if_true, w2]
    exact Ev.now _
  have rest' : ∀ r : Int, r = (if 48 ≤ c ∧ c ≤ 51 then (if dig (hd (L.drop 2)) 8 = true ∧ dig (hd (L.drop 3)) 8 = true then 4 else -1) else escTail c L) → Ev (fun k => quoinref26_escape.j0 k a p c false) (ab p r) := by
    rintro r rfl
    apply Ev.succ
    simp only [quoinref26_escape.j0, Bool.false_eq_true, if_false, w2, w3, hat, Option.bind_some]
    by_cases c4 : 48 ≤ c ∧ c ≤ 51
    · have et : escTail c L = -1 := by unfold escTail; rw [if_neg (by omega), if_neg (by omega), if_neg (by omega)]
      have af := after c
      rw [et] at af
      rw [if_pos c4]
      simp only [if_pos (show c ≥ 48 from c4.1), if_pos c4.2]
      refine Ev.bind (ris_hd _ 8 b8) ?_
      by_cases d1 : dig (hd (L.drop 2)) 8 = true
      · simp only [d1, if_true, true_and]
        refine Ev.bind (ris_hd _ 8 b8) ?_
        by_cases d2 : dig (hd (L.drop 3)) 8 = true
        · simp only [d2, if_true]
          apply Ev.succ
          simp only [quoinref26_escape.j1, if_true, w4]
          exact Ev.now _
        · rw [Bool.not_eq_true] at d2
          simp only [d2, Bool.false_eq_true, if_false]
          exact af
      · rw [Bool.not_eq_true] at d1
        simp only [d1, Bool.false_eq_true, if_false, false_and]
        exact af
    · rw [if_neg c4]
      by_cases c5 : c ≥ 48
      · simp only [if_pos c5, if_neg (show ¬ c ≤ 51 by omega)]
        exact after c
      · simp only [if_neg c5]
        exact after c
  have hs := simple_iff c
  by_cases s : c = 97 ∨ c = 98 ∨ c = 102 ∨ c = 110 ∨ c = 114 ∨ c = 116 ∨ c = 118 ∨ c = 92
  · rw [if_pos (.inr (hs.2 s))]
    by_cases t1 : c = 97
    · simp only [if_pos t1]; exact yes _
    simp only [if_neg t1]
    by_cases t2 : c = 98
    · simp only [if_pos t2]; exact yes _
    simp only [if_neg t2]
    by_cases t3 : c = 102
    · simp only [if_pos t3]; exact yes _
    simp only [if_neg t3]
    by_cases t4 : c = 110
    · simp only [if_pos t4]; exact yes _
    simp only [if_neg t4]
    by_cases t5 : c = 114
    · simp only [if_pos t5]; exact yes _
    simp only [if_neg t5]
    by_cases t6 : c = 116
    · simp only [if_pos t6]; exact yes _
    simp only [if_neg t6]
    by_cases t7 : c = 118
    · simp only [if_pos t7]; exact yes _
    simp only [if_neg t7]
    simp only [if_pos (show c = 92 by omega)]
    exact yes _
  · simp only [if_neg (show ¬ c = 97 by omega), if_neg (show ¬ c = 98 by omega), if_neg (show ¬ c = 102 by omega), if_neg (show ¬ c = 110 by omega), if_neg (show ¬ c = 114 by omega), if_neg (show ¬ c = 116 by omega), if_neg (show ¬ c = 118 by omega), if_neg (show ¬ c = 92 by omega)]
    by_cases cq : c = q
    · rw [if_pos (.inl cq), show (c == q) = true from beq_iff_eq.2 cq]
      exact yes _
    · rw [if_neg (fun h => h.elim cq (fun x => s (hs.1 x))), show (c == q) = false from beq_eq_false_iff_ne.2 cq]
      exact rest' _ rfl
theorem rone_ev (a : ByteArray) (ha : a.size ≤ 262144) (q : Int) (hq : 57 < q ∨ (0 < q ∧ q < 48)) (hq' : q ≤ 255) (p : Nat) (hp : p ≤ a.size) : Ev (fun k => quoinref26_one.f k a p q) (ab p (oneOf q (rest a p))) := by
  have hf := piece_fit (rest a p)
  have hlen := rest_len a p
  unfold quoinref26_one.f oneOf
  simp only [rat_eq, Option.bind_some, wr32 (show 0 ≤ q by omega) hq']
  by_cases c : hd (rest a p) = 92
  · simp only [if_pos c]
    exact Ev.bind (resc_ev a ha q hq p hp c) (Ev.now _)
  simp only [if_neg c]
  refine Ev.bind (rpiece_ev a ha p hp) ?_
  by_cases c1 : pw (rest a p) = 0
  · simp only [if_pos (show ((pw (rest a p) : Nat) : Int) = 0 by omega)]
    rw [if_pos (.inl c1)]; exact Ev.now _
  simp only [if_neg (show ¬ ((pw (rest a p) : Nat) : Int) = 0 by omega)]
  by_cases c2 : pr (rest a p) = 10
  · simp only [if_pos c2]
    rw [if_pos (.inr (.inl c2))]; exact Ev.now _
  simp only [if_neg c2]
  by_cases c3 : pr (rest a p) = q
  · simp only [if_pos c3]
    rw [if_pos (.inr (.inr c3))]; exact Ev.now _
  simp only [if_neg c3]
  rw [if_neg (by omega), ab_some (by omega), wrp (show p + pw (rest a p) ≤ 1000000 by omega), show (p : Int) + ((pw (rest a p) : Nat) : Int) = ((p + pw (rest a p) : Nat) : Int) by omega]
  exact Ev.now _
theorem rchar_ev (a : ByteArray) (ha : a.size ≤ 262144) (p : Nat) (hp : p ≤ a.size) : Ev (fun k => quoinref26_char.f k a p) (ab p (charOf (rest a p))) := by
  have hlen := rest_len a p
  unfold quoinref26_char.f charOf
  simp only [rat_eq, Option.bind_some, wrp1 (show p + 1 ≤ 1000000 by omega)]
  by_cases c : hd (rest a p) = 39
  · have l0 := hd_pos (L := rest a p) (by omega)
    simp only [if_pos c]
    refine Ev.bind (rone_ev a ha 39 (by omega) (by omega) (p + 1) (by omega)) ?_
    rw [rest_add]
    have hf := one_fit 39 (by omega) ((rest a p).drop 1)
    by_cases c1 : oneOf 39 ((rest a p).drop 1) < 0
    · simp only [if_pos c1]
      rw [show oneOf 39 ((rest a p).drop 1) = -1 by unfold Fit at hf; omega, ab_none]
      simp only [if_pos (show (-1 : Int) < 0 by omega)]
      exact Ev.now _
    · obtain ⟨n, hn⟩ : ∃ n : Nat, oneOf 39 ((rest a p).drop 1) = n := ⟨(oneOf 39 ((rest a p).drop 1)).toNat, by omega⟩
      rw [hn] at hf ⊢
      have hb : n + 1 ≤ (rest a p).length := by unfold Fit at hf; rw [List.length_drop] at hf; omega
      rw [ab_some (by omega), show ((p + 1 : Nat) : Int) + (n : Int) = ((p + (1 + n) : Nat) : Int) by omega]
      simp only [if_neg (show ¬ ((p + (1 + n) : Nat) : Int) < 0 by omega), if_neg (show ¬ (n : Int) < 0 by omega), rat_eq, rest_add a p (1 + n), Option.bind_some, Int.toNat_natCast, wrp1 (show p + (1 + n) + 1 ≤ 1000000 by omega)]
      by_cases c2 : hd ((rest a p).drop (1 + n)) = 39
      · simp only [if_pos c2]
        rw [ab_some (by omega), show (p : Int) + (2 + (n : Int)) = ((p + (1 + n) + 1 : Nat) : Int) by omega]
        exact Ev.now _
      · simp only [if_neg c2]
        exact Ev.now _
  · simp only [if_neg c]
    exact Ev.now _
theorem rstr_loop (a : ByteArray) (ha : a.size ≤ 262144) (n : Nat) : ∀ q : Nat, a.size - q ≤ n → q ≤ a.size → Ev (fun k => quoinref26_quoted.l0 k a q) (ab q (strEnd (rest a q))) := by
  induction n using Nat.strongRecOn with
  | _ n ih =>
    intro q h0 h2
    have hlen := rest_len a q
    have hf := one_fit 34 (by omega) (rest a q)
    unfold Fit at hf
    apply Ev.succ
    simp only [quoinref26_quoted.l0, rat_eq, Option.bind_some]
    rw [strEnd]
    by_cases c : hd (rest a q) = 34
    · simp only [if_pos c, wrp1 (show q + 1 ≤ 1000000 by omega)]
      exact Ev.now _
    simp only [if_neg c]
    refine Ev.bind (rone_ev a ha 34 (by omega) (by omega) q h2) ?_
    by_cases c1 : 0 < oneOf 34 (rest a q)
    · rw [dif_pos c1]
      obtain ⟨m, hm⟩ : ∃ m : Nat, oneOf 34 (rest a q) = m := ⟨(oneOf 34 (rest a q)).toNat, by omega⟩
      rw [hm] at c1 hf ⊢
      rw [ab_some (by omega), Int.toNat_natCast]
      simp only [if_neg (show ¬ (q : Int) + (m : Int) < 0 by omega)]
      have h := ih (a.size - (q + m)) (by omega) (q + m) (by omega) (by omega)
      rw [rest_add, ab_sh] at h
      exact h
    · rw [dif_neg c1, show oneOf 34 (rest a q) = -1 by omega, ab_none]
      simp only [if_pos (show (-1 : Int) < 0 by omega)]
      exact Ev.now _
theorem rraw_loop (a : ByteArray) (ha : a.size ≤ 262144) (n : Nat) : ∀ q : Nat, a.size - q ≤ n → q ≤ a.size → Ev (fun k => quoinref26_quoted.l1 k a q) (ab q (rawEnd (rest a q))) := by
  induction n using Nat.strongRecOn with
  | _ n ih =>
    intro q h0 h2
    have hlen := rest_len a q
    have hf := piece_fit (rest a q)
    apply Ev.succ
    simp only [quoinref26_quoted.l1, rat_eq, Option.bind_some]
    rw [rawEnd]
    by_cases c : hd (rest a q) = 96
    · simp only [if_pos c, wrp1 (show q + 1 ≤ 1000000 by omega)]
      exact Ev.now _
    simp only [if_neg c]
    refine Ev.bind (rpiece_ev a ha q h2) ?_
    by_cases c1 : 1 ≤ pw (rest a q)
    · rw [dif_pos c1]
      simp only [if_neg (show ¬ ((pw (rest a q) : Nat) : Int) = 0 by omega)]
      rw [wrp (show q + pw (rest a q) ≤ 1000000 by omega)]
      have h := ih (a.size - (q + pw (rest a q))) (by omega) (q + pw (rest a q)) (by omega) (by omega)
      rw [rest_add, ab_sh] at h
      exact h
    · rw [dif_neg c1]
      simp only [if_pos (show ((pw (rest a q) : Nat) : Int) = 0 by omega)]
      exact Ev.now _
theorem rquoted_ev (a : ByteArray) (ha : a.size ≤ 262144) (p : Nat) (hp : p ≤ a.size) : Ev (fun k => quoinref26_quoted.f k a p) (ab p (quotedOf (rest a p))) := by
  have hlen := rest_len a p
  unfold quoinref26_quoted.f quotedOf
  simp only [rat_eq, Option.bind_some, wrp1 (show p + 1 ≤ 1000000 by omega)]
  by_cases c : hd (rest a p) = 34
  · have l0 := hd_pos (L := rest a p) (by omega)
    simp only [if_pos c]
    have h := rstr_loop a ha _ (p + 1) (Nat.le_refl _) (by omega)
    rw [rest_add, ab_sh] at h
    exact h
  simp only [if_neg c]
  by_cases c : hd (rest a p) = 96
  · have l0 := hd_pos (L := rest a p) (by omega)
    simp only [if_pos c]
    have h := rraw_loop a ha _ (p + 1) (Nat.le_refl _) (by omega)
    rw [rest_add, ab_sh] at h
    exact h
  simp only [if_neg c]
  exact Ev.now _
def rb (s : Int × Int) (k r : Int) : Int × Int := if r > s.2 then (k, r) else s
def abp (p : Nat) (s : Int × Int) : Int × Int := (s.1, ab p s.2)
theorem ab_lt {p : Nat} {r m : Int} (hr : -1 ≤ r) (hm : -1 ≤ m) : (ab p r > ab p m) = (r > m) := by
  apply propext
  unfold ab
  split <;> split <;> omega
theorem best_eq (p : Nat) (s : Int × Int) (k r : Int) (hs : -1 ≤ s.2) (hr : -1 ≤ r) : quoinref26_best_with.f s.1 (ab p s.2) k (ab p r) = some (abp p (rb s k r)) := by
  unfold quoinref26_best_with.f rb abp
  simp only [ab_lt hr hs]
  split <;> rfl
theorem rb_ge {s : Int × Int} {k r : Int} (hs : -1 ≤ s.2) (hr : -1 ≤ r) : -1 ≤ (rb s k r).2 := by
  unfold rb; split
  · exact hr
  · exact hs
theorem writ_ge (L : List UInt8) : ∀ (l : List S69) (i : Int) (s : Int × Int), s.2 ≤ (writ L l i s).2
  | [], i, s => Int.le_refl _
  | t :: l, i, s => by
    simp only [writ]
    split
    · rename_i c
      have := writ_ge L l (i + 1) (8 + i, (t.f1.size : Int))
      dsimp only at this
      omega
    · exact writ_ge L l (i + 1) s
theorem writ_cons (L : List UInt8) (t : S69) (l : List S69) (i : Int) (s : Int × Int) : writ L (t :: l) i s = writ L l (i + 1) (if (t.f1.size : Int) > s.2 ∧ L.take t.f1.size = t.f1.data.toList then (8 + i, (t.f1.size : Int)) else s) := rfl
theorem writ_from (L : List UInt8) : ∀ (l : List S69) (i : Int) (s s' : Int × Int), s.2 ≤ s'.2 → ((writ L l i s).2 > s'.2 → writ L l i s' = writ L l i s) ∧ ((writ L l i s).2 ≤ s'.2 → writ L l i s' = s')
  | [], i, s, s', h => ⟨fun c => absurd c (by simp only [writ]; omega), fun _ => rfl⟩
  | t :: l, i, s, s', h => by
    rw [writ_cons, writ_cons]
    by_cases m : L.take t.f1.size = t.f1.data.toList
    · by_cases c : (t.f1.size : Int) > s'.2
      · rw [if_pos (show (t.f1.size : Int) > s.2 ∧ L.take t.f1.size = t.f1.data.toList from ⟨by omega, m⟩), if_pos (show (t.f1.size : Int) > s'.2 ∧ L.take t.f1.size = t.f1.data.toList from ⟨c, m⟩)]
        have := writ_ge L l (i + 1) (8 + i, (t.f1.size : Int))
        dsimp only at this
        exact ⟨fun _ => rfl, fun x => absurd x (by omega)⟩
      · rw [if_neg (show ¬ ((t.f1.size : Int) > s'.2 ∧ L.take t.f1.size = t.f1.data.toList) from fun x => c x.1)]
        by_cases d : (t.f1.size : Int) > s.2
        · rw [if_pos (show (t.f1.size : Int) > s.2 ∧ L.take t.f1.size = t.f1.data.toList from ⟨d, m⟩)]
          exact writ_from L l (i + 1) _ s' (show (t.f1.size : Int) ≤ s'.2 by omega)
        · rw [if_neg (show ¬ ((t.f1.size : Int) > s.2 ∧ L.take t.f1.size = t.f1.data.toList) from fun x => d x.1)]
          exact writ_from L l (i + 1) s s' h
    · rw [if_neg (show ¬ ((t.f1.size : Int) > s.2 ∧ L.take t.f1.size = t.f1.data.toList) from fun x => m x.2), if_neg (show ¬ ((t.f1.size : Int) > s'.2 ∧ L.take t.f1.size = t.f1.data.toList) from fun x => m x.2)]
      exact writ_from L l (i + 1) s s' h
theorem opers_two : ∀ i : Fin 48, (quoinref26_operators.l.getD (2 * i.1 + 1) ByteArray.empty) = (goscan_operators.l.getD i.1 z69).f1 := by decide +kernel
theorem try_word (a : ByteArray) (ha : a.size ≤ 262144) (p : Nat) (hp : p ≤ a.size) (t : ByteArray) (ht : t.size ≤ 1000) {α : Type} (f : Option α) (g : Option α) :
    (if wrap64 ((p : Int) + (t.size : Int)) ≤ (a.size : Int) then (if (0 : Int) ≤ (p : Int) then (if (p : Int) ≤ wrap64 ((p : Int) + (t.size : Int)) then (if (a.extract (p : Int).toNat (wrap64 ((p : Int) + (t.size : Int))).toNat).toList = t.toList then f else g) else none) else none) else g) = if (rest a p).take t.size = t.data.toList then f else g := by
  have hlen := rest_len a p
  rw [wrp (show p + t.size ≤ 1000000 by omega)]
  have es : t.data.toList.length = t.size := rfl
  by_cases c : p + t.size ≤ a.size
  · rw [if_pos (by omega), if_pos (by omega), if_pos (by omega)]
    simp only [Int.toNat_natCast]
    have e : (a.extract p (p + t.size)).toList = (rest a p).take t.size := by rw [bytes_list, extract_list2]
    simp only [e, bytes_list t]
  · rw [if_neg (by omega), if_neg]
    intro h
    have := congrArg List.length h
    rw [List.length_take] at this
    omega
theorem opers_small : goscan_operators.l.all (fun t => decide (1 ≤ t.f1.size ∧ t.f1.size ≤ 1000)) = true := by decide +kernel
theorem keys_small : quoinref26_keywords.l.all (fun t => decide (1 ≤ t.size ∧ t.size ≤ 1000)) = true := by decide +kernel
def KW : List S69 := quoinref26_keywords.l.map (fun t => ⟨t, t⟩)
theorem KW_len : KW.length = 25 := by decide +kernel
theorem ops_rd (i : Nat) (h : i < goscan_operators.l.length) : rdOf ByteArray.empty quoinref26_operators.l ((2 * i + 1 : Nat) : Int) = (goscan_operators.l[i]).f1 := by
  have h' : i < 48 := by rw [opers_len] at h; exact h
  have e := opers_two ⟨i, h'⟩
  unfold rdOf
  rw [Int.toNat_natCast]
  dsimp only at e
  rw [e, List.getD_eq_getElem?_getD, List.getElem?_eq_getElem h]
  rfl
theorem kw_rd (i : Nat) (h : i < KW.length) : rdOf ByteArray.empty quoinref26_keywords.l (i : Int) = (KW[i]).f1 := by
  have h' : i < quoinref26_keywords.l.length := by simpa [KW] using h
  rw [rdOf_at _ _ h']
  have e : ∀ (l : List ByteArray) (h1 : i < l.length) (h2 : i < (l.map (fun t => (⟨t, t⟩ : S69))).length), l[i] = ((l.map (fun t => (⟨t, t⟩ : S69)))[i]).f1 := by
    intro l h1 h2
    rw [List.getElem_map]
  exact e _ h' h
def tailOf (L : List UInt8) (s : Int × Int) : Int × Int := rb (rb (rb (rb (rb (rb s 2 (identOf L)) 3 (wholeOf L)) 4 (brokenOf L)) 5 (imagOf L)) 6 (charOf L)) 7 (quotedOf L)
theorem tail_ev (X Y : List ByteArray) (a : ByteArray) (ha : a.size ≤ 262144) (p : Nat) (hp : p ≤ a.size) (s : Int × Int) (hs : -1 ≤ s.2) (x : Int) (hx : ¬ x < ((Y.length : Nat) : Int)) : Ev (fun k => quoinref26_match.l1 k a p X Y x s.1 (ab p s.2)) (abp p (tailOf (rest a p) s)) := by
  have hp2 : p ≤ 262144 := Nat.le_trans hp ha
  obtain ⟨L, hL⟩ : ∃ L, rest a p = L := ⟨_, rfl⟩
  have h1 := rword_ev a ha p hp
  have h2 := rwhole_ev a ha p hp2
  have h3 := rfloat_ev a ha p hp
  have h4 := rimag_ev a ha p hp
  have h5 := rchar_ev a ha p hp
  have h6 := rquoted_ev a ha p hp
  rw [hL] at h1 h2 h3 h4 h5 h6 ⊢
  have g1 := fit_ge (ident_fit L)
  have g2 := fit_ge (whole_fit L)
  have g3 := fit_ge (broken_fit L)
  have g4 := fit_ge (imag_fit L)
  have g5 := fit_ge (char_fit L)
  have g6 := fit_ge (quoted_fit L)
  have s1 := rb_ge (s := s) (k := 2) hs g1
  have s2 := rb_ge (s := rb s 2 (identOf L)) (k := 3) s1 g2
  have s3 := rb_ge (k := 4) s2 g3
  have s4 := rb_ge (k := 5) s3 g4
  have s5 := rb_ge (k := 6) s4 g5
  apply Ev.succ
  simp only [quoinref26_match.l1, if_neg hx]
  refine Ev.bind h1 ?_
  simp only [best_eq p s 2 _ hs g1, Option.bind_some]
  refine Ev.bind h2 ?_
  simp only [abp, best_eq p _ 3 _ s1 g2, Option.bind_some]
  refine Ev.bind h3 ?_
  simp only [abp, best_eq p _ 4 _ s2 g3, Option.bind_some]
  refine Ev.bind h4 ?_
  simp only [abp, best_eq p _ 5 _ s3 g4, Option.bind_some]
  refine Ev.bind h5 ?_
  simp only [abp, best_eq p _ 6 _ s4 g5, Option.bind_some]
  refine Ev.bind h6 ?_
  simp only [abp, best_eq p _ 7 _ s5 g6, Option.bind_some]
  exact Ev.now _
theorem key_at (X Y : List ByteArray) (a : ByteArray) (ha : a.size ≤ 262144) (p : Nat) (hp : p ≤ a.size) (i : Nat) (hi : i < Y.length) (t : ByteArray) (hr : rdOf ByteArray.empty Y (i : Int) = t) (ht : t.size ≤ 1000) (c e : Int) (k : Nat) :
    quoinref26_match.l1 (k + 1) a p X Y i c e = if (rest a p).take t.size = t.data.toList then ((quoinref26_best_with.f c e (wrap64 ((wrap64 (8 + (wrap64 ((X.length : Int) / 2)))) + (i : Int))) (wrap64 ((p : Int) + (t.size : Int)))).bind fun bt => quoinref26_match.l1 k a p X Y (wrap64 ((i : Int) + 1)) bt.1 bt.2) else quoinref26_match.l1 k a p X Y (wrap64 ((i : Int) + 1)) c e := by
  rw [quoinref26_match.l1, if_pos (show (i : Int) < (Y.length : Int) by omega), if_pos (show (0 : Int) ≤ (i : Int) by omega), hr]
  exact try_word a ha p hp t ht _ _
theorem oper_at (X Y : List ByteArray) (a : ByteArray) (ha : a.size ≤ 262144) (p : Nat) (hp : p ≤ a.size) (i : Nat) (hX : X.length ≤ 1000) (hi : i + 1 < X.length) (t : ByteArray) (hr : rdOf ByteArray.empty X ((i + 1 : Nat) : Int) = t) (ht : t.size ≤ 1000) (c e : Int) (k : Nat) :
    quoinref26_match.l0 (k + 1) a p X Y i c e = if (rest a p).take t.size = t.data.toList then ((quoinref26_best_with.f c e (wrap64 (8 + (wrap64 (Int.tdiv (i : Int) 2)))) (wrap64 ((p : Int) + (t.size : Int)))).bind fun bt => quoinref26_match.l0 k a p X Y (wrap64 ((i : Int) + 2)) bt.1 bt.2) else quoinref26_match.l0 k a p X Y (wrap64 ((i : Int) + 2)) c e := by
  have w : wrap64 ((i : Int) + 1) = ((i + 1 : Nat) : Int) := wrp1 (by omega)
  rw [quoinref26_match.l0, if_pos (show (i : Int) < (X.length : Int) by omega), w, if_pos (show (0 : Int) ≤ ((i + 1 : Nat) : Int) by omega), if_pos (show ((i + 1 : Nat) : Int) < (X.length : Int) by omega), hr]
  exact try_word a ha p hp t ht _ _
theorem word_fit (L : List UInt8) (t : ByteArray) (m : L.take t.size = t.data.toList) : t.size ≤ L.length := by
  have := congrArg List.length m
  rw [List.length_take] at this
  have e : t.data.toList.length = t.size := rfl
  omega
theorem best_word (a : ByteArray) (ha : a.size ≤ 262144) (p : Nat) (hp : p ≤ a.size) (t : ByteArray) (m : (rest a p).take t.size = t.data.toList) (s : Int × Int) (hs : -1 ≤ s.2) (x k : Int) (hk : wrap64 x = k) : quoinref26_best_with.f s.1 (ab p s.2) (wrap64 x) (wrap64 ((p : Int) + (t.size : Int))) = some (abp p (rb s k (t.size : Int))) := by
  have hlen := rest_len a p
  have := word_fit _ t m
  rw [hk, wrp (show p + t.size ≤ 1000000 by omega), show ((p + t.size : Nat) : Int) = ab p (t.size : Int) by rw [ab_some (by omega)]; omega]
  exact best_eq p s k _ hs (by omega)
theorem rb_word {L : List UInt8} {t : ByteArray} (m : L.take t.size = t.data.toList) (s : Int × Int) (k : Int) : rb s k (t.size : Int) = (if (t.size : Int) > s.2 ∧ L.take t.size = t.data.toList then (k, (t.size : Int)) else s) := by
  unfold rb
  by_cases c : (t.size : Int) > s.2
  · rw [if_pos c, if_pos ⟨c, m⟩]
  · rw [if_neg c, if_neg (fun x => c x.1)]
theorem word_ge {L : List UInt8} {t : ByteArray} {s : Int × Int} {k : Int} (hs : -1 ≤ s.2) : -1 ≤ (if (t.size : Int) > s.2 ∧ L.take t.size = t.data.toList then (k, (t.size : Int)) else s).2 := by
  split
  · dsimp only; omega
  · exact hs
theorem keys_loop (X Y : List ByteArray) (W : List S69) (hX : X.length = 96) (hY : Y.length = 25) (hW : W.length = 25) (rY : ∀ i (h : i < W.length), rdOf ByteArray.empty Y (i : Int) = (W[i]).f1) (sW : ∀ t ∈ W, 1 ≤ t.f1.size ∧ t.f1.size ≤ 1000) (a : ByteArray) (ha : a.size ≤ 262144) (p : Nat) (hp : p ≤ a.size) (n : Nat) : ∀ (i : Nat) (s : Int × Int), i + n = 25 → -1 ≤ s.2 → Ev (fun k => quoinref26_match.l1 k a p X Y i s.1 (ab p s.2)) (abp p (tailOf (rest a p) (writ (rest a p) (W.drop i) (48 + (i : Int)) s))) := by
  induction n with
  | zero =>
    intro i s hi hs
    rw [List.drop_eq_nil_of_le (by omega)]
    exact tail_ev X Y a ha p hp s hs i (by omega)
  | succ n ih =>
    intro i s hi hs
    have hil : i < W.length := by omega
    have hsz := sW _ (List.getElem_mem hil)
    have hr := rY i hil
    rw [List.drop_eq_getElem_cons hil, writ_cons]
    obtain ⟨t, et⟩ : ∃ t, (W[i]).f1 = t := ⟨_, rfl⟩
    rw [et] at hsz hr ⊢
    refine Ev.step (fun k => key_at X Y a ha p hp i (by omega) t hr hsz.2 _ _ k) ?_
    have w1 : wrap64 ((i : Int) + 1) = ((i + 1 : Nat) : Int) := wrp1 (by omega)
    rw [w1]
    have h8 : wrap64 ((wrap64 (8 + (wrap64 ((X.length : Int) / 2)))) + (i : Int)) = 8 + (48 + (i : Int)) := by
      rw [hX, show wrap64 (8 + wrap64 (((96 : Nat) : Int) / 2)) = 56 by decide +kernel, wr (by omega) (by omega)]; omega
    have e48 : (48 : Int) + ((i + 1 : Nat) : Int) = 48 + (i : Int) + 1 := by omega
    by_cases m : (rest a p).take t.size = t.data.toList
    · refine Ev.congr (fun k => if_pos m) (Ev.bind (Ev.const (best_word a ha p hp t m s hs _ _ h8)) ?_)
      rw [rb_word m]
      have := ih (i + 1) _ (by omega) (word_ge (L := rest a p) (t := t) (k := 8 + (48 + (i : Int))) hs)
      rw [e48] at this
      exact this
    · rw [if_neg (fun x => m x.2)]
      have := ih (i + 1) s (by omega) hs
      rw [e48] at this
      refine Ev.congr (fun k => if_neg m) ?_
      exact this
theorem opers_loop (X Y : List ByteArray) (G W : List S69) (hX : X.length = 96) (hY : Y.length = 25) (hG : G.length = 48) (hW : W.length = 25) (rX : ∀ i (h : i < G.length), rdOf ByteArray.empty X ((2 * i + 1 : Nat) : Int) = (G[i]).f1) (rY : ∀ i (h : i < W.length), rdOf ByteArray.empty Y (i : Int) = (W[i]).f1) (sG : ∀ t ∈ G, 1 ≤ t.f1.size ∧ t.f1.size ≤ 1000) (sW : ∀ t ∈ W, 1 ≤ t.f1.size ∧ t.f1.size ≤ 1000) (a : ByteArray) (ha : a.size ≤ 262144) (p : Nat) (hp : p ≤ a.size) (n : Nat) : ∀ (i : Nat) (s : Int × Int), i + n = 48 → -1 ≤ s.2 → Ev (fun k => quoinref26_match.l0 k a p X Y ((2 * i : Nat) : Int) s.1 (ab p s.2)) (abp p (tailOf (rest a p) (writ (rest a p) W 48 (writ (rest a p) (G.drop i) (i : Int) s)))) := by
  induction n with
  | zero =>
    intro i s hi hs
    rw [List.drop_eq_nil_of_le (by omega)]
    have h := keys_loop X Y W hX hY hW rY sW a ha p hp 25 0 s (by omega) hs
    refine Ev.step (fun k => ?_) h
    rw [quoinref26_match.l0, if_neg (by omega)]
    rfl
  | succ n ih =>
    intro i s hi hs
    have hil : i < G.length := by omega
    have hsz := sG _ (List.getElem_mem hil)
    have hr := rX i hil
    rw [List.drop_eq_getElem_cons hil, writ_cons]
    obtain ⟨t, et⟩ : ∃ t, (G[i]).f1 = t := ⟨_, rfl⟩
    rw [et] at hsz hr ⊢
    refine Ev.step (fun k => oper_at X Y a ha p hp (2 * i) (by omega) (by omega) t hr hsz.2 _ _ k) ?_
    have w1 : wrap64 (((2 * i : Nat) : Int) + 2) = ((2 * (i + 1) : Nat) : Int) := by rw [wrp2 (by omega)]; omega
    rw [w1]
    have h8 : wrap64 (8 + (wrap64 (Int.tdiv ((2 * i : Nat) : Int) 2))) = 8 + (i : Int) := by
      rw [Int.tdiv_eq_ediv_of_nonneg (by omega), show ((2 * i : Nat) : Int) / 2 = (i : Int) by omega, wr (x := (i : Int)) (by omega) (by omega), wr (by omega) (by omega)]
    have e48 : ((i + 1 : Nat) : Int) = (i : Int) + 1 := by omega
    by_cases m : (rest a p).take t.size = t.data.toList
    · refine Ev.congr (fun k => if_pos m) (Ev.bind (Ev.const (best_word a ha p hp t m s hs _ _ h8)) ?_)
      rw [rb_word m]
      have := ih (i + 1) _ (by omega) (word_ge (L := rest a p) (t := t) (k := 8 + (i : Int)) hs)
      rw [e48] at this
      exact this
    · rw [if_neg (fun x => m x.2)]
      have := ih (i + 1) s (by omega) hs
      rw [e48] at this
      refine Ev.congr (fun k => if_neg m) ?_
      exact this
def headOf (L : List UInt8) : Int × Int := if hd L = 10 then rb (0, blankOf L) 81 1 else (0, blankOf L)
def head4 (L : List UInt8) : Int × Int := rb (rb (headOf L) 82 (remarkOf L)) 83 (commentOf L)
def bestOf (L : List UInt8) : Int × Int := tailOf L (writ L KW 48 (writ L goscan_operators.l 0 (head4 L)))
theorem sizes_ops : ∀ t ∈ goscan_operators.l, 1 ≤ t.f1.size ∧ t.f1.size ≤ 1000 := fun t h => of_decide_eq_true (List.all_eq_true.1 opers_small t h)
theorem sizes_kw : ∀ t ∈ KW, 1 ≤ t.f1.size ∧ t.f1.size ≤ 1000 := by
  intro t h
  obtain ⟨x, hx, rfl⟩ := List.mem_map.1 h
  exact of_decide_eq_true (List.all_eq_true.1 keys_small x hx)
theorem match_j0 (a : ByteArray) (ha : a.size ≤ 262144) (p : Nat) (hp : p ≤ a.size) (s : Int × Int) (hs : -1 ≤ s.2) : Ev (fun k => quoinref26_match.j0 k a p quoinref26_operators.l quoinref26_keywords.l 81 s.1 (ab p s.2)) (abp p (tailOf (rest a p) (writ (rest a p) KW 48 (writ (rest a p) goscan_operators.l 0 (rb (rb s 82 (remarkOf (rest a p))) 83 (commentOf (rest a p))))))) := by
  have h1 := rremark_ev a ha p hp
  have h2 := rcomment_ev a ha p hp
  have g1 := fit_ge (remark_fit (rest a p))
  have g2 := fit_ge (comment_fit (rest a p))
  have s1 := rb_ge (s := s) (k := 82) hs g1
  have s2 := rb_ge (k := 83) s1 g2
  have h := opers_loop quoinref26_operators.l quoinref26_keywords.l goscan_operators.l KW ops_len keys_len opers_len KW_len ops_rd kw_rd sizes_ops sizes_kw a ha p hp 48 0 _ (by omega) s2
  apply Ev.succ
  have w1 : wrap64 (81 + 1) = 82 := by decide +kernel
  have w2 : wrap64 (81 + 2) = 83 := by decide +kernel
  simp only [quoinref26_match.j0]
  rw [w1, w2]
  refine Ev.bind h1 (Ev.bind (Ev.const (best_eq p s _ _ hs g1)) (Ev.bind h2 (Ev.bind (Ev.const (best_eq p (rb s 82 (remarkOf (rest a p))) _ _ s1 g2)) ?_)))
  exact h
theorem match_ev (a : ByteArray) (ha : a.size ≤ 262144) (p : Nat) (hp : p ≤ a.size) : Ev (fun k => quoinref26_match.f k a p) (abp p (bestOf (rest a p))) := by
  have hb := rblank_ev a ha p hp
  have g := fit_ge (blank_fit (rest a p))
  unfold quoinref26_match.f
  have elast : wrap64 (wrap64 (8 + wrap64 ((quoinref26_operators.l.length : Int) / 2)) + (quoinref26_keywords.l.length : Int)) = 81 := by rw [ops_len, keys_len]; decide +kernel
  refine Ev.bind (Ev.const ops_eq) (Ev.bind (Ev.const keys_eq) (Ev.bind hb (Ev.bind (Ev.const (rat_eq a p)) ?_)))
  rw [elast]
  unfold bestOf head4 headOf
  by_cases c : hd (rest a p) = 10
  · rw [if_pos c]
    refine Ev.congr (fun k => if_pos c) ?_
    have h1 : 1 ≤ (rest a p).length := hd_pos (by omega)
    have hl := rest_len a p
    have e : wrap64 ((p : Int) + 1) = ab p 1 := by rw [wrp1 (by omega), ab_some (by omega)]; omega
    rw [e]
    refine Ev.bind (Ev.const (best_eq p (0, blankOf (rest a p)) 81 1 g (by omega))) ?_
    exact match_j0 a ha p hp _ (rb_ge (s := (0, blankOf (rest a p))) g (by omega))
  · rw [if_neg c]
    refine Ev.congr (fun k => if_neg c) ?_
    exact match_j0 a ha p hp (0, blankOf (rest a p)) g
theorem take_hd (L : List UInt8) (n : Nat) (hn : 1 ≤ n) : hd (L.take n) = hd L := by
  cases L with
  | nil => simp
  | cons x l =>
    cases n with
    | zero => omega
    | succ n => rfl
theorem take_hd2 (L : List UInt8) (n : Nat) (hn : 2 ≤ n) : hd ((L.take n).drop 1) = hd (L.drop 1) := by
  rw [List.drop_take]; exact take_hd _ _ (by omega)
def opb (c : Int) : Bool := decide (33 ≤ c ∧ c ≤ 126 ∧ (c < 48 ∨ 57 < c) ∧ (c < 97 ∨ 122 < c) ∧ (c < 65 ∨ 90 < c) ∧ c ≠ 95 ∧ c ≠ 39 ∧ c ≠ 34 ∧ c ≠ 96)
theorem ops_first : goscan_operators.l.all (fun t => opb (hd t.f1.data.toList) && (decide (hd t.f1.data.toList ≠ 46) || decide (t.f1.size = 1) || decide (hd (t.f1.data.toList.drop 1) = 46 ∧ 2 ≤ t.f1.size))) = true := by decide +kernel
theorem kws_first : KW.all (fun t => t.f1.data.toList.all (fun x => decide (97 ≤ x.toNat ∧ x.toNat ≤ 122))) = true := by decide +kernel
theorem op_hd {L : List UInt8} {t : S69} (ht : t ∈ goscan_operators.l) (m : L.take t.f1.size = t.f1.data.toList) : opb (hd L) = true ∧ (hd L = 46 → dig (hd (L.drop 1)) 10 = true → t.f1.size = 1) := by
  have hs := sizes_ops t ht
  have h := List.all_eq_true.1 ops_first t ht
  simp only [Bool.and_eq_true, Bool.or_eq_true, decide_eq_true_eq] at h
  rw [← m, take_hd _ _ hs.1] at h
  refine ⟨h.1, fun h46 hdg => ?_⟩
  rcases h.2 with (h2 | h2) | h2
  · exact absurd h46 h2
  · exact h2
  · rw [take_hd2 _ _ h2.2] at h2
    rw [h2.1] at hdg
    exact absurd hdg (by decide)
theorem kw_bytes {L : List UInt8} {t : S69} (ht : t ∈ KW) (m : L.take t.f1.size = t.f1.data.toList) : ∀ x ∈ L.take t.f1.size, 97 ≤ x.toNat ∧ x.toNat ≤ 122 := by
  intro x hx
  rw [m] at hx
  exact of_decide_eq_true (List.all_eq_true.1 (List.all_eq_true.1 kws_first t ht) x hx)
theorem kw_hd {L : List UInt8} {t : S69} (ht : t ∈ KW) (m : L.take t.f1.size = t.f1.data.toList) : 97 ≤ hd L ∧ hd L ≤ 122 := by
  have hs := sizes_kw t ht
  have hf := word_fit L t.f1 m
  have hb := kw_bytes ht m
  cases L with
  | nil => rw [List.length_nil] at hf; omega
  | cons x l =>
    obtain ⟨n, hn⟩ : ∃ n, t.f1.size = n + 1 := ⟨t.f1.size - 1, by omega⟩
    have := hb x (by rw [hn, List.take_succ_cons]; exact List.mem_cons_self)
    rw [hd_cons]
    omega
theorem dig_no {c : Int} (h : c < 48 ∨ 57 < c) : dig c 10 = false := by
  unfold dig
  simp only [Bool.or_eq_false_iff, Bool.and_eq_false_iff, decide_eq_false_iff_not]
  omega
theorem number_no {L : List UInt8} (h : hd L < 48 ∨ 57 < hd L) : number 10 L = -1 := by unfold number; rw [dig_no h]; rfl
theorem nm_no {L : List UInt8} (h : hd L < 48 ∨ 57 < hd L) : nm 10 L = 0 := by unfold nm; rw [dig_no h]; rfl
theorem letter_op {L : List UInt8} (h : opb (hd L) = true) : letter L = 0 := by
  have h := of_decide_eq_true h
  have := pr_ascii L (by omega) (by omega)
  unfold letter
  rw [if_neg (by omega)]
theorem letter_low {L : List UInt8} (h : 97 ≤ hd L ∧ hd L ≤ 122) : letter L = 1 := by
  have := pr_ascii L (by omega) (by omega)
  unfold letter
  rw [if_pos (by omega)]
  exact this.2
theorem whole_no {L : List UInt8} (h : hd L < 48 ∨ 57 < hd L) : wholeOf L = -1 := by
  unfold wholeOf
  rw [if_neg (by omega), number_no h]
theorem hex_no {L : List UInt8} (h : hd L < 48 ∨ 57 < hd L) : hexOf L = -1 := by
  unfold hexOf
  rw [if_neg (by omega)]
theorem char_no {L : List UInt8} (h : hd L ≠ 39) : charOf L = -1 := by
  unfold charOf
  rw [if_neg h]
theorem quoted_no {L : List UInt8} (h : hd L ≠ 34) (h2 : hd L ≠ 96) : quotedOf L = -1 := by
  unfold quotedOf
  rw [if_neg h, if_neg h2]
theorem broken_no {L : List UInt8} (h : hd L < 48 ∨ 57 < hd L) (h2 : hd L = 46 → dig (hd (L.drop 1)) 10 = false) : brokenOf L = -1 := by
  have e : dotOf L = -1 := by
    unfold dotOf
    rw [nm_no h, if_neg (by omega)]
    by_cases c : hd L = 46
    · rw [if_pos c]
      unfold number
      rw [h2 c]
      rfl
    · rw [if_neg c]
  unfold brokenOf
  rw [e, number_no h, hex_no h]
  rfl
theorem broken_dot {L : List UInt8} (h : hd L = 46) (h2 : dig (hd (L.drop 1)) 10 = true) : 2 ≤ brokenOf L := by
  have := more_pos h2
  have e : 2 ≤ dotOf L := by
    unfold dotOf
    rw [nm_no (by omega), if_neg (by omega), if_pos h]
    unfold number sh
    rw [if_pos h2]
    split <;> omega
  unfold brokenOf
  omega
theorem imag_of {L : List UInt8} (h : hd L < 48 ∨ 57 < hd L) : imagOf L = max (-1) (withI L (brokenOf L)) := by
  have : withI L (-1) = -1 := rfl
  unfold imagOf
  rw [number_no h, whole_no h, this]
  rfl
theorem op_tail {L : List UInt8} {t : S69} (ht : t ∈ goscan_operators.l) (m : L.take t.f1.size = t.f1.data.toList) : identOf L = -1 ∧ wholeOf L = -1 ∧ (brokenOf L = -1 ∨ (t.f1.size : Int) < brokenOf L) ∧ (imagOf L = -1 ∨ (t.f1.size : Int) < imagOf L) ∧ charOf L = -1 ∧ quotedOf L = -1 := by
  obtain ⟨ho, hdot⟩ := op_hd ht m
  have h := of_decide_eq_true ho
  have hn : hd L < 48 ∨ 57 < hd L := h.2.2.1
  refine ⟨by unfold identOf; rw [if_pos (letter_op ho)], whole_no hn, ?_, ?_, char_no (by omega), quoted_no (by omega) (by omega)⟩
  · by_cases c : hd L = 46 ∧ dig (hd (L.drop 1)) 10 = true
    · have h1 := hdot c.1 c.2
      have h2 := broken_dot c.1 c.2
      right; omega
    · left
      exact broken_no hn (fun c1 => by simpa using fun c2 => c ⟨c1, c2⟩)
  · rw [imag_of hn]
    by_cases c : hd L = 46 ∧ dig (hd (L.drop 1)) 10 = true
    · have h1 := hdot c.1 c.2
      have h2 := broken_dot c.1 c.2
      unfold withI
      split
      · right; omega
      · left; rfl
    · left
      rw [broken_no hn (fun c1 => by simpa using fun c2 => c ⟨c1, c2⟩)]
      rfl
theorem low_tail {L : List UInt8} (h : 97 ≤ hd L ∧ hd L ≤ 122) : head4 L = (0, -1) ∧ wholeOf L = -1 ∧ brokenOf L = -1 ∧ imagOf L = -1 ∧ charOf L = -1 ∧ quotedOf L = -1 := by
  have hb : brokenOf L = -1 := broken_no (by omega) (fun c => by omega)
  refine ⟨?_, whole_no (by omega), hb, ?_, char_no (by omega), quoted_no (by omega) (by omega)⟩
  · have e1 : blankOf L = -1 := by
      unfold blankOf
      rw [blanks, dif_neg]
      · rfl
      · unfold blank
        simp only [decide_eq_true_eq]
        omega
    have e3 : remarkOf L = -1 := by unfold remarkOf; rw [if_neg (by omega)]
    have e4 : commentOf L = -1 := by unfold commentOf; rw [if_neg (by omega)]
    unfold head4 headOf
    rw [e1, e3, e4, if_neg (by omega)]
    rfl
  · rw [imag_of (by omega), hb]; rfl
theorem word_low (n : Nat) : ∀ L : List UInt8, n ≤ L.length → (∀ x ∈ L.take n, 97 ≤ x.toNat ∧ x.toNat ≤ 122) → n ≤ word L := by
  induction n with
  | zero => intro L _ _; omega
  | succ n ih =>
    intro L hl hx
    cases L with
    | nil => simp at hl
    | cons x l =>
      have h0 := hx x (by rw [List.take_succ_cons]; exact List.mem_cons_self)
      have h1 := ih l (by simpa using hl) (fun y hy => hx y (by rw [List.take_succ_cons]; exact List.mem_cons_of_mem _ hy))
      have hh : 97 ≤ hd (x :: l) ∧ hd (x :: l) ≤ 122 := by rw [hd_cons]; omega
      have hl1 := letter_low hh
      rw [word, dif_neg (by rw [dig_no (by omega)]; decide), dif_pos (by omega), hl1]
      rw [List.drop_one, List.tail_cons]
      omega
theorem ident_low {L : List UInt8} {t : S69} (ht : t ∈ KW) (m : L.take t.f1.size = t.f1.data.toList) : (t.f1.size : Int) ≤ identOf L := by
  have hs := sizes_kw t ht
  have hf := word_fit L t.f1 m
  have hb := kw_bytes ht m
  have hl := letter_low (kw_hd ht m)
  unfold identOf
  rw [if_neg (by omega), hl]
  have := word_low (t.f1.size - 1) (L.drop 1) (by rw [List.length_drop]; omega) (fun x hx => hb x (by
    rw [← List.drop_take] at hx
    exact List.mem_of_mem_drop hx))
  omega
theorem writ_spec (L : List UInt8) : ∀ (l : List S69) (i : Int) (s : Int × Int), (writ L l i s = s ∨ ∃ (j : Nat) (h : j < l.length), writ L l i s = (8 + (i + (j : Int)), ((l[j]).f1.size : Int)) ∧ L.take (l[j]).f1.size = (l[j]).f1.data.toList) ∧ (∀ t ∈ l, L.take t.f1.size = t.f1.data.toList → (t.f1.size : Int) ≤ (writ L l i s).2)
  | [], i, s => ⟨.inl rfl, fun t ht => by simp at ht⟩
  | t :: l, i, s => by
    rw [writ_cons]
    obtain ⟨h1, h2⟩ := writ_spec L l (i + 1) (if (t.f1.size : Int) > s.2 ∧ L.take t.f1.size = t.f1.data.toList then (8 + i, (t.f1.size : Int)) else s)
    have hge := writ_ge L l (i + 1) (if (t.f1.size : Int) > s.2 ∧ L.take t.f1.size = t.f1.data.toList then (8 + i, (t.f1.size : Int)) else s)
    constructor
    · rcases h1 with h1 | ⟨j, hj, h1, h3⟩
      · by_cases c : (t.f1.size : Int) > s.2 ∧ L.take t.f1.size = t.f1.data.toList
        · right
          refine ⟨0, by simp, ?_, ?_⟩
          · rw [h1, if_pos c]; simp
          · simpa using c.2
        · left; rw [h1, if_neg c]
      · right
        refine ⟨j + 1, by simpa using hj, ?_, ?_⟩
        · rw [h1]
          simp only [List.getElem_cons_succ, Prod.mk.injEq, and_true]
          omega
        · simpa using h3
    · intro u hu m
      rcases List.mem_cons.1 hu with rfl | hu
      · by_cases c : (u.f1.size : Int) > s.2
        · rw [if_pos ⟨c, m⟩] at hge ⊢
          exact hge
        · rw [if_neg (fun x => c x.1)] at hge ⊢
          omega
      · exact h2 u hu m
theorem place_mem (s : ByteArray) : ∀ (l : List ByteArray) (i j : Nat), place s l i = some j → ∃ x ∈ l, x.toList = s.toList
  | [], i, j, h => by simp [place] at h
  | x :: l, i, j, h => by
    unfold place at h
    split at h
    · exact ⟨x, List.mem_cons_self, by assumption⟩
    · obtain ⟨y, h1, h2⟩ := place_mem s l (i + 1) j h
      exact ⟨y, List.mem_cons_of_mem _ h1, h2⟩
theorem TX_mem : TX.all (fun x => goscan_operators.l.any (fun t => t.f1.data.toList == x.data.toList) || KW.any (fun t => t.f1.data.toList == x.data.toList)) = true := by decide +kernel
theorem kw_place : ∀ j : Fin 25, ((KW[j.1]?).map fun t => place t.f1 TX 8) = some (some (56 + j.1)) := by decide +kernel
theorem kindOf_no {L : List UInt8} {n : Int} (hn : 0 ≤ n) (hl : n ≤ (L.length : Int)) (h : (kindOf (textOfN L n)).2 = true) : (∃ t ∈ goscan_operators.l, L.take t.f1.size = t.f1.data.toList) ∨ (∃ t ∈ KW, L.take t.f1.size = t.f1.data.toList ∧ (t.f1.size : Int) = n) := by
  unfold kindOf at h
  cases hp : place (textOfN L n) TX 8 with
  | none => rw [hp] at h; simp at h
  | some j =>
    obtain ⟨x, hx, he⟩ := place_mem _ _ _ _ hp
    have e2 : x.data.toList = L.take n.toNat := by
      rw [bytes_list, bytes_list] at he
      rw [he]
      unfold textOfN
      simp
    have key : ∀ t : S69, t.f1.data.toList = x.data.toList → L.take t.f1.size = t.f1.data.toList ∧ (t.f1.size : Int) = n := by
      intro t ht
      have hsz : t.f1.size = n.toNat := by
        have e : t.f1.data.toList.length = t.f1.size := rfl
        rw [← e, ht, e2, List.length_take]
        omega
      exact ⟨by rw [hsz, ht, e2], by omega⟩
    have hm := List.all_eq_true.1 TX_mem x hx
    rw [Bool.or_eq_true] at hm
    rcases hm with hm | hm
    · obtain ⟨t, ht, e⟩ := List.any_eq_true.1 hm
      exact .inl ⟨t, ht, (key t (by simpa using e)).1⟩
    · obtain ⟨t, ht, e⟩ := List.any_eq_true.1 hm
      exact .inr ⟨t, ht, key t (by simpa using e)⟩
theorem kindOf_yes {L : List UInt8} (j : Nat) (hj : j < KW.length) (u : S69) (hu : KW[j] = u) (m : L.take u.f1.size = u.f1.data.toList) : kindOf (textOfN L (u.f1.size : Int)) = (56 + (j : Int), true) := by
  have e : textOfN L (u.f1.size : Int) = u.f1 := by
    unfold textOfN
    rw [Int.toNat_natCast, m]
  rw [e]
  have h := kw_place ⟨j, by rw [KW_len] at hj; exact hj⟩
  dsimp only at h
  rw [List.getElem?_eq_getElem hj, Option.map_some, Option.some.injEq, hu] at h
  unfold kindOf
  rw [h]
  simp
def rbs : Int × Int → List (Int × Int) → Int × Int
  | s, [] => s
  | s, x :: l => rbs (rb s x.1 x.2) l
def tail6 (L : List UInt8) : List (Int × Int) := [(2, identOf L), (3, wholeOf L), (4, brokenOf L), (5, imagOf L), (6, charOf L), (7, quotedOf L)]
def full (L : List UInt8) : List (Int × Int) := (0, blankOf L) :: (81, newlineOf L) :: (82, remarkOf L) :: (83, commentOf L) :: tail6 L
theorem tail_rbs (L : List UInt8) (s : Int × Int) : tailOf L s = rbs s (tail6 L) := rfl
theorem rb_le (s : Int × Int) (k r : Int) : s.2 ≤ (rb s k r).2 ∧ r ≤ (rb s k r).2 := by
  unfold rb; split <;> (try dsimp only) <;> omega
theorem rbs_le : ∀ (l : List (Int × Int)) (s : Int × Int), s.2 ≤ (rbs s l).2
  | [], s => Int.le_refl _
  | x :: l, s => by
    have := rbs_le l (rb s x.1 x.2)
    have := (rb_le s x.1 x.2).1
    simp only [rbs]
    omega
theorem rbs_spec : ∀ (l : List (Int × Int)) (s : Int × Int), rbs s l = s ∨ ((rbs s l) ∈ l ∧ s.2 < (rbs s l).2)
  | [], s => .inl rfl
  | x :: l, s => by
    simp only [rbs]
    have h := rbs_spec l (rb s x.1 x.2)
    have h2 := (rb_le s x.1 x.2).1
    rcases h with h | ⟨h, h3⟩
    · rw [h]
      unfold rb
      split
      · rename_i c
        right
        exact ⟨List.mem_cons_self, c⟩
      · left; rfl
    · right
      exact ⟨List.mem_cons_of_mem _ h, by omega⟩
theorem rbs_from : ∀ (l : List (Int × Int)) (s s' : Int × Int), s.2 ≤ s'.2 → ((rbs s l).2 > s'.2 → rbs s' l = rbs s l) ∧ ((rbs s l).2 ≤ s'.2 → rbs s' l = s')
  | [], s, s', h => ⟨fun c => absurd c (by simp only [rbs]; omega), fun _ => rfl⟩
  | x :: l, s, s', h => by
    simp only [rbs]
    by_cases c : x.2 > s'.2
    · have e : rb s' x.1 x.2 = rb s x.1 x.2 := by unfold rb; rw [if_pos c, if_pos (by omega)]
      rw [e]
      refine ⟨fun _ => rfl, fun hc => ?_⟩
      have := rbs_le l (rb s x.1 x.2)
      have := (rb_le s x.1 x.2).2
      omega
    · have e : rb s' x.1 x.2 = s' := by unfold rb; rw [if_neg c]
      rw [e]
      refine rbs_from l _ s' ?_
      unfold rb; split <;> (try dsimp only) <;> omega
theorem pick_rbs (f g : Int → Int) : ∀ (l : List (Int × Int)) (j m i : Int) (s : Int × Int), (∀ x ∈ l, x.2 = -1 ∨ 1 ≤ x.2) → 0 ≤ j → (∀ (q : Nat) (h : q < l.length), (l[q]).1 = f (j + q) ∧ (l[q]).2 = g (j + q)) →
    ((i = -1 ∧ m = 0 ∧ s = (0, -1)) ∨ (0 ≤ i ∧ i < j ∧ 1 ≤ m ∧ m = g i ∧ s = (f i, m))) →
    (((goscan_longest.pick (l.map (·.2)) j (m, i)).2 = -1 ∧ (goscan_longest.pick (l.map (·.2)) j (m, i)).1 = 0 ∧ rbs s l = (0, -1)) ∨ (0 ≤ (goscan_longest.pick (l.map (·.2)) j (m, i)).2 ∧ (goscan_longest.pick (l.map (·.2)) j (m, i)).2 < j + l.length ∧ 1 ≤ (goscan_longest.pick (l.map (·.2)) j (m, i)).1 ∧ (goscan_longest.pick (l.map (·.2)) j (m, i)).1 = g (goscan_longest.pick (l.map (·.2)) j (m, i)).2 ∧ rbs s l = (f (goscan_longest.pick (l.map (·.2)) j (m, i)).2, (goscan_longest.pick (l.map (·.2)) j (m, i)).1)))
  | [], j, m, i, s, _, hj, _, h => by
    simp only [List.map_nil, goscan_longest.pick, rbs, List.length_nil]
    rcases h with h | h
    · exact .inl h
    · exact .inr ⟨h.1, by omega, h.2.2⟩
  | x :: l, j, m, i, s, hx, hj, hf, h => by
    have h0 := hf 0 (by simp)
    have hx0 := hx x List.mem_cons_self
    have hx' : ∀ y ∈ l, y.2 = -1 ∨ 1 ≤ y.2 := fun y hy => hx y (List.mem_cons_of_mem _ hy)
    have hf' : ∀ (q : Nat) (h : q < l.length), (l[q]).1 = f (j + 1 + q) ∧ (l[q]).2 = g (j + 1 + q) := by
      intro q hq
      have := hf (q + 1) (by simpa using hq)
      rw [show j + 1 + (q : Int) = j + ((q + 1 : Nat) : Int) by omega]
      simpa using this
    simp only [List.getElem_cons_zero, Int.natCast_zero, Int.add_zero] at h0
    have hl : j + 1 + (l.length : Int) = j + ((x :: l).length : Int) := by simp; omega
    simp only [List.map_cons, goscan_longest.pick, rbs]
    by_cases c : x.2 > m
    · rw [if_pos c]
      have e : rb s x.1 x.2 = (f j, x.2) := by
        unfold rb
        rw [if_pos (by rcases h with h | h; (rw [h.2.2]; dsimp only; omega); (rw [h.2.2.2.2]; dsimp only; omega)), h0.1]
      have := pick_rbs f g l (j + 1) x.2 j (rb s x.1 x.2) hx' (by omega) hf' (.inr ⟨hj, by omega, by omega, h0.2, e⟩)
      rw [hl] at this
      exact this
    · rw [if_neg c]
      have e : rb s x.1 x.2 = s := by
        unfold rb
        rw [if_neg]
        rcases h with h | h
        · rw [h.2.2]; dsimp only; omega
        · rw [h.2.2.2.2]; dsimp only; omega
      rw [e]
      have := pick_rbs f g l (j + 1) m i s hx' (by omega) hf' (h.imp id (fun h => ⟨h.1, by omega, h.2.2⟩))
      rw [hl] at this
      exact this
theorem rawL_good_n (n : Nat) : ∀ (L : List UInt8) (p : Nat) (o : List S36), L.length ≤ n → (∀ t ∈ o, t.f1 < t.f2) →
    ((rawL L p o).2.1 = 0 ∧ (rawL L p o).2.2 = 0 ∧ (∀ t ∈ (rawL L p o).1, t.f1 < t.f2)) ∨ ((rawL L p o).2.1 ≠ 0 ∧ (rawL L p o).1 = []) := by
  induction n using Nat.strongRecOn with
  | _ n ih =>
    intro L p o hn ho
    rw [rawL]
    by_cases c : L = []
    · rw [if_pos c]
      exact .inl ⟨rfl, rfl, ho⟩
    rw [if_neg c]
    by_cases c1 : (tokOf L).2.2 = true
    · have ht := tok_fit L c1
      rw [dif_pos c1]
      have ihh := fun p o ho => ih (L.length - (tokOf L).2.1.toNat) (by omega) (L.drop (tokOf L).2.1.toNat) p o (by rw [List.length_drop]; omega) ho
      by_cases c2 : (tokOf L).1 > 0
      · rw [if_pos c2]
        by_cases c3 : 65536 ≤ o.length
        · rw [if_pos c3]
          exact .inr ⟨by dsimp only; omega, rfl⟩
        · rw [if_neg c3]
          refine ihh _ _ ?_
          intro t ht'
          rcases List.mem_append.1 ht' with h | h
          · exact ho t h
          · rw [List.mem_singleton.1 h]
            dsimp only; omega
      · rw [if_neg c2]
        exact ihh _ _ ho
    · rw [dif_neg c1]
      by_cases c2 : (nextOf L).2.2 = true
      · rw [if_pos c2]
        exact .inr ⟨by dsimp only; omega, rfl⟩
      · rw [if_neg c2]
        exact .inr ⟨by dsimp only; omega, rfl⟩
theorem rawOf_good (a : ByteArray) : ((rawOf a).2.1 = 0 ∧ (rawOf a).2.2 = 0 ∧ (∀ t ∈ (rawOf a).1, t.f1 < t.f2)) ∨ ((rawOf a).2.1 ≠ 0 ∧ (rawOf a).1 = []) := by
  unfold rawOf
  split
  · exact .inr ⟨by dsimp only; omega, rfl⟩
  · split
    · exact rawL_good_n _ _ _ _ (Nat.le_refl _) (by simp)
    · exact rawL_good_n _ _ _ _ (Nat.le_refl _) (by simp)
def allOf (a : ByteArray) : List S36 × Int × Int := if (rawOf a).2.1 ≠ 0 then ([], (rawOf a).2.1, (rawOf a).2.2) else if (insOf a (rawOf a).1).2 = 0 then ((insOf a (rawOf a).1).1, 0, 0) else ([], 3, (a.size : Int))
theorem gall_ev (a : ByteArray) : Ev (fun k => goscan_All.f k a) (allOf a) := by
  unfold goscan_All.f allOf
  refine Ev.bind (graw_ev a) ?_
  rcases rawOf_good a with ⟨h1, h2, _⟩ | ⟨h1, h2⟩
  · rw [h1, h2]
    simp only [beq_self_eq_true, Bool.not_true, Bool.or_self, Bool.false_eq_true, if_false, ne_eq, not_true_eq_false]
    refine Ev.bind (insert_ev a (rawOf a).1) ?_
    by_cases c : (insOf a (rawOf a).1).2 = 0
    · simp only [if_pos c]; exact Ev.now _
    · simp only [if_neg c]; exact Ev.now _
  · have e : (!((rawOf a).2.1 == 0) || (!((rawOf a).2.2 == 0))) = true := by
      rw [beq_eq_false_iff_ne.2 h1]; rfl
    simp only [e, if_true, if_pos h1]
    exact Ev.now _
theorem full_kinds (L : List UInt8) : (full L).map (·.1) = goscan_next.kinds 81 := by
  show ([0, 81, 82, 83, 2, 3, 4, 5, 6, 7] : List Int) = goscan_next.kinds 81
  decide +kernel
theorem full_forms (L : List UInt8) : (full L).map (·.2) = forms L := rfl
theorem full_len (L : List UInt8) : (full L).length = 10 := rfl
theorem head_rbs (L : List UInt8) : rbs (0, -1) (full L) = tailOf L (head4 L) := by
  have gb := fit_ge (blank_fit L)
  have e1 : rb (0, -1) 0 (blankOf L) = (0, blankOf L) := by
    unfold rb
    split
    · rfl
    · rename_i c
      dsimp only at c
      rw [show blankOf L = -1 by omega]
  have e2 : rb (0, blankOf L) 81 (newlineOf L) = headOf L := by
    unfold headOf newlineOf
    split
    · rfl
    · unfold rb; rw [if_neg (by dsimp only; omega)]
  rw [tail_rbs]
  unfold full
  simp only [rbs, e1, e2]
  rfl
def kF (L : List UInt8) (i : Int) : Int := ((full L).map (·.1)).getD i.toNat 0
def rF (L : List UInt8) (i : Int) : Int := ((full L).map (·.2)).getD i.toNat 0
theorem long_is (L : List UInt8) : ((longOf L).2 = -1 ∧ (longOf L).1 = 0 ∧ tailOf L (head4 L) = (0, -1)) ∨ (0 ≤ (longOf L).2 ∧ (longOf L).2 < 10 ∧ 1 ≤ (longOf L).1 ∧ (longOf L).1 = rF L (longOf L).2 ∧ tailOf L (head4 L) = (kF L (longOf L).2, (longOf L).1)) := by
  have h := pick_rbs (kF L) (rF L) (full L) 0 0 (-1) (0, -1) (fun x hx => by
    have := forms_fit L x.2 (by rw [← full_forms]; exact List.mem_map_of_mem hx)
    unfold Fit at this; omega) (by omega) (fun q hq => by
    unfold kF rF
    rw [show ((0 : Int) + (q : Int)).toNat = q by omega]
    constructor
    · rw [List.getD_eq_getElem?_getD, List.getElem?_map, List.getElem?_eq_getElem hq]; rfl
    · rw [List.getD_eq_getElem?_getD, List.getElem?_map, List.getElem?_eq_getElem hq]; rfl) (.inl ⟨rfl, rfl, rfl⟩)
  rw [head_rbs, full_forms, full_len] at h
  exact h
theorem rF_four (L : List UInt8) : rF L 4 = identOf L := rfl
theorem kF_eq (L : List UInt8) (i : Int) : kF L i = (goscan_next.kinds 81).getD i.toNat 0 := by unfold kF; rw [full_kinds]
theorem tok_form (L : List UInt8) (h1 : ¬ (writOf L).2 > (longOf L).1) (hk : (longOf L).2 = 4 → (kindOf (textOfN L (identOf L))).2 = false) :
    if (tokOf L).2.2 = true then tailOf L (head4 L) = ((tokOf L).1, (tokOf L).2.1) else (tailOf L (head4 L)).2 = -1 := by
  rcases long_is L with ⟨a1, a2, a3⟩ | ⟨a1, a2, a3, a4, a5⟩
  · have e : tokOf L = (0, 0, false) := by unfold tokOf; rw [if_neg h1, if_pos (by omega)]
    rw [e, if_neg (by decide), a3]
  · have e : tokOf L = (kindAt L (longOf L).1 (longOf L).2, (longOf L).1, true) := by unfold tokOf; rw [if_neg h1, if_neg (by omega)]
    rw [e, if_pos rfl, a5]
    unfold kindAt
    by_cases c : (longOf L).2 = 4
    · rw [if_pos c]
      rw [c, rF_four] at a4
      rw [a4, hk c, if_neg (by decide), c]
      rfl
    · rw [if_neg c, kF_eq]
theorem best_tok (L : List UInt8) : if (tokOf L).2.2 = true then bestOf L = ((tokOf L).1, (tokOf L).2.1) else (bestOf L).2 = -1 := by
  have hH : -1 ≤ (head4 L).2 := by
    have gb := fit_ge (blank_fit L)
    have : -1 ≤ (headOf L).2 := by
      unfold headOf; split
      · exact rb_ge (s := (0, blankOf L)) gb (by omega)
      · exact gb
    exact rb_ge (rb_ge this (fit_ge (remark_fit L))) (fit_ge (comment_fit L))
  have hW := writ_spec L goscan_operators.l 0 (0, -1)
  have hK := writ_spec L KW 48 (0, -1)
  have hWf := fun s' => writ_from L goscan_operators.l 0 (0, -1) s'
  obtain ⟨W, eW⟩ : ∃ W, writ L goscan_operators.l 0 (0, -1) = W := ⟨_, rfl⟩
  rw [eW] at hW hWf
  have hL := long_is L
  rcases hW.1 with hW1 | ⟨j, hj, hW1, hm⟩
  ·
    have hW2 : W.2 = -1 := by rw [hW1]
    have e0 : writOf L = (0, 0) := (hWf (0, 0) (by decide)).2 (by rw [hW2]; decide)
    have e1 : writ L goscan_operators.l 0 (head4 L) = head4 L := (hWf (head4 L) hH).2 (by omega)
    have hnop : ∀ t ∈ goscan_operators.l, ¬ L.take t.f1.size = t.f1.data.toList := by
      intro t ht m
      have := hW.2 t ht m
      have := sizes_ops t ht
      omega
    have hne : ¬ (writOf L).2 > (longOf L).1 := by
      rw [e0]; dsimp only
      rcases hL with h | h <;> omega
    have eb : bestOf L = tailOf L (writ L KW 48 (head4 L)) := by unfold bestOf; rw [e1]
    rcases hK.1 with hK1 | ⟨j, hj, hK1, hm⟩
    · have e2 : writ L KW 48 (head4 L) = head4 L := (writ_from L KW 48 (0, -1) (head4 L) hH).2 (by rw [hK1]; exact hH)
      rw [eb, e2]
      refine tok_form L hne (fun c => ?_)
      rw [Bool.eq_false_iff]
      intro hc
      have hid := fit_ge (ident_fit L)
      have hfit := ident_fit L
      rcases hL with h | h
      · omega
      · rw [c, rF_four] at h
        unfold Fit at hfit
        rcases kindOf_no (by omega) (by omega) hc with ⟨t, ht, m⟩ | ⟨t, ht, m, _⟩
        · exact hnop t ht m
        · have := hK.2 t ht m
          rw [hK1] at this
          dsimp only at this
          omega
    · have hKm : KW[j] ∈ KW := List.getElem_mem hj
      have hlow := kw_hd hKm hm
      obtain ⟨e4, t1, t2, t3, t4, t5⟩ := low_tail hlow
      have hid := ident_low hKm hm
      have hsz := sizes_kw _ hKm
      obtain ⟨u, hu⟩ : ∃ u, KW[j] = u := ⟨_, rfl⟩
      rw [hu] at hK1 hm hid hsz hKm
      have hns : ∀ (s : Int × Int) (k : Int), -1 ≤ s.2 → rb s k (-1) = s := by
        intro s k hs; unfold rb; rw [if_neg (by omega)]
      have hts : ∀ s : Int × Int, -1 ≤ s.2 → tailOf L s = rb s 2 (identOf L) := by
        intro s hs
        have h := rb_ge (s := s) (k := 2) hs (fit_ge (ident_fit L))
        unfold tailOf
        rw [t1, t2, t3, t4, t5, hns _ 3 h, hns _ 4 h, hns _ 5 h, hns _ 6 h, hns _ 7 h]
      rw [eb, e4, hK1, hts _ (by dsimp only; omega)]
      have eF : tailOf L (head4 L) = (2, identOf L) := by
        rw [e4, hts _ (by decide)]
        unfold rb; rw [if_pos (by dsimp only; omega)]
      rw [eF] at hL
      rcases hL with ⟨_, _, h⟩ | ⟨h1, h2, h3, h4, h5⟩
      · have := congrArg Prod.snd h
        dsimp only at this
        omega
      · have h51 := congrArg Prod.fst h5
        have h52 := congrArg Prod.snd h5
        dsimp only at h51 h52
        have hi4 : (longOf L).2 = 4 := by
          have := kinds_two ⟨(longOf L).2.toNat, by omega⟩
          rw [kF_eq] at h51
          have := this.1 h51.symm
          dsimp only at this
          omega
        have e : tokOf L = (kindAt L (longOf L).1 (longOf L).2, (longOf L).1, true) := by unfold tokOf; rw [if_neg hne, if_neg (by omega)]
        rw [e, if_pos rfl]
        unfold kindAt
        rw [if_pos hi4, ← h52]
        unfold rb
        by_cases c : identOf L > (u.f1.size : Int)
        · rw [if_pos c]
          have hf : ¬ (kindOf (textOfN L (identOf L))).2 = true := by
            intro hc
            have hfit := ident_fit L
            unfold Fit at hfit
            rcases kindOf_no (by omega) (by omega) hc with ⟨t, ht, m⟩ | ⟨t, ht, m, e⟩
            · exact hnop t ht m
            · have := hK.2 t ht m
              rw [hK1] at this
              dsimp only at this
              omega
          rw [if_neg hf]
        · rw [if_neg c]
          have e : identOf L = (u.f1.size : Int) := by omega
          rw [e, kindOf_yes j hj u hu hm, if_pos rfl]
          congr 1
          dsimp only
          omega
  ·
    have htm := List.getElem_mem hj
    obtain ⟨u, hu⟩ : ∃ u, goscan_operators.l[j] = u := ⟨_, rfl⟩
    rw [hu] at hW1 hm htm
    have hsz := sizes_ops u htm
    have hW2 : W.2 = (u.f1.size : Int) := by rw [hW1]
    obtain ⟨t1, t2, t3, t4, t5, t6⟩ := op_tail htm hm
    have ho := of_decide_eq_true (op_hd htm hm).1
    have hnk : ∀ t ∈ KW, ¬ L.take t.f1.size = t.f1.data.toList := by
      intro t ht m
      have := kw_hd ht m
      omega
    have eK : ∀ s, writ L KW 48 s = s := by
      intro s
      rcases (writ_spec L KW 48 s).1 with h | ⟨i, hi, _, m⟩
      · exact h
      · exact absurd m (hnk _ (List.getElem_mem hi))
    have e0 : writOf L = W := (hWf (0, 0) (by decide)).1 (by rw [hW2]; dsimp only; omega)
    have hk : (longOf L).2 = 4 → (kindOf (textOfN L (identOf L))).2 = false := by
      intro c
      rcases hL with h | h
      · omega
      · rw [c, rF_four, t1] at h
        omega
    have eb : bestOf L = tailOf L (writ L goscan_operators.l 0 (head4 L)) := by unfold bestOf; rw [eK]
    rw [eb]
    have hFge : (head4 L).2 ≤ (tailOf L (head4 L)).2 := rbs_le (tail6 L) (head4 L)
    have hF2 : (longOf L).1 = (tailOf L (head4 L)).2 ∨ ((longOf L).1 = 0 ∧ (tailOf L (head4 L)).2 = -1) := by
      rcases hL with h | h
      · right; exact ⟨h.2.1, by rw [h.2.2]⟩
      · left; rw [h.2.2.2.2]
    by_cases cA : W.2 > (head4 L).2
    · rw [(hWf (head4 L) hH).1 cA]
      have hfr := rbs_from (tail6 L) (head4 L) W (by omega)
      rw [← tail_rbs, ← tail_rbs] at hfr
      by_cases cB : (tailOf L (head4 L)).2 > W.2
      · rw [hfr.1 cB]
        exact tok_form L (by rw [e0]; omega) hk
      · rw [hfr.2 (by omega)]
        have hlt : (tailOf L (head4 L)).2 ≠ W.2 := by
          intro he
          rcases rbs_spec (tail6 L) (head4 L) with h | ⟨h, h'⟩
          · rw [← tail_rbs] at h
            rw [h] at he
            omega
          · rw [← tail_rbs] at h
            simp only [tail6, List.mem_cons, List.not_mem_nil, or_false] at h
            rcases h with h | h | h | h | h | h <;> (have := congrArg Prod.snd h; dsimp only at this; omega)
        have : (writOf L).2 > (longOf L).1 := by rw [e0]; omega
        have e : tokOf L = ((writOf L).1, (writOf L).2, true) := by unfold tokOf; rw [if_pos this]
        rw [e, if_pos rfl, e0]
    · rw [(hWf (head4 L) hH).2 (by omega)]
      exact tok_form L (by rw [e0]; omega) hk
theorem refraw_loop (a : ByteArray) (ha : a.size ≤ 262144) (n : Nat) : ∀ (p : Nat) (o : List S36), a.size - p ≤ n → p ≤ a.size → o.length ≤ 65536 → Ev (fun k => quoinref26_Raw.l0 k a p o) (rawL (rest a p) p o) := by
  induction n using Nat.strongRecOn with
  | _ n ih =>
    intro p o h0 h1 h2
    have hlen := rest_len a p
    apply Ev.succ
    rw [rawL]
    by_cases c : p < a.size
    rotate_left
    · rw [if_pos (rest_nil.2 (by omega))]
      simp only [quoinref26_Raw.l0, if_neg (show ¬ (p : Int) < (a.size : Int) by omega)]
      exact Ev.now _
    rw [if_neg (fun e => by have := rest_nil.1 e; omega)]
    simp only [quoinref26_Raw.l0, if_pos (show (p : Int) < (a.size : Int) by omega)]
    refine Ev.bind (match_ev a ha p h1) ?_
    have hb := best_tok (rest a p)
    by_cases c1 : (tokOf (rest a p)).2.2 = true
    · have ht := tok_fit _ c1
      rw [if_pos c1] at hb
      rw [dif_pos c1, hb]
      obtain ⟨m, hm⟩ : ∃ m : Nat, (tokOf (rest a p)).2.1 = m := ⟨(tokOf (rest a p)).2.1.toNat, by omega⟩
      rw [hm] at ht ⊢
      rw [Int.toNat_natCast]
      have ihh := fun o (ho : o.length ≤ 65536) => ih (a.size - (p + m)) (by omega) (p + m) o (by omega) (by omega) ho
      rw [rest_add] at ihh
      have e : abp p ((tokOf (rest a p)).1, (m : Int)) = ((tokOf (rest a p)).1, ((p + m : Nat) : Int)) := by
        unfold abp
        dsimp only
        rw [ab_some (by omega)]
        congr 1
      rw [show (p : Int) + (m : Int) = ((p + m : Nat) : Int) by omega, e]
      simp only [if_neg (show ¬ ((p + m : Nat) : Int) < 0 by omega)]
      by_cases c2 : (tokOf (rest a p)).1 > 0
      · simp only [if_pos c2]
        apply Ev.succ
        by_cases c3 : 65536 ≤ o.length
        · simp only [quoinref26_Raw.j3, if_pos c3, decide_eq_true (show (o.length : Int) ≥ 65536 by omega), if_true]
          exact Ev.now _
        · simp only [quoinref26_Raw.j3, if_neg c3, decide_eq_false (show ¬ (o.length : Int) ≥ 65536 by omega), Bool.false_eq_true, if_false, if_pos c2, if_pos (show o.length < 5864062014805 by omega)]
          exact ihh _ (by simp; omega)
      · simp only [if_neg c2]
        apply Ev.succ
        simp only [quoinref26_Raw.j3, Bool.false_eq_true, if_false, if_neg c2]
        exact ihh _ h2
    · rw [if_neg c1] at hb
      rw [dif_neg c1]
      have e : (abp p (bestOf (rest a p))).2 < 0 := by
        unfold abp
        dsimp only
        rw [hb, ab_none]
        omega
      simp only [if_pos e]
      refine Ev.bind (rnext_ev a ha p h1) ?_
      by_cases c2 : (nextOf (rest a p)).2.2 = true
      · simp only [if_pos c2]; exact Ev.now _
      · simp only [if_neg c2]; exact Ev.now _
theorem refraw_ev (a : ByteArray) : Ev (fun k => quoinref26_Raw.f k a) (rawOf a) := by
  unfold quoinref26_Raw.f rawOf
  by_cases c : a.size > 262144
  · simp only [if_pos c, if_pos (show (a.size : Int) > 262144 by omega)]
    exact Ev.now _
  simp only [if_neg c, if_neg (show ¬ (a.size : Int) > 262144 by omega)]
  have none_ : bom (rest a 0) = false → Ev (fun k => quoinref26_Raw.j0 k a 0 false) (if bom (rest a 0) = true then rawL (rest a 3) 3 [] else rawL (rest a 0) 0 []) := by
    intro cb
    rw [cb, if_neg (by decide)]
    apply Ev.succ
    simp only [quoinref26_Raw.j0, Bool.false_eq_true, if_false]
    apply Ev.succ
    simp only [quoinref26_Raw.j1]
    exact refraw_loop a (by omega) _ 0 [] (Nat.le_refl _) (by omega) (by simp)
  by_cases c3 : 3 ≤ a.size
  · simp only [if_pos (show (a.size : Int) ≥ 3 by omega), if_pos (show (3 : Int) ≤ (a.size : Int) by omega)]
    have e : ((a.extract 0 3).toList == ([239, 187, 191] : List UInt8)) = bom (rest a 0) := by
      have e1 : (a.extract 0 3).toList = (rest a 0).take 3 := by rw [bytes_list]; exact extract_list2 a 0 3
      rw [e1]
      unfold bom
      by_cases c2 : (rest a 0).take 3 = [239, 187, 191]
      · rw [decide_eq_true c2, c2]; exact beq_self_eq_true _
      · rw [decide_eq_false c2]; exact beq_eq_false_iff_ne.2 c2
    rw [e]
    by_cases cb : bom (rest a 0) = true
    · rw [cb, if_pos rfl]
      apply Ev.succ
      simp only [quoinref26_Raw.j0, if_true]
      apply Ev.succ
      simp only [quoinref26_Raw.j1]
      exact refraw_loop a (by omega) _ 3 [] (Nat.le_refl _) c3 (by simp)
    · rw [Bool.not_eq_true] at cb
      have := none_ cb
      rw [cb] at this ⊢
      exact this
  · simp only [if_neg (show ¬ (a.size : Int) ≥ 3 by omega)]
    refine none_ ?_
    unfold bom
    apply decide_eq_false
    intro h
    have := congrArg List.length h
    rw [List.length_take, rest_len] at this
    simp at this
    omega
theorem refall_ev (a : ByteArray) (h0 : a.size ≤ 140737488351232) : Ev (fun k => quoinref26_All.f k a) (allOf a) := by
  unfold quoinref26_All.f allOf
  refine Ev.bind (refraw_ev a) ?_
  rcases rawOf_good a with ⟨h1, h2, hg⟩ | ⟨h1, h2⟩
  · rw [h1, h2, if_neg (by decide)]
    simp only [beq_self_eq_true, Bool.not_true, Bool.or_self, Bool.false_eq_true, if_false]
    refine Ev.bind (rinsert_ev a h0 _) ?_
    by_cases c : (insOf a (rawOf a).1).2 = 0
    · simp only [if_pos c]; exact Ev.now _
    · simp only [if_neg c]; exact Ev.now _
  · rw [if_pos h1]
    have e : (!((rawOf a).2.1 == 0) || (!((rawOf a).2.2 == 0))) = true := by rw [beq_eq_false_iff_ne.2 h1]; rfl
    simp only [e, if_true]
    exact Ev.now _
theorem GoscanAlls : quoinlaw26_GoscanAlls.Pure := by
  intro a0 h0
  refine Ev.rounds ?_
  unfold quoinlaw26_GoscanAlls.f
  have hlen : (allOf a0).1.length ≤ 65536 := by
    unfold allOf
    split
    · simp
    · split
      · exact insOf_len a0 _
      · simp
  refine Ev.bind (gall_ev a0) (Ev.bind (refall_ev a0 h0) (Ev.bind (same_ev _ (by omega)) ?_))
  simp only [if_true, beq_self_eq_true, Bool.and_self]
  exact Ev.bind awake_ev (Ev.now _)
end Go.Proofs.Ytcajiapjdlphmaa.Pure
