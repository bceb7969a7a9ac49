import Derived.Test.YtcajiapjdlphmaaGPre
import Derived.Test.YtcajiapjdlphmaaGabcdefx0
import Derived.Test.YtcajiapjdlphmaaGabcdefx11
import Derived.Test.YtcajiapjdlphmaaGabcdefx7
import Derived.Test.YtcajiapjdlphmaaGabcdefx8
import Derived.Test.YtcajiapjdlphmaaGabcefx0
import Derived.Test.YtcajiapjdlphmaaGabdefx0
import Derived.Test.YtcajiapjdlphmaaGabdfx0
import Derived.Test.YtcajiapjdlphmaaGabfx0
import Derived.Test.YtcajiapjdlphmaaGabx0
namespace Go.Proofs.Ytcajiapjdlphmaa.Pure
open Go.RowKit Go.Proofs.Ytcajiapjdlphmaa.H Go.Proofs.YtcajiapjdlphmaaW.PrintWords Go.Proofs.YtcajiapjdlphmaaW.PrintLast
set_option maxRecDepth 100000
theorem Ev.succ {α : Type} {g : Nat → Option α} {r : α} (h : Ev (fun k => g (k + 1)) r) : Ev g r := Ev.step (fun _ => rfl) h
theorem Ev.const {α : Type} {a : Option α} {r : α} (h : a = some r) : Ev (fun _ => a) r := ⟨0, fun _ _ => h⟩
theorem wf64 {x : Int} (h : (Lit.int .i64 x).wf = true) : -9223372036854775808 ≤ x ∧ x ≤ 9223372036854775807 := by
  have : IntKind.i64.min = -9223372036854775808 := by decide
  have h := h
  simp only [Lit.wf, decide_eq_true_eq, Bool.and_eq_true] at h
  have h2 : IntKind.i64.max = 9223372036854775807 := by decide
  omega
theorem wf_of {x : Int} (h0 : -9223372036854775808 ≤ x) (h1 : x ≤ 9223372036854775807) : (Lit.int .i64 x).wf = true := by
  have : IntKind.i64.min = -9223372036854775808 := by decide
  have h2 : IntKind.i64.max = 9223372036854775807 := by decide
  simp only [Lit.wf, decide_eq_true_eq, Bool.and_eq_true]
  omega
theorem wr {x : Int} (h0 : -9223372036854775808 ≤ x) (h1 : x ≤ 9223372036854775807) : wrap64 x = x := by unfold wrap64; omega
theorem rdOf_at (l : List ByteArray) (i : Nat) (h : i < l.length) : rdOf ByteArray.empty l (i : Int) = l[i] := by
  unfold rdOf
  rw [List.getD_eq_getElem?_getD, Int.toNat_natCast, List.getElem?_eq_getElem h]
  rfl
def TX : List ByteArray := (goscan_texts.f 60).getD []
def KS : List ByteArray := (goscan_Kinds.f 120).getD []
theorem texts_at : goscan_texts.f 60 = some TX := by decide +kernel
theorem kinds_at : goscan_Kinds.f 120 = some KS := by decide +kernel
theorem rkinds_at : quoinref26_Kinds.f 120 = some KS := by decide +kernel
theorem awake_at : quoinlaw26_awake.f 120 = some true := by decide +kernel
theorem TX_len : TX.length = 73 := by decide +kernel
theorem KS_len : KS.length = 84 := by decide +kernel
theorem texts_ev : Ev (fun k => goscan_texts.f k) TX := Ev.of (fun k => goscan_texts.mono k) texts_at
theorem kinds_ev : Ev (fun k => goscan_Kinds.f k) KS := Ev.of (fun k => goscan_Kinds.mono k) kinds_at
theorem rkinds_ev : Ev (fun k => quoinref26_Kinds.f k) KS := Ev.of (fun k => quoinref26_Kinds.mono k) rkinds_at
theorem awake_ev : Ev (fun k => quoinlaw26_awake.f k) true := Ev.of (fun k => quoinlaw26_awake.mono k) awake_at
theorem newline_ev : Ev (fun k => goscan_kindNewline.f k) 81 := by
  unfold goscan_kindNewline.f
  refine Ev.bind texts_ev ?_
  rw [TX_len]
  exact Ev.const (by decide +kernel)
theorem ops_eq : quoinref26_operators.f = some quoinref26_operators.l := rfl
theorem ops_len : quoinref26_operators.l.length = 96 := by decide +kernel
theorem keys_eq : quoinref26_keywords.f = some quoinref26_keywords.l := rfl
theorem keys_len : quoinref26_keywords.l.length = 25 := by decide +kernel
def textOf (a : Int) : ByteArray × Bool := if 8 ≤ a ∧ a < 81 then (TX.getD (a - 8).toNat ByteArray.empty, true) else (⟨#[]⟩, false)
theorem text_ev (a : Int) (h : (Lit.int .i64 a).wf = true) : Ev (fun k => goscan_Text.f k a) (textOf a) := by
  obtain ⟨h0, h1⟩ := wf64 h
  unfold goscan_Text.f
  refine Ev.bind texts_ev ?_
  rw [TX_len]
  unfold textOf
  by_cases c : a < 8
  · simp only [if_pos c, if_neg (show ¬ (8 ≤ a ∧ a < 81) by omega)]
    exact Ev.now _
  · have w : wrap64 (a - 8) = a - 8 := wr (by omega) (by omega)
    simp only [if_neg c, w]
    by_cases c2 : a - 8 ≥ ((73 : Nat) : Int)
    · simp only [if_pos c2, if_neg (show ¬ (8 ≤ a ∧ a < 81) by omega)]
      exact Ev.now _
    · simp only [if_neg c2, if_pos (show 0 ≤ a - 8 by omega), if_pos (show a - 8 < ((73 : Nat) : Int) by omega), if_pos (show (8 ≤ a ∧ a < 81) by omega)]
      exact Ev.now _
theorem rtext_all : ∀ i : Fin 73, quoinref26_Text.f 20 (8 + (i.1 : Int)) = some (TX.getD i.1 ByteArray.empty, true) := by decide +kernel
theorem rtext_ev (a : Int) (h : (Lit.int .i64 a).wf = true) : Ev (fun k => quoinref26_Text.f k a) (textOf a) := by
  obtain ⟨h0, h1⟩ := wf64 h
  by_cases c : 8 ≤ a ∧ a < 81
  · have := rtext_all ⟨(a - 8).toNat, by omega⟩
    refine Ev.of (fun k => quoinref26_Text.mono a k) (k := 20) ?_
    unfold textOf
    rw [if_pos c, ← this]
    congr 1
    show a = 8 + (((a - 8).toNat : Nat) : Int)
    omega
  · unfold quoinref26_Text.f textOf
    rw [ops_eq, keys_eq, if_neg c]
    simp only [Option.bind_some, ops_len]
    have hw : wrap64 (((96 : Nat) : Int) / 2) = 48 := by decide +kernel
    rw [hw]
    obtain ⟨n, hn⟩ : ∃ n, wrap64 (a - 8) = n := ⟨_, rfl⟩
    rw [hn]
    have hn2 : n < 0 ∨ 73 ≤ n := by rw [← hn]; unfold wrap64; omega
    have hn3 : -9223372036854775808 ≤ n ∧ n ≤ 9223372036854775807 := by rw [← hn]; unfold wrap64; omega
    have key : ∀ b, b = false → Ev (fun k => quoinref26_Text.j0 k quoinref26_operators.l quoinref26_keywords.l n b) (⟨#[]⟩, false) := by
      rintro b rfl
      apply Ev.succ
      simp only [quoinref26_Text.j0, Bool.false_eq_true, if_false, ops_len, keys_len]
      rw [hw]
      by_cases c2 : wrap64 (n - 48) ≥ 0
      · have : ¬ (wrap64 (n - 48) < ((25 : Nat) : Int)) := by unfold wrap64 at c2 ⊢; omega
        simp only [if_pos c2, if_neg this]
        exact Ev.now _
      · simp only [if_neg c2]
        exact Ev.now _
    by_cases c3 : n ≥ 0
    · simp only [if_pos c3]
      exact key _ (decide_eq_false (by omega))
    · simp only [if_neg c3]
      exact key _ rfl
theorem number_ev {s : ByteArray} {k : Nat} {r : Int} (h : quoinref26_number.f k s = some r) : Ev (fun k => quoinref26_number.f k s) r := Ev.of (fun k => quoinref26_number.mono s k) h
def num (s : ByteArray) : Int := (quoinref26_number.f 220 s).getD 0
def F15 : List ByteArray := [⟨#[105, 100, 101, 110, 116]⟩, ⟨#[105, 110, 116]⟩, ⟨#[102, 108, 111, 97, 116]⟩, ⟨#[105, 109, 97, 103]⟩, ⟨#[99, 104, 97, 114]⟩, ⟨#[115, 116, 114, 105, 110, 103]⟩, ⟨#[107, 98, 114, 101, 97, 107]⟩, ⟨#[107, 99, 111, 110, 116, 105, 110, 117, 101]⟩, ⟨#[107, 102, 97, 108, 108, 116, 104, 114, 111, 117, 103, 104]⟩, ⟨#[107, 114, 101, 116, 117, 114, 110]⟩, ⟨#[105, 110, 99]⟩, ⟨#[100, 101, 99]⟩, ⟨#[114, 112, 97, 114, 101, 110]⟩, ⟨#[114, 98, 114, 97, 99, 107]⟩, ⟨#[114, 98, 114, 97, 99, 101]⟩]
theorem num_all : F15.all (fun s => quoinref26_number.f 220 s == some (num s)) = true := by decide +kernel
theorem num_of {s : ByteArray} (h : s ∈ F15) : Ev (fun k => quoinref26_number.f k s) (num s) := number_ev (by simpa using List.all_eq_true.1 num_all s h)
def followsOf (a : Int) : Bool := decide (a ∈ F15.map num)
theorem rfollows_loop (a : Int) (n : Nat) : ∀ i : Nat, i + n = 15 → Ev (fun k => quoinref26_Follows.l0 k a F15 i) (decide (a ∈ (F15.drop i).map num)) := by
  induction n with
  | zero =>
    intro i hi
    obtain rfl : i = 15 := by omega
    apply Ev.succ
    simp only [quoinref26_Follows.l0]
    exact Ev.now _
  | succ n ih =>
    intro i hi
    apply Ev.succ
    have hl : i < F15.length := by show i < 15; omega
    simp only [quoinref26_Follows.l0, if_pos (show ((i : Nat) : Int) < ((F15.length : Nat) : Int) by omega), if_pos (show (0 : Int) ≤ ((i : Nat) : Int) by omega)]
    rw [rdOf_at _ _ hl, List.drop_eq_getElem_cons hl]
    refine Ev.bind (num_of (List.getElem_mem hl)) ?_
    by_cases c : num F15[i] = a
    · simp only [if_pos c]
      rw [decide_eq_true (by rw [List.map_cons, c]; exact List.mem_cons_self)]
      exact Ev.now _
    · simp only [if_neg c, wr (show -9223372036854775808 ≤ (i : Int) + 1 by omega) (show (i : Int) + 1 ≤ 9223372036854775807 by omega)]
      have e : decide (a ∈ List.map num (F15[i] :: List.drop (i + 1) F15)) = decide (a ∈ List.map num (List.drop (i + 1) F15)) := by
        congr 1
        rw [List.map_cons, List.mem_cons]
        exact propext ⟨fun h => h.resolve_left (fun h => c h.symm), Or.inr⟩
      rw [e]
      exact ih (i + 1) (by omega)
theorem rfollows_ev (a : Int) : Ev (fun k => quoinref26_Follows.f k a) (followsOf a) := rfollows_loop a 15 0 rfl
theorem follows_all : ∀ i : Fin 81, goscan_Follows.f 70 (i.1 : Int) = some (followsOf i.1) := by decide +kernel
theorem follows_out (a : Int) (h : a < 0 ∨ 81 ≤ a) : followsOf a = false := by
  have h1 : (F15.map num).all (fun x => decide (0 ≤ x) && decide (x < 81)) = true := by decide +kernel
  refine decide_eq_false fun hm => ?_
  have := List.all_eq_true.1 h1 a hm
  simp at this
  omega
theorem follows_ev (a : Int) (h : (Lit.int .i64 a).wf = true) : Ev (fun k => goscan_Follows.f k a) (followsOf a) := by
  by_cases c : 0 ≤ a ∧ a < 81
  · have := follows_all ⟨a.toNat, by omega⟩
    refine Ev.of (fun k => goscan_Follows.mono a k) (k := 70) ?_
    have e : ((a.toNat : Nat) : Int) = a := by omega
    simpa [e] using this
  · rw [follows_out a (by omega)]
    unfold goscan_Follows.f
    have key : ∀ b, b = false → Ev (fun k => goscan_Follows.j0 k a b) false := by
      rintro b rfl
      apply Ev.succ
      simp only [goscan_Follows.j0, Bool.false_eq_true, if_false]
      have e : textOf a = (⟨#[]⟩, false) := if_neg (by omega)
      refine Ev.bind (text_ev a h) ?_
      rw [e]
      exact Ev.const (by decide +kernel)
    by_cases c2 : a ≥ 2
    · simp only [if_pos c2]
      exact key _ (decide_eq_false (by omega))
    · simp only [if_neg c2]
      exact key _ rfl
def place (s : ByteArray) : List ByteArray → Nat → Option Nat
  | [], _ => none
  | x :: l, i => if x.toList = s.toList then some i else place s l (i + 1)
def kindOf (s : ByteArray) : Int × Bool := match place s TX 8 with | some i => ((i : Nat), true) | none => (0, false)
theorem index_loop (s : ByteArray) (n : Nat) : ∀ i : Nat, i + n = 73 → Ev (fun k => slices_Index_string_string.l0 k TX s 73 i) (match place s (TX.drop i) i with | some j => (j : Int) | none => -1) := by
  induction n with
  | zero =>
    intro i hi
    obtain rfl : i = 73 := by omega
    apply Ev.succ
    rw [show TX.drop 73 = [] from List.drop_eq_nil_of_le (by rw [TX_len]; omega)]
    simp only [slices_Index_string_string.l0]
    exact Ev.now _
  | succ n ih =>
    intro i hi
    apply Ev.succ
    have hl : i < TX.length := by rw [TX_len]; omega
    simp only [slices_Index_string_string.l0, if_pos (show ((i : Nat) : Int) < 73 by omega), if_pos (show (0 : Int) ≤ ((i : Nat) : Int) by omega), if_pos (show ((i : Nat) : Int) < ((TX.length : Nat) : Int) by omega)]
    rw [rdOf_at _ _ hl, List.drop_eq_getElem_cons hl]
    by_cases c : s.toList = TX[i].toList
    · simp only [if_pos c, place, if_pos c.symm]
      exact Ev.now _
    · simp only [if_neg c, place, if_neg (fun h => c (Eq.symm h)), wr (show -9223372036854775808 ≤ (i : Int) + 1 by omega) (show (i : Int) + 1 ≤ 9223372036854775807 by omega)]
      exact ih (i + 1) (by omega)
theorem place_le (s : ByteArray) : ∀ (l : List ByteArray) (i j : Nat), place s l i = some j → i ≤ j ∧ j < i + l.length
  | [], i, j, h => by simp [place] at h
  | x :: l, i, j, h => by
    unfold place at h
    split at h
    · have : i = j := by simpa using h
      subst this
      simp
    · have := place_le s l (i + 1) j h
      simp only [List.length_cons]
      omega
theorem place_shift (s : ByteArray) : ∀ (l : List ByteArray) (i m : Nat), place s l (i + m) = (place s l i).map (· + m)
  | [], i, m => rfl
  | x :: l, i, m => by
    unfold place
    split
    · rfl
    · rw [show i + m + 1 = (i + 1) + m by omega]
      exact place_shift s l (i + 1) m
theorem kind_ev (s : ByteArray) : Ev (fun k => goscan_Kind.f k s) (kindOf s) := by
  unfold goscan_Kind.f
  refine Ev.bind texts_ev ?_
  have h := index_loop s 73 0 rfl
  have hx : Ev (fun k => slices_Index_string_string.f k TX s) (match place s TX 0 with | some j => (j : Int) | none => -1) := by
    unfold slices_Index_string_string.f
    rw [TX_len]
    exact h
  refine Ev.bind hx ?_
  unfold kindOf
  have e := place_shift s TX 0 8
  rw [Nat.zero_add] at e
  rw [e]
  cases hp : place s TX 0 with
  | none => exact Ev.const (by decide +kernel)
  | some j =>
    have := place_le s TX 0 j hp
    rw [TX_len] at this
    simp only [Option.map_some]
    rw [if_neg (by omega)]
    refine Ev.const ?_
    rw [wr (by omega) (by omega)]
    congr 2
    omega
theorem rkind_loop (s : ByteArray) (n : Nat) : ∀ i : Nat, i + n = 84 → Ev (fun k => quoinref26_Kind.l0 k s i) (if i < 8 then kindOf s else match place s (TX.drop (i - 8)) i with | some j => ((j : Int), true) | none => (0, false)) := by
  induction n with
  | zero =>
    intro i hi
    obtain rfl : i = 84 := by omega
    apply Ev.succ
    rw [show TX.drop (84 - 8) = [] from List.drop_eq_nil_of_le (by rw [TX_len]; omega)]
    simp only [quoinref26_Kind.l0]
    refine Ev.bind rkinds_ev ?_
    rw [KS_len]
    exact Ev.now _
  | succ n ih =>
    intro i hi
    apply Ev.succ
    simp only [quoinref26_Kind.l0]
    refine Ev.bind rkinds_ev ?_
    rw [KS_len]
    simp only [if_pos (show ((i : Nat) : Int) < ((84 : Nat) : Int) by omega), wr (show -9223372036854775808 ≤ (i : Int) + 1 by omega) (show (i : Int) + 1 ≤ 9223372036854775807 by omega)]
    refine Ev.bind (rtext_ev (i : Int) (wf_of (by omega) (by omega))) ?_
    have ih := ih (i + 1) (by omega)
    unfold textOf
    by_cases c1 : i < 8
    · rw [if_neg (show ¬ (8 ≤ ((i : Nat) : Int) ∧ ((i : Nat) : Int) < 81) by omega), if_pos c1]
      simp only [Bool.false_eq_true, if_false]
      by_cases c2 : i + 1 < 8
      · rw [if_pos c2] at ih
        exact ih
      · rw [if_neg c2] at ih
        obtain rfl : i = 7 := by omega
        exact ih
    · rw [if_neg c1]
      rw [if_neg (by omega)] at ih
      by_cases c2 : i < 81
      · have hl : i - 8 < TX.length := by rw [TX_len]; omega
        rw [if_pos (show (8 ≤ ((i : Nat) : Int) ∧ ((i : Nat) : Int) < 81) by omega), List.drop_eq_getElem_cons hl]
        simp only [if_true]
        have e1 : TX.getD (((i : Nat) : Int) - 8).toNat ByteArray.empty = TX[i - 8] := by
          rw [show (((i : Nat) : Int) - 8).toNat = i - 8 by omega, List.getD_eq_getElem?_getD, List.getElem?_eq_getElem hl]
          rfl
        rw [e1]
        by_cases c : TX[i - 8].toList = s.toList
        · simp only [if_pos c, place]
          exact Ev.now _
        · simp only [if_neg c, place]
          rw [show i + 1 - 8 = i - 8 + 1 by omega] at ih
          exact ih
      · rw [if_neg (show ¬ (8 ≤ ((i : Nat) : Int) ∧ ((i : Nat) : Int) < 81) by omega)]
        simp only [Bool.false_eq_true, if_false]
        have e2 : ∀ m, 73 ≤ m → TX.drop m = [] := fun m hm => List.drop_eq_nil_of_le (by rw [TX_len]; exact hm)
        rw [e2 _ (by omega)] at ih ⊢
        exact ih
theorem rkind_ev (s : ByteArray) : Ev (fun k => quoinref26_Kind.f k s) (kindOf s) := rkind_loop s 84 0 rfl
theorem sameTexts_loop (l : List ByteArray) (hl : l.length ≤ 9223372036854775806) (n : Nat) : ∀ i : Nat, i + n = l.length → Ev (fun k => quoinlaw26_sameTexts.l0 k l l i) true := by
  induction n with
  | zero =>
    intro i hi
    apply Ev.succ
    simp only [quoinlaw26_sameTexts.l0, if_neg (show ¬ ((i : Nat) : Int) < ((l.length : Nat) : Int) by omega)]
    exact Ev.now _
  | succ n ih =>
    intro i hi
    apply Ev.succ
    simp only [quoinlaw26_sameTexts.l0, if_pos (show ((i : Nat) : Int) < ((l.length : Nat) : Int) by omega), if_pos (show (0 : Int) ≤ ((i : Nat) : Int) by omega), if_true, wr (show -9223372036854775808 ≤ (i : Int) + 1 by omega) (show (i : Int) + 1 ≤ 9223372036854775807 by omega)]
    exact ih (i + 1) (by omega)
theorem sameTexts_ev (l : List ByteArray) (hl : l.length ≤ 9223372036854775806) : Ev (fun k => quoinlaw26_sameTexts.f k l l) true := by
  unfold quoinlaw26_sameTexts.f
  simp only [if_true]
  exact sameTexts_loop l hl l.length 0 (by omega)
theorem same_loop (l : List S36) (hl : l.length ≤ 9223372036854775806) (n : Nat) : ∀ i : Nat, i + n = l.length → Ev (fun k => quoinref07_Same.l0 k l l i) true := by
  induction n with
  | zero =>
    intro i hi
    apply Ev.succ
    simp only [quoinref07_Same.l0, if_neg (show ¬ ((i : Nat) : Int) < ((l.length : Nat) : Int) by omega)]
    exact Ev.now _
  | succ n ih =>
    intro i hi
    apply Ev.succ
    simp only [quoinref07_Same.l0, if_pos (show ((i : Nat) : Int) < ((l.length : Nat) : Int) by omega), if_pos (show (0 : Int) ≤ ((i : Nat) : Int) by omega), beq_self_eq_true, Bool.not_true, Bool.or_self, Bool.false_eq_true, if_false, wr (show -9223372036854775808 ≤ (i : Int) + 1 by omega) (show (i : Int) + 1 ≤ 9223372036854775807 by omega)]
    exact ih (i + 1) (by omega)
theorem same_ev (l : List S36) (hl : l.length ≤ 9223372036854775806) : Ev (fun k => quoinref07_Same.f k l l) true := by
  unfold quoinref07_Same.f
  simp only [if_true]
  exact same_loop l hl l.length 0 (by omega)
theorem rd_at (l : List S36) (i : Nat) (h : i < l.length) : rd_T36 l (i : Int) = l[i] := by
  unfold rd_T36
  rw [List.getD_eq_getElem?_getD, Int.toNat_natCast, List.getElem?_eq_getElem h]
  rfl
end Go.Proofs.Ytcajiapjdlphmaa.Pure
