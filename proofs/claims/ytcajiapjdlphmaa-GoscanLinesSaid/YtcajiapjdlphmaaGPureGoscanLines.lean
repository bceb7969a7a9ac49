import Derived.Lib.IndexAny
import Derived.Lib.MapLaws
import Derived.Lib.RuneCountTail
import Derived.Laws.Strings
import Derived.Lib.TrimAscii
import Derived.Test.YtcajiapjdlphmaaGPre
import Derived.Test.YtcajiapjdlphmaaGabcdefx0
import Derived.Test.YtcajiapjdlphmaaGabcdefx1
import Derived.Test.YtcajiapjdlphmaaGabcdefx10
import Derived.Test.YtcajiapjdlphmaaGabcdefx11
import Derived.Test.YtcajiapjdlphmaaGabcdefx2
import Derived.Test.YtcajiapjdlphmaaGabcdefx3
import Derived.Test.YtcajiapjdlphmaaGabcdefx4
import Derived.Test.YtcajiapjdlphmaaGabcdefx5
import Derived.Test.YtcajiapjdlphmaaGabcdefx6
import Derived.Test.YtcajiapjdlphmaaGabcdefx7
import Derived.Test.YtcajiapjdlphmaaGabcdefx8
import Derived.Test.YtcajiapjdlphmaaGabcdefx9
import Derived.Test.YtcajiapjdlphmaaGabcdfx0
import Derived.Test.YtcajiapjdlphmaaGbcefx0
import Derived.Test.YtcajiapjdlphmaaGcx0
namespace Go.Proofs.Ytcajiapjdlphmaa.Pure
open Go.RowKit Go.Proofs.Ytcajiapjdlphmaa.H Go.Proofs.YtcajiapjdlphmaaW.PrintWords Go.Proofs.YtcajiapjdlphmaaW.PrintLast
set_option maxRecDepth 100000
theorem Ev.succ {α : Type} {g : Nat → Option α} {r : α} (h : Ev (fun k => g (k + 1)) r) : Ev g r := Ev.step (fun _ => rfl) h
theorem Ev.const {α : Type} {a : Option α} {r : α} (h : a = some r) : Ev (fun _ => a) r := ⟨0, fun _ _ => h⟩
theorem wf64 {x : Int} (h : (Lit.int .i64 x).wf = true) : -9223372036854775808 ≤ x ∧ x ≤ 9223372036854775807 := by
  have : IntKind.i64.min = -9223372036854775808 := by decide
  have h := h
  simp only [Lit.wf, decide_eq_true_eq, Bool.and_eq_true] at h
  have h2 : IntKind.i64.max = 9223372036854775807 := by decide
  omega
theorem wf_of {x : Int} (h0 : -9223372036854775808 ≤ x) (h1 : x ≤ 9223372036854775807) : (Lit.int .i64 x).wf = true := by
  have : IntKind.i64.min = -9223372036854775808 := by decide
  have h2 : IntKind.i64.max = 9223372036854775807 := by decide
  simp only [Lit.wf, decide_eq_true_eq, Bool.and_eq_true]
  omega
theorem wr {x : Int} (h0 : -9223372036854775808 ≤ x) (h1 : x ≤ 9223372036854775807) : wrap64 x = x := by unfold wrap64; omega
theorem rdOf_at (l : List ByteArray) (i : Nat) (h : i < l.length) : rdOf ByteArray.empty l (i : Int) = l[i] := by
  unfold rdOf
  rw [List.getD_eq_getElem?_getD, Int.toNat_natCast, List.getElem?_eq_getElem h]
  rfl
def TX : List ByteArray := (goscan_texts.f 60).getD []
def KS : List ByteArray := (goscan_Kinds.f 120).getD []
theorem texts_at : goscan_texts.f 60 = some TX := by decide +kernel
theorem kinds_at : goscan_Kinds.f 120 = some KS := by decide +kernel
theorem awake_at : quoinlaw26_awake.f 120 = some true := by decide +kernel
theorem TX_len : TX.length = 73 := by decide +kernel
theorem KS_len : KS.length = 84 := by decide +kernel
theorem texts_ev : Ev (fun k => goscan_texts.f k) TX := Ev.of (fun k => goscan_texts.mono k) texts_at
theorem kinds_ev : Ev (fun k => goscan_Kinds.f k) KS := Ev.of (fun k => goscan_Kinds.mono k) kinds_at
theorem awake_ev : Ev (fun k => quoinlaw26_awake.f k) true := Ev.of (fun k => quoinlaw26_awake.mono k) awake_at
theorem newline_ev : Ev (fun k => goscan_kindNewline.f k) 81 := by
  unfold goscan_kindNewline.f
  refine Ev.bind texts_ev ?_
  rw [TX_len]
  exact Ev.const (by decide +kernel)
def textOf (a : Int) : ByteArray × Bool := if 8 ≤ a ∧ a < 81 then (TX.getD (a - 8).toNat ByteArray.empty, true) else (⟨#[]⟩, false)
theorem text_ev (a : Int) (h : (Lit.int .i64 a).wf = true) : Ev (fun k => goscan_Text.f k a) (textOf a) := by
  obtain ⟨h0, h1⟩ := wf64 h
  unfold goscan_Text.f
  refine Ev.bind texts_ev ?_
  rw [TX_len]
  unfold textOf
  by_cases c : a < 8
  · simp only [if_pos c, if_neg (show ¬ (8 ≤ a ∧ a < 81) by omega)]
    exact Ev.now _
  · have w : wrap64 (a - 8) = a - 8 := wr (by omega) (by omega)
    simp only [if_neg c, w]
    by_cases c2 : a - 8 ≥ ((73 : Nat) : Int)
    · simp only [if_pos c2, if_neg (show ¬ (8 ≤ a ∧ a < 81) by omega)]
      exact Ev.now _
    · simp only [if_neg c2, if_pos (show 0 ≤ a - 8 by omega), if_pos (show a - 8 < ((73 : Nat) : Int) by omega), if_pos (show (8 ≤ a ∧ a < 81) by omega)]
      exact Ev.now _
def num (s : ByteArray) : Int := (quoinref26_number.f 220 s).getD 0
def F15 : List ByteArray := [⟨#[105, 100, 101, 110, 116]⟩, ⟨#[105, 110, 116]⟩, ⟨#[102, 108, 111, 97, 116]⟩, ⟨#[105, 109, 97, 103]⟩, ⟨#[99, 104, 97, 114]⟩, ⟨#[115, 116, 114, 105, 110, 103]⟩, ⟨#[107, 98, 114, 101, 97, 107]⟩, ⟨#[107, 99, 111, 110, 116, 105, 110, 117, 101]⟩, ⟨#[107, 102, 97, 108, 108, 116, 104, 114, 111, 117, 103, 104]⟩, ⟨#[107, 114, 101, 116, 117, 114, 110]⟩, ⟨#[105, 110, 99]⟩, ⟨#[100, 101, 99]⟩, ⟨#[114, 112, 97, 114, 101, 110]⟩, ⟨#[114, 98, 114, 97, 99, 107]⟩, ⟨#[114, 98, 114, 97, 99, 101]⟩]
def followsOf (a : Int) : Bool := decide (a ∈ F15.map num)
theorem follows_all : ∀ i : Fin 81, goscan_Follows.f 70 (i.1 : Int) = some (followsOf i.1) := by decide +kernel
theorem follows_out (a : Int) (h : a < 0 ∨ 81 ≤ a) : followsOf a = false := by
  have h1 : (F15.map num).all (fun x => decide (0 ≤ x) && decide (x < 81)) = true := by decide +kernel
  refine decide_eq_false fun hm => ?_
  have := List.all_eq_true.1 h1 a hm
  simp at this
  omega
theorem follows_ev (a : Int) (h : (Lit.int .i64 a).wf = true) : Ev (fun k => goscan_Follows.f k a) (followsOf a) := by
  by_cases c : 0 ≤ a ∧ a < 81
  · have := follows_all ⟨a.toNat, by omega⟩
    refine Ev.of (fun k => goscan_Follows.mono a k) (k := 70) ?_
    have e : ((a.toNat : Nat) : Int) = a := by omega
    simpa [e] using this
  · rw [follows_out a (by omega)]
    unfold goscan_Follows.f
    have key : ∀ b, b = false → Ev (fun k => goscan_Follows.j0 k a b) false := by
      rintro b rfl
      apply Ev.succ
      simp only [goscan_Follows.j0, Bool.false_eq_true, if_false]
      have e : textOf a = (⟨#[]⟩, false) := if_neg (by omega)
      refine Ev.bind (text_ev a h) ?_
      rw [e]
      exact Ev.const (by decide +kernel)
    by_cases c2 : a ≥ 2
    · simp only [if_pos c2]
      exact key _ (decide_eq_false (by omega))
    · simp only [if_neg c2]
      exact key _ rfl
def place (s : ByteArray) : List ByteArray → Nat → Option Nat
  | [], _ => none
  | x :: l, i => if x.toList = s.toList then some i else place s l (i + 1)
def kindOf (s : ByteArray) : Int × Bool := match place s TX 8 with | some i => ((i : Nat), true) | none => (0, false)
theorem index_loop (s : ByteArray) (n : Nat) : ∀ i : Nat, i + n = 73 → Ev (fun k => slices_Index_string_string.l0 k TX s 73 i) (match place s (TX.drop i) i with | some j => (j : Int) | none => -1) := by
  induction n with
  | zero =>
    intro i hi
    obtain rfl : i = 73 := by omega
    apply Ev.succ
    rw [show TX.drop 73 = [] from List.drop_eq_nil_of_le (by rw [TX_len]; omega)]
    simp only [slices_Index_string_string.l0]
    exact Ev.now _
  | succ n ih =>
    intro i hi
    apply Ev.succ
    have hl : i < TX.length := by rw [TX_len]; omega
    simp only [slices_Index_string_string.l0, if_pos (show ((i : Nat) : Int) < 73 by omega), if_pos (show (0 : Int) ≤ ((i : Nat) : Int) by omega), if_pos (show ((i : Nat) : Int) < ((TX.length : Nat) : Int) by omega)]
    rw [rdOf_at _ _ hl, List.drop_eq_getElem_cons hl]
    by_cases c : s.toList = TX[i].toList
    · simp only [if_pos c, place, if_pos c.symm]
      exact Ev.now _
    · simp only [if_neg c, place, if_neg (fun h => c (Eq.symm h)), wr (show -9223372036854775808 ≤ (i : Int) + 1 by omega) (show (i : Int) + 1 ≤ 9223372036854775807 by omega)]
      exact ih (i + 1) (by omega)
theorem place_le (s : ByteArray) : ∀ (l : List ByteArray) (i j : Nat), place s l i = some j → i ≤ j ∧ j < i + l.length
  | [], i, j, h => by simp [place] at h
  | x :: l, i, j, h => by
    unfold place at h
    split at h
    · have : i = j := by simpa using h
      subst this
      simp
    · have := place_le s l (i + 1) j h
      simp only [List.length_cons]
      omega
theorem place_shift (s : ByteArray) : ∀ (l : List ByteArray) (i m : Nat), place s l (i + m) = (place s l i).map (· + m)
  | [], i, m => rfl
  | x :: l, i, m => by
    unfold place
    split
    · rfl
    · rw [show i + m + 1 = (i + 1) + m by omega]
      exact place_shift s l (i + 1) m
theorem kind_ev (s : ByteArray) : Ev (fun k => goscan_Kind.f k s) (kindOf s) := by
  unfold goscan_Kind.f
  refine Ev.bind texts_ev ?_
  have h := index_loop s 73 0 rfl
  have hx : Ev (fun k => slices_Index_string_string.f k TX s) (match place s TX 0 with | some j => (j : Int) | none => -1) := by
    unfold slices_Index_string_string.f
    rw [TX_len]
    exact h
  refine Ev.bind hx ?_
  unfold kindOf
  have e := place_shift s TX 0 8
  rw [Nat.zero_add] at e
  rw [e]
  cases hp : place s TX 0 with
  | none => exact Ev.const (by decide +kernel)
  | some j =>
    have := place_le s TX 0 j hp
    rw [TX_len] at this
    simp only [Option.map_some]
    rw [if_neg (by omega)]
    refine Ev.const ?_
    rw [wr (by omega) (by omega)]
    congr 2
    omega
theorem same_loop (l : List S36) (hl : l.length ≤ 9223372036854775806) (n : Nat) : ∀ i : Nat, i + n = l.length → Ev (fun k => quoinref07_Same.l0 k l l i) true := by
  induction n with
  | zero =>
    intro i hi
    apply Ev.succ
    simp only [quoinref07_Same.l0, if_neg (show ¬ ((i : Nat) : Int) < ((l.length : Nat) : Int) by omega)]
    exact Ev.now _
  | succ n ih =>
    intro i hi
    apply Ev.succ
    simp only [quoinref07_Same.l0, if_pos (show ((i : Nat) : Int) < ((l.length : Nat) : Int) by omega), if_pos (show (0 : Int) ≤ ((i : Nat) : Int) by omega), beq_self_eq_true, Bool.not_true, Bool.or_self, Bool.false_eq_true, if_false, wr (show -9223372036854775808 ≤ (i : Int) + 1 by omega) (show (i : Int) + 1 ≤ 9223372036854775807 by omega)]
    exact ih (i + 1) (by omega)
theorem same_ev (l : List S36) (hl : l.length ≤ 9223372036854775806) : Ev (fun k => quoinref07_Same.f k l l) true := by
  unfold quoinref07_Same.f
  simp only [if_true]
  exact same_loop l hl l.length 0 (by omega)
theorem rd_at (l : List S36) (i : Nat) (h : i < l.length) : rd_T36 l (i : Int) = l[i] := by
  unfold rd_T36
  rw [List.getD_eq_getElem?_getD, Int.toNat_natCast, List.getElem?_eq_getElem h]
  rfl
def right (s : Nat) : Int → List S36 → Bool
  | _, [] => true
  | p, t :: l => decide (2 ≤ t.f0) && decide (t.f0 < 84) && decide (p ≤ t.f1) && decide (t.f1 ≤ t.f2) && decide (t.f2 ≤ (s : Int)) && right s t.f2 l
def code (b : Bool) : Int := if b then 0 else 71
theorem check_loop (ks : List ByteArray) (hk : ks.length = 84) (a : ByteArray) (l : List S36) (hl : l.length ≤ 65536) (n : Nat) : ∀ (i : Nat) (p : Int), i + n = l.length → ∃ j, Ev (fun k => token_Check.l0 k ks a p l (l.length : Int) i) (j, code (right a.size p (l.drop i))) := by
  induction n with
  | zero =>
    intro i p hi
    refine ⟨0, Ev.succ ?_⟩
    rw [List.drop_eq_nil_of_le (by omega)]
    simp only [token_Check.l0, if_neg (show ¬ ((i : Nat) : Int) < ((l.length : Nat) : Int) by omega), right, code, if_true]
    exact Ev.now _
  | succ n ih =>
    intro i p hi
    have hil : i < l.length := by omega
    rw [List.drop_eq_getElem_cons hil]
    obtain ⟨t, ht⟩ : ∃ t, l[i] = t := ⟨_, rfl⟩
    obtain ⟨j, hj⟩ := ih (i + 1) t.f2 (by omega)
    have key : ∃ j, Ev (fun k => token_Check.l0 (k + 1) ks a p l (l.length : Int) i) (j, code (right a.size p (t :: l.drop (i + 1)))) := by
      simp only [token_Check.l0, if_pos (show ((i : Nat) : Int) < ((l.length : Nat) : Int) by omega), if_pos (show (0 : Int) ≤ ((i : Nat) : Int) by omega), rd_at l i hil, ht, hk, right]
      by_cases c1 : t.f0 < 2
      · simp only [if_pos c1, decide_eq_false (show ¬ 2 ≤ t.f0 by omega), Bool.false_and, code]
        exact ⟨_, Ev.now _⟩
      by_cases c2 : t.f0 ≥ ((84 : Nat) : Int)
      · simp only [if_neg c1, if_pos c2, decide_eq_false (show ¬ t.f0 < 84 by omega), Bool.and_false, Bool.false_and, code]
        exact ⟨_, Ev.now _⟩
      by_cases c3 : t.f1 < p
      · simp only [if_neg c1, if_neg c2, if_pos c3, decide_eq_false (show ¬ p ≤ t.f1 by omega), Bool.and_false, Bool.false_and, code]
        exact ⟨_, Ev.now _⟩
      by_cases c4 : t.f2 < t.f1
      · simp only [if_neg c1, if_neg c2, if_neg c3, if_pos c4, decide_eq_false (show ¬ t.f1 ≤ t.f2 by omega), Bool.and_false, Bool.false_and, code]
        exact ⟨_, Ev.now _⟩
      by_cases c5 : t.f2 > (a.size : Int)
      · simp only [if_neg c1, if_neg c2, if_neg c3, if_neg c4, if_pos c5, decide_eq_false (show ¬ t.f2 ≤ (a.size : Int) by omega), Bool.and_false, Bool.false_and, code]
        exact ⟨_, Ev.now _⟩
      simp only [if_neg c1, if_neg c2, if_neg c3, if_neg c4, if_neg c5, decide_eq_true (show 2 ≤ t.f0 by omega), decide_eq_true (show t.f0 < 84 by omega), decide_eq_true (show p ≤ t.f1 by omega), decide_eq_true (show t.f1 ≤ t.f2 by omega), decide_eq_true (show t.f2 ≤ (a.size : Int) by omega), Bool.true_and, wr (show -9223372036854775808 ≤ (i : Int) + 1 by omega) (show (i : Int) + 1 ≤ 9223372036854775807 by omega)]
      exact ⟨j, hj⟩
    rw [ht]
    obtain ⟨j', h'⟩ := key
    exact ⟨j', Ev.succ h'⟩
theorem good_at : token_Kinds.good 120 KS = true := by decide +kernel
theorem tkinds_ev : Ev (fun k => token_Kinds.f k KS) 0 := by
  refine Ev.of (fun k => token_Kinds.mono KS k) (k := 120) ?_
  unfold token_Kinds.f
  rw [if_pos good_at]
def checkOf (a : ByteArray) (l : List S36) : Bool := decide (l.length ≤ 65536) && right a.size 0 l
theorem check_ev (a : ByteArray) (l : List S36) : ∃ j, Ev (fun k => token_Check.f k KS a l) (j, code (checkOf a l)) := by
  unfold token_Check.f checkOf
  by_cases c : (l.length : Int) > 65536
  · refine ⟨65536, Ev.bind tkinds_ev ?_⟩
    simp only [if_true, if_pos c, decide_eq_false (show ¬ l.length ≤ 65536 by omega), Bool.false_and, code]
    exact Ev.now _
  · obtain ⟨j, hj⟩ := check_loop KS KS_len a l (by omega) l.length 0 0 (by omega)
    refine ⟨j, Ev.bind tkinds_ev ?_⟩
    simp only [if_true, if_neg c, decide_eq_true (show l.length ≤ 65536 by omega), Bool.true_and]
    exact hj
def linedOf (a : ByteArray) (t : S36) : Bool := if t.f0 = 81 then true else if t.f0 = 83 then decide ((10 : UInt8) ∈ (a.extract t.f1.toNat t.f2.toNat).data.toList) else false
def ender (l : List S36) : S36 := ⟨semi, (rd_T36 l ((l.length : Int) - 1)).f2, (rd_T36 l ((l.length : Int) - 1)).f2⟩
  where semi : Int := (kindOf ⟨#[59]⟩).1
def ins (a : ByteArray) : List S36 → List S36 → Bool → List S36
  | [], o, b => if b then o ++ [ender o] else o
  | t :: l, o, b => if t.f0 < 81 then ins a l (o ++ [t]) (followsOf t.f0) else if b && linedOf a t then ins a l (o ++ [ender o]) false else ins a l o b
def insOf (a : ByteArray) (l : List S36) : List S36 × Int := if checkOf a l then (if 65536 < ((ins a l [] false).length : Int) then ([], 71) else (ins a l [] false, 0)) else ([], 71)
theorem rd_last (o : List S36) (t : S36) : rd_T36 (o ++ [t]) (((o ++ [t]).length : Int) - 1) = t := by
  have : (((o ++ [t]).length : Nat) : Int) - 1 = ((o.length : Nat) : Int) := by simp
  rw [this, rd_at (o ++ [t]) o.length (by simp)]
  simp
def Mark (o : List S36) (b : Bool) : Prop := b = true → ∃ o' t, o = o' ++ [t] ∧ (Lit.int .i64 t.f0).wf = true
def marked (o : List S36) (b : Bool) : Bool := b && followsOf (rd_T36 o ((o.length : Int) - 1)).f0
def ended (o : List S36) (b : Bool) : List S36 := if b then o ++ [ender o] else o
theorem endf_ev (o : List S36) (b : Bool) (hm : Mark o b) (hl : o.length < 5864062014805) : Ev (fun k => goscan_Insert.endf k ender.semi o b) (ended o (marked o b)) := by
  unfold goscan_Insert.endf marked ended
  cases b with
  | false => simp only [Bool.false_eq_true, if_false, Bool.false_and]; exact Ev.now _
  | true =>
    obtain ⟨o', t, rfl, hw⟩ := hm rfl
    simp only [if_true, if_pos (show 0 < (o' ++ [t]).length by simp), if_pos hl, Bool.true_and]
    refine Ev.bind (follows_ev _ (by rw [rd_last]; exact hw)) ?_
    cases followsOf (rd_T36 (o' ++ [t]) (((o' ++ [t]).length : Int) - 1)).f0 with
    | true => simp only [if_true]; exact Ev.now _
    | false => simp only [Bool.false_eq_true, if_false]; exact Ev.now _
theorem contains_nl (x : ByteArray) : strings_Contains.f x ⟨#[10]⟩ = some (decide ((10 : UInt8) ∈ x.data.toList)) := by
  unfold strings_Contains.f strings_Index.f stringslite_Index.f
  have : Lib.indexByte x.data.toList ((⟨#[10]⟩ : ByteArray).get! 0) = Lib.indexByte x.data.toList 10 := rfl
  rw [if_pos (show (⟨#[10]⟩ : ByteArray).size = 1 from rfl), this]
  simp only [Option.bind_some]
  have h := Lib.contains_iff_indexByte x.data.toList 10
  rw [List.contains_eq_mem] at h
  simp only [ge_iff_le]
  rw [h]
theorem ended_len (o : List S36) (b : Bool) : (ended o b).length ≤ o.length + 1 := by
  unfold ended; split <;> simp
theorem insert_loop (a : ByteArray) : ∀ (l o : List S36) (b : Bool) (p : Int), 0 ≤ p → right a.size p l = true → Mark o b → o.length + 2 * l.length ≤ 5864062014800 → ∃ s, Ev (fun k => goscan_Insert.loop k 81 ender.semi a l (o, b)) s ∧ Ev (fun k => goscan_Insert.endf k ender.semi s.1 s.2) (ins a l o (marked o b))
  | [], o, b, p, _, _, hm, hl => by
    refine ⟨(o, b), by simp only [goscan_Insert.loop]; exact Ev.now _, ?_⟩
    have := endf_ev o b hm (by simp at hl; omega)
    simpa only [ins, ended] using this
  | t :: l, o, b, p, hp, hr, hm, hl => by
    simp only [right, Bool.and_eq_true, decide_eq_true_eq] at hr
    obtain ⟨⟨⟨⟨⟨r1, r2⟩, r3⟩, r4⟩, r5⟩, hr'⟩ := hr
    simp only [List.length_cons] at hl
    have he := endf_ev o b hm (by omega)
    have hel := ended_len o (marked o b)
    have ih := fun o b (hm : Mark o b) (hl : o.length + 2 * l.length ≤ 5864062014800) => insert_loop a l o b t.f2 (by omega) hr' hm hl
    have nomark : ∀ o, Mark o false := fun o h => absurd h (by simp)
    have end_step : linedOf a t = true → ¬ t.f0 < 81 → ∃ s, Ev (fun k => (goscan_Insert.endf k ender.semi o b).bind fun o => goscan_Insert.loop k 81 ender.semi a l (o, false)) s ∧ Ev (fun k => goscan_Insert.endf k ender.semi s.1 s.2) (ins a (t :: l) o (marked o b)) := by
      intro hlin c1
      obtain ⟨s, h1, h2⟩ := ih (ended o (marked o b)) false (nomark _) (by omega)
      refine ⟨s, Ev.bind he h1, ?_⟩
      have e : ins a (t :: l) o (marked o b) = ins a l (ended o (marked o b)) (marked (ended o (marked o b)) false) := by
        simp only [ins, if_neg c1, hlin, Bool.and_true]
        show _ = ins a l (ended o (marked o b)) false
        unfold ended
        cases marked o b <;> simp
      rw [e]; exact h2
    simp only [goscan_Insert.loop]
    by_cases c1 : t.f0 < 81
    · simp only [if_pos c1, if_pos (show o.length < 5864062014805 by omega)]
      obtain ⟨s, h1, h2⟩ := ih (o ++ [t]) true (fun _ => ⟨o, t, rfl, wf_of (by omega) (by omega)⟩) (by simp; omega)
      refine ⟨s, h1, ?_⟩
      have e : ins a (t :: l) o (marked o b) = ins a l (o ++ [t]) (marked (o ++ [t]) true) := by
        simp only [ins, if_pos c1, marked, Bool.true_and, rd_last]
      rw [e]; exact h2
    simp only [if_neg c1]
    by_cases c2 : t.f0 = 81
    · simp only [if_pos c2]
      exact end_step (by simp [linedOf, c2]) c1
    simp only [if_neg c2, show wrap64 (81 + 2) = 83 by decide +kernel]
    by_cases c3 : t.f0 = 83
    · simp only [if_pos c3, if_pos (show 0 ≤ t.f1 by omega), if_pos r4, if_pos r5, contains_nl, Option.bind_some]
      by_cases c4 : (10 : UInt8) ∈ (a.extract t.f1.toNat t.f2.toNat).data.toList
      · simp only [decide_eq_true c4, if_true]
        exact end_step (by simp only [linedOf, if_neg c2, if_pos c3, decide_eq_true c4]) c1
      · simp only [decide_eq_false c4, Bool.false_eq_true, if_false]
        obtain ⟨s, h1, h2⟩ := ih o b hm (by omega)
        refine ⟨s, h1, ?_⟩
        have e : ins a (t :: l) o (marked o b) = ins a l o (marked o b) := by
          simp only [ins, if_neg c1, linedOf, if_neg c2, if_pos c3, decide_eq_false c4, Bool.and_false, Bool.false_eq_true, if_false]
        rw [e]; exact h2
    · simp only [if_neg c3]
      obtain ⟨s, h1, h2⟩ := ih o b hm (by omega)
      refine ⟨s, h1, ?_⟩
      have e : ins a (t :: l) o (marked o b) = ins a l o (marked o b) := by
        simp only [ins, if_neg c1, linedOf, if_neg c2, if_neg c3, Bool.and_false, Bool.false_eq_true, if_false]
      rw [e]; exact h2
theorem insert_ev (a : ByteArray) (l : List S36) : Ev (fun k => goscan_Insert.f k a l) (insOf a l) := by
  unfold goscan_Insert.f insOf
  obtain ⟨j, hj⟩ := check_ev a l
  refine Ev.bind kinds_ev (Ev.bind hj ?_)
  by_cases c : checkOf a l = true
  · have c' := c
    simp only [checkOf, Bool.and_eq_true, decide_eq_true_eq] at c'
    simp only [c, code, if_true]
    refine Ev.bind newline_ev (Ev.bind (kind_ev _) ?_)
    obtain ⟨s, h1, h2⟩ := insert_loop a l [] false 0 (by omega) c'.2 (fun h => absurd h (by simp)) (by simp; omega)
    refine Ev.bind h1 (Ev.bind h2 ?_)
    show Ev _ (if 65536 < ((ins a l [] (marked [] false)).length : Int) then ([], 71) else (ins a l [] (marked [] false), 0))
    split
    · exact Ev.now _
    · exact Ev.now _
  · rw [Bool.not_eq_true] at c
    simp only [c, code, Bool.false_eq_true, if_false]
    exact Ev.now _
theorem extract_list (a : ByteArray) (i j : Nat) : (a.extract i j).data.toList = (a.data.toList.drop i).take (j - i) := by
  rw [ByteArray.data_extract, Array.toList_extract, List.extract_eq_take_drop]
theorem right_get (s : Nat) : ∀ (l : List S36) (p : Int), 0 ≤ p → right s p l = true → ∀ t ∈ l, 2 ≤ t.f0 ∧ t.f0 < 84 ∧ 0 ≤ t.f1 ∧ t.f1 ≤ t.f2 ∧ t.f2 ≤ (s : Int)
  | [], _, _, _, _, h => absurd h (by simp)
  | u :: l, p, hp, hr, t, ht => by
    simp only [right, Bool.and_eq_true, decide_eq_true_eq] at hr
    rcases List.mem_cons.1 ht with rfl | h
    · omega
    · exact right_get s l u.f2 (by omega) hr.2 t h
theorem insOf_len (a : ByteArray) (l : List S36) : (insOf a l).1.length ≤ 65536 := by
  unfold insOf
  split
  · split
    · simp
    · simpa using (by omega : (ins a l [] false).length ≤ 65536)
  · simp
open Go.RowKit Go.Proofs.Ytcajiapjdlphmaa.H Go.Proofs.YtcajiapjdlphmaaW.PrintWords Go.Proofs.YtcajiapjdlphmaaW.PrintLast Go.Proofs.YtcajiapjdlphmaaW.PrintMore
set_option linter.unusedVariables false
set_option linter.unusedSimpArgs false
def rest (a : ByteArray) (p : Nat) : List UInt8 := a.data.toList.drop p
def hd (L : List UInt8) : Int := ((L.getD 0 0).toNat : Int)
theorem hd_range (L : List UInt8) : 0 ≤ hd L ∧ hd L ≤ 255 := by
  have := (L.getD 0 0).toNat_lt
  unfold hd
  omega
theorem rest_add (a : ByteArray) (p n : Nat) : rest a (p + n) = (rest a p).drop n := by unfold rest; rw [List.drop_drop]
theorem rest_len (a : ByteArray) (p : Nat) : (rest a p).length = a.size - p := by unfold rest; rw [List.length_drop]; rfl
theorem hd_rest (a : ByteArray) (p : Nat) (h : p < a.size) : bt a (p : Int) = hd (rest a p) := by
  have h' : p < a.data.toList.length := by simpa using h
  have e : rest a p = a.data.toList[p] :: a.data.toList.drop (p + 1) := List.drop_eq_getElem_cons h'
  rw [e]
  unfold bt hd
  rw [dif_pos (show (p : Int).toNat < a.size from h)]
  rfl
theorem hd_past (a : ByteArray) (p : Nat) (h : a.size ≤ p) : hd (rest a p) = 0 := by
  have : rest a p = [] := List.drop_eq_nil_of_le (by simpa using h)
  rw [this]; rfl
theorem hd_pos {L : List UInt8} (h : hd L ≠ 0) : 1 ≤ L.length := by
  cases L with
  | nil => exact absurd rfl h
  | cons x t => simp
theorem at_eq (a : ByteArray) (p : Nat) : goscan_at.f a (p : Int) = some (hd (rest a p)) := by
  unfold goscan_at.f
  by_cases h : p < a.size
  · rw [if_pos (by omega), if_pos (by omega), hd_rest a p h]
  · rw [if_neg (by omega), hd_past a p (by omega)]
theorem wrp {p n : Nat} (hp : p + n ≤ 1000000) : wrap64 ((p : Int) + (n : Int)) = ((p + n : Nat) : Int) := by rw [wr (by omega) (by omega)]; omega
theorem wrp1 {p : Nat} (hp : p + 1 ≤ 1000000) : wrap64 ((p : Int) + 1) = ((p + 1 : Nat) : Int) := wrp (n := 1) hp
theorem wrp2 {p : Nat} (hp : p + 2 ≤ 1000000) : wrap64 ((p : Int) + 2) = ((p + 2 : Nat) : Int) := wrp (n := 2) hp
def dig (c b : Int) : Bool := (decide (48 ≤ c) && decide (c ≤ 57) && decide (c - 48 < b)) || (decide (b = 16) && ((decide (97 ≤ c) && decide (c ≤ 102)) || (decide (65 ≤ c) && decide (c ≤ 70))))
def Base (b : Int) : Prop := b = 2 ∨ b = 8 ∨ b = 10 ∨ b = 16
theorem digit_all : ∀ c : Fin 256, goscan_digit.f c.1 2 = some (dig c.1 2) ∧ goscan_digit.f c.1 8 = some (dig c.1 8) ∧ goscan_digit.f c.1 10 = some (dig c.1 10) ∧ goscan_digit.f c.1 16 = some (dig c.1 16) := by decide +kernel
theorem digit_eq (c b : Int) (hb : Base b) (h0 : 0 ≤ c) (h1 : c ≤ 255) : goscan_digit.f c b = some (dig c b) := by
  have h := digit_all ⟨c.toNat, by omega⟩
  have e : ((⟨c.toNat, by omega⟩ : Fin 256).1 : Int) = c := by simp; omega
  rw [e] at h
  rcases hb with rfl | rfl | rfl | rfl
  · exact h.1
  · exact h.2.1
  · exact h.2.2.1
  · exact h.2.2.2
theorem dig_hd (L : List UInt8) (b : Int) (hb : Base b) : goscan_digit.f (hd L) b = some (dig (hd L) b) := digit_eq _ _ hb (hd_range L).1 (hd_range L).2
theorem dig_pos {c b : Int} (h : dig c b = true) : 48 ≤ c := by
  simp only [dig, Bool.or_eq_true, Bool.and_eq_true, decide_eq_true_eq] at h
  omega
theorem dig_len {L : List UInt8} {b : Int} (h : dig (hd L) b = true) : 1 ≤ L.length := hd_pos (by have := dig_pos h; omega)
def more (b : Int) (L : List UInt8) : Nat :=
  if h : dig (hd L) b = true then more b (L.drop 1) + 1 else if h2 : hd L = 95 ∧ dig (hd (L.drop 1)) b = true then more b (L.drop 2) + 2 else 0
  termination_by L.length
  decreasing_by
    · have := dig_len h; simp; omega
    · have := hd_pos (L := L) (by omega); simp; omega
theorem more_le_n (b : Int) (n : Nat) : ∀ L : List UInt8, L.length ≤ n → more b L ≤ L.length := by
  induction n using Nat.strongRecOn with
  | _ n ih =>
    intro L hn
    rw [more]
    split
    · rename_i h
      have h1 := dig_len h
      have := ih (n - 1) (by omega) (L.drop 1) (by rw [List.length_drop]; omega)
      rw [List.length_drop] at this; omega
    · split
      · rename_i h
        have h1 := dig_len h.2
        rw [List.length_drop] at h1
        have := ih (n - 1) (by omega) (L.drop 2) (by rw [List.length_drop]; omega)
        rw [List.length_drop] at this; omega
      · omega
theorem more_le (b : Int) (L : List UInt8) : more b L ≤ L.length := more_le_n b _ L (Nat.le_refl _)
theorem more_ev (a : ByteArray) (ha : a.size ≤ 262144) (b : Int) (hb : Base b) (n : Nat) : ∀ p : Nat, p ≤ 262160 → (rest a p).length ≤ n → Ev (fun k => goscan_more.l0 k a p b) ((p + more b (rest a p) : Nat) : Int) := by
  induction n using Nat.strongRecOn with
  | _ n ih =>
    intro p hp hn
    have hl := rest_len a p
    apply Ev.succ
    simp only [goscan_more.l0, at_eq, Option.bind_some, dig_hd _ b hb]
    rw [more]
    by_cases c1 : dig (hd (rest a p)) b = true
    · have := dig_len c1
      rw [dif_pos c1]
      simp only [c1, if_true, wrp1 (show p + 1 ≤ 1000000 by omega)]
      have h := ih (n - 1) (by omega) (p + 1) (by omega) (by rw [rest_len]; omega)
      rw [rest_add] at h
      rw [show p + (more b ((rest a p).drop 1) + 1) = p + 1 + more b ((rest a p).drop 1) by omega]
      exact h
    · rw [dif_neg c1]
      rw [Bool.not_eq_true] at c1
      simp only [c1, Bool.false_eq_true, if_false]
      by_cases c2 : hd (rest a p) = 95
      · have := hd_pos (L := rest a p) (by omega)
        simp only [if_pos c2, wrp1 (show p + 1 ≤ 1000000 by omega), at_eq, Option.bind_some, dig_hd _ b hb, rest_add]
        by_cases c3 : dig (hd ((rest a p).drop 1)) b = true
        · have h3 := dig_len c3
          rw [List.length_drop] at h3
          rw [dif_pos ⟨c2, c3⟩]
          simp only [c3, if_true, wrp2 (show p + 2 ≤ 1000000 by omega)]
          have h := ih (n - 1) (by omega) (p + 2) (by omega) (by rw [rest_len]; omega)
          rw [rest_add] at h
          rw [show p + (more b ((rest a p).drop 2) + 2) = p + 2 + more b ((rest a p).drop 2) by omega]
          exact h
        · rw [dif_neg (fun h => c3 h.2)]
          rw [Bool.not_eq_true] at c3
          simp only [c3, Bool.false_eq_true, if_false]
          exact Ev.now _
      · rw [dif_neg (fun h => c2 h.1)]
        simp only [if_neg c2]
        exact Ev.now _
theorem more_ev' (a : ByteArray) (ha : a.size ≤ 262144) (b : Int) (hb : Base b) (p : Nat) (hp : p ≤ 262160) : Ev (fun k => goscan_more.f k a p b) ((p + more b (rest a p) : Nat) : Int) := more_ev a ha b hb _ p hp (Nat.le_refl _)
def ab (p : Nat) (r : Int) : Int := if r < 0 then -1 else p + r
def Fit (L : List UInt8) (r : Int) : Prop := r = -1 ∨ (1 ≤ r ∧ r ≤ (L.length : Int))
theorem ab_none (p : Nat) : ab p (-1) = -1 := rfl
theorem ab_some {p : Nat} {r : Int} (h : 0 ≤ r) : ab p r = p + r := if_neg (by omega)
theorem mx_max (a b : Int) : mx a b = max a b := by unfold mx; split <;> omega
theorem mx_ab (p : Nat) {r s : Int} (hr : -1 ≤ r) (hs : -1 ≤ s) : mx (ab p r) (ab p s) = ab p (max r s) := by
  rw [mx_max]; unfold ab; split <;> split <;> split <;> omega
def number (b : Int) (L : List UInt8) : Int := if dig (hd L) b then (more b L : Int) else -1
theorem more_pos {b : Int} {L : List UInt8} (h : dig (hd L) b = true) : 1 ≤ more b L := by rw [more, dif_pos h]; omega
theorem number_fit (b : Int) (L : List UInt8) : Fit L (number b L) := by
  unfold number Fit
  split
  · rename_i h
    have := more_pos h
    have := more_le b L
    omega
  · exact .inl rfl
theorem gnum_ev (a : ByteArray) (ha : a.size ≤ 262144) (b : Int) (hb : Base b) (p : Nat) (hp : p ≤ 262160) : Ev (fun k => goscan_number.f k a p b) (ab p (number b (rest a p))) := by
  unfold goscan_number.f number
  simp only [at_eq, Option.bind_some, dig_hd _ b hb]
  by_cases c : dig (hd (rest a p)) b = true
  · simp only [c, if_true]
    refine Ev.bind (more_ev' a ha b hb p hp) ?_
    rw [ab_some (by omega), show ((p + more b (rest a p) : Nat) : Int) = (p : Int) + (more b (rest a p) : Int) by omega]
    exact Ev.now _
  · rw [Bool.not_eq_true] at c
    simp only [c, Bool.false_eq_true, if_false]
    exact Ev.now _
theorem is_eq (a : ByteArray) (p : Nat) (c d : Int) (hc : 0 < c) (hd' : 0 < d) : goscan_is.f a p c d = some (decide (hd (rest a p) = c ∨ hd (rest a p) = d)) := by
  unfold goscan_is.f
  by_cases h : p < a.size
  · rw [if_pos (by omega), if_pos (by omega), hd_rest a p h]
    by_cases e : hd (rest a p) = c
    · rw [if_pos e, decide_eq_true (.inl e)]
    · rw [if_neg e]
      congr 1
      by_cases e2 : hd (rest a p) = d
      · rw [decide_eq_true (.inr e2), e2]; simp
      · rw [decide_eq_false (fun h => h.elim e e2)]; simpa using e2
  · rw [if_neg (by omega), hd_past a p (by omega), decide_eq_false (by omega)]
def pre (c d b : Int) (L : List UInt8) : Int := if (hd (L.drop 1) = c ∨ hd (L.drop 1) = d) ∧ 0 < more b (L.drop 2) then 2 + (more b (L.drop 2) : Int) else 0
def wholeOf (L : List UInt8) : Int := if hd L = 48 then max (max (max (1 + (more 8 (L.drop 1) : Int)) (pre 98 66 2 L)) (pre 111 79 8 L)) (pre 120 88 16 L) else number 10 L
theorem whole_step (a : ByteArray) (ha : a.size ≤ 262144) (p : Nat) (hp : p ≤ 262144) (Y : List S95) (i : Nat) (hi : i < Y.length) (hy : Y.length ≤ 10) (c d b : Int) (he : rd_T95 Y i = ⟨c, d, b⟩) (hb : Base b) (hc : 0 < c) (hd' : 0 < d) (m : Int) (hm : 1 ≤ m) (r : Int)
    (h : Ev (fun k => goscan_wholeForm.l0 k a p (p + max m (pre c d b (rest a p))) Y (Y.length : Int) ((i + 1 : Nat) : Int)) r) : Ev (fun k => goscan_wholeForm.l0 k a p (p + m) Y (Y.length : Int) (i : Int)) r := by
  apply Ev.succ
  simp only [goscan_wholeForm.l0, if_pos (show (i : Int) < (Y.length : Int) by omega), if_pos (show (0 : Int) ≤ (i : Int) by omega), he, wrp1 (show p + 1 ≤ 1000000 by omega), wrp2 (show p + 2 ≤ 1000000 by omega), wrp1 (show i + 1 ≤ 1000000 by omega), is_eq _ _ _ _ hc hd', Option.bind_some, rest_add]
  unfold pre at h
  by_cases c1 : hd ((rest a p).drop 1) = c ∨ hd ((rest a p).drop 1) = d
  · simp only [decide_eq_true c1, if_true]
    refine Ev.bind (more_ev' a ha b hb (p + 2) (by omega)) ?_
    rw [rest_add]
    by_cases c2 : 0 < more b ((rest a p).drop 2)
    · rw [if_pos ⟨c1, c2⟩] at h
      simp only [if_pos (show ((p + 2 + more b ((rest a p).drop 2) : Nat) : Int) > ((p + 2 : Nat) : Int) by omega), mx_max]
      rw [show max ((p : Int) + m) ((p + 2 + more b ((rest a p).drop 2) : Nat) : Int) = (p : Int) + max m (2 + (more b ((rest a p).drop 2) : Int)) by omega]
      exact h
    · rw [if_neg (fun x => c2 x.2)] at h
      simp only [if_neg (show ¬ ((p + 2 + more b ((rest a p).drop 2) : Nat) : Int) > ((p + 2 : Nat) : Int) by omega)]
      rw [show max m 0 = m by omega] at h
      exact h
  · simp only [decide_eq_false c1, Bool.false_eq_true, if_false]
    rw [if_neg (fun x => c1 x.1), show max m 0 = m by omega] at h
    exact h
theorem pre_len (c d b : Int) (L : List UInt8) : pre c d b L ≤ (L.length : Int) := by
  unfold pre
  split
  · rename_i h
    have := more_le b (L.drop 2)
    rw [List.length_drop] at this
    omega
  · omega
theorem whole_fit (L : List UInt8) : Fit L (wholeOf L) := by
  unfold wholeOf
  split
  · rename_i h
    have h1 := hd_pos (L := L) (by omega)
    have h2 := more_le 8 (L.drop 1)
    rw [List.length_drop] at h2
    have := pre_len 98 66 2 L
    have := pre_len 111 79 8 L
    have := pre_len 120 88 16 L
    right; omega
  · exact number_fit 10 L
theorem b2 : Base 2 := .inl rfl
theorem b8 : Base 8 := .inr (.inl rfl)
theorem b10 : Base 10 := .inr (.inr (.inl rfl))
theorem b16 : Base 16 := .inr (.inr (.inr rfl))
theorem whole_ev (a : ByteArray) (ha : a.size ≤ 262144) (p : Nat) (hp : p ≤ 262144) : Ev (fun k => goscan_wholeForm.f k a p) (ab p (wholeOf (rest a p))) := by
  unfold goscan_wholeForm.f wholeOf
  simp only [at_eq, Option.bind_some]
  by_cases c : hd (rest a p) = 48
  · simp only [if_pos c, wrp1 (show p + 1 ≤ 1000000 by omega)]
    refine Ev.bind (more_ev' a ha 8 b8 (p + 1) (by omega)) ?_
    rw [rest_add, mx_max, show max ((p + 1 : Nat) : Int) ((p + 1 + more 8 ((rest a p).drop 1) : Nat) : Int) = (p : Int) + (1 + (more 8 ((rest a p).drop 1) : Int)) by omega]
    have s := fun i hi c d b he hb hc hd m hm r h => whole_step a ha p hp [⟨98, 66, 2⟩, ⟨111, 79, 8⟩, ⟨120, 88, 16⟩] i hi (by decide) c d b he hb hc hd m hm r h
    refine s 0 (by decide) 98 66 2 rfl b2 (by omega) (by omega) _ (by omega) _ ?_
    refine s 1 (by decide) 111 79 8 rfl b8 (by omega) (by omega) _ (by omega) _ ?_
    refine s 2 (by decide) 120 88 16 rfl b16 (by omega) (by omega) _ (by omega) _ ?_
    apply Ev.succ
    rw [ab_some (by omega)]
    simp only [goscan_wholeForm.l0, if_neg (show ¬ ((2 + 1 : Nat) : Int) < (([⟨98, 66, 2⟩, ⟨111, 79, 8⟩, ⟨120, 88, 16⟩] : List S95).length : Int) by decide)]
    exact Ev.now _
  · simp only [if_neg c, dig_hd _ 10 b10, Option.bind_some]
    unfold number
    by_cases c1 : dig (hd (rest a p)) 10 = true
    · simp only [c1, if_true]
      refine Ev.bind (more_ev' a ha 10 b10 p (by omega)) ?_
      rw [ab_some (by omega), show ((p + more 10 (rest a p) : Nat) : Int) = (p : Int) + (more 10 (rest a p) : Int) by omega]
      exact Ev.now _
    · rw [Bool.not_eq_true] at c1
      simp only [c1, Bool.false_eq_true, if_false]
      exact Ev.now _
def nm (b : Int) (L : List UInt8) : Nat := if dig (hd L) b then more b L else 0
theorem nm_le (b : Int) (L : List UInt8) : nm b L ≤ L.length := by
  unfold nm; split
  · exact more_le b L
  · omega
theorem number_nm (b : Int) (L : List UInt8) : number b L = if 0 < nm b L then (nm b L : Int) else -1 := by
  unfold number nm
  split
  · rename_i h
    rw [if_pos (show 0 < more b L from more_pos h)]
  · simp
def sh (s : Nat) (n : Int) : Int := if n < 0 then -1 else s + n
theorem ab_sh (p s : Nat) (n : Int) : ab (p + s) n = ab p (sh s n) := by
  unfold ab sh; split <;> split <;> omega
theorem sh_fit {L : List UInt8} {s : Nat} {n : Int} (h : Fit (L.drop s) n) : Fit L (sh s n) := by
  unfold Fit at *
  rw [List.length_drop] at h
  unfold sh
  split <;> omega
theorem max_fit {L : List UInt8} {r s : Int} (h : Fit L r) (h2 : Fit L s) : Fit L (max r s) := by unfold Fit at *; omega
theorem fit_ge {L : List UInt8} {r : Int} (h : Fit L r) : -1 ≤ r := by unfold Fit at *; omega
theorem fit_none (L : List UInt8) : Fit L (-1) := .inl rfl
def powerOf (c d : Int) (L : List UInt8) : Int := if hd L = c ∨ hd L = d then (if hd (L.drop 1) = 43 ∨ hd (L.drop 1) = 45 then sh 2 (number 10 (L.drop 2)) else sh 1 (number 10 (L.drop 1))) else -1
theorem power_fit (c d : Int) (L : List UInt8) : Fit L (powerOf c d L) := by
  unfold powerOf
  split
  · split
    · exact sh_fit (number_fit _ _)
    · exact sh_fit (number_fit _ _)
  · exact fit_none L
theorem power_ev (a : ByteArray) (ha : a.size ≤ 262144) (c d : Int) (hc : 0 < c) (hd' : 0 < d) (p : Nat) (hp : p ≤ 262150) : Ev (fun k => goscan_powerForm.f k a p c d) (ab p (powerOf c d (rest a p))) := by
  unfold goscan_powerForm.f powerOf
  simp only [is_eq _ _ _ _ hc hd', Option.bind_some, wrp1 (show p + 1 ≤ 1000000 by omega)]
  by_cases c1 : hd (rest a p) = c ∨ hd (rest a p) = d
  · simp only [decide_eq_true c1, if_true, if_pos c1, is_eq a (p + 1) 43 45 (by omega) (by omega), rest_add, wrp1 (show p + 1 + 1 ≤ 1000000 by omega), Option.bind_some]
    by_cases c2 : hd ((rest a p).drop 1) = 43 ∨ hd ((rest a p).drop 1) = 45
    · simp only [decide_eq_true c2, if_true, if_pos c2]
      have h := gnum_ev a ha 10 b10 (p + 1 + 1) (by omega)
      rw [show p + 1 + 1 = p + 2 by omega, rest_add, ab_sh] at h
      exact Ev.bind h (Ev.now _)
    · simp only [decide_eq_false c2, Bool.false_eq_true, if_false, if_neg c2]
      have h := gnum_ev a ha 10 b10 (p + 1) (by omega)
      rw [rest_add, ab_sh] at h
      exact Ev.bind h (Ev.now _)
  · simp only [decide_eq_false c1, Bool.false_eq_true, if_false, if_neg c1]
    exact Ev.now _
def frac (b : Int) (m : Nat) (L : List UInt8) : Nat := m + 1 + nm b (L.drop (m + 1))
def hexOf (L : List UInt8) : Int :=
  if hd L = 48 ∧ (hd (L.drop 1) = 120 ∨ hd (L.drop 1) = 88) then
    if 0 < more 16 (L.drop 2) then
      (if hd (L.drop (2 + more 16 (L.drop 2))) = 46 then sh (frac 16 (2 + more 16 (L.drop 2)) L) (powerOf 112 80 (L.drop (frac 16 (2 + more 16 (L.drop 2)) L))) else sh (2 + more 16 (L.drop 2)) (powerOf 112 80 (L.drop (2 + more 16 (L.drop 2)))))
    else if hd (L.drop 2) = 46 ∧ 0 < nm 16 (L.drop 3) then sh (3 + nm 16 (L.drop 3)) (powerOf 112 80 (L.drop (3 + nm 16 (L.drop 3)))) else -1
  else -1
theorem hex_fit (L : List UInt8) : Fit L (hexOf L) := by
  unfold hexOf
  split
  · split
    · split
      · exact sh_fit (power_fit _ _ _)
      · exact sh_fit (power_fit _ _ _)
    · split
      · exact sh_fit (power_fit _ _ _)
      · exact fit_none L
  · exact fit_none L
theorem frac_ab (b : Int) (p m : Nat) (L : List UInt8) : mx ((p + m + 1 : Nat) : Int) (ab (p + m + 1) (number b (L.drop (m + 1)))) = ((p + frac b m L : Nat) : Int) := by
  rw [mx_max, number_nm]
  unfold frac ab
  split <;> split <;> omega
theorem hex_ev (a : ByteArray) (ha : a.size ≤ 262144) (p : Nat) (hp : p ≤ 262144) : Ev (fun k => goscan_hexForm.f k a p) (ab p (hexOf (rest a p))) := by
  unfold goscan_hexForm.f
  obtain ⟨L, hL⟩ : ∃ L, rest a p = L := ⟨_, rfl⟩
  have hlen := rest_len a p
  rw [hL] at hlen
  have hpw : ∀ q : Nat, p + q ≤ 262150 → Ev (fun k => goscan_powerForm.f k a ((p + q : Nat) : Int) 112 80) (ab p (sh q (powerOf 112 80 (L.drop q)))) := fun q hq => by
    have := power_ev a ha 112 80 (by omega) (by omega) (p + q) (by omega)
    rwa [rest_add, hL, ab_sh] at this
  have stop : Ev (fun k => goscan_hexForm.j0 k a p true) (-1) := by
    apply Ev.succ
    simp only [goscan_hexForm.j0, if_true]
    exact Ev.now _
  simp only [at_eq, Option.bind_some, wrp1 (show p + 1 ≤ 1000000 by omega), is_eq a (p + 1) 120 88 (by omega) (by omega), rest_add, hL]
  unfold hexOf
  by_cases c0 : hd L = 48
  rotate_left
  · simp only [if_neg c0]
    rw [if_neg (fun h => c0 h.1)]
    exact stop
  simp only [if_pos c0]
  by_cases c1 : hd (L.drop 1) = 120 ∨ hd (L.drop 1) = 88
  rotate_left
  · rw [if_neg (fun h => c1 h.2)]
    simp only [decide_eq_false c1, Bool.not_false]
    exact stop
  rw [if_pos ⟨c0, c1⟩]
  simp only [decide_eq_true c1, Bool.not_true]
  have l0 := hd_pos (L := L) (by omega)
  have l1 := hd_pos (L := L.drop 1) (by omega)
  rw [List.length_drop] at l1
  apply Ev.succ
  simp only [goscan_hexForm.j0, Bool.false_eq_true, if_false, wrp2 (show p + 2 ≤ 1000000 by omega)]
  refine Ev.bind (more_ev' a ha 16 b16 (p + 2) (by omega)) ?_
  rw [rest_add, hL]
  have lm := more_le 16 (L.drop 2)
  rw [List.length_drop] at lm
  obtain ⟨m, hm⟩ : ∃ m, more 16 (L.drop 2) = m := ⟨_, rfl⟩
  rw [hm] at lm ⊢
  by_cases c2 : 0 < m
  · simp only [if_pos (show ((p + 2 + m : Nat) : Int) > ((p + 2 : Nat) : Int) by omega), if_pos c2, at_eq, Option.bind_some]
    rw [show p + 2 + m = p + (2 + m) by omega, rest_add, hL]
    apply Ev.succ
    by_cases c3 : hd (L.drop (2 + m)) = 46
    · simp only [goscan_hexForm.j1, c3, beq_self_eq_true, if_true, wrp1 (show p + (2 + m) + 1 ≤ 1000000 by omega)]
      refine Ev.bind (gnum_ev a ha 16 b16 (p + (2 + m) + 1) (by omega)) ?_
      rw [show p + (2 + m) + 1 = p + (2 + m + 1) by omega, rest_add, hL, show p + (2 + m + 1) = p + (2 + m) + 1 by omega, frac_ab]
      have l3 := hd_pos (L := L.drop (2 + m)) (by omega)
      rw [List.length_drop] at l3
      have l4 := nm_le 16 (L.drop (2 + m + 1))
      rw [List.length_drop] at l4
      simp only [if_neg (show ¬ ((p + frac 16 (2 + m) L : Nat) : Int) < 0 by omega)]
      exact Ev.bind (hpw _ (by unfold frac; omega)) (Ev.now _)
    · rw [if_neg c3, show (hd (L.drop (2 + m)) == 46) = false from beq_eq_false_iff_ne.2 c3]
      simp only [goscan_hexForm.j1, Bool.false_eq_true, if_false, if_neg (show ¬ ((p + (2 + m) : Nat) : Int) = ((p + 2 : Nat) : Int) by omega), if_neg (show ¬ ((p + (2 + m) : Nat) : Int) < 0 by omega)]
      exact Ev.bind (hpw _ (by omega)) (Ev.now _)
  · rw [show m = 0 by omega]
    simp only [if_neg (show ¬ ((p + 2 + 0 : Nat) : Int) > ((p + 2 : Nat) : Int) by omega), if_neg (show ¬ 0 < 0 by omega)]
    apply Ev.succ
    simp only [goscan_hexForm.j1, Bool.false_eq_true, if_false, Nat.add_zero, if_true, at_eq, Option.bind_some, rest_add, hL, wrp1 (show p + 2 + 1 ≤ 1000000 by omega)]
    by_cases c3 : hd (L.drop 2) = 46
    · simp only [if_pos c3]
      refine Ev.bind (gnum_ev a ha 16 b16 (p + 2 + 1) (by omega)) ?_
      rw [show p + 2 + 1 = p + 3 by omega, rest_add, hL, number_nm]
      have l3 := hd_pos (L := L.drop 2) (by omega)
      rw [List.length_drop] at l3
      have l4 := nm_le 16 (L.drop 3)
      rw [List.length_drop] at l4
      by_cases c4 : 0 < nm 16 (L.drop 3)
      · rw [if_pos c4, if_pos ⟨c3, c4⟩, ab_some (by omega)]
        simp only [if_neg (show ¬ ((p + 3 : Nat) : Int) + (nm 16 (L.drop 3) : Int) < 0 by omega)]
        rw [show ((p + 3 : Nat) : Int) + (nm 16 (L.drop 3) : Int) = ((p + (3 + nm 16 (L.drop 3)) : Nat) : Int) by omega]
        exact Ev.bind (hpw _ (by omega)) (Ev.now _)
      · rw [if_neg c4, if_neg (fun h => c4 h.2), ab_none]
        simp only [if_pos (show (-1 : Int) < 0 by omega)]
        exact Ev.now _
    · rw [if_neg (fun h => c3 h.1)]
      simp only [if_neg c3]
      exact Ev.now _
def dotOf (L : List UInt8) : Int := if 0 < nm 10 L then (if hd (L.drop (nm 10 L)) = 46 then (frac 10 (nm 10 L) L : Int) else -1) else if hd L = 46 then sh 1 (number 10 (L.drop 1)) else -1
def expOf (L : List UInt8) (q : Int) : Int := if q < 0 then -1 else sh q.toNat (powerOf 101 69 (L.drop q.toNat))
def brokenOf (L : List UInt8) : Int := max (max (dotOf L) (expOf L (max (number 10 L) (dotOf L)))) (hexOf L)
theorem dot_fit (L : List UInt8) : Fit L (dotOf L) := by
  unfold dotOf
  split
  · split
    · rename_i h h2
      have l3 := hd_pos (L := L.drop (nm 10 L)) (by omega)
      rw [List.length_drop] at l3
      have l4 := nm_le 10 (L.drop (nm 10 L + 1))
      rw [List.length_drop] at l4
      right; unfold frac; omega
    · exact fit_none L
  · split
    · exact sh_fit (number_fit _ _)
    · exact fit_none L
theorem exp_fit (L : List UInt8) (q : Int) : Fit L (expOf L q) := by
  unfold expOf
  split
  · exact fit_none L
  · exact sh_fit (power_fit _ _ _)
theorem broken_fit (L : List UInt8) : Fit L (brokenOf L) := max_fit (max_fit (dot_fit L) (exp_fit L _)) (hex_fit L)
theorem broken_ev (a : ByteArray) (ha : a.size ≤ 262144) (p : Nat) (hp : p ≤ 262144) : Ev (fun k => goscan_brokenForm.f k a p) (ab p (brokenOf (rest a p))) := by
  obtain ⟨L, hL⟩ : ∃ L, rest a p = L := ⟨_, rfl⟩
  have hlen := rest_len a p
  have hnum := gnum_ev a ha 10 b10 p (by omega)
  have hhex := hex_ev a ha p hp
  rw [hL] at hlen hnum hhex ⊢
  have fin : ∀ (t : Int), Fit L t → t = number 10 L → Ev (fun k => goscan_brokenForm.j1 k a p (ab p (dotOf L)) (ab p t)) (ab p (brokenOf L)) := by
    intro t ht et
    have hd' := dot_fit L
    apply Ev.succ
    simp only [goscan_brokenForm.j1]
    rw [mx_ab p (fit_ge ht) (fit_ge hd')]
    have hq := max_fit ht hd'
    unfold brokenOf
    rw [← et]
    obtain ⟨q, eq⟩ : ∃ q, max t (dotOf L) = q := ⟨_, rfl⟩
    rw [eq] at hq ⊢
    by_cases c : q < 0
    · have e1 : ab p q = -1 := if_pos c
      have e2 : expOf L q = -1 := if_pos c
      rw [e1, e2]
      simp only [if_neg (show ¬ (-1 : Int) ≥ 0 by omega)]
      refine Ev.bind hhex ?_
      rw [mx_ab p (fit_ge hd') (fit_ge (hex_fit L)), show max (dotOf L) (-1) = dotOf L by have := fit_ge hd'; omega]
      exact Ev.now _
    · obtain ⟨m, em⟩ : ∃ m : Nat, q = m := ⟨q.toNat, by omega⟩
      subst em
      have e2 : expOf L (m : Int) = sh m (powerOf 101 69 (L.drop m)) := if_neg c
      rw [ab_some (by omega), e2]
      have hm : m ≤ L.length := by unfold Fit at hq; omega
      simp only [if_pos (show (p : Int) + (m : Int) ≥ 0 by omega)]
      have hpw := power_ev a ha 101 69 (by omega) (by omega) (p + m) (by omega)
      rw [rest_add, hL, ab_sh] at hpw
      refine Ev.bind (g := fun k => goscan_powerForm.f k a ((p : Int) + (m : Int)) 101 69) hpw (Ev.bind hhex ?_)
      have hs := sh_fit (L := L) (s := m) (power_fit 101 69 (L.drop m))
      rw [mx_ab p (fit_ge hd') (fit_ge hs), mx_ab p (fit_ge (max_fit hd' hs)) (fit_ge (hex_fit L))]
      exact Ev.now _
  unfold goscan_brokenForm.f
  refine Ev.bind hnum ?_
  by_cases c0 : 0 < nm 10 L
  · have en : number 10 L = (nm 10 L : Int) := by rw [number_nm, if_pos c0]
    have ln := nm_le 10 L
    rw [en, ab_some (by omega)]
    simp only [if_pos (show (p : Int) + (nm 10 L : Int) ≥ 0 by omega)]
    rw [show (p : Int) + (nm 10 L : Int) = ((p + nm 10 L : Nat) : Int) by omega, at_eq, rest_add, hL]
    simp only [Option.bind_some]
    apply Ev.succ
    have fin := fin (nm 10 L) (by have := number_fit 10 L; rwa [en] at this) en.symm
    rw [ab_some (show (0 : Int) ≤ (nm 10 L : Int) by omega)] at fin
    unfold dotOf at fin
    rw [if_pos c0] at fin
    by_cases c1 : hd (L.drop (nm 10 L)) = 46
    · simp only [goscan_brokenForm.j0, c1, beq_self_eq_true, if_true, wrp1 (show p + nm 10 L + 1 ≤ 1000000 by omega)]
      refine Ev.bind (gnum_ev a ha 10 b10 (p + nm 10 L + 1) (by omega)) ?_
      rw [show p + nm 10 L + 1 = p + (nm 10 L + 1) by omega, rest_add, hL, show p + (nm 10 L + 1) = p + nm 10 L + 1 by omega, frac_ab]
      rw [if_pos c1, ab_some (by omega)] at fin
      exact fin
    · rw [if_neg c1] at fin
      rw [show (hd (L.drop (nm 10 L)) == 46) = false from beq_eq_false_iff_ne.2 c1]
      simp only [goscan_brokenForm.j0, Bool.false_eq_true, if_false, if_neg (show ¬ ((p + nm 10 L : Nat) : Int) < 0 by omega)]
      exact fin
  · have en : number 10 L = -1 := by rw [number_nm, if_neg c0]
    rw [en, ab_none]
    simp only [if_neg (show ¬ (-1 : Int) ≥ 0 by omega)]
    apply Ev.succ
    simp only [goscan_brokenForm.j0, Bool.false_eq_true, if_false, if_pos (show (-1 : Int) < 0 by omega), at_eq, Option.bind_some, hL]
    have fin := fin (-1) (fit_none L) en.symm
    rw [ab_none] at fin
    unfold dotOf at fin
    rw [if_neg c0] at fin
    by_cases c1 : hd L = 46
    · simp only [if_pos c1, wrp1 (show p + 1 ≤ 1000000 by omega)]
      refine Ev.bind (gnum_ev a ha 10 b10 (p + 1) (by omega)) ?_
      rw [rest_add, hL, ab_sh]
      rw [if_pos c1] at fin
      exact fin
    · simp only [if_neg c1]
      rw [if_neg c1] at fin
      exact fin
def withI (L : List UInt8) (r : Int) : Int := if r > 0 ∧ hd (L.drop r.toNat) = 105 then r + 1 else -1
def imagOf (L : List UInt8) : Int := max (max (withI L (number 10 L)) (withI L (wholeOf L))) (withI L (brokenOf L))
theorem withI_fit {L : List UInt8} {r : Int} (h : Fit L r) : Fit L (withI L r) := by
  unfold withI
  split
  · rename_i c
    have l3 := hd_pos (L := L.drop r.toNat) (by omega)
    rw [List.length_drop] at l3
    right; omega
  · exact fit_none L
theorem imag_fit (L : List UInt8) : Fit L (imagOf L) := max_fit (max_fit (withI_fit (number_fit 10 L)) (withI_fit (whole_fit L))) (withI_fit (broken_fit L))
theorem imag_step (a : ByteArray) (ha : a.size ≤ 262144) (p : Nat) (hp : p ≤ 262144) (Y : List Int) (i : Nat) (hi : i < Y.length) (hy : Y.length ≤ 10) (t : Int) (ht : Fit (rest a p) t) (he : rd Y i = ab p t) (m : Int) (hm : -1 ≤ m) (r : Int)
    (h : Ev (fun k => goscan_imagForm.l0 k a p (ab p (max m (withI (rest a p) t))) Y (Y.length : Int) ((i + 1 : Nat) : Int)) r) : Ev (fun k => goscan_imagForm.l0 k a p (ab p m) Y (Y.length : Int) (i : Int)) r := by
  apply Ev.succ
  have hlen := rest_len a p
  simp only [goscan_imagForm.l0, if_pos (show (i : Int) < (Y.length : Int) by omega), if_pos (show (0 : Int) ≤ (i : Int) by omega), he, wrp1 (show i + 1 ≤ 1000000 by omega)]
  unfold withI at h
  by_cases c : t > 0
  · obtain ⟨n, rfl⟩ : ∃ n : Nat, t = n := ⟨t.toNat, by omega⟩
    have hn : n ≤ (rest a p).length := by unfold Fit at ht; omega
    rw [ab_some (show (0 : Int) ≤ (n : Int) by omega)]
    simp only [if_pos (show (p : Int) + (n : Int) > (p : Int) by omega)]
    rw [show (p : Int) + (n : Int) = ((p + n : Nat) : Int) by omega]
    simp only [at_eq, Option.bind_some, rest_add, wrp1 (show p + n + 1 ≤ 1000000 by omega)]
    rw [Int.toNat_natCast] at h
    by_cases c2 : hd ((rest a p).drop n) = 105
    · simp only [if_pos c2]
      rw [if_pos ⟨c, c2⟩] at h
      have e := mx_ab p (r := m) (s := (n : Int) + 1) hm (by omega)
      rw [ab_some (show (0 : Int) ≤ (n : Int) + 1 by omega), show (p : Int) + ((n : Int) + 1) = ((p + n + 1 : Nat) : Int) by omega] at e
      rw [e]
      exact h
    · simp only [if_neg c2]
      rw [if_neg (fun x => c2 x.2), show max m (-1) = m by omega] at h
      exact h
  · have : t = -1 := by unfold Fit at ht; omega
    subst this
    rw [ab_none]
    simp only [if_neg (show ¬ (-1 : Int) > (p : Int) by omega)]
    rw [if_neg (fun x => c x.1), show max m (-1) = m by omega] at h
    exact h
theorem imag_ev (a : ByteArray) (ha : a.size ≤ 262144) (p : Nat) (hp : p ≤ 262144) : Ev (fun k => goscan_imagForm.f k a p) (ab p (imagOf (rest a p))) := by
  unfold goscan_imagForm.f
  refine Ev.bind (gnum_ev a ha 10 b10 p (by omega)) (Ev.bind (whole_ev a ha p hp) (Ev.bind (broken_ev a ha p hp) ?_))
  simp only [Option.bind_some]
  obtain ⟨L, hL⟩ : ∃ L, rest a p = L := ⟨_, rfl⟩
  have s := fun i hi t ht he m hm r h => imag_step a ha p hp [ab p (number 10 L), ab p (wholeOf L), ab p (brokenOf L)] i hi (by simp) t ht he m hm r h
  rw [hL] at s ⊢
  have f1 := withI_fit (number_fit 10 L)
  have f2 := withI_fit (whole_fit L)
  have f3 := withI_fit (broken_fit L)
  refine s 0 (by simp) (number 10 L) (number_fit 10 L) rfl (-1) (by omega) _ ?_
  refine s 1 (by simp) (wholeOf L) (whole_fit L) rfl _ (by omega) _ ?_
  refine s 2 (by simp) (brokenOf L) (broken_fit L) rfl _ (by omega) _ ?_
  apply Ev.succ
  simp only [goscan_imagForm.l0, List.length_cons, List.length_nil, if_neg (show ¬ ((2 + 1 : Nat) : Int) < ((0 + 1 + 1 + 1 : Nat) : Int) by omega)]
  have e : max (max (max (-1) (withI L (number 10 L))) (withI L (wholeOf L))) (withI L (brokenOf L)) = imagOf L := by
    have := fit_ge f1
    unfold imagOf; omega
  rw [e]
  exact Ev.now _
theorem enc_size (r : Nat) (h0 : r < 55296 ∨ 57344 ≤ r) (h1 : r ≤ 1114111) : (Utf8.encode (r : Int)).size = if r < 128 then 1 else if r < 2048 then 2 else if r < 65536 then 3 else 4 := by
  have hv : Utf8.valid (r : Int) = true := by
    simp only [Utf8.valid, Bool.or_eq_true, Bool.and_eq_true, decide_eq_true_eq]; omega
  unfold Utf8.encode
  simp only [hv, if_true, Int.toNat_natCast]
  split
  · rfl
  · split
    · rfl
    · split <;> rfl
def dec (L : List UInt8) : Nat × Nat := Lib.decodeL L
theorem dec_width (L : List UInt8) (hL : L ≠ []) (h : (dec L).1 ≠ 65533) : (Utf8.encode ((dec L).1 : Int)).size = (dec L).2 ∧ 1 ≤ (dec L).2 ∧ (dec L).2 ≤ L.length := by
  have hl : 0 < L.length := List.length_pos_iff.2 hL
  unfold dec at h ⊢
  rw [Lib.decodeL_N] at h ⊢
  have k0 := (L.getD 0 0).toNat_lt
  have k1 := (L.getD 1 0).toNat_lt
  have k2 := (L.getD 2 0).toNat_lt
  have k3 := (L.getD 3 0).toNat_lt
  rcases Lib.decodeN_shape L.length (L.getD 0 0).toNat (L.getD 1 0).toNat (L.getD 2 0).toNat (L.getD 3 0).toNat with ⟨c, e⟩ | ⟨c1, c2, c3, cv, e⟩ | ⟨c1, c2, c3, c4, cv, cs, e⟩ | ⟨c1, c2, c3, c4, c5, cv, cw, e⟩ | e
  · rw [e]
    refine ⟨?_, by dsimp only; omega, by dsimp only; omega⟩
    rw [enc_size _ (by dsimp only; omega) (by dsimp only; omega), if_pos (by dsimp only; omega)]
  · rw [e]
    refine ⟨?_, by dsimp only; omega, by dsimp only; omega⟩
    rw [enc_size _ (by dsimp only; omega) (by dsimp only; omega), if_neg (by dsimp only; omega), if_pos (by dsimp only; omega)]
  · rw [e]
    refine ⟨?_, by dsimp only; omega, by dsimp only; omega⟩
    rw [enc_size _ (by dsimp only; omega) (by dsimp only; omega), if_neg (by dsimp only; omega), if_neg (by dsimp only; omega), if_pos (by dsimp only; omega)]
  · rw [e]
    refine ⟨?_, by dsimp only; omega, by dsimp only; omega⟩
    rw [enc_size _ (by dsimp only; omega) (by dsimp only; omega), if_neg (by dsimp only; omega), if_neg (by dsimp only; omega), if_neg (by dsimp only; omega)]
  · rw [e] at h
    exact absurd rfl h
def nextOf (L : List UInt8) : Int × Int × Bool := if L = [] then (0, 0, false) else if (dec L).1 = 65533 then (if L.take 3 = [239, 191, 189] then (65533, 3, true) else (0, 1, false)) else (((dec L).1 : Int), ((dec L).2 : Int), true)
theorem rest_nil {a : ByteArray} {p : Nat} : rest a p = [] ↔ a.size ≤ p := by
  constructor
  · intro h
    have := rest_len a p
    rw [h] at this
    simp at this; omega
  · intro h
    exact List.drop_eq_nil_of_le (by simpa using h)
theorem bytes_list (x : ByteArray) : x.toList = x.data.toList := by
  exact Go.ByteArray.toList_eq x
theorem next_eq (a : ByteArray) (p : Nat) : text_Next.f a (p : Int) = some (nextOf (rest a p)) := by
  unfold text_Next.f nextOf
  rw [if_neg (by omega)]
  by_cases h : a.size ≤ p
  · rw [if_pos (by omega), if_pos (rest_nil.2 h)]
  have hne : rest a p ≠ [] := fun e => h (rest_nil.1 e)
  have hlen := rest_len a p
  rw [if_neg (by omega), if_neg hne, Int.toNat_natCast]
  have hd : Utf8.decode (a.extract p a.size) 0 = dec (rest a p) := by
    rw [Lib.tail_decode, Nat.add_zero]
    exact (Lib.decodeL_drop a p).symm
  rw [hd]
  by_cases c : (dec (rest a p)).1 = 65533
  · rw [if_pos (by rw [c]; rfl), if_pos c]
    have e3 : ((a.extract p a.size).extract 0 3).toList = (rest a p).take 3 := by
      rw [bytes_list, ByteArray.data_extract, ByteArray.data_extract, Array.toList_extract, Array.toList_extract, List.extract_eq_take_drop, List.extract_eq_take_drop]
      simp only [Nat.sub_zero, List.drop_zero]
      congr 1
      exact List.take_of_length_le (by rw [List.length_drop]; exact Nat.le_refl _)
    rw [e3]
    by_cases c3 : (rest a p).take 3 = [239, 191, 189]
    · have : 3 ≤ (rest a p).length := by
        have := congrArg List.length c3
        rw [List.length_take] at this
        simp at this; omega
      rw [if_pos (by omega), if_pos c3, if_pos c3]
    · rw [if_neg c3, if_neg c3]
      split <;> rfl
  · rw [if_neg (fun e => c (by omega)), if_neg c, (dec_width _ hne c).1]
def pr (L : List UInt8) : Int := if (nextOf L).2.2 = true then (if (nextOf L).1 = 65279 then 0 else (nextOf L).1) else 0
def pw (L : List UInt8) : Nat := if pr L = 0 then 0 else (nextOf L).2.1.toNat
theorem next_fit (L : List UInt8) (h : (nextOf L).2.2 = true) : 0 ≤ (nextOf L).1 ∧ 1 ≤ (nextOf L).2.1 ∧ (nextOf L).2.1 ≤ (L.length : Int) := by
  unfold nextOf at h ⊢
  by_cases c : L = []
  · rw [if_pos c] at h; simp at h
  rw [if_neg c] at h ⊢
  by_cases c2 : (dec L).1 = 65533
  · rw [if_pos c2] at h ⊢
    by_cases c3 : L.take 3 = [239, 191, 189]
    · have := congrArg List.length c3
      rw [List.length_take] at this
      simp at this
      rw [if_pos c3]
      refine ⟨by omega, by dsimp only; omega, by dsimp only; omega⟩
    · rw [if_neg c3] at h; simp at h
  · rw [if_neg c2]
    have := dec_width L c c2
    refine ⟨by dsimp only; omega, by dsimp only; omega, by dsimp only; omega⟩
theorem plain_eq (a : ByteArray) (p : Nat) : goscan_plainRune.f a (p : Int) = some (pr (rest a p), (pw (rest a p) : Int)) := by
  unfold goscan_plainRune.f
  rw [next_eq]
  simp only [Option.bind_some]
  unfold pw pr
  by_cases c : (nextOf (rest a p)).2.2 = true
  · have hf := next_fit _ c
    simp only [if_pos c]
    by_cases c0 : (nextOf (rest a p)).1 = 0
    · simp only [if_pos c0, if_neg (show ¬ (nextOf (rest a p)).1 = 65279 by omega)]; simp [c0]
    · simp only [if_neg c0]
      by_cases c1 : (nextOf (rest a p)).1 = 65279
      · simp only [if_pos c1, if_true]; rfl
      · simp only [if_neg c1, if_neg c0]
        rw [show (((nextOf (rest a p)).2.1.toNat : Nat) : Int) = (nextOf (rest a p)).2.1 by omega]
  · simp only [if_neg c, if_true]; rfl
theorem piece_fit (L : List UInt8) : (pr L = 0 ∧ pw L = 0) ∨ (1 ≤ pr L ∧ 1 ≤ pw L ∧ pw L ≤ L.length) := by
  by_cases c : pr L = 0
  · left
    exact ⟨c, if_pos c⟩
  · right
    have hw : pw L = (nextOf L).2.1.toNat := if_neg c
    unfold pr at c ⊢
    by_cases c1 : (nextOf L).2.2 = true
    · have hf := next_fit _ c1
      rw [if_pos c1] at c ⊢
      by_cases c2 : (nextOf L).1 = 65279
      · rw [if_pos c2] at c; omega
      · rw [if_neg c2] at c ⊢; omega
    · rw [if_neg c1] at c; omega
theorem pfx_eq (a q : ByteArray) (p : Nat) (hp : p ≤ a.size) : strings_HasPrefix.f (a.extract p a.size) q = some (decide ((rest a p).take q.size = q.data.toList)) := by
  have hlen := rest_len a p
  have hs : (a.extract p a.size).size = a.size - p := by rw [ByteArray.size_extract]; omega
  have hq : q.data.toList.length = q.size := rfl
  unfold strings_HasPrefix.f stringslite_HasPrefix.f
  rw [hs]
  by_cases c : q.size ≤ a.size - p
  · rw [if_pos (by omega), if_pos (by omega), if_pos (by omega)]
    simp only [Option.bind_some, Int.toNat_natCast]
    congr 1
    have e : ((a.extract p a.size).extract 0 q.size).toList = (rest a p).take q.size := by
      rw [bytes_list, ByteArray.data_extract, ByteArray.data_extract, Array.toList_extract, Array.toList_extract, List.extract_eq_take_drop, List.extract_eq_take_drop]
      simp only [Nat.sub_zero, List.drop_zero]
      congr 1
      exact List.take_of_length_le (by rw [List.length_drop]; exact Nat.le_refl _)
    rw [e, bytes_list q]
    by_cases c2 : (rest a p).take q.size = q.data.toList
    · rw [decide_eq_true c2, c2]; exact beq_self_eq_true _
    · rw [decide_eq_false c2]; exact beq_eq_false_iff_ne.2 c2
  · rw [if_neg (by omega)]
    simp only [Option.bind_some]
    rw [decide_eq_false]
    intro h
    have := congrArg List.length h
    rw [List.length_take, hq] at this
    omega
theorem byte_int (x : UInt8) (n : Nat) (h : n < 256) : ((x.toNat : Nat) : Int) = (n : Int) ↔ x = UInt8.ofNat n := by
  constructor
  · intro e
    have e : x.toNat = n := by omega
    rw [← e]; simp
  · rintro rfl
    simp [Nat.mod_eq_of_lt h]
theorem hd_cons (x : UInt8) (t : List UInt8) : hd (x :: t) = (x.toNat : Int) := rfl
theorem two_eq (L : List UInt8) (x y : Nat) (hx : 0 < x) (hy : 0 < y) (hx' : x < 256) (hy' : y < 256) : L.take 2 = [UInt8.ofNat x, UInt8.ofNat y] ↔ hd L = x ∧ hd (L.drop 1) = y := by
  match L with
  | [] => simp [hd]; omega
  | [u] => simp [hd]; omega
  | u :: v :: t =>
    simp only [List.take_succ_cons, List.take_zero, List.cons.injEq, and_true, List.drop_succ_cons, List.drop_zero, hd_cons]
    rw [byte_int u x hx', byte_int v y hy']
def blank (c : Int) : Bool := decide (c = 9 ∨ c = 13 ∨ c = 32)
def blanks (L : List UInt8) : Nat := if h : blank (hd L) = true then blanks (L.drop 1) + 1 else 0
  termination_by L.length
  decreasing_by
    have := hd_pos (L := L) (by simp [blank] at h; omega); simp; omega
def len0 (n : Nat) : Int := if n = 0 then -1 else n
def blankOf (L : List UInt8) : Int := len0 (blanks L)
theorem blank_all : ∀ c : Fin 256, strings_IndexByte.f ⟨#[9, 13, 32]⟩ (c.1 : Int) = some (if blank c.1 then (if c.1 = 9 then 0 else if c.1 = 13 then 1 else 2) else -1) := by decide +kernel
theorem blank_eq (c : Int) (h0 : 0 ≤ c) (h1 : c ≤ 255) : ∃ t, strings_IndexByte.f ⟨#[9, 13, 32]⟩ c = some t ∧ (t ≥ 0 ↔ blank c = true) := by
  have h := blank_all ⟨c.toNat, by omega⟩
  have e : ((⟨c.toNat, by omega⟩ : Fin 256).1 : Int) = c := by simp; omega
  rw [e] at h
  refine ⟨_, h, ?_⟩
  by_cases b : blank c = true
  · rw [if_pos b]
    refine ⟨fun _ => b, fun _ => ?_⟩
    split
    · omega
    · split <;> omega
  · rw [if_neg b]
    exact ⟨fun h => absurd h (by omega), fun h => absurd h b⟩
theorem blank_loop (a : ByteArray) (ha : a.size ≤ 262144) (p : Nat) (n : Nat) : ∀ q : Nat, a.size - q ≤ n → p ≤ q → q ≤ a.size → Ev (fun k => goscan_blankForm.l0 k a p q) (ab p (len0 (q - p + blanks (rest a q)))) := by
  have stop : ∀ q : Nat, p ≤ q → Ev (fun k => if (q : Int) = (p : Int) then some (-1 : Int) else some (q : Int)) (ab p (len0 (q - p + 0))) := by
    intro q hq
    by_cases c : q = p
    · subst c
      simp only [if_true, Nat.sub_self, Nat.add_zero, len0]
      exact Ev.now _
    · simp only [if_neg (show ¬ (q : Int) = (p : Int) by omega)]
      unfold len0
      rw [if_neg (by omega), ab_some (by omega), show (p : Int) + ((q - p + 0 : Nat) : Int) = (q : Int) by omega]
      exact Ev.now _
  induction n with
  | zero =>
    intro q h0 h1 h2
    apply Ev.succ
    rw [rest_nil.2 (by omega), blanks, dif_neg (by decide)]
    simp only [goscan_blankForm.l0, if_neg (show ¬ (q : Int) < (a.size : Int) by omega)]
    exact stop q h1
  | succ n ih =>
    intro q h0 h1 h2
    apply Ev.succ
    by_cases c : q < a.size
    · obtain ⟨t, ht, hb⟩ := blank_eq (hd (rest a q)) (hd_range _).1 (hd_range _).2
      simp only [goscan_blankForm.l0, if_pos (show (q : Int) < (a.size : Int) by omega), if_pos (show (0 : Int) ≤ (q : Int) by omega), hd_rest a q c, ht, Option.bind_some, wrp1 (show q + 1 ≤ 1000000 by omega)]
      rw [blanks]
      by_cases cb : blank (hd (rest a q)) = true
      · simp only [if_pos (hb.2 cb)]
        rw [dif_pos cb]
        have h := ih (q + 1) (by omega) (by omega) (by omega)
        rw [rest_add] at h
        rw [show q - p + (blanks ((rest a q).drop 1) + 1) = q + 1 - p + blanks ((rest a q).drop 1) by omega]
        exact h
      · simp only [if_neg (fun h => cb (hb.1 h))]
        rw [dif_neg cb]
        exact stop q h1
    · rw [rest_nil.2 (by omega), blanks, dif_neg (by decide)]
      simp only [goscan_blankForm.l0, if_neg (show ¬ (q : Int) < (a.size : Int) by omega)]
      exact stop q h1
theorem blank_ev (a : ByteArray) (ha : a.size ≤ 262144) (p : Nat) (hp : p ≤ a.size) : Ev (fun k => goscan_blankForm.f k a p) (ab p (blankOf (rest a p))) := by
  have := blank_loop a ha p (a.size - p) p (Nat.le_refl _) (Nat.le_refl _) hp
  rw [Nat.sub_self, Nat.zero_add] at this
  exact this
theorem blanks_le_n (n : Nat) : ∀ L : List UInt8, L.length ≤ n → blanks L ≤ L.length := by
  induction n with
  | zero => intro L h; cases L with
    | nil => rw [blanks, dif_neg (by decide)]; omega
    | cons x t => simp at h
  | succ n ih =>
    intro L h
    rw [blanks]
    split
    · rename_i c
      have h1 := hd_pos (L := L) (by simp [blank] at c; omega)
      have := ih (L.drop 1) (by rw [List.length_drop]; omega)
      rw [List.length_drop] at this; omega
    · omega
theorem len0_fit {L : List UInt8} {n : Nat} (h : n ≤ L.length) : Fit L (len0 n) := by unfold len0 Fit; split <;> omega
theorem blank_fit (L : List UInt8) : Fit L (blankOf L) := len0_fit (blanks_le_n _ L (Nat.le_refl _))
def newlineOf (L : List UInt8) : Int := if hd L = 10 then 1 else -1
theorem newlineForm_eq (a : ByteArray) (ha : a.size ≤ 262144) (p : Nat) (hp : p ≤ a.size) : goscan_newlineForm.f a p = some (ab p (newlineOf (rest a p))) := by
  unfold goscan_newlineForm.f newlineOf
  rw [at_eq, Option.bind_some, wrp1 (by omega)]
  split
  · rw [ab_some (by omega)]; rfl
  · rfl
theorem newline_fit (L : List UInt8) : Fit L (newlineOf L) := by
  unfold newlineOf
  split
  · have := hd_pos (L := L) (by omega); right; omega
  · exact fit_none L
def lineEnd (L : List UInt8) : Nat := if h : 1 ≤ pw L ∧ pr L ≠ 10 then pw L + lineEnd (L.drop (pw L)) else 0
  termination_by L.length
  decreasing_by
    have := piece_fit L; simp; omega
theorem line_loop (a : ByteArray) (ha : a.size ≤ 262144) (n : Nat) : ∀ q : Nat, a.size - q ≤ n → q ≤ a.size → Ev (fun k => goscan_remarkForm.l0 k a q) ((q + lineEnd (rest a q) : Nat) : Int) := by
  induction n using Nat.strongRecOn with
  | _ n ih =>
    intro q h0 h2
    have hlen := rest_len a q
    have hf := piece_fit (rest a q)
    apply Ev.succ
    simp only [goscan_remarkForm.l0, plain_eq, Option.bind_some]
    rw [lineEnd]
    by_cases c1 : pw (rest a q) = 0
    · rw [dif_neg (by omega)]
      simp only [if_pos (show ((pw (rest a q) : Nat) : Int) = 0 by omega)]
      exact Ev.now _
    · simp only [if_neg (show ¬ ((pw (rest a q) : Nat) : Int) = 0 by omega)]
      by_cases c2 : pr (rest a q) = 10
      · rw [dif_neg (fun h => h.2 c2)]
        simp only [if_pos c2]
        exact Ev.now _
      · rw [dif_pos ⟨by omega, c2⟩]
        simp only [if_neg c2]
        rw [wrp (show q + pw (rest a q) ≤ 1000000 by omega)]
        have h := ih (a.size - (q + pw (rest a q))) (by omega) (q + pw (rest a q)) (by omega) (by omega)
        rw [rest_add] at h
        rw [show q + (pw (rest a q) + lineEnd ((rest a q).drop (pw (rest a q)))) = q + pw (rest a q) + lineEnd ((rest a q).drop (pw (rest a q))) by omega]
        exact h
theorem lineEnd_le_n (n : Nat) : ∀ L : List UInt8, L.length ≤ n → lineEnd L ≤ L.length := by
  induction n using Nat.strongRecOn with
  | _ n ih =>
    intro L h
    rw [lineEnd]
    have hf := piece_fit L
    split
    · rename_i c
      have := ih (L.length - pw L) (by omega) (L.drop (pw L)) (by rw [List.length_drop]; omega)
      rw [List.length_drop] at this; omega
    · omega
theorem pr_ascii (L : List UInt8) (h0 : 0 < hd L) (h1 : hd L < 128) : pr L = hd L ∧ pw L = 1 := by
  match L with
  | [] => exact absurd h0 (by decide)
  | x :: t =>
    rw [hd_cons] at h0 h1 ⊢
    have e : dec (x :: t) = (x.toNat, 1) := Lib.decodeL_ascii x t (by omega)
    have en : nextOf (x :: t) = ((x.toNat : Int), 1, true) := by
      unfold nextOf
      rw [if_neg (by simp), e]
      dsimp only
      rw [if_neg (by omega)]; rfl
    have e1 : pr (x :: t) = (x.toNat : Int) := by
      unfold pr
      rw [en]
      dsimp only
      rw [if_pos rfl, if_neg (by omega)]
    refine ⟨e1, ?_⟩
    unfold pw
    rw [e1, en, if_neg (by omega)]; rfl
def remarkOf (L : List UInt8) : Int := if hd L = 47 ∧ hd (L.drop 1) = 47 then (lineEnd L : Int) else -1
theorem remark_ev (a : ByteArray) (ha : a.size ≤ 262144) (p : Nat) (hp : p ≤ a.size) : Ev (fun k => goscan_remarkForm.f k a p) (ab p (remarkOf (rest a p))) := by
  unfold goscan_remarkForm.f remarkOf
  simp only [if_pos (show (0 : Int) ≤ (p : Int) by omega), if_pos (show (p : Int) ≤ (a.size : Int) by omega), Int.toNat_natCast, pfx_eq a _ p hp, Option.bind_some]
  have e := two_eq (rest a p) 47 47 (by omega) (by omega) (by omega) (by omega)
  by_cases c : hd (rest a p) = 47 ∧ hd ((rest a p).drop 1) = 47
  · have e' : (rest a p).take (⟨#[47, 47]⟩ : ByteArray).size = (⟨#[47, 47]⟩ : ByteArray).data.toList := e.2 c
    rw [decide_eq_true e', if_pos c, ab_some (by omega), show (p : Int) + (lineEnd (rest a p) : Int) = ((p + lineEnd (rest a p) : Nat) : Int) by omega]
    simp only [if_true]
    exact line_loop a ha _ p (Nat.le_refl _) hp
  · have e' : ¬ (rest a p).take (⟨#[47, 47]⟩ : ByteArray).size = (⟨#[47, 47]⟩ : ByteArray).data.toList := fun h => c (e.1 h)
    rw [decide_eq_false e', if_neg c]
    simp only [Bool.false_eq_true, if_false]
    exact Ev.now _
theorem remark_fit (L : List UInt8) : Fit L (remarkOf L) := by
  unfold remarkOf
  split
  · rename_i c
    have hp := pr_ascii L (by omega) (by omega)
    have := lineEnd_le_n _ L (Nat.le_refl _)
    have h2 : 1 ≤ lineEnd L := by rw [lineEnd, dif_pos ⟨by omega, by omega⟩]; omega
    right; omega
  · exact fit_none L
def comEnd (L : List UInt8) : Int := if hd L = 42 ∧ hd (L.drop 1) = 47 then 2 else if h : 1 ≤ pw L then sh (pw L) (comEnd (L.drop (pw L))) else -1
  termination_by L.length
  decreasing_by
    have := piece_fit L; simp; omega
theorem com_loop (a : ByteArray) (ha : a.size ≤ 262144) (n : Nat) : ∀ q : Nat, a.size - q ≤ n → q ≤ a.size → Ev (fun k => goscan_commentForm.l0 k a q) (ab q (comEnd (rest a q))) := by
  induction n using Nat.strongRecOn with
  | _ n ih =>
    intro q h0 h2
    have hlen := rest_len a q
    have hf := piece_fit (rest a q)
    apply Ev.succ
    have hmn : mn (q : Int) (a.size : Int) = (q : Int) := by unfold mn; rw [if_neg (by omega)]
    have e := two_eq (rest a q) 42 47 (by omega) (by omega) (by omega) (by omega)
    simp only [goscan_commentForm.l0, hmn, if_pos (show (0 : Int) ≤ (q : Int) by omega), if_pos (show (q : Int) ≤ (a.size : Int) by omega), Int.toNat_natCast, pfx_eq a _ q h2, Option.bind_some, plain_eq]
    rw [comEnd]
    by_cases c : hd (rest a q) = 42 ∧ hd ((rest a q).drop 1) = 47
    · have e' : (rest a q).take (⟨#[42, 47]⟩ : ByteArray).size = (⟨#[42, 47]⟩ : ByteArray).data.toList := e.2 c
      rw [if_pos c, wrp2 (by omega)]
      simp only [decide_eq_true e', if_true]
      exact Ev.now _
    · have e' : ¬ (rest a q).take (⟨#[42, 47]⟩ : ByteArray).size = (⟨#[42, 47]⟩ : ByteArray).data.toList := fun h => c (e.1 h)
      rw [if_neg c]
      simp only [decide_eq_false e', Bool.false_eq_true, if_false]
      by_cases c1 : pw (rest a q) = 0
      · rw [dif_neg (by omega)]
        simp only [if_pos (show ((pw (rest a q) : Nat) : Int) = 0 by omega)]
        exact Ev.now _
      · rw [dif_pos (by omega)]
        simp only [if_neg (show ¬ ((pw (rest a q) : Nat) : Int) = 0 by omega)]
        rw [wrp (show q + pw (rest a q) ≤ 1000000 by omega)]
        have h := ih (a.size - (q + pw (rest a q))) (by omega) (q + pw (rest a q)) (by omega) (by omega)
        rw [rest_add, ab_sh] at h
        exact h
theorem comEnd_fit_n (n : Nat) : ∀ L : List UInt8, L.length ≤ n → Fit L (comEnd L) := by
  induction n using Nat.strongRecOn with
  | _ n ih =>
    intro L h
    rw [comEnd]
    have hf := piece_fit L
    split
    · rename_i c
      have := hd_pos (L := L.drop 1) (by omega)
      rw [List.length_drop] at this
      right; omega
    · split
      · exact sh_fit (ih (L.length - pw L) (by omega) (L.drop (pw L)) (by rw [List.length_drop]; omega))
      · exact fit_none L
def commentOf (L : List UInt8) : Int := if hd L = 47 ∧ hd (L.drop 1) = 42 then sh 2 (comEnd (L.drop 2)) else -1
theorem comment_fit (L : List UInt8) : Fit L (commentOf L) := by
  unfold commentOf
  split
  · exact sh_fit (comEnd_fit_n _ _ (Nat.le_refl _))
  · exact fit_none L
theorem comment_ev (a : ByteArray) (ha : a.size ≤ 262144) (p : Nat) (hp : p ≤ a.size) : Ev (fun k => goscan_commentForm.f k a p) (ab p (commentOf (rest a p))) := by
  have hlen := rest_len a p
  unfold goscan_commentForm.f commentOf
  simp only [if_pos (show (0 : Int) ≤ (p : Int) by omega), if_pos (show (p : Int) ≤ (a.size : Int) by omega), Int.toNat_natCast, pfx_eq a _ p hp, Option.bind_some]
  have e := two_eq (rest a p) 47 42 (by omega) (by omega) (by omega) (by omega)
  by_cases c : hd (rest a p) = 47 ∧ hd ((rest a p).drop 1) = 42
  · have e' : (rest a p).take (⟨#[47, 42]⟩ : ByteArray).size = (⟨#[47, 42]⟩ : ByteArray).data.toList := e.2 c
    have := hd_pos (L := (rest a p).drop 1) (by omega)
    rw [List.length_drop] at this
    rw [decide_eq_true e', if_pos c, ← ab_sh, ← rest_add, wrp2 (by omega)]
    simp only [if_true]
    exact com_loop a ha _ (p + 2) (Nat.le_refl _) (by omega)
  · have e' : ¬ (rest a p).take (⟨#[47, 42]⟩ : ByteArray).size = (⟨#[47, 42]⟩ : ByteArray).data.toList := fun h => c (e.1 h)
    rw [decide_eq_false e', if_neg c]
    simp only [Bool.false_eq_true, if_false]
    exact Ev.now _
def letter (L : List UInt8) : Nat := if pr L = 95 ∨ (97 ≤ pr L ∧ pr L ≤ 122) ∨ (65 ≤ pr L ∧ pr L ≤ 90) ∨ 128 ≤ pr L then pw L else 0
theorem letter_eq (a : ByteArray) (p : Nat) : goscan_letter.f a p = some (letter (rest a p) : Int) := by
  unfold goscan_letter.f letter
  simp only [plain_eq, Option.bind_some]
  by_cases c1 : pr (rest a p) = 95
  · rw [if_pos c1, if_pos (.inl c1)]
  rw [if_neg c1]
  by_cases c2 : pr (rest a p) ≥ 97
  · rw [if_pos c2]
    by_cases c3 : pr (rest a p) ≤ 122
    · rw [if_pos c3, if_pos (by omega)]
    · rw [if_neg c3, if_pos (by omega), if_neg (by omega)]
      by_cases c4 : pr (rest a p) ≥ 128
      · rw [if_pos c4, if_pos (by omega)]
      · rw [if_neg c4, if_neg (by omega)]; rfl
  · rw [if_neg c2]
    by_cases c3 : pr (rest a p) ≥ 65
    · rw [if_pos c3]
      by_cases c4 : pr (rest a p) ≤ 90
      · rw [if_pos c4, if_pos (by omega)]
      · rw [if_neg c4, if_neg (by omega), if_neg (by omega)]; rfl
    · rw [if_neg c3, if_neg (by omega), if_neg (by omega)]; rfl
theorem letter_le (L : List UInt8) : letter L ≤ L.length := by
  have := piece_fit L
  unfold letter; split <;> omega
def word (L : List UInt8) : Nat := if h : dig (hd L) 10 = true then 1 + word (L.drop 1) else if h2 : 1 ≤ letter L then letter L + word (L.drop (letter L)) else 0
  termination_by L.length
  decreasing_by
    · have := dig_len h; simp; omega
    · have := letter_le L; simp; omega
theorem word_le_n (n : Nat) : ∀ L : List UInt8, L.length ≤ n → word L ≤ L.length := by
  induction n using Nat.strongRecOn with
  | _ n ih =>
    intro L h
    rw [word]
    split
    · rename_i c
      have h1 := dig_len c
      have := ih (L.length - 1) (by omega) (L.drop 1) (by rw [List.length_drop]; omega)
      rw [List.length_drop] at this; omega
    · split
      · have h1 := letter_le L
        have := ih (L.length - letter L) (by omega) (L.drop (letter L)) (by rw [List.length_drop]; omega)
        rw [List.length_drop] at this; omega
      · omega
theorem word_loop (a : ByteArray) (ha : a.size ≤ 262144) (n : Nat) : ∀ q s : Nat, a.size - (q + s) ≤ n → 1 ≤ s → q + s ≤ a.size → Ev (fun k => goscan_identForm.l0 k a q s) ((q + s + word (rest a (q + s)) : Nat) : Int) := by
  induction n using Nat.strongRecOn with
  | _ n ih =>
    intro q s h0 h1 h2
    have hlen := rest_len a (q + s)
    apply Ev.succ
    simp only [goscan_identForm.l0, if_pos (show (s : Int) > 0 by omega), wrp (show q + s ≤ 1000000 by omega), letter_eq, at_eq, Option.bind_some, dig_hd _ 10 b10]
    rw [word]
    by_cases c1 : dig (hd (rest a (q + s))) 10 = true
    · have := dig_len c1
      rw [dif_pos c1]
      simp only [c1, if_true]
      have h := ih (a.size - (q + s + 1)) (by omega) (q + s) 1 (Nat.le_refl _) (by omega) (by omega)
      rw [rest_add] at h
      rw [← Nat.add_assoc]
      exact h
    · rw [dif_neg c1]
      rw [Bool.not_eq_true] at c1
      simp only [c1, Bool.false_eq_true, if_false]
      have hl := letter_le (rest a (q + s))
      by_cases c2 : 1 ≤ letter (rest a (q + s))
      · rw [dif_pos c2]
        have h := ih (a.size - (q + s + letter (rest a (q + s)))) (by omega) (q + s) (letter (rest a (q + s))) (Nat.le_refl _) c2 (by omega)
        rw [rest_add a (q + s)] at h
        rw [← Nat.add_assoc]
        exact h
      · rw [dif_neg c2, show letter (rest a (q + s)) = 0 by omega]
        apply Ev.succ
        simp only [goscan_identForm.l0, if_neg (show ¬ ((0 : Nat) : Int) > 0 by omega)]
        exact Ev.now _
def identOf (L : List UInt8) : Int := if letter L = 0 then -1 else ((letter L + word (L.drop (letter L)) : Nat) : Int)
theorem ident_fit (L : List UInt8) : Fit L (identOf L) := by
  have := letter_le L
  have h2 := word_le_n _ (L.drop (letter L)) (Nat.le_refl _)
  rw [List.length_drop] at h2
  unfold identOf
  split
  · exact fit_none L
  · right; omega
theorem ident_ev (a : ByteArray) (ha : a.size ≤ 262144) (p : Nat) (hp : p ≤ a.size) : Ev (fun k => goscan_identForm.f k a p) (ab p (identOf (rest a p))) := by
  have hlen := rest_len a p
  have hl := letter_le (rest a p)
  unfold goscan_identForm.f identOf
  simp only [letter_eq, Option.bind_some]
  by_cases c : letter (rest a p) = 0
  · rw [if_pos c, c]
    simp only [if_pos (show ((0 : Nat) : Int) = 0 from rfl)]
    exact Ev.now _
  · rw [if_neg c, ab_some (by omega)]
    simp only [if_neg (show ¬ ((letter (rest a p) : Nat) : Int) = 0 by omega)]
    have h := word_loop a ha _ p (letter (rest a p)) (Nat.le_refl _) (by omega) (by omega)
    rw [rest_add] at h
    rw [show (p : Int) + ((letter (rest a p) + word ((rest a p).drop (letter (rest a p))) : Nat) : Int) = ((p + letter (rest a p) + word ((rest a p).drop (letter (rest a p))) : Nat) : Int) by omega]
    exact h
def hexv (c : Int) : Int := if c ≤ 57 then c - 48 else if 97 ≤ c then c - 87 else c - 55
theorem hexv_all : ∀ c : Fin 256, dig (c.1 : Int) 16 = true → strings_IndexByte.f (⟨#[48, 49, 50, 51, 52, 53, 54, 55, 56, 57, 97, 98, 99, 100, 101, 102]⟩ : ByteArray) (Go.bits .or .u8 (c.1 : Int) 32) = some (hexv c.1) ∧ 0 ≤ hexv c.1 ∧ hexv c.1 ≤ 15 := by decide +kernel
theorem hexv_eq (c : Int) (h0 : 0 ≤ c) (h1 : c ≤ 255) (hd : dig c 16 = true) : strings_IndexByte.f (⟨#[48, 49, 50, 51, 52, 53, 54, 55, 56, 57, 97, 98, 99, 100, 101, 102]⟩ : ByteArray) (Go.bits .or .u8 c 32) = some (hexv c) ∧ 0 ≤ hexv c ∧ hexv c ≤ 15 := by
  have h := hexv_all ⟨c.toNat, by omega⟩
  have e : ((⟨c.toNat, by omega⟩ : Fin 256).1 : Int) = c := by simp; omega
  rw [e] at h
  exact h hd
def hexn : Nat → Int → List UInt8 → Int
  | 0, v, _ => v
  | n + 1, v, L => if dig (hd L) 16 = true then hexn n (v * 16 + hexv (hd L)) (L.drop 1) else -1
theorem pow16 : ∀ j : Fin 11, (16 : Int) ^ j.1 ≤ 1099511627776 := by decide
theorem hexn_ev (a : ByteArray) (ha : a.size ≤ 262144) (p m : Nat) (hp : p + m ≤ 262160) (n : Nat) : ∀ (q j : Nat) (v : Int), q + n = p + m → 0 ≤ v → j + n ≤ 10 → v + 1 ≤ 16 ^ j → Ev (fun k => goscan_digits16.l0 k a p m v q) (hexn n v (rest a q)) := by
  induction n with
  | zero =>
    intro q j v hq h0 hj h1
    apply Ev.succ
    simp only [goscan_digits16.l0, wrp (show p + m ≤ 1000000 by omega), if_neg (show ¬ (q : Int) < ((p + m : Nat) : Int) by omega), hexn]
    exact Ev.now _
  | succ n ih =>
    intro q j v hq h0 hj h1
    apply Ev.succ
    simp only [goscan_digits16.l0, wrp (show p + m ≤ 1000000 by omega), if_pos (show (q : Int) < ((p + m : Nat) : Int) by omega), at_eq, Option.bind_some, dig_hd _ 16 b16, hexn]
    by_cases c : dig (hd (rest a q)) 16 = true
    · have hv := hexv_eq (hd (rest a q)) (hd_range _).1 (hd_range _).2 c
      have hl := dig_len c
      have hlen := rest_len a q
      have hb := pow16 ⟨j, by omega⟩
      have hb : (16 : Int) ^ j ≤ 1099511627776 := hb
      have hs : (16 : Int) ^ (j + 1) = 16 ^ j * 16 := Int.pow_succ _ _
      simp only [c, if_true, if_pos (show (0 : Int) ≤ (q : Int) by omega), if_pos (show (q : Int) < (a.size : Int) by omega), hd_rest a q (by omega), hv.1, Option.bind_some, wrp1 (show q + 1 ≤ 1000000 by omega)]
      rw [wr (x := v * 16) (by omega) (by omega), wr (x := v * 16 + hexv (hd (rest a q))) (by omega) (by omega), ← rest_add]
      exact ih (q + 1) (j + 1) _ (by omega) (by omega) (by omega) (by rw [hs]; omega)
    · rw [if_neg c]
      rw [Bool.not_eq_true] at c
      simp only [c, Bool.false_eq_true, if_false]
      exact Ev.now _
theorem hexn_ev' (a : ByteArray) (ha : a.size ≤ 262144) (p m : Nat) (hp : p ≤ 262150) (hm : m ≤ 8) : Ev (fun k => goscan_digits16.f k a p m) (hexn m 0 (rest a p)) :=
  hexn_ev a ha p m (by omega) m p 0 0 (by omega) (by omega) (by omega) (by decide)
def simple (c : Int) : Bool := decide (c = 97 ∨ c = 98 ∨ c = 102 ∨ c = 110 ∨ c = 114 ∨ c = 116 ∨ c = 118 ∨ c = 92)
theorem simple_all : ∀ c : Fin 256, (strings_IndexByte.f (⟨#[97, 98, 102, 110, 114, 116, 118, 92]⟩ : ByteArray) (c.1 : Int)).map (fun t => decide (t ≥ 0)) = some (simple c.1) := by decide +kernel
theorem simple_eq (c : Int) (h0 : 0 ≤ c) (h1 : c ≤ 255) : ∃ t, strings_IndexByte.f (⟨#[97, 98, 102, 110, 114, 116, 118, 92]⟩ : ByteArray) c = some t ∧ decide (t ≥ 0) = simple c := by
  have h := simple_all ⟨c.toNat, by omega⟩
  have e : ((⟨c.toNat, by omega⟩ : Fin 256).1 : Int) = c := by simp; omega
  rw [e] at h
  cases ht : strings_IndexByte.f (⟨#[97, 98, 102, 110, 114, 116, 118, 92]⟩ : ByteArray) c with
  | none => rw [ht] at h; simp at h
  | some t =>
    rw [ht] at h
    exact ⟨t, rfl, Option.some.inj h⟩
def okRune (r : Int) : Bool := decide (0 ≤ r ∧ r ≤ 1114111 ∧ (r < 55296 ∨ 57343 < r))
def escOf (q : Int) (L : List UInt8) : Int :=
  if hd L = 92 then
    (if (hd (L.drop 1) = q ∨ simple (hd (L.drop 1)) = true) then 2
    else if 48 ≤ hd (L.drop 1) ∧ hd (L.drop 1) ≤ 51 then (if dig (hd (L.drop 2)) 8 = true ∧ dig (hd (L.drop 3)) 8 = true then 4 else -1)
    else if hd (L.drop 1) = 120 then (if hexn 2 0 (L.drop 2) ≥ 0 then 4 else -1)
    else if hd (L.drop 1) = 117 then (if okRune (hexn 4 0 (L.drop 2)) then 6 else -1)
    else if hd (L.drop 1) = 85 then (if okRune (hexn 8 0 (L.drop 2)) then 10 else -1)
    else -1)
  else -1
theorem esc_tail (p : Nat) (hp : p ≤ 262144) (m : Nat) (v : Int) (hm : m ≤ 8) : Ev (fun k => if v ≥ 0 then (if v ≤ 1114111 then (if v < 55296 then some (wrap64 (((p + 2 : Nat) : Int) + m)) else if v > 57343 then some (wrap64 (((p + 2 : Nat) : Int) + m)) else some (-1)) else some (-1)) else some (-1)) (ab p (if okRune v = true then ((2 + m : Nat) : Int) else -1)) := by
  rw [wrp (show p + 2 + m ≤ 1000000 by omega)]
  unfold okRune
  by_cases d1 : v ≥ 0
  · simp only [if_pos d1]
    by_cases d2 : v ≤ 1114111
    · simp only [if_pos d2]
      by_cases d3 : v < 55296
      · simp only [if_pos d3]
        rw [if_pos (decide_eq_true (by omega)), ab_some (by omega), show (p : Int) + ((2 + m : Nat) : Int) = ((p + 2 + m : Nat) : Int) by omega]
        exact Ev.now _
      · simp only [if_neg d3]
        by_cases d4 : v > 57343
        · simp only [if_pos d4]
          rw [if_pos (decide_eq_true (by omega)), ab_some (by omega), show (p : Int) + ((2 + m : Nat) : Int) = ((p + 2 + m : Nat) : Int) by omega]
          exact Ev.now _
        · simp only [if_neg d4]
          rw [if_neg (by simp only [decide_eq_true_eq]; omega)]
          exact Ev.now _
    · simp only [if_neg d2]
      rw [if_neg (by simp only [decide_eq_true_eq]; omega)]
      exact Ev.now _
  · simp only [if_neg d1]
    rw [if_neg (by simp only [decide_eq_true_eq]; omega)]
    exact Ev.now _
theorem esc_ev (a : ByteArray) (ha : a.size ≤ 262144) (q : Int) (hq : 0 < q) (p : Nat) (hp : p ≤ a.size) : Ev (fun k => goscan_escapeForm.f k a p q) (ab p (escOf q (rest a p))) := by
  obtain ⟨L, hL⟩ : ∃ L, rest a p = L := ⟨_, rfl⟩
  have hlen := rest_len a p
  rw [hL] at hlen
  have hadd : ∀ n, rest a (p + n) = L.drop n := fun n => by rw [rest_add, hL]
  have hat : ∀ n, goscan_at.f a ((p + n : Nat) : Int) = some (hd (L.drop n)) := fun n => by rw [at_eq, hadd]
  have hp2 : p ≤ 262144 := Nat.le_trans hp ha
  have w1 : wrap64 ((p : Int) + 1) = ((p + 1 : Nat) : Int) := wrp1 (by omega)
  have w2 : wrap64 ((p : Int) + 2) = ((p + 2 : Nat) : Int) := wrp2 (by omega)
  have w3 : wrap64 ((p : Int) + 3) = ((p + 3 : Nat) : Int) := wrp (n := 3) (by omega)
  have w4 : wrap64 ((p : Int) + 4) = ((p + 4 : Nat) : Int) := wrp (n := 4) (by omega)
  have hx2 := hexn_ev' a ha (p + 2) 2 (by omega) (by omega)
  have hx4 := hexn_ev' a ha (p + 2) 4 (by omega) (by omega)
  have hx8 := hexn_ev' a ha (p + 2) 8 (by omega) (by omega)
  rw [hadd] at hx2 hx4 hx8
  have tail := fun m v hm => esc_tail p hp2 m v hm
  have stop : Ev (fun k => goscan_escapeForm.j0 k a p q true) (-1) := by
    apply Ev.succ
    simp only [goscan_escapeForm.j0, if_true]
    exact Ev.now _
  unfold goscan_escapeForm.f escOf
  simp only [at_eq, Option.bind_some, hL, w1]
  by_cases c0 : hd L = 92
  rotate_left
  · simp only [if_neg c0]
    exact stop
  simp only [if_pos c0]
  obtain ⟨c, hc⟩ : ∃ c, hd (L.drop 1) = c := ⟨_, rfl⟩
  have hcr := hd_range (L.drop 1)
  rw [hc] at hcr ⊢
  by_cases c1 : p + 1 < a.size
  rotate_left
  · have e0 : c = 0 := by rw [← hc, ← hadd 1]; exact hd_past a (p + 1) (by omega)
    subst e0
    simp only [decide_eq_true (show ((p + 1 : Nat) : Int) ≥ (a.size : Int) by omega)]
    rw [if_neg (by simp [simple]; omega), if_neg (by omega), if_neg (by omega), if_neg (by omega), if_neg (by omega)]
    exact stop
  simp only [decide_eq_false (show ¬ ((p + 1 : Nat) : Int) ≥ (a.size : Int) by omega)]
  have hbt : bt a ((p + 1 : Nat) : Int) = c := by rw [hd_rest a _ c1, hadd, hc]
  have yes : Ev (fun k => goscan_escapeForm.j1 k a p c true) (ab p 2) := by
    apply Ev.succ
    simp only [goscan_escapeForm.j1, if_true, w2]
    exact Ev.now _
  apply Ev.succ
  simp only [goscan_escapeForm.j0, Bool.false_eq_true, if_false, w1, if_pos (show (0 : Int) ≤ ((p + 1 : Nat) : Int) by omega), if_pos (show ((p + 1 : Nat) : Int) < (a.size : Int) by omega), hbt]
  obtain ⟨t, ht, hs⟩ := simple_eq c hcr.1 hcr.2
  simp only [ht, Option.bind_some, hs]
  by_cases c2 : c = q
  · simp only [if_pos c2]
    rw [if_pos (.inl c2)]
    rw [c2] at yes
    rw [c2]
    exact yes
  simp only [if_neg c2]
  by_cases c3 : simple c = true
  · rw [if_pos (.inr c3), c3]
    exact yes
  rw [if_neg (fun h => h.elim c2 c3)]
  rw [Bool.not_eq_true] at c3
  rw [c3]
  apply Ev.succ
  simp only [goscan_escapeForm.j1, Bool.false_eq_true, if_false]
  by_cases c4 : 48 ≤ c ∧ c ≤ 51
  · rw [if_pos c4]
    simp only [if_pos (show c ≥ 48 from c4.1), decide_eq_true c4.2]
    apply Ev.succ
    simp only [goscan_escapeForm.j2, if_true, w2, w3, w4, hat, Option.bind_some, dig_hd _ 8 b8]
    by_cases d1 : dig (hd (L.drop 2)) 8 = true
    · simp only [d1, if_true]
      by_cases d2 : dig (hd (L.drop 3)) 8 = true
      · simp only [d2, and_self, if_true]
        exact Ev.now _
      · rw [Bool.not_eq_true] at d2
        simp only [d2, Bool.false_eq_true, and_false, if_false]
        exact Ev.now _
    · rw [Bool.not_eq_true] at d1
      simp only [d1, Bool.false_eq_true, false_and, if_false]
      exact Ev.now _
  rw [if_neg c4]
  have go2 : ∀ r : Int, Ev (fun k => goscan_escapeForm.j2 k a p c false) r → Ev (fun k => if c ≥ 48 then goscan_escapeForm.j2 k a p c (decide (c ≤ 51)) else goscan_escapeForm.j2 k a p c false) r := by
    intro r h
    by_cases c5 : c ≥ 48
    · simp only [if_pos c5, decide_eq_false (show ¬ c ≤ 51 by omega)]
      exact h
    · simp only [if_neg c5]
      exact h
  apply go2
  apply Ev.succ
  simp only [goscan_escapeForm.j2, Bool.false_eq_true, if_false, w2, w4]
  by_cases c6 : c = 120
  · simp only [if_pos c6]
    refine Ev.bind hx2 ?_
    by_cases d : hexn 2 0 (L.drop 2) ≥ 0
    · simp only [if_pos d]; exact Ev.now _
    · simp only [if_neg d]; exact Ev.now _
  simp only [if_neg c6]
  by_cases c7 : c = 117
  · simp only [if_pos c7]
    apply Ev.succ
    simp only [goscan_escapeForm.j3, if_true, if_neg (show ¬ c = 85 by omega), w2]
    exact Ev.bind hx4 (tail 4 _ (by omega))
  simp only [if_neg c7]
  apply Ev.succ
  by_cases c8 : c = 85
  · simp only [goscan_escapeForm.j3, c8, beq_self_eq_true, if_true, w2]
    exact Ev.bind hx8 (tail 8 _ (by omega))
  · rw [show (c == 85) = false from beq_eq_false_iff_ne.2 c8, if_neg c8]
    simp only [goscan_escapeForm.j3, Bool.false_eq_true, if_false]
    exact Ev.now _
theorem hexn_len (n : Nat) : ∀ (v : Int) (L : List UInt8), 0 ≤ hexn n v L → n ≤ L.length ∨ n = 0 := by
  induction n with
  | zero => intro v L _; exact .inr rfl
  | succ n ih =>
    intro v L h
    unfold hexn at h
    by_cases c : dig (hd L) 16 = true
    · rw [if_pos c] at h
      have h1 := dig_len c
      have := ih _ _ h
      rw [List.length_drop] at this
      omega
    · rw [if_neg c] at h; omega
theorem esc_fit (q : Int) (hq : 0 < q) (L : List UInt8) : Fit L (escOf q L) := by
  unfold escOf
  split
  · rename_i c0
    have l0 := hd_pos (L := L) (by omega)
    split
    · rename_i c
      have : hd (L.drop 1) ≠ 0 := by
        intro e
        rw [e] at c
        rcases c with c | c
        · omega
        · exact absurd c (by decide)
      have := hd_pos this
      rw [List.length_drop] at this
      right; omega
    · split
      · split
        · rename_i c
          have := dig_len c.2
          rw [List.length_drop] at this
          right; omega
        · exact fit_none L
      · split
        · split
          · rename_i c
            have := hexn_len 2 0 _ c
            rw [List.length_drop] at this
            right; omega
          · exact fit_none L
        · split
          · split
            · rename_i c
              simp only [okRune, decide_eq_true_eq] at c
              have := hexn_len 4 0 _ c.1
              rw [List.length_drop] at this
              right; omega
            · exact fit_none L
          · split
            · split
              · rename_i c
                simp only [okRune, decide_eq_true_eq] at c
                have := hexn_len 8 0 _ c.1
                rw [List.length_drop] at this
                right; omega
              · exact fit_none L
            · exact fit_none L
  · exact fit_none L
def oneOf (q : Int) (L : List UInt8) : Int := if hd L = 92 then escOf q L else if pw L = 0 ∨ pr L = 10 ∨ pr L = q then -1 else (pw L : Int)
theorem one_fit (q : Int) (hq : 0 < q) (L : List UInt8) : Fit L (oneOf q L) := by
  have := piece_fit L
  unfold oneOf
  split
  · exact esc_fit q hq L
  · split
    · exact fit_none L
    · right; omega
theorem wr32 {q : Int} (h0 : 0 ≤ q) (h1 : q ≤ 255) : wrap32 q = q := by unfold wrap32; omega
theorem one_ev (a : ByteArray) (ha : a.size ≤ 262144) (q : Int) (hq : 0 < q) (hq' : q ≤ 255) (p : Nat) (hp : p ≤ a.size) : Ev (fun k => goscan_oneForm.f k a p q) (ab p (oneOf q (rest a p))) := by
  have hf := piece_fit (rest a p)
  have hlen := rest_len a p
  unfold goscan_oneForm.f oneOf
  simp only [at_eq, Option.bind_some, plain_eq, wr32 (show 0 ≤ q by omega) hq']
  by_cases c : hd (rest a p) = 92
  · simp only [if_pos c]
    exact Ev.bind (esc_ev a ha q hq p hp) (Ev.now _)
  simp only [if_neg c]
  by_cases c1 : pw (rest a p) = 0
  · simp only [if_pos (show ((pw (rest a p) : Nat) : Int) = 0 by omega)]
    rw [if_pos (.inl c1)]; exact Ev.now _
  simp only [if_neg (show ¬ ((pw (rest a p) : Nat) : Int) = 0 by omega)]
  by_cases c2 : pr (rest a p) = 10
  · simp only [if_pos c2]
    rw [if_pos (.inr (.inl c2))]; exact Ev.now _
  simp only [if_neg c2]
  by_cases c3 : pr (rest a p) = q
  · simp only [if_pos c3]
    rw [if_pos (.inr (.inr c3))]; exact Ev.now _
  simp only [if_neg c3]
  rw [if_neg (by omega), ab_some (by omega), wrp (show p + pw (rest a p) ≤ 1000000 by omega), show (p : Int) + ((pw (rest a p) : Nat) : Int) = ((p + pw (rest a p) : Nat) : Int) by omega]
  exact Ev.now _
def charOf (L : List UInt8) : Int := if hd L = 39 then (if oneOf 39 (L.drop 1) < 0 then -1 else if hd (L.drop (1 + (oneOf 39 (L.drop 1)).toNat)) = 39 then 2 + oneOf 39 (L.drop 1) else -1) else -1
theorem char_fit (L : List UInt8) : Fit L (charOf L) := by
  unfold charOf
  split
  · split
    · exact fit_none L
    · split
      · rename_i c0 c1 c2
        have h := hd_pos (L := L.drop (1 + (oneOf 39 (L.drop 1)).toNat)) (by omega)
        rw [List.length_drop] at h
        right; omega
      · exact fit_none L
  · exact fit_none L
theorem char_ev (a : ByteArray) (ha : a.size ≤ 262144) (p : Nat) (hp : p ≤ a.size) : Ev (fun k => goscan_charForm.f k a p) (ab p (charOf (rest a p))) := by
  have hlen := rest_len a p
  unfold goscan_charForm.f charOf
  simp only [at_eq, Option.bind_some, wrp1 (show p + 1 ≤ 1000000 by omega)]
  by_cases c : hd (rest a p) = 39
  · have l0 := hd_pos (L := rest a p) (by omega)
    simp only [if_pos c]
    refine Ev.bind (one_ev a ha 39 (by omega) (by omega) (p + 1) (by omega)) ?_
    rw [rest_add]
    have hf := one_fit 39 (by omega) ((rest a p).drop 1)
    by_cases c1 : oneOf 39 ((rest a p).drop 1) < 0
    · simp only [if_pos c1]
      rw [show oneOf 39 ((rest a p).drop 1) = -1 by unfold Fit at hf; omega, ab_none]
      simp only [if_pos (show (-1 : Int) < 0 by omega)]
      exact Ev.now _
    · obtain ⟨n, hn⟩ : ∃ n : Nat, oneOf 39 ((rest a p).drop 1) = n := ⟨(oneOf 39 ((rest a p).drop 1)).toNat, by omega⟩
      rw [hn] at hf ⊢
      have hb : n + 1 ≤ (rest a p).length := by unfold Fit at hf; rw [List.length_drop] at hf; omega
      rw [ab_some (by omega), show ((p + 1 : Nat) : Int) + (n : Int) = ((p + (1 + n) : Nat) : Int) by omega]
      simp only [if_neg (show ¬ ((p + (1 + n) : Nat) : Int) < 0 by omega), if_neg (show ¬ (n : Int) < 0 by omega), at_eq, rest_add a p (1 + n), Option.bind_some, Int.toNat_natCast, wrp1 (show p + (1 + n) + 1 ≤ 1000000 by omega)]
      by_cases c2 : hd ((rest a p).drop (1 + n)) = 39
      · simp only [if_pos c2]
        rw [ab_some (by omega), show (p : Int) + (2 + (n : Int)) = ((p + (1 + n) + 1 : Nat) : Int) by omega]
        exact Ev.now _
      · simp only [if_neg c2]
        exact Ev.now _
  · simp only [if_neg c]
    exact Ev.now _
def strEnd (L : List UInt8) : Int := if hd L = 34 then 1 else if h : 0 < oneOf 34 L then sh (oneOf 34 L).toNat (strEnd (L.drop (oneOf 34 L).toNat)) else -1
  termination_by L.length
  decreasing_by
    have := one_fit 34 (by omega) L
    unfold Fit at this
    simp; omega
def rawEnd (L : List UInt8) : Int := if hd L = 96 then 1 else if h : 1 ≤ pw L then sh (pw L) (rawEnd (L.drop (pw L))) else -1
  termination_by L.length
  decreasing_by
    have := piece_fit L; simp; omega
theorem strEnd_fit_n (n : Nat) : ∀ L : List UInt8, L.length ≤ n → Fit L (strEnd L) := by
  induction n using Nat.strongRecOn with
  | _ n ih =>
    intro L h
    rw [strEnd]
    have hf := one_fit 34 (by omega) L
    unfold Fit at hf
    split
    · have := hd_pos (L := L) (by omega)
      right; omega
    · split
      · exact sh_fit (ih (L.length - (oneOf 34 L).toNat) (by omega) _ (by rw [List.length_drop]; omega))
      · exact fit_none L
theorem rawEnd_fit_n (n : Nat) : ∀ L : List UInt8, L.length ≤ n → Fit L (rawEnd L) := by
  induction n using Nat.strongRecOn with
  | _ n ih =>
    intro L h
    rw [rawEnd]
    have hf := piece_fit L
    split
    · have := hd_pos (L := L) (by omega)
      right; omega
    · split
      · exact sh_fit (ih (L.length - pw L) (by omega) _ (by rw [List.length_drop]; omega))
      · exact fit_none L
theorem str_loop (a : ByteArray) (ha : a.size ≤ 262144) (n : Nat) : ∀ q : Nat, a.size - q ≤ n → q ≤ a.size → Ev (fun k => goscan_quotedForm.l0 k a q) (ab q (strEnd (rest a q))) := by
  induction n using Nat.strongRecOn with
  | _ n ih =>
    intro q h0 h2
    have hlen := rest_len a q
    have hf := one_fit 34 (by omega) (rest a q)
    unfold Fit at hf
    apply Ev.succ
    simp only [goscan_quotedForm.l0, at_eq, Option.bind_some]
    rw [strEnd]
    by_cases c : hd (rest a q) = 34
    · simp only [if_pos c, wrp1 (show q + 1 ≤ 1000000 by omega)]
      exact Ev.now _
    simp only [if_neg c]
    refine Ev.bind (one_ev a ha 34 (by omega) (by omega) q h2) ?_
    by_cases c1 : 0 < oneOf 34 (rest a q)
    · rw [dif_pos c1]
      obtain ⟨m, hm⟩ : ∃ m : Nat, oneOf 34 (rest a q) = m := ⟨(oneOf 34 (rest a q)).toNat, by omega⟩
      rw [hm] at c1 hf ⊢
      rw [ab_some (by omega), Int.toNat_natCast]
      simp only [if_neg (show ¬ (q : Int) + (m : Int) < 0 by omega)]
      have h := ih (a.size - (q + m)) (by omega) (q + m) (by omega) (by omega)
      rw [rest_add, ab_sh] at h
      exact h
    · rw [dif_neg c1, show oneOf 34 (rest a q) = -1 by omega, ab_none]
      simp only [if_pos (show (-1 : Int) < 0 by omega)]
      exact Ev.now _
theorem raw_loop (a : ByteArray) (ha : a.size ≤ 262144) (n : Nat) : ∀ q : Nat, a.size - q ≤ n → q ≤ a.size → Ev (fun k => goscan_quotedForm.l1 k a q) (ab q (rawEnd (rest a q))) := by
  induction n using Nat.strongRecOn with
  | _ n ih =>
    intro q h0 h2
    have hlen := rest_len a q
    have hf := piece_fit (rest a q)
    apply Ev.succ
    simp only [goscan_quotedForm.l1, at_eq, Option.bind_some, plain_eq]
    rw [rawEnd]
    by_cases c : hd (rest a q) = 96
    · simp only [if_pos c, wrp1 (show q + 1 ≤ 1000000 by omega)]
      exact Ev.now _
    simp only [if_neg c]
    by_cases c1 : 1 ≤ pw (rest a q)
    · rw [dif_pos c1]
      simp only [if_neg (show ¬ ((pw (rest a q) : Nat) : Int) = 0 by omega)]
      rw [wrp (show q + pw (rest a q) ≤ 1000000 by omega)]
      have h := ih (a.size - (q + pw (rest a q))) (by omega) (q + pw (rest a q)) (by omega) (by omega)
      rw [rest_add, ab_sh] at h
      exact h
    · rw [dif_neg c1]
      simp only [if_pos (show ((pw (rest a q) : Nat) : Int) = 0 by omega)]
      exact Ev.now _
def quotedOf (L : List UInt8) : Int := if hd L = 34 then sh 1 (strEnd (L.drop 1)) else if hd L = 96 then sh 1 (rawEnd (L.drop 1)) else -1
theorem quoted_fit (L : List UInt8) : Fit L (quotedOf L) := by
  unfold quotedOf
  split
  · exact sh_fit (strEnd_fit_n _ _ (Nat.le_refl _))
  · split
    · exact sh_fit (rawEnd_fit_n _ _ (Nat.le_refl _))
    · exact fit_none L
theorem quoted_ev (a : ByteArray) (ha : a.size ≤ 262144) (p : Nat) (hp : p ≤ a.size) : Ev (fun k => goscan_quotedForm.f k a p) (ab p (quotedOf (rest a p))) := by
  have hlen := rest_len a p
  unfold goscan_quotedForm.f quotedOf
  simp only [at_eq, Option.bind_some, wrp1 (show p + 1 ≤ 1000000 by omega)]
  by_cases c : hd (rest a p) = 34
  · have l0 := hd_pos (L := rest a p) (by omega)
    simp only [if_pos c]
    have h := str_loop a ha _ (p + 1) (Nat.le_refl _) (by omega)
    rw [rest_add, ab_sh] at h
    exact h
  simp only [if_neg c]
  by_cases c : hd (rest a p) = 96
  · have l0 := hd_pos (L := rest a p) (by omega)
    simp only [if_pos c]
    have h := raw_loop a ha _ (p + 1) (Nat.le_refl _) (by omega)
    rw [rest_add, ab_sh] at h
    exact h
  simp only [if_neg c]
  exact Ev.now _
def forms (L : List UInt8) : List Int := [blankOf L, newlineOf L, remarkOf L, commentOf L, identOf L, wholeOf L, brokenOf L, imagOf L, charOf L, quotedOf L]
theorem forms_fit (L : List UInt8) : ∀ r ∈ forms L, Fit L r := by
  intro r h
  simp only [forms, List.mem_cons, List.not_mem_nil, or_false] at h
  rcases h with rfl | rfl | rfl | rfl | rfl | rfl | rfl | rfl | rfl | rfl
  · exact blank_fit L
  · exact newline_fit L
  · exact remark_fit L
  · exact comment_fit L
  · exact ident_fit L
  · exact whole_fit L
  · exact broken_fit L
  · exact imag_fit L
  · exact char_fit L
  · exact quoted_fit L
def longOf (L : List UInt8) : Int × Int := goscan_longest.pick (forms L) 0 (0, -1)
theorem pick_ab (p : Nat) : ∀ (l : List Int) (j m i : Int), (∀ r ∈ l, -1 ≤ r) → 0 ≤ m → goscan_longest.pick (l.map (ab p)) j ((p : Int) + m, i) = ((p : Int) + (goscan_longest.pick l j (m, i)).1, (goscan_longest.pick l j (m, i)).2)
  | [], j, m, i, _, _ => rfl
  | r :: l, j, m, i, h, hm => by
    have hr := h r List.mem_cons_self
    have hl : ∀ r ∈ l, -1 ≤ r := fun x hx => h x (List.mem_cons_of_mem _ hx)
    simp only [List.map_cons, goscan_longest.pick]
    by_cases c : r > m
    · rw [if_pos c, ab_some (by omega), if_pos (by omega)]
      exact pick_ab p l (j + 1) r j hl (by omega)
    · rw [if_neg c, if_neg (by unfold ab; split <;> omega)]
      exact pick_ab p l (j + 1) m i hl hm
theorem pick_fit (n : Int) : ∀ (l : List Int) (j m i : Int), (∀ r ∈ l, r = -1 ∨ (1 ≤ r ∧ r ≤ n)) → 0 ≤ m → m ≤ n → -1 ≤ i → i < j → (i = -1 ↔ m = 0) →
    0 ≤ (goscan_longest.pick l j (m, i)).1 ∧ (goscan_longest.pick l j (m, i)).1 ≤ n ∧ -1 ≤ (goscan_longest.pick l j (m, i)).2 ∧ (goscan_longest.pick l j (m, i)).2 < j + l.length ∧ ((goscan_longest.pick l j (m, i)).2 = -1 ↔ (goscan_longest.pick l j (m, i)).1 = 0)
  | [], j, m, i, _, h0, h1, h2, h3, h4 => by simp only [goscan_longest.pick, List.length_nil]; omega
  | r :: l, j, m, i, h, h0, h1, h2, h3, h4 => by
    have hr := h r List.mem_cons_self
    have hl : ∀ r ∈ l, r = -1 ∨ (1 ≤ r ∧ r ≤ n) := fun x hx => h x (List.mem_cons_of_mem _ hx)
    simp only [goscan_longest.pick, List.length_cons]
    by_cases c : r > m
    · rw [if_pos c]
      have := pick_fit n l (j + 1) r j hl (by omega) (by omega) (by omega) (by omega) (by omega)
      omega
    · rw [if_neg c]
      have := pick_fit n l (j + 1) m i hl h0 h1 h2 (by omega) h4
      omega
theorem long_fit (L : List UInt8) : 0 ≤ (longOf L).1 ∧ (longOf L).1 ≤ (L.length : Int) ∧ -1 ≤ (longOf L).2 ∧ (longOf L).2 < 10 ∧ ((longOf L).2 = -1 ↔ (longOf L).1 = 0) := by
  have := pick_fit L.length (forms L) 0 0 (-1) (forms_fit L) (by omega) (by omega) (by omega) (by omega) (by omega)
  have e : ((forms L).length : Int) = 10 := rfl
  rw [e] at this
  refine ⟨this.1, this.2.1, this.2.2.1, ?_, this.2.2.2.2⟩
  show (goscan_longest.pick (forms L) 0 (0, -1)).2 < 10
  omega
theorem long_ev (a : ByteArray) (ha : a.size ≤ 262144) (p : Nat) (hp : p ≤ a.size) : Ev (fun k => goscan_longest.f k a p) ((p : Int) + (longOf (rest a p)).1, (longOf (rest a p)).2) := by
  have hp2 : p ≤ 262144 := Nat.le_trans hp ha
  unfold goscan_longest.f
  refine Ev.bind (blank_ev a ha p hp) (Ev.bind (Ev.const (newlineForm_eq a ha p hp)) (Ev.bind (remark_ev a ha p hp) (Ev.bind (comment_ev a ha p hp) (Ev.bind (ident_ev a ha p hp) (Ev.bind (whole_ev a ha p hp2) (Ev.bind (broken_ev a ha p hp2) (Ev.bind (imag_ev a ha p hp2) (Ev.bind (char_ev a ha p hp) (Ev.bind (quoted_ev a ha p hp) ?_)))))))))
  have h := pick_ab p (forms (rest a p)) 0 0 (-1) (fun r hr => fit_ge (forms_fit _ r hr)) (by omega)
  rw [Int.add_zero] at h
  have e : goscan_longest.pick [ab p (blankOf (rest a p)), ab p (newlineOf (rest a p)), ab p (remarkOf (rest a p)), ab p (commentOf (rest a p)), ab p (identOf (rest a p)), ab p (wholeOf (rest a p)), ab p (brokenOf (rest a p)), ab p (imagOf (rest a p)), ab p (charOf (rest a p)), ab p (quotedOf (rest a p))] 0 ((p : Int), -1) = ((p : Int) + (longOf (rest a p)).1, (longOf (rest a p)).2) := h
  rw [e]
  exact Ev.now _
def writ (L : List UInt8) : List S69 → Int → Int × Int → Int × Int
  | [], _, s => s
  | t :: l, i, s => writ L l (i + 1) (if (t.f1.size : Int) > s.2 ∧ L.take t.f1.size = t.f1.data.toList then (8 + i, (t.f1.size : Int)) else s)
def writOf (L : List UInt8) : Int × Int := writ L goscan_operators.l 0 (0, 0)
theorem rd69_at (l : List S69) (i : Nat) (h : i < l.length) : rd_T69 l (i : Int) = l[i] := by
  unfold rd_T69
  rw [List.getD_eq_getElem?_getD, Int.toNat_natCast, List.getElem?_eq_getElem h]
  rfl
theorem writ_loop (a : ByteArray) (ha : a.size ≤ 262144) (p : Nat) (hp : p ≤ a.size) (Y : List S69) (hy : Y.length ≤ 1000) (n : Nat) : ∀ (i : Nat) (c m : Int), i + n = Y.length → 0 ≤ m → m ≤ 262144 → Ev (fun k => goscan_written.l0 k a p c (p + m) Y (Y.length : Int) i) ((writ (rest a p) (Y.drop i) i (c, m)).1, (p : Int) + (writ (rest a p) (Y.drop i) i (c, m)).2) := by
  have hlen := rest_len a p
  induction n with
  | zero =>
    intro i c m hi h0 h1
    apply Ev.succ
    rw [List.drop_eq_nil_of_le (by omega)]
    simp only [goscan_written.l0, if_neg (show ¬ (i : Int) < (Y.length : Int) by omega), writ]
    exact Ev.now _
  | succ n ih =>
    intro i c m hi h0 h1
    have hil : i < Y.length := by omega
    apply Ev.succ
    rw [List.drop_eq_getElem_cons hil]
    obtain ⟨t, ht⟩ : ∃ t, Y[i] = t := ⟨_, rfl⟩
    rw [ht]
    simp only [goscan_written.l0, if_pos (show (i : Int) < (Y.length : Int) by omega), if_pos (show (0 : Int) ≤ (i : Int) by omega), rd69_at Y i hil, ht, if_pos (show (0 : Int) ≤ (p : Int) by omega), if_pos (show (p : Int) ≤ (a.size : Int) by omega), Int.toNat_natCast, pfx_eq a _ p hp, Option.bind_some, wrp1 (show i + 1 ≤ 1000000 by omega), writ]
    rw [wr (x := (p : Int) + m - p) (by omega) (by omega), show (p : Int) + m - p = m by omega]
    have hstep : ((i : Int) + 1) = ((i + 1 : Nat) : Int) := by omega
    rw [hstep]
    by_cases c1 : (t.f1.size : Int) > m
    · simp only [if_pos c1]
      by_cases c2 : (rest a p).take t.f1.size = t.f1.data.toList
      · have hs : t.f1.size ≤ (rest a p).length := by
          have := congrArg List.length c2
          rw [List.length_take] at this
          have e : t.f1.data.toList.length = t.f1.size := rfl
          omega
        rw [if_pos ⟨c1, c2⟩]
        simp only [decide_eq_true c2, if_true]
        rw [wrp (show p + t.f1.size ≤ 1000000 by omega), wr (x := 8 + (i : Int)) (by omega) (by omega)]
        have hh := ih (i + 1) (8 + (i : Int)) (t.f1.size : Int) (by omega) (by omega) (by omega)
        rw [show (p : Int) + (t.f1.size : Int) = ((p + t.f1.size : Nat) : Int) by omega] at hh
        exact hh
      · rw [if_neg (fun h => c2 h.2)]
        simp only [decide_eq_false c2, Bool.false_eq_true, if_false]
        exact ih (i + 1) _ _ (by omega) h0 h1
    · simp only [if_neg c1]
      rw [if_neg (fun h => c1 h.1)]
      exact ih (i + 1) _ _ (by omega) h0 h1
theorem opers_len : goscan_operators.l.length = 48 := by decide +kernel
theorem writ_ev (a : ByteArray) (ha : a.size ≤ 262144) (p : Nat) (hp : p ≤ a.size) : Ev (fun k => goscan_written.f k a p) ((writOf (rest a p)).1, (p : Int) + (writOf (rest a p)).2) := by
  have h := writ_loop a ha p hp goscan_operators.l (by rw [opers_len]; omega) goscan_operators.l.length 0 0 0 (by omega) (by omega) (by omega)
  rw [Int.add_zero, List.drop_zero] at h
  unfold goscan_written.f
  exact Ev.bind (Ev.const rfl) h
theorem writ_fit (L : List UInt8) : ∀ (l : List S69) (i c m : Int), 0 ≤ i → 0 ≤ m → m ≤ (L.length : Int) → (0 < m → 8 ≤ c ∧ c < 8 + i) →
    0 ≤ (writ L l i (c, m)).2 ∧ (writ L l i (c, m)).2 ≤ (L.length : Int) ∧ (0 < (writ L l i (c, m)).2 → 8 ≤ (writ L l i (c, m)).1 ∧ (writ L l i (c, m)).1 < 8 + i + l.length)
  | [], i, c, m, hi, h0, h1, h2 => by simp only [writ, List.length_nil]; omega
  | t :: l, i, c, m, hi, h0, h1, h2 => by
    simp only [writ, List.length_cons]
    by_cases c1 : (t.f1.size : Int) > m ∧ L.take t.f1.size = t.f1.data.toList
    · rw [if_pos c1]
      have hs : t.f1.size ≤ L.length := by
        have := congrArg List.length c1.2
        rw [List.length_take] at this
        have e : t.f1.data.toList.length = t.f1.size := rfl
        omega
      have := writ_fit L l (i + 1) (8 + i) t.f1.size (by omega) (by omega) (by omega) (by omega)
      omega
    · rw [if_neg c1]
      have := writ_fit L l (i + 1) c m (by omega) h0 h1 (by omega)
      omega
theorem writOf_fit (L : List UInt8) : 0 ≤ (writOf L).2 ∧ (writOf L).2 ≤ (L.length : Int) ∧ (0 < (writOf L).2 → 8 ≤ (writOf L).1 ∧ (writOf L).1 < 56) := by
  have := writ_fit L goscan_operators.l 0 0 0 (by omega) (by omega) (by omega) (by omega)
  rw [opers_len] at this
  unfold writOf
  omega
def textOfN (L : List UInt8) (n : Int) : ByteArray := ⟨(L.take n.toNat).toArray⟩
theorem extract_text (a : ByteArray) (p : Nat) (n : Int) (hn : 0 ≤ n) : a.extract p ((p : Int) + n).toNat = textOfN (rest a p) n := by
  unfold textOfN rest
  have e : ((p : Int) + n).toNat = p + n.toNat := by omega
  rw [e]
  apply ByteArray.ext
  apply Array.ext'
  rw [ByteArray.data_extract, Array.toList_extract, List.extract_eq_take_drop]
  simp
def kindAt (L : List UInt8) (n i : Int) : Int := if i = 4 then (if (kindOf (textOfN L n)).2 = true then (kindOf (textOfN L n)).1 else 2) else (goscan_next.kinds 81).getD i.toNat 0
def tokOf (L : List UInt8) : Int × Int × Bool := if (writOf L).2 > (longOf L).1 then ((writOf L).1, (writOf L).2, true) else if (longOf L).2 < 0 then (0, 0, false) else (kindAt L (longOf L).1 (longOf L).2, (longOf L).1, true)
theorem kinds_two : ∀ i : Fin 10, (goscan_next.kinds 81).getD i.1 0 = 2 ↔ i.1 = 4 := by decide +kernel
theorem kinds_fit : ∀ i : Fin 10, (goscan_next.kinds 81).getD i.1 0 = 0 ∨ (2 ≤ (goscan_next.kinds 81).getD i.1 0 ∧ (goscan_next.kinds 81).getD i.1 0 < 84) := by decide +kernel
theorem kindOf_fit (s : ByteArray) (h : (kindOf s).2 = true) : 8 ≤ (kindOf s).1 ∧ (kindOf s).1 < 81 := by
  unfold kindOf at h ⊢
  cases hp : place s TX 8 with
  | none => rw [hp] at h; simp at h
  | some j =>
    have := place_le s TX 8 j hp
    rw [TX_len] at this
    dsimp only
    omega
theorem tok_fit (L : List UInt8) (h : (tokOf L).2.2 = true) : 1 ≤ (tokOf L).2.1 ∧ (tokOf L).2.1 ≤ (L.length : Int) ∧ ((tokOf L).1 = 0 ∨ (2 ≤ (tokOf L).1 ∧ (tokOf L).1 < 84)) := by
  have hw := writOf_fit L
  have hl := long_fit L
  unfold tokOf at h ⊢
  by_cases c : (writOf L).2 > (longOf L).1
  · rw [if_pos c]
    refine ⟨by dsimp only; omega, by dsimp only; omega, .inr ?_⟩
    dsimp only
    omega
  · rw [if_neg c] at h ⊢
    by_cases c2 : (longOf L).2 < 0
    · rw [if_pos c2] at h; simp at h
    · rw [if_neg c2]
      refine ⟨by dsimp only; omega, by dsimp only; omega, ?_⟩
      dsimp only
      unfold kindAt
      by_cases c3 : (longOf L).2 = 4
      · rw [if_pos c3]
        right
        split
        · rename_i c4
          have := kindOf_fit _ c4
          omega
        · omega
      · rw [if_neg c3]
        exact kinds_fit ⟨(longOf L).2.toNat, by omega⟩
def nextAt (p : Nat) (t : Int × Int × Bool) : Int × Int × Int × Bool := if t.2.2 = true then (t.1, (p : Int), (p : Int) + t.2.1, true) else (0, 0, 0, false)
theorem gnext_ev (a : ByteArray) (ha : a.size ≤ 262144) (p : Nat) (hp : p ≤ a.size) : Ev (fun k => goscan_next.f k a p) (nextAt p (tokOf (rest a p))) := by
  have hlen := rest_len a p
  have hw := writOf_fit (rest a p)
  have hl := long_fit (rest a p)
  unfold goscan_next.f tokOf nextAt
  refine Ev.bind (long_ev a ha p hp) (Ev.bind (writ_ev a ha p hp) ?_)
  by_cases c : (writOf (rest a p)).2 > (longOf (rest a p)).1
  · simp only [if_pos c, if_pos (show (p : Int) + (writOf (rest a p)).2 > (p : Int) + (longOf (rest a p)).1 by omega), if_true]
    exact Ev.now _
  · simp only [if_neg c, if_neg (show ¬ (p : Int) + (writOf (rest a p)).2 > (p : Int) + (longOf (rest a p)).1 by omega)]
    refine Ev.bind newline_ev ?_
    by_cases c2 : (longOf (rest a p)).2 < 0
    · simp only [if_pos c2, Bool.false_eq_true, if_false]
      exact Ev.now _
    · simp only [if_neg c2, if_pos (show (longOf (rest a p)).2 < 10 by omega), if_true]
      have h2 := kinds_two ⟨(longOf (rest a p)).2.toNat, by omega⟩
      unfold kindAt
      by_cases c3 : (longOf (rest a p)).2 = 4
      · have e : (goscan_next.kinds 81).getD (longOf (rest a p)).2.toNat 0 = 2 := h2.2 (by dsimp only; omega)
        rw [if_pos c3]
        simp only [if_pos e, if_pos (show (0 : Int) ≤ (p : Int) by omega), if_pos (show (p : Int) ≤ (p : Int) + (longOf (rest a p)).1 by omega), if_pos (show (p : Int) + (longOf (rest a p)).1 ≤ (a.size : Int) by omega), Int.toNat_natCast, extract_text a p _ hl.1]
        refine Ev.bind (kind_ev _) ?_
        by_cases c4 : (kindOf (textOfN (rest a p) (longOf (rest a p)).1)).2 = true
        · simp only [if_pos c4]; exact Ev.now _
        · simp only [if_neg c4]; exact Ev.now _
      · have e : ¬ (goscan_next.kinds 81).getD (longOf (rest a p)).2.toNat 0 = 2 := fun h => c3 (by have := h2.1 h; dsimp only at this; omega)
        rw [if_neg c3]
        simp only [if_neg e]
        exact Ev.now _
def rawL (L : List UInt8) (p : Nat) (o : List S36) : List S36 × Int × Int :=
  if L = [] then (o, 0, 0)
  else if h : (tokOf L).2.2 = true then
    (if (tokOf L).1 > 0 then (if 65536 ≤ o.length then ([], 3, (p : Int)) else rawL (L.drop (tokOf L).2.1.toNat) (p + (tokOf L).2.1.toNat) (o ++ [⟨(tokOf L).1, (p : Int), (p : Int) + (tokOf L).2.1⟩]))
    else rawL (L.drop (tokOf L).2.1.toNat) (p + (tokOf L).2.1.toNat) o)
  else if (nextOf L).2.2 = true then ([], 60, (p : Int)) else ([], 10, (p : Int))
  termination_by L.length
  decreasing_by
    all_goals (have := tok_fit L h; simp; omega)
theorem raw_loop2 (a : ByteArray) (ha : a.size ≤ 262144) (n : Nat) : ∀ (p : Nat) (o : List S36), a.size - p ≤ n → p ≤ a.size → o.length ≤ 65536 → Ev (fun k => goscan_Raw.l0 k a o p) (rawL (rest a p) p o) := by
  induction n using Nat.strongRecOn with
  | _ n ih =>
    intro p o h0 h1 h2
    have hlen := rest_len a p
    apply Ev.succ
    rw [rawL]
    by_cases c : p < a.size
    rotate_left
    · rw [if_pos (rest_nil.2 (by omega))]
      simp only [goscan_Raw.l0, if_neg (show ¬ (p : Int) < (a.size : Int) by omega)]
      exact Ev.now _
    rw [if_neg (fun e => by have := rest_nil.1 e; omega)]
    simp only [goscan_Raw.l0, if_pos (show (p : Int) < (a.size : Int) by omega), next_eq, Option.bind_some]
    refine Ev.bind (gnext_ev a ha p h1) ?_
    unfold nextAt
    by_cases c1 : (tokOf (rest a p)).2.2 = true
    · have ht := tok_fit _ c1
      rw [dif_pos c1]
      simp only [if_pos c1, if_true]
      obtain ⟨m, hm⟩ : ∃ m : Nat, (tokOf (rest a p)).2.1 = m := ⟨(tokOf (rest a p)).2.1.toNat, by omega⟩
      rw [hm] at ht ⊢
      rw [Int.toNat_natCast]
      have ihh := fun o (ho : o.length ≤ 65536) => ih (a.size - (p + m)) (by omega) (p + m) o (by omega) (by omega) ho
      rw [rest_add] at ihh
      rw [show (p : Int) + (m : Int) = ((p + m : Nat) : Int) by omega]
      by_cases c2 : (tokOf (rest a p)).1 > 0
      · simp only [if_pos c2]
        by_cases c3 : 65536 ≤ o.length
        · simp only [if_pos c3, if_pos (show (o.length : Int) ≥ 65536 by omega)]
          exact Ev.now _
        · simp only [if_neg c3, if_neg (show ¬ (o.length : Int) ≥ 65536 by omega), if_pos (show o.length < 5864062014805 by omega)]
          exact ihh _ (by simp; omega)
      · simp only [if_neg c2]
        exact ihh _ h2
    · rw [dif_neg c1]
      simp only [if_neg c1, Bool.false_eq_true, if_false]
      by_cases c2 : (nextOf (rest a p)).2.2 = true
      · simp only [if_pos c2]; exact Ev.now _
      · simp only [if_neg c2]; exact Ev.now _
def bom (L : List UInt8) : Bool := decide (L.take 3 = [239, 187, 191])
def rawOf (a : ByteArray) : List S36 × Int × Int := if a.size > 262144 then ([], 3, 0) else if bom (rest a 0) = true then rawL (rest a 3) 3 [] else rawL (rest a 0) 0 []
theorem graw_ev (a : ByteArray) : Ev (fun k => goscan_Raw.f k a) (rawOf a) := by
  unfold goscan_Raw.f rawOf
  by_cases c : a.size > 262144
  · simp only [if_pos c, if_pos (show (a.size : Int) > 262144 by omega)]
    exact Ev.now _
  simp only [if_neg c, if_neg (show ¬ (a.size : Int) > 262144 by omega)]
  have hp := pfx_eq a ⟨#[239, 187, 191]⟩ 0 (by omega)
  have e0 : a.extract 0 a.size = a := ByteArray.extract_zero_size
  rw [e0] at hp
  have hb : decide ((rest a 0).take (⟨#[239, 187, 191]⟩ : ByteArray).size = (⟨#[239, 187, 191]⟩ : ByteArray).data.toList) = bom (rest a 0) := rfl
  rw [hb] at hp
  simp only [hp, Option.bind_some]
  by_cases cb : bom (rest a 0) = true
  · simp only [cb, if_true]
    have h3 : 3 ≤ a.size := by
      have := congrArg List.length (of_decide_eq_true cb)
      rw [List.length_take, rest_len] at this
      simp at this; omega
    apply Ev.succ
    simp only [goscan_Raw.j0]
    exact raw_loop2 a (by omega) _ 3 [] (Nat.le_refl _) h3 (by simp)
  · rw [Bool.not_eq_true] at cb
    simp only [cb, Bool.false_eq_true, if_false]
    apply Ev.succ
    simp only [goscan_Raw.j0]
    exact raw_loop2 a (by omega) _ 0 [] (Nat.le_refl _) (by omega) (by simp)
theorem rawL_good_n (n : Nat) : ∀ (L : List UInt8) (p : Nat) (o : List S36), L.length ≤ n → (∀ t ∈ o, t.f1 < t.f2) →
    ((rawL L p o).2.1 = 0 ∧ (rawL L p o).2.2 = 0 ∧ (∀ t ∈ (rawL L p o).1, t.f1 < t.f2)) ∨ ((rawL L p o).2.1 ≠ 0 ∧ (rawL L p o).1 = []) := by
  induction n using Nat.strongRecOn with
  | _ n ih =>
    intro L p o hn ho
    rw [rawL]
    by_cases c : L = []
    · rw [if_pos c]
      exact .inl ⟨rfl, rfl, ho⟩
    rw [if_neg c]
    by_cases c1 : (tokOf L).2.2 = true
    · have ht := tok_fit L c1
      rw [dif_pos c1]
      have ihh := fun p o ho => ih (L.length - (tokOf L).2.1.toNat) (by omega) (L.drop (tokOf L).2.1.toNat) p o (by rw [List.length_drop]; omega) ho
      by_cases c2 : (tokOf L).1 > 0
      · rw [if_pos c2]
        by_cases c3 : 65536 ≤ o.length
        · rw [if_pos c3]
          exact .inr ⟨by dsimp only; omega, rfl⟩
        · rw [if_neg c3]
          refine ihh _ _ ?_
          intro t ht'
          rcases List.mem_append.1 ht' with h | h
          · exact ho t h
          · rw [List.mem_singleton.1 h]
            dsimp only; omega
      · rw [if_neg c2]
        exact ihh _ _ ho
    · rw [dif_neg c1]
      by_cases c2 : (nextOf L).2.2 = true
      · rw [if_pos c2]
        exact .inr ⟨by dsimp only; omega, rfl⟩
      · rw [if_neg c2]
        exact .inr ⟨by dsimp only; omega, rfl⟩
theorem rawOf_good (a : ByteArray) : ((rawOf a).2.1 = 0 ∧ (rawOf a).2.2 = 0 ∧ (∀ t ∈ (rawOf a).1, t.f1 < t.f2)) ∨ ((rawOf a).2.1 ≠ 0 ∧ (rawOf a).1 = []) := by
  unfold rawOf
  split
  · exact .inr ⟨by dsimp only; omega, rfl⟩
  · split
    · exact rawL_good_n _ _ _ _ (Nat.le_refl _) (by simp)
    · exact rawL_good_n _ _ _ _ (Nat.le_refl _) (by simp)
def allOf (a : ByteArray) : List S36 × Int × Int := if (rawOf a).2.1 ≠ 0 then ([], (rawOf a).2.1, (rawOf a).2.2) else if (insOf a (rawOf a).1).2 = 0 then ((insOf a (rawOf a).1).1, 0, 0) else ([], 3, (a.size : Int))
theorem gall_ev (a : ByteArray) : Ev (fun k => goscan_All.f k a) (allOf a) := by
  unfold goscan_All.f allOf
  refine Ev.bind (graw_ev a) ?_
  rcases rawOf_good a with ⟨h1, h2, _⟩ | ⟨h1, h2⟩
  · rw [h1, h2]
    simp only [beq_self_eq_true, Bool.not_true, Bool.or_self, Bool.false_eq_true, if_false, ne_eq, not_true_eq_false]
    refine Ev.bind (insert_ev a (rawOf a).1) ?_
    by_cases c : (insOf a (rawOf a).1).2 = 0
    · simp only [if_pos c]; exact Ev.now _
    · simp only [if_neg c]; exact Ev.now _
  · have e : (!((rawOf a).2.1 == 0) || (!((rawOf a).2.2 == 0))) = true := by
      rw [beq_eq_false_iff_ne.2 h1]; rfl
    simp only [e, if_true, if_pos h1]
    exact Ev.now _
def Near (K L : List UInt8) : Prop := K = L ++ [10] ∨ K = L
theorem near_drop {K L : List UInt8} (h : Near K L) (n : Nat) : Near (K.drop n) (L.drop n) := by
  rcases h with rfl | rfl
  · by_cases c : n ≤ L.length
    · exact .inl (List.drop_append_of_le_length c)
    · right
      rw [List.drop_eq_nil_of_le (by simp; omega), List.drop_eq_nil_of_le (by omega)]
  · exact .inr rfl
theorem near_hd {K L : List UInt8} (h : Near K L) : hd K = hd L ∨ (hd K = 10 ∧ hd L = 0 ∧ L = []) := by
  rcases h with rfl | rfl
  · cases L with
    | nil => exact .inr ⟨rfl, rfl, rfl⟩
    | cons x t => exact .inl rfl
  · exact .inl rfl
theorem near_is {K L : List UInt8} (h : Near K L) (c : Int) (h0 : c ≠ 0) (h1 : c ≠ 10) : (hd K = c) = (hd L = c) := by
  apply propext
  rcases near_hd h with e | ⟨e1, e2, _⟩
  · rw [e]
  · rw [e1, e2]; constructor
    · intro h; omega
    · intro h; omega
theorem near_dig {K L : List UInt8} (h : Near K L) (b : Int) : dig (hd K) b = dig (hd L) b := by
  rcases near_hd h with e | ⟨e1, e2, _⟩
  · rw [e]
  · rw [e1, e2]
    simp only [dig]
    rw [decide_eq_false (show ¬ (48 : Int) ≤ 10 by omega), decide_eq_false (show ¬ (48 : Int) ≤ 0 by omega), decide_eq_false (show ¬ (97 : Int) ≤ 10 by omega), decide_eq_false (show ¬ (97 : Int) ≤ 0 by omega), decide_eq_false (show ¬ (65 : Int) ≤ 10 by omega), decide_eq_false (show ¬ (65 : Int) ≤ 0 by omega)]
    simp
theorem near_more_n (b : Int) (n : Nat) : ∀ K L : List UInt8, L.length ≤ n → Near K L → more b K = more b L := by
  induction n using Nat.strongRecOn with
  | _ n ih =>
    intro K L hn h
    rw [more.eq_1 b K, more.eq_1 b L]
    have e1 := near_dig h b
    have e2 := near_dig (near_drop h 1) b
    have e3 := near_is h 95 (by omega) (by omega)
    by_cases c : dig (hd L) b = true
    · have hl := dig_len c
      rw [dif_pos (e1.trans c), dif_pos c, ih (n - 1) (by omega) _ (L.drop 1) (by rw [List.length_drop]; omega) (near_drop h 1)]
    · rw [dif_neg (fun x => c (e1 ▸ x)), dif_neg c]
      by_cases c2 : hd L = 95 ∧ dig (hd (L.drop 1)) b = true
      · have hl := hd_pos (L := L) (by omega)
        rw [dif_pos ⟨e3.mpr c2.1, e2.trans c2.2⟩, dif_pos c2, ih (n - 1) (by omega) _ (L.drop 2) (by rw [List.length_drop]; omega) (near_drop h 2)]
      · rw [dif_neg (fun x => c2 ⟨e3.mp x.1, e2 ▸ x.2⟩), dif_neg c2]
theorem near_more {K L : List UInt8} (h : Near K L) (b : Int) : more b K = more b L := near_more_n b _ K L (Nat.le_refl _) h
theorem near_number {K L : List UInt8} (h : Near K L) (b : Int) : number b K = number b L := by unfold number; rw [near_dig h, near_more h]
theorem near_nm {K L : List UInt8} (h : Near K L) (b : Int) : nm b K = nm b L := by unfold nm; rw [near_dig h, near_more h]
theorem near_whole {K L : List UInt8} (h : Near K L) : wholeOf K = wholeOf L := by
  unfold wholeOf pre
  simp only [near_is h 48 (by omega) (by omega), near_more (near_drop h 1), near_more (near_drop h 2), near_number h, near_is (near_drop h 1) 98 (by omega) (by omega), near_is (near_drop h 1) 66 (by omega) (by omega), near_is (near_drop h 1) 111 (by omega) (by omega), near_is (near_drop h 1) 79 (by omega) (by omega), near_is (near_drop h 1) 120 (by omega) (by omega), near_is (near_drop h 1) 88 (by omega) (by omega)]
theorem near_power {K L : List UInt8} (h : Near K L) (c d : Int) (hc : c ≠ 0) (hc' : c ≠ 10) (hd0 : d ≠ 0) (hd' : d ≠ 10) : powerOf c d K = powerOf c d L := by
  unfold powerOf
  simp only [near_is h c hc hc', near_is h d hd0 hd', near_is (near_drop h 1) 43 (by omega) (by omega), near_is (near_drop h 1) 45 (by omega) (by omega), near_number (near_drop h 1), near_number (near_drop h 2)]
theorem near_frac {K L : List UInt8} (h : Near K L) (b : Int) (m : Nat) : frac b m K = frac b m L := by unfold frac; rw [near_nm (near_drop h (m + 1))]
theorem near_hex {K L : List UInt8} (h : Near K L) : hexOf K = hexOf L := by
  unfold hexOf
  have hp := fun n => near_power (near_drop h n) 112 80 (by omega) (by omega) (by omega) (by omega)
  simp only [near_is h 48 (by omega) (by omega), near_is (near_drop h 1) 120 (by omega) (by omega), near_is (near_drop h 1) 88 (by omega) (by omega), near_more (near_drop h 2), near_frac h, hp, near_nm (near_drop h 3), near_is (near_drop h 2) 46 (by omega) (by omega), near_is (near_drop h (2 + more 16 (L.drop 2))) 46 (by omega) (by omega)]
theorem near_broken {K L : List UInt8} (h : Near K L) : brokenOf K = brokenOf L := by
  have hd : dotOf K = dotOf L := by
    unfold dotOf
    simp only [near_nm h, near_frac h, near_is h 46 (by omega) (by omega), near_number (near_drop h 1), near_is (near_drop h (nm 10 L)) 46 (by omega) (by omega)]
  have he : ∀ q, expOf K q = expOf L q := by
    intro q
    unfold expOf
    simp only [near_power (near_drop h q.toNat) 101 69 (by omega) (by omega) (by omega) (by omega)]
  unfold brokenOf
  rw [hd, he, near_hex h, near_number h]
theorem near_imag {K L : List UInt8} (h : Near K L) : imagOf K = imagOf L := by
  have hw : ∀ r, withI K r = withI L r := by
    intro r
    unfold withI
    simp only [near_is (near_drop h r.toNat) 105 (by omega) (by omega)]
  unfold imagOf
  rw [near_number h, near_whole h, near_broken h, hw, hw, hw]
theorem near_hexn (n : Nat) : ∀ (v : Int) (K L : List UInt8), Near K L → hexn n v K = hexn n v L := by
  induction n with
  | zero => intro v K L h; rfl
  | succ n ih =>
    intro v K L h
    simp only [hexn, near_dig h]
    by_cases c : dig (hd L) 16 = true
    · have e : hd K = hd L := by
        rcases near_hd h with e | ⟨e1, e2, _⟩
        · exact e
        · rw [e2] at c; have := dig_pos c; omega
      rw [e, ih _ _ _ (near_drop h 1)]
    · rw [if_neg c, if_neg c]
theorem near_take {K L : List UInt8} (h : Near K L) (T : List UInt8) (hT : (10 : UInt8) ∉ T) : (K.take T.length = T) = (L.take T.length = T) := by
  apply propext
  rcases h with rfl | rfl
  · by_cases c : T.length ≤ L.length
    · rw [List.take_append_of_le_length c]
    · constructor
      · intro e
        exfalso
        rw [List.take_of_length_le (by simp; omega)] at e
        exact hT (e ▸ by simp)
      · intro e
        have := congrArg List.length e
        rw [List.length_take] at this
        omega
  · exact Iff.rfl
theorem decN_more (n b0 b1 b2 b3 c1 c2 c3 : Nat) (hn : 1 ≤ n) (h1 : 1 < n → c1 = b1) (h1' : ¬ 1 < n → c1 / 64 ≠ 2) (h2 : 2 < n → c2 = b2) (h2' : ¬ 2 < n → c2 / 64 ≠ 2) (h3 : 3 < n → c3 = b3) (h3' : ¬ 3 < n → c3 / 64 ≠ 2) : Lib.decodeN (n + 1) b0 c1 c2 c3 = Lib.decodeN n b0 b1 b2 b3 := by
  unfold Lib.decodeN
  by_cases g1 : 1 < n
  · rw [h1 g1]
    by_cases g2 : 2 < n
    · rw [h2 g2]
      by_cases g3 : 3 < n
      · rw [h3 g3]
        simp only [show 1 < n + 1 by omega, show 2 < n + 1 by omega, show 3 < n + 1 by omega, g1, g2, g3, true_and]
      · simp only [show 1 < n + 1 by omega, show 2 < n + 1 by omega, h3' g3, g1, g2, g3, true_and, and_false, false_and, if_false]
    · simp only [show 1 < n + 1 by omega, h2' g2, g1, g2, true_and, and_false, false_and, if_false]
  · simp only [h1' g1, g1, and_false, false_and, if_false]
theorem near_dec {K L : List UInt8} (h : Near K L) (hL : L ≠ []) : dec K = dec L := by
  rcases h with rfl | rfl
  · have hl : 0 < L.length := List.length_pos_iff.2 hL
    unfold dec
    rw [Lib.decodeL_N, Lib.decodeL_N]
    have g : ∀ i, i < L.length → ((L ++ [10]).getD i 0) = L.getD i 0 := by
      intro i hi
      rw [List.getD_eq_getElem?_getD, List.getD_eq_getElem?_getD, List.getElem?_append_left hi]
    have g' : ∀ i, ¬ i < L.length → ((L ++ [10]).getD i 0).toNat / 64 ≠ 2 := by
      intro i hi
      rw [List.getD_eq_getElem?_getD, List.getElem?_append_right (by omega)]
      by_cases e : i - L.length = 0
      · rw [e]; decide
      · rw [List.getElem?_eq_none (by simp; omega)]; decide
    rw [List.length_append, List.length_singleton, g 0 hl]
    exact decN_more _ _ _ _ _ _ _ _ hl (fun h => by rw [g 1 h]) (g' 1) (fun h => by rw [g 2 h]) (g' 2) (fun h => by rw [g 3 h]) (g' 3)
  · rfl
theorem near_nil {K L : List UInt8} (h : Near K L) (hL : L ≠ []) : K ≠ [] := by
  rcases h with rfl | rfl
  · simp
  · exact hL
theorem near_next {K L : List UInt8} (h : Near K L) (hL : L ≠ []) : nextOf K = nextOf L := by
  unfold nextOf
  have e := near_take h [239, 191, 189] (by decide)
  rw [if_neg (near_nil h hL), if_neg hL, near_dec h hL]
  have e' : (K.take 3 = [239, 191, 189]) = (L.take 3 = [239, 191, 189]) := e
  simp only [e']
theorem near_piece {K L : List UInt8} (h : Near K L) : (pr K = pr L ∧ pw K = pw L) ∨ (L = [] ∧ K = [10] ∧ pr K = 10 ∧ pw K = 1 ∧ pr L = 0 ∧ pw L = 0) := by
  by_cases c : L = []
  · subst c
    rcases h with rfl | rfl
    · right
      have := pr_ascii [10] (by decide) (by decide)
      exact ⟨rfl, rfl, this.1, this.2, rfl, rfl⟩
    · exact .inl ⟨rfl, rfl⟩
  · left
    have e := near_next h c
    unfold pw pr
    rw [e]
    exact ⟨rfl, rfl⟩
theorem near_letter {K L : List UInt8} (h : Near K L) : letter K = letter L := by
  unfold letter
  rcases near_piece h with ⟨e1, e2⟩ | ⟨_, _, e1, e2, e3, e4⟩
  · rw [e1, e2]
  · rw [e1, e2, e3, e4, if_neg (by omega), if_neg (by omega)]
theorem near_word_n (n : Nat) : ∀ K L : List UInt8, L.length ≤ n → Near K L → word K = word L := by
  induction n using Nat.strongRecOn with
  | _ n ih =>
    intro K L hn h
    rw [word.eq_1 K, word.eq_1 L]
    have e1 := near_dig h 10
    have e2 := near_letter h
    have hle := letter_le L
    by_cases c : dig (hd L) 10 = true
    · have hl := dig_len c
      rw [dif_pos (e1.trans c), dif_pos c, ih (n - 1) (by omega) _ (L.drop 1) (by rw [List.length_drop]; omega) (near_drop h 1)]
    · rw [dif_neg (fun x => c (e1 ▸ x)), dif_neg c]
      by_cases c2 : 1 ≤ letter L
      · rw [dif_pos (by omega), dif_pos c2, e2, ih (n - 1) (by omega) _ (L.drop (letter L)) (by rw [List.length_drop]; omega) (near_drop h _)]
      · rw [dif_neg (by omega), dif_neg c2]
theorem near_ident {K L : List UInt8} (h : Near K L) : identOf K = identOf L := by
  unfold identOf
  rw [near_letter h, near_word_n _ _ _ (Nat.le_refl _) (near_drop h (letter L))]
theorem near_blanks_n (n : Nat) : ∀ K L : List UInt8, L.length ≤ n → Near K L → blanks K = blanks L := by
  induction n using Nat.strongRecOn with
  | _ n ih =>
    intro K L hn h
    rw [blanks.eq_1 K, blanks.eq_1 L]
    have e1 : blank (hd K) = blank (hd L) := by
      rcases near_hd h with e | ⟨e1, e2, _⟩
      · rw [e]
      · rw [e1, e2]; rfl
    by_cases c : blank (hd L) = true
    · have hl := hd_pos (L := L) (by simp [blank] at c; omega)
      rw [dif_pos (e1.trans c), dif_pos c, ih (n - 1) (by omega) _ (L.drop 1) (by rw [List.length_drop]; omega) (near_drop h 1)]
    · rw [dif_neg (fun x => c (e1 ▸ x)), dif_neg c]
theorem near_blank {K L : List UInt8} (h : Near K L) : blankOf K = blankOf L := by
  unfold blankOf
  rw [near_blanks_n _ _ _ (Nat.le_refl _) h]
theorem near_line_n (n : Nat) : ∀ K L : List UInt8, L.length ≤ n → Near K L → lineEnd K = lineEnd L := by
  induction n using Nat.strongRecOn with
  | _ n ih =>
    intro K L hn h
    rw [lineEnd.eq_1 K, lineEnd.eq_1 L]
    have hf := piece_fit L
    rcases near_piece h with ⟨e1, e2⟩ | ⟨_, _, e1, e2, e3, e4⟩
    · by_cases c : 1 ≤ pw L ∧ pr L ≠ 10
      · rw [dif_pos (by rw [e1, e2]; exact c), dif_pos c, e2, ih (n - 1) (by omega) _ (L.drop (pw L)) (by rw [List.length_drop]; omega) (near_drop h _)]
      · rw [dif_neg (by rw [e1, e2]; exact c), dif_neg c]
    · rw [dif_neg (by omega), dif_neg (by omega)]
theorem near_remark {K L : List UInt8} (h : Near K L) : remarkOf K = remarkOf L := by
  unfold remarkOf
  simp only [near_is h 47 (by omega) (by omega), near_is (near_drop h 1) 47 (by omega) (by omega), near_line_n _ _ _ (Nat.le_refl _) h]
theorem comEnd_nil : comEnd [] = -1 := by
  rw [comEnd.eq_1, if_neg (by decide), dif_neg (by decide)]
theorem rawEnd_nil : rawEnd [] = -1 := by
  rw [rawEnd.eq_1, if_neg (by decide), dif_neg (by decide)]
theorem near_com_n (n : Nat) : ∀ K L : List UInt8, L.length ≤ n → Near K L → comEnd K = comEnd L := by
  induction n using Nat.strongRecOn with
  | _ n ih =>
    intro K L hn h
    have hf := piece_fit L
    rcases near_piece h with ⟨e1, e2⟩ | ⟨rfl, rfl, e1, e2, e3, e4⟩
    · rw [comEnd.eq_1 K, comEnd.eq_1 L]
      simp only [near_is h 42 (by omega) (by omega), near_is (near_drop h 1) 47 (by omega) (by omega), e2]
      by_cases c0 : hd L = 42 ∧ hd (L.drop 1) = 47
      · rw [if_pos c0, if_pos c0]
      rw [if_neg c0, if_neg c0]
      by_cases c : 1 ≤ pw L
      · rw [dif_pos c, dif_pos c, ih (n - 1) (by omega) _ (L.drop (pw L)) (by rw [List.length_drop]; omega) (near_drop h _)]
      · rw [dif_neg c, dif_neg c]
    · rw [comEnd_nil, comEnd.eq_1, if_neg (by decide), dif_pos (by omega), e2]
      show sh 1 (comEnd []) = -1
      rw [comEnd_nil]; rfl
theorem near_comment {K L : List UInt8} (h : Near K L) : commentOf K = commentOf L := by
  unfold commentOf
  simp only [near_is h 47 (by omega) (by omega), near_is (near_drop h 1) 42 (by omega) (by omega), near_com_n _ _ _ (Nat.le_refl _) (near_drop h 2)]
theorem near_raw_n (n : Nat) : ∀ K L : List UInt8, L.length ≤ n → Near K L → rawEnd K = rawEnd L := by
  induction n using Nat.strongRecOn with
  | _ n ih =>
    intro K L hn h
    have hf := piece_fit L
    rcases near_piece h with ⟨e1, e2⟩ | ⟨rfl, rfl, e1, e2, e3, e4⟩
    · rw [rawEnd.eq_1 K, rawEnd.eq_1 L]
      simp only [near_is h 96 (by omega) (by omega), e2]
      by_cases c0 : hd L = 96
      · rw [if_pos c0, if_pos c0]
      rw [if_neg c0, if_neg c0]
      by_cases c : 1 ≤ pw L
      · rw [dif_pos c, dif_pos c, ih (n - 1) (by omega) _ (L.drop (pw L)) (by rw [List.length_drop]; omega) (near_drop h _)]
      · rw [dif_neg c, dif_neg c]
    · rw [rawEnd_nil, rawEnd.eq_1, if_neg (by decide), dif_pos (by omega), e2]
      show sh 1 (rawEnd []) = -1
      rw [rawEnd_nil]; rfl
theorem near_esc {K L : List UInt8} (h : Near K L) (q : Int) (h0 : q ≠ 0) (h1 : q ≠ 10) : escOf q K = escOf q L := by
  unfold escOf
  have hs : simple (hd (K.drop 1)) = simple (hd (L.drop 1)) := by
    rcases near_hd (near_drop h 1) with e | ⟨e1, e2, _⟩
    · rw [e]
    · rw [e1, e2]; rfl
  have h48 : (48 ≤ hd (K.drop 1) ∧ hd (K.drop 1) ≤ 51) = (48 ≤ hd (L.drop 1) ∧ hd (L.drop 1) ≤ 51) := by
    rcases near_hd (near_drop h 1) with e | ⟨e1, e2, _⟩
    · rw [e]
    · apply propext; rw [e1, e2]; omega
  simp only [near_is h 92 (by omega) (by omega), near_is (near_drop h 1) q h0 h1, hs, h48, near_dig (near_drop h 2), near_dig (near_drop h 3), near_is (near_drop h 1) 120 (by omega) (by omega), near_is (near_drop h 1) 117 (by omega) (by omega), near_is (near_drop h 1) 85 (by omega) (by omega), near_hexn _ _ _ _ (near_drop h 2)]
theorem near_one {K L : List UInt8} (h : Near K L) (q : Int) (h0 : q ≠ 0) (h1 : q ≠ 10) : oneOf q K = oneOf q L := by
  unfold oneOf
  simp only [near_is h 92 (by omega) (by omega), near_esc h q h0 h1]
  rcases near_piece h with ⟨e1, e2⟩ | ⟨_, _, e1, e2, e3, e4⟩
  · rw [e1, e2]
  · rw [e1, e2, e3, e4]
    simp
theorem near_char {K L : List UInt8} (h : Near K L) : charOf K = charOf L := by
  unfold charOf
  simp only [near_is h 39 (by omega) (by omega), near_one (near_drop h 1) 39 (by omega) (by omega), near_is (near_drop h (1 + (oneOf 39 (L.drop 1)).toNat)) 39 (by omega) (by omega)]
theorem near_str_n (n : Nat) : ∀ K L : List UInt8, L.length ≤ n → Near K L → strEnd K = strEnd L := by
  induction n using Nat.strongRecOn with
  | _ n ih =>
    intro K L hn h
    have hf := one_fit 34 (by omega) L
    unfold Fit at hf
    rw [strEnd.eq_1 K, strEnd.eq_1 L]
    simp only [near_is h 34 (by omega) (by omega), near_one h 34 (by omega) (by omega)]
    by_cases c0 : hd L = 34
    · rw [if_pos c0, if_pos c0]
    rw [if_neg c0, if_neg c0]
    by_cases c : 0 < oneOf 34 L
    · rw [dif_pos c, dif_pos c, ih (n - 1) (by omega) _ (L.drop (oneOf 34 L).toNat) (by rw [List.length_drop]; omega) (near_drop h _)]
    · rw [dif_neg c, dif_neg c]
theorem near_quoted {K L : List UInt8} (h : Near K L) : quotedOf K = quotedOf L := by
  unfold quotedOf
  simp only [near_is h 34 (by omega) (by omega), near_is h 96 (by omega) (by omega), near_str_n _ _ _ (Nat.le_refl _) (near_drop h 1), near_raw_n _ _ _ (Nat.le_refl _) (near_drop h 1)]
theorem near_newline {K L : List UInt8} (h : Near K L) (hL : L ≠ []) : newlineOf K = newlineOf L := by
  unfold newlineOf
  rcases near_hd h with e | ⟨_, _, e⟩
  · rw [e]
  · exact absurd e hL
theorem near_long {K L : List UInt8} (h : Near K L) (hL : L ≠ []) : longOf K = longOf L := by
  unfold longOf forms
  rw [near_blank h, near_newline h hL, near_remark h, near_comment h, near_ident h, near_whole h, near_broken h, near_imag h, near_char h, near_quoted h]
theorem near_writ {K L : List UInt8} (h : Near K L) : ∀ (l : List S69) (i : Int) (s : Int × Int), (∀ t ∈ l, (10 : UInt8) ∉ t.f1.data.toList) → writ K l i s = writ L l i s
  | [], i, s, _ => rfl
  | t :: l, i, s, hl => by
    have e := near_take h t.f1.data.toList (hl t List.mem_cons_self)
    have es : t.f1.data.toList.length = t.f1.size := rfl
    rw [es] at e
    simp only [writ, e]
    exact near_writ h l _ _ (fun x hx => hl x (List.mem_cons_of_mem _ hx))
theorem opers_plain : goscan_operators.l.all (fun t => !(t.f1.data.toList.contains 10)) = true := by decide +kernel
theorem near_writOf {K L : List UInt8} (h : Near K L) : writOf K = writOf L := by
  refine near_writ h _ _ _ (fun t ht => ?_)
  have := List.all_eq_true.1 opers_plain t ht
  simpa using this
theorem near_tok {K L : List UInt8} (h : Near K L) (hL : L ≠ []) : tokOf K = tokOf L := by
  have hl := long_fit L
  have ht : textOfN K (longOf L).1 = textOfN L (longOf L).1 := by
    unfold textOfN
    rcases h with rfl | rfl
    · rw [List.take_append_of_le_length (by omega)]
    · rfl
  unfold tokOf kindAt
  rw [near_writOf h, near_long h hL, ht]
theorem fit_nil {r : Int} (h : Fit [] r) : r = -1 := by unfold Fit at h; simp at h; omega
theorem tok_newline : tokOf [10] = (81, 1, true) := by
  have h : Near [10] [] := .inl rfl
  have hw := writOf_fit []
  have e1 : longOf [10] = (1, 1) := by
    unfold longOf forms
    rw [near_blank h, near_remark h, near_comment h, near_ident h, near_whole h, near_broken h, near_imag h, near_char h, near_quoted h, fit_nil (blank_fit []), fit_nil (remark_fit []), fit_nil (comment_fit []), fit_nil (ident_fit []), fit_nil (whole_fit []), fit_nil (broken_fit []), fit_nil (imag_fit []), fit_nil (char_fit []), fit_nil (quoted_fit [])]
    decide
  unfold tokOf
  rw [near_writOf h, e1, if_neg (by simp at hw; dsimp only; omega), if_neg (by dsimp only; omega)]
  rfl
theorem rawL_more_n (n : Nat) : ∀ (L : List UInt8) (p : Nat) (o T : List S36), L.length ≤ n → rawL L p o = (T, 0, 0) → T.length < 65536 → rawL (L ++ [10]) p o = (T ++ [⟨81, (p : Int) + (L.length : Int), (p : Int) + (L.length : Int) + 1⟩], 0, 0) := by
  induction n using Nat.strongRecOn with
  | _ n ih =>
    intro L p o T hn hr hT
    by_cases c : L = []
    · subst c
      rw [rawL, if_pos rfl] at hr
      have e : o = T := (Prod.mk.inj hr).1
      subst e
      rw [List.nil_append, rawL, if_neg (by simp), dif_pos (by rw [tok_newline]), tok_newline]
      dsimp only
      rw [if_pos (by omega), if_neg (by omega)]
      show rawL [] _ _ = _
      rw [rawL, if_pos rfl]
      simp
    · have h : Near (L ++ [10]) L := .inl rfl
      rw [rawL, if_neg c] at hr
      rw [rawL, if_neg (by simp)]
      rw [near_tok h c]
      by_cases c1 : (tokOf L).2.2 = true
      · have ht := tok_fit L c1
        rw [dif_pos c1] at hr ⊢
        obtain ⟨m, hm⟩ : ∃ m : Nat, (tokOf L).2.1 = m := ⟨(tokOf L).2.1.toNat, by omega⟩
        rw [hm] at ht hr ⊢
        rw [Int.toNat_natCast] at hr ⊢
        rw [List.drop_append_of_le_length (by omega)]
        have e : ((p + m : Nat) : Int) + (((L.drop m).length : Nat) : Int) = (p : Int) + (L.length : Int) := by rw [List.length_drop]; omega
        have ihh := fun o h => ih (n - 1) (by omega) (L.drop m) (p + m) o T (by rw [List.length_drop]; omega) h hT
        rw [e] at ihh
        by_cases c2 : (tokOf L).1 > 0
        · rw [if_pos c2] at hr ⊢
          by_cases c3 : 65536 ≤ o.length
          · rw [if_pos c3] at hr
            have := congrArg (fun x => x.2.1) hr
            simp at this
          · rw [if_neg c3] at hr ⊢
            exact ihh _ hr
        · rw [if_neg c2] at hr ⊢
          exact ihh _ hr
      · rw [dif_neg c1] at hr
        split at hr
        · have := congrArg (fun x => x.2.1) hr
          simp at this
        · have := congrArg (fun x => x.2.1) hr
          simp at this
def nlOf (a : ByteArray) : S36 := ⟨81, (a.size : Int), (a.size : Int) + 1⟩
theorem rest_more (a : ByteArray) (p : Nat) (hp : p ≤ a.size) : rest (a ++ ⟨#[10]⟩) p = rest a p ++ [10] := by
  unfold rest
  rw [ByteArray.data_append, Array.toList_append, List.drop_append_of_le_length (by simpa using hp)]
theorem size_more (a : ByteArray) : (a ++ (⟨#[10]⟩ : ByteArray)).size = a.size + 1 := by rw [ByteArray.size_append]; rfl
theorem rawOf_more (a : ByteArray) (hs : a.size < 262144) (T : List S36) (h : rawOf a = (T, 0, 0)) (hT : T.length < 65536) : rawOf (a ++ ⟨#[10]⟩) = (T ++ [nlOf a], 0, 0) := by
  unfold rawOf at h ⊢
  rw [if_neg (by omega)] at h
  rw [size_more, if_neg (by omega), rest_more a 0 (by omega)]
  have hb : bom (rest a 0 ++ [10]) = bom (rest a 0) := by
    have e := near_take (K := rest a 0 ++ [10]) (.inl rfl) [239, 187, 191] (by decide)
    have e : ((rest a 0 ++ [10]).take 3 = [239, 187, 191]) = ((rest a 0).take 3 = [239, 187, 191]) := e
    unfold bom
    simp only [e]
  rw [hb]
  by_cases cb : bom (rest a 0) = true
  · have h3 : 3 ≤ a.size := by
      have := congrArg List.length (of_decide_eq_true cb)
      rw [List.length_take, rest_len] at this
      simp at this; omega
    rw [if_pos cb] at h ⊢
    rw [rest_more a 3 h3, rawL_more_n _ _ _ _ T (Nat.le_refl _) h hT]
    unfold nlOf
    rw [rest_len, show ((3 : Nat) : Int) + ((a.size - 3 : Nat) : Int) = (a.size : Int) by omega]
  · rw [if_neg cb] at h ⊢
    rw [rawL_more_n _ _ _ _ T (Nat.le_refl _) h hT]
    unfold nlOf
    rw [rest_len, show ((0 : Nat) : Int) + ((a.size - 0 : Nat) : Int) = (a.size : Int) by omega]
theorem right_more (s : Nat) : ∀ (l : List S36) (p : Int), right s p l = true → p ≤ (s : Int) → right (s + 1) p (l ++ [⟨81, (s : Int), (s : Int) + 1⟩]) = true
  | [], p, _, hp => by
    simp only [List.nil_append, right, Bool.and_eq_true, decide_eq_true_eq]
    refine ⟨⟨⟨⟨⟨by omega, by omega⟩, by omega⟩, by omega⟩, by omega⟩, ?_⟩
    first | trivial | rfl
  | t :: l, p, h, hp => by
    simp only [List.cons_append, right, Bool.and_eq_true, decide_eq_true_eq] at h ⊢
    refine ⟨by omega, right_more s l t.f2 h.2 (by omega)⟩
theorem lined_more (a : ByteArray) (t : S36) (h0 : 0 ≤ t.f1) (h1 : t.f1 ≤ t.f2) (h2 : t.f2 ≤ (a.size : Int)) : linedOf (a ++ ⟨#[10]⟩) t = linedOf a t := by
  unfold linedOf
  have hl : a.data.toList.length = a.size := rfl
  rw [extract_list, extract_list, ByteArray.data_append, Array.toList_append, List.drop_append_of_le_length (by omega), List.take_append_of_le_length (by rw [List.length_drop]; omega)]
theorem ins_more (a : ByteArray) : ∀ (l o : List S36) (b : Bool), (∀ t ∈ l, 0 ≤ t.f1 ∧ t.f1 ≤ t.f2 ∧ t.f2 ≤ (a.size : Int)) → ins (a ++ ⟨#[10]⟩) (l ++ [nlOf a]) o b = ins a l o b
  | [], o, b, _ => by
    have e : linedOf (a ++ ⟨#[10]⟩) (nlOf a) = true := by unfold linedOf nlOf; rw [if_pos rfl]
    cases b with
    | true =>
      show ins (a ++ ⟨#[10]⟩) [nlOf a] o true = _
      unfold ins
      rw [if_neg (show ¬ (nlOf a).f0 < 81 by unfold nlOf; dsimp only; omega), e]
      rfl
    | false =>
      show ins (a ++ ⟨#[10]⟩) [nlOf a] o false = _
      unfold ins
      rw [if_neg (show ¬ (nlOf a).f0 < 81 by unfold nlOf; dsimp only; omega)]
      rfl
  | t :: l, o, b, h => by
    have ht := h t List.mem_cons_self
    have hl : ∀ t ∈ l, 0 ≤ t.f1 ∧ t.f1 ≤ t.f2 ∧ t.f2 ≤ (a.size : Int) := fun x hx => h x (List.mem_cons_of_mem _ hx)
    simp only [List.cons_append, ins, lined_more a t ht.1 ht.2.1 ht.2.2]
    rw [ins_more a l _ _ hl, ins_more a l _ _ hl, ins_more a l _ _ hl]
theorem insOf_more (a : ByteArray) (T : List S36) (hT : T.length < 65536) (h : (insOf a T).2 = 0) : insOf (a ++ ⟨#[10]⟩) (T ++ [nlOf a]) = insOf a T := by
  unfold insOf at h ⊢
  by_cases c1 : checkOf a T = true
  rotate_left
  · rw [if_neg c1] at h; exact absurd h (by decide)
  have c2 := c1
  simp only [checkOf, Bool.and_eq_true, decide_eq_true_eq] at c2
  have c3 : checkOf (a ++ ⟨#[10]⟩) (T ++ [nlOf a]) = true := by
    simp only [checkOf, Bool.and_eq_true, decide_eq_true_eq]
    refine ⟨by simp; omega, ?_⟩
    rw [size_more]
    exact right_more a.size T 0 c2.2 (by omega)
  have hg := right_get a.size T 0 (by omega) c2.2
  rw [if_pos c1, if_pos c3, ins_more a T [] false (fun t ht => ⟨(hg t ht).2.2.1, (hg t ht).2.2.2.1, (hg t ht).2.2.2.2⟩)]
theorem GoscanLines : quoinlaw26_GoscanLines.Pure := by
  intro a0 h0
  refine Ev.rounds ?_
  unfold quoinlaw26_GoscanLines.f
  refine Ev.bind (gall_ev a0) ?_
  have yes : Ev (fun k => quoinlaw26_GoscanLines.j0 k a0 (allOf a0).1 true) true := by
    apply Ev.succ
    simp only [quoinlaw26_GoscanLines.j0, if_true]
    exact Ev.bind awake_ev (Ev.now _)
  by_cases ce : (!((allOf a0).2.1 == 0) || (!((allOf a0).2.2 == 0))) = true
  · simp only [ce, if_true]
    exact yes
  rw [Bool.not_eq_true] at ce
  simp only [ce, Bool.false_eq_true, if_false]
  by_cases cs : (a0.size : Int) ≥ 262144
  · rw [decide_eq_true cs]
    exact yes
  rw [decide_eq_false cs]
  apply Ev.succ
  simp only [quoinlaw26_GoscanLines.j0, Bool.false_eq_true, if_false]
  refine Ev.bind (graw_ev a0) ?_
  simp only [if_pos (show a0.size + 1 ≤ 9223372036854775807 by omega)]
  refine Ev.bind (gall_ev (a0 ++ ⟨#[10]⟩)) ?_
  by_cases cl : ((rawOf a0).1.length : Int) ≥ 65536
  · simp only [if_pos cl]
    exact Ev.bind awake_ev (Ev.now _)
  simp only [if_neg cl]
  have e : allOf (a0 ++ ⟨#[10]⟩) = allOf a0 ∧ (allOf a0).2.1 = 0 ∧ (allOf a0).2.2 = 0 ∧ (allOf a0).1.length ≤ 65536 := by
    rcases rawOf_good a0 with ⟨h1, h2, _⟩ | ⟨h1, h2⟩
    rotate_left
    · exfalso
      unfold allOf at ce
      rw [if_pos h1] at ce
      dsimp only at ce
      rw [beq_eq_false_iff_ne.2 h1] at ce
      simp at ce
    have er : rawOf a0 = ((rawOf a0).1, 0, 0) := by
      rw [show rawOf a0 = ((rawOf a0).1, (rawOf a0).2.1, (rawOf a0).2.2) from rfl, h1, h2]
    have er2 := rawOf_more a0 (by omega) _ er (by omega)
    by_cases ci : (insOf a0 (rawOf a0).1).2 = 0
    · have ei := insOf_more a0 (rawOf a0).1 (by omega) ci
      have e1 : allOf a0 = ((insOf a0 (rawOf a0).1).1, 0, 0) := by
        unfold allOf; rw [if_neg (fun h => h h1), if_pos ci]
      have e2 : allOf (a0 ++ ⟨#[10]⟩) = ((insOf a0 (rawOf a0).1).1, 0, 0) := by
        unfold allOf
        rw [er2]
        dsimp only
        rw [if_neg (fun h => h rfl), ei, if_pos ci]
      rw [e1, e2]
      exact ⟨rfl, rfl, rfl, insOf_len _ _⟩
    · exfalso
      unfold allOf at ce
      rw [if_neg (fun h => h h1), if_neg ci] at ce
      dsimp only at ce
      rw [show ((3 : Int) == 0) = false from rfl] at ce
      simp at ce
  rw [e.1, e.2.1, e.2.2.1]
  simp only [beq_self_eq_true, Bool.and_self, if_true]
  refine Ev.bind (same_ev _ (by have := e.2.2.2; omega)) ?_
  simp only [if_true]
  exact Ev.bind awake_ev (Ev.now _)
end Go.Proofs.Ytcajiapjdlphmaa.Pure
