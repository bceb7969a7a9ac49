import Derived.Test.YtfnkboilepgmoaaDoorUPre
import Derived.Test.YtfnkboilepgmoaaDoorUabx1
import Derived.Test.YtfnkboilepgmoaaDoorUabx2
import Derived.Test.YtfnkboilepgmoaaDoorUbx0

namespace Go.Proofs.YtfnkboilepgmoaaDoor.Pure
open Go.RowKit Go.Proofs.YtfnkboilepgmoaaDoor.R Go.Proofs.YtfnkboilepgmoaaDoorW.PrintWords Go.Proofs.YtfnkboilepgmoaaDoorW.PrintLast
set_option maxRecDepth 100000
set_option linter.unusedVariables false
set_option linter.unusedSimpArgs false
theorem Ev.succ {α : Type} {g : Nat → Option α} {r : α} (h : Ev (fun k => g (k + 1)) r) : Ev g r := Ev.step (fun _ => rfl) h
theorem Ev.const {α : Type} {a : Option α} {r : α} (h : a = some r) : Ev (fun _ => a) r := ⟨0, fun _ _ => h⟩
theorem wr {x : Int} (h0 : -9223372036854775808 ≤ x) (h1 : x ≤ 9223372036854775807) : wrap64 x = x := by unfold wrap64; omega
theorem wr32 {x : Int} (h0 : -2147483648 ≤ x) (h1 : x ≤ 2147483647) : wrap32 x = x := by unfold wrap32; omega
theorem wf32 {x : Int} (h : (Lit.int .i32 x).wf = true) : -2147483648 ≤ x ∧ x ≤ 2147483647 := by
  have : IntKind.i32.min = -2147483648 := by decide
  have h := h
  simp only [Lit.wf, decide_eq_true_eq, Bool.and_eq_true] at h
  have h2 : IntKind.i32.max = 2147483647 := by decide
  omega
theorem rd_at (l : List S36) (i : Nat) (h : i < l.length) : rd_T36 l (i : Int) = l[i] := by
  unfold rd_T36
  rw [List.getD_eq_getElem?_getD, Int.toNat_natCast, List.getElem?_eq_getElem h]
  rfl
def Wf (l : List S36) : Prop := ∀ x ∈ l, -2147483648 ≤ x.f0 ∧ x.f0 ≤ 2147483647 ∧ -2147483648 ≤ x.f1 ∧ x.f1 ≤ 2147483647
theorem wf_of {l : List S36} (h : ∀ x ∈ l, (Lit.int .i32 x.f0).wf = true ∧ (Lit.int .i32 x.f1).wf = true) : Wf l := fun x hx => by
  have h1 := wf32 (h x hx).1
  have h2 := wf32 (h x hx).2
  omega
theorem awake_at : quoinlaw02_awake.f 60 = some true := by decide +kernel
theorem awake_ev : Ev (fun k => quoinlaw02_awake.f k) true := Ev.of (fun k => quoinlaw02_awake.mono k) awake_at
def okL : Int → List S36 → Bool
  | _, [] => true
  | p, t :: l => decide (0 ≤ t.f0 ∧ t.f0 ≤ t.f1 ∧ t.f1 ≤ 1114111 ∧ p + 2 ≤ t.f0) && okL t.f1 l
theorem okL_no {p : Int} {t : S36} {l : List S36} (h : ¬ (0 ≤ t.f0 ∧ t.f0 ≤ t.f1 ∧ t.f1 ≤ 1114111 ∧ p + 2 ≤ t.f0)) : okL p (t :: l) = false := by
  simp only [okL, decide_eq_false h, Bool.false_and]
theorem okL_yes {p : Int} {t : S36} {l : List S36} (h : 0 ≤ t.f0 ∧ t.f0 ≤ t.f1 ∧ t.f1 ≤ 1114111 ∧ p + 2 ≤ t.f0) : okL p (t :: l) = okL t.f1 l := by
  simp only [okL, decide_eq_true h, Bool.true_and]
def checkOf (l : List S36) : Int := if okL (-2) l = true then (if 2048 < l.length then 21 else 0) else 20
def prev (l : List S36) (i : Nat) (p : Int) : Prop := (i = 0 ∧ p = -2) ∨ (1 ≤ i ∧ ∃ h : i - 1 < l.length, p = (l[i - 1]).f1 ∧ 0 ≤ p ∧ p ≤ 1114111)
theorem check_loop (l : List S36) (hl : l.length ≤ 9223372036854775806) (hw : Wf l) (n : Nat) : ∀ (i : Nat) (p : Int), i + n = l.length → prev l i p → Ev (fun k => runes_Check.l0 k l l (l.length : Int) i) (if okL p (l.drop i) = true then (if 2048 < l.length then 21 else 0) else 20) := by
  induction n with
  | zero =>
    intro i p hi hp
    apply Ev.succ
    rw [List.drop_eq_nil_of_le (by omega)]
    simp only [runes_Check.l0, if_neg (show ¬ (i : Int) < (l.length : Int) by omega), okL, if_true]
    by_cases c : 2048 < l.length
    · rw [if_pos c]
      simp only [if_pos (show (l.length : Int) > 2048 by omega)]
      exact Ev.now _
    · rw [if_neg c]
      simp only [if_neg (show ¬ (l.length : Int) > 2048 by omega)]
      exact Ev.now _
  | succ n ih =>
    intro i p hi hp
    have hil : i < l.length := by omega
    apply Ev.succ
    rw [List.drop_eq_getElem_cons hil]
    obtain ⟨t, ht⟩ : ∃ t, l[i] = t := ⟨_, rfl⟩
    have hwt := hw t (ht ▸ List.getElem_mem hil)
    rw [ht]
    simp only [runes_Check.l0, if_pos (show (i : Int) < (l.length : Int) by omega), if_pos (show (0 : Int) ≤ (i : Int) by omega), rd_at l i hil, ht]
    by_cases c1 : t.f0 < 0
    · simp only [if_pos c1]
      rw [okL_no (by omega), if_neg (by decide)]
      exact Ev.now _
    simp only [if_neg c1]
    by_cases c2 : t.f1 > 1114111
    · simp only [if_pos c2]
      rw [okL_no (by omega), if_neg (by decide)]
      exact Ev.now _
    simp only [if_neg c2]
    by_cases c3 : t.f0 > t.f1
    · simp only [if_pos c3]
      rw [okL_no (by omega), if_neg (by decide)]
      exact Ev.now _
    simp only [if_neg c3]
    have hs : wrap64 ((i : Int) + 1) = ((i + 1 : Nat) : Int) := by rw [wr (by omega) (by omega)]; omega
    have hp' : prev l (i + 1) t.f1 := .inr ⟨by omega, by simpa using hil, by simp [ht], by omega, by omega⟩
    have hnext := ih (i + 1) t.f1 (by omega) hp'
    by_cases c4 : (i : Int) > 0
    · simp only [if_pos c4, wr (show -9223372036854775808 ≤ (i : Int) - 1 by omega) (show (i : Int) - 1 ≤ 9223372036854775807 by omega), if_pos (show (0 : Int) ≤ (i : Int) - 1 by omega), if_pos (show (i : Int) - 1 < (l.length : Int) by omega), wr32 (show -2147483648 ≤ t.f0 - 1 by omega) (show t.f0 - 1 ≤ 2147483647 by omega)]
      rcases hp with ⟨h0, _⟩ | ⟨h0, h1, h2, h3, h4⟩
      · omega
      have e : rd_T36 l ((i : Int) - 1) = l[i - 1] := by rw [show (i : Int) - 1 = ((i - 1 : Nat) : Int) by omega]; exact rd_at l (i - 1) h1
      rw [e, ← h2]
      by_cases c5 : t.f0 - 1 ≤ p
      · simp only [if_pos c5]
        rw [okL_no (by omega), if_neg (by decide)]
        exact Ev.now _
      · simp only [if_neg c5]
        rw [okL_yes (by omega), hs]
        exact hnext
    · simp only [if_neg c4]
      rcases hp with ⟨h0, h1⟩ | ⟨h0, _⟩
      · rw [okL_yes (by omega), hs]
        exact hnext
      · omega
theorem check_ev (l : List S36) (hl : l.length ≤ 9223372036854775806) (hw : Wf l) : Ev (fun k => runes_Check.f k l) (checkOf l) := by
  have := check_loop l hl hw l.length 0 (-2) (by omega) (.inl ⟨rfl, rfl⟩)
  rwa [List.drop_zero] at this
def mem (l : List S36) (r : Int) : Prop := ∃ t ∈ l, t.f0 ≤ r ∧ r ≤ t.f1
theorem mem_nil (r : Int) : ¬ mem [] r := by rintro ⟨t, h, _⟩; simp at h
theorem mem_cons (t : S36) (l : List S36) (r : Int) : mem (t :: l) r ↔ (t.f0 ≤ r ∧ r ≤ t.f1) ∨ mem l r := by
  constructor
  · rintro ⟨u, h, h1⟩
    rcases List.mem_cons.1 h with rfl | h
    · exact .inl h1
    · exact .inr ⟨u, h, h1⟩
  · rintro (h | ⟨u, h, h1⟩)
    · exact ⟨t, List.mem_cons_self, h⟩
    · exact ⟨u, List.mem_cons_of_mem _ h, h1⟩
theorem mem_append (l m : List S36) (r : Int) : mem (l ++ m) r ↔ mem l r ∨ mem m r := by
  induction l with
  | nil => simp [mem_nil]
  | cons t l ih => rw [List.cons_append, mem_cons, mem_cons, ih, or_assoc]
theorem okL_cons {p : Int} {t : S36} {l : List S36} : okL p (t :: l) = true ↔ (0 ≤ t.f0 ∧ t.f0 ≤ t.f1 ∧ t.f1 ≤ 1114111 ∧ p + 2 ≤ t.f0) ∧ okL t.f1 l = true := by
  simp only [okL, Bool.and_eq_true, decide_eq_true_eq]
theorem okL_ge : ∀ (l : List S36) (p : Int), okL p l = true → ∀ r, mem l r → p + 2 ≤ r ∧ r ≤ 1114111
  | [], p, _, r, h => absurd h (mem_nil r)
  | t :: l, p, h, r, hr => by
    obtain ⟨h1, h2⟩ := okL_cons.1 h
    rcases (mem_cons t l r).1 hr with h3 | h3
    · omega
    · have := okL_ge l t.f1 h2 r h3
      omega
def good (t : S36) : Prop := 0 ≤ t.f0 ∧ t.f0 ≤ t.f1 ∧ t.f1 ≤ 1114111
instance (t : S36) : Decidable (good t) := by unfold good; infer_instance
theorem rdi_at (l : List Int) (i : Nat) (h : i < l.length) : rd l (i : Int) = l[i] := by
  unfold rd
  rw [List.getD_eq_getElem?_getD, Int.toNat_natCast, List.getElem?_eq_getElem h]
  rfl
theorem rdl_at (l : List (List S36)) (i : Nat) (h : i < l.length) : rd_L2 l (i : Int) = l[i] := by
  unfold rd_L2
  rw [List.getD_eq_getElem?_getD, Int.toNat_natCast, List.getElem?_eq_getElem h]
  rfl
def ins (r : Int) : List Int → List Int
  | [] => [r]
  | a :: l => if a < r then a :: ins r l else if a = r then a :: l else r :: a :: l
theorem ins_mem (r x : Int) : ∀ l, x ∈ ins r l ↔ x = r ∨ x ∈ l
  | [] => by simp [ins]
  | a :: l => by
    unfold ins
    by_cases c1 : a < r
    · rw [if_pos c1, List.mem_cons, ins_mem r x l, List.mem_cons]
      constructor
      · rintro (h | h | h)
        · exact .inr (.inl h)
        · exact .inl h
        · exact .inr (.inr h)
      · rintro (h | h | h)
        · exact .inr (.inl h)
        · exact .inl h
        · exact .inr (.inr h)
    · rw [if_neg c1]
      by_cases c2 : a = r
      · rw [if_pos c2, List.mem_cons]
        subst c2
        constructor
        · exact fun h => .inr h
        · rintro (h | h)
          · exact .inl h
          · exact h
      · rw [if_neg c2, List.mem_cons]
theorem ins_rising (r : Int) : ∀ l : List Int, l.Pairwise (· < ·) → (ins r l).Pairwise (· < ·)
  | [], _ => by simp [ins]
  | a :: l, h => by
    obtain ⟨h1, h2⟩ := List.pairwise_cons.1 h
    unfold ins
    by_cases c1 : a < r
    · rw [if_pos c1]
      refine List.pairwise_cons.2 ⟨fun x hx => ?_, ins_rising r l h2⟩
      rcases (ins_mem r x l).1 hx with rfl | hx
      · exact c1
      · exact h1 x hx
    · rw [if_neg c1]
      by_cases c2 : a = r
      · rw [if_pos c2]; exact h
      · rw [if_neg c2]
        refine List.pairwise_cons.2 ⟨fun x hx => ?_, h⟩
        rcases List.mem_cons.1 hx with rfl | hx
        · omega
        · have := h1 x hx; omega
theorem rising_len : ∀ (l : List Int) (a : Int), a ≤ 1114112 → l.Pairwise (· < ·) → (∀ x ∈ l, a ≤ x ∧ x ≤ 1114111) → (l.length : Int) ≤ 1114112 - a
  | [], a, h, _, _ => by simp; omega
  | x :: l, a, h, hp, hx => by
    obtain ⟨h1, h2⟩ := List.pairwise_cons.1 hp
    have h3 := hx x List.mem_cons_self
    have := rising_len l (x + 1) (by omega) h2 (fun y hy => ⟨by have := h1 y hy; omega, (hx y (List.mem_cons_of_mem _ hy)).2⟩)
    rw [List.length_cons]
    omega
def Cut (C : List Int) : Prop := C.Pairwise (· < ·) ∧ ∀ x ∈ C, 0 ≤ x ∧ x ≤ 1114111
theorem Cut.len {C : List Int} (h : Cut C) : C.length ≤ 1114112 := by
  have := rising_len C 0 (by omega) h.1 h.2
  omega
theorem Cut.ins {C : List Int} (h : Cut C) {r : Int} (h0 : 0 ≤ r) (h1 : r ≤ 1114111) : Cut (ins r C) :=
  ⟨ins_rising r C h.1, fun x hx => by
    rcases (ins_mem r x C).1 hx with rfl | hx
    · exact ⟨h0, h1⟩
    · exact h.2 x hx⟩
def addT (C : List Int) (t : S36) : List Int := if t.f1 < 1114111 then ins (t.f1 + 1) (ins t.f0 C) else ins t.f0 C
theorem Cut.addT {C : List Int} (h : Cut C) {t : S36} (ht : good t) : Cut (addT C t) := by
  unfold good at ht
  unfold Pure.addT
  split
  · exact (h.ins (by omega) (by omega)).ins (by omega) (by omega)
  · exact h.ins (by omega) (by omega)
theorem addT_sub {C : List Int} {t : S36} {x : Int} (h : x ∈ C) : x ∈ addT C t := by
  unfold addT
  split
  · exact (ins_mem _ _ _).2 (.inr ((ins_mem _ _ _).2 (.inr h)))
  · exact (ins_mem _ _ _).2 (.inr h)
theorem addT_lo (C : List Int) (t : S36) : t.f0 ∈ addT C t := by
  unfold addT
  split
  · exact (ins_mem _ _ _).2 (.inr ((ins_mem _ _ _).2 (.inl rfl)))
  · exact (ins_mem _ _ _).2 (.inl rfl)
theorem addT_hi (C : List Int) (t : S36) (h : t.f1 < 1114111) : t.f1 + 1 ∈ addT C t := by
  unfold addT
  rw [if_pos h]
  exact (ins_mem _ _ _).2 (.inl rfl)
def addR (C : List Int) (s : List S36) : List Int := s.foldl addT C
theorem Cut.addR {C : List Int} (h : Cut C) : ∀ {s : List S36}, (∀ t ∈ s, good t) → Cut (addR C s) := by
  intro s
  unfold Pure.addR
  induction s generalizing C with
  | nil => exact fun _ => h
  | cons t s ih => exact fun hs => ih (h.addT (hs t List.mem_cons_self)) (fun u hu => hs u (List.mem_cons_of_mem _ hu))
theorem addR_sub {x : Int} (s : List S36) : ∀ {C : List Int}, x ∈ C → x ∈ addR C s := by
  unfold addR
  induction s with
  | nil => exact fun h => h
  | cons t s ih => exact fun h => ih (addT_sub h)
theorem addR_has (s : List S36) : ∀ (C : List Int) (t : S36), t ∈ s → t.f0 ∈ addR C s ∧ (t.f1 < 1114111 → t.f1 + 1 ∈ addR C s) := by
  induction s with
  | nil => intro C t h; simp at h
  | cons u s ih =>
    intro C t h
    rcases List.mem_cons.1 h with rfl | h
    · exact ⟨addR_sub s (addT_lo C t), fun hh => addR_sub s (addT_hi C t hh)⟩
    · exact ih (addT C u) t h
def addL (C : List Int) (l : List (List S36)) : List Int := l.foldl addR C
theorem Cut.addL {C : List Int} (h : Cut C) : ∀ {l : List (List S36)}, (∀ s ∈ l, ∀ t ∈ s, good t) → Cut (addL C l) := by
  intro l
  unfold Pure.addL
  induction l generalizing C with
  | nil => exact fun _ => h
  | cons s l ih => exact fun hs => ih (h.addR (hs s List.mem_cons_self)) (fun u hu => hs u (List.mem_cons_of_mem _ hu))
theorem addL_sub {x : Int} (l : List (List S36)) : ∀ {C : List Int}, x ∈ C → x ∈ addL C l := by
  unfold addL
  induction l with
  | nil => exact fun h => h
  | cons t s ih => exact fun h => ih (addR_sub _ h)
theorem addL_has (l : List (List S36)) : ∀ (C : List Int), ∀ s ∈ l, ∀ t ∈ s, t.f0 ∈ addL C l ∧ (t.f1 < 1114111 → t.f1 + 1 ∈ addL C l) := by
  induction l with
  | nil => intro C t h; simp at h
  | cons u l ih =>
    intro C s h t ht
    rcases List.mem_cons.1 h with rfl | h
    · have := addR_has s C t ht
      exact ⟨addL_sub l this.1, fun hh => addL_sub l (this.2 hh)⟩
    · exact ih (addR C u) s h t ht
def startsOf (l : List (List S36)) : List Int := addL [0] l
theorem starts_cut (l : List (List S36)) (hg : ∀ s ∈ l, ∀ t ∈ s, good t) : Cut (startsOf l) := Cut.addL ⟨by simp, by simp⟩ hg
theorem starts_zero (l : List (List S36)) : 0 ∈ startsOf l := addL_sub l (by simp)
def hasB : List S36 → Int → Bool
  | [], _ => false
  | t :: s, r => (decide (t.f0 ≤ r) && decide (r ≤ t.f1)) || hasB s r
theorem hasB_mem (r : Int) : ∀ s, hasB s r = true ↔ mem s r
  | [] => by simp [hasB, mem_nil]
  | t :: s => by simp only [hasB, Bool.or_eq_true, Bool.and_eq_true, decide_eq_true_eq, mem_cons, hasB_mem r s]
theorem same_row (C : List Int) (a r : Int) (har : a ≤ r) (hr : r ≤ 1114111) (hno : ∀ x ∈ C, ¬ (a < x ∧ x ≤ r)) : ∀ s : List S36, (∀ t ∈ s, t.f0 ∈ C ∧ (t.f1 < 1114111 → t.f1 + 1 ∈ C)) → hasB s r = hasB s a
  | [], _ => rfl
  | t :: s, h => by
    have ih := same_row C a r har hr hno s (fun u hu => h u (List.mem_cons_of_mem _ hu))
    obtain ⟨h1, h2⟩ := h t List.mem_cons_self
    have n1 := hno _ h1
    have e1 : decide (t.f0 ≤ r) = decide (t.f0 ≤ a) := decide_eq_decide.2 (by omega)
    have e2 : decide (r ≤ t.f1) = decide (a ≤ t.f1) := decide_eq_decide.2 (by
      by_cases c : t.f1 < 1114111
      · have n2 := hno _ (h2 c); omega
      · omega)
    simp only [hasB, ih, e1, e2]
theorem okL_good : ∀ (l : List S36) (p : Int), okL p l = true → ∀ t ∈ l, good t
  | [], _, _, t, h => by simp at h
  | u :: l, p, h, t, ht => by
    obtain ⟨h1, h2⟩ := okL_cons.1 h
    rcases List.mem_cons.1 ht with rfl | ht
    · unfold good; omega
    · exact okL_good l u.f1 h2 t ht
def chk : List (List S36) → Int
  | [] => 0
  | s :: l => if checkOf s = 0 then chk l else checkOf s
def WfL (l : List (List S36)) : Prop := ∀ s ∈ l, s.length ≤ 9223372036854775806 ∧ Wf s
theorem checked_loop (l : List (List S36)) (hl : l.length ≤ 9223372036854775806) (hw : WfL l) (n : Nat) : ∀ i : Nat, i + n = l.length → Ev (fun k => runes_checked.l0 k l (l.length : Int) i) (chk (l.drop i)) := by
  induction n with
  | zero =>
    intro i hi
    rw [List.drop_eq_nil_of_le (by omega)]
    apply Ev.succ
    simp only [runes_checked.l0, if_neg (show ¬ (i : Int) < (l.length : Int) by omega), chk]
    exact Ev.now _
  | succ n ih =>
    intro i hi
    have hil : i < l.length := by omega
    have hwi := hw _ (List.getElem_mem hil)
    rw [List.drop_eq_getElem_cons hil]
    apply Ev.succ
    simp only [runes_checked.l0, if_pos (show (i : Int) < (l.length : Int) by omega), if_pos (show (0 : Int) ≤ (i : Int) by omega), rdl_at l i hil, chk]
    refine Ev.bind (check_ev _ hwi.1 hwi.2) ?_
    have hs : wrap64 ((i : Int) + 1) = ((i + 1 : Nat) : Int) := by rw [wr (by omega) (by omega)]; omega
    by_cases c : checkOf l[i] = 0
    · simp only [if_pos c]
      rw [hs]
      exact ih (i + 1) (by omega)
    · simp only [if_neg c]
      exact Ev.now _
theorem checked_ev (l : List (List S36)) (hl : l.length ≤ 9223372036854775806) (hw : WfL l) : Ev (fun k => runes_checked.f k l) (chk l) := by
  have := checked_loop l hl hw l.length 0 (by omega)
  rwa [List.drop_zero] at this
theorem check_ok {s : List S36} (h : checkOf s = 0) : okL (-2) s = true ∧ s.length ≤ 2048 := by
  unfold checkOf at h
  by_cases c : okL (-2) s = true
  · rw [if_pos c] at h
    exact ⟨c, by by_cases c2 : 2048 < s.length
                 · rw [if_pos c2] at h; omega
                 · omega⟩
  · rw [if_neg c] at h; omega
theorem chk_ok : ∀ {l : List (List S36)}, chk l = 0 → ∀ s ∈ l, checkOf s = 0
  | [], _, s, h => by simp at h
  | t :: l, h, s, hs => by
    unfold chk at h
    by_cases c : checkOf t = 0
    · rw [if_pos c] at h
      rcases List.mem_cons.1 hs with rfl | hs
      · exact c
      · exact chk_ok h s hs
    · rw [if_neg c] at h; exact absurd h c
theorem good_of {l : List (List S36)} (h : chk l = 0) : ∀ s ∈ l, ∀ t ∈ s, good t := fun s hs => okL_good s (-2) (check_ok (chk_ok h s hs)).1
theorem len_of {l : List (List S36)} (h : chk l = 0) : ∀ s ∈ l, s.length ≤ 9223372036854775806 := fun s hs => by have := (check_ok (chk_ok h s hs)).2; omega
theorem bulk_sum (s : List S36) : (s.map (fun _ => (1 + 1 + 1 : Nat))).sum = 3 * s.length := by
  induction s with
  | nil => rfl
  | cons x s ih => rw [List.map_cons, List.sum_cons, ih, List.length_cons]; omega
theorem bulk_flat (l : List (List S36)) : 3 * l.flatten.length + l.length = (l.map (fun z1 => ((z1.map (fun _ => (1 + 1 + 1 : Nat))).sum + 1))).sum := by
  induction l with
  | nil => rfl
  | cons x s ih => rw [List.map_cons, List.sum_cons, ← ih, bulk_sum, List.length_cons, List.flatten_cons, List.length_append]; omega
theorem has_loop (l : List S36) (hl : l.length ≤ 9223372036854775806) (r : Int) (n : Nat) : ∀ (i : Nat), i + n = l.length → Ev (fun k => runes_Has.l0 k r l (l.length : Int) i) (hasB (l.drop i) r) := by
  induction n with
  | zero =>
    intro i hi
    apply Ev.succ
    rw [List.drop_eq_nil_of_le (by omega)]
    simp only [runes_Has.l0, if_neg (show ¬ (i : Int) < (l.length : Int) by omega), hasB]
    exact Ev.now _
  | succ n ih =>
    intro i hi
    have hil : i < l.length := by omega
    apply Ev.succ
    rw [List.drop_eq_getElem_cons hil]
    have hs : wrap64 ((i : Int) + 1) = ((i + 1 : Nat) : Int) := by rw [wr (by omega) (by omega)]; omega
    simp only [runes_Has.l0, if_pos (show (i : Int) < (l.length : Int) by omega), if_pos (show (0 : Int) ≤ (i : Int) by omega), rd_at l i hil, hasB]
    rw [hs]
    by_cases c1 : (l[i]).f0 ≤ r
    · by_cases c2 : r ≤ (l[i]).f1
      · simp only [if_pos c1, if_pos c2, decide_eq_true c1, decide_eq_true c2, Bool.and_true, Bool.true_or]; exact Ev.now _
      · simp only [if_pos c1, if_neg c2, decide_eq_true c1, decide_eq_false c2, Bool.and_false, Bool.false_or]; exact ih (i + 1) (by omega)
    · simp only [if_neg c1, decide_eq_false c1, Bool.false_and, Bool.false_or]; exact ih (i + 1) (by omega)
theorem has_ev (l : List S36) (hl : l.length ≤ 9223372036854775806) (r : Int) : Ev (fun k => runes_Has.f k l r) (hasB l r) := by
  have := has_loop l hl r l.length 0 (by omega)
  rw [List.drop_zero] at this
  exact this
section arms
variable {a b u m d n kk : List S36} {r e f g h x : Int}
end arms
def putC (y : List Int) (t : S36) : List Int := if t.f1 < 1114111 then y ++ [t.f0] ++ [t.f1 + 1] else y ++ [t.f0]
def putR (y : List Int) (s : List S36) : List Int := s.foldl putC y
def putL (y : List Int) (l : List (List S36)) : List Int := l.foldl putR y
theorem putC_mem {y C : List Int} (h : ∀ x, x ∈ y ↔ x ∈ C) (t : S36) (x : Int) : x ∈ putC y t ↔ x ∈ addT C t := by
  unfold putC addT
  split
  · rw [ins_mem, ins_mem, List.mem_append, List.mem_append, h, List.mem_singleton, List.mem_singleton]
    constructor
    · rintro ((h | h) | h)
      · exact .inr (.inr h)
      · exact .inr (.inl h)
      · exact .inl h
    · rintro (h | h | h)
      · exact .inr h
      · exact .inl (.inr h)
      · exact .inl (.inl h)
  · rw [ins_mem, List.mem_append, h, List.mem_singleton]
    exact ⟨fun h => h.elim .inr .inl, fun h => h.elim .inr .inl⟩
theorem putR_mem : ∀ (s : List S36) {y C : List Int}, (∀ x, x ∈ y ↔ x ∈ C) → ∀ x, x ∈ putR y s ↔ x ∈ addR C s
  | [], _, _, h, x => h x
  | t :: s, _, _, h, x => putR_mem s (fun x => putC_mem h t x) x
theorem putL_mem : ∀ (l : List (List S36)) {y C : List Int}, (∀ x, x ∈ y ↔ x ∈ C) → ∀ x, x ∈ putL y l ↔ x ∈ addL C l
  | [], _, _, h, x => h x
  | s :: l, _, _, h, x => putL_mem l (fun x => putR_mem s h x) x
theorem putC_len (y : List Int) (t : S36) : y.length ≤ (putC y t).length ∧ (putC y t).length ≤ y.length + 2 := by
  unfold putC
  split <;> simp
theorem putR_len : ∀ (s : List S36) (y : List Int), y.length ≤ (putR y s).length ∧ (putR y s).length ≤ y.length + 2 * s.length
  | [], y => ⟨Nat.le_refl _, Nat.le_refl _⟩
  | t :: s, y => by
    have h1 := putC_len y t
    have h2 := putR_len s (putC y t)
    have h3 : putR y (t :: s) = putR (putC y t) s := rfl
    rw [h3, List.length_cons]
    omega
def finC (c : List Int) : List Int × Int := if 2048 < (compactI (sortI c)).length then ([], 21) else (compactI (sortI c), 0)
theorem cuts_row (l : List (List S36)) (i : Nat) (s : List S36) (hl : s.length ≤ 9223372036854775806) (hg : ∀ t ∈ s, good t) (R : List Int × Int) (n : Nat) : ∀ (j : Nat) (y : List Int), j + n = s.length → y.length + 2 * n < 35184372088832 → Ev (fun k => runes_Cuts.l0 k (putR y (s.drop j)) l (l.length : Int) (wrap64 ((i : Int) + 1))) R → Ev (fun k => runes_Cuts.l1 k y l (l.length : Int) i s (s.length : Int) j) R := by
  induction n with
  | zero =>
    intro j y hj hb h
    rw [List.drop_eq_nil_of_le (by omega)] at h
    apply Ev.succ
    simp only [runes_Cuts.l1, if_neg (show ¬ (j : Int) < (s.length : Int) by omega)]
    exact h
  | succ n ih =>
    intro j y hj hb h
    have hjl : j < s.length := by omega
    have hgj := hg _ (List.getElem_mem hjl)
    rw [List.drop_eq_getElem_cons hjl] at h
    have hs : wrap64 ((j : Int) + 1) = ((j + 1 : Nat) : Int) := by rw [wr (by omega) (by omega)]; omega
    have hp := putC_len y s[j]
    have h2 := ih (j + 1) (putC y s[j]) (by omega) (by omega) h
    apply Ev.succ
    simp only [runes_Cuts.l1, if_pos (show (j : Int) < (s.length : Int) by omega), if_pos (show (0 : Int) ≤ (j : Int) by omega), rd_at _ j hjl, if_pos (show y.length < 35184372088832 by omega), Option.bind_some]
    unfold putC at h2
    unfold good at hgj
    by_cases c : (s[j]).f1 < 1114111
    · simp only [if_pos c] at h2 ⊢
      simp only [if_pos (show (y ++ [(s[j]).f0]).length < 35184372088832 by rw [List.length_append, List.length_singleton]; omega)]
      rw [wr32 (by omega) (by omega), hs]
      exact h2
    · simp only [if_neg c] at h2 ⊢
      rw [hs]
      exact h2
theorem cuts_loop (l : List (List S36)) (hl : l.length ≤ 9223372036854775806) (hr : ∀ s ∈ l, s.length ≤ 9223372036854775806) (hg : ∀ s ∈ l, ∀ t ∈ s, good t) (n : Nat) : ∀ (i : Nat) (y : List Int), i + n = l.length → 0 < y.length → y.length + 2 * (l.drop i).flatten.length < 35184372088832 → Ev (fun k => runes_Cuts.l0 k y l (l.length : Int) i) (finC (putL y (l.drop i))) := by
  induction n with
  | zero =>
    intro i y hi hy hb
    rw [List.drop_eq_nil_of_le (by omega)]
    have hb' : y.length < 35184372088832 := by omega
    apply Ev.succ
    simp only [runes_Cuts.l0, if_neg (show ¬ (i : Int) < (l.length : Int) by omega)]
    refine Ev.bind (Ev.const (show slices_Sort_rune_rune.f y = some (sortI y) by unfold slices_Sort_rune_rune.f; rw [if_pos ⟨hy, by omega⟩])) ?_
    refine Ev.bind (Ev.const (show slices_Compact_rune_rune.f (sortI y) = some (compactI (sortI y)) by unfold slices_Compact_rune_rune.f; rw [if_pos (by rw [sortI.len]; exact hy)])) ?_
    show Ev _ (finC y)
    unfold finC
    by_cases c : 2048 < (compactI (sortI y)).length
    · simp only [if_pos c, if_pos (show ((compactI (sortI y)).length : Int) > 2048 by omega)]
      exact Ev.now _
    · simp only [if_neg c, if_neg (show ¬ ((compactI (sortI y)).length : Int) > 2048 by omega)]
      exact Ev.now _
  | succ n ih =>
    intro i y hi hy hb
    have hil : i < l.length := by omega
    rw [List.drop_eq_getElem_cons hil] at hb ⊢
    rw [List.flatten_cons, List.length_append] at hb
    have hs : wrap64 ((i : Int) + 1) = ((i + 1 : Nat) : Int) := by rw [wr (by omega) (by omega)]; omega
    apply Ev.succ
    simp only [runes_Cuts.l0, if_pos (show (i : Int) < (l.length : Int) by omega), if_pos (show (0 : Int) ≤ (i : Int) by omega), rdl_at l i hil]
    have hp := putR_len l[i] y
    refine cuts_row l i l[i] (hr _ (List.getElem_mem hil)) (hg _ (List.getElem_mem hil)) _ (l[i]).length 0 y (by omega) (by omega) ?_
    rw [List.drop_zero, hs]
    exact ih (i + 1) (putR y l[i]) (by omega) (by omega) (by omega)
theorem sortI_mem (y : List Int) (x : Int) : x ∈ sortI y ↔ x ∈ y := (List.mergeSort_perm y _).mem_iff
theorem sortI_le (y : List Int) : (sortI y).Pairwise (· ≤ ·) := by
  have h := List.pairwise_mergeSort (le := fun x y : Int => !Srt.lt y x) (fun a b c h1 h2 => by simp [Srt.lt] at h1 h2 ⊢; omega) (fun a b => by simp [Srt.lt]; omega) y
  exact h.imp (fun h => by simpa [Srt.lt] using h)
theorem comp_upto (d : Array Int) (hd : ∀ i j, i ≤ j → j < d.size → d[i]! ≤ d[j]!) : ∀ m, m ≤ d.size → (Lib.compactUpTo d m).Pairwise (· < ·) ∧ ∀ x, x ∈ Lib.compactUpTo d m ↔ ∃ j, j < m ∧ d[j]! = x := by
  intro m
  induction m with
  | zero => intro _; exact ⟨List.Pairwise.nil, fun x => ⟨fun h => by simp [Lib.compactUpTo] at h, fun ⟨j, h, _⟩ => absurd h (by omega)⟩⟩
  | succ m ih =>
    intro hm
    obtain ⟨h1, h2⟩ := ih (by omega)
    rw [Lib.compactUpTo_succ]
    by_cases c : Lib.keeps d m = true
    · rw [if_pos c]
      have hc := of_decide_eq_true c
      refine ⟨List.pairwise_append.2 ⟨h1, List.pairwise_singleton _ _, fun x hx y hy => ?_⟩, fun x => ?_⟩
      · rw [List.mem_singleton] at hy
        subst hy
        obtain ⟨j, hj, rfl⟩ := (h2 x).1 hx
        have a1 := hd j (m - 1) (by omega) (by omega)
        have a2 := hd (m - 1) m (by omega) (by omega)
        rcases hc with hc | hc
        · omega
        · omega
      · rw [List.mem_append, List.mem_singleton, h2]
        constructor
        · rintro (⟨j, hj, e⟩ | e)
          · exact ⟨j, by omega, e⟩
          · exact ⟨m, by omega, e.symm⟩
        · rintro ⟨j, hj, e⟩
          by_cases c2 : j = m
          · subst c2; exact .inr e.symm
          · exact .inl ⟨j, by omega, e⟩
    · rw [if_neg c, List.append_nil]
      refine ⟨h1, fun x => ?_⟩
      rw [h2]
      have hc : ¬ (m = 0 ∨ d[m]! ≠ d[m - 1]!) := fun h => c (decide_eq_true h)
      have hc0 : m ≠ 0 := fun h => hc (.inl h)
      have hc1 : d[m]! = d[m - 1]! := Classical.byContradiction fun h => hc (.inr h)
      constructor
      · rintro ⟨j, hj, e⟩; exact ⟨j, by omega, e⟩
      · rintro ⟨j, hj, e⟩
        by_cases c2 : j = m
        · subst c2; exact ⟨j - 1, by omega, hc1.symm.trans e⟩
        · exact ⟨j, by omega, e⟩
theorem compact_of (y : List Int) (hy : y.Pairwise (· ≤ ·)) : (compactI y).Pairwise (· < ·) ∧ ∀ x, x ∈ compactI y ↔ x ∈ y := by
  have hs : y.toArray.size = y.length := by simp
  have hd : ∀ i j, i ≤ j → j < y.toArray.size → y.toArray[i]! ≤ y.toArray[j]! := by
    intro i j hij hj
    rw [getElem!_pos y.toArray j hj, getElem!_pos y.toArray i (by omega)]
    simp only [List.getElem_toArray]
    by_cases c : i = j
    · subst c; exact Int.le_refl _
    · exact List.pairwise_iff_getElem.1 hy i j (by omega) (by omega) (by omega)
  obtain ⟨h1, h2⟩ := comp_upto y.toArray hd y.toArray.size (Nat.le_refl _)
  refine ⟨h1, fun x => (h2 x).trans ?_⟩
  constructor
  · rintro ⟨j, hj, e⟩
    rw [getElem!_pos y.toArray j hj] at e
    simp only [List.getElem_toArray] at e
    exact e ▸ List.getElem_mem _
  · intro hx
    obtain ⟨j, hj, e⟩ := List.mem_iff_getElem.1 hx
    refine ⟨j, by omega, ?_⟩
    rw [getElem!_pos y.toArray j (by omega)]
    simpa using e
theorem rising_one : ∀ (A B : List Int), A.Pairwise (· < ·) → B.Pairwise (· < ·) → (∀ x, x ∈ A ↔ x ∈ B) → A = B
  | [], [], _, _, _ => rfl
  | [], b :: B, _, _, h => absurd ((h b).2 List.mem_cons_self) (by simp)
  | a :: A, [], _, _, h => absurd ((h a).1 List.mem_cons_self) (by simp)
  | a :: A, b :: B, hA, hB, h => by
    obtain ⟨a1, a2⟩ := List.pairwise_cons.1 hA
    obtain ⟨b1, b2⟩ := List.pairwise_cons.1 hB
    have e : a = b := by
      rcases List.mem_cons.1 ((h a).1 List.mem_cons_self) with e | h1
      · exact e
      · rcases List.mem_cons.1 ((h b).2 List.mem_cons_self) with e | h2
        · exact e.symm
        · have := b1 a h1; have := a1 b h2; omega
    subst e
    rw [rising_one A B a2 b2 (fun x => ?_)]
    constructor
    · intro hx
      rcases List.mem_cons.1 ((h x).1 (List.mem_cons_of_mem _ hx)) with rfl | h1
      · exact absurd (a1 x hx) (Int.lt_irrefl _)
      · exact h1
    · intro hx
      rcases List.mem_cons.1 ((h x).2 (List.mem_cons_of_mem _ hx)) with rfl | h1
      · exact absurd (b1 x hx) (Int.lt_irrefl _)
      · exact h1
theorem cuts_eq (l : List (List S36)) (hg : ∀ s ∈ l, ∀ t ∈ s, good t) : compactI (sortI (putL [0] l)) = startsOf l := by
  obtain ⟨h1, h2⟩ := compact_of (sortI (putL [0] l)) (sortI_le _)
  refine rising_one _ _ h1 (starts_cut l hg).1 (fun x => (h2 x).trans ((sortI_mem _ x).trans ?_))
  exact putL_mem l (fun _ => Iff.rfl) x
def cutsOf (l : List (List S36)) : List Int × Int := if chk l = 0 then (if 2048 < (startsOf l).length then ([], 21) else (startsOf l, 0)) else ([], chk l)
theorem cuts_ev (l : List (List S36)) (hl : l.length ≤ 9223372036854775806) (hw : WfL l) (hf : l.flatten.length < 17592186044415) : Ev (fun k => runes_Cuts.f k l) (cutsOf l) := by
  unfold runes_Cuts.f cutsOf
  refine Ev.bind (checked_ev l hl hw) ?_
  by_cases c : chk l = 0
  · simp only [if_pos c]
    have h := cuts_loop l hl (len_of c) (good_of c) l.length 0 [0] (by omega) (by simp) (by rw [List.drop_zero]; simp only [List.length_singleton]; omega)
    rw [List.drop_zero] at h
    unfold finC at h
    rw [cuts_eq l (good_of c)] at h
    exact h
  · simp only [if_neg c]
    exact Ev.now _
def clsL : List Int → Int → Int
  | [], _ => 0
  | c :: C, r => (if c ≤ r then 1 else 0) + clsL C r
def cls (C : List Int) (r : Int) : Int := clsL (C.drop 1) r
theorem class_loop (C : List Int) (hC : C.length ≤ 1114112) (r : Int) (n : Nat) : ∀ (i : Nat) (m : Int), i + n = C.length → 1 ≤ i → 0 ≤ m → m ≤ i → Ev (fun k => runes_Class.l0 k r m C (C.length : Int) i) (m + clsL (C.drop i) r) := by
  induction n with
  | zero =>
    intro i m hi h1 hm hm2
    rw [List.drop_eq_nil_of_le (by omega)]
    apply Ev.succ
    simp only [runes_Class.l0, if_neg (show ¬ (i : Int) < (C.length : Int) by omega), clsL, Int.add_zero]
    exact Ev.now _
  | succ n ih =>
    intro i m hi h1 hm hm2
    have hil : i < C.length := by omega
    rw [List.drop_eq_getElem_cons hil]
    have hs : wrap64 ((i : Int) + 1) = ((i + 1 : Nat) : Int) := by rw [wr (by omega) (by omega)]; omega
    apply Ev.succ
    simp only [runes_Class.l0, if_pos (show (i : Int) < (C.length : Int) by omega), if_pos (show (0 : Int) ≤ (i : Int) by omega), if_pos (show (i : Int) > 0 by omega), rdi_at C i hil, clsL]
    by_cases c : C[i] ≤ r
    · simp only [if_pos c]
      rw [hs, wr (x := m + 1) (by omega) (by omega)]
      have := ih (i + 1) (m + 1) (by omega) (by omega) (by omega) (by omega)
      rw [show m + (1 + clsL (C.drop (i + 1)) r) = m + 1 + clsL (C.drop (i + 1)) r by omega]
      exact this
    · simp only [if_neg c]
      rw [hs, Int.zero_add]
      exact ih (i + 1) m (by omega) (by omega) (by omega) (by omega)
theorem class_ev (C : List Int) (hC : C.length ≤ 1114112) (r : Int) : Ev (fun k => runes_Class.f k C r) (cls C r) := by
  unfold runes_Class.f cls
  by_cases c : 0 < C.length
  · apply Ev.succ
    have h0 : wrap64 ((0 : Int) + 1) = ((1 : Nat) : Int) := by rw [wr (by omega) (by omega)]; rfl
    simp only [runes_Class.l0, if_pos (show (0 : Int) < (C.length : Int) by omega), if_pos (show (0 : Int) ≤ 0 by omega), if_neg (show ¬ (0 : Int) > 0 by omega)]
    rw [h0]
    have := class_loop C hC r (C.length - 1) 1 0 (by omega) (by omega) (by omega) (by omega)
    rw [Int.zero_add] at this
    exact this
  · have : C = [] := List.eq_nil_of_length_eq_zero (by omega)
    subst this
    apply Ev.succ
    exact Ev.now _
theorem addT_from {C : List Int} {t : S36} {x : Int} (h : x ∈ addT C t) : x ∈ C ∨ x = t.f0 ∨ (t.f1 < 1114111 ∧ x = t.f1 + 1) := by
  unfold addT at h
  split at h
  · rename_i c
    rw [ins_mem, ins_mem] at h
    rcases h with h | h | h
    · exact .inr (.inr ⟨c, h⟩)
    · exact .inr (.inl h)
    · exact .inl h
  · rw [ins_mem] at h
    exact h.elim (fun h => .inr (.inl h)) .inl
theorem addR_from {x : Int} : ∀ (s : List S36) {C : List Int}, x ∈ addR C s → x ∈ C ∨ ∃ t ∈ s, x = t.f0 ∨ (t.f1 < 1114111 ∧ x = t.f1 + 1)
  | [], _, h => .inl h
  | t :: s, C, h => by
    rcases addR_from s (show x ∈ addR (addT C t) s from h) with h | ⟨u, hu, h⟩
    · rcases addT_from h with h | h
      · exact .inl h
      · exact .inr ⟨t, List.mem_cons_self, h⟩
    · exact .inr ⟨u, List.mem_cons_of_mem _ hu, h⟩
theorem addL_from {x : Int} : ∀ (l : List (List S36)) {C : List Int}, x ∈ addL C l → x ∈ C ∨ ∃ s ∈ l, ∃ t ∈ s, x = t.f0 ∨ (t.f1 < 1114111 ∧ x = t.f1 + 1)
  | [], _, h => .inl h
  | s :: l, C, h => by
    rcases addL_from l (show x ∈ addL (addR C s) l from h) with h | ⟨u, hu, h⟩
    · rcases addR_from s h with h | h
      · exact .inl h
      · exact .inr ⟨s, List.mem_cons_self, h⟩
    · exact .inr ⟨u, List.mem_cons_of_mem _ hu, h⟩
theorem edge : ∀ (s : List S36) (p : Int), okL p s = true → ∀ t ∈ s, mem s t.f0 ∧ ¬ mem s (t.f0 - 1) ∧ mem s t.f1 ∧ ¬ mem s (t.f1 + 1)
  | [], _, _, t, ht => by simp at ht
  | u :: s, p, h, t, ht => by
    obtain ⟨⟨a0, a1, a2, a3⟩, a4⟩ := okL_cons.1 h
    have hge := okL_ge s u.f1 a4
    rcases List.mem_cons.1 ht with rfl | ht
    · refine ⟨(mem_cons _ _ _).2 (.inl ⟨Int.le_refl _, a1⟩), fun hm => ?_, (mem_cons _ _ _).2 (.inl ⟨a1, Int.le_refl _⟩), fun hm => ?_⟩
      · rcases (mem_cons _ _ _).1 hm with h | h
        · omega
        · have := hge _ h; omega
      · rcases (mem_cons _ _ _).1 hm with h | h
        · omega
        · have := hge _ h; omega
    · obtain ⟨e1, e2, e3, e4⟩ := edge s u.f1 a4 t ht
      have g1 := hge _ e1
      have g3 := hge _ e3
      refine ⟨(mem_cons _ _ _).2 (.inr e1), fun hm => ?_, (mem_cons _ _ _).2 (.inr e3), fun hm => ?_⟩
      · rcases (mem_cons _ _ _).1 hm with h | h
        · omega
        · exact e2 h
      · rcases (mem_cons _ _ _).1 hm with h | h
        · omega
        · exact e4 h
theorem hasB_false {r : Int} {s : List S36} (h : ¬ mem s r) : hasB s r = false := by
  cases e : hasB s r
  · rfl
  · exact absurd ((hasB_mem r s).1 e) h
theorem parts (l : List (List S36)) (hok : ∀ s ∈ l, okL (-2) s = true) {c : Int} (hc : c ∈ startsOf l) (h0 : c ≠ 0) : ∃ s ∈ l, hasB s (c - 1) ≠ hasB s c := by
  rcases addL_from l hc with h | ⟨s, hs, t, ht, h⟩
  · exact absurd (List.mem_singleton.1 h) h0
  · obtain ⟨e1, e2, e3, e4⟩ := edge s (-2) (hok s hs) t ht
    refine ⟨s, hs, ?_⟩
    rcases h with rfl | ⟨_, rfl⟩
    · rw [(hasB_mem _ _).2 e1, hasB_false e2]; decide
    · rw [show t.f1 + 1 - 1 = t.f1 by omega, (hasB_mem _ _).2 e3, hasB_false e4]; decide
theorem clsL_mono : ∀ (C : List Int) (a b : Int), a ≤ b → clsL C a ≤ clsL C b
  | [], a, b, h => Int.le_refl _
  | c :: C, a, b, h => by
    have := clsL_mono C a b h
    unfold clsL
    split <;> split <;> omega
theorem clsL_lt : ∀ (C : List Int) (a b x : Int), x ∈ C → a < x → x ≤ b → clsL C a < clsL C b
  | [], a, b, x, h, _, _ => by simp at h
  | c :: C, a, b, x, h, h1, h2 => by
    have hm := clsL_mono C a b (by omega)
    unfold clsL
    rcases List.mem_cons.1 h with rfl | h
    · rw [if_neg (by omega), if_pos (by omega)]; omega
    · have := clsL_lt C a b x h h1 h2
      split <;> split <;> omega
theorem cut_first {C : List Int} (hC : Cut C) (h0 : 0 ∈ C) : ∃ D, C = 0 :: D := by
  cases C with
  | nil => simp at h0
  | cons c D =>
    obtain ⟨a1, a2⟩ := List.pairwise_cons.1 hC.1
    rcases List.mem_cons.1 h0 with e | h
    · exact ⟨D, by rw [e]⟩
    · have := a1 0 h
      have := hC.2 c List.mem_cons_self
      omega
theorem alike_le (l : List (List S36)) (hg : ∀ s ∈ l, ∀ t ∈ s, good t) (a b : Int) (h0 : 0 ≤ a) (hab : a ≤ b) (hb : b ≤ 1114111) (h : cls (startsOf l) a = cls (startsOf l) b) : ∀ s ∈ l, hasB s b = hasB s a := by
  intro s hs
  refine same_row (startsOf l) a b hab hb (fun x hx hh => ?_) s (fun t ht => addL_has l [0] s hs t ht)
  obtain ⟨D, hD⟩ := cut_first (starts_cut l hg) (starts_zero l)
  rw [hD] at h hx
  have h' : clsL D a = clsL D b := h
  rcases List.mem_cons.1 hx with rfl | hx
  · omega
  · have := clsL_lt D a b x hx hh.1 hh.2
    omega
theorem alike (l : List (List S36)) (hg : ∀ s ∈ l, ∀ t ∈ s, good t) (a b : Int) (h0 : 0 ≤ a) (hb0 : 0 ≤ b) (ha : a ≤ 1114111) (hb : b ≤ 1114111) (h : cls (startsOf l) a = cls (startsOf l) b) : ∀ s ∈ l, hasB s a = hasB s b := by
  intro s hs
  by_cases c : a ≤ b
  · exact (alike_le l hg a b h0 c hb h s hs).symm
  · exact alike_le l hg b a hb0 (by omega) ha h.symm s hs
theorem one_place (l : List (List S36)) (hl : l.length ≤ 9223372036854775806) (hr : ∀ s ∈ l, s.length ≤ 9223372036854775806) (C : List Int) (hC : Cut C) (j : Nat) (h1 : 1 ≤ j) (hj : j < C.length) (R : Bool) (hnext : Ev (fun k => quoinlaw02_RunesSplits.l1 k l C (wrap64 ((j : Int) + 1))) R) (n : Nat) :
    ∀ (i : Nat) (b : Bool), i + n = l.length → (b = true ∨ ∃ s ∈ l.drop i, hasB s (C[j] - 1) ≠ hasB s C[j]) → Ev (fun k => quoinlaw02_RunesSplits.l2 k l C j b i) R := by
  have hCl := hC.len
  have hcj := hC.2 _ (List.getElem_mem hj)
  induction n with
  | zero =>
    intro i b hi hb
    rw [List.drop_eq_nil_of_le (by omega)] at hb
    have hb' : b = true := hb.elim id (fun ⟨s, hs, _⟩ => by simp at hs)
    subst hb'
    have hw : wrap64 ((j : Int) - 1) = ((j - 1 : Nat) : Int) := by rw [wr (by omega) (by omega)]; omega
    have hlt := List.pairwise_iff_getElem.1 hC.1 (j - 1) j (by omega) hj (by omega)
    apply Ev.succ
    simp only [quoinlaw02_RunesSplits.l2, if_neg (show ¬ (i : Int) < (l.length : Int) by omega), if_true, if_pos (show (0 : Int) ≤ (j : Int) by omega), if_pos (show (j : Int) < (C.length : Int) by omega)]
    rw [hw]
    simp only [if_pos (show (0 : Int) ≤ ((j - 1 : Nat) : Int) by omega), if_pos (show ((j - 1 : Nat) : Int) < (C.length : Int) by omega), rdi_at C j hj, rdi_at C (j - 1) (by omega), if_neg (show ¬ C[j] ≤ C[j - 1] by omega)]
    exact hnext
  | succ n ih =>
    intro i b hi hb
    have hil : i < l.length := by omega
    have hs : wrap64 ((i : Int) + 1) = ((i + 1 : Nat) : Int) := by rw [wr (by omega) (by omega)]; omega
    rw [List.drop_eq_getElem_cons hil] at hb
    apply Ev.succ
    simp only [quoinlaw02_RunesSplits.l2, if_pos (show (i : Int) < (l.length : Int) by omega), if_pos (show (0 : Int) ≤ (i : Int) by omega), if_pos (show (0 : Int) ≤ (j : Int) by omega), if_pos (show (j : Int) < (C.length : Int) by omega), rdl_at l i hil, rdi_at C j hj]
    rw [wr32 (by omega) (by omega)]
    have hri := hr _ (List.getElem_mem hil)
    refine Ev.bind (has_ev _ hri _) (Ev.bind (has_ev _ hri _) ?_)
    by_cases c : hasB l[i] (C[j] - 1) = hasB l[i] C[j]
    · simp only [if_neg (show ¬ (hasB l[i] (C[j] - 1) != hasB l[i] C[j]) = true by simp [c])]
      rw [hs]
      refine ih (i + 1) b (by omega) ?_
      rcases hb with hb | ⟨s, hs2, hd⟩
      · exact .inl hb
      · rcases List.mem_cons.1 hs2 with rfl | hs2
        · exact absurd c hd
        · exact .inr ⟨s, hs2, hd⟩
    · simp only [if_pos (show (hasB l[i] (C[j] - 1) != hasB l[i] C[j]) = true by simp [c])]
      rw [hs]
      exact ih (i + 1) true (by omega) (.inl rfl)
theorem places (l : List (List S36)) (hl : l.length ≤ 9223372036854775806) (hr : ∀ s ∈ l, s.length ≤ 9223372036854775806) (hg : ∀ s ∈ l, ∀ t ∈ s, good t) (hok : ∀ s ∈ l, okL (-2) s = true) (n : Nat) : ∀ (j : Nat), j + n = (startsOf l).length → 1 ≤ j → Ev (fun k => quoinlaw02_RunesSplits.l1 k l (startsOf l) j) true := by
  have hC := starts_cut l hg
  have hCl := hC.len
  obtain ⟨D, hD⟩ := cut_first hC (starts_zero l)
  induction n with
  | zero =>
    intro j hj h1
    have h0 : rd (startsOf l) 0 = 0 := by
      have h := rdi_at (startsOf l) 0 (by omega)
      rw [show ((0 : Nat) : Int) = 0 from rfl] at h
      rw [h]
      simp only [hD, List.getElem_cons_zero]
    apply Ev.succ
    simp only [quoinlaw02_RunesSplits.l1, if_neg (show ¬ (j : Int) < ((startsOf l).length : Int) by omega), if_pos (show ((startsOf l).length : Int) ≥ 1 by omega), if_pos (show (0 : Int) < ((startsOf l).length : Int) by omega), if_pos h0]
    exact Ev.bind awake_ev (Ev.now _)
  | succ n ih =>
    intro j hj h1
    have hjl : j < (startsOf l).length := by omega
    have hs : wrap64 ((j : Int) + 1) = ((j + 1 : Nat) : Int) := by rw [wr (by omega) (by omega)]; omega
    have hne : (startsOf l)[j] ≠ 0 := by
      have := List.pairwise_iff_getElem.1 hC.1 0 j (by omega) hjl (by omega)
      have h2 := hC.2 _ (List.getElem_mem (show 0 < (startsOf l).length by omega))
      omega
    obtain ⟨s, hs1, hs2⟩ := parts l hok (List.getElem_mem hjl) hne
    apply Ev.succ
    simp only [quoinlaw02_RunesSplits.l1, if_pos (show (j : Int) < ((startsOf l).length : Int) by omega)]
    refine one_place l hl hr (startsOf l) hC j h1 hjl true ?_ l.length 0 false (by omega) (.inr ⟨s, by rw [List.drop_zero]; exact hs1, hs2⟩)
    rw [hs]
    exact ih (j + 1) (by omega) (by omega)
theorem sets_loop (l : List (List S36)) (hl : l.length ≤ 9223372036854775806) (hr : ∀ s ∈ l, s.length ≤ 9223372036854775806) (C : List Int) (hC : C.length ≤ 1114112) (a b : Int) (hj : Ev (fun k => quoinlaw02_RunesSplits.j2 k l C false) true) (n : Nat) :
    ∀ (i : Nat) (x : Bool), i + n = l.length → (cls C a = cls C b → x = true ∧ ∀ s ∈ l.drop i, hasB s a = hasB s b) → Ev (fun k => quoinlaw02_RunesSplits.l0 k l a b C x i) true := by
  induction n with
  | zero =>
    intro i x hi hx
    apply Ev.succ
    simp only [quoinlaw02_RunesSplits.l0, if_neg (show ¬ (i : Int) < (l.length : Int) by omega)]
    refine Ev.bind (class_ev C hC a) (Ev.bind (class_ev C hC b) ?_)
    by_cases c : cls C a = cls C b
    · obtain ⟨rfl, _⟩ := hx c
      simp only [if_pos c]
      exact hj
    · simp only [if_neg c]
      exact hj
  | succ n ih =>
    intro i x hi hx
    have hil : i < l.length := by omega
    have hs : wrap64 ((i : Int) + 1) = ((i + 1 : Nat) : Int) := by rw [wr (by omega) (by omega)]; omega
    rw [List.drop_eq_getElem_cons hil] at hx
    apply Ev.succ
    simp only [quoinlaw02_RunesSplits.l0, if_pos (show (i : Int) < (l.length : Int) by omega), if_pos (show (0 : Int) ≤ (i : Int) by omega), rdl_at l i hil]
    have hri := hr _ (List.getElem_mem hil)
    refine Ev.bind (has_ev _ hri _) (Ev.bind (has_ev _ hri _) ?_)
    by_cases c : hasB l[i] a = hasB l[i] b
    · simp only [if_neg (show ¬ (hasB l[i] a != hasB l[i] b) = true by simp [c])]
      rw [hs]
      exact ih (i + 1) x (by omega) (fun h => ⟨(hx h).1, fun s hs2 => (hx h).2 s (List.mem_cons_of_mem _ hs2)⟩)
    · simp only [if_pos (show (hasB l[i] a != hasB l[i] b) = true by simp [c])]
      rw [hs]
      exact ih (i + 1) false (by omega) (fun h => absurd ((hx h).2 _ List.mem_cons_self) c)
theorem RunesSplits : quoinlaw02_RunesSplits.PureU := by
  intro l a b _ _ h _ _ hb
  rw [← bulk_flat] at hb
  refine Ev.rounds ?_
  have hl : l.length ≤ 9223372036854775806 := by omega
  have hw : WfL l := fun s hs => ⟨by
    have := (List.sublist_flatten_of_mem hs).length_le
    omega, wf_of (h s hs).2⟩
  unfold quoinlaw02_RunesSplits.f
  refine Ev.bind (cuts_ev l hl hw (by omega)) ?_
  have hawk : Ev (fun k => (quoinlaw02_awake.f k).bind fun t => some t) true := Ev.bind awake_ev (Ev.now _)
  by_cases c : (cutsOf l).2 = 0
  · have hout : Ev (fun k => quoinlaw02_RunesSplits.j0 k l a b (cutsOf l).1 (cutsOf l).2 true) true := by
      apply Ev.succ
      simp only [quoinlaw02_RunesSplits.j0, if_true, if_pos c]
      exact hawk
    simp only [if_pos c]
    by_cases c1 : a < 0
    · simp only [if_pos c1]; exact hout
    by_cases c2 : b < 0
    · simp only [if_neg c1, if_pos c2]; exact hout
    by_cases c3 : a > 1114111
    · simp only [if_neg c1, if_neg c2, if_pos c3]; exact hout
    by_cases c4 : b > 1114111
    · simp only [if_neg c1, if_neg c2, if_neg c3, decide_eq_true c4]; exact hout
    simp only [if_neg c1, if_neg c2, if_neg c3, decide_eq_false c4]
    have hk : chk l = 0 := by
      unfold cutsOf at c
      by_cases k : chk l = 0
      · exact k
      · rw [if_neg k] at c; exact c
    have he : (cutsOf l).1 = startsOf l := by
      unfold cutsOf at c ⊢
      rw [if_pos hk] at c ⊢
      by_cases k : 2048 < (startsOf l).length
      · rw [if_pos k] at c; exact absurd c (by decide)
      · rw [if_neg k]
    have hg := good_of hk
    have hr := len_of hk
    have hok : ∀ s ∈ l, okL (-2) s = true := fun s hs => (check_ok (chk_ok hk s hs)).1
    rw [he]
    apply Ev.succ
    simp only [quoinlaw02_RunesSplits.j0, if_neg (show ¬ false = true by decide)]
    refine sets_loop l hl hr (startsOf l) (starts_cut l hg).len a b ?_ l.length 0 true (by omega) (fun hc => ⟨rfl, fun s hs => ?_⟩)
    · apply Ev.succ
      simp only [quoinlaw02_RunesSplits.j2, if_neg (show ¬ false = true by decide)]
      have hne : 1 ≤ (startsOf l).length := by
        obtain ⟨D, hD⟩ := cut_first (starts_cut l hg) (starts_zero l)
        rw [hD]; simp
      exact places l hl hr hg hok ((startsOf l).length - 1) 1 (by omega) (by omega)
    · rw [List.drop_zero] at hs
      exact alike l hg a b (by omega) (by omega) (by omega) (by omega) hc s hs
  · simp only [if_neg c]
    have hn : ((cutsOf l).1.length : Int) = 0 := by
      unfold cutsOf at c ⊢
      split
      · rename_i k
        rw [if_pos k] at c
        split
        · simp
        · rename_i k2
          rw [if_neg k2] at c
          exact absurd rfl c
      · simp
    apply Ev.succ
    simp only [quoinlaw02_RunesSplits.j0, if_true, if_neg c, if_pos hn]
    exact hawk
end Go.Proofs.YtfnkboilepgmoaaDoor.Pure
