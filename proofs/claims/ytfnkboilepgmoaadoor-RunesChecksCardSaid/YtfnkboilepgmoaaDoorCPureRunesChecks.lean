import Derived.Test.YtfnkboilepgmoaaDoorCPre
import Derived.Test.YtfnkboilepgmoaaDoorCax1
import Derived.Test.YtfnkboilepgmoaaDoorCax2

namespace Go.Proofs.YtfnkboilepgmoaaDoor.Pure
open Go.RowKit Go.Proofs.YtfnkboilepgmoaaDoor.R Go.Proofs.YtfnkboilepgmoaaDoorW.PrintWords Go.Proofs.YtfnkboilepgmoaaDoorW.PrintLast
set_option maxRecDepth 100000
set_option linter.unusedVariables false
set_option linter.unusedSimpArgs false
theorem Ev.succ {α : Type} {g : Nat → Option α} {r : α} (h : Ev (fun k => g (k + 1)) r) : Ev g r := Ev.step (fun _ => rfl) h
theorem wr {x : Int} (h0 : -9223372036854775808 ≤ x) (h1 : x ≤ 9223372036854775807) : wrap64 x = x := by unfold wrap64; omega
theorem wr32 {x : Int} (h0 : -2147483648 ≤ x) (h1 : x ≤ 2147483647) : wrap32 x = x := by unfold wrap32; omega
theorem wf32 {x : Int} (h : (Lit.int .i32 x).wf = true) : -2147483648 ≤ x ∧ x ≤ 2147483647 := by
  have : IntKind.i32.min = -2147483648 := by decide
  have h := h
  simp only [Lit.wf, decide_eq_true_eq, Bool.and_eq_true] at h
  have h2 : IntKind.i32.max = 2147483647 := by decide
  omega
theorem rd_at (l : List S36) (i : Nat) (h : i < l.length) : rd_T36 l (i : Int) = l[i] := by
  unfold rd_T36
  rw [List.getD_eq_getElem?_getD, Int.toNat_natCast, List.getElem?_eq_getElem h]
  rfl
def Wf (l : List S36) : Prop := ∀ x ∈ l, -2147483648 ≤ x.f0 ∧ x.f0 ≤ 2147483647 ∧ -2147483648 ≤ x.f1 ∧ x.f1 ≤ 2147483647
theorem wf_of {l : List S36} (h : ∀ x ∈ l, (Lit.int .i32 x.f0).wf = true ∧ (Lit.int .i32 x.f1).wf = true) : Wf l := fun x hx => by
  have h1 := wf32 (h x hx).1
  have h2 := wf32 (h x hx).2
  omega
theorem awake_at : quoinlaw02_awake.f 60 = some true := by decide +kernel
theorem awake_ev : Ev (fun k => quoinlaw02_awake.f k) true := Ev.of (fun k => quoinlaw02_awake.mono k) awake_at
def okL : Int → List S36 → Bool
  | _, [] => true
  | p, t :: l => decide (0 ≤ t.f0 ∧ t.f0 ≤ t.f1 ∧ t.f1 ≤ 1114111 ∧ p + 2 ≤ t.f0) && okL t.f1 l
theorem okL_no {p : Int} {t : S36} {l : List S36} (h : ¬ (0 ≤ t.f0 ∧ t.f0 ≤ t.f1 ∧ t.f1 ≤ 1114111 ∧ p + 2 ≤ t.f0)) : okL p (t :: l) = false := by
  simp only [okL, decide_eq_false h, Bool.false_and]
theorem okL_yes {p : Int} {t : S36} {l : List S36} (h : 0 ≤ t.f0 ∧ t.f0 ≤ t.f1 ∧ t.f1 ≤ 1114111 ∧ p + 2 ≤ t.f0) : okL p (t :: l) = okL t.f1 l := by
  simp only [okL, decide_eq_true h, Bool.true_and]
def checkOf (l : List S36) : Int := if okL (-2) l = true then (if 2048 < l.length then 21 else 0) else 20
def prev (l : List S36) (i : Nat) (p : Int) : Prop := (i = 0 ∧ p = -2) ∨ (1 ≤ i ∧ ∃ h : i - 1 < l.length, p = (l[i - 1]).f1 ∧ 0 ≤ p ∧ p ≤ 1114111)
theorem check_loop (l : List S36) (hl : l.length ≤ 9223372036854775806) (hw : Wf l) (n : Nat) : ∀ (i : Nat) (p : Int), i + n = l.length → prev l i p → Ev (fun k => runes_Check.l0 k l l (l.length : Int) i) (if okL p (l.drop i) = true then (if 2048 < l.length then 21 else 0) else 20) := by
  induction n with
  | zero =>
    intro i p hi hp
    apply Ev.succ
    rw [List.drop_eq_nil_of_le (by omega)]
    simp only [runes_Check.l0, if_neg (show ¬ (i : Int) < (l.length : Int) by omega), okL, if_true]
    by_cases c : 2048 < l.length
    · rw [if_pos c]
      simp only [if_pos (show (l.length : Int) > 2048 by omega)]
      exact Ev.now _
    · rw [if_neg c]
      simp only [if_neg (show ¬ (l.length : Int) > 2048 by omega)]
      exact Ev.now _
  | succ n ih =>
    intro i p hi hp
    have hil : i < l.length := by omega
    apply Ev.succ
    rw [List.drop_eq_getElem_cons hil]
    obtain ⟨t, ht⟩ : ∃ t, l[i] = t := ⟨_, rfl⟩
    have hwt := hw t (ht ▸ List.getElem_mem hil)
    rw [ht]
    simp only [runes_Check.l0, if_pos (show (i : Int) < (l.length : Int) by omega), if_pos (show (0 : Int) ≤ (i : Int) by omega), rd_at l i hil, ht]
    by_cases c1 : t.f0 < 0
    · simp only [if_pos c1]
      rw [okL_no (by omega), if_neg (by decide)]
      exact Ev.now _
    simp only [if_neg c1]
    by_cases c2 : t.f1 > 1114111
    · simp only [if_pos c2]
      rw [okL_no (by omega), if_neg (by decide)]
      exact Ev.now _
    simp only [if_neg c2]
    by_cases c3 : t.f0 > t.f1
    · simp only [if_pos c3]
      rw [okL_no (by omega), if_neg (by decide)]
      exact Ev.now _
    simp only [if_neg c3]
    have hs : wrap64 ((i : Int) + 1) = ((i + 1 : Nat) : Int) := by rw [wr (by omega) (by omega)]; omega
    have hp' : prev l (i + 1) t.f1 := .inr ⟨by omega, by simpa using hil, by simp [ht], by omega, by omega⟩
    have hnext := ih (i + 1) t.f1 (by omega) hp'
    by_cases c4 : (i : Int) > 0
    · simp only [if_pos c4, wr (show -9223372036854775808 ≤ (i : Int) - 1 by omega) (show (i : Int) - 1 ≤ 9223372036854775807 by omega), if_pos (show (0 : Int) ≤ (i : Int) - 1 by omega), if_pos (show (i : Int) - 1 < (l.length : Int) by omega), wr32 (show -2147483648 ≤ t.f0 - 1 by omega) (show t.f0 - 1 ≤ 2147483647 by omega)]
      rcases hp with ⟨h0, _⟩ | ⟨h0, h1, h2, h3, h4⟩
      · omega
      have e : rd_T36 l ((i : Int) - 1) = l[i - 1] := by rw [show (i : Int) - 1 = ((i - 1 : Nat) : Int) by omega]; exact rd_at l (i - 1) h1
      rw [e, ← h2]
      by_cases c5 : t.f0 - 1 ≤ p
      · simp only [if_pos c5]
        rw [okL_no (by omega), if_neg (by decide)]
        exact Ev.now _
      · simp only [if_neg c5]
        rw [okL_yes (by omega), hs]
        exact hnext
    · simp only [if_neg c4]
      rcases hp with ⟨h0, h1⟩ | ⟨h0, _⟩
      · rw [okL_yes (by omega), hs]
        exact hnext
      · omega
theorem check_ev (l : List S36) (hl : l.length ≤ 9223372036854775806) (hw : Wf l) : Ev (fun k => runes_Check.f k l) (checkOf l) := by
  have := check_loop l hl hw l.length 0 (-2) (by omega) (.inl ⟨rfl, rfl⟩)
  rwa [List.drop_zero] at this
theorem rcheck_loop (l : List S36) (hl : l.length ≤ 9223372036854775806) (hw : Wf l) (n : Nat) : ∀ (i : Nat) (p : Int), i + n = l.length → prev l i p → Ev (fun k => quoinref02_Check.l0 k l i) (if okL p (l.drop i) = true then (if 2048 < l.length then 21 else 0) else 20) := by
  induction n with
  | zero =>
    intro i p hi hp
    apply Ev.succ
    rw [List.drop_eq_nil_of_le (by omega)]
    simp only [quoinref02_Check.l0, if_neg (show ¬ (i : Int) < (l.length : Int) by omega), okL, if_true]
    by_cases c : 2048 < l.length
    · rw [if_pos c]
      simp only [if_pos (show (l.length : Int) > 2048 by omega)]
      exact Ev.now _
    · rw [if_neg c]
      simp only [if_neg (show ¬ (l.length : Int) > 2048 by omega)]
      exact Ev.now _
  | succ n ih =>
    intro i p hi hp
    have hil : i < l.length := by omega
    have bad : Ev (fun k => quoinref02_Check.j1 k l i true) (20 : Int) := by
      apply Ev.succ
      simp only [quoinref02_Check.j1, if_true]
      exact Ev.now _
    apply Ev.succ
    rw [List.drop_eq_getElem_cons hil]
    obtain ⟨t, ht⟩ : ∃ t, l[i] = t := ⟨_, rfl⟩
    have hwt := hw t (ht ▸ List.getElem_mem hil)
    rw [ht]
    simp only [quoinref02_Check.l0, if_pos (show (i : Int) < (l.length : Int) by omega), if_pos (show (0 : Int) ≤ (i : Int) by omega), rd_at l i hil, ht]
    by_cases c1 : t.f0 < 0
    · simp only [if_pos c1]
      rw [okL_no (by omega), if_neg (by decide)]
      exact bad
    simp only [if_neg c1]
    by_cases c3 : t.f0 > t.f1
    · simp only [if_pos c3]
      rw [okL_no (by omega), if_neg (by decide)]
      exact bad
    simp only [if_neg c3]
    by_cases c2 : t.f1 > 1114111
    · simp only [decide_eq_true c2]
      rw [okL_no (by omega), if_neg (by decide)]
      exact bad
    simp only [decide_eq_false c2]
    have hs : wrap64 ((i : Int) + 1) = ((i + 1 : Nat) : Int) := by rw [wr (by omega) (by omega)]; omega
    have hp' : prev l (i + 1) t.f1 := .inr ⟨by omega, by simpa using hil, by simp [ht], by omega, by omega⟩
    have hnext := ih (i + 1) t.f1 (by omega) hp'
    apply Ev.succ
    by_cases c4 : (i : Int) > 0
    · rcases hp with ⟨h0, _⟩ | ⟨h0, h1, h2, h3, h4⟩
      · omega
      have e : rd_T36 l ((i : Int) - 1) = l[i - 1] := by rw [show (i : Int) - 1 = ((i - 1 : Nat) : Int) by omega]; exact rd_at l (i - 1) h1
      simp only [quoinref02_Check.j1, Bool.false_eq_true, if_false, if_pos c4, if_pos (show (i : Int) < (l.length : Int) by omega), wr (show -9223372036854775808 ≤ (i : Int) - 1 by omega) (show (i : Int) - 1 ≤ 9223372036854775807 by omega), if_pos (show (0 : Int) ≤ (i : Int) by omega), if_pos (show (0 : Int) ≤ (i : Int) - 1 by omega), if_pos (show (i : Int) - 1 < (l.length : Int) by omega), rd_at l i hil, ht, e, ← h2, wr32 (show -2147483648 ≤ p + 2 by omega) (show p + 2 ≤ 2147483647 by omega)]
      by_cases c5 : t.f0 < p + 2
      · simp only [if_pos c5]
        rw [okL_no (by omega), if_neg (by decide)]
        exact Ev.now _
      · simp only [if_neg c5]
        rw [okL_yes (by omega), hs]
        exact hnext
    · simp only [quoinref02_Check.j1, Bool.false_eq_true, if_false, if_neg c4]
      rcases hp with ⟨h0, h1⟩ | ⟨h0, _⟩
      · rw [okL_yes (by omega), hs]
        exact hnext
      · omega
theorem rcheck_ev (l : List S36) (hl : l.length ≤ 9223372036854775806) (hw : Wf l) : Ev (fun k => quoinref02_Check.f k l) (checkOf l) := by
  have := rcheck_loop l hl hw l.length 0 (-2) (by omega) (.inl ⟨rfl, rfl⟩)
  rwa [List.drop_zero] at this
def sumL : Int → List S36 → Int
  | s, [] => s
  | s, t :: l => sumL (wrap64 (s + wrap64 (wrap32 (t.f1 - t.f0)) + 1)) l
def sizeOf' (l : List S36) : Int := if checkOf l = 0 then sumL 0 l else 0
theorem size_loop (l : List S36) (hl : l.length ≤ 9223372036854775806) (n : Nat) : ∀ (i : Nat) (s : Int), i + n = l.length → Ev (fun k => runes_Size.l0 k s l (l.length : Int) i) (sumL s (l.drop i)) := by
  induction n with
  | zero =>
    intro i s hi
    apply Ev.succ
    rw [List.drop_eq_nil_of_le (by omega)]
    simp only [runes_Size.l0, if_neg (show ¬ (i : Int) < (l.length : Int) by omega), sumL]
    exact Ev.now _
  | succ n ih =>
    intro i s hi
    have hil : i < l.length := by omega
    apply Ev.succ
    rw [List.drop_eq_getElem_cons hil]
    have hs : wrap64 ((i : Int) + 1) = ((i + 1 : Nat) : Int) := by rw [wr (by omega) (by omega)]; omega
    have hd : ∀ D : Int, wrap64 (s + wrap64 (D + 1)) = wrap64 (s + D + 1) := by intro D; unfold wrap64; omega
    simp only [runes_Size.l0, if_pos (show (i : Int) < (l.length : Int) by omega), if_pos (show (0 : Int) ≤ (i : Int) by omega), rd_at l i hil, sumL]
    rw [hd, hs]
    exact ih (i + 1) _ (by omega)
theorem rsize_loop (l : List S36) (hl : l.length ≤ 9223372036854775806) (n : Nat) : ∀ (i : Nat) (s : Int), i + n = l.length → Ev (fun k => quoinref02_Size.l0 k l s i) (sumL s (l.drop i)) := by
  induction n with
  | zero =>
    intro i s hi
    apply Ev.succ
    rw [List.drop_eq_nil_of_le (by omega)]
    simp only [quoinref02_Size.l0, if_neg (show ¬ (i : Int) < (l.length : Int) by omega), sumL]
    exact Ev.now _
  | succ n ih =>
    intro i s hi
    have hil : i < l.length := by omega
    apply Ev.succ
    rw [List.drop_eq_getElem_cons hil]
    have hs : wrap64 ((i : Int) + 1) = ((i + 1 : Nat) : Int) := by rw [wr (by omega) (by omega)]; omega
    have hd : ∀ D : Int, wrap64 (wrap64 (s + D) + 1) = wrap64 (s + D + 1) := by intro D; unfold wrap64; omega
    simp only [quoinref02_Size.l0, if_pos (show (i : Int) < (l.length : Int) by omega), if_pos (show (0 : Int) ≤ (i : Int) by omega), rd_at l i hil, sumL]
    rw [hd, hs]
    exact ih (i + 1) _ (by omega)
theorem size_ev (l : List S36) (hl : l.length ≤ 9223372036854775806) (hw : Wf l) : Ev (fun k => runes_Size.f k l) (sizeOf' l) := by
  unfold runes_Size.f sizeOf'
  refine Ev.bind (check_ev l hl hw) ?_
  by_cases c : checkOf l = 0
  · simp only [if_pos c]
    have := size_loop l hl l.length 0 0 (by omega)
    rwa [List.drop_zero] at this
  · simp only [if_neg c]; exact Ev.now _
theorem rsize_ev (l : List S36) (hl : l.length ≤ 9223372036854775806) (hw : Wf l) : Ev (fun k => quoinref02_Size.f k l) (sizeOf' l) := by
  unfold quoinref02_Size.f sizeOf'
  refine Ev.bind (rcheck_ev l hl hw) ?_
  by_cases c : checkOf l = 0
  · simp only [if_pos c]
    have := rsize_loop l hl l.length 0 0 (by omega)
    rwa [List.drop_zero] at this
  · simp only [if_neg c]; exact Ev.now _
theorem RunesChecks : quoinlaw02_RunesChecks.Pure := by
  intro l h0 h1 h2
  have hw := wf_of h2
  refine Ev.rounds ?_
  unfold quoinlaw02_RunesChecks.f
  refine Ev.bind (check_ev l (by omega) hw) (Ev.bind (rcheck_ev l (by omega) hw) ?_)
  simp only [if_true]
  refine Ev.bind (size_ev l (by omega) hw) (Ev.bind (rsize_ev l (by omega) hw) ?_)
  simp only [if_true]
  exact Ev.bind awake_ev (Ev.now _)
end Go.Proofs.YtfnkboilepgmoaaDoor.Pure
