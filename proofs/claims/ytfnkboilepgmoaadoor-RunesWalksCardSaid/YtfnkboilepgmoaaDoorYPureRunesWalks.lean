import Derived.Test.YtfnkboilepgmoaaDoorYPre
import Derived.Test.YtfnkboilepgmoaaDoorYax1
import Derived.Test.YtfnkboilepgmoaaDoorYax2
import Derived.Test.YtfnkboilepgmoaaDoorYax3

namespace Go.Proofs.YtfnkboilepgmoaaDoor.Pure
open Go.RowKit Go.Proofs.YtfnkboilepgmoaaDoor.R Go.Proofs.YtfnkboilepgmoaaDoorW.PrintWords Go.Proofs.YtfnkboilepgmoaaDoorW.PrintLast
set_option maxRecDepth 100000
set_option linter.unusedVariables false
set_option linter.unusedSimpArgs false
theorem Ev.succ {α : Type} {g : Nat → Option α} {r : α} (h : Ev (fun k => g (k + 1)) r) : Ev g r := Ev.step (fun _ => rfl) h
theorem wr {x : Int} (h0 : -9223372036854775808 ≤ x) (h1 : x ≤ 9223372036854775807) : wrap64 x = x := by unfold wrap64; omega
theorem wr32 {x : Int} (h0 : -2147483648 ≤ x) (h1 : x ≤ 2147483647) : wrap32 x = x := by unfold wrap32; omega
theorem wf32 {x : Int} (h : (Lit.int .i32 x).wf = true) : -2147483648 ≤ x ∧ x ≤ 2147483647 := by
  have : IntKind.i32.min = -2147483648 := by decide
  have h := h
  simp only [Lit.wf, decide_eq_true_eq, Bool.and_eq_true] at h
  have h2 : IntKind.i32.max = 2147483647 := by decide
  omega
theorem rd_at (l : List S36) (i : Nat) (h : i < l.length) : rd_T36 l (i : Int) = l[i] := by
  unfold rd_T36
  rw [List.getD_eq_getElem?_getD, Int.toNat_natCast, List.getElem?_eq_getElem h]
  rfl
def Wf (l : List S36) : Prop := ∀ x ∈ l, -2147483648 ≤ x.f0 ∧ x.f0 ≤ 2147483647 ∧ -2147483648 ≤ x.f1 ∧ x.f1 ≤ 2147483647
theorem wf_of {l : List S36} (h : ∀ x ∈ l, (Lit.int .i32 x.f0).wf = true ∧ (Lit.int .i32 x.f1).wf = true) : Wf l := fun x hx => by
  have h1 := wf32 (h x hx).1
  have h2 := wf32 (h x hx).2
  omega
theorem awake_at : quoinlaw02_awake.f 60 = some true := by decide +kernel
theorem awake_ev : Ev (fun k => quoinlaw02_awake.f k) true := Ev.of (fun k => quoinlaw02_awake.mono k) awake_at
def okL : Int → List S36 → Bool
  | _, [] => true
  | p, t :: l => decide (0 ≤ t.f0 ∧ t.f0 ≤ t.f1 ∧ t.f1 ≤ 1114111 ∧ p + 2 ≤ t.f0) && okL t.f1 l
theorem okL_no {p : Int} {t : S36} {l : List S36} (h : ¬ (0 ≤ t.f0 ∧ t.f0 ≤ t.f1 ∧ t.f1 ≤ 1114111 ∧ p + 2 ≤ t.f0)) : okL p (t :: l) = false := by
  simp only [okL, decide_eq_false h, Bool.false_and]
theorem okL_yes {p : Int} {t : S36} {l : List S36} (h : 0 ≤ t.f0 ∧ t.f0 ≤ t.f1 ∧ t.f1 ≤ 1114111 ∧ p + 2 ≤ t.f0) : okL p (t :: l) = okL t.f1 l := by
  simp only [okL, decide_eq_true h, Bool.true_and]
def checkOf (l : List S36) : Int := if okL (-2) l = true then (if 2048 < l.length then 21 else 0) else 20
def prev (l : List S36) (i : Nat) (p : Int) : Prop := (i = 0 ∧ p = -2) ∨ (1 ≤ i ∧ ∃ h : i - 1 < l.length, p = (l[i - 1]).f1 ∧ 0 ≤ p ∧ p ≤ 1114111)
theorem check_loop (l : List S36) (hl : l.length ≤ 9223372036854775806) (hw : Wf l) (n : Nat) : ∀ (i : Nat) (p : Int), i + n = l.length → prev l i p → Ev (fun k => runes_Check.l0 k l l (l.length : Int) i) (if okL p (l.drop i) = true then (if 2048 < l.length then 21 else 0) else 20) := by
  induction n with
  | zero =>
    intro i p hi hp
    apply Ev.succ
    rw [List.drop_eq_nil_of_le (by omega)]
    simp only [runes_Check.l0, if_neg (show ¬ (i : Int) < (l.length : Int) by omega), okL, if_true]
    by_cases c : 2048 < l.length
    · rw [if_pos c]
      simp only [if_pos (show (l.length : Int) > 2048 by omega)]
      exact Ev.now _
    · rw [if_neg c]
      simp only [if_neg (show ¬ (l.length : Int) > 2048 by omega)]
      exact Ev.now _
  | succ n ih =>
    intro i p hi hp
    have hil : i < l.length := by omega
    apply Ev.succ
    rw [List.drop_eq_getElem_cons hil]
    obtain ⟨t, ht⟩ : ∃ t, l[i] = t := ⟨_, rfl⟩
    have hwt := hw t (ht ▸ List.getElem_mem hil)
    rw [ht]
    simp only [runes_Check.l0, if_pos (show (i : Int) < (l.length : Int) by omega), if_pos (show (0 : Int) ≤ (i : Int) by omega), rd_at l i hil, ht]
    by_cases c1 : t.f0 < 0
    · simp only [if_pos c1]
      rw [okL_no (by omega), if_neg (by decide)]
      exact Ev.now _
    simp only [if_neg c1]
    by_cases c2 : t.f1 > 1114111
    · simp only [if_pos c2]
      rw [okL_no (by omega), if_neg (by decide)]
      exact Ev.now _
    simp only [if_neg c2]
    by_cases c3 : t.f0 > t.f1
    · simp only [if_pos c3]
      rw [okL_no (by omega), if_neg (by decide)]
      exact Ev.now _
    simp only [if_neg c3]
    have hs : wrap64 ((i : Int) + 1) = ((i + 1 : Nat) : Int) := by rw [wr (by omega) (by omega)]; omega
    have hp' : prev l (i + 1) t.f1 := .inr ⟨by omega, by simpa using hil, by simp [ht], by omega, by omega⟩
    have hnext := ih (i + 1) t.f1 (by omega) hp'
    by_cases c4 : (i : Int) > 0
    · simp only [if_pos c4, wr (show -9223372036854775808 ≤ (i : Int) - 1 by omega) (show (i : Int) - 1 ≤ 9223372036854775807 by omega), if_pos (show (0 : Int) ≤ (i : Int) - 1 by omega), if_pos (show (i : Int) - 1 < (l.length : Int) by omega), wr32 (show -2147483648 ≤ t.f0 - 1 by omega) (show t.f0 - 1 ≤ 2147483647 by omega)]
      rcases hp with ⟨h0, _⟩ | ⟨h0, h1, h2, h3, h4⟩
      · omega
      have e : rd_T36 l ((i : Int) - 1) = l[i - 1] := by rw [show (i : Int) - 1 = ((i - 1 : Nat) : Int) by omega]; exact rd_at l (i - 1) h1
      rw [e, ← h2]
      by_cases c5 : t.f0 - 1 ≤ p
      · simp only [if_pos c5]
        rw [okL_no (by omega), if_neg (by decide)]
        exact Ev.now _
      · simp only [if_neg c5]
        rw [okL_yes (by omega), hs]
        exact hnext
    · simp only [if_neg c4]
      rcases hp with ⟨h0, h1⟩ | ⟨h0, _⟩
      · rw [okL_yes (by omega), hs]
        exact hnext
      · omega
theorem check_ev (l : List S36) (hl : l.length ≤ 9223372036854775806) (hw : Wf l) : Ev (fun k => runes_Check.f k l) (checkOf l) := by
  have := check_loop l hl hw l.length 0 (-2) (by omega) (.inl ⟨rfl, rfl⟩)
  rwa [List.drop_zero] at this
theorem rcheck_loop (l : List S36) (hl : l.length ≤ 9223372036854775806) (hw : Wf l) (n : Nat) : ∀ (i : Nat) (p : Int), i + n = l.length → prev l i p → Ev (fun k => quoinref02_Check.l0 k l i) (if okL p (l.drop i) = true then (if 2048 < l.length then 21 else 0) else 20) := by
  induction n with
  | zero =>
    intro i p hi hp
    apply Ev.succ
    rw [List.drop_eq_nil_of_le (by omega)]
    simp only [quoinref02_Check.l0, if_neg (show ¬ (i : Int) < (l.length : Int) by omega), okL, if_true]
    by_cases c : 2048 < l.length
    · rw [if_pos c]
      simp only [if_pos (show (l.length : Int) > 2048 by omega)]
      exact Ev.now _
    · rw [if_neg c]
      simp only [if_neg (show ¬ (l.length : Int) > 2048 by omega)]
      exact Ev.now _
  | succ n ih =>
    intro i p hi hp
    have hil : i < l.length := by omega
    have bad : Ev (fun k => quoinref02_Check.j1 k l i true) (20 : Int) := by
      apply Ev.succ
      simp only [quoinref02_Check.j1, if_true]
      exact Ev.now _
    apply Ev.succ
    rw [List.drop_eq_getElem_cons hil]
    obtain ⟨t, ht⟩ : ∃ t, l[i] = t := ⟨_, rfl⟩
    have hwt := hw t (ht ▸ List.getElem_mem hil)
    rw [ht]
    simp only [quoinref02_Check.l0, if_pos (show (i : Int) < (l.length : Int) by omega), if_pos (show (0 : Int) ≤ (i : Int) by omega), rd_at l i hil, ht]
    by_cases c1 : t.f0 < 0
    · simp only [if_pos c1]
      rw [okL_no (by omega), if_neg (by decide)]
      exact bad
    simp only [if_neg c1]
    by_cases c3 : t.f0 > t.f1
    · simp only [if_pos c3]
      rw [okL_no (by omega), if_neg (by decide)]
      exact bad
    simp only [if_neg c3]
    by_cases c2 : t.f1 > 1114111
    · simp only [decide_eq_true c2]
      rw [okL_no (by omega), if_neg (by decide)]
      exact bad
    simp only [decide_eq_false c2]
    have hs : wrap64 ((i : Int) + 1) = ((i + 1 : Nat) : Int) := by rw [wr (by omega) (by omega)]; omega
    have hp' : prev l (i + 1) t.f1 := .inr ⟨by omega, by simpa using hil, by simp [ht], by omega, by omega⟩
    have hnext := ih (i + 1) t.f1 (by omega) hp'
    apply Ev.succ
    by_cases c4 : (i : Int) > 0
    · rcases hp with ⟨h0, _⟩ | ⟨h0, h1, h2, h3, h4⟩
      · omega
      have e : rd_T36 l ((i : Int) - 1) = l[i - 1] := by rw [show (i : Int) - 1 = ((i - 1 : Nat) : Int) by omega]; exact rd_at l (i - 1) h1
      simp only [quoinref02_Check.j1, Bool.false_eq_true, if_false, if_pos c4, if_pos (show (i : Int) < (l.length : Int) by omega), wr (show -9223372036854775808 ≤ (i : Int) - 1 by omega) (show (i : Int) - 1 ≤ 9223372036854775807 by omega), if_pos (show (0 : Int) ≤ (i : Int) by omega), if_pos (show (0 : Int) ≤ (i : Int) - 1 by omega), if_pos (show (i : Int) - 1 < (l.length : Int) by omega), rd_at l i hil, ht, e, ← h2, wr32 (show -2147483648 ≤ p + 2 by omega) (show p + 2 ≤ 2147483647 by omega)]
      by_cases c5 : t.f0 < p + 2
      · simp only [if_pos c5]
        rw [okL_no (by omega), if_neg (by decide)]
        exact Ev.now _
      · simp only [if_neg c5]
        rw [okL_yes (by omega), hs]
        exact hnext
    · simp only [quoinref02_Check.j1, Bool.false_eq_true, if_false, if_neg c4]
      rcases hp with ⟨h0, h1⟩ | ⟨h0, _⟩
      · rw [okL_yes (by omega), hs]
        exact hnext
      · omega
theorem rcheck_ev (l : List S36) (hl : l.length ≤ 9223372036854775806) (hw : Wf l) : Ev (fun k => quoinref02_Check.f k l) (checkOf l) := by
  have := rcheck_loop l hl hw l.length 0 (-2) (by omega) (.inl ⟨rfl, rfl⟩)
  rwa [List.drop_zero] at this
def sumL : Int → List S36 → Int
  | s, [] => s
  | s, t :: l => sumL (wrap64 (s + wrap64 (wrap32 (t.f1 - t.f0)) + 1)) l
def sizeOf' (l : List S36) : Int := if checkOf l = 0 then sumL 0 l else 0
theorem rsize_loop (l : List S36) (hl : l.length ≤ 9223372036854775806) (n : Nat) : ∀ (i : Nat) (s : Int), i + n = l.length → Ev (fun k => quoinref02_Size.l0 k l s i) (sumL s (l.drop i)) := by
  induction n with
  | zero =>
    intro i s hi
    apply Ev.succ
    rw [List.drop_eq_nil_of_le (by omega)]
    simp only [quoinref02_Size.l0, if_neg (show ¬ (i : Int) < (l.length : Int) by omega), sumL]
    exact Ev.now _
  | succ n ih =>
    intro i s hi
    have hil : i < l.length := by omega
    apply Ev.succ
    rw [List.drop_eq_getElem_cons hil]
    have hs : wrap64 ((i : Int) + 1) = ((i + 1 : Nat) : Int) := by rw [wr (by omega) (by omega)]; omega
    have hd : ∀ D : Int, wrap64 (wrap64 (s + D) + 1) = wrap64 (s + D + 1) := by intro D; unfold wrap64; omega
    simp only [quoinref02_Size.l0, if_pos (show (i : Int) < (l.length : Int) by omega), if_pos (show (0 : Int) ≤ (i : Int) by omega), rd_at l i hil, sumL]
    rw [hd, hs]
    exact ih (i + 1) _ (by omega)
theorem rsize_ev (l : List S36) (hl : l.length ≤ 9223372036854775806) (hw : Wf l) : Ev (fun k => quoinref02_Size.f k l) (sizeOf' l) := by
  unfold quoinref02_Size.f sizeOf'
  refine Ev.bind (rcheck_ev l hl hw) ?_
  by_cases c : checkOf l = 0
  · simp only [if_pos c]
    have := rsize_loop l hl l.length 0 0 (by omega)
    rwa [List.drop_zero] at this
  · simp only [if_neg c]; exact Ev.now _
def mem (l : List S36) (r : Int) : Prop := ∃ t ∈ l, t.f0 ≤ r ∧ r ≤ t.f1
theorem mem_nil (r : Int) : ¬ mem [] r := by rintro ⟨t, h, _⟩; simp at h
theorem mem_cons (t : S36) (l : List S36) (r : Int) : mem (t :: l) r ↔ (t.f0 ≤ r ∧ r ≤ t.f1) ∨ mem l r := by
  constructor
  · rintro ⟨u, h, h1⟩
    rcases List.mem_cons.1 h with rfl | h
    · exact .inl h1
    · exact .inr ⟨u, h, h1⟩
  · rintro (h | ⟨u, h, h1⟩)
    · exact ⟨t, List.mem_cons_self, h⟩
    · exact ⟨u, List.mem_cons_of_mem _ h, h1⟩
theorem mem_append (l m : List S36) (r : Int) : mem (l ++ m) r ↔ mem l r ∨ mem m r := by
  induction l with
  | nil => simp [mem_nil]
  | cons t l ih => rw [List.cons_append, mem_cons, mem_cons, ih, or_assoc]
theorem okL_cons {p : Int} {t : S36} {l : List S36} : okL p (t :: l) = true ↔ (0 ≤ t.f0 ∧ t.f0 ≤ t.f1 ∧ t.f1 ≤ 1114111 ∧ p + 2 ≤ t.f0) ∧ okL t.f1 l = true := by
  simp only [okL, Bool.and_eq_true, decide_eq_true_eq]
theorem okL_ge : ∀ (l : List S36) (p : Int), okL p l = true → ∀ r, mem l r → p + 2 ≤ r ∧ r ≤ 1114111
  | [], p, _, r, h => absurd h (mem_nil r)
  | t :: l, p, h, r, hr => by
    obtain ⟨h1, h2⟩ := okL_cons.1 h
    rcases (mem_cons t l r).1 hr with h3 | h3
    · omega
    · have := okL_ge l t.f1 h2 r h3
      omega
def good (t : S36) : Prop := 0 ≤ t.f0 ∧ t.f0 ≤ t.f1 ∧ t.f1 ≤ 1114111
instance (t : S36) : Decidable (good t) := by unfold good; infer_instance
def hasB : List S36 → Int → Bool
  | [], _ => false
  | t :: s, r => (decide (t.f0 ≤ r) && decide (r ≤ t.f1)) || hasB s r
theorem hasB_mem (r : Int) : ∀ s, hasB s r = true ↔ mem s r
  | [] => by simp [hasB, mem_nil]
  | t :: s => by simp only [hasB, Bool.or_eq_true, Bool.and_eq_true, decide_eq_true_eq, mem_cons, hasB_mem r s]
theorem okL_good : ∀ (l : List S36) (p : Int), okL p l = true → ∀ t ∈ l, good t
  | [], _, _, t, h => by simp at h
  | u :: l, p, h, t, ht => by
    obtain ⟨h1, h2⟩ := okL_cons.1 h
    rcases List.mem_cons.1 ht with rfl | ht
    · unfold good; omega
    · exact okL_good l u.f1 h2 t ht
theorem check_ok {s : List S36} (h : checkOf s = 0) : okL (-2) s = true ∧ s.length ≤ 2048 := by
  unfold checkOf at h
  by_cases c : okL (-2) s = true
  · rw [if_pos c] at h
    exact ⟨c, by by_cases c2 : 2048 < s.length
                 · rw [if_pos c2] at h; omega
                 · omega⟩
  · rw [if_neg c] at h; omega
theorem sum_at (x a d : Int) (h0 : 0 ≤ x) (h1 : x + d + 1 ≤ 1114112) (h2 : 0 ≤ d) : wrap64 (x + wrap64 (wrap32 d) + 1) = x + (d + 1) := by
  rw [wr32 (by omega) (by omega), wr (show -9223372036854775808 ≤ d by omega) (by omega), wr (by omega) (by omega)]
  omega
def tot : List S36 → Int
  | [] => 0
  | t :: l => t.f1 - t.f0 + 1 + tot l
theorem tot_le : ∀ (l : List S36) (p : Int), okL p l = true → -2 ≤ p → p ≤ 1114111 → 0 ≤ tot l ∧ tot l ≤ 1114111 - p
  | [], p, _, _, _ => by simp only [tot]; omega
  | t :: l, p, h, hp, hp2 => by
    obtain ⟨h1, h2⟩ := okL_cons.1 h
    have := tot_le l t.f1 h2 (by omega) (by omega)
    simp only [tot]
    omega
theorem sum_tot : ∀ (l : List S36) (p s : Int), okL p l = true → -2 ≤ p → p ≤ 1114111 → 0 ≤ s → s + tot l ≤ 1114112 → sumL s l = s + tot l
  | [], p, s, _, _, _, _, _ => by simp only [sumL, tot]; omega
  | t :: l, p, s, h, hp, hp2, h0, h1 => by
    obtain ⟨a, b⟩ := okL_cons.1 h
    have ht := tot_le l t.f1 b (by omega) (by omega)
    simp only [tot] at h1
    simp only [sumL, tot]
    rw [sum_at s 0 (t.f1 - t.f0) h0 (by omega) (by omega), sum_tot l t.f1 _ b (by omega) (by omega) (by omega) (by omega)]
    omega
theorem size_tot {l : List S36} (h : okL (-2) l = true) (hl : l.length ≤ 2048) : sizeOf' l = tot l := by
  have hc : checkOf l = 0 := by unfold checkOf; rw [if_pos h, if_neg (by omega)]
  have hb := tot_le l (-2) h (by omega) (by omega)
  unfold sizeOf'
  rw [if_pos hc]
  by_cases c : tot l ≤ 1114112
  · rw [sum_tot l (-2) 0 h (by omega) (by omega) (by omega) (by omega)]; omega
  · cases l with
    | nil => simp [tot] at c
    | cons t l =>
      obtain ⟨a, b⟩ := okL_cons.1 h
      have := tot_le l t.f1 b (by omega) (by omega)
      simp only [tot] at c
      omega
section arms
variable {a b u m d n kk : List S36} {r e f g h x : Int}
end arms
theorem rhas_at (l : List S36) (hl : l.length ≤ 9223372036854775806) (r : Int) (n : Nat) : ∀ (i k : Nat), i + n = l.length → n + 1 ≤ k → quoinref02_Has.l0 k l r i = some (hasB (l.drop i) r) := by
  induction n with
  | zero =>
    intro i k hi hk
    obtain ⟨k, rfl⟩ : ∃ j, k = j + 1 := ⟨k - 1, by omega⟩
    rw [List.drop_eq_nil_of_le (by omega)]
    simp only [quoinref02_Has.l0, if_neg (show ¬ (i : Int) < (l.length : Int) by omega), hasB]
  | succ n ih =>
    intro i k hi hk
    obtain ⟨k, rfl⟩ : ∃ j, k = j + 1 := ⟨k - 1, by omega⟩
    have hil : i < l.length := by omega
    rw [List.drop_eq_getElem_cons hil]
    have hs : wrap64 ((i : Int) + 1) = ((i + 1 : Nat) : Int) := by rw [wr (by omega) (by omega)]; omega
    simp only [quoinref02_Has.l0, if_pos (show (i : Int) < (l.length : Int) by omega), if_pos (show (0 : Int) ≤ (i : Int) by omega), rd_at l i hil, hasB]
    rw [hs]
    by_cases c1 : (l[i]).f0 ≤ r
    · by_cases c2 : r ≤ (l[i]).f1
      · simp only [if_pos c1, if_pos c2, decide_eq_true c1, decide_eq_true c2, Bool.and_true, Bool.true_or]
      · simp only [if_pos c1, if_neg c2, decide_eq_true c1, decide_eq_false c2, Bool.and_false, Bool.false_or]; exact ih (i + 1) k (by omega) (by omega)
    · simp only [if_neg c1, decide_eq_false c1, Bool.false_and, Bool.false_or]; exact ih (i + 1) k (by omega) (by omega)
theorem rs_mem (t : S36) (x : Int) : x ∈ rs t ↔ t.f0 ≤ x ∧ x ≤ t.f1 := by
  unfold rs
  rw [List.mem_map]
  constructor
  · rintro ⟨i, hi, rfl⟩
    rw [List.mem_range] at hi
    omega
  · rintro ⟨h1, h2⟩
    exact ⟨(x - t.f0).toNat, List.mem_range.2 (by omega), by omega⟩
theorem rs_rising (t : S36) : (rs t).Pairwise (· < ·) := by
  unfold rs
  rw [List.pairwise_map]
  exact List.pairwise_lt_range.imp (fun h => by omega)
theorem allR_cons (t : S36) (l : List S36) : allR (t :: l) = rs t ++ allR l := by unfold allR; rw [List.flatMap_cons]
theorem allR_mem : ∀ (l : List S36) (x : Int), x ∈ allR l ↔ mem l x
  | [], x => by simp [allR, mem_nil]
  | t :: l, x => by rw [allR_cons, List.mem_append, rs_mem, mem_cons, allR_mem l x]
theorem allR_rising : ∀ (l : List S36) (p : Int), okL p l = true → (allR l).Pairwise (· < ·)
  | [], _, _ => by simp [allR]
  | t :: l, p, h => by
    obtain ⟨h1, h2⟩ := okL_cons.1 h
    rw [allR_cons]
    refine List.pairwise_append.2 ⟨rs_rising t, allR_rising l _ h2, fun x hx y hy => ?_⟩
    have := (rs_mem t x).1 hx
    have := okL_ge l _ h2 y ((allR_mem l y).1 hy)
    omega
theorem allR_tot : ∀ (l : List S36) (p : Int), okL p l = true → ((allR l).length : Int) = tot l
  | [], _, _ => by simp [allR, tot]
  | t :: l, p, h => by
    obtain ⟨h1, h2⟩ := okL_cons.1 h
    rw [allR_cons, List.length_append, rs_len]
    have := allR_tot l _ h2
    simp only [tot]
    omega
theorem RunesWalks : quoinlaw02_RunesWalks.Pure := by
  intro l a h1 h2 h3 h4
  have hl : l.length ≤ 9223372036854775806 := by omega
  have hw := wf_of h3
  have ha : 0 ≤ a ∧ a ≤ 255 := by
    simp only [Lit.wf, decide_eq_true_eq, Bool.and_eq_true] at h4
    have e1 : IntKind.u8.min = 0 := by decide
    have e2 : IntKind.u8.max = 255 := by decide
    omega
  obtain ⟨K1, k1⟩ := check_ev l hl hw
  obtain ⟨K2, k2⟩ := rsize_ev l hl hw
  obtain ⟨K3, k3⟩ := awake_ev
  obtain ⟨k, hk⟩ : ∃ k, K1 ≤ k ∧ K2 ≤ k ∧ K3 ≤ k ∧ l.length + 1 ≤ k := ⟨K1 + K2 + K3 + l.length + 1, by omega⟩
  refine ⟨k, ?_⟩
  unfold quoinlaw02_RunesWalks.f
  rw [if_pos]
  have hHas : ∀ r, quoinref02_Has.f k l r = some (hasB l r) := fun r => by
    have := rhas_at l hl r l.length 0 k (by omega) hk.2.2.2
    rw [List.drop_zero] at this
    exact this
  have hS := k2 k hk.2.1
  refine ⟨ha, by omega, checkOf l, _, _, hasB l, k1 k hk.1, fun c => ?_, rfl, rfl, ?_, ?_, hHas, ?_, ?_, k3 k hk.2.2.1⟩
  · obtain ⟨o1, o2⟩ := check_ok c
    exact ⟨o2, fun t ht => okL_good l _ o1 t ht⟩
  · by_cases c : checkOf l = 0
    · rw [if_pos c]; exact allR_rising l _ (check_ok c).1
    · rw [if_neg c]; simp [allR]
  · by_cases c : checkOf l = 0
    · rw [if_pos c]
      intro x hx
      have := okL_ge l _ (check_ok c).1 x ((allR_mem l x).1 hx)
      omega
    · rw [if_neg c]; simp [allR]
  · by_cases c : checkOf l = 0
    · rw [if_pos c]
      exact fun x hx => (hasB_mem x l).2 ((allR_mem l x).1 hx)
    · rw [if_neg c]; simp [allR]
  · refine hS.trans (congrArg some ?_)
    by_cases c : checkOf l = 0
    · obtain ⟨o1, o2⟩ := check_ok c
      rw [if_pos c, allR_tot l _ o1]
      exact size_tot o1 o2
    · rw [if_neg c]
      unfold sizeOf'
      rw [if_neg c]
      simp [allR]
end Go.Proofs.YtfnkboilepgmoaaDoor.Pure
