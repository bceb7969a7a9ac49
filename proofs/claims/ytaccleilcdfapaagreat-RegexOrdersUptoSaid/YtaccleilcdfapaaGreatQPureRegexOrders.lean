import Derived.Test.YtaccleilcdfapaaGreatQPre
import Derived.Test.YtaccleilcdfapaaGreatQax0
import Derived.Test.YtaccleilcdfapaaGreatQax1
import Derived.Test.YtaccleilcdfapaaGreatQax13
import Derived.Test.YtaccleilcdfapaaGreatQax14
import Derived.Test.YtaccleilcdfapaaGreatQax2
import Derived.Test.YtaccleilcdfapaaGreatQax3
import Derived.Test.YtaccleilcdfapaaGreatQax4
import Derived.Test.YtaccleilcdfapaaGreatQax5
import Derived.Test.YtaccleilcdfapaaGreatQax6
import Derived.Test.YtaccleilcdfapaaGreatQax7
import Derived.Test.YtaccleilcdfapaaGreatQax8
import Derived.Test.YtaccleilcdfapaaGreatQax9

namespace Go.Proofs.YtaccleilcdfapaaGreat.Pure
open Go.RowKit Go.Proofs.YtaccleilcdfapaaGreat.G Go.Proofs.YtaccleilcdfapaaGreatW.PrintWords Go.Proofs.YtaccleilcdfapaaGreatW.PrintLast
set_option maxRecDepth 100000
set_option linter.unusedVariables false
set_option linter.unusedSimpArgs false
theorem Ev.succ {α : Type} {g : Nat → Option α} {r : α} (h : Ev (fun k => g (k + 1)) r) : Ev g r := Ev.step (fun _ => rfl) h
theorem Ev.const {α : Type} {a : Option α} {r : α} (h : a = some r) : Ev (fun _ => a) r := ⟨0, fun _ _ => h⟩
theorem wr {x : Int} (h0 : -9223372036854775808 ≤ x) (h1 : x ≤ 9223372036854775807) : wrap64 x = x := by unfold wrap64; omega
theorem wr32 {x : Int} (h0 : -2147483648 ≤ x) (h1 : x ≤ 2147483647) : wrap32 x = x := by unfold wrap32; omega
theorem wf32 {x : Int} (h : (Lit.int .i32 x).wf = true) : -2147483648 ≤ x ∧ x ≤ 2147483647 := by
  have : IntKind.i32.min = -2147483648 := by decide
  have h := h
  simp only [Lit.wf, decide_eq_true_eq, Bool.and_eq_true] at h
  have h2 : IntKind.i32.max = 2147483647 := by decide
  omega
theorem f8 (l : List S51) (i : Nat) (h : i < l.length) : aA l (i : Int) = l[i] := by
  unfold aA
  rw [List.getD_eq_getElem?_getD, Int.toNat_natCast, List.getElem?_eq_getElem h]
  rfl
def Wf (l : List S51) : Prop := ∀ x ∈ l, -2147483648 ≤ x.f0 ∧ x.f0 ≤ 2147483647 ∧ -2147483648 ≤ x.f1 ∧ x.f1 ≤ 2147483647
theorem wf_of {l : List S51} (h : ∀ x ∈ l, (Lit.int .i32 x.f0).wf = true ∧ (Lit.int .i32 x.f1).wf = true) : Wf l := fun x hx => by
  have h1 := wf32 (h x hx).1
  have h2 := wf32 (h x hx).2
  omega
def okL : Int → List S51 → Bool
  | _, [] => true
  | p, t :: l => decide (0 ≤ t.f0 ∧ t.f0 ≤ t.f1 ∧ t.f1 ≤ 1114111 ∧ p + 2 ≤ t.f0) && okL t.f1 l
theorem okL_no {p : Int} {t : S51} {l : List S51} (h : ¬ (0 ≤ t.f0 ∧ t.f0 ≤ t.f1 ∧ t.f1 ≤ 1114111 ∧ p + 2 ≤ t.f0)) : okL p (t :: l) = false := by
  simp only [okL, decide_eq_false h, Bool.false_and]
theorem okL_yes {p : Int} {t : S51} {l : List S51} (h : 0 ≤ t.f0 ∧ t.f0 ≤ t.f1 ∧ t.f1 ≤ 1114111 ∧ p + 2 ≤ t.f0) : okL p (t :: l) = okL t.f1 l := by
  simp only [okL, decide_eq_true h, Bool.true_and]
def cO (l : List S51) : Int := if okL (-2) l = true then (if 2048 < l.length then 21 else 0) else 20
def prev (l : List S51) (i : Nat) (p : Int) : Prop := (i = 0 ∧ p = -2) ∨ (1 ≤ i ∧ ∃ h : i - 1 < l.length, p = (l[i - 1]).f1 ∧ 0 ≤ p ∧ p ≤ 1114111)
theorem check_loop (l : List S51) (hl : l.length ≤ 9223372036854775806) (hw : Wf l) (n : Nat) : ∀ (i : Nat) (p : Int), i + n = l.length → prev l i p → Ev (fun k => bh.l0 k l l (l.length : Int) i) (if okL p (l.drop i) = true then (if 2048 < l.length then 21 else 0) else 20) := by
  induction n with
  | zero =>
    intro i p hi hp
    apply Ev.succ
    rw [List.drop_eq_nil_of_le (by omega)]
    simp only [bh.l0, if_neg (show ¬ (i : Int) < (l.length : Int) by omega), okL, if_true]
    by_cases c : 2048 < l.length
    · rw [if_pos c]
      simp only [if_pos (show (l.length : Int) > 2048 by omega)]
      exact Ev.now _
    · rw [if_neg c]
      simp only [if_neg (show ¬ (l.length : Int) > 2048 by omega)]
      exact Ev.now _
  | succ n ih =>
    intro i p hi hp
    have hil : i < l.length := by omega
    apply Ev.succ
    rw [List.drop_eq_getElem_cons hil]
    obtain ⟨t, ht⟩ : ∃ t, l[i] = t := ⟨_, rfl⟩
    have hwt := hw t (ht ▸ List.getElem_mem hil)
    rw [ht]
    simp only [bh.l0, if_pos (show (i : Int) < (l.length : Int) by omega), if_pos (show (0 : Int) ≤ (i : Int) by omega), f8 l i hil, ht]
    by_cases c1 : t.f0 < 0
    · simp only [if_pos c1]
      rw [okL_no (by omega), if_neg (by decide)]
      exact Ev.now _
    simp only [if_neg c1]
    by_cases c2 : t.f1 > 1114111
    · simp only [if_pos c2]
      rw [okL_no (by omega), if_neg (by decide)]
      exact Ev.now _
    simp only [if_neg c2]
    by_cases c3 : t.f0 > t.f1
    · simp only [if_pos c3]
      rw [okL_no (by omega), if_neg (by decide)]
      exact Ev.now _
    simp only [if_neg c3]
    have hs : wrap64 ((i : Int) + 1) = ((i + 1 : Nat) : Int) := by rw [wr (by omega) (by omega)]; omega
    have hp' : prev l (i + 1) t.f1 := .inr ⟨by omega, by simpa using hil, by simp [ht], by omega, by omega⟩
    have hnext := ih (i + 1) t.f1 (by omega) hp'
    by_cases c4 : (i : Int) > 0
    · simp only [if_pos c4, wr (show -9223372036854775808 ≤ (i : Int) - 1 by omega) (show (i : Int) - 1 ≤ 9223372036854775807 by omega), if_pos (show (0 : Int) ≤ (i : Int) - 1 by omega), if_pos (show (i : Int) - 1 < (l.length : Int) by omega), wr32 (show -2147483648 ≤ t.f0 - 1 by omega) (show t.f0 - 1 ≤ 2147483647 by omega)]
      rcases hp with ⟨h0, _⟩ | ⟨h0, h1, h2, h3, h4⟩
      · omega
      have e : aA l ((i : Int) - 1) = l[i - 1] := by rw [show (i : Int) - 1 = ((i - 1 : Nat) : Int) by omega]; exact f8 l (i - 1) h1
      rw [e, ← h2]
      by_cases c5 : t.f0 - 1 ≤ p
      · simp only [if_pos c5]
        rw [okL_no (by omega), if_neg (by decide)]
        exact Ev.now _
      · simp only [if_neg c5]
        rw [okL_yes (by omega), hs]
        exact hnext
    · simp only [if_neg c4]
      rcases hp with ⟨h0, h1⟩ | ⟨h0, _⟩
      · rw [okL_yes (by omega), hs]
        exact hnext
      · omega
theorem check_ev (l : List S51) (hl : l.length ≤ 9223372036854775806) (hw : Wf l) : Ev (fun k => bh.f k l) (cO l) := by
  have := check_loop l hl hw l.length 0 (-2) (by omega) (.inl ⟨rfl, rfl⟩)
  rwa [List.drop_zero] at this
theorem rcheck_loop (l : List S51) (hl : l.length ≤ 9223372036854775806) (hw : Wf l) (n : Nat) : ∀ (i : Nat) (p : Int), i + n = l.length → prev l i p → Ev (fun k => aE.l0 k l i) (if okL p (l.drop i) = true then (if 2048 < l.length then 21 else 0) else 20) := by
  induction n with
  | zero =>
    intro i p hi hp
    apply Ev.succ
    rw [List.drop_eq_nil_of_le (by omega)]
    simp only [aE.l0, if_neg (show ¬ (i : Int) < (l.length : Int) by omega), okL, if_true]
    by_cases c : 2048 < l.length
    · rw [if_pos c]
      simp only [if_pos (show (l.length : Int) > 2048 by omega)]
      exact Ev.now _
    · rw [if_neg c]
      simp only [if_neg (show ¬ (l.length : Int) > 2048 by omega)]
      exact Ev.now _
  | succ n ih =>
    intro i p hi hp
    have hil : i < l.length := by omega
    have bad : Ev (fun k => aE.j1 k l i true) (20 : Int) := by
      apply Ev.succ
      simp only [aE.j1, if_true]
      exact Ev.now _
    apply Ev.succ
    rw [List.drop_eq_getElem_cons hil]
    obtain ⟨t, ht⟩ : ∃ t, l[i] = t := ⟨_, rfl⟩
    have hwt := hw t (ht ▸ List.getElem_mem hil)
    rw [ht]
    simp only [aE.l0, if_pos (show (i : Int) < (l.length : Int) by omega), if_pos (show (0 : Int) ≤ (i : Int) by omega), f8 l i hil, ht]
    by_cases c1 : t.f0 < 0
    · simp only [if_pos c1]
      rw [okL_no (by omega), if_neg (by decide)]
      exact bad
    simp only [if_neg c1]
    by_cases c3 : t.f0 > t.f1
    · simp only [if_pos c3]
      rw [okL_no (by omega), if_neg (by decide)]
      exact bad
    simp only [if_neg c3]
    by_cases c2 : t.f1 > 1114111
    · simp only [decide_eq_true c2]
      rw [okL_no (by omega), if_neg (by decide)]
      exact bad
    simp only [decide_eq_false c2]
    have hs : wrap64 ((i : Int) + 1) = ((i + 1 : Nat) : Int) := by rw [wr (by omega) (by omega)]; omega
    have hp' : prev l (i + 1) t.f1 := .inr ⟨by omega, by simpa using hil, by simp [ht], by omega, by omega⟩
    have hnext := ih (i + 1) t.f1 (by omega) hp'
    apply Ev.succ
    by_cases c4 : (i : Int) > 0
    · rcases hp with ⟨h0, _⟩ | ⟨h0, h1, h2, h3, h4⟩
      · omega
      have e : aA l ((i : Int) - 1) = l[i - 1] := by rw [show (i : Int) - 1 = ((i - 1 : Nat) : Int) by omega]; exact f8 l (i - 1) h1
      simp only [aE.j1, Bool.false_eq_true, if_false, if_pos c4, if_pos (show (i : Int) < (l.length : Int) by omega), wr (show -9223372036854775808 ≤ (i : Int) - 1 by omega) (show (i : Int) - 1 ≤ 9223372036854775807 by omega), if_pos (show (0 : Int) ≤ (i : Int) by omega), if_pos (show (0 : Int) ≤ (i : Int) - 1 by omega), if_pos (show (i : Int) - 1 < (l.length : Int) by omega), f8 l i hil, ht, e, ← h2, wr32 (show -2147483648 ≤ p + 2 by omega) (show p + 2 ≤ 2147483647 by omega)]
      by_cases c5 : t.f0 < p + 2
      · simp only [if_pos c5]
        rw [okL_no (by omega), if_neg (by decide)]
        exact Ev.now _
      · simp only [if_neg c5]
        rw [okL_yes (by omega), hs]
        exact hnext
    · simp only [aE.j1, Bool.false_eq_true, if_false, if_neg c4]
      rcases hp with ⟨h0, h1⟩ | ⟨h0, _⟩
      · rw [okL_yes (by omega), hs]
        exact hnext
      · omega
theorem rcheck_ev (l : List S51) (hl : l.length ≤ 9223372036854775806) (hw : Wf l) : Ev (fun k => aE.f k l) (cO l) := by
  have := rcheck_loop l hl hw l.length 0 (-2) (by omega) (.inl ⟨rfl, rfl⟩)
  rwa [List.drop_zero] at this
def mem (l : List S51) (r : Int) : Prop := ∃ t ∈ l, t.f0 ≤ r ∧ r ≤ t.f1
theorem d9 (r : Int) : ¬ mem [] r := by rintro ⟨t, h, _⟩; simp at h
theorem mem_cons (t : S51) (l : List S51) (r : Int) : mem (t :: l) r ↔ (t.f0 ≤ r ∧ r ≤ t.f1) ∨ mem l r := by
  constructor
  · rintro ⟨u, h, h1⟩
    rcases List.mem_cons.1 h with rfl | h
    · exact .inl h1
    · exact .inr ⟨u, h, h1⟩
  · rintro (h | ⟨u, h, h1⟩)
    · exact ⟨t, List.mem_cons_self, h⟩
    · exact ⟨u, List.mem_cons_of_mem _ h, h1⟩
theorem mem_append (l m : List S51) (r : Int) : mem (l ++ m) r ↔ mem l r ∨ mem m r := by
  induction l with
  | nil => simp [d9]
  | cons t l ih => rw [List.cons_append, mem_cons, mem_cons, ih, or_assoc]
theorem dy {p : Int} {t : S51} {l : List S51} : okL p (t :: l) = true ↔ (0 ≤ t.f0 ∧ t.f0 ≤ t.f1 ∧ t.f1 ≤ 1114111 ∧ p + 2 ≤ t.f0) ∧ okL t.f1 l = true := by
  simp only [okL, Bool.and_eq_true, decide_eq_true_eq]
theorem okL_ge : ∀ (l : List S51) (p : Int), okL p l = true → ∀ r, mem l r → p + 2 ≤ r ∧ r ≤ 1114111
  | [], p, _, r, h => absurd h (d9 r)
  | t :: l, p, h, r, hr => by
    obtain ⟨h1, h2⟩ := dy.1 h
    rcases (mem_cons t l r).1 hr with h3 | h3
    · omega
    · have := okL_ge l t.f1 h2 r h3
      omega
theorem S51_ext {a b : S51} (h0 : a.f0 = b.f0) (h1 : a.f1 = b.f1) : a = b := by
  obtain ⟨_, _⟩ := a
  obtain ⟨_, _⟩ := b
  simp only at h0 h1
  rw [h0, h1]
theorem one_row : ∀ (A B : List S51) (p q : Int), okL p A = true → okL q B = true → (∀ r, mem A r ↔ mem B r) → A = B
  | [], [], _, _, _, _, _ => rfl
  | [], b :: B, p, q, hA, hB, h => by
    obtain ⟨h1, _⟩ := dy.1 hB
    exact absurd ((h b.f0).2 ((mem_cons b B _).2 (.inl (by omega)))) (d9 _)
  | a :: A, [], p, q, hA, hB, h => by
    obtain ⟨h1, _⟩ := dy.1 hA
    exact absurd ((h a.f0).1 ((mem_cons a A _).2 (.inl (by omega)))) (d9 _)
  | a :: A, b :: B, p, q, hA, hB, h => by
    obtain ⟨a1, a2⟩ := dy.1 hA
    obtain ⟨b1, b2⟩ := dy.1 hB
    have gA := okL_ge A a.f1 a2
    have gB := okL_ge B b.f1 b2
    have e0 : a.f0 = b.f0 := by
      have h1 := (mem_cons b B _).1 ((h a.f0).1 ((mem_cons a A _).2 (.inl (by omega))))
      have h2 := (mem_cons a A _).1 ((h b.f0).2 ((mem_cons b B _).2 (.inl (by omega))))
      have h3 : b.f0 ≤ a.f0 := by
        rcases h1 with h1 | h1
        · omega
        · have := gB _ h1; omega
      have h4 : a.f0 ≤ b.f0 := by
        rcases h2 with h2 | h2
        · omega
        · have := gA _ h2; omega
      omega
    have e1 : a.f1 = b.f1 := by
      rcases Int.lt_trichotomy a.f1 b.f1 with c | c | c
      · rcases (mem_cons a A _).1 ((h (a.f1 + 1)).2 ((mem_cons b B _).2 (.inl (by omega)))) with h1 | h1
        · omega
        · have := gA _ h1; omega
      · exact c
      · rcases (mem_cons b B _).1 ((h (b.f1 + 1)).1 ((mem_cons a A _).2 (.inl (by omega)))) with h1 | h1
        · omega
        · have := gB _ h1; omega
    obtain rfl := S51_ext e0 e1
    congr 1
    refine one_row A B a.f1 a.f1 a2 b2 (fun r => ⟨fun hr => ?_, fun hr => ?_⟩)
    · have := gA _ hr
      rcases (mem_cons a B _).1 ((h r).1 ((mem_cons a A _).2 (.inr hr))) with h1 | h1
      · omega
      · exact h1
    · have := gB _ hr
      rcases (mem_cons a A _).1 ((h r).2 ((mem_cons a B _).2 (.inr hr))) with h1 | h1
      · omega
      · exact h1
def merge (c : S51) : List S51 → List S51
  | [] => [c]
  | t :: l => if t.f0 ≤ c.f1 + 1 then merge ⟨c.f0, max c.f1 t.f1⟩ l else c :: merge t l
def good (t : S51) : Prop := 0 ≤ t.f0 ∧ t.f0 ≤ t.f1 ∧ t.f1 ≤ 1114111
theorem merge_ok : ∀ (l : List S51) (c : S51) (p : Int), good c → (∀ t ∈ l, good t ∧ c.f0 ≤ t.f0) → l.Pairwise (fun x y => x.f0 ≤ y.f0) → p + 2 ≤ c.f0 → okL p (merge c l) = true ∧ ∀ r, mem (merge c l) r ↔ mem (c :: l) r
  | [], c, p, hc, _, _, hp => by
    unfold merge
    exact ⟨dy.2 ⟨by unfold good at hc; omega, rfl⟩, fun r => Iff.rfl⟩
  | t :: l, c, p, hc, hl, hs, hp => by
    have ht := hl t List.mem_cons_self
    obtain ⟨s1, s2⟩ := List.pairwise_cons.1 hs
    have hl' : ∀ u ∈ l, good u ∧ t.f0 ≤ u.f0 := fun u hu => ⟨(hl u (List.mem_cons_of_mem _ hu)).1, s1 u hu⟩
    have hgt := ht.1
    unfold good at hc hgt
    unfold merge
    by_cases c1 : t.f0 ≤ c.f1 + 1
    · rw [if_pos c1]
      obtain ⟨h1, h2⟩ := merge_ok l ⟨c.f0, max c.f1 t.f1⟩ p (by unfold good; dsimp only; omega) (fun u hu => ⟨(hl' u hu).1, by have := (hl' u hu).2; dsimp only; omega⟩) s2 hp
      refine ⟨h1, fun r => ?_⟩
      rw [h2, mem_cons, mem_cons, mem_cons, ← or_assoc]
      refine or_congr ?_ Iff.rfl
      dsimp only
      omega
    · rw [if_neg c1]
      obtain ⟨h1, h2⟩ := merge_ok l t c.f1 ht.1 hl' s2 (by omega)
      refine ⟨dy.2 ⟨by omega, h1⟩, fun r => ?_⟩
      rw [mem_cons, h2, mem_cons c]
theorem sort_perm (l : List S51) : (bV l).Perm l := by
  have h := (Go.Sort.pdq_sorts (ltOf bV.cf) bV.swo l.toArray 0 l.toArray.size (Lib.bitLen l.toArray.size) true true (Nat.zero_le _) (Nat.le_refl _) (.inl rfl)).1
  have h3 := h.2.2
  obtain ⟨d, hd⟩ : ∃ d, Go.Sort.pdq (ltOf bV.cf) l.toArray 0 l.toArray.size (Lib.bitLen l.toArray.size) true true = d := ⟨_, rfl⟩
  unfold bV
  rw [hd] at h3 h ⊢
  have e1 : d.extract 0 l.toArray.size = d := by rw [← h.1]; exact Array.extract_size
  have e2 : l.toArray.extract 0 l.toArray.size = l.toArray := Array.extract_size
  rw [e1, e2] at h3
  exact h3
theorem sort_sorted (l : List S51) : (bV l).Pairwise (fun x y => x.f0 ≤ y.f0) := by
  have h := (Go.Sort.pdq_sorts (ltOf bV.cf) bV.swo l.toArray 0 l.toArray.size (Lib.bitLen l.toArray.size) true true (Nat.zero_le _) (Nat.le_refl _) (.inl rfl))
  obtain ⟨d, hd⟩ : ∃ d, Go.Sort.pdq (ltOf bV.cf) l.toArray 0 l.toArray.size (Lib.bitLen l.toArray.size) true true = d := ⟨_, rfl⟩
  unfold bV
  rw [hd] at h ⊢
  rw [List.pairwise_iff_getElem]
  intro i j hi hj hij
  have hs : d.size = l.toArray.size := h.1.1
  have hi' : i < d.size := by simpa using hi
  have hj' : j < d.size := by simpa using hj
  have := h.2 i j (Nat.zero_le _) hij (by omega)
  rw [bV.lt, getElem!_pos d j hj', getElem!_pos d i hi'] at this
  have := of_decide_eq_false this
  simp only [Array.getElem_toList]
  omega
theorem mem_perm {l m : List S51} (h : l.Perm m) (r : Int) : mem l r ↔ mem m r := by
  unfold mem
  constructor
  · rintro ⟨t, ht, x⟩; exact ⟨t, h.mem_iff.1 ht, x⟩
  · rintro ⟨t, ht, x⟩; exact ⟨t, h.mem_iff.2 ht, x⟩
def setOf (l : List S51) : List S51 := match bV l with | [] => [] | c :: s => merge c s
theorem setOf_ok (l : List S51) (hl : ∀ t ∈ l, good t) : okL (-2) (setOf l) = true ∧ ∀ r, mem (setOf l) r ↔ mem l r := by
  have hp := sort_perm l
  have hs := sort_sorted l
  unfold setOf
  cases hc : bV l with
  | nil =>
    rw [hc] at hp
    obtain rfl := hp.nil_eq
    exact ⟨rfl, fun r => Iff.rfl⟩
  | cons c s =>
    rw [hc] at hp hs
    obtain ⟨s1, s2⟩ := List.pairwise_cons.1 hs
    have hg : ∀ t ∈ c :: s, good t := fun t ht => hl t (hp.mem_iff.1 ht)
    have hgc := hg c List.mem_cons_self
    obtain ⟨h1, h2⟩ := merge_ok s c (-2) hgc (fun t ht => ⟨hg t (List.mem_cons_of_mem _ ht), s1 t ht⟩) s2 (by unfold good at hgc; omega)
    exact ⟨h1, fun r => (h2 r).trans (mem_perm hp r)⟩
theorem rd_last (y : List S51) (c : S51) : aA (y ++ [c]) (y.length : Int) = c := by
  rw [f8 _ _ (by simp)]
  simp
theorem set_last (y : List S51) (c d : S51) : (y ++ [c]).set ((y.length : Int)).toNat d = y ++ [d] := by
  rw [Int.toNat_natCast]
  simp
theorem mx_max (a b : Int) : mx a b = max a b := by unfold mx; split <;> omega
theorem merged_loop (t : List S51) (ht : ∀ u ∈ t, good u) (hl : t.length < 17592186044416) (n : Nat) : ∀ (i : Nat) (y : List S51) (c : S51), i + n = t.length → y.length + 1 ≤ i → good c → Ev (fun k => aJ.l0 k (y ++ [c]) t (t.length : Int) i) (y ++ merge c (t.drop i)) := by
  induction n with
  | zero =>
    intro i y c hi hy hc
    apply Ev.succ
    rw [List.drop_eq_nil_of_le (by omega)]
    simp only [aJ.l0, if_neg (show ¬ (i : Int) < (t.length : Int) by omega), merge]
    exact Ev.now _
  | succ n ih =>
    intro i y c hi hy hc
    have hil : i < t.length := by omega
    have hg : good t[i] := ht _ (List.getElem_mem hil)
    apply Ev.succ
    rw [List.drop_eq_getElem_cons hil]
    have hs : wrap64 ((i : Int) + 1) = ((i + 1 : Nat) : Int) := by rw [wr (by omega) (by omega)]; omega
    have hlen : ((y ++ [c]).length : Int) = (y.length : Int) + 1 := by simp
    have hw : wrap64 ((y.length : Int) + 1 - 1) = (y.length : Int) := by rw [wr (by omega) (by omega)]; omega
    unfold good at hc hg
    have hw2 : wrap32 (c.f1 + 1) = c.f1 + 1 := wr32 (by omega) (by omega)
    simp only [aJ.l0, if_pos (show (i : Int) < (t.length : Int) by omega), if_pos (show (0 : Int) ≤ (i : Int) by omega), f8 t i hil, hlen, hw, rd_last, hw2, set_last,
      if_pos (show (y.length : Int) + 1 > 0 by omega), if_pos (show (0 : Int) ≤ (y.length : Int) by omega), if_pos (show (y.length : Int) < (y.length : Int) + 1 by omega), mx_max]
    unfold merge
    by_cases c1 : (t[i]).f0 ≤ c.f1 + 1
    · simp only [if_pos c1]
      rw [hs]
      exact ih (i + 1) y _ (by omega) (by omega) (by unfold good; dsimp only; omega)
    · simp only [if_neg c1, if_pos (show (y ++ [c]).length < 17592186044416 by simp; omega)]
      rw [hs]
      have := ih (i + 1) (y ++ [c]) t[i] (by omega) (by simp; omega) hg
      rw [show y ++ c :: merge t[i] (t.drop (i + 1)) = y ++ [c] ++ merge t[i] (t.drop (i + 1)) by simp]
      exact this
theorem clone_at (l : List S51) (hl : l.length < 17592186044416) : cY.f l = some l := by
  unfold cY.f
  simp [hl]
theorem merged_ev (l : List S51) (hg : ∀ t ∈ l, good t) (hl : l.length < 17592186044416) : Ev (fun k => aJ.f k l) (setOf l) := by
  have hp := sort_perm l
  have hlen := hp.length_eq
  unfold aJ.f setOf
  rw [clone_at l hl]
  refine Ev.bind (Ev.const rfl) ?_
  cases hc : bV l with
  | nil =>
    apply Ev.succ
    simp only [aJ.l0, if_neg (show ¬ (0 : Int) < (([] : List S51).length : Int) by simp)]
    exact Ev.now _
  | cons c s =>
    rw [hc] at hp hlen
    have hg' : ∀ t ∈ c :: s, good t := fun t ht => hg t (hp.mem_iff.1 ht)
    apply Ev.succ
    have h0 : aA (c :: s) 0 = c := rfl
    have h1 := merged_loop (c :: s) hg' (by omega) s.length 1 [] c (by simp; omega) (by simp) (hg' c List.mem_cons_self)
    have hw : wrap64 ((0 : Int) + 1) = ((1 : Nat) : Int) := by rw [wr (by omega) (by omega)]; rfl
    simp only [aJ.l0, hw, if_pos (show (0 : Int) < ((c :: s).length : Int) by simp), if_pos (show (0 : Int) ≤ 0 by omega), if_neg (show ¬ ((([] : List S51).length : Int) > 0) by simp), if_pos (show ([] : List S51).length < 17592186044416 by simp), h0]
    exact h1
def madeR (R : List S51) : List S51 × Int := if 2048 < R.length then ([], 21) else (R, 0)
theorem made_ev (l : List S51) (hg : ∀ t ∈ l, good t) (hl : l.length < 17592186044416) : Ev (fun k => bW.f k l) (madeR (setOf l)) := by
  unfold bW.f madeR
  refine Ev.bind (merged_ev l hg hl) ?_
  by_cases c : 2048 < (setOf l).length
  · simp only [if_pos c, if_pos (show ((setOf l).length : Int) > 2048 by omega)]; exact Ev.now _
  · simp only [if_neg c, if_neg (show ¬ ((setOf l).length : Int) > 2048 by omega)]; exact Ev.now _
instance (t : S51) : Decidable (good t) := by unfold good; infer_instance
theorem rdi_at (l : List Int) (i : Nat) (h : i < l.length) : rd l (i : Int) = l[i] := by
  unfold rd
  rw [List.getD_eq_getElem?_getD, Int.toNat_natCast, List.getElem?_eq_getElem h]
  rfl
theorem rdl_at (l : List (List S51)) (i : Nat) (h : i < l.length) : cP l (i : Int) = l[i] := by
  unfold cP
  rw [List.getD_eq_getElem?_getD, Int.toNat_natCast, List.getElem?_eq_getElem h]
  rfl
def ins (r : Int) : List Int → List Int
  | [] => [r]
  | a :: l => if a < r then a :: ins r l else if a = r then a :: l else r :: a :: l
theorem fA (r x : Int) : ∀ l, x ∈ ins r l ↔ x = r ∨ x ∈ l
  | [] => by simp [ins]
  | a :: l => by
    unfold ins
    by_cases c1 : a < r
    · rw [if_pos c1, List.mem_cons, fA r x l, List.mem_cons]
      constructor
      · rintro (h | h | h)
        · exact .inr (.inl h)
        · exact .inl h
        · exact .inr (.inr h)
      · rintro (h | h | h)
        · exact .inr (.inl h)
        · exact .inl h
        · exact .inr (.inr h)
    · rw [if_neg c1]
      by_cases c2 : a = r
      · rw [if_pos c2, List.mem_cons]
        subst c2
        constructor
        · exact fun h => .inr h
        · rintro (h | h)
          · exact .inl h
          · exact h
      · rw [if_neg c2, List.mem_cons]
theorem ins_rising (r : Int) : ∀ l : List Int, l.Pairwise (· < ·) → (ins r l).Pairwise (· < ·)
  | [], _ => by simp [ins]
  | a :: l, h => by
    obtain ⟨h1, h2⟩ := List.pairwise_cons.1 h
    unfold ins
    by_cases c1 : a < r
    · rw [if_pos c1]
      refine List.pairwise_cons.2 ⟨fun x hx => ?_, ins_rising r l h2⟩
      rcases (fA r x l).1 hx with rfl | hx
      · exact c1
      · exact h1 x hx
    · rw [if_neg c1]
      by_cases c2 : a = r
      · rw [if_pos c2]; exact h
      · rw [if_neg c2]
        refine List.pairwise_cons.2 ⟨fun x hx => ?_, h⟩
        rcases List.mem_cons.1 hx with rfl | hx
        · omega
        · have := h1 x hx; omega
theorem rising_len : ∀ (l : List Int) (a : Int), a ≤ 1114112 → l.Pairwise (· < ·) → (∀ x ∈ l, a ≤ x ∧ x ≤ 1114111) → (l.length : Int) ≤ 1114112 - a
  | [], a, h, _, _ => by simp; omega
  | x :: l, a, h, hp, hx => by
    obtain ⟨h1, h2⟩ := List.pairwise_cons.1 hp
    have h3 := hx x List.mem_cons_self
    have := rising_len l (x + 1) (by omega) h2 (fun y hy => ⟨by have := h1 y hy; omega, (hx y (List.mem_cons_of_mem _ hy)).2⟩)
    rw [List.length_cons]
    omega
def Cut (C : List Int) : Prop := C.Pairwise (· < ·) ∧ ∀ x ∈ C, 0 ≤ x ∧ x ≤ 1114111
theorem Cut.len {C : List Int} (h : Cut C) : C.length ≤ 1114112 := by
  have := rising_len C 0 (by omega) h.1 h.2
  omega
theorem Cut.ins {C : List Int} (h : Cut C) {r : Int} (h0 : 0 ≤ r) (h1 : r ≤ 1114111) : Cut (ins r C) :=
  ⟨ins_rising r C h.1, fun x hx => by
    rcases (fA r x C).1 hx with rfl | hx
    · exact ⟨h0, h1⟩
    · exact h.2 x hx⟩
theorem with_loop (C : List Int) (hC : C.length ≤ 1114112) (r : Int) (n : Nat) : ∀ i : Nat, i + n = C.length → Ev (fun k => bw.l0 k C r i) (C.take i ++ ins r (C.drop i)) := by
  induction n with
  | zero =>
    intro i hi
    apply Ev.succ
    rw [List.drop_eq_nil_of_le (by omega), List.take_of_length_le (by omega)]
    simp only [bw.l0, if_neg (show ¬ (i : Int) < (C.length : Int) by omega), Option.bind_some, if_pos (show (0 : Int) ≤ (i : Int) by omega), if_pos (show (i : Int) ≤ (C.length : Int) by omega), Int.toNat_natCast,
      List.drop_eq_nil_of_le (show C.length ≤ i by omega), List.take_of_length_le (show C.length ≤ i by omega), List.nil_append, List.append_nil, ins,
      if_pos (show C.length < 35184372088832 by omega), if_pos (show ([] : List Int).length + C.length < 35184372088832 by simp; omega), if_pos (show (C ++ [r]).length + ([] : List Int).length < 35184372088832 by simp; omega)]
    exact Ev.now _
  | succ n ih =>
    intro i hi
    have hil : i < C.length := by omega
    apply Ev.succ
    have hs : wrap64 ((i : Int) + 1) = ((i + 1 : Nat) : Int) := by rw [wr (by omega) (by omega)]; omega
    simp only [bw.l0, if_pos (show (i : Int) < (C.length : Int) by omega), if_pos (show (0 : Int) ≤ (i : Int) by omega), rdi_at C i hil, Int.toNat_natCast]
    by_cases c1 : C[i] < r
    · simp only [if_pos c1]
      rw [hs]
      have := ih (i + 1) (by omega)
      rw [List.take_succ_eq_append_getElem hil, List.append_assoc] at this
      rw [List.drop_eq_getElem_cons hil, ins, if_pos c1]
      exact this
    · simp only [if_neg c1]
      by_cases c2 : C[i] = r
      · simp only [if_pos c2]
        rw [List.drop_eq_getElem_cons hil, ins, if_neg c1, if_pos c2, ← List.drop_eq_getElem_cons hil, List.take_append_drop]
        exact Ev.now _
      · have hd : (C.drop i).length = C.length - i := List.length_drop
        have ht : (C.take i).length = i := by rw [List.length_take]; omega
        simp only [if_neg c2, Option.bind_some, if_pos (show (i : Int) ≤ (C.length : Int) by omega), List.nil_append,
          if_pos (show ([] : List Int).length + (C.take i).length < 35184372088832 by rw [ht]; simp; omega), if_pos (show (C.take i).length < 35184372088832 by omega), if_pos (show (C.take i ++ [r]).length + (C.drop i).length < 35184372088832 by rw [List.length_append, ht, hd]; simp; omega)]
        rw [show C.take i ++ ins r (C.drop i) = C.take i ++ [r] ++ C.drop i by
          rw [List.append_assoc, List.singleton_append]
          congr 1
          rw [List.drop_eq_getElem_cons hil, ins, if_neg c1, if_neg c2]]
        exact Ev.now _
theorem with_ev (C : List Int) (hC : C.length ≤ 1114112) (r : Int) : Ev (fun k => bw.f k C r) (ins r C) := by
  have := with_loop C hC r C.length 0 (by omega)
  rw [List.take_zero, List.drop_zero, List.nil_append] at this
  exact this
def addT (C : List Int) (t : S51) : List Int := if t.f1 < 1114111 then ins (t.f1 + 1) (ins t.f0 C) else ins t.f0 C
theorem Cut.addT {C : List Int} (h : Cut C) {t : S51} (ht : good t) : Cut (addT C t) := by
  unfold good at ht
  unfold Pure.addT
  split
  · exact (h.ins (by omega) (by omega)).ins (by omega) (by omega)
  · exact h.ins (by omega) (by omega)
theorem addT_sub {C : List Int} {t : S51} {x : Int} (h : x ∈ C) : x ∈ addT C t := by
  unfold addT
  split
  · exact (fA _ _ _).2 (.inr ((fA _ _ _).2 (.inr h)))
  · exact (fA _ _ _).2 (.inr h)
theorem addT_lo (C : List Int) (t : S51) : t.f0 ∈ addT C t := by
  unfold addT
  split
  · exact (fA _ _ _).2 (.inr ((fA _ _ _).2 (.inl rfl)))
  · exact (fA _ _ _).2 (.inl rfl)
theorem addT_hi (C : List Int) (t : S51) (h : t.f1 < 1114111) : t.f1 + 1 ∈ addT C t := by
  unfold addT
  rw [if_pos h]
  exact (fA _ _ _).2 (.inl rfl)
def addR (C : List Int) (s : List S51) : List Int := s.foldl addT C
theorem Cut.addR {C : List Int} (h : Cut C) : ∀ {s : List S51}, (∀ t ∈ s, good t) → Cut (addR C s) := by
  intro s
  unfold Pure.addR
  induction s generalizing C with
  | nil => exact fun _ => h
  | cons t s ih => exact fun hs => ih (h.addT (hs t List.mem_cons_self)) (fun u hu => hs u (List.mem_cons_of_mem _ hu))
theorem addR_sub {x : Int} (s : List S51) : ∀ {C : List Int}, x ∈ C → x ∈ addR C s := by
  unfold addR
  induction s with
  | nil => exact fun h => h
  | cons t s ih => exact fun h => ih (addT_sub h)
theorem addR_has (s : List S51) : ∀ (C : List Int) (t : S51), t ∈ s → t.f0 ∈ addR C s ∧ (t.f1 < 1114111 → t.f1 + 1 ∈ addR C s) := by
  induction s with
  | nil => intro C t h; simp at h
  | cons u s ih =>
    intro C t h
    rcases List.mem_cons.1 h with rfl | h
    · exact ⟨addR_sub s (addT_lo C t), fun hh => addR_sub s (addT_hi C t hh)⟩
    · exact ih (addT C u) t h
def addL (C : List Int) (l : List (List S51)) : List Int := l.foldl addR C
theorem Cut.addL {C : List Int} (h : Cut C) : ∀ {l : List (List S51)}, (∀ s ∈ l, ∀ t ∈ s, good t) → Cut (addL C l) := by
  intro l
  unfold Pure.addL
  induction l generalizing C with
  | nil => exact fun _ => h
  | cons s l ih => exact fun hs => ih (h.addR (hs s List.mem_cons_self)) (fun u hu => hs u (List.mem_cons_of_mem _ hu))
theorem addL_sub {x : Int} (l : List (List S51)) : ∀ {C : List Int}, x ∈ C → x ∈ addL C l := by
  unfold addL
  induction l with
  | nil => exact fun h => h
  | cons t s ih => exact fun h => ih (addR_sub _ h)
theorem addL_has (l : List (List S51)) : ∀ (C : List Int), ∀ s ∈ l, ∀ t ∈ s, t.f0 ∈ addL C l ∧ (t.f1 < 1114111 → t.f1 + 1 ∈ addL C l) := by
  induction l with
  | nil => intro C t h; simp at h
  | cons u l ih =>
    intro C s h t ht
    rcases List.mem_cons.1 h with rfl | h
    · have := addR_has s C t ht
      exact ⟨addL_sub l this.1, fun hh => addL_sub l (this.2 hh)⟩
    · exact ih (addR C u) s h t ht
theorem starts_row (l : List (List S51)) (i : Nat) (hil : i < l.length) (hl : l.length ≤ 9223372036854775806) (hr : (l[i]).length ≤ 9223372036854775806) (hg : ∀ t ∈ l[i], good t) (R : List Int) (n : Nat) : ∀ (j : Nat) (C : List Int), Cut C → j + n = (l[i]).length → Ev (fun k => aN.l0 k l (addR C ((l[i]).drop j)) ((i + 1 : Nat) : Int)) R → Ev (fun k => aN.l1 k l C i j) R := by
  have hs : wrap64 ((i : Int) + 1) = ((i + 1 : Nat) : Int) := by rw [wr (by omega) (by omega)]; omega
  induction n with
  | zero =>
    intro j C hC hj h
    rw [List.drop_eq_nil_of_le (by omega)] at h
    apply Ev.succ
    simp only [aN.l1, if_pos (show (0 : Int) ≤ (i : Int) by omega), if_pos (show (i : Int) < (l.length : Int) by omega), rdl_at l i hil, if_neg (show ¬ (j : Int) < ((l[i]).length : Int) by omega)]
    rw [hs]
    exact h
  | succ n ih =>
    intro j C hC hj h
    have hjl : j < (l[i]).length := by omega
    have hgj := hg _ (List.getElem_mem hjl)
    have hsj : wrap64 ((j : Int) + 1) = ((j + 1 : Nat) : Int) := by rw [wr (by omega) (by omega)]; omega
    rw [List.drop_eq_getElem_cons hjl] at h
    apply Ev.succ
    simp only [aN.l1, if_pos (show (0 : Int) ≤ (i : Int) by omega), if_pos (show (i : Int) < (l.length : Int) by omega), rdl_at l i hil, if_pos (show (j : Int) < ((l[i]).length : Int) by omega), if_pos (show (0 : Int) ≤ (j : Int) by omega), f8 _ j hjl]
    refine Ev.bind (with_ev C hC.len _) ?_
    have hCA := hC.addT hgj
    have h2 := ih (j + 1) (addT C (l[i])[j]) hCA (by omega) h
    unfold good at hgj
    unfold addT at h2
    by_cases c : ((l[i])[j]).f1 < 1114111
    · simp only [if_pos c] at h2 ⊢
      rw [wr32 (by omega) (by omega), hsj]
      exact Ev.bind (with_ev _ (hC.ins (by omega) (by omega)).len _) h2
    · simp only [if_neg c] at h2 ⊢
      rw [hsj]
      exact h2
theorem starts_loop (l : List (List S51)) (hl : l.length ≤ 9223372036854775806) (hr : ∀ s ∈ l, s.length ≤ 9223372036854775806) (hg : ∀ s ∈ l, ∀ t ∈ s, good t) (n : Nat) : ∀ (i : Nat) (C : List Int), Cut C → i + n = l.length → Ev (fun k => aN.l0 k l C i) (addL C (l.drop i)) := by
  induction n with
  | zero =>
    intro i C hC hi
    rw [List.drop_eq_nil_of_le (by omega)]
    apply Ev.succ
    simp only [aN.l0, if_neg (show ¬ (i : Int) < (l.length : Int) by omega)]
    exact Ev.now _
  | succ n ih =>
    intro i C hC hi
    have hil : i < l.length := by omega
    rw [List.drop_eq_getElem_cons hil]
    apply Ev.succ
    simp only [aN.l0, if_pos (show (i : Int) < (l.length : Int) by omega)]
    have hgi := hg _ (List.getElem_mem hil)
    have := starts_row l i hil hl (hr _ (List.getElem_mem hil)) hgi (addL (addR C l[i]) (l.drop (i + 1))) (l[i]).length 0 C hC (by omega) (ih (i + 1) _ (hC.addR hgi) (by omega))
    exact this
def dN (l : List (List S51)) : List Int := addL [0] l
theorem starts_ev (l : List (List S51)) (hl : l.length ≤ 9223372036854775806) (hr : ∀ s ∈ l, s.length ≤ 9223372036854775806) (hg : ∀ s ∈ l, ∀ t ∈ s, good t) : Ev (fun k => aN.f k l) (dN l) := by
  have := starts_loop l hl hr hg l.length 0 [0] ⟨by simp, by simp⟩ (by omega)
  rw [List.drop_zero] at this
  exact this
theorem starts_cut (l : List (List S51)) (hg : ∀ s ∈ l, ∀ t ∈ s, good t) : Cut (dN l) := Cut.addL ⟨by simp, by simp⟩ hg
theorem starts_zero (l : List (List S51)) : 0 ∈ dN l := addL_sub l (by simp)
def hasB : List S51 → Int → Bool
  | [], _ => false
  | t :: s, r => (decide (t.f0 ≤ r) && decide (r ≤ t.f1)) || hasB s r
theorem hasB_mem (r : Int) : ∀ s, hasB s r = true ↔ mem s r
  | [] => by simp [hasB, d9]
  | t :: s => by simp only [hasB, Bool.or_eq_true, Bool.and_eq_true, decide_eq_true_eq, mem_cons, hasB_mem r s]
theorem rhas_loop (l : List S51) (hl : l.length ≤ 9223372036854775806) (r : Int) (n : Nat) : ∀ (i : Nat), i + n = l.length → Ev (fun k => bj.l0 k l r i) (hasB (l.drop i) r) := by
  induction n with
  | zero =>
    intro i hi
    apply Ev.succ
    rw [List.drop_eq_nil_of_le (by omega)]
    simp only [bj.l0, if_neg (show ¬ (i : Int) < (l.length : Int) by omega), hasB]
    exact Ev.now _
  | succ n ih =>
    intro i hi
    have hil : i < l.length := by omega
    apply Ev.succ
    rw [List.drop_eq_getElem_cons hil]
    have hs : wrap64 ((i : Int) + 1) = ((i + 1 : Nat) : Int) := by rw [wr (by omega) (by omega)]; omega
    simp only [bj.l0, if_pos (show (i : Int) < (l.length : Int) by omega), if_pos (show (0 : Int) ≤ (i : Int) by omega), f8 l i hil, hasB]
    rw [hs]
    by_cases c1 : (l[i]).f0 ≤ r
    · by_cases c2 : r ≤ (l[i]).f1
      · simp only [if_pos c1, if_pos c2, decide_eq_true c1, decide_eq_true c2, Bool.and_true, Bool.true_or]; exact Ev.now _
      · simp only [if_pos c1, if_neg c2, decide_eq_true c1, decide_eq_false c2, Bool.and_false, Bool.false_or]; exact ih (i + 1) (by omega)
    · simp only [if_neg c1, decide_eq_false c1, Bool.false_and, Bool.false_or]; exact ih (i + 1) (by omega)
theorem rhas_ev (l : List S51) (hl : l.length ≤ 9223372036854775806) (r : Int) : Ev (fun k => bj.f k l r) (hasB l r) := by
  have := rhas_loop l hl r l.length 0 (by omega)
  rw [List.drop_zero] at this
  exact this
def cnt : List (List S51) → Int → Nat
  | [], _ => 0
  | s :: l, r => (if hasB s r = true then 1 else 0) + cnt l r
theorem cnt_le (r : Int) : ∀ l, cnt l r ≤ l.length
  | [] => by simp [cnt]
  | s :: l => by have := cnt_le r l; unfold cnt; rw [List.length_cons]; split <;> omega
def fin (l : List (List S51)) (r what n : Int) : Bool := if what = 0 then decide (n > 0) else if what = 1 then n == (l.length : Int) else if what = 2 then (hasB (l.getD 0 []) r && !hasB (l.getD 1 []) r) else n == 0
def dL (l : List (List S51)) (what r : Int) : Bool := fin l r what (cnt l r)
theorem holds_loop (l : List (List S51)) (hl : l.length ≤ 9223372036854775806) (hr : ∀ s ∈ l, s.length ≤ 9223372036854775806) (r what : Int) (h2 : what = 2 → 2 ≤ l.length) (n : Nat) : ∀ (i m : Nat), i + n = l.length → m ≤ i → Ev (fun k => bp.l0 k l r what m i) (fin l r what ((m + cnt (l.drop i) r : Nat) : Int)) := by
  induction n with
  | zero =>
    intro i m hi hm
    apply Ev.succ
    rw [List.drop_eq_nil_of_le (by omega)]
    simp only [bp.l0, if_neg (show ¬ (i : Int) < (l.length : Int) by omega), cnt, Nat.add_zero, fin]
    by_cases c0 : what = 0
    · simp only [if_pos c0]; exact Ev.now _
    simp only [if_neg c0]
    by_cases c1 : what = 1
    · simp only [if_pos c1]; exact Ev.now _
    simp only [if_neg c1]
    by_cases c2 : what = 2
    · have hl2 := h2 c2
      have e0 : l.getD 0 [] = l[0] := by rw [List.getD_eq_getElem?_getD, List.getElem?_eq_getElem (by omega)]; rfl
      have e1 : l.getD 1 [] = l[1] := by rw [List.getD_eq_getElem?_getD, List.getElem?_eq_getElem (by omega)]; rfl
      have r0 : cP l 0 = l[0] := rdl_at l 0 (by omega)
      have r1 : cP l 1 = l[1] := rdl_at l 1 (by omega)
      simp only [if_pos c2, e0, e1, r0, r1, if_pos (show (0 : Int) < (l.length : Int) by omega), if_pos (show (1 : Int) < (l.length : Int) by omega)]
      refine Ev.bind (rhas_ev _ (hr _ (List.getElem_mem (by omega))) r) ?_
      cases c : hasB l[0] r with
      | false => simp only [Bool.false_and, if_neg (show ¬ (false = true) by decide)]; exact Ev.now _
      | true =>
        simp only [if_true, Bool.true_and]
        exact Ev.bind (rhas_ev _ (hr _ (List.getElem_mem (by omega))) r) (Ev.now _)
    · simp only [if_neg c2]; exact Ev.now _
  | succ n ih =>
    intro i m hi hm
    have hil : i < l.length := by omega
    apply Ev.succ
    rw [List.drop_eq_getElem_cons hil]
    have hs : wrap64 ((i : Int) + 1) = ((i + 1 : Nat) : Int) := by rw [wr (by omega) (by omega)]; omega
    have hsm : wrap64 ((m : Int) + 1) = ((m + 1 : Nat) : Int) := by rw [wr (by omega) (by omega)]; omega
    simp only [bp.l0, if_pos (show (i : Int) < (l.length : Int) by omega), if_pos (show (0 : Int) ≤ (i : Int) by omega), rdl_at l i hil, cnt]
    rw [hs, hsm]
    refine Ev.bind (rhas_ev _ (hr _ (List.getElem_mem hil)) r) ?_
    cases c : hasB l[i] r with
    | true =>
      simp only [if_true]
      have := ih (i + 1) (m + 1) (by omega) (by omega)
      rw [Nat.add_assoc] at this
      exact this
    | false =>
      simp only [if_neg (show ¬ (false = true) by decide), Nat.zero_add]
      exact ih (i + 1) m (by omega) (by omega)
theorem holds_ev (l : List (List S51)) (hl : l.length ≤ 9223372036854775806) (hr : ∀ s ∈ l, s.length ≤ 9223372036854775806) (r what : Int) (h2 : what = 2 → 2 ≤ l.length) : Ev (fun k => bp.f k l r what) (dL l what r) := by
  have := holds_loop l hl hr r what h2 l.length 0 0 (by omega) (by omega)
  rw [List.drop_zero, Nat.zero_add] at this
  exact this
theorem same_row (C : List Int) (a r : Int) (har : a ≤ r) (hr : r ≤ 1114111) (hno : ∀ x ∈ C, ¬ (a < x ∧ x ≤ r)) : ∀ s : List S51, (∀ t ∈ s, t.f0 ∈ C ∧ (t.f1 < 1114111 → t.f1 + 1 ∈ C)) → hasB s r = hasB s a
  | [], _ => rfl
  | t :: s, h => by
    have ih := same_row C a r har hr hno s (fun u hu => h u (List.mem_cons_of_mem _ hu))
    obtain ⟨h1, h2⟩ := h t List.mem_cons_self
    have n1 := hno _ h1
    have e1 : decide (t.f0 ≤ r) = decide (t.f0 ≤ a) := decide_eq_decide.2 (by omega)
    have e2 : decide (r ≤ t.f1) = decide (a ≤ t.f1) := decide_eq_decide.2 (by
      by_cases c : t.f1 < 1114111
      · have n2 := hno _ (h2 c); omega
      · omega)
    simp only [hasB, ih, e1, e2]
theorem same_cnt (C : List Int) (a r : Int) (har : a ≤ r) (hr : r ≤ 1114111) (hno : ∀ x ∈ C, ¬ (a < x ∧ x ≤ r)) : ∀ l : List (List S51), (∀ s ∈ l, ∀ t ∈ s, t.f0 ∈ C ∧ (t.f1 < 1114111 → t.f1 + 1 ∈ C)) → cnt l r = cnt l a
  | [], _ => rfl
  | s :: l, h => by
    simp only [cnt, same_row C a r har hr hno s (h s List.mem_cons_self), same_cnt C a r har hr hno l (fun u hu => h u (List.mem_cons_of_mem _ hu))]
theorem same_holds (l : List (List S51)) (what a r : Int) (har : a ≤ r) (hr : r ≤ 1114111) (hno : ∀ x ∈ dN l, ¬ (a < x ∧ x ≤ r)) (h2 : what = 2 → 2 ≤ l.length) : dL l what r = dL l what a := by
  have hh := addL_has l [0]
  have hc := same_cnt (dN l) a r har hr hno l hh
  unfold dL fin
  rw [hc]
  by_cases c2 : what = 2
  · have hl2 := h2 c2
    have e0 : l.getD 0 [] = l[0] := by rw [List.getD_eq_getElem?_getD, List.getElem?_eq_getElem (by omega)]; rfl
    have e1 : l.getD 1 [] = l[1] := by rw [List.getD_eq_getElem?_getD, List.getElem?_eq_getElem (by omega)]; rfl
    rw [e0, e1, same_row (dN l) a r har hr hno l[0] (hh _ (List.getElem_mem (by omega))), same_row (dN l) a r har hr hno l[1] (hh _ (List.getElem_mem (by omega)))]
  · simp only [if_neg c2]
theorem okL_snoc : ∀ (l : List S51) (p : Int) (c : S51), okL p l = true → good c → p + 2 ≤ c.f0 → (∀ t ∈ l, t.f1 + 2 ≤ c.f0) → okL p (l ++ [c]) = true
  | [], p, c, _, hc, hp, _ => dy.2 ⟨by unfold good at hc; omega, rfl⟩
  | t :: l, p, c, h, hc, hp, hl => by
    obtain ⟨h1, h2⟩ := dy.1 h
    exact dy.2 ⟨h1, okL_snoc l t.f1 c h2 hc (hl t List.mem_cons_self) (fun u hu => hl u (List.mem_cons_of_mem _ hu))⟩
theorem okL_front : ∀ (l : List S51) (p : Int) (c : S51), okL p (l ++ [c]) = true → okL p l = true ∧ good c ∧ p + 2 ≤ c.f0 ∧ ∀ t ∈ l, t.f1 + 2 ≤ c.f0
  | [], p, c, h => by
    obtain ⟨h1, h2⟩ := dy.1 h
    exact ⟨rfl, by unfold good; omega, by omega, by simp⟩
  | t :: l, p, c, h => by
    obtain ⟨h1, h2⟩ := dy.1 h
    obtain ⟨a, b, d, e⟩ := okL_front l t.f1 c h2
    refine ⟨dy.2 ⟨h1, a⟩, b, by omega, fun u hu => ?_⟩
    rcases List.mem_cons.1 hu with rfl | hu
    · exact d
    · exact e u hu
theorem okL_len : ∀ (l : List S51) (p : Int), p ≤ 1114111 → okL p l = true → (l.length : Int) + p ≤ 1114111
  | [], p, hp, _ => by simp; omega
  | t :: l, p, hp, h => by
    obtain ⟨h1, h2⟩ := dy.1 h
    have := okL_len l t.f1 (by omega) h2
    rw [List.length_cons]
    omega
def Inv (H : Int → Bool) (x : List S51) (a : Int) : Prop := okL (-2) x = true ∧ ∀ r, mem x r ↔ 0 ≤ r ∧ r < a ∧ H r = true
theorem piece_no {H : Int → Bool} {x : List S51} {a b : Int} (h : Inv H x a) (hab : a < b) (hH : ∀ r, a ≤ r → r < b → H r = false) : Inv H x b := by
  refine ⟨h.1, fun r => (h.2 r).trans ?_⟩
  constructor
  · rintro ⟨h1, h2, h3⟩; exact ⟨h1, by omega, h3⟩
  · rintro ⟨h1, h2, h3⟩
    refine ⟨h1, ?_, h3⟩
    by_cases c : r < a
    · exact c
    · rw [hH r (by omega) h2] at h3; exact absurd h3 (by decide)
theorem piece_new {H : Int → Bool} {x : List S51} {a b : Int} (h : Inv H x a) (ha : 0 ≤ a) (hab : a < b) (hb : b ≤ 1114112) (hH : ∀ r, a ≤ r → r < b → H r = true) (hx : ∀ y c, x = y ++ [c] → c.f1 + 1 ≠ a) : Inv H (x ++ [⟨a, b - 1⟩]) b := by
  refine ⟨okL_snoc x (-2) _ h.1 (by unfold good; dsimp only; omega) (by dsimp only; omega) ?_, fun r => ?_⟩
  · dsimp only
    rcases List.eq_nil_or_concat x with rfl | ⟨y, c, rfl⟩
    · simp
    · have h1 := okL_front y (-2) c (by have := h.1; rwa [List.concat_eq_append] at this)
      have hne := hx y c (List.concat_eq_append ..)
      have hgc := h1.2.1
      unfold good at hgc
      have hm := (h.2 c.f1).1 ⟨c, by simp, by omega, by omega⟩
      intro t ht
      rw [List.concat_eq_append, List.mem_append, List.mem_singleton] at ht
      rcases ht with ht | rfl
      · have := h1.2.2.2 t ht; omega
      · omega
  · rw [mem_append, h.2, mem_cons]
    dsimp only
    constructor
    · rintro (⟨h1, h2, h3⟩ | ⟨h1, h2⟩ | h1)
      · exact ⟨h1, by omega, h3⟩
      · exact ⟨by omega, by omega, hH r (by omega) (by omega)⟩
      · exact absurd h1 (d9 r)
    · rintro ⟨h1, h2, h3⟩
      by_cases c : r < a
      · exact .inl ⟨h1, c, h3⟩
      · exact .inr (.inl ⟨by omega, by omega⟩)
theorem piece_on {H : Int → Bool} {y : List S51} {c : S51} {a b : Int} (h : Inv H (y ++ [c]) a) (ha : 0 ≤ a) (hab : a < b) (hb : b ≤ 1114112) (hH : ∀ r, a ≤ r → r < b → H r = true) (hx : c.f1 + 1 = a) : Inv H (y ++ [⟨c.f0, b - 1⟩]) b := by
  have h1 := okL_front y (-2) c h.1
  have hgc := h1.2.1
  unfold good at hgc
  refine ⟨okL_snoc y (-2) _ h1.1 (by unfold good; dsimp only; omega) h1.2.2.1 h1.2.2.2, fun r => ?_⟩
  have h2 := h.2 r
  rw [mem_append, mem_cons] at h2 ⊢
  dsimp only
  have hn := d9 r
  constructor
  · rintro (h3 | ⟨h3, h4⟩ | h3)
    · have := h2.1 (.inl h3); exact ⟨this.1, by omega, this.2.2⟩
    · by_cases cc : r < a
      · have := h2.1 (.inr (.inl ⟨h3, by omega⟩)); exact ⟨this.1, by omega, this.2.2⟩
      · exact ⟨by omega, by omega, hH r (by omega) (by omega)⟩
    · exact absurd h3 hn
  · rintro ⟨h3, h4, h5⟩
    by_cases cc : r < a
    · rcases h2.2 ⟨h3, cc, h5⟩ with h6 | ⟨h6, h7⟩ | h6
      · exact .inl h6
      · exact .inr (.inl ⟨h6, by omega⟩)
      · exact absurd h6 hn
    · exact .inr (.inl ⟨by omega, by omega⟩)
def lim (C : List Int) (i : Nat) : Int := if h : i < C.length then C[i] else 1114112
theorem lim_lt {C : List Int} (hC : Cut C) {i : Nat} (h : i < C.length) : C[i] < lim C (i + 1) ∧ lim C (i + 1) ≤ 1114112 ∧ ∀ x ∈ C, C[i] < x → lim C (i + 1) ≤ x := by
  have hp := List.pairwise_iff_getElem.1 hC.1
  have hi := hC.2 _ (List.getElem_mem h)
  unfold lim
  by_cases c : i + 1 < C.length
  · rw [dif_pos c]
    have hj := hC.2 _ (List.getElem_mem c)
    refine ⟨hp i (i + 1) h c (by omega), by omega, fun x hx hlt => ?_⟩
    obtain ⟨j, hj, rfl⟩ := List.mem_iff_getElem.1 hx
    by_cases c1 : j ≤ i
    · by_cases c2 : j = i
      · subst c2; omega
      · have := hp j i hj h (by omega); omega
    · by_cases c2 : j = i + 1
      · subst c2; omega
      · have := hp (i + 1) j c hj (by omega); omega
  · rw [dif_neg c]
    refine ⟨by omega, by omega, fun x hx hlt => ?_⟩
    obtain ⟨j, hj, rfl⟩ := List.mem_iff_getElem.1 hx
    by_cases c2 : j = i
    · subst c2; omega
    · have := hp j i hj h (by omega); omega
theorem rmade_loop (l : List (List S51)) (hl : l.length ≤ 9223372036854775806) (hr : ∀ s ∈ l, s.length ≤ 9223372036854775806) (hg : ∀ s ∈ l, ∀ t ∈ s, good t) (what : Int) (h2 : what = 2 → 2 ≤ l.length) (n : Nat) : ∀ (i : Nat) (x : List S51), i + n = (dN l).length → Inv (dL l what) x (lim (dN l) i) → ∃ R, Inv (dL l what) R 1114112 ∧ Ev (fun k => aH.l0 k l what (dN l) x i) (madeR R) := by
  have hC := starts_cut l hg
  have hCl := hC.len
  have hsame := fun a r h1 h3 h4 => same_holds l what a r h1 h3 h4 h2
  have hhold := fun r => holds_ev l hl hr r what h2
  generalize dN l = C at hC hCl hsame ⊢
  induction n with
  | zero =>
    intro i x hi hx
    refine ⟨x, by rwa [lim, dif_neg (by omega)] at hx, ?_⟩
    apply Ev.succ
    simp only [aH.l0, if_neg (show ¬ (i : Int) < (C.length : Int) by omega), madeR]
    by_cases c : 2048 < x.length
    · simp only [if_pos c, if_pos (show (x.length : Int) > 2048 by omega)]; exact Ev.now _
    · simp only [if_neg c, if_neg (show ¬ (x.length : Int) > 2048 by omega)]; exact Ev.now _
  | succ n ih =>
    intro i x hi hx
    have hil : i < C.length := by omega
    have hci := hC.2 _ (List.getElem_mem hil)
    obtain ⟨l1, l2, l3⟩ := lim_lt hC hil
    have hs : wrap64 ((i : Int) + 1) = ((i + 1 : Nat) : Int) := by rw [wr (by omega) (by omega)]; omega
    rw [show lim C i = C[i] from dif_pos hil] at hx
    have hxl := okL_len x (-2) (by omega) hx.1
    have hH : ∀ r, C[i] ≤ r → r < lim C (i + 1) → dL l what r = dL l what C[i] := fun r h1 h3 => hsame _ r h1 (by omega) (fun y hy hh => by have := l3 y hy hh.1; omega)
    cases c : dL l what C[i] with
    | false =>
      obtain ⟨R, hR, hE⟩ := ih (i + 1) x (by omega) (piece_no hx l1 (fun r h1 h3 => (hH r h1 h3).trans c))
      refine ⟨R, hR, ?_⟩
      apply Ev.succ
      simp only [aH.l0, if_pos (show (i : Int) < (C.length : Int) by omega), if_pos (show (0 : Int) ≤ (i : Int) by omega), rdi_at C i hil]
      refine Ev.bind (hhold _) ?_
      simp only [c, if_neg (show ¬ (false = true) by decide)]
      rw [hs]
      exact hE
    | true =>
      have hH1 : ∀ r, C[i] ≤ r → r < lim C (i + 1) → dL l what r = true := fun r h1 h3 => (hH r h1 h3).trans c
      have key : ∃ R, Inv (dL l what) R 1114112 ∧ ((x = [] ∧ Ev (fun k => aH.l0 k l what C (x ++ [⟨C[i], lim C (i + 1) - 1⟩]) ((i + 1 : Nat) : Int)) (madeR R)) ∨ ∃ y d, x = y ++ [d] ∧ good d ∧ ((d.f1 + 1 = C[i] ∧ Ev (fun k => aH.l0 k l what C (y ++ [⟨d.f0, lim C (i + 1) - 1⟩]) ((i + 1 : Nat) : Int)) (madeR R)) ∨ (d.f1 + 1 ≠ C[i] ∧ Ev (fun k => aH.l0 k l what C (x ++ [⟨C[i], lim C (i + 1) - 1⟩]) ((i + 1 : Nat) : Int)) (madeR R)))) := by
        rcases List.eq_nil_or_concat x with rfl | ⟨y, d, rfl⟩
        · obtain ⟨R, hR, hE⟩ := ih (i + 1) _ (by omega) (piece_new hx hci.1 l1 l2 hH1 (by intro y c h; simp at h))
          exact ⟨R, hR, .inl ⟨rfl, hE⟩⟩
        · rw [List.concat_eq_append] at hx ⊢
          have hd := (okL_front y (-2) d hx.1).2.1
          by_cases e : d.f1 + 1 = C[i]
          · obtain ⟨R, hR, hE⟩ := ih (i + 1) _ (by omega) (piece_on hx hci.1 l1 l2 hH1 e)
            exact ⟨R, hR, .inr ⟨y, d, rfl, hd, .inl ⟨e, hE⟩⟩⟩
          · obtain ⟨R, hR, hE⟩ := ih (i + 1) _ (by omega) (piece_new hx hci.1 l1 l2 hH1 (by
              intro y' c' h
              have := (List.append_inj' h rfl).2
              simp only [List.cons.injEq, and_true] at this
              subst this
              exact e))
            exact ⟨R, hR, .inr ⟨y, d, rfl, hd, .inr ⟨e, hE⟩⟩⟩
      obtain ⟨R, hR, hE⟩ := key
      refine ⟨R, hR, ?_⟩
      apply Ev.succ
      simp only [aH.l0, if_pos (show (i : Int) < (C.length : Int) by omega), if_pos (show (0 : Int) ≤ (i : Int) by omega), rdi_at C i hil]
      refine Ev.bind (hhold _) ?_
      simp only [c, if_true]
      rw [hs]
      have hto : ∀ hh : i + 1 < C.length, wrap32 (rd C ((i + 1 : Nat) : Int) - 1) = lim C (i + 1) - 1 := by
        intro hh
        have := hC.2 _ (List.getElem_mem hh)
        rw [rdi_at C (i + 1) hh, wr32 (by omega) (by omega), lim, dif_pos hh]
      have hto' : ∀ hh : ¬ i + 1 < C.length, (1114111 : Int) = lim C (i + 1) - 1 := by
        intro hh
        rw [lim, dif_neg hh]; omega
      have hroom : x.length < 17592186044416 := by omega
      by_cases hn : i + 1 < C.length
      · simp only [if_pos (show ((i + 1 : Nat) : Int) < (C.length : Int) by omega), if_pos (show (0 : Int) ≤ ((i + 1 : Nat) : Int) by omega), hto hn]
        rcases hE with ⟨rfl, hE⟩ | ⟨y, d, rfl, hd, hE⟩
        · simp only [if_neg (show ¬ (([] : List S51).length : Int) > 0 by simp), if_pos hroom]
          exact hE
        · have hlen : ((y ++ [d]).length : Int) = (y.length : Int) + 1 := by simp
          have hyl : (y.length : Int) + 1 ≤ 1114113 := by omega
          have hw : wrap64 ((y.length : Int) + 1 - 1) = (y.length : Int) := by rw [wr (by omega) (by omega)]; omega
          unfold good at hd
          have hw2 : wrap32 (d.f1 + 1) = d.f1 + 1 := wr32 (by omega) (by omega)
          simp only [hlen, hw, rd_last, hw2, set_last, if_pos hroom, if_pos (show (y.length : Int) + 1 > 0 by omega), if_pos (show (0 : Int) ≤ (y.length : Int) by omega), if_pos (show (y.length : Int) < (y.length : Int) + 1 by omega)]
          rcases hE with ⟨e, hE⟩ | ⟨e, hE⟩
          · simp only [if_pos e]; exact hE
          · simp only [if_neg e]; exact hE
      · simp only [if_neg (show ¬ ((i + 1 : Nat) : Int) < (C.length : Int) by omega)]
        rw [hto' hn]
        rcases hE with ⟨rfl, hE⟩ | ⟨y, d, rfl, hd, hE⟩
        · simp only [if_neg (show ¬ (([] : List S51).length : Int) > 0 by simp), if_pos hroom]
          exact hE
        · have hlen : ((y ++ [d]).length : Int) = (y.length : Int) + 1 := by simp
          have hyl : (y.length : Int) + 1 ≤ 1114113 := by omega
          have hw : wrap64 ((y.length : Int) + 1 - 1) = (y.length : Int) := by rw [wr (by omega) (by omega)]; omega
          unfold good at hd
          have hw2 : wrap32 (d.f1 + 1) = d.f1 + 1 := wr32 (by omega) (by omega)
          simp only [hlen, hw, rd_last, hw2, set_last, if_pos hroom, if_pos (show (y.length : Int) + 1 > 0 by omega), if_pos (show (0 : Int) ≤ (y.length : Int) by omega), if_pos (show (y.length : Int) < (y.length : Int) + 1 by omega)]
          rcases hE with ⟨e, hE⟩ | ⟨e, hE⟩
          · simp only [if_pos e]; exact hE
          · simp only [if_neg e]; exact hE
theorem rmade_ev (l : List (List S51)) (hl : l.length ≤ 9223372036854775806) (hr : ∀ s ∈ l, s.length ≤ 9223372036854775806) (hg : ∀ s ∈ l, ∀ t ∈ s, good t) (what : Int) (h2 : what = 2 → 2 ≤ l.length) : ∃ R, Inv (dL l what) R 1114112 ∧ Ev (fun k => aH.f k l what) (madeR R) := by
  have hC := starts_cut l hg
  have hz := starts_zero l
  have h0 : lim (dN l) 0 = 0 := by
    cases hc : dN l with
    | nil => rw [hc] at hz; simp at hz
    | cons a C =>
      rw [hc] at hz hC
      show a = 0
      rcases List.mem_cons.1 hz with h | h
      · exact h.symm
      · have := (List.pairwise_cons.1 hC.1).1 0 h
        have := (hC.2 a List.mem_cons_self).1
        omega
  obtain ⟨R, hR, hE⟩ := rmade_loop l hl hr hg what h2 (dN l).length 0 [] (by omega) ⟨rfl, fun r => by rw [h0]; exact ⟨fun h => absurd h (d9 r), fun h => by omega⟩⟩
  exact ⟨R, hR, by unfold aH.f; exact Ev.bind (starts_ev l hl hr hg) hE⟩
theorem Inv.one {H : Int → Bool} {A R : List S51} (hR : Inv H R 1114112) (h1 : okL (-2) A = true) (h2 : ∀ r, 0 ≤ r → r ≤ 1114111 → (mem A r ↔ H r = true)) : A = R :=
  one_row A R (-2) (-2) h1 hR.1 (fun r => by
    rw [hR.2]
    constructor
    · intro h
      have := okL_ge A (-2) h1 r h
      exact ⟨by omega, by omega, (h2 r (by omega) (by omega)).1 h⟩
    · rintro ⟨a, b, c⟩
      exact (h2 r a (by omega)).2 c)
theorem mn_min (a b : Int) : mn a b = min a b := by unfold mn; split <;> omega
theorem okL_good : ∀ (l : List S51) (p : Int), okL p l = true → ∀ t ∈ l, good t
  | [], _, _, t, h => by simp at h
  | u :: l, p, h, t, ht => by
    obtain ⟨h1, h2⟩ := dy.1 h
    rcases List.mem_cons.1 ht with rfl | ht
    · unfold good; omega
    · exact okL_good l u.f1 h2 t ht
theorem ar_piece {P Q A B : Prop} (h : P → ¬ B) : ((P ∧ Q) ∨ (A ∧ (Q ∨ B))) ↔ ((P ∨ A) ∧ (Q ∨ B)) :=
  ⟨fun z => z.elim (fun ⟨p, q⟩ => ⟨.inl p, .inl q⟩) (fun ⟨u, v⟩ => ⟨.inr u, v⟩), fun ⟨u, v⟩ => u.elim (fun p => v.elim (fun q => .inl ⟨p, q⟩) (fun b => absurd b (h p))) (fun u => .inr ⟨u, v⟩)⟩
theorem ar_piece2 {P Q A B : Prop} (h : Q → ¬ A) : ((P ∧ Q) ∨ ((P ∨ A) ∧ B)) ↔ ((P ∨ A) ∧ (Q ∨ B)) :=
  ⟨fun z => z.elim (fun ⟨p, q⟩ => ⟨.inl p, .inl q⟩) (fun ⟨u, v⟩ => ⟨u, .inr v⟩), fun ⟨u, v⟩ => v.elim (fun q => u.elim (fun p => .inl ⟨p, q⟩) (fun w => absurd w (h q))) (fun b => .inr ⟨u, b⟩)⟩
theorem ar_in (x0 x1 y0 y1 r : Int) : (max x0 y0 ≤ r ∧ r ≤ min x1 y1) ↔ ((x0 ≤ r ∧ r ≤ x1) ∧ (y0 ≤ r ∧ r ≤ y1)) := by omega
theorem ar_no {x0 x1 y0 y1 : Int} (r : Int) (h : ¬ max x0 y0 ≤ min x1 y1) : ¬ ((x0 ≤ r ∧ r ≤ x1) ∧ (y0 ≤ r ∧ r ≤ y1)) := by omega
theorem ar_good {x y : S51} (p1 : 0 ≤ x.f0 ∧ x.f0 ≤ x.f1 ∧ x.f1 ≤ 1114111) (q1 : 0 ≤ y.f0 ∧ y.f0 ≤ y.f1 ∧ y.f1 ≤ 1114111) (c : max x.f0 y.f0 ≤ min x.f1 y.f1) : good ⟨max x.f0 y.f0, min x.f1 y.f1⟩ := by unfold good; dsimp only; omega
theorem ar_lo {p q x0 y0 t : Int} (h1 : p + 2 ≤ x0) (h2 : q + 2 ≤ y0) (h : t ≤ max p q) : t + 2 ≤ max x0 y0 := by omega
theorem ar_old {p q x1 y1 t : Int} (h1 : p ≤ x1) (h2 : q ≤ y1) (h : t ≤ max p q) : t ≤ max (if x1 < y1 then x1 else p) (if x1 < y1 then q else y1) := by split <;> omega
theorem ar_c1 {x1 y1 r : Int} (c : x1 < y1) (h : r ≤ x1) (h' : y1 + 2 ≤ r) : False := by omega
theorem ar_c2 {x1 y1 r : Int} (c : ¬ x1 < y1) (h : r ≤ y1) (h' : x1 + 2 ≤ r) : False := by omega
theorem ar_k8 {p q : Int} (h : -2 ≤ p) : -2 ≤ max p q := by omega
theorem ar_new (p q x1 y1 : Int) : min x1 y1 ≤ max (if x1 < y1 then x1 else p) (if x1 < y1 then q else y1) := by split <;> omega
theorem both_loop (a b : List S51) (ha : a.length ≤ 9223372036854775806) (hb : b.length ≤ 9223372036854775806) (n : Nat) : ∀ (i j : Nat) (p q : Int) (out : List S51), i ≤ a.length → j ≤ b.length → (a.length - i) + (b.length - j) = n → okL p (a.drop i) = true → okL q (b.drop j) = true → -2 ≤ p → -2 ≤ q → okL (-2) out = true → (∀ t ∈ out, t.f1 ≤ max p q) →
    ∃ R, okL (-2) R = true ∧ (∀ r, mem R r ↔ mem out r ∨ (mem (a.drop i) r ∧ mem (b.drop j) r)) ∧ Ev (fun k => aM.l0 k a b out i j) R := by
  induction n using Nat.strongRecOn with
  | ind n ih =>
    intro i j p q out hi hj hn hp hq hp2 hq2 ho hout
    have hol := okL_len out (-2) (by omega) ho
    by_cases ci : i < a.length
    · by_cases cj : j < b.length
      · have hda := List.drop_eq_getElem_cons ci
        have hdb := List.drop_eq_getElem_cons cj
        rw [hda] at hp ⊢
        rw [hdb] at hq ⊢
        obtain ⟨p1, p2⟩ := dy.1 hp
        obtain ⟨q1, q2⟩ := dy.1 hq
        have hsi : wrap64 ((i : Int) + 1) = ((i + 1 : Nat) : Int) := by rw [wr (by omega) (by omega)]; omega
        have hsj : wrap64 ((j : Int) + 1) = ((j + 1 : Nat) : Int) := by rw [wr (by omega) (by omega)]; omega
        replace hsi := gz hsi
        replace hsj := gz hsj
        generalize hx : a[i] = x at hda hp p1 p2 ⊢
        generalize hy : b[j] = y at hdb hq q1 q2 ⊢
        have ga := okL_ge _ _ p2
        have gb := okL_ge _ _ q2
        have step : ∀ out', okL (-2) out' = true → (∀ t ∈ out', t.f1 ≤ max (if x.f1 < y.f1 then x.f1 else p) (if x.f1 < y.f1 then q else y.f1)) → (∀ r, mem out' r ↔ mem out r ∨ ((x.f0 ≤ r ∧ r ≤ x.f1) ∧ (y.f0 ≤ r ∧ r ≤ y.f1))) →
            ∃ R, okL (-2) R = true ∧ (∀ r, mem R r ↔ mem out r ∨ (mem (x :: a.drop (i + 1)) r ∧ mem (y :: b.drop (j + 1)) r)) ∧ Ev (fun k => if x.f1 < y.f1 then aM.l0 k a b out' ((i + 1 : Nat) : Int) j else aM.l0 k a b out' i ((j + 1 : Nat) : Int)) R := by
          intro out' ho' hm' hr'
          by_cases c : x.f1 < y.f1
          · simp only [if_pos c] at hm' ⊢
            obtain ⟨R, h1, h2, h3⟩ := ih _ (by omega) (i + 1) j x.f1 q out' (by omega) hj rfl p2 (by rw [hdb]; exact hq) (by omega) hq2 ho' hm'
            refine ⟨R, h1, fun r => (h2 r).trans ?_, h3⟩
            rw [hr', hdb, mem_cons, mem_cons, or_assoc]
            refine or_congr Iff.rfl ?_
            have g2 := gb r
            exact ar_piece (fun h h' => ar_c1 c h.2 (g2 h').1)
          · simp only [if_neg c] at hm' ⊢
            obtain ⟨R, h1, h2, h3⟩ := ih _ (by omega) i (j + 1) p y.f1 out' hi (by omega) rfl (by rw [hda]; exact hp) q2 hp2 (by omega) ho' hm'
            refine ⟨R, h1, fun r => (h2 r).trans ?_, h3⟩
            rw [hr', hda, mem_cons, mem_cons, or_assoc]
            refine or_congr Iff.rfl ?_
            have g1 := ga r
            exact ar_piece2 (fun h h' => ar_c2 c h.2 (g1 h').1)
        have k1 : (i : Int) < (a.length : Int) := by omega
        have k2 : (j : Int) < (b.length : Int) := by omega
        have k3 : (0 : Int) ≤ (i : Int) := by omega
        have k4 : (0 : Int) ≤ (j : Int) := by omega
        have k5 : out.length < 17592186044416 := by omega
        have k6 : p ≤ x.f1 := by omega
        have k7 : q ≤ y.f1 := by omega
        have k8 : (-2 : Int) + 2 ≤ max x.f0 y.f0 := ar_lo (p := p) (q := q) p1.2.2.2 q1.2.2.2 (ar_k8 hp2)
        by_cases c1 : max x.f0 y.f0 ≤ min x.f1 y.f1
        · obtain ⟨R, h1, h2, h3⟩ := step (out ++ [⟨max x.f0 y.f0, min x.f1 y.f1⟩]) (okL_snoc out (-2) _ ho (ar_good ⟨p1.1, p1.2.1, p1.2.2.1⟩ ⟨q1.1, q1.2.1, q1.2.2.1⟩ c1) k8 (fun t ht => ar_lo p1.2.2.2 q1.2.2.2 (hout t ht))) (fun t ht => by
              rw [List.mem_append, List.mem_singleton] at ht
              rcases ht with ht | rfl
              · exact ar_old k6 k7 (hout t ht)
              · exact ar_new p q x.f1 y.f1) (fun r => by
              rw [mem_append, mem_cons]
              have hz := d9 r
              have hin := ar_in x.f0 x.f1 y.f0 y.f1 r
              exact ⟨fun h => h.elim .inl (fun h => h.elim (fun h => .inr (hin.1 h)) (fun h => absurd h hz)), fun h => h.elim .inl (fun h => .inr (.inl (hin.2 h)))⟩)
          refine ⟨R, h1, h2, ?_⟩
          apply Ev.succ
          simp only [aM.l0, if_pos k1, decide_eq_true k2]
          apply Ev.succ
          simp only [aM.j1, if_true, if_pos k1, if_pos k2, if_pos k3, if_pos k4, f8 a i ci, f8 b j cj, hx, hy, mx_max, mn_min, if_pos c1, if_pos k5, Option.bind_some]
          rw [hsi.out, hsj.out]
          exact h3
        · obtain ⟨R, h1, h2, h3⟩ := step out ho (fun t ht => ar_old k6 k7 (hout t ht)) (fun r => ⟨fun h => .inl h, fun h => h.elim id (fun h => absurd h (ar_no r c1))⟩)
          refine ⟨R, h1, h2, ?_⟩
          apply Ev.succ
          simp only [aM.l0, if_pos k1, decide_eq_true k2]
          apply Ev.succ
          simp only [aM.j1, if_true, if_pos k1, if_pos k2, if_pos k3, if_pos k4, f8 a i ci, f8 b j cj, hx, hy, mx_max, mn_min, if_neg c1]
          rw [hsi.out, hsj.out]
          exact h3
      · refine ⟨out, ho, fun r => ?_, ?_⟩
        · rw [List.drop_eq_nil_of_le (show b.length ≤ j by omega)]
          exact ⟨fun h => .inl h, fun h => h.elim id (fun h => absurd h.2 (d9 r))⟩
        · apply Ev.succ
          simp only [aM.l0, if_pos (show (i : Int) < (a.length : Int) by omega), decide_eq_false (show ¬ (j : Int) < (b.length : Int) by omega)]
          apply Ev.succ
          simp only [aM.j1, if_neg (show ¬ (false = true) by decide)]
          exact Ev.now _
    · refine ⟨out, ho, fun r => ?_, ?_⟩
      · rw [List.drop_eq_nil_of_le (show a.length ≤ i by omega)]
        exact ⟨fun h => .inl h, fun h => h.elim id (fun h => absurd h.1 (d9 r))⟩
      · apply Ev.succ
        simp only [aM.l0, if_neg (show ¬ (i : Int) < (a.length : Int) by omega)]
        apply Ev.succ
        simp only [aM.j1, if_neg (show ¬ (false = true) by decide)]
        exact Ev.now _
theorem both_ev (a b : List S51) (ha : okL (-2) a = true) (hb : okL (-2) b = true) : ∃ R, okL (-2) R = true ∧ (∀ r, mem R r ↔ mem a r ∧ mem b r) ∧ Ev (fun k => aM.f k a b) R := by
  have h1 := okL_len a (-2) (by omega) ha
  have h2 := okL_len b (-2) (by omega) hb
  obtain ⟨R, h3, h4, h5⟩ := both_loop a b (by omega) (by omega) _ 0 0 (-2) (-2) [] (by omega) (by omega) rfl ha hb (by omega) (by omega) rfl (by simp)
  exact ⟨R, h3, fun r => (h4 r).trans ⟨fun h => h.elim (fun h => absurd h (d9 r)) id, .inr⟩, h5⟩
def chk : List (List S51) → Int
  | [] => 0
  | s :: l => if cO s = 0 then chk l else cO s
def WfL (l : List (List S51)) : Prop := ∀ s ∈ l, s.length ≤ 9223372036854775806 ∧ Wf s
theorem checked_loop (l : List (List S51)) (hl : l.length ≤ 9223372036854775806) (hw : WfL l) (n : Nat) : ∀ i : Nat, i + n = l.length → Ev (fun k => aQ.l0 k l (l.length : Int) i) (chk (l.drop i)) := by
  induction n with
  | zero =>
    intro i hi
    rw [List.drop_eq_nil_of_le (by omega)]
    apply Ev.succ
    simp only [aQ.l0, if_neg (show ¬ (i : Int) < (l.length : Int) by omega), chk]
    exact Ev.now _
  | succ n ih =>
    intro i hi
    have hil : i < l.length := by omega
    have hwi := hw _ (List.getElem_mem hil)
    rw [List.drop_eq_getElem_cons hil]
    apply Ev.succ
    simp only [aQ.l0, if_pos (show (i : Int) < (l.length : Int) by omega), if_pos (show (0 : Int) ≤ (i : Int) by omega), rdl_at l i hil, chk]
    refine Ev.bind (check_ev _ hwi.1 hwi.2) ?_
    have hs : wrap64 ((i : Int) + 1) = ((i + 1 : Nat) : Int) := by rw [wr (by omega) (by omega)]; omega
    by_cases c : cO l[i] = 0
    · simp only [if_pos c]
      rw [hs]
      exact ih (i + 1) (by omega)
    · simp only [if_neg c]
      exact Ev.now _
theorem gv (l : List (List S51)) (hl : l.length ≤ 9223372036854775806) (hw : WfL l) : Ev (fun k => aQ.f k l) (chk l) := by
  have := checked_loop l hl hw l.length 0 (by omega)
  rwa [List.drop_zero] at this
theorem rchecked_loop (l : List (List S51)) (hl : l.length ≤ 9223372036854775806) (hw : WfL l) (n : Nat) : ∀ i : Nat, i + n = l.length → Ev (fun k => aW.l0 k l i) (chk (l.drop i)) := by
  induction n with
  | zero =>
    intro i hi
    rw [List.drop_eq_nil_of_le (by omega)]
    apply Ev.succ
    simp only [aW.l0, if_neg (show ¬ (i : Int) < (l.length : Int) by omega), chk]
    exact Ev.now _
  | succ n ih =>
    intro i hi
    have hil : i < l.length := by omega
    have hwi := hw _ (List.getElem_mem hil)
    rw [List.drop_eq_getElem_cons hil]
    apply Ev.succ
    simp only [aW.l0, if_pos (show (i : Int) < (l.length : Int) by omega), if_pos (show (0 : Int) ≤ (i : Int) by omega), rdl_at l i hil, chk]
    refine Ev.bind (rcheck_ev _ hwi.1 hwi.2) ?_
    have hs : wrap64 ((i : Int) + 1) = ((i + 1 : Nat) : Int) := by rw [wr (by omega) (by omega)]; omega
    by_cases c : cO l[i] = 0
    · simp only [if_pos c]
      rw [hs]
      exact ih (i + 1) (by omega)
    · simp only [if_neg c]
      exact Ev.now _
theorem fT (l : List (List S51)) (hl : l.length ≤ 9223372036854775806) (hw : WfL l) : Ev (fun k => aW.f k l) (chk l) := by
  have := rchecked_loop l hl hw l.length 0 (by omega)
  rwa [List.drop_zero] at this
theorem gf {s : List S51} (h : cO s = 0) : okL (-2) s = true ∧ s.length ≤ 2048 := by
  unfold cO at h
  by_cases c : okL (-2) s = true
  · rw [if_pos c] at h
    exact ⟨c, by by_cases c2 : 2048 < s.length
                 · rw [if_pos c2] at h; omega
                 · omega⟩
  · rw [if_neg c] at h; omega
theorem chk_ok : ∀ {l : List (List S51)}, chk l = 0 → ∀ s ∈ l, cO s = 0
  | [], _, s, h => by simp at h
  | t :: l, h, s, hs => by
    unfold chk at h
    by_cases c : cO t = 0
    · rw [if_pos c] at h
      rcases List.mem_cons.1 hs with rfl | hs
      · exact c
      · exact chk_ok h s hs
    · rw [if_neg c] at h; exact absurd h c
def InvE (l : List (List S51)) (what : Int) (R : List S51) : Prop := Inv (dL l what) R 1114112
theorem made_one {l : List (List S51)} {what : Int} {A R : List S51} (hR : InvE l what R) (hg : ∀ t ∈ A, good t) (hl : A.length < 17592186044416) (h : ∀ r, 0 ≤ r → r ≤ 1114111 → (mem A r ↔ dL l what r = true)) : Ev (fun k => bW.f k A) (madeR R) := by
  have ho := setOf_ok A hg
  rw [← Inv.one hR ho.1 (fun r h0 h1 => (ho.2 r).trans (h r h0 h1))]
  exact made_ev A hg hl
def Out (l : List (List S51)) (what : Int) (p : List S51 × Int) : Prop := (chk l ≠ 0 → p = ([], chk l)) ∧ (chk l = 0 → ∃ R, InvE l what R ∧ p = madeR R)
theorem good_of {l : List (List S51)} (h : chk l = 0) : ∀ s ∈ l, ∀ t ∈ s, good t := fun s hs => okL_good s (-2) (gf (chk_ok h s hs)).1
theorem len_of {l : List (List S51)} (h : chk l = 0) : ∀ s ∈ l, s.length ≤ 9223372036854775806 := fun s hs => by have := (gf (chk_ok h s hs)).2; omega
theorem hasB_any (r : Int) : ∀ l : List (List S51), 0 < cnt l r ↔ ∃ s ∈ l, mem s r
  | [] => by simp [cnt]
  | s :: l => by
    unfold cnt
    have ih := hasB_any r l
    constructor
    · intro h
      by_cases c : hasB s r = true
      · exact ⟨s, List.mem_cons_self, (hasB_mem r s).1 c⟩
      · rw [if_neg c] at h
        obtain ⟨u, hu, hm⟩ := ih.1 (by omega)
        exact ⟨u, List.mem_cons_of_mem _ hu, hm⟩
    · rintro ⟨u, hu, hm⟩
      rcases List.mem_cons.1 hu with rfl | hu
      · rw [if_pos ((hasB_mem r u).2 hm)]; omega
      · have := ih.2 ⟨u, hu, hm⟩; omega
theorem hasB_all (r : Int) : ∀ l : List (List S51), cnt l r = l.length ↔ ∀ s ∈ l, mem s r
  | [] => by simp [cnt]
  | s :: l => by
    unfold cnt
    have ih := hasB_all r l
    have hle := cnt_le r l
    rw [List.length_cons]
    constructor
    · intro h u hu
      by_cases c : hasB s r = true
      · rw [if_pos c] at h
        rcases List.mem_cons.1 hu with rfl | hu
        · exact (hasB_mem r _).1 c
        · exact ih.1 (by omega) u hu
      · rw [if_neg c] at h; omega
    · intro h
      rw [if_pos ((hasB_mem r s).2 (h s List.mem_cons_self)), ih.2 (fun u hu => h u (List.mem_cons_of_mem _ hu))]
      omega
theorem holds0 (l : List (List S51)) (r : Int) : dL l 0 r = true ↔ ∃ s ∈ l, mem s r := by
  rw [← hasB_any]
  unfold dL fin
  simp
theorem holds1 (l : List (List S51)) (r : Int) : dL l 1 r = true ↔ ∀ s ∈ l, mem s r := by
  rw [← hasB_all]
  unfold dL fin
  simp only [if_neg (show ¬ (1 : Int) = 0 by decide), if_true, beq_iff_eq]
  omega
theorem mem_flat (r : Int) : ∀ l : List (List S51), mem l.flatten r ↔ ∃ s ∈ l, mem s r
  | [] => by simp [d9]
  | s :: l => by
    rw [List.flatten_cons, mem_append, mem_flat r l]
    constructor
    · rintro (h | ⟨u, hu, h⟩)
      · exact ⟨s, List.mem_cons_self, h⟩
      · exact ⟨u, List.mem_cons_of_mem _ hu, h⟩
    · rintro ⟨u, hu, h⟩
      rcases List.mem_cons.1 hu with rfl | hu
      · exact .inl h
      · exact .inr ⟨u, hu, h⟩
theorem union_ev (l : List (List S51)) (hl : l.length ≤ 9223372036854775806) (hw : WfL l) (hf : chk l = 0 → l.flatten.length < 17592186044416) : ∃ p, Out l 0 p ∧ Ev (fun k => cN.f k l) p ∧ Ev (fun k => dp.f k l) p := by
  by_cases c : chk l = 0
  · obtain ⟨R, hR, hE⟩ := rmade_ev l hl (len_of c) (good_of c) 0 (by omega)
    have hR' : InvE l 0 R := hR
    refine ⟨madeR R, ⟨fun h => absurd c h, fun _ => ⟨R, hR', rfl⟩⟩, ?_, ?_⟩
    · unfold cN.f
      refine Ev.bind (gv l hl hw) ?_
      simp only [if_pos c]
      refine Ev.bind (Ev.const (show aG.f l = some l.flatten by unfold aG.f; rw [if_pos (by have := hf c; omega)])) ?_
      refine Ev.bind (made_one hR' (fun t ht => ?_) (hf c) (fun r _ _ => (mem_flat r l).trans (holds0 l r).symm)) (Ev.now _)
      obtain ⟨s, hs, ht⟩ := List.mem_flatten.1 ht
      exact good_of c s hs t ht
    · unfold dp.f
      refine Ev.bind (fT l hl hw) ?_
      simp only [if_pos c]
      exact Ev.bind hE (Ev.now _)
  · refine ⟨([], chk l), ⟨fun _ => rfl, fun h => absurd h c⟩, ?_, ?_⟩
    · unfold cN.f
      refine Ev.bind (gv l hl hw) ?_
      simp only [if_neg c]
      exact Ev.now _
    · unfold dp.f
      refine Ev.bind (fT l hl hw) ?_
      simp only [if_neg c]
      exact Ev.now _
theorem meet_loop (l : List (List S51)) (hl : l.length ≤ 9223372036854775806) (hok : ∀ s ∈ l, okL (-2) s = true) (p : List S51 × Int) (hp : ∀ A, okL (-2) A = true → (∀ r, mem A r ↔ 0 ≤ r ∧ r ≤ 1114111 ∧ ∀ s ∈ l, mem s r) → Ev (fun k => bW.f k A) p) (n : Nat) :
    ∀ (i : Nat) (A : List S51), i + n = l.length → okL (-2) A = true → (∀ r, mem A r ↔ 0 ≤ r ∧ r ≤ 1114111 ∧ ∀ s ∈ l.take i, mem s r) → Ev (fun k => bD.l0 k A l (l.length : Int) i) p := by
  induction n with
  | zero =>
    intro i A hi hA hm
    rw [List.take_of_length_le (by omega)] at hm
    apply Ev.succ
    simp only [bD.l0, if_neg (show ¬ (i : Int) < (l.length : Int) by omega)]
    exact Ev.bind (hp A hA hm) (Ev.now _)
  | succ n ih =>
    intro i A hi hA hm
    have hil : i < l.length := by omega
    obtain ⟨R, h1, h2, h3⟩ := both_ev A l[i] hA (hok _ (List.getElem_mem hil))
    apply Ev.succ
    simp only [bD.l0, if_pos (show (i : Int) < (l.length : Int) by omega), if_pos (show (0 : Int) ≤ (i : Int) by omega), rdl_at l i hil]
    refine Ev.bind h3 ?_
    have hs : wrap64 ((i : Int) + 1) = ((i + 1 : Nat) : Int) := by rw [wr (by omega) (by omega)]; omega
    rw [hs]
    refine ih (i + 1) R (by omega) h1 (fun r => ?_)
    rw [h2, hm, List.take_succ_eq_append_getElem hil]
    constructor
    · rintro ⟨⟨a, b, c⟩, d⟩
      refine ⟨a, b, fun s hs => ?_⟩
      rw [List.mem_append, List.mem_singleton] at hs
      rcases hs with hs | rfl
      · exact c s hs
      · exact d
    · rintro ⟨a, b, c⟩
      exact ⟨⟨a, b, fun s hs => c s (List.mem_append_left _ hs)⟩, c _ (List.mem_append_right _ (List.mem_singleton.2 rfl))⟩
theorem okL_room {A : List S51} (h : okL (-2) A = true) : A.length < 17592186044416 := by
  have := okL_len A (-2) (by omega) h
  omega
theorem meet_ev (l : List (List S51)) (hl : l.length ≤ 9223372036854775806) (hw : WfL l) : ∃ p, Out l 1 p ∧ Ev (fun k => bD.f k l) p ∧ Ev (fun k => dD.f k l) p := by
  by_cases c : chk l = 0
  · obtain ⟨R, hR, hE⟩ := rmade_ev l hl (len_of c) (good_of c) 1 (by omega)
    have hR' : InvE l 1 R := hR
    refine ⟨madeR R, ⟨fun h => absurd c h, fun _ => ⟨R, hR', rfl⟩⟩, ?_, ?_⟩
    · unfold bD.f
      refine Ev.bind (gv l hl hw) ?_
      simp only [if_pos c]
      refine meet_loop l hl (fun s hs => (gf (chk_ok c s hs)).1) _ (fun A hA hm => made_one hR' (okL_good A _ hA) (okL_room hA) (fun r h0 h1 => ?_)) l.length 0 _ (by omega) (by decide) (fun r => ?_)
      · rw [hm, holds1]
        exact ⟨fun h => h.2.2, fun h => ⟨h0, h1, h⟩⟩
      · rw [mem_cons]
        have := d9 r
        simp only [List.take_zero]
        exact ⟨fun h => h.elim (fun h => ⟨h.1, h.2, fun s hs => by simp at hs⟩) (fun h => absurd h this), fun h => .inl ⟨h.1, h.2.1⟩⟩
    · unfold dD.f
      refine Ev.bind (fT l hl hw) ?_
      simp only [if_pos c]
      exact Ev.bind hE (Ev.now _)
  · refine ⟨([], chk l), ⟨fun _ => rfl, fun h => absurd h c⟩, ?_, ?_⟩
    · unfold bD.f
      refine Ev.bind (gv l hl hw) ?_
      simp only [if_neg c]
      exact Ev.now _
    · unfold dD.f
      refine Ev.bind (fT l hl hw) ?_
      simp only [if_neg c]
      exact Ev.now _
open Go.RowKit Go.Proofs.YtaccleilcdfapaaGreat.G Go.Proofs.YtaccleilcdfapaaGreatW.PrintWords Go.Proofs.YtaccleilcdfapaaGreatW.PrintLast Go.Proofs.YtaccleilcdfapaaGreatW.PrintMore
mutual
theorem fU {P : S25 → Prop} (h : ∀ a s l, (∀ y ∈ l, P y) → P ⟨a, s, l⟩) : ∀ x, P x
  | ⟨a, s, l⟩ => h a s l (ind_L h l)
theorem ind_L {P : S25 → Prop} (h : ∀ a s l, (∀ y ∈ l, P y) → P ⟨a, s, l⟩) : ∀ l : List S25, ∀ y ∈ l, P y
  | [], y, hy => absurd hy (by simp)
  | x :: l, y, hy => (List.mem_cons.1 hy).elim (fun e => e ▸ fU h x) (fun hy => ind_L h l y hy)
end
mutual
def nd : S25 → Nat
  | ⟨_, _, l⟩ => 1 + ndL l
def ndL : List S25 → Nat
  | [] => 0
  | x :: l => nd x + ndL l
end
mutual
def pa : S25 → Nat
  | ⟨_, s, l⟩ => 1 + s.length + paL l
def paL : List S25 → Nat
  | [] => 0
  | x :: l => pa x + paL l
end
mutual
def ht : S25 → Nat
  | ⟨_, _, l⟩ => htL l + 1
def htL : List S25 → Nat
  | [] => 0
  | x :: l => max (ht x) (htL l)
end
theorem nd_pos (x : S25) : 1 ≤ nd x := by cases x; rw [nd]; omega
theorem pa_pos (x : S25) : 1 ≤ pa x := by cases x; rw [pa]; omega
theorem gt : ∀ l m : List S25, ndL (l ++ m) = ndL l + ndL m
  | [], m => by simp [ndL]
  | x :: l, m => by rw [List.cons_append, ndL, ndL, gt l m]; omega
theorem dW : ∀ l : List S25, l.length ≤ ndL l
  | [] => by simp [ndL]
  | x :: l => by rw [List.length_cons, ndL]; have := dW l; have := nd_pos x; omega
theorem fK : ∀ l : List S25, l.length ≤ paL l
  | [] => by simp [paL]
  | x :: l => by rw [List.length_cons, paL]; have := fK l; have := pa_pos x; omega
theorem ndL_mem : ∀ (l : List S25), ∀ y ∈ l, nd y ≤ ndL l
  | [], y, hy => by simp at hy
  | x :: l, y, hy => by
    rw [ndL]
    rcases List.mem_cons.1 hy with rfl | hy
    · omega
    · have := ndL_mem l y hy; omega
theorem fJ : ∀ (l : List S25), ∀ y ∈ l, pa y ≤ paL l
  | [], y, hy => by simp at hy
  | x :: l, y, hy => by
    rw [paL]
    rcases List.mem_cons.1 hy with rfl | hy
    · omega
    · have := fJ l y hy; omega
theorem dS (l : List S25) (i : Nat) (h : i < l.length) : an l (i : Int) = l[i] := by
  unfold an
  rw [List.getD_eq_getElem?_getD, Int.toNat_natCast, List.getElem?_eq_getElem h]
  rfl
theorem paL_drop {l : List S25} {i : Nat} (h : i < l.length) : paL (l.drop i) = pa l[i] + paL (l.drop (i + 1)) := by rw [List.drop_eq_getElem_cons h, paL]
theorem htL_drop {l : List S25} {i : Nat} (h : i < l.length) : htL (l.drop i) = max (ht l[i]) (htL (l.drop (i + 1))) := by rw [List.drop_eq_getElem_cons h, htL]
theorem ht_le_pa : ∀ x, ht x ≤ pa x := by
  refine fU (fun a s l ih => ?_)
  rw [ht, pa]
  have h : ∀ m : List S25, (∀ y ∈ m, ht y ≤ pa y) → htL m ≤ paL m := by
    intro m
    induction m with
    | nil => simp [htL]
    | cons y m ihm =>
      intro hm
      rw [htL, paL]
      have h1 := hm y (by simp)
      have h2 := ihm (fun z hz => hm z (by simp [hz]))
      omega
  have := h l ih
  omega
theorem inc {i : Nat} (h : i ≤ 9223372036854775806) : wrap64 ((i : Int) + 1) = ((i + 1 : Nat) : Int) := by rw [wr (by omega) (by omega)]; omega
abbrev EvT {α : Type} (g : Nat → Int → List S51 → List S25 → Option α) (x : S25) (r : α) : Prop := Ev (fun k => g k x.f0 x.f1 x.f2) r
theorem parts_loop (l : List S25) (hx : ∀ y ∈ l, EvT cB.f y (pa y : Int)) (n : Nat) : ∀ (i acc : Nat), i + n = l.length → acc + paL (l.drop i) ≤ 4611686018427387904 → l.length ≤ 4611686018427387904 → Ev (fun k => cB.l0 k acc l (l.length : Int) i) ((acc + paL (l.drop i) : Nat) : Int) := by
  induction n with
  | zero =>
    intro i acc hi hb hl
    apply Ev.succ
    rw [List.drop_eq_nil_of_le (by omega)]
    simp only [cB.l0, if_neg (show ¬ (i : Int) < (l.length : Int) by omega), paL, Nat.add_zero]
    exact Ev.now _
  | succ n ih =>
    intro i acc hi hb hl
    have hil : i < l.length := by omega
    apply Ev.succ
    have hp := paL_drop hil
    simp only [cB.l0, if_pos (show (i : Int) < (l.length : Int) by omega), if_pos (show (0 : Int) ≤ (i : Int) by omega), dS l i hil]
    refine Ev.bind (hx _ (List.getElem_mem hil)) ?_
    rw [inc (by omega), show wrap64 ((acc : Int) + (pa l[i] : Int)) = ((acc + pa l[i] : Nat) : Int) by rw [wr (by omega) (by omega)]; omega, hp, ← Nat.add_assoc]
    exact ih (i + 1) (acc + pa l[i]) (by omega) (by omega) hl
theorem parts_ev : ∀ x, pa x ≤ 4611686018427387904 → EvT cB.f x (pa x : Int) := by
  refine fU (fun a s l ih hb => ?_)
  rw [pa] at hb ⊢
  apply Ev.succ
  simp only [cB.f]
  have hl := fK l
  have := parts_loop l (fun y hy => ih y hy (by have := fJ l y hy; omega)) l.length 0 (1 + s.length) (by omega) (by rw [List.drop_zero]; exact hb) (by omega)
  rw [List.drop_zero] at this
  rw [show wrap64 (1 + (s.length : Int)) = ((1 + s.length : Nat) : Int) by rw [wr (by omega) (by omega)]; omega]
  exact this
theorem rparts_loop (a : Int) (s : List S51) (l : List S25) (hx : ∀ y ∈ l, EvT bi.f y (pa y : Int)) (n : Nat) : ∀ (i acc : Nat), i + n = l.length → acc + paL (l.drop i) ≤ 4611686018427387904 → l.length ≤ 4611686018427387904 → Ev (fun k => bi.l0 k acc i a s l) ((acc + paL (l.drop i) : Nat) : Int) := by
  induction n with
  | zero =>
    intro i acc hi hb hl
    apply Ev.succ
    rw [List.drop_eq_nil_of_le (by omega)]
    simp only [bi.l0, if_neg (show ¬ (i : Int) < (l.length : Int) by omega), paL, Nat.add_zero]
    exact Ev.now _
  | succ n ih =>
    intro i acc hi hb hl
    have hil : i < l.length := by omega
    apply Ev.succ
    have hp := paL_drop hil
    simp only [bi.l0, if_pos (show (i : Int) < (l.length : Int) by omega), if_pos (show (0 : Int) ≤ (i : Int) by omega), dS l i hil]
    refine Ev.bind (hx _ (List.getElem_mem hil)) ?_
    rw [inc (by omega), show wrap64 ((acc : Int) + (pa l[i] : Int)) = ((acc + pa l[i] : Nat) : Int) by rw [wr (by omega) (by omega)]; omega, hp, ← Nat.add_assoc]
    exact ih (i + 1) (acc + pa l[i]) (by omega) (by omega) hl
theorem rparts_ev : ∀ x, pa x ≤ 4611686018427387904 → EvT bi.f x (pa x : Int) := by
  refine fU (fun a s l ih hb => ?_)
  rw [pa] at hb ⊢
  apply Ev.succ
  simp only [bi.f]
  have hl := fK l
  have := rparts_loop a s l (fun y hy => ih y hy (by have := fJ l y hy; omega)) l.length 0 (1 + s.length) (by omega) (by rw [List.drop_zero]; exact hb) (by omega)
  rw [List.drop_zero] at this
  rw [show wrap64 (1 + (s.length : Int)) = ((1 + s.length : Nat) : Int) by rw [wr (by omega) (by omega)]; omega]
  exact this
theorem mxn (a b : Nat) : mx (a : Int) (b : Int) = ((max a b : Nat) : Int) := by unfold mx; split <;> omega
theorem nest_loop (l : List S25) (hx : ∀ y ∈ l, EvT cF.f y (ht y : Int)) (n : Nat) : ∀ (i acc : Nat), i + n = l.length → acc ≤ 4611686018427387904 → paL l ≤ 4611686018427387904 → Ev (fun k => cF.l0 k acc l (l.length : Int) i) ((max acc (htL (l.drop i)) + 1 : Nat) : Int) := by
  induction n with
  | zero =>
    intro i acc hi hb hl
    apply Ev.succ
    rw [List.drop_eq_nil_of_le (by omega)]
    have := fK l
    simp only [cF.l0, if_neg (show ¬ (i : Int) < (l.length : Int) by omega), htL, Nat.max_zero]
    rw [inc (by omega)]
    exact Ev.now _
  | succ n ih =>
    intro i acc hi hb hl
    have hil : i < l.length := by omega
    have := fK l
    apply Ev.succ
    simp only [cF.l0, if_pos (show (i : Int) < (l.length : Int) by omega), if_pos (show (0 : Int) ≤ (i : Int) by omega), dS l i hil]
    refine Ev.bind (hx _ (List.getElem_mem hil)) ?_
    rw [inc (by omega), mxn, htL_drop hil, ← Nat.max_assoc]
    have h1 := ht_le_pa l[i]
    have h2 := fJ l l[i] (List.getElem_mem hil)
    exact ih (i + 1) _ (by omega) (by omega) hl
theorem nest_ev : ∀ x, pa x ≤ 4611686018427387904 → EvT cF.f x (ht x : Int) := by
  refine fU (fun a s l ih hb => ?_)
  rw [pa] at hb
  rw [ht]
  apply Ev.succ
  simp only [cF.f]
  have := nest_loop l (fun y hy => ih y hy (by have := fJ l y hy; omega)) l.length 0 0 (by omega) (by omega) (by omega)
  rw [List.drop_zero, Nat.zero_max] at this
  exact this
theorem rnest_loop (a : Int) (s : List S51) (l : List S25) (hx : ∀ y ∈ l, EvT bn.f y (ht y : Int)) (n : Nat) : ∀ (i acc : Nat), i + n = l.length → acc ≤ 4611686018427387904 → paL l ≤ 4611686018427387904 → Ev (fun k => bn.l0 k acc i a s l) ((max acc (htL (l.drop i)) + 1 : Nat) : Int) := by
  induction n with
  | zero =>
    intro i acc hi hb hl
    apply Ev.succ
    rw [List.drop_eq_nil_of_le (by omega)]
    have := fK l
    simp only [bn.l0, if_neg (show ¬ (i : Int) < (l.length : Int) by omega), htL, Nat.max_zero]
    rw [inc (by omega)]
    exact Ev.now _
  | succ n ih =>
    intro i acc hi hb hl
    have hil : i < l.length := by omega
    have := fK l
    apply Ev.succ
    simp only [bn.l0, if_pos (show (i : Int) < (l.length : Int) by omega), if_pos (show (0 : Int) ≤ (i : Int) by omega), dS l i hil]
    refine Ev.bind (hx _ (List.getElem_mem hil)) ?_
    rw [inc (by omega), mxn, htL_drop hil, ← Nat.max_assoc]
    have h1 := ht_le_pa l[i]
    have h2 := fJ l l[i] (List.getElem_mem hil)
    exact ih (i + 1) _ (by omega) (by omega) hl
theorem rnest_ev : ∀ x, pa x ≤ 4611686018427387904 → EvT bn.f x (ht x : Int) := by
  refine fU (fun a s l ih hb => ?_)
  rw [pa] at hb
  rw [ht]
  apply Ev.succ
  simp only [bn.f]
  have := rnest_loop a s l (fun y hy => ih y hy (by have := fJ l y hy; omega)) l.length 0 0 (by omega) (by omega) (by omega)
  rw [List.drop_zero, Nat.zero_max] at this
  exact this
def fits (x : S25) : Prop := pa x ≤ 4096 ∧ ht x ≤ 64
instance (x : S25) : Decidable (fits x) := by unfold fits; exact inferInstance
def fH (x : S25) : Int := if 4096 < pa x then 41 else if 64 < ht x then 42 else 0
theorem fG (x : S25) : fH x = 0 ↔ fits x := by unfold fH fits; split <;> (try split) <;> omega
theorem sized_ev (x : S25) (hb : pa x ≤ 4611686018427387904) : EvT dv.f x (fH x) := by
  unfold EvT dv.f fH
  refine Ev.bind (parts_ev x hb) ?_
  by_cases c : 4096 < pa x
  · simp only [if_pos c, if_pos (show (pa x : Int) > 4096 by omega)]; exact Ev.now _
  · simp only [if_neg c, if_neg (show ¬ (pa x : Int) > 4096 by omega)]
    refine Ev.bind (nest_ev x hb) ?_
    by_cases c : 64 < ht x
    · simp only [if_pos c, if_pos (show (ht x : Int) > 64 by omega)]; exact Ev.now _
    · simp only [if_neg c, if_neg (show ¬ (ht x : Int) > 64 by omega)]; exact Ev.now _
theorem limits_ev (x : S25) (hb : pa x ≤ 4611686018427387904) : EvT cV.f x (fH x) := by
  unfold EvT cV.f fH
  refine Ev.bind (rparts_ev x hb) ?_
  by_cases c : 4096 < pa x
  · simp only [if_pos c, if_pos (show (pa x : Int) > 4096 by omega)]; exact Ev.now _
  · simp only [if_neg c, if_neg (show ¬ (pa x : Int) > 4096 by omega)]
    refine Ev.bind (rnest_ev x hb) ?_
    by_cases c : 64 < ht x
    · simp only [if_pos c, if_pos (show (ht x : Int) > 64 by omega)]; exact Ev.now _
    · simp only [if_neg c, if_neg (show ¬ (ht x : Int) > 64 by omega)]; exact Ev.now _
def Bd (left deep : Int) (p h : Nat) (r : Int) : Prop := if deep + h ≤ 65 ∧ (p : Int) ≤ left then r = left - p else r < 0
theorem bounded_loop (a : Int) (s : List S51) (l : List S25) (deep : Int) (hd0 : 1 ≤ deep) (hd : deep ≤ 64) (hx : ∀ y ∈ l, ∀ left : Int, 0 ≤ left → left ≤ 4096 → ∃ r, Ev (fun k => aT.f k y.f0 y.f1 y.f2 left (deep + 1)) r ∧ Bd left (deep + 1) (pa y) (ht y) r) (hl : l.length ≤ 4611686018427387904) (n : Nat) :
    ∀ (i : Nat) (left : Int), i + n = l.length → left ≤ 4096 → ∃ r, Ev (fun k => aT.l0 k left deep i a s l) r ∧ (if deep + 1 + htL (l.drop i) ≤ 65 ∧ (paL (l.drop i) : Int) ≤ left then r = left - paL (l.drop i) else r < 0) := by
  induction n with
  | zero =>
    intro i left hi hb
    rw [List.drop_eq_nil_of_le (by omega)]
    refine ⟨left, ?_, ?_⟩
    · apply Ev.succ
      simp only [aT.l0, if_neg (show ¬ (i : Int) < (l.length : Int) by omega)]
      exact Ev.now _
    · have e1 : htL ([] : List S25) = 0 := by rw [htL]
      have e2 : paL ([] : List S25) = 0 := by rw [paL]
      generalize htL ([] : List S25) = H at e1 ⊢
      generalize paL ([] : List S25) = P at e2 ⊢
      split <;> omega
  | succ n ih =>
    intro i left hi hb
    have hil : i < l.length := by omega
    by_cases c : left ≥ 0
    · obtain ⟨r1, h1, b1⟩ := hx l[i] (List.getElem_mem hil) left c hb
      obtain ⟨r, h2, b2⟩ := ih (i + 1) r1 (by omega) (by unfold Bd at b1; split at b1 <;> omega)
      refine ⟨r, ?_, ?_⟩
      · apply Ev.succ
        simp only [aT.l0, if_pos (show (i : Int) < (l.length : Int) by omega), if_pos (show (0 : Int) ≤ (i : Int) by omega), dS l i hil, if_pos c]
        rw [show wrap64 (deep + 1) = deep + 1 by rw [wr (by omega) (by omega)]]
        refine Ev.bind h1 ?_
        rw [inc (by omega)]
        exact h2
      · rw [paL_drop hil, htL_drop hil]
        unfold Bd at b1
        split at b1 <;> split at b2 <;> split <;> omega
    · refine ⟨left, ?_, ?_⟩
      · apply Ev.succ
        simp only [aT.l0, if_pos (show (i : Int) < (l.length : Int) by omega), if_neg c]
        exact Ev.now _
      · split <;> omega
theorem bounded_ev : ∀ x, pa x ≤ 4611686018427387904 → ∀ left deep : Int, 0 ≤ left → left ≤ 4096 → 1 ≤ deep → deep ≤ 65 → ∃ r, Ev (fun k => aT.f k x.f0 x.f1 x.f2 left deep) r ∧ Bd left deep (pa x) (ht x) r := by
  refine fU (fun a s l ih hb left deep h0 h1 h2 h3 => ?_)
  rw [pa] at hb
  have hl := fK l
  by_cases c : deep > 64
  · refine ⟨-1, ?_, ?_⟩
    · apply Ev.succ
      simp only [aT.f, if_pos c]
      exact Ev.now _
    · unfold Bd
      rw [ht]
      split <;> omega
  · have hw : wrap64 (wrap64 (left - 1) - (s.length : Int)) = left - 1 - s.length := by rw [wr (x := left - 1) (by omega) (by omega), wr (by omega) (by omega)]
    obtain ⟨r, h4, h5⟩ := bounded_loop a s l deep h2 (by omega) (fun y hy lf h0 h1 => ih y hy (by have := fJ l y hy; omega) lf (deep + 1) h0 h1 (by omega) (by omega)) (by omega) l.length 0 (left - 1 - s.length) (by omega) (by omega)
    refine ⟨r, ?_, ?_⟩
    · apply Ev.succ
      simp only [aT.f, if_neg c, hw]
      exact h4
    · unfold Bd
      rw [pa, ht]
      rw [List.drop_zero] at h5
      split at h5 <;> split <;> omega
theorem fits_ev (x : S25) (hb : pa x ≤ 4611686018427387904) : EvT dM.f x (decide (fits x)) := by
  unfold EvT dM.f
  obtain ⟨r, h1, h2⟩ := bounded_ev x hb 4096 1 (by omega) (by omega) (by omega) (by omega)
  refine Ev.bind h1 ?_
  have hp := pa_pos x
  have hi : r ≥ 0 ↔ fits x := by
    unfold Bd at h2
    unfold fits
    split at h2 <;> omega
  have : decide (r ≥ 0) = decide (fits x) := decide_eq_decide.2 hi
  simp only [this]
  exact Ev.now _
theorem order_loop (a : Int) (s : List S51) (l : List S25) (b : Int) (t : List S51) (m : List S25) (hl : l.length ≤ 4611686018427387904)
    (hx : ∀ y ∈ l, ∀ z : S25, Ev (fun k => aj.f k y.f0 y.f1 y.f2 z.f0 z.f1 z.f2) (ac.ordT y z)) (n : Nat) : ∀ i : Nat, i + n = l.length → i ≤ m.length →
    Ev (fun k => aj.l0 k i a s l b t m) (ac.ordL (l.drop i) (m.drop i)) := by
  induction n with
  | zero =>
    intro i hi hm
    apply Ev.succ
    rw [List.drop_eq_nil_of_le (show l.length ≤ i by omega)]
    simp only [aj.l0, if_neg (show ¬ (i : Int) < (l.length : Int) by omega)]
    apply Ev.succ
    simp only [aj.j1, if_neg (show ¬ false = true by decide)]
    by_cases c : i < m.length
    · rw [List.drop_eq_getElem_cons c, ac.ordL, if_pos (show (l.length : Int) < (m.length : Int) by omega)]
      exact Ev.now _
    · rw [List.drop_eq_nil_of_le (by omega), ac.ordL, if_neg (show ¬ (l.length : Int) < (m.length : Int) by omega), if_neg (show ¬ (l.length : Int) > (m.length : Int) by omega)]
      exact Ev.now _
  | succ n ih =>
    intro i hi hm
    have hil : i < l.length := by omega
    apply Ev.succ
    simp only [aj.l0, if_pos (show (i : Int) < (l.length : Int) by omega)]
    rw [List.drop_eq_getElem_cons hil]
    by_cases c : i < m.length
    · rw [List.drop_eq_getElem_cons c, ac.ordL]
      apply Ev.succ
      simp only [aj.j1, decide_eq_true (show (i : Int) < (m.length : Int) by omega), if_true, if_pos (show (0 : Int) ≤ (i : Int) by omega), if_pos (show (i : Int) < (l.length : Int) by omega), if_pos (show (i : Int) < (m.length : Int) by omega), dS l i hil, dS m i c]
      refine Ev.bind (hx _ (List.getElem_mem hil) m[i]) ?_
      unfold ac.lex
      by_cases e : ac.ordT l[i] m[i] = 0
      · simp only [if_pos e]
        rw [inc (by omega)]
        exact ih (i + 1) (by omega) (by omega)
      · simp only [if_neg e]
        exact Ev.now _
    · rw [List.drop_eq_nil_of_le (show m.length ≤ i by omega), ac.ordL]
      apply Ev.succ
      simp only [aj.j1, decide_eq_false (show ¬ (i : Int) < (m.length : Int) by omega), if_neg (show ¬ false = true by decide), if_neg (show ¬ (l.length : Int) < (m.length : Int) by omega), if_pos (show (l.length : Int) > (m.length : Int) by omega)]
      exact Ev.now _
theorem gc : ∀ x, nd x ≤ 4611686018427387904 → ∀ y : S25, Ev (fun k => aj.f k x.f0 x.f1 x.f2 y.f0 y.f1 y.f2) (ac.ordT x y) := by
  refine fU (fun a s l ih hb y => ?_)
  rw [nd] at hb
  have hl := dW l
  obtain ⟨b, t, m⟩ := y
  rw [ac.ordT_eq]
  apply Ev.succ
  simp only [aj.f]
  unfold ac.lex ac.icmp
  by_cases c : a < b
  · simp only [if_pos c, if_neg (show ¬ (-1 : Int) = 0 by decide)]
    exact Ev.now _
  · simp only [if_neg c]
    by_cases c : a > b
    · simp only [if_pos c, if_neg (show ¬ (1 : Int) = 0 by decide)]
      exact Ev.now _
    · simp only [if_neg c, if_true]
      refine Ev.bind (Ev.const (show av.f s t = some (av.ord s t) from rfl)) ?_
      by_cases e : av.ord s t = 0
      · simp only [if_pos e]
        have := order_loop a s l b t m (by omega) (fun y hy z => ih y hy (by have := ndL_mem l y hy; omega) z) l.length 0 (by omega) (by omega)
        rw [List.drop_zero, List.drop_zero] at this
        exact this
      · simp only [if_neg e]
        exact Ev.now _
noncomputable def eqB (x y : S25) : Bool := @decide (x = y) (Classical.propDecidable _)
theorem eqB_iff (x y : S25) : eqB x y = true ↔ x = y := by unfold eqB; exact @decide_eq_true_iff _ (Classical.propDecidable _)
theorem ord_eqB (x y : S25) : (ac.ordT x y == 0) = eqB x y := by
  rw [Bool.eq_iff_iff, eqB_iff, beq_iff_eq]
  exact ac.ordT_zero
theorem same_ev (x y : S25) (hb : nd x ≤ 4611686018427387904) : Ev (fun k => cE.f k x.f0 x.f1 x.f2 y.f0 y.f1 y.f2) (eqB x y) := by
  unfold cE.f am.f
  refine Ev.bind (gc x hb y) ?_
  rw [ord_eqB]
  exact Ev.now _
theorem rsame_ev (x y : S25) (hb : nd x ≤ 4611686018427387904) : Ev (fun k => bO.f k x.f0 x.f1 x.f2 y.f0 y.f1 y.f2) (eqB x y) := by
  unfold bO.f
  refine Ev.bind (gc x hb y) ?_
  rw [ord_eqB]
  exact Ev.now _
mutual
def wfT : S25 → Prop
  | ⟨_, s, l⟩ => (s.length ≤ 4611686018427387904 ∧ Wf s) ∧ wfL l
def wfL : List S25 → Prop
  | [] => True
  | x :: l => wfT x ∧ wfL l
end
theorem wfL_mem : ∀ {l : List S25}, wfL l → ∀ y ∈ l, wfT y
  | [], _, y, hy => by simp at hy
  | x :: l, h, y, hy => by
    rw [wfL] at h
    rcases List.mem_cons.1 hy with rfl | hy
    · exact h.1
    · exact wfL_mem h.2 y hy
def fu (a : Int) (s : List S51) (n : Nat) : Prop := (a = 0 ∨ a = 1) ∧ n = 0 ∧ s.length = 0 ∨ a = 2 ∧ n = 0 ∧ cO s = 0 ∨ (3 ≤ a ∧ a ≤ 5) ∧ 0 < n ∧ s.length = 0 ∨ (a = 6 ∨ a = 7) ∧ n = 1 ∧ s.length = 0
mutual
def mayT : S25 → Prop
  | ⟨a, s, l⟩ => mayL l ∧ fu a s l.length
def mayL : List S25 → Prop
  | [] => True
  | x :: l => mayT x ∧ mayL l
end
theorem mayL_mem : ∀ {l : List S25}, mayL l → ∀ y ∈ l, mayT y
  | [], _, y, hy => by simp at hy
  | x :: l, h, y, hy => by
    rw [mayL] at h
    rcases List.mem_cons.1 hy with rfl | hy
    · exact h.1
    · exact mayL_mem h.2 y hy
theorem dI {α : Type} {g : Nat → Option α} {a b : α} (h : Ev g a) (e : a = b) : Ev g b := e ▸ h
theorem may_tail (a : Int) (s : List S51) (l : List S25) (hs : s.length ≤ 4611686018427387904) (hw : Wf s) : ∃ r : Bool, (r = true ↔ fu a s l.length) ∧
    Ev (fun k => if a = 0 then (aV.j1 k (l.length : Int) a (a == 0) a s l) else (aV.j1 k (l.length : Int) a (a == 1) a s l)) r ∧ Ev (fun k => (aw.f k a s l).bind fun t126 => (some t126)) r := by
  have hc := check_ev s (by omega) hw
  have hrc := rcheck_ev s (by omega) hw
  by_cases a01 : a = 0 ∨ a = 1
  · refine ⟨decide (l.length = 0 ∧ s.length = 0), ?_, ?_, ?_⟩
    · rw [decide_eq_true_iff]; unfold fu
      constructor
      · intro h; exact .inl ⟨a01, h⟩
      · rintro (h | h | h | h) <;> omega
    · have : Ev (fun k => aV.j1 k (l.length : Int) a true a s l) (decide (l.length = 0 ∧ s.length = 0)) := by
        apply Ev.succ
        simp only [aV.j1, if_true]
        by_cases c : (l.length : Int) = 0
        · simp only [if_pos c]
          exact dI (Ev.now _) (by rw [Bool.eq_iff_iff, beq_iff_eq, decide_eq_true_iff]; omega)
        · simp only [if_neg c]
          exact dI (Ev.now _) (by symm; rw [decide_eq_false_iff_not]; omega)
      rcases a01 with rfl | rfl
      · simpa using this
      · simpa using this
    · unfold aw.f
      refine Ev.bind (a := decide (l.length = 0 ∧ s.length = 0)) ?_ (Ev.now _)
      simp only [if_neg (show ¬ a < 0 by omega), if_neg (show ¬ a > 7 by omega), if_neg (show ¬ a = 2 by omega)]
      apply Ev.succ
      by_cases c : (s.length : Int) > 0
      · simp only [aw.j0, decide_eq_true c, if_true]
        exact dI (Ev.now _) (by symm; rw [decide_eq_false_iff_not]; omega)
      · simp only [aw.j0, decide_eq_false c, if_neg (show ¬ false = true by decide)]
        have : Ev (fun k => aw.j1 k a true a s l) (decide (l.length = 0 ∧ s.length = 0)) := by
          apply Ev.succ
          simp only [aw.j1, if_true, if_neg (show ¬ a = 2 by omega)]
          by_cases c2 : (l.length : Int) = 0
          · simp only [if_pos c2]
            exact dI (Ev.now _) (by symm; rw [decide_eq_true_iff]; omega)
          · simp only [if_neg c2]
            exact dI (Ev.now _) (by symm; rw [decide_eq_false_iff_not]; omega)
        rcases a01 with rfl | rfl
        · simpa using this
        · simpa using this
  · by_cases a2 : a = 2
    · subst a2
      refine ⟨decide (l.length = 0 ∧ cO s = 0), ?_, ?_, ?_⟩
      · rw [decide_eq_true_iff]; unfold fu
        constructor
        · intro h; exact .inr (.inl ⟨rfl, h⟩)
        · rintro (h | h | h | h)
          · omega
          · exact h.2
          · omega
          · omega
      · simp only [if_neg (show ¬ (2 : Int) = 0 by decide)]
        apply Ev.succ
        simp only [aV.j1, show ((2 : Int) == 1) = false by decide, if_neg (show ¬ false = true by decide), if_true]
        by_cases c : (l.length : Int) = 0
        · simp only [if_pos c]
          refine Ev.bind hc ?_
          exact dI (Ev.now _) (by rw [Bool.eq_iff_iff, beq_iff_eq, decide_eq_true_iff]; omega)
        · simp only [if_neg c]
          exact dI (Ev.now _) (by symm; rw [decide_eq_false_iff_not]; omega)
      · unfold aw.f
        refine Ev.bind (a := decide (l.length = 0 ∧ cO s = 0)) ?_ (Ev.now _)
        simp only [if_neg (show ¬ (2 : Int) < 0 by omega), if_neg (show ¬ (2 : Int) > 7 by omega), if_true]
        apply Ev.succ
        simp only [aw.j0, if_neg (show ¬ false = true by decide), if_neg (show ¬ (2 : Int) = 0 by decide), if_neg (show ¬ (2 : Int) = 1 by decide)]
        apply Ev.succ
        simp only [aw.j1, show ((2 : Int) == 2) = true by decide, if_true]
        by_cases c : (l.length : Int) = 0
        · simp only [if_pos c]
          refine Ev.bind hrc ?_
          exact dI (Ev.now _) (by rw [Bool.eq_iff_iff, beq_iff_eq, decide_eq_true_iff]; omega)
        · simp only [if_neg c]
          exact dI (Ev.now _) (by symm; rw [decide_eq_false_iff_not]; omega)
    · by_cases a35 : 3 ≤ a ∧ a ≤ 5
      · refine ⟨decide (0 < l.length ∧ s.length = 0), ?_, ?_, ?_⟩
        · rw [decide_eq_true_iff]; unfold fu
          constructor
          · intro h; exact .inr (.inr (.inl ⟨a35, h⟩))
          · rintro (h | h | h | h) <;> omega
        · simp only [if_neg (show ¬ a = 0 by omega)]
          apply Ev.succ
          simp only [aV.j1, beq_eq_false_iff_ne.2 (show a ≠ 1 by omega), if_neg (show ¬ false = true by decide), if_neg a2]
          have : Ev (fun k => aV.j2 k (l.length : Int) a true a s l) (decide (0 < l.length ∧ s.length = 0)) := by
            apply Ev.succ
            simp only [aV.j2, if_true]
            by_cases c : (l.length : Int) > 0
            · simp only [if_pos c]
              exact dI (Ev.now _) (by rw [Bool.eq_iff_iff, beq_iff_eq, decide_eq_true_iff]; omega)
            · simp only [if_neg c]
              exact dI (Ev.now _) (by symm; rw [decide_eq_false_iff_not]; omega)
          rcases (show a = 3 ∨ a = 4 ∨ a = 5 by omega) with rfl | rfl | rfl
          · simpa using this
          · simpa using this
          · simpa using this
        · unfold aw.f
          refine Ev.bind (a := decide (0 < l.length ∧ s.length = 0)) ?_ (Ev.now _)
          simp only [if_neg (show ¬ a < 0 by omega), if_neg (show ¬ a > 7 by omega), if_neg a2]
          apply Ev.succ
          by_cases c : (s.length : Int) > 0
          · simp only [aw.j0, decide_eq_true c, if_true]
            exact dI (Ev.now _) (by symm; rw [decide_eq_false_iff_not]; omega)
          · simp only [aw.j0, decide_eq_false c, if_neg (show ¬ false = true by decide), if_neg (show ¬ a = 0 by omega), if_neg (show ¬ a = 1 by omega)]
            apply Ev.succ
            simp only [aw.j1, beq_eq_false_iff_ne.2 a2, if_neg (show ¬ false = true by decide), if_neg (show ¬ a = 6 by omega), if_neg (show ¬ a = 7 by omega)]
            exact dI (Ev.now _) (by rw [decide_eq_decide]; omega)
      · by_cases a67 : a = 6 ∨ a = 7
        · refine ⟨decide (l.length = 1 ∧ s.length = 0), ?_, ?_, ?_⟩
          · rw [decide_eq_true_iff]; unfold fu
            constructor
            · intro h; exact .inr (.inr (.inr ⟨a67, h⟩))
            · rintro (h | h | h | h) <;> omega
          · simp only [if_neg (show ¬ a = 0 by omega)]
            apply Ev.succ
            simp only [aV.j1, beq_eq_false_iff_ne.2 (show a ≠ 1 by omega), if_neg (show ¬ false = true by decide), if_neg a2, if_neg (show ¬ a = 3 by omega), if_neg (show ¬ a = 4 by omega), beq_eq_false_iff_ne.2 (show a ≠ 5 by omega)]
            apply Ev.succ
            have : Ev (fun k : Nat => if (l.length : Int) = 1 then some ((s.length : Int) == 0) else some false) (decide (l.length = 1 ∧ s.length = 0)) := by
              by_cases c : (l.length : Int) = 1
              · simp only [if_pos c]
                exact dI (Ev.now _) (by rw [Bool.eq_iff_iff, beq_iff_eq, decide_eq_true_iff]; omega)
              · simp only [if_neg c]
                exact dI (Ev.now _) (by symm; rw [decide_eq_false_iff_not]; omega)
            rcases a67 with rfl | rfl
            · simpa [aV.j2] using this
            · simpa [aV.j2] using this
          · unfold aw.f
            refine Ev.bind (a := decide (l.length = 1 ∧ s.length = 0)) ?_ (Ev.now _)
            simp only [if_neg (show ¬ a < 0 by omega), if_neg (show ¬ a > 7 by omega), if_neg a2]
            apply Ev.succ
            by_cases c : (s.length : Int) > 0
            · simp only [aw.j0, decide_eq_true c, if_true]
              exact dI (Ev.now _) (by symm; rw [decide_eq_false_iff_not]; omega)
            · simp only [aw.j0, decide_eq_false c, if_neg (show ¬ false = true by decide), if_neg (show ¬ a = 0 by omega), if_neg (show ¬ a = 1 by omega)]
              apply Ev.succ
              have : Ev (fun k : Nat => some ((l.length : Int) == 1)) (decide (l.length = 1 ∧ s.length = 0)) := dI (Ev.now _) (by rw [Bool.eq_iff_iff, beq_iff_eq, decide_eq_true_iff]; omega)
              rcases a67 with rfl | rfl
              · simpa [aw.j1] using this
              · simpa [aw.j1] using this
        · refine ⟨false, ?_, ?_, ?_⟩
          · unfold fu
            constructor
            · intro h; cases h
            · rintro (h | h | h | h) <;> omega
          · simp only [if_neg (show ¬ a = 0 by omega)]
            apply Ev.succ
            simp only [aV.j1, beq_eq_false_iff_ne.2 (show a ≠ 1 by omega), if_neg (show ¬ false = true by decide), if_neg a2, if_neg (show ¬ a = 3 by omega), if_neg (show ¬ a = 4 by omega), beq_eq_false_iff_ne.2 (show a ≠ 5 by omega)]
            apply Ev.succ
            simp only [aV.j2, if_neg (show ¬ false = true by decide), if_neg (show ¬ a = 6 by omega), if_neg (show ¬ a = 7 by omega)]
            exact Ev.now _
          · unfold aw.f
            refine Ev.bind (a := false) ?_ (Ev.now _)
            have : Ev (fun k => aw.j0 k true a s l) false := by
              apply Ev.succ
              simp only [aw.j0, if_true]
              exact Ev.now _
            by_cases c : a < 0
            · simp only [if_pos c]; exact this
            · simp only [if_neg c, if_pos (show a > 7 by omega)]; exact this
theorem may_loop (a : Int) (s : List S51) (l : List S25) (hl : l.length ≤ 4611686018427387904) (hx : ∀ y ∈ l, ∃ b : Bool, (b = true ↔ mayT y) ∧ EvT aV.f y b ∧ EvT br.f y b) (r : Bool)
    (h1 : Ev (fun k => if a = 0 then (aV.j1 k (l.length : Int) a (a == 0) a s l) else (aV.j1 k (l.length : Int) a (a == 1) a s l)) r) (h2 : Ev (fun k => (aw.f k a s l).bind fun t126 => (some t126)) r) (n : Nat) :
    ∀ i : Nat, i + n = l.length → ∃ b : Bool, (b = true ↔ mayL (l.drop i) ∧ r = true) ∧ Ev (fun k => aV.l0 k l (l.length : Int) i a s l) b ∧ Ev (fun k => br.l0 k i a s l) b := by
  induction n with
  | zero =>
    intro i hi
    rw [List.drop_eq_nil_of_le (by omega)]
    refine ⟨r, by simp [mayL], ?_, ?_⟩
    · apply Ev.succ
      simp only [aV.l0, if_neg (show ¬ (i : Int) < (l.length : Int) by omega)]
      exact h1
    · apply Ev.succ
      simp only [br.l0, if_neg (show ¬ (i : Int) < (l.length : Int) by omega)]
      exact h2
  | succ n ih =>
    intro i hi
    have hil : i < l.length := by omega
    obtain ⟨b0, hb0, e1, e2⟩ := hx l[i] (List.getElem_mem hil)
    obtain ⟨b, hb, i1, i2⟩ := ih (i + 1) (by omega)
    rw [List.drop_eq_getElem_cons hil, mayL]
    cases b0 with
    | true =>
      have hm := hb0.1 rfl
      refine ⟨b, by rw [hb]; simp [hm], ?_, ?_⟩
      · apply Ev.succ
        simp only [aV.l0, if_pos (show (i : Int) < (l.length : Int) by omega), if_pos (show (0 : Int) ≤ (i : Int) by omega), dS l i hil]
        refine Ev.bind e1 ?_
        simp only [if_true]
        rw [inc (by omega)]
        exact i1
      · apply Ev.succ
        simp only [br.l0, if_pos (show (i : Int) < (l.length : Int) by omega), if_pos (show (0 : Int) ≤ (i : Int) by omega), dS l i hil]
        refine Ev.bind e2 ?_
        simp only [if_true]
        rw [inc (by omega)]
        exact i2
    | false =>
      have hm : ¬ mayT l[i] := fun h => by have := hb0.2 h; cases this
      refine ⟨false, by simp [hm], ?_, ?_⟩
      · apply Ev.succ
        simp only [aV.l0, if_pos (show (i : Int) < (l.length : Int) by omega), if_pos (show (0 : Int) ≤ (i : Int) by omega), dS l i hil]
        refine Ev.bind e1 ?_
        simp only [if_neg (show ¬ false = true by decide)]
        exact Ev.now _
      · apply Ev.succ
        simp only [br.l0, if_pos (show (i : Int) < (l.length : Int) by omega), if_pos (show (0 : Int) ≤ (i : Int) by omega), dS l i hil]
        refine Ev.bind e2 ?_
        simp only [if_neg (show ¬ false = true by decide)]
        exact Ev.now _
theorem may_ev : ∀ x, pa x ≤ 4611686018427387904 → wfT x → ∃ b : Bool, (b = true ↔ mayT x) ∧ EvT aV.f x b ∧ EvT br.f x b := by
  refine fU (fun a s l ih hb hw => ?_)
  rw [pa] at hb
  rw [wfT] at hw
  have hl := fK l
  obtain ⟨r, hr, h1, h2⟩ := may_tail a s l hw.1.1 hw.1.2
  obtain ⟨b, hb1, e1, e2⟩ := may_loop a s l (by omega) (fun y hy => ih y hy (by have := fJ l y hy; omega) (wfL_mem hw.2 y hy)) r h1 h2 l.length 0 (by omega)
  rw [List.drop_zero] at hb1
  refine ⟨b, by rw [mayT, hb1, hr], ?_, ?_⟩
  · apply Ev.succ
    simp only [aV.f]
    exact e1
  · apply Ev.succ
    simp only [br.f]
    exact e2
def ltT (x y : S25) : Prop := ac.ordT x y < 0
theorem ltT_trans {x y z : S25} (h1 : ltT x y) (h2 : ltT y z) : ltT x z := (ac.ordT_tot x).trans y z h1 (by unfold ltT at h2; omega)
theorem ltT_irr (x : S25) : ¬ ltT x x := by unfold ltT; rw [ac.ordT_self]; omega
theorem srt_unique : ∀ {l m : List S25}, l.Pairwise ltT → m.Pairwise ltT → (∀ x, x ∈ l ↔ x ∈ m) → l = m
  | [], [], _, _, _ => rfl
  | [], y :: m, _, _, h => absurd ((h y).2 (by simp)) (by simp)
  | x :: l, [], _, _, h => absurd ((h x).1 (by simp)) (by simp)
  | x :: l, y :: m, h1, h2, h => by
    rw [List.pairwise_cons] at h1 h2
    have e : x = y := by
      rcases List.mem_cons.1 ((h x).1 (by simp)) with e | hx
      · exact e
      · rcases List.mem_cons.1 ((h y).2 (by simp)) with e | hy
        · exact e.symm
        · exact absurd (ltT_trans (h1.1 y hy) (h2.1 x hx)) (ltT_irr x)
    subst e
    have := srt_unique h1.2 h2.2 (fun z => by
      have hz := h z
      rw [List.mem_cons, List.mem_cons] at hz
      constructor
      · intro hl
        rcases hz.1 (.inr hl) with e | hm
        · subst e; exact absurd (h1.1 z hl) (ltT_irr z)
        · exact hm
      · intro hm
        rcases hz.2 (.inr hm) with e | hl
        · subst e; exact absurd (h2.1 z hm) (ltT_irr z)
        · exact hl)
    rw [this]
def risT (x : S25) : List S25 → List S25
  | [] => [x]
  | y :: l => if ac.ordT y x < 0 then y :: risT x l else if ac.ordT y x = 0 then y :: l else x :: y :: l
theorem ris_mem (x z : S25) : ∀ l, z ∈ risT x l ↔ z = x ∨ z ∈ l
  | [] => by simp [risT]
  | y :: l => by
    unfold risT
    split
    · rw [List.mem_cons, ris_mem x z l, List.mem_cons]
      constructor <;> (intro h; rcases h with h | h | h <;> simp [h])
    · split
      · rename_i h0
        have e := ac.ordT_zero.1 h0
        subst e
        rw [List.mem_cons]
        constructor
        · intro h; exact .inr h
        · rintro (h | h)
          · exact .inl h
          · exact h
      · exact List.mem_cons
theorem ris_srt (x : S25) : ∀ l : List S25, l.Pairwise ltT → (risT x l).Pairwise ltT
  | [], _ => by simp [risT]
  | y :: l, h => by
    unfold risT
    have hc := h
    rw [List.pairwise_cons] at h
    split
    · rename_i h0
      rw [List.pairwise_cons]
      refine ⟨fun z hz => ?_, ris_srt x l h.2⟩
      rcases (ris_mem x z l).1 hz with rfl | hz
      · exact h0
      · exact h.1 z hz
    · split
      · exact hc
      · rename_i h0 h1
        have hxy : ltT x y := by
          have := (ac.ordT_tot x).swap y
          unfold ltT
          omega
        rw [List.pairwise_cons]
        refine ⟨fun z hz => ?_, hc⟩
        rcases List.mem_cons.1 hz with rfl | hz
        · exact hxy
        · exact ltT_trans hxy (h.1 z hz)
def dC (out : List S25) : List S25 → List S25
  | [] => out
  | x :: l => dC (risT x out) l
theorem risAll_ok : ∀ (rs out : List S25), out.Pairwise ltT → (dC out rs).Pairwise ltT ∧ ∀ z, z ∈ dC out rs ↔ z ∈ out ∨ z ∈ rs
  | [], out, h => ⟨h, fun z => by simp [dC]⟩
  | x :: l, out, h => by
    obtain ⟨h1, h2⟩ := risAll_ok l (risT x out) (ris_srt x out h)
    refine ⟨h1, fun z => ?_⟩
    rw [dC, h2, ris_mem, List.mem_cons]
    constructor
    · rintro ((h | h) | h)
      · exact .inr (.inl h)
      · exact .inl h
      · exact .inr (.inr h)
    · rintro (h | h | h)
      · exact .inl (.inr h)
      · exact .inl (.inl h)
      · exact .inr h
theorem ddk_ok : ∀ (l : List S25) (p : S25), (p :: l).Pairwise ac.leT → (ac.ddk ac.ordT p l).Pairwise ltT ∧ (∀ z ∈ ac.ddk ac.ordT p l, ltT p z) ∧ ∀ z, (z = p ∨ z ∈ ac.ddk ac.ordT p l) ↔ (z = p ∨ z ∈ l)
  | [], p, _ => ⟨by simp [ac.ddk], by simp [ac.ddk], fun z => by rw [ac.ddk]⟩
  | x :: l, p, h => by
    rw [List.pairwise_cons] at h
    obtain ⟨i1, i2, i3⟩ := ddk_ok l x h.2
    unfold ac.ddk
    split
    · rename_i h0
      have e := ac.ordT_zero.1 h0
      subst e
      refine ⟨i1, i2, fun z => ?_⟩
      rw [i3, List.mem_cons]
      constructor
      · rintro (h | h)
        · exact .inl h
        · exact .inr (.inr h)
      · rintro (h | h | h)
        · exact .inl h
        · exact .inl h
        · exact .inr h
    · rename_i h0
      have hp : ltT p x := by
        have h1 := h.1 x (by simp)
        have h2 := (ac.ordT_tot p).swap x
        unfold ac.leT at h1
        unfold ltT
        omega
      refine ⟨?_, ?_, fun z => ?_⟩
      · rw [List.pairwise_cons]
        exact ⟨i2, i1⟩
      · intro z hz
        rcases List.mem_cons.1 hz with rfl | hz
        · exact hp
        · exact ltT_trans hp (i2 z hz)
      · rw [List.mem_cons, i3, List.mem_cons]
theorem dd_ok (l : List S25) (h : l.Pairwise ac.leT) : (ac.dd ac.ordT l).Pairwise ltT ∧ ∀ z, z ∈ ac.dd ac.ordT l ↔ z ∈ l := by
  cases l with
  | nil => exact ⟨by simp [ac.dd], by simp [ac.dd]⟩
  | cons x l =>
    obtain ⟨i1, i2, i3⟩ := ddk_ok l x h
    unfold ac.dd
    refine ⟨?_, fun z => ?_⟩
    · rw [List.pairwise_cons]
      exact ⟨i2, i1⟩
    · rw [List.mem_cons, i3, List.mem_cons]
theorem dd_ris (rs : List S25) : ac.dd ac.ordT (ac.isort rs) = dC [] rs := by
  obtain ⟨h1, h2⟩ := dd_ok _ (ac.isort_sorted rs)
  obtain ⟨h3, h4⟩ := risAll_ok rs [] List.Pairwise.nil
  refine srt_unique h1 h3 (fun z => ?_)
  rw [h2, h4, (ac.isort_perm rs).mem_iff]
  simp
theorem risAll_app : ∀ (rs qs out : List S25), dC out (rs ++ qs) = dC (dC out rs) qs
  | [], qs, out => rfl
  | x :: rs, qs, out => by rw [List.cons_append, dC, dC, risAll_app rs qs]
theorem ris_nd (x : S25) : ∀ l, ndL (risT x l) ≤ nd x + ndL l
  | [] => by simp [risT, ndL]
  | y :: l => by
    unfold risT
    have := ris_nd x l
    split
    · rw [ndL, ndL]; omega
    · split
      · rw [ndL]; omega
      · rw [ndL, ndL]; omega
theorem risAll_nd : ∀ (rs out : List S25), ndL (dC out rs) ≤ ndL out + ndL rs
  | [], out => by simp [dC, ndL]
  | x :: rs, out => by
    have h1 := risAll_nd rs (risT x out)
    have h2 := ris_nd x out
    rw [dC, ndL]
    omega
abbrev q4 (x : S25) (e : Int) : Int × List S51 × List S25 × Int := (x.f0, x.f1, x.f2, e)
def fY (a : Int) (d : S25) : List S25 → S25
  | [] => d
  | [x] => x
  | l => ⟨a, [], l⟩
theorem endT_wrap (a : Int) : ∀ l, ac.endT a l = q4 (fY a (ac.outT a) l) 0
  | [] => rfl
  | [x] => rfl
  | x :: y :: l => rfl
theorem jend_wrap (a : Int) (d : S25) : ∀ l, ae.jend a d l = q4 (fY a d l) 0
  | [] => rfl
  | [x] => rfl
  | x :: y :: l => rfl
noncomputable def hasP (stop : S25) : List S25 → Bool
  | [] => false
  | x :: l => if eqB x stop = true then true else hasP stop l
def ff : List S25 → List (List S51)
  | [] => []
  | x :: l => if x.f0 = 2 then x.f1 :: ff l else ff l
noncomputable def dY (skip : S25) : List S25 → List S25
  | [] => []
  | x :: l => if x.f0 = 2 then dY skip l else if eqB x skip = true then dY skip l else x :: dY skip l
theorem eqB_kind {x y : S25} (h : x.f0 ≠ y.f0) : eqB x y = false := by
  cases e : eqB x y with
  | false => rfl
  | true => rw [eqB_iff] at e; exact absurd (congrArg S25.f0 e) h
theorem partT_ev (stop skip : S25) (hk : skip.f0 ≠ 2) : ∀ (l : List S25) (ss : List (List S51)) (rs : List S25), ndL l ≤ 4611686018427387904 →
    Ev (fun k => ac.partT k stop skip l ss rs) (if hasP stop l = true then none else some (ss ++ ff l, rs ++ dY skip l))
  | [], ss, rs, hb => by
    refine dI (Ev.now (some (ss, rs))) ?_
    simp [hasP, ff, dY]
  | x :: l, ss, rs, hb => by
    rw [ndL] at hb
    unfold ac.partT ac.eqT
    refine Ev.bind (same_ev x stop (by omega)) ?_
    unfold hasP
    by_cases c : eqB x stop = true
    · simp only [c, if_true]
      exact Ev.now _
    · simp only [if_neg c]
      refine Ev.bind (same_ev x skip (by omega)) ?_
      by_cases c2 : x.f0 = 2
      · rw [eqB_kind (show x.f0 ≠ skip.f0 by rw [c2]; exact fun e => hk e.symm)]
        simp only [if_neg (show ¬ false = true by decide), if_pos c2]
        refine dI (partT_ev stop skip hk l (ss ++ [x.f1]) rs (by omega)) ?_
        rw [ff, dY, if_pos c2, if_pos c2, List.append_assoc]
        rfl
      · by_cases c3 : eqB x skip = true
        · simp only [if_pos c3]
          refine dI (partT_ev stop skip hk l ss rs (by omega)) ?_
          rw [ff, dY, if_neg c2, if_neg c2, if_pos c3]
        · simp only [if_neg c3, if_neg c2]
          refine dI (partT_ev stop skip hk l ss (rs ++ [x]) (by omega)) ?_
          rw [ff, dY, if_neg c2, if_neg c2, if_neg c3, List.append_assoc]
          rfl
theorem evAll {α : Type} {P : α → Nat → Prop} : ∀ l : List α, (∀ x ∈ l, ∃ K, ∀ k, K ≤ k → P x k) → ∃ K, ∀ k, K ≤ k → ∀ x ∈ l, P x k
  | [], _ => ⟨0, fun k _ x hx => absurd hx (by simp)⟩
  | y :: l, h => by
    obtain ⟨K1, h1⟩ := h y (by simp)
    obtain ⟨K2, h2⟩ := evAll l (fun x hx => h x (by simp [hx]))
    refine ⟨max K1 K2, fun k hk x hx => ?_⟩
    rcases List.mem_cons.1 hx with rfl | hx
    · exact h1 k (by omega)
    · exact h2 k (by omega) x hx
theorem finT_ev (a : Int) (rs : List S25) (hb : ndL rs ≤ 4611686018427387904) : Ev (fun k => ac.finT k a rs) (q4 (fY a (ac.outT a) (dC [] rs)) 0) := by
  have h1 : ∃ K, ∀ k, K ≤ k → ∀ x ∈ rs, ∀ y ∈ rs, aj.f k x.f0 x.f1 x.f2 y.f0 y.f1 y.f2 = some (ac.ordT x y) :=
    evAll (P := fun x k => ∀ y ∈ rs, aj.f k x.f0 x.f1 x.f2 y.f0 y.f1 y.f2 = some (ac.ordT x y)) rs (fun x hx => evAll (P := fun y k => aj.f k x.f0 x.f1 x.f2 y.f0 y.f1 y.f2 = some (ac.ordT x y)) rs (fun y hy => gc x (by have := ndL_mem rs x hx; omega) y))
  obtain ⟨K, h1⟩ := h1
  refine ⟨K, fun k hk => ?_⟩
  unfold ac.finT
  dsimp only
  rw [if_pos (show ac.okT k rs from h1 k hk), endT_wrap, dd_ris]
mutual
def okS : S25 → Prop
  | ⟨a, s, l⟩ => (cO s = 0 ∧ (a = 6 → l ≠ [])) ∧ okSL l
def okSL : List S25 → Prop
  | [] => True
  | x :: l => okS x ∧ okSL l
end
theorem okSL_iff : ∀ l : List S25, okSL l ↔ ∀ x ∈ l, okS x
  | [] => by simp [okSL]
  | x :: l => by rw [okSL, okSL_iff l]; simp
theorem okS_eq (x : S25) : okS x ↔ (cO x.f1 = 0 ∧ (x.f0 = 6 → x.f2 ≠ [])) ∧ ∀ y ∈ x.f2, okS y := by
  cases x
  rw [okS, okSL_iff]
theorem fM : cO [] = 0 := by decide
theorem wf_ok {s : List S51} (h : cO s = 0) : s.length ≤ 9223372036854775806 ∧ Wf s := by
  obtain ⟨h1, h2⟩ := gf h
  refine ⟨by omega, fun x hx => ?_⟩
  have := okL_good s (-2) h1 x hx
  unfold good at this
  omega
theorem chk_zero : ∀ {l : List (List S51)}, (∀ s ∈ l, cO s = 0) → chk l = 0
  | [], _ => rfl
  | s :: l, h => by
    rw [chk, if_pos (h s (by simp))]
    exact chk_zero (fun t ht => h t (by simp [ht]))
theorem flat_len : ∀ {l : List (List S51)}, (∀ s ∈ l, cO s = 0) → l.flatten.length ≤ 2048 * l.length
  | [], _ => by simp
  | s :: l, h => by
    rw [List.flatten_cons, List.length_append, List.length_cons]
    have h1 := (gf (h s (by simp))).2
    have h2 := flat_len (l := l) (fun t ht => h t (by simp [ht]))
    omega
theorem Out_one {l : List (List S51)} {what : Int} {p q : List S51 × Int} (hp : Out l what p) (hq : Out l what q) : p = q := by
  by_cases c : chk l = 0
  · obtain ⟨R, h1, rfl⟩ := hp.2 c
    obtain ⟨R', h2, rfl⟩ := hq.2 c
    have e : R = R' := one_row R R' (-2) (-2) h1.1 h2.1 (fun r => by rw [h1.2, h2.2])
    rw [e]
  · rw [hp.1 c, hq.1 c]
theorem Out_ok {l : List (List S51)} {what : Int} {p : List S51 × Int} (hp : Out l what p) (hl : ∀ s ∈ l, cO s = 0) (h : p.2 = 0) : cO p.1 = 0 := by
  obtain ⟨R, h1, rfl⟩ := hp.2 (chk_zero hl)
  unfold madeR at h ⊢
  split
  · rename_i c
    rw [if_pos c] at h
    exact absurd h (by decide)
  · rename_i c
    have := h1.1
    unfold cO
    rw [if_pos this, if_neg c]
def whatOf (a : Int) : Int := if a = 4 then 0 else 1
open Classical in
noncomputable def uniM (a : Int) (ss : List (List S51)) : List S51 × Int := if h : ∃ p, Out ss (whatOf a) p then h.choose else ([], 0)
theorem uniM_eq {a : Int} {ss : List (List S51)} {p : List S51 × Int} (h : Out ss (whatOf a) p) : uniM a ss = p := by
  have hx : ∃ p, Out ss (whatOf a) p := ⟨p, h⟩
  unfold uniM
  rw [dif_pos hx]
  exact Out_one hx.choose_spec h
noncomputable def joinT (a : Int) (skip : S25) (ss : List (List S51)) (rs : List S25) : S25 × Int :=
  if ss = [] then (fY a skip (dC [] rs), 0)
  else if (uniM a ss).2 = 0 then (if (uniM a ss).1 = [] then (z25, 0) else (fY a skip (dC [] (rs ++ [⟨2, (uniM a ss).1, []⟩])), 0))
  else (z25, (uniM a ss).2)
noncomputable def fx (a : Int) (l : List S25) : S25 × Int :=
  if hasP (ac.stopT a) (ac.flatT a l) = true then (ac.stopT a, 0)
  else joinT a (ac.outT a) (ff (ac.flatT a l)) (dY (ac.outT a) (ac.flatT a l))
theorem restP_nd (skip : S25) : ∀ l, ndL (dY skip l) + (ff l).length ≤ ndL l
  | [] => by simp [dY, ff, ndL]
  | x :: l => by
    have h := restP_nd skip l
    have := nd_pos x
    unfold dY ff
    rw [ndL]
    split
    · rw [List.length_cons]; omega
    · split
      · omega
      · rw [ndL]; omega
theorem flatT_nd (a : Int) : ∀ l, ndL (ac.flatT a l) ≤ ndL l
  | [] => by simp [ac.flatT, ndL]
  | x :: l => by
    unfold ac.flatT
    have h := flatT_nd a l
    rw [gt, ndL]
    split
    · cases x with
      | mk f0 f1 f2 => rw [nd]; simp only; omega
    · rw [ndL, ndL]; omega
theorem setsP_ok : ∀ l : List S25, (∀ x ∈ l, okS x) → ∀ s ∈ ff l, cO s = 0
  | [], _, s, hs => by simp [ff] at hs
  | x :: l, h, s, hs => by
    unfold ff at hs
    have ih := setsP_ok l (fun y hy => h y (by simp [hy]))
    split at hs
    · rcases List.mem_cons.1 hs with rfl | hs
      · exact ((okS_eq x).1 (h x (by simp))).1.1
      · exact ih s hs
    · exact ih s hs
theorem flatT_ok (a : Int) : ∀ l : List S25, (∀ x ∈ l, okS x) → ∀ x ∈ ac.flatT a l, okS x
  | [], _, x, hx => by simp [ac.flatT] at hx
  | y :: l, h, x, hx => by
    unfold ac.flatT at hx
    rcases List.mem_append.1 hx with hx | hx
    · have hy := h y (by simp)
      split at hx
      · exact ((okS_eq y).1 hy).2 x hx
      · rw [List.mem_singleton] at hx
        rw [hx]
        exact hy
    · exact flatT_ok a l (fun z hz => h z (by simp [hz])) x hx
theorem restP_sub (skip : S25) : ∀ (l : List S25), ∀ x ∈ dY skip l, x ∈ l
  | [], x, hx => by simp [dY] at hx
  | y :: l, x, hx => by
    unfold dY at hx
    have ih := restP_sub skip l
    split at hx
    · exact List.mem_cons_of_mem _ (ih x hx)
    · split at hx
      · exact List.mem_cons_of_mem _ (ih x hx)
      · rcases List.mem_cons.1 hx with rfl | hx
        · simp
        · exact List.mem_cons_of_mem _ (ih x hx)
theorem out_kind (a : Int) : (ac.outT a).f0 ≠ 2 := by unfold ac.outT; split <;> decide
theorem uni_ev (a : Int) (ss : List (List S51)) (hl : ss.length ≤ 1073741824) (hok : ∀ s ∈ ss, cO s = 0) :
    Out ss (whatOf a) (uniM a ss) ∧ Ev (fun k => ae.junion k a ss) (uniM a ss) ∧ (a = 4 → Ev (fun k => cN.f k ss) (uniM a ss)) ∧ (∃ u, Ev (fun k => cN.f k ss) u) ∧ (a ≠ 4 → Ev (fun k => bD.f k ss) (uniM a ss)) := by
  have hw : WfL ss := fun s hs => wf_ok (hok s hs)
  have hf := flat_len hok
  obtain ⟨p, o1, e1, r1⟩ := union_ev ss (by omega) hw (fun _ => by omega)
  obtain ⟨q, o2, e2, r2⟩ := meet_ev ss (by omega) hw
  unfold ae.junion
  by_cases c : a = 4
  · have hu : uniM a ss = p := uniM_eq (by unfold whatOf; rw [if_pos c]; exact o1)
    rw [hu]
    simp only [if_pos c]
    refine ⟨?_, r1, fun _ => e1, ⟨p, e1⟩, fun h => absurd c h⟩
    unfold whatOf; rw [if_pos c]; exact o1
  · have hu : uniM a ss = q := uniM_eq (by unfold whatOf; rw [if_neg c]; exact o2)
    rw [hu]
    simp only [if_neg c]
    refine ⟨?_, r2, fun h => absurd h c, ⟨p, e1⟩, fun _ => e2⟩
    unfold whatOf; rw [if_neg c]; exact o2
theorem both_evT (a : Int) (ha : a = 4 ∨ a = 5) (l : List S25) (hb : ndL l ≤ 1048576) (hok : ∀ x ∈ l, okS x) : Ev (fun k => ac.f k a l) (q4 (fx a l).1 (fx a l).2) := by
  have hn := flatT_nd a l
  have hfl := dW (ac.flatT a l)
  have hr := restP_nd (ac.outT a) (ac.flatT a l)
  have hs := setsP_ok _ (flatT_ok a l hok)
  unfold ac.f
  simp only [if_pos (show (ac.flatT a l).length < 2513169434915 by omega)]
  refine Ev.bind (partT_ev (ac.stopT a) (ac.outT a) (out_kind a) (ac.flatT a l) [] [] (by omega)) ?_
  unfold fx
  by_cases c : hasP (ac.stopT a) (ac.flatT a l) = true
  · simp only [if_pos c]
    exact Ev.now _
  · simp only [if_neg c, List.nil_append, ac.contT]
    generalize ff (ac.flatT a l) = ss at *
    generalize dY (ac.outT a) (ac.flatT a l) = rs at *
    unfold ac.restT joinT
    by_cases c2 : ss = []
    · simp only [if_pos c2]
      exact finT_ev a rs (by omega)
    · simp only [if_neg c2]
      obtain ⟨o, _, eu, ⟨u, eu0⟩, em⟩ := uni_ev a ss (by omega) hs
      have hset : Ev (fun k => ac.setT k a ss rs (uniM a ss).1 (uniM a ss).2) (q4 (if (uniM a ss).2 = 0 then (if (uniM a ss).1 = [] then (z25, (0 : Int)) else (fY a (ac.outT a) (dC [] (rs ++ [⟨2, (uniM a ss).1, []⟩])), 0)) else (z25, (uniM a ss).2)).1 (if (uniM a ss).2 = 0 then (if (uniM a ss).1 = [] then (z25, (0 : Int)) else (fY a (ac.outT a) (dC [] (rs ++ [⟨2, (uniM a ss).1, []⟩])), 0)) else (z25, (uniM a ss).2)).2) := by
        unfold ac.setT
        by_cases c3 : (uniM a ss).2 = 0
        · simp only [if_pos c3]
          by_cases c4 : (uniM a ss).1 = []
          · simp only [if_pos c4]
            exact Ev.now _
          · simp only [if_neg c4]
            refine finT_ev a _ ?_
            rw [gt, ndL, ndL, nd, ndL]
            have : ss.length ≠ 0 := fun e => c2 (List.length_eq_zero_iff.1 e)
            omega
        · simp only [if_neg c3]
          exact Ev.now _
      rcases ha with rfl | rfl
      · refine Ev.bind (eu rfl) ?_
        simp only [if_neg (show ¬ (4 : Int) = 5 by decide)]
        exact hset
      · refine Ev.bind eu0 ?_
        simp only [if_true]
        refine Ev.bind (em (by decide)) ?_
        exact hset
theorem eta25 (x : S25) : (⟨x.f0, x.f1, x.f2⟩ : S25) = x := by cases x; rfl
theorem rflat_loop (a : Int) (l : List S25) (hb : ndL l ≤ 1048576) (n : Nat) : ∀ (i : Nat) (acc : List S25), i + n = l.length → acc.length + ndL (l.drop i) ≤ 1048576 → Ev (fun k => bM.l0 k a l acc i) (acc ++ ac.flatT a (l.drop i)) := by
  have hl := dW l
  induction n with
  | zero =>
    intro i acc hi ha
    apply Ev.succ
    rw [List.drop_eq_nil_of_le (by omega), ac.flatT, List.append_nil]
    simp only [bM.l0, if_neg (show ¬ (i : Int) < (l.length : Int) by omega)]
    exact Ev.now _
  | succ n ih =>
    intro i acc hi ha
    have hil : i < l.length := by omega
    rw [List.drop_eq_getElem_cons hil] at ha ⊢
    rw [ndL] at ha
    rw [ac.flatT, ← List.append_assoc]
    apply Ev.succ
    simp only [bM.l0, if_pos (show (i : Int) < (l.length : Int) by omega), if_pos (show (0 : Int) ≤ (i : Int) by omega), dS l i hil]
    have hx : 1 + ndL l[i].f2 = nd l[i] := by cases l[i]; rw [nd]
    have hk := dW l[i].f2
    by_cases c : l[i].f0 = a
    · simp only [if_pos c, if_pos (show acc.length + l[i].f2.length < 2513169434916 by omega)]
      rw [inc (by omega)]
      exact ih (i + 1) (acc ++ l[i].f2) (by omega) (by rw [List.length_append]; omega)
    · simp only [if_neg c, if_pos (show acc.length < 2513169434916 by omega), eta25]
      rw [inc (by omega)]
      exact ih (i + 1) (acc ++ [l[i]]) (by omega) (by rw [List.length_append, List.length_singleton]; omega)
theorem rflat_ev (a : Int) (l : List S25) (hb : ndL l ≤ 1048576) : Ev (fun k => bM.f k a l) (ac.flatT a l) := by
  unfold bM.f
  exact rflat_loop a l hb l.length 0 [] (by omega) (by rw [List.drop_zero]; simpa using hb)
theorem rsets_loop (l : List S25) (hb : l.length ≤ 1048576) (n : Nat) : ∀ (i : Nat) (acc : List (List S51)), i + n = l.length → acc.length ≤ i → Ev (fun k => bJ.l0 k l acc i) (acc ++ ff (l.drop i)) := by
  induction n with
  | zero =>
    intro i acc hi ha
    apply Ev.succ
    rw [List.drop_eq_nil_of_le (by omega), ff, List.append_nil]
    simp only [bJ.l0, if_neg (show ¬ (i : Int) < (l.length : Int) by omega)]
    exact Ev.now _
  | succ n ih =>
    intro i acc hi ha
    have hil : i < l.length := by omega
    rw [List.drop_eq_getElem_cons hil, ff]
    apply Ev.succ
    simp only [bJ.l0, if_pos (show (i : Int) < (l.length : Int) by omega), if_pos (show (0 : Int) ≤ (i : Int) by omega), dS l i hil]
    by_cases c : l[i].f0 = 2
    · simp only [if_pos c, if_pos (show acc.length < 5864062014805 by omega)]
      rw [inc (by omega)]
      have := ih (i + 1) (acc ++ [l[i].f1]) (by omega) (by rw [List.length_append, List.length_singleton]; omega)
      rw [List.append_assoc] at this
      exact this
    · simp only [if_neg c]
      rw [inc (by omega)]
      exact ih (i + 1) acc (by omega) (by omega)
theorem rsets_ev (l : List S25) (hb : l.length ≤ 1048576) : Ev (fun k => bJ.f k l) (ff l) := by
  unfold bJ.f
  exact rsets_loop l hb l.length 0 [] (by omega) (by simp)
theorem ris_cut (x : S25) : ∀ (l : List S25) (i : Nat), i ≤ l.length → (∀ y ∈ l.take i, ac.ordT y x < 0) → risT x l = l.take i ++ risT x (l.drop i)
  | l, 0, _, _ => by simp
  | [], i + 1, hi, _ => by simp at hi
  | y :: l, i + 1, hi, h => by
    rw [List.take_succ_cons, List.drop_succ_cons]
    rw [List.take_succ_cons] at h
    have h0 := h y (by simp)
    rw [show risT x (y :: l) = y :: risT x l by rw [risT, if_pos h0], ris_cut x l i (by simpa using hi) (fun z hz => h z (by simp [hz]))]
    rfl
theorem rising_loop (l : List S25) (x : S25) (hb : ndL l ≤ 1048576) (n : Nat) : ∀ i : Nat, i + n = l.length → (∀ y ∈ l.take i, ac.ordT y x < 0) → Ev (fun k => aq.l0 k l i x.f0 x.f1 x.f2) (risT x l) := by
  have hl := dW l
  induction n with
  | zero =>
    intro i hi ht
    have e1 : l.take i = l := List.take_of_length_le (by omega)
    have e2 : l.drop i = [] := List.drop_eq_nil_of_le (by omega)
    apply Ev.succ
    rw [ris_cut x l i (by omega) ht, e1, e2, risT]
    simp only [aq.l0, if_neg (show ¬ (i : Int) < (l.length : Int) by omega), Option.bind, if_pos (show (0 : Int) ≤ (i : Int) by omega), if_pos (show (i : Int) ≤ (l.length : Int) by omega), Int.toNat_natCast, e1, e2, List.nil_append, List.append_nil, List.length_nil, Nat.zero_add, Nat.add_zero, List.length_append, List.length_singleton, if_pos (show l.length < 2513169434916 by omega), if_pos (show l.length + 1 < 2513169434916 by omega), eta25]
    exact Ev.now _
  | succ n ih =>
    intro i hi ht
    have hil : i < l.length := by omega
    apply Ev.succ
    simp only [aq.l0, if_pos (show (i : Int) < (l.length : Int) by omega), if_pos (show (0 : Int) ≤ (i : Int) by omega), dS l i hil]
    have ho := gc l[i] (by have := ndL_mem l l[i] (List.getElem_mem hil); omega) x
    refine Ev.bind ho ?_
    by_cases c : ac.ordT l[i] x < 0
    · simp only [if_pos c]
      rw [inc (by omega)]
      refine ih (i + 1) (by omega) (fun y hy => ?_)
      rw [List.take_succ_eq_append_getElem hil] at hy
      rcases List.mem_append.1 hy with hy | hy
      · exact ht y hy
      · rw [List.mem_singleton] at hy
        rw [hy]
        exact c
    · simp only [if_neg c]
      refine Ev.bind ho ?_
      rw [ris_cut x l i (by omega) ht, List.drop_eq_getElem_cons hil, risT, if_neg c]
      by_cases c2 : ac.ordT l[i] x = 0
      · simp only [if_pos c2]
        rw [← List.drop_eq_getElem_cons hil, List.take_append_drop]
        exact Ev.now _
      · simp only [if_neg c2]
        rw [← List.drop_eq_getElem_cons hil]
        have h1 : (l.take i).length = i := List.length_take_of_le (by omega)
        have h2 : (l.drop i).length = l.length - i := List.length_drop
        simp only [Option.bind, if_pos (show (i : Int) ≤ (l.length : Int) by omega), Int.toNat_natCast, List.nil_append, List.length_nil, Nat.zero_add, h1, if_pos (show i < 2513169434916 by omega), List.length_append, List.length_singleton, h2, if_pos (show i + 1 + (l.length - i) < 2513169434916 by omega), eta25]
        refine dI (Ev.now _) ?_
        rw [List.append_assoc]
        rfl
theorem rising_ev (l : List S25) (x : S25) (hb : ndL l ≤ 1048576) : Ev (fun k => aq.f k l x.f0 x.f1 x.f2) (risT x l) := by
  unfold aq.f
  exact rising_loop l x hb l.length 0 (by omega) (by simp)
theorem jloop_ev (stop skip : S25) (hk : skip.f0 ≠ 2) : ∀ (l out : List S25), ndL out + ndL l ≤ 1048576 →
    Ev (fun k => ae.jloop k stop skip l out) (if hasP stop l = true then none else some (dC out (dY skip l)))
  | [], out, hb => by
    refine dI (Ev.now (some out)) ?_
    simp [hasP, dY, dC]
  | x :: l, out, hb => by
    rw [ndL] at hb
    unfold ae.jloop ae.sameT
    refine Ev.bind (rsame_ev x stop (by omega)) ?_
    unfold hasP
    by_cases c : eqB x stop = true
    · simp only [c, if_true]
      exact Ev.now _
    · simp only [if_neg c]
      by_cases c2 : x.f0 = 2
      · simp only [if_pos c2]
        refine dI (jloop_ev stop skip hk l out (by omega)) ?_
        rw [dY, if_pos c2]
      · simp only [if_neg c2]
        refine Ev.bind (rsame_ev x skip (by omega)) ?_
        by_cases c3 : eqB x skip = true
        · simp only [if_pos c3]
          refine dI (jloop_ev stop skip hk l out (by omega)) ?_
          rw [dY, if_neg c2, if_pos c3]
        · simp only [if_neg c3]
          refine Ev.bind (rising_ev out x (by omega)) ?_
          have hr := ris_nd x out
          refine dI (jloop_ev stop skip hk l (risT x out) (by omega)) ?_
          rw [dY, if_neg c2, if_neg c3, dC]
theorem joined_evT (a : Int) (l : List S25) (hb : ndL l ≤ 524288) (hok : ∀ x ∈ l, okS x) : Ev (fun k => ae.f k a l (ac.stopT a).f0 (ac.stopT a).f1 (ac.stopT a).f2 (ac.outT a).f0 (ac.outT a).f1 (ac.outT a).f2) (q4 (fx a l).1 (fx a l).2) := by
  have hn := flatT_nd a l
  have hfl := dW (ac.flatT a l)
  have hr := restP_nd (ac.outT a) (ac.flatT a l)
  have hs := setsP_ok _ (flatT_ok a l hok)
  unfold ae.f
  refine Ev.bind (rflat_ev a l (by omega)) ?_
  refine Ev.bind (rsets_ev _ (by omega)) ?_
  obtain ⟨o, eu, _, _, _⟩ := uni_ev a (ff (ac.flatT a l)) (by omega) hs
  refine Ev.bind eu ?_
  simp only [eta25]
  refine Ev.bind (jloop_ev (ac.stopT a) (ac.outT a) (out_kind a) (ac.flatT a l) [] (by rw [ndL]; omega)) ?_
  unfold fx
  by_cases c : hasP (ac.stopT a) (ac.flatT a l) = true
  · simp only [if_pos c]
    exact Ev.now _
  · simp only [if_neg c, ae.jcont]
    generalize ff (ac.flatT a l) = ss at *
    generalize dY (ac.outT a) (ac.flatT a l) = rs at *
    unfold ae.jfin joinT
    by_cases c2 : ss = []
    · simp only [if_pos c2, jend_wrap]
      exact Ev.now _
    · simp only [if_neg c2]
      by_cases c3 : (uniM a ss).2 = 0
      · simp only [if_pos c3]
        by_cases c4 : (uniM a ss).1 = []
        · simp only [if_pos c4]
          exact Ev.now _
        · simp only [if_neg c4]
          unfold ae.jlast
          have h1 := risAll_nd rs []
          rw [ndL] at h1
          refine Ev.bind (rising_ev (dC [] rs) ⟨2, (uniM a ss).1, []⟩ (by omega)) ?_
          simp only [jend_wrap]
          rw [risAll_app]
          exact Ev.now _
      · simp only [if_neg c3]
        exact Ev.now _
theorem alt_ev (l : List S25) (hb : ndL l ≤ 524288) (hok : ∀ x ∈ l, okS x) : Ev (fun k => cX.f k l) (q4 (fx 4 l).1 (fx 4 l).2) := by
  unfold cX.f
  simp only [dx.f, bT.f, Option.bind]
  exact Ev.bind (f := fun k bt395 => some (bt395.1, bt395.2.1, bt395.2.2.1, bt395.2.2.2)) (joined_evT 4 l hb hok) (Ev.now _)
theorem and_ev (l : List S25) (hb : ndL l ≤ 524288) (hok : ∀ x ∈ l, okS x) : Ev (fun k => cW.f k l) (q4 (fx 5 l).1 (fx 5 l).2) := by
  unfold cW.f
  simp only [dx.f, bT.f, Option.bind]
  exact Ev.bind (f := fun k bt395 => some (bt395.1, bt395.2.1, bt395.2.2.1, bt395.2.2.2)) (joined_evT 5 l hb hok) (Ev.now _)
def em25 : S25 := ⟨1, [], []⟩
def catL : List S25 → Option (List S25)
  | [] => some []
  | x :: l => if x.f0 = 0 then none else (catL l).map fun r => (if x.f0 = 1 then [] else if x.f0 = 3 then x.f2 else [x]) ++ r
def catD (acc : List S25) : Option (List S25) → S25
  | none => z25
  | some r => fY 3 em25 (acc ++ r)
def catT (l : List S25) : S25 := catD [] (catL l)
abbrev q3 (x : S25) : Int × List S51 × List S25 := (x.f0, x.f1, x.f2)
theorem cat_end (acc : List S25) (hb : acc.length ≤ 4611686018427387904) {e : Option (Int × List S51 × List S25)} (he : e = some (1, [], [])) :
    (if (acc.length : Int) = 0 then (e.bind fun bt => some (bt.1, bt.2.1, bt.2.2)) else (if (acc.length : Int) = 1 then (if 0 < (acc.length : Int) then (some ((an acc 0).f0, (an acc 0).f1, (an acc 0).f2)) else none) else (some (3, ([] : List S51), acc)))) = some (q3 (fY 3 em25 acc)) := by
  subst he
  match acc with
  | [] => rfl
  | [x] => rfl
  | x :: y :: l =>
    rw [if_neg (by simp only [List.length_cons]; omega), if_neg (by simp only [List.length_cons]; omega)]
    rfl
theorem cat_loop (l : List S25) (hb : ndL l ≤ 1048576) (n : Nat) : ∀ (i : Nat) (acc : List S25), i + n = l.length → acc.length + ndL (l.drop i) ≤ 1048576 → Ev (fun k => cq.l0 k acc l (l.length : Int) i) (q3 (catD acc (catL (l.drop i)))) := by
  have hl := dW l
  induction n with
  | zero =>
    intro i acc hi ha
    apply Ev.succ
    rw [List.drop_eq_nil_of_le (by omega), catL, catD, List.append_nil]
    simp only [cq.l0, if_neg (show ¬ (i : Int) < (l.length : Int) by omega), cat_end acc (by omega) (show dw.f = some (1, [], []) from rfl)]
    exact Ev.now _
  | succ n ih =>
    intro i acc hi ha
    have hil : i < l.length := by omega
    rw [List.drop_eq_getElem_cons hil] at ha ⊢
    rw [ndL] at ha
    apply Ev.succ
    simp only [cq.l0, if_pos (show (i : Int) < (l.length : Int) by omega), if_pos (show (0 : Int) ≤ (i : Int) by omega), dS l i hil]
    have hx : 1 + ndL l[i].f2 = nd l[i] := by cases l[i]; rw [nd]
    have hk := dW l[i].f2
    have hmap : ∀ (p : List S25), catD acc ((catL (l.drop (i + 1))).map fun r => p ++ r) = catD (acc ++ p) (catL (l.drop (i + 1))) := fun p => by
      cases catL (l.drop (i + 1)) with
      | none => rfl
      | some r => simp only [Option.map_some, catD, List.append_assoc]
    rw [catL]
    by_cases c0 : l[i].f0 = 0
    · simp only [if_pos c0]
      exact Ev.now _
    · simp only [if_neg c0, hmap]
      by_cases c1 : l[i].f0 = 1
      · simp only [if_pos c1, List.append_nil]
        rw [inc (by omega)]
        exact ih (i + 1) acc (by omega) (by omega)
      · simp only [if_neg c1]
        by_cases c3 : l[i].f0 = 3
        · simp only [if_pos c3, if_pos (show acc.length + l[i].f2.length < 2513169434916 by omega)]
          rw [inc (by omega)]
          exact ih (i + 1) (acc ++ l[i].f2) (by omega) (by rw [List.length_append]; omega)
        · simp only [if_neg c3, if_pos (show acc.length < 2513169434916 by omega), eta25]
          rw [inc (by omega)]
          exact ih (i + 1) (acc ++ [l[i]]) (by omega) (by rw [List.length_append, List.length_singleton]; omega)
theorem cat_ev (l : List S25) (hb : ndL l ≤ 1048576) : Ev (fun k => cq.f k l) (q3 (catT l)) := by
  unfold cq.f
  exact cat_loop l hb l.length 0 [] (by omega) (by rw [List.drop_zero]; simpa using hb)
theorem rcat_loop (l : List S25) (hb : ndL l ≤ 1048576) (n : Nat) : ∀ (i : Nat) (acc : List S25), i + n = l.length → acc.length + ndL (l.drop i) ≤ 1048576 → Ev (fun k => bH.l0 k l acc i) (q3 (catD acc (catL (l.drop i)))) := by
  have hl := dW l
  induction n with
  | zero =>
    intro i acc hi ha
    apply Ev.succ
    rw [List.drop_eq_nil_of_le (by omega), catL, catD, List.append_nil]
    simp only [bH.l0, if_neg (show ¬ (i : Int) < (l.length : Int) by omega), cat_end acc (by omega) (show cL.f = some (1, [], []) from rfl)]
    exact Ev.now _
  | succ n ih =>
    intro i acc hi ha
    have hil : i < l.length := by omega
    rw [List.drop_eq_getElem_cons hil] at ha ⊢
    rw [ndL] at ha
    apply Ev.succ
    simp only [bH.l0, if_pos (show (i : Int) < (l.length : Int) by omega), if_pos (show (0 : Int) ≤ (i : Int) by omega), dS l i hil]
    have hx : 1 + ndL l[i].f2 = nd l[i] := by cases l[i]; rw [nd]
    have hk := dW l[i].f2
    have hmap : ∀ (p : List S25), catD acc ((catL (l.drop (i + 1))).map fun r => p ++ r) = catD (acc ++ p) (catL (l.drop (i + 1))) := fun p => by
      cases catL (l.drop (i + 1)) with
      | none => rfl
      | some r => simp only [Option.map_some, catD, List.append_assoc]
    rw [catL]
    by_cases c0 : l[i].f0 = 0
    · simp only [if_pos c0]
      exact Ev.now _
    · simp only [if_neg c0, hmap]
      by_cases c1 : l[i].f0 = 1
      · simp only [if_pos c1, List.append_nil]
        rw [inc (by omega)]
        exact ih (i + 1) acc (by omega) (by omega)
      · simp only [if_neg c1]
        by_cases c3 : l[i].f0 = 3
        · simp only [if_pos c3, if_pos (show acc.length + l[i].f2.length < 2513169434916 by omega)]
          rw [inc (by omega)]
          exact ih (i + 1) (acc ++ l[i].f2) (by omega) (by rw [List.length_append]; omega)
        · simp only [if_neg c3, if_pos (show acc.length < 2513169434916 by omega), eta25]
          rw [inc (by omega)]
          exact ih (i + 1) (acc ++ [l[i]]) (by omega) (by rw [List.length_append, List.length_singleton]; omega)
theorem rcat_ev (l : List S25) (hb : ndL l ≤ 1048576) : Ev (fun k => bH.f k l) (q3 (catT l)) := by
  unfold bH.f
  exact rcat_loop l hb l.length 0 [] (by omega) (by rw [List.drop_zero]; simpa using hb)
def setX (s : List S51) : S25 := if s = [] then z25 else ⟨2, s, []⟩
def notT (x : S25) : S25 := if x.f0 = 6 then an x.f2 0 else ⟨6, [], [x]⟩
def starT (x : S25) : S25 := if x.f0 = 7 then x else if x.f0 = 1 then em25 else if x.f0 = 0 then em25 else ⟨7, [], [x]⟩
noncomputable def fE (a : Int) (s : List S51) (l : List S25) : S25 × Int :=
  if a = 1 then (em25, 0) else if a = 2 then (setX s, 0) else if a = 3 then (catT l, 0) else if a = 4 then fx 4 l else if a = 5 then fx 5 l else if a = 6 then (notT (an l 0), 0) else if a = 7 then (starT (an l 0), 0) else (z25, 0)
mutual
noncomputable def nrmT : S25 → S25 × Int
  | ⟨a, s, l⟩ => if (nrmL l).2 = 0 then fE a s (nrmL l).1 else (z25, (nrmL l).2)
noncomputable def nrmL : List S25 → List S25 × Int
  | [] => ([], 0)
  | x :: l => if (nrmT x).2 = 0 then (if (nrmL l).2 = 0 then ((nrmT x).1 :: (nrmL l).1, 0) else ([], (nrmL l).2)) else ([], (nrmT x).2)
end
theorem wrapT_nd (a : Int) (d : S25) : ∀ l, nd (fY a d l) ≤ max (nd d) (1 + ndL l)
  | [] => by rw [fY]; omega
  | [x] => by rw [fY, ndL, ndL]; omega
  | x :: y :: l => by
    show nd ⟨a, [], x :: y :: l⟩ ≤ _
    rw [nd]; omega
theorem nd_z : nd z25 = 1 := by decide
theorem nd_em : nd em25 = 1 := by decide
theorem nd_out (a : Int) : nd (ac.outT a) ≤ 2 := by unfold ac.outT; split <;> decide
theorem nd_stop (a : Int) : nd (ac.stopT a) ≤ 2 := by unfold ac.stopT; split <;> decide
theorem ok_z : okS z25 := by rw [okS_eq]; exact ⟨⟨fM, fun h => absurd h (by decide)⟩, fun y hy => by simp [z25] at hy⟩
theorem ok_em : okS em25 := by rw [okS_eq]; exact ⟨⟨fM, fun h => absurd h (by decide)⟩, fun y hy => by simp [em25] at hy⟩
theorem ok_mk {a : Int} {s : List S51} {l : List S25} (h1 : cO s = 0) (h2 : a = 6 → l ≠ []) (h3 : ∀ y ∈ l, okS y) : okS ⟨a, s, l⟩ := (okS_eq _).2 ⟨⟨h1, h2⟩, h3⟩
theorem ok_ev : okS ac.ev25 := ok_mk fM (fun _ => by simp) (fun y hy => by rw [List.mem_singleton] at hy; rw [hy]; exact ok_z)
theorem ok_out (a : Int) : okS (ac.outT a) := by
  unfold ac.outT
  split
  · exact ok_z
  · exact ok_ev
theorem ok_stop (a : Int) : okS (ac.stopT a) := by
  unfold ac.stopT
  split
  · exact ok_ev
  · exact ok_z
theorem wrapT_ok {a : Int} {d : S25} (ha : a ≠ 6) (hd : okS d) : ∀ {l : List S25}, (∀ x ∈ l, okS x) → okS (fY a d l)
  | [], _ => hd
  | [x], h => h x (by simp)
  | x :: y :: l, h => ok_mk fM (fun e => absurd e ha) h
theorem catL_nd : ∀ (l r : List S25), catL l = some r → ndL r ≤ ndL l
  | [], r, h => by rw [catL] at h; rw [← Option.some.inj h]; exact Nat.le_refl _
  | x :: l, r, h => by
    rw [catL] at h
    split at h
    · cases h
    · obtain ⟨m, hm, rfl⟩ := Option.map_eq_some_iff.1 h
      have ih := catL_nd l m hm
      have hx : 1 + ndL x.f2 = nd x := by cases x; rw [nd]
      rw [gt, ndL]
      split
      · rw [ndL]; omega
      · split
        · omega
        · rw [ndL, ndL]; omega
theorem catL_ok : ∀ (l r : List S25), catL l = some r → (∀ x ∈ l, okS x) → ∀ x ∈ r, okS x
  | [], r, h, _, x, hx => by rw [catL] at h; rw [← Option.some.inj h] at hx; simp at hx
  | y :: l, r, h, hl, x, hx => by
    rw [catL] at h
    split at h
    · cases h
    · obtain ⟨m, hm, rfl⟩ := Option.map_eq_some_iff.1 h
      rcases List.mem_append.1 hx with hx | hx
      · split at hx
        · simp at hx
        · split at hx
          · exact ((okS_eq y).1 (hl y (by simp))).2 x hx
          · rw [List.mem_singleton] at hx
            rw [hx]
            exact hl y (by simp)
      · exact catL_ok l m hm (fun z hz => hl z (by simp [hz])) x hx
theorem catT_nd (l : List S25) : nd (catT l) ≤ 1 + ndL l := by
  unfold catT
  cases h : catL l with
  | none => rw [catD, nd_z]; omega
  | some r =>
    have h1 := catL_nd l r h
    have h2 := wrapT_nd 3 em25 ([] ++ r)
    rw [nd_em, List.nil_append] at h2
    rw [catD, List.nil_append]
    omega
theorem catT_ok (l : List S25) (hl : ∀ x ∈ l, okS x) : okS (catT l) := by
  unfold catT
  cases h : catL l with
  | none => exact ok_z
  | some r => exact wrapT_ok (by decide) ok_em (catL_ok l r h hl)
theorem bothT_nd (a : Int) (l : List S25) : nd (fx a l).1 ≤ max 2 (1 + ndL l) := by
  have h1 := flatT_nd a l
  have h2 := restP_nd (ac.outT a) (ac.flatT a l)
  have h3 := nd_out a
  have h4 := nd_stop a
  unfold fx
  split
  · simp only; omega
  · generalize ff (ac.flatT a l) = ss at *
    generalize dY (ac.outT a) (ac.flatT a l) = rs at *
    unfold joinT
    split
    · have h5 := wrapT_nd a (ac.outT a) (dC [] rs)
      have h6 := risAll_nd rs []
      rw [ndL] at h6
      simp only
      omega
    · rename_i hs
      split
      · split
        · rw [nd_z]; omega
        · have h5 := wrapT_nd a (ac.outT a) (dC [] (rs ++ [⟨2, (uniM a ss).1, []⟩]))
          have h6 := risAll_nd (rs ++ [⟨2, (uniM a ss).1, []⟩]) []
          rw [gt, ndL, ndL, ndL, nd, ndL] at h6
          have : ss.length ≠ 0 := fun e => hs (List.length_eq_zero_iff.1 e)
          simp only
          omega
      · rw [nd_z]; omega
theorem bothT_ok (a : Int) (ha : a ≠ 6) (l : List S25) (hb : ndL l ≤ 1048576) (hl : ∀ x ∈ l, okS x) : okS (fx a l).1 := by
  have hn := flatT_nd a l
  have hfl := dW (ac.flatT a l)
  have hr := restP_nd (ac.outT a) (ac.flatT a l)
  have hf := flatT_ok a l hl
  have hs := setsP_ok _ hf
  have hrs : ∀ x ∈ dY (ac.outT a) (ac.flatT a l), okS x := fun x hx => hf x (restP_sub _ _ x hx)
  unfold fx
  split
  · exact ok_stop a
  · generalize ff (ac.flatT a l) = ss at *
    generalize dY (ac.outT a) (ac.flatT a l) = rs at *
    unfold joinT
    split
    · exact wrapT_ok ha (ok_out a) (fun x hx => by
        have := ((risAll_ok rs [] List.Pairwise.nil).2 x).1 hx
        rcases this with h | h
        · simp at h
        · exact hrs x h)
    · split
      · rename_i hu
        split
        · exact ok_z
        · have ho := (uni_ev a ss (by omega) hs).1
          exact wrapT_ok ha (ok_out a) (fun x hx => by
            have := ((risAll_ok _ [] List.Pairwise.nil).2 x).1 hx
            rcases this with h | h
            · simp at h
            · rcases List.mem_append.1 h with h | h
              · exact hrs x h
              · rw [List.mem_singleton] at h
                rw [h]
                exact ok_mk (Out_ok ho hs hu) (fun e => absurd e (by decide)) (fun y hy => by simp at hy))
      · exact ok_z
theorem bothT_err (a : Int) (l : List S25) (h : (fx a l).2 ≠ 0) : (fx a l).1 = z25 := by
  unfold fx at h ⊢
  split
  · rename_i c; rw [if_pos c] at h; exact absurd rfl h
  · rename_i c
    rw [if_neg c] at h
    unfold joinT at h ⊢
    split
    · rename_i c; rw [if_pos c] at h; exact absurd rfl h
    · rename_i c
      rw [if_neg c] at h
      split
      · rename_i c; rw [if_pos c] at h
        split
        · rfl
        · rename_i c2; rw [if_neg c2] at h; exact absurd rfl h
      · rfl
theorem kid0 {l : List S25} (h : l.length = 1) : l = [an l 0] := by
  match l, h with
  | [x], _ => rfl
theorem kid0m {l : List S25} (h : l.length = 1) : an l 0 ∈ l ∧ ndL l = nd (an l 0) := by
  match l, h with
  | [x], _ => exact ⟨List.mem_singleton.2 rfl, by rw [ndL, ndL]; rfl⟩
theorem not_kid {x : S25} (hx : okS x) (h : x.f0 = 6) : 0 < (x.f2.length : Int) ∧ an x.f2 0 ∈ x.f2 := by
  have := ((okS_eq x).1 hx).1.2 h
  have hl : 0 < x.f2.length := List.length_pos_iff.2 this
  refine ⟨by omega, ?_⟩
  have := dS x.f2 0 hl
  rw [show ((0 : Nat) : Int) = 0 from rfl] at this
  rw [this]
  exact List.getElem_mem hl
theorem notT_nd {x : S25} (hx : okS x) : nd (notT x) ≤ 1 + nd x ∧ okS (notT x) := by
  unfold notT
  split
  · rename_i h
    have h1 := not_kid hx h
    have h2 := ndL_mem x.f2 _ h1.2
    have h3 : 1 + ndL x.f2 = nd x := by cases x; rw [nd]
    exact ⟨by omega, ((okS_eq x).1 hx).2 _ h1.2⟩
  · exact ⟨by rw [nd, ndL, ndL]; omega, ok_mk fM (fun _ => by simp) (fun y hy => by rw [List.mem_singleton] at hy; rw [hy]; exact hx)⟩
theorem starT_nd {x : S25} (hx : okS x) : nd (starT x) ≤ 1 + nd x ∧ okS (starT x) := by
  unfold starT
  split
  · exact ⟨by omega, hx⟩
  · split
    · exact ⟨by rw [nd_em]; omega, ok_em⟩
    · split
      · exact ⟨by rw [nd_em]; omega, ok_em⟩
      · exact ⟨by rw [nd, ndL, ndL]; omega, ok_mk fM (fun e => absurd e (by decide)) (fun y hy => by rw [List.mem_singleton] at hy; rw [hy]; exact hx)⟩
theorem madeT_ok {a : Int} {s : List S51} {m : List S25} (hp : fu a s m.length) (hb : ndL m ≤ 1048576) (hm : ∀ x ∈ m, okS x) : nd (fE a s m).1 ≤ 1 + ndL m ∧ okS (fE a s m).1 ∧ ((fE a s m).2 ≠ 0 → (fE a s m).1 = z25) := by
  unfold fu at hp
  unfold fE
  by_cases c1 : a = 1
  · rw [if_pos c1]; exact ⟨by rw [nd_em]; omega, ok_em, fun h => absurd rfl h⟩
  rw [if_neg c1]
  by_cases c2 : a = 2
  · rw [if_pos c2]
    have hc : cO s = 0 := by
      rcases hp with h | h | h | h
      · omega
      · exact h.2.2
      · omega
      · omega
    refine ⟨?_, ?_, fun h => absurd rfl h⟩
    · unfold setX; split
      · rw [nd_z]; omega
      · rw [nd, ndL]; omega
    · unfold setX; split
      · exact ok_z
      · exact ok_mk hc (fun e => absurd e (by decide)) (fun y hy => by simp at hy)
  rw [if_neg c2]
  by_cases c3 : a = 3
  · rw [if_pos c3]; exact ⟨catT_nd m, catT_ok m hm, fun h => absurd rfl h⟩
  rw [if_neg c3]
  have hml := dW m
  by_cases c4 : a = 4
  · rw [if_pos c4]; have := bothT_nd 4 m; exact ⟨by omega, bothT_ok 4 (by decide) m hb hm, bothT_err 4 m⟩
  rw [if_neg c4]
  by_cases c5 : a = 5
  · rw [if_pos c5]; have := bothT_nd 5 m; exact ⟨by omega, bothT_ok 5 (by decide) m hb hm, bothT_err 5 m⟩
  rw [if_neg c5]
  by_cases c67 : a = 6 ∨ a = 7
  · have hk := kid0 (show m.length = 1 by omega)
    have hx : okS (an m 0) := hm _ (kid0m (show m.length = 1 by omega)).1
    have hn : ndL m = nd (an m 0) := (kid0m (show m.length = 1 by omega)).2
    by_cases c6 : a = 6
    · rw [if_pos c6]; have := notT_nd hx; exact ⟨by simp only; omega, this.2, fun h => absurd rfl h⟩
    · rw [if_neg c6, if_pos (by omega)]; have := starT_nd hx; exact ⟨by simp only; omega, this.2, fun h => absurd rfl h⟩
  · rw [if_neg (by omega), if_neg (by omega)]
    exact ⟨by rw [nd_z]; omega, ok_z, fun h => absurd rfl h⟩
theorem not_ev (x : S25) (hx : okS x) : fh.f x.f0 x.f1 x.f2 = some (q3 (notT x)) ∧ cU.f x.f0 x.f1 x.f2 = some (q3 (notT x)) := by
  unfold fh.f cU.f notT
  by_cases c : x.f0 = 6
  · have := (not_kid hx c).1
    simp only [if_pos c, if_pos this]
    refine ⟨?_, ?_⟩ <;> first | rfl | trivial
  · simp only [if_neg c, eta25]
    refine ⟨?_, ?_⟩ <;> first | rfl | trivial
theorem star_ev (x : S25) : dV.f x.f0 x.f1 x.f2 = some (q3 (starT x)) ∧ cR.f x.f0 x.f1 x.f2 = some (q3 (starT x)) := by
  unfold dV.f cR.f starT
  by_cases c : x.f0 = 7
  · simp only [if_pos c]
    refine ⟨?_, ?_⟩ <;> first | rfl | trivial
  · by_cases c1 : x.f0 = 1
    · simp only [if_neg c, if_pos c1]
      refine ⟨?_, ?_⟩ <;> first | rfl | trivial
    · by_cases c0 : x.f0 = 0
      · simp only [if_neg c, if_neg c1, if_pos c0]
        refine ⟨?_, ?_⟩ <;> first | rfl | trivial
      · simp only [if_neg c, if_neg c1, if_neg c0, eta25]
        refine ⟨?_, ?_⟩ <;> first | rfl | trivial
theorem set_ev (s : List S51) : cT.f s = some (q3 (setX s)) ∧ cG.f s = some (q3 (setX s)) := by
  unfold cT.f cG.f setX
  by_cases c : s = []
  · simp [c, q3, z25, S25.f0, S25.f1, S25.f2]
  · have : ¬ (s.length : Int) = 0 := fun e => c (List.length_eq_zero_iff.1 (by omega))
    simp only [if_neg c, if_neg this]
    refine ⟨?_, ?_⟩ <;> first | rfl | trivial
theorem made_evT {a : Int} {s : List S51} {m : List S25} (hp : fu a s m.length) (hb : ndL m ≤ 524288) (hm : ∀ x ∈ m, okS x) : Ev (fun k => cH.f k a s m) (q4 (fE a s m).1 (fE a s m).2) := by
  unfold fu at hp
  unfold cH.f fE
  by_cases c1 : a = 1
  · simp only [if_pos c1]; exact Ev.now _
  by_cases c2 : a = 2
  · simp only [if_neg c1, if_pos c2, (set_ev s).1]; exact Ev.now _
  by_cases c3 : a = 3
  · simp only [if_neg c1, if_neg c2, if_pos c3]
    exact Ev.bind (cat_ev m (by omega)) (Ev.now _)
  by_cases c4 : a = 4
  · subst c4
    simp only [if_neg c1, if_neg c2, if_neg c3, if_true]
    apply Ev.succ
    simp only [cH.j0, show ((4 : Int) == 4) = true from rfl, if_true]
    exact Ev.bind (both_evT 4 (.inl rfl) m (by omega) hm) (Ev.now _)
  by_cases c5 : a = 5
  · subst c5
    simp only [if_neg c1, if_neg c2, if_neg c3, if_neg c4, if_true]
    apply Ev.succ
    simp only [cH.j0, show ((5 : Int) == 5) = true from rfl, if_true]
    exact Ev.bind (both_evT 5 (.inr rfl) m (by omega) hm) (Ev.now _)
  simp only [if_neg c1, if_neg c2, if_neg c3, if_neg c4, if_neg c5]
  apply Ev.succ
  simp only [cH.j0, beq_eq_false_iff_ne.2 c5, if_neg (show ¬ false = true by decide)]
  by_cases c67 : a = 6 ∨ a = 7
  · have hl : m.length = 1 := by omega
    have hx : okS (an m 0) := hm _ (kid0m hl).1
    simp only [hl, if_pos (show (0 : Int) < ((1 : Nat) : Int) by decide)]
    by_cases c6 : a = 6
    · simp only [if_pos c6, (not_ev _ hx).1]; exact Ev.now _
    · simp only [if_neg c6, if_pos (show a = 7 by omega), (star_ev _).1]; exact Ev.now _
  · simp only [if_neg (show ¬ a = 6 by omega), if_neg (show ¬ a = 7 by omega)]
    exact Ev.now _
def ErrZ (p : S25 × Int) : Prop := p.2 ≠ 0 → p.1 = z25
def NrmOk (x : S25) : Prop := nd (nrmT x).1 ≤ nd x ∧ okS (nrmT x).1 ∧ ErrZ (nrmT x)
noncomputable def endN (a : Int) (s : List S51) (acc : List S25) (p : List S25 × Int) : S25 × Int := if p.2 = 0 then fE a s (acc ++ p.1) else (z25, p.2)
theorem normal_loop (a : Int) (s : List S51) (l : List S25) (hb : ndL l ≤ 524288)
    (hx : ∀ y ∈ l, NrmOk y ∧ EvT cd.f y (q4 (nrmT y).1 (nrmT y).2))
    (hE : ∀ m : List S25, m.length = l.length → ndL m ≤ ndL l → (∀ x ∈ m, okS x) → Ev (fun k => cH.f k a s m) (q4 (fE a s m).1 (fE a s m).2)) (n : Nat) :
    ∀ (i : Nat) (acc : List S25), i + n = l.length → acc.length = i → ndL acc + ndL (l.drop i) ≤ ndL l → (∀ x ∈ acc, okS x) →
      Ev (fun k => cd.l0 k acc l (l.length : Int) i a s l) (q4 (endN a s acc (nrmL (l.drop i))).1 (endN a s acc (nrmL (l.drop i))).2) := by
  have hl := dW l
  induction n with
  | zero =>
    intro i acc hi ha hn hok
    apply Ev.succ
    rw [List.drop_eq_nil_of_le (show l.length ≤ i by omega)] at hn ⊢
    rw [nrmL, endN, if_pos rfl, List.append_nil]
    simp only [cd.l0, if_neg (show ¬ (i : Int) < (l.length : Int) by omega)]
    exact Ev.bind (hE acc (by omega) (by omega) hok) (Ev.now _)
  | succ n ih =>
    intro i acc hi ha hn hok
    have hil : i < l.length := by omega
    obtain ⟨⟨n1, n2, n3⟩, e1⟩ := hx l[i] (List.getElem_mem hil)
    rw [List.drop_eq_getElem_cons hil] at hn ⊢
    rw [ndL] at hn
    apply Ev.succ
    simp only [cd.l0, if_pos (show (i : Int) < (l.length : Int) by omega), if_pos (show (0 : Int) ≤ (i : Int) by omega), dS l i hil]
    refine Ev.bind e1 ?_
    simp only [q4]
    rw [nrmL]
    by_cases c : (nrmT l[i]).2 = 0
    · simp only [if_pos c, if_pos (show acc.length < 2513169434916 by omega), eta25]
      rw [inc (by omega)]
      refine dI (ih (i + 1) (acc ++ [(nrmT l[i]).1]) (by omega) (by rw [List.length_append, List.length_singleton]; omega) (by rw [gt, ndL, ndL]; omega) (fun x hx => by
        rcases List.mem_append.1 hx with h | h
        · exact hok x h
        · rw [List.mem_singleton] at h; rw [h]; exact n2)) ?_
      unfold endN
      by_cases c2 : (nrmL (l.drop (i + 1))).2 = 0
      · simp only [if_pos c2, if_true, List.append_assoc, List.singleton_append]
      · simp only [if_neg c2]
    · simp only [if_neg c, cS.f, Option.bind, endN]
      exact Ev.now _
theorem rnormal_loop (a : Int) (s : List S51) (l : List S25) (hb : ndL l ≤ 524288)
    (hx : ∀ y ∈ l, NrmOk y ∧ EvT aZ.f y (q4 (nrmT y).1 (nrmT y).2))
    (hE : ∀ m : List S25, m.length = l.length → ndL m ≤ ndL l → (∀ x ∈ m, okS x) → Ev (fun k => if a = 2 then ((cG.f s).bind fun bt466 => (some (bt466.1, bt466.2.1, bt466.2.2, (0 : Int)))) else (if a = 3 then ((bH.f k m).bind fun bt473 => (some (bt473.1, bt473.2.1, bt473.2.2, (0 : Int)))) else (if a = 4 then ((cX.f k m).bind fun bt480 => (some (bt480.1, bt480.2.1, bt480.2.2.1, bt480.2.2.2))) else (if a = 5 then ((cW.f k m).bind fun bt488 => (some (bt488.1, bt488.2.1, bt488.2.2.1, bt488.2.2.2))) else (if a = 6 then (if 0 < (m.length : Int) then ((cU.f ((an m 0).f0) ((an m 0).f1) ((an m 0).f2)).bind fun bt497 => (some (bt497.1, bt497.2.1, bt497.2.2, (0 : Int)))) else none) else (if a = 7 then (if 0 < (m.length : Int) then ((cR.f ((an m 0).f0) ((an m 0).f1) ((an m 0).f2)).bind fun bt505 => (some (bt505.1, bt505.2.1, bt505.2.2, (0 : Int)))) else none) else (some (a, s, l, (0 : Int))))))))) (q4 (fE a s m).1 (fE a s m).2)) (n : Nat) :
    ∀ (i : Nat) (acc : List S25), i + n = l.length → acc.length = i → ndL acc + ndL (l.drop i) ≤ ndL l → (∀ x ∈ acc, okS x) →
      Ev (fun k => aZ.l0 k acc i a s l) (q4 (endN a s acc (nrmL (l.drop i))).1 (endN a s acc (nrmL (l.drop i))).2) := by
  have hl := dW l
  induction n with
  | zero =>
    intro i acc hi ha hn hok
    apply Ev.succ
    rw [List.drop_eq_nil_of_le (show l.length ≤ i by omega)] at hn ⊢
    rw [nrmL, endN, if_pos rfl, List.append_nil]
    simp only [aZ.l0, if_neg (show ¬ (i : Int) < (l.length : Int) by omega)]
    exact hE acc (by omega) (by omega) hok
  | succ n ih =>
    intro i acc hi ha hn hok
    have hil : i < l.length := by omega
    obtain ⟨⟨n1, n2, n3⟩, e1⟩ := hx l[i] (List.getElem_mem hil)
    rw [List.drop_eq_getElem_cons hil] at hn ⊢
    rw [ndL] at hn
    apply Ev.succ
    simp only [aZ.l0, if_pos (show (i : Int) < (l.length : Int) by omega), if_pos (show (0 : Int) ≤ (i : Int) by omega), dS l i hil]
    refine Ev.bind e1 ?_
    simp only [q4]
    rw [nrmL]
    by_cases c : (nrmT l[i]).2 = 0
    · simp only [if_pos c, if_pos (show acc.length < 2513169434916 by omega), eta25]
      rw [inc (by omega)]
      refine dI (ih (i + 1) (acc ++ [(nrmT l[i]).1]) (by omega) (by rw [List.length_append, List.length_singleton]; omega) (by rw [gt, ndL, ndL]; omega) (fun x hx => by
        rcases List.mem_append.1 hx with h | h
        · exact hok x h
        · rw [List.mem_singleton] at h; rw [h]; exact n2)) ?_
      unfold endN
      by_cases c2 : (nrmL (l.drop (i + 1))).2 = 0
      · simp only [if_pos c2, if_true, List.append_assoc, List.singleton_append]
      · simp only [if_neg c2]
    · simp only [if_neg c, endN, n3 c]
      exact Ev.now _
theorem rmade_evT {a : Int} {s : List S51} {l m : List S25} (hlm : m.length = l.length) (hp : fu a s m.length) (hb : ndL m ≤ 524288) (hm : ∀ x ∈ m, okS x) :
    Ev (fun k => if a = 2 then ((cG.f s).bind fun bt466 => (some (bt466.1, bt466.2.1, bt466.2.2, (0 : Int)))) else (if a = 3 then ((bH.f k m).bind fun bt473 => (some (bt473.1, bt473.2.1, bt473.2.2, (0 : Int)))) else (if a = 4 then ((cX.f k m).bind fun bt480 => (some (bt480.1, bt480.2.1, bt480.2.2.1, bt480.2.2.2))) else (if a = 5 then ((cW.f k m).bind fun bt488 => (some (bt488.1, bt488.2.1, bt488.2.2.1, bt488.2.2.2))) else (if a = 6 then (if 0 < (m.length : Int) then ((cU.f ((an m 0).f0) ((an m 0).f1) ((an m 0).f2)).bind fun bt497 => (some (bt497.1, bt497.2.1, bt497.2.2, (0 : Int)))) else none) else (if a = 7 then (if 0 < (m.length : Int) then ((cR.f ((an m 0).f0) ((an m 0).f1) ((an m 0).f2)).bind fun bt505 => (some (bt505.1, bt505.2.1, bt505.2.2, (0 : Int)))) else none) else (some (a, s, l, (0 : Int))))))))) (q4 (fE a s m).1 (fE a s m).2) := by
  unfold fu at hp
  unfold fE
  have hs : a ≠ 2 → s = [] := fun h => List.length_eq_zero_iff.1 (by omega)
  by_cases c01 : a = 0 ∨ a = 1
  · have hl : l = [] := List.length_eq_zero_iff.1 (by omega)
    have hs := hs (by omega)
    subst hl hs
    rcases c01 with rfl | rfl
    · simp only [if_neg (show ¬ (0 : Int) = 1 by decide), if_neg (show ¬ (0 : Int) = 2 by decide), if_neg (show ¬ (0 : Int) = 3 by decide), if_neg (show ¬ (0 : Int) = 4 by decide), if_neg (show ¬ (0 : Int) = 5 by decide), if_neg (show ¬ (0 : Int) = 6 by decide), if_neg (show ¬ (0 : Int) = 7 by decide)]
      exact Ev.now _
    · simp only [if_neg (show ¬ (1 : Int) = 2 by decide), if_neg (show ¬ (1 : Int) = 3 by decide), if_neg (show ¬ (1 : Int) = 4 by decide), if_neg (show ¬ (1 : Int) = 5 by decide), if_neg (show ¬ (1 : Int) = 6 by decide), if_neg (show ¬ (1 : Int) = 7 by decide)]
      exact Ev.now _
  simp only [if_neg (show ¬ a = 1 by omega)]
  by_cases c2 : a = 2
  · simp only [if_pos c2, (set_ev s).2]; exact Ev.now _
  simp only [if_neg c2]
  by_cases c3 : a = 3
  · simp only [if_pos c3]
    exact Ev.bind (rcat_ev m (by omega)) (Ev.now _)
  simp only [if_neg c3]
  by_cases c4 : a = 4
  · simp only [if_pos c4]
    exact Ev.bind (alt_ev m hb hm) (Ev.now _)
  simp only [if_neg c4]
  by_cases c5 : a = 5
  · simp only [if_pos c5]
    exact Ev.bind (and_ev m hb hm) (Ev.now _)
  simp only [if_neg c5]
  have hl : m.length = 1 := by omega
  have hx : okS (an m 0) := hm _ (kid0m hl).1
  simp only [hl, if_pos (show (0 : Int) < ((1 : Nat) : Int) by decide)]
  by_cases c6 : a = 6
  · simp only [if_pos c6, (not_ev _ hx).2]; exact Ev.now _
  · simp only [if_neg c6, if_pos (show a = 7 by omega), (star_ev _).2]; exact Ev.now _
theorem nrmL_ok : ∀ l : List S25, (∀ y ∈ l, NrmOk y) → (nrmL l).2 = 0 → (nrmL l).1.length = l.length ∧ ndL (nrmL l).1 ≤ ndL l ∧ ∀ x ∈ (nrmL l).1, okS x
  | [], _, _ => by simp [nrmL, ndL]
  | y :: l, h, h0 => by
    rw [nrmL] at h0 ⊢
    split at h0
    · rename_i c
      rw [if_pos c]
      split at h0
      · rename_i c2
        rw [if_pos c2]
        obtain ⟨i1, i2, i3⟩ := nrmL_ok l (fun z hz => h z (by simp [hz])) c2
        obtain ⟨n1, n2, _⟩ := h y (by simp)
        refine ⟨by simp [i1], by rw [ndL, ndL]; omega, fun x hx => ?_⟩
        rcases List.mem_cons.1 hx with rfl | hx
        · exact n2
        · exact i3 x hx
      · rename_i c2; exact absurd h0 c2
    · rename_i c; exact absurd h0 c
theorem normal_ev : ∀ x, mayT x → nd x ≤ 524288 → NrmOk x ∧ EvT cd.f x (q4 (nrmT x).1 (nrmT x).2) ∧ EvT aZ.f x (q4 (nrmT x).1 (nrmT x).2) := by
  refine fU (fun a s l ih hm hb => ?_)
  rw [mayT] at hm
  rw [nd] at hb
  have IH : ∀ y ∈ l, NrmOk y ∧ EvT cd.f y (q4 (nrmT y).1 (nrmT y).2) ∧ EvT aZ.f y (q4 (nrmT y).1 (nrmT y).2) := fun y hy => ih y hy (mayL_mem hm.1 y hy) (by have := ndL_mem l y hy; omega)
  have hp : ∀ m : List S25, m.length = l.length → fu a s m.length := fun m h => by rw [h]; exact hm.2
  have h1 := normal_loop a s l (by omega) (fun y hy => ⟨(IH y hy).1, (IH y hy).2.1⟩) (fun m e1 e2 e3 => made_evT (hp m e1) (by omega) e3) l.length 0 [] (by omega) rfl (by rw [ndL, List.drop_zero]; omega) (fun x hx => by simp at hx)
  have h2 := rnormal_loop a s l (by omega) (fun y hy => ⟨(IH y hy).1, (IH y hy).2.2⟩) (fun m e1 e2 e3 => rmade_evT e1 (hp m e1) (by omega) e3) l.length 0 [] (by omega) rfl (by rw [ndL, List.drop_zero]; omega) (fun x hx => by simp at hx)
  rw [List.drop_zero] at h1 h2
  have he : nrmT ⟨a, s, l⟩ = endN a s [] (nrmL l) := by
    rw [nrmT, endN, List.nil_append]
  refine ⟨?_, ?_, ?_⟩
  · unfold NrmOk ErrZ
    rw [he]
    unfold endN
    by_cases c : (nrmL l).2 = 0
    · rw [if_pos c, List.nil_append]
      obtain ⟨i1, i2, i3⟩ := nrmL_ok l (fun y hy => (IH y hy).1) c
      obtain ⟨m1, m2, m3⟩ := madeT_ok (hp _ i1) (by omega) i3
      exact ⟨by rw [nd]; omega, m2, m3⟩
    · rw [if_neg c]
      exact ⟨by rw [nd_z, nd]; omega, ok_z, fun _ => rfl⟩
  · apply Ev.succ
    simp only [cd.f]
    rw [he]
    exact h1
  · apply Ev.succ
    simp only [aZ.f]
    rw [he]
    exact h2
theorem pa_ok : ∀ x, okS x → pa x ≤ 2049 * nd x := by
  refine fU (fun a s l ih h => ?_)
  rw [okS, okSL_iff] at h
  rw [pa, nd]
  have hs := (gf h.1.1).2
  have hl : ∀ m : List S25, (∀ y ∈ m, pa y ≤ 2049 * nd y) → paL m ≤ 2049 * ndL m := by
    intro m
    induction m with
    | nil => intro _; rw [paL, ndL]; omega
    | cons y m ihm =>
      intro hm
      rw [paL, ndL]
      have h1 := hm y (by simp)
      have h2 := ihm (fun z hz => hm z (by simp [hz]))
      omega
  have := hl l (fun y hy => ih y hy (h.2 y hy))
  omega
theorem nd_le_pa : ∀ x, nd x ≤ pa x := by
  refine fU (fun a s l ih => ?_)
  rw [nd, pa]
  have h : ∀ m : List S25, (∀ y ∈ m, nd y ≤ pa y) → ndL m ≤ paL m := by
    intro m
    induction m with
    | nil => intro _; rw [ndL, paL]; omega
    | cons y m ihm =>
      intro hm
      rw [ndL, paL]
      have h1 := hm y (by simp)
      have h2 := ihm (fun z hz => hm z (by simp [hz]))
      omega
  have := h l ih
  omega
noncomputable def dU (x : S25) : Bool := @decide (fits x ∧ mayT x ∧ nrmT x = (x, 0)) (Classical.propDecidable _)
theorem fp (x : S25) : dU x = true ↔ fits x ∧ mayT x ∧ nrmT x = (x, 0) := by unfold dU; exact @decide_eq_true_iff _ (Classical.propDecidable _)
theorem right_ev (x : S25) (hb : pa x ≤ 1048576) (hw : wfT x) : EvT bX.f x (dU x) ∧ EvT cA.f x (dU x) := by
  have hn := nd_le_pa x
  obtain ⟨b, hbm, em, rm⟩ := may_ev x (by omega) hw
  unfold EvT bX.f cA.f bg.f
  by_cases hf : fits x
  · have hnd : nd x ≤ 4096 := by unfold fits at hf; omega
    cases b with
    | false =>
      have hr : dU x = false := by
        cases h : dU x with
        | false => rfl
        | true => exact absurd (hbm.2 ((fp x).1 h).2.1) (by decide)
      rw [hr]
      constructor
      · refine Ev.bind (sized_ev x (by omega)) ?_
        simp only [(fG x).2 hf, if_true]
        refine Ev.bind em ?_
        apply Ev.succ
        simp only [bX.j0, Bool.not_false, if_true]
        exact Ev.now _
      · refine Ev.bind (a := (0, [], [], 40)) ?_ ?_
        · refine Ev.bind (fits_ev x (by omega)) ?_
          simp only [decide_eq_true hf, if_true]
          refine Ev.bind rm ?_
          apply Ev.succ
          simp only [bg.j0, Bool.not_false, if_true]
          exact Ev.now _
        · simp only [if_neg (show ¬ (40 : Int) = 0 by decide)]
          exact Ev.now _
    | true =>
      have hmay := hbm.1 rfl
      obtain ⟨⟨n1, n2, n3⟩, e1, e2⟩ := normal_ev x hmay (by omega)
      constructor
      · refine Ev.bind (sized_ev x (by omega)) ?_
        simp only [(fG x).2 hf, if_true]
        refine Ev.bind em ?_
        apply Ev.succ
        simp only [bX.j0, Bool.not_true, if_neg (show ¬ false = true by decide)]
        refine Ev.bind e1 ?_
        simp only [q4]
        by_cases c : (nrmT x).2 = 0
        · simp only [if_pos c]
          refine dI (Ev.bind (same_ev (nrmT x).1 x (by omega)) (Ev.now _)) ?_
          rw [Bool.eq_iff_iff, eqB_iff, fp]
          constructor
          · intro h; exact ⟨hf, hmay, Prod.ext h c⟩
          · intro h; exact congrArg Prod.fst h.2.2
        · simp only [if_neg c]
          refine dI (Ev.now false) ?_
          symm
          rw [Bool.eq_false_iff]
          intro h
          exact c (congrArg Prod.snd ((fp x).1 h).2.2)
      · have hp := pa_ok _ n2
        by_cases c : (nrmT x).2 = 0
        · by_cases c2 : fH (nrmT x).1 = 0
          · refine Ev.bind (a := q4 (nrmT x).1 0) ?_ ?_
            · refine Ev.bind (fits_ev x (by omega)) ?_
              simp only [decide_eq_true hf, if_true]
              refine Ev.bind rm ?_
              apply Ev.succ
              simp only [bg.j0, Bool.not_true, if_neg (show ¬ false = true by decide)]
              refine Ev.bind e2 ?_
              simp only [q4, if_pos c]
              refine Ev.bind (limits_ev (nrmT x).1 (by omega)) ?_
              simp only [c2, if_true]
              exact Ev.now _
            · simp only [q4, if_true]
              refine dI (Ev.bind (rsame_ev (nrmT x).1 x (by omega)) (Ev.now _)) ?_
              rw [Bool.eq_iff_iff, eqB_iff, fp]
              constructor
              · intro h; exact ⟨hf, hmay, Prod.ext h c⟩
              · intro h; exact congrArg Prod.fst h.2.2
          · refine Ev.bind (a := (0, [], [], fH (nrmT x).1)) ?_ ?_
            · refine Ev.bind (fits_ev x (by omega)) ?_
              simp only [decide_eq_true hf, if_true]
              refine Ev.bind rm ?_
              apply Ev.succ
              simp only [bg.j0, Bool.not_true, if_neg (show ¬ false = true by decide)]
              refine Ev.bind e2 ?_
              simp only [q4, if_pos c]
              refine Ev.bind (limits_ev (nrmT x).1 (by omega)) ?_
              simp only [if_neg c2]
              exact Ev.now _
            · simp only [if_neg c2]
              refine dI (Ev.now false) ?_
              symm
              rw [Bool.eq_false_iff]
              intro h
              have h := ((fp x).1 h).2.2
              rw [h] at c2
              exact c2 ((fG x).2 hf)
        · refine Ev.bind (a := (0, [], [], (nrmT x).2)) ?_ ?_
          · refine Ev.bind (fits_ev x (by omega)) ?_
            simp only [decide_eq_true hf, if_true]
            refine Ev.bind rm ?_
            apply Ev.succ
            simp only [bg.j0, Bool.not_true, if_neg (show ¬ false = true by decide)]
            refine Ev.bind e2 ?_
            simp only [q4, if_neg c]
            exact Ev.now _
          · simp only [if_neg c]
            refine dI (Ev.now false) ?_
            symm
            rw [Bool.eq_false_iff]
            intro h
            exact c (congrArg Prod.snd ((fp x).1 h).2.2)
  · have hr : dU x = false := by
      cases h : dU x with
      | false => rfl
      | true => exact absurd ((fp x).1 h).1 hf
    rw [hr]
    constructor
    · refine Ev.bind (sized_ev x (by omega)) ?_
      simp only [if_neg (show ¬ fH x = 0 from fun e => hf ((fG x).1 e))]
      apply Ev.succ
      simp only [bX.j0, if_true]
      exact Ev.now _
    · refine Ev.bind (a := (0, [], [], 40)) ?_ ?_
      · refine Ev.bind (fits_ev x (by omega)) ?_
        simp only [decide_eq_false hf, if_neg (show ¬ false = true by decide)]
        apply Ev.succ
        simp only [bg.j0, if_true]
        exact Ev.now _
      · simp only [if_neg (show ¬ (40 : Int) = 0 by decide)]
        exact Ev.now _
theorem bk_pa : ∀ x, pa x ≤ bk25 x := by
  refine fU (fun a s l ih => ?_)
  rw [pa, bk25]
  have h : ∀ m : List S25, (∀ y ∈ m, pa y ≤ bk25 y) → paL m ≤ bkL25 m := by
    intro m
    induction m with
    | nil => intro _; rw [paL, bkL25]; omega
    | cons y m ihm =>
      intro hm
      rw [paL, bkL25]
      have h1 := hm y (by simp)
      have h2 := ihm (fun z hz => hm z (by simp [hz]))
      omega
  have := h l ih
  omega
theorem wf_wfT : ∀ x, wf25 x → pa x ≤ 1048576 → wfT x := by
  refine fU (fun a s l ih h hb => ?_)
  rw [wf25] at h
  rw [pa] at hb
  rw [wfT]
  refine ⟨⟨by omega, wf_of h.1.2⟩, ?_⟩
  have h2 : ∀ m : List S25, (∀ y ∈ m, y ∈ l) → paL m ≤ 1048576 → wfL25 m → wfL m := by
    intro m
    induction m with
    | nil => intro _ _ _; rw [wfL]; trivial
    | cons y m ihm =>
      intro hm hp hw
      rw [wfL25] at hw
      rw [paL] at hp
      rw [wfL]
      exact ⟨ih y (hm y (by simp)) hw.1 (by omega), ihm (fun z hz => hm z (by simp [hz])) (by omega) hw.2⟩
  exact h2 l (fun y hy => hy) (by omega) h.2
theorem rights_loop (l : List S25) (hl : l.length ≤ 1048576) (hx : ∀ y ∈ l, pa y ≤ 1048576 ∧ wfT y) (n : Nat) : ∀ i : Nat, i + n = l.length → Ev (fun k => bZ.l0 k l (l.length : Int) i) ((l.drop i).all dU) := by
  induction n with
  | zero =>
    intro i hi
    apply Ev.succ
    rw [List.drop_eq_nil_of_le (by omega)]
    simp only [bZ.l0, if_neg (show ¬ (i : Int) < (l.length : Int) by omega)]
    exact Ev.now _
  | succ n ih =>
    intro i hi
    have hil : i < l.length := by omega
    apply Ev.succ
    rw [List.drop_eq_getElem_cons hil, List.all_cons]
    simp only [bZ.l0, if_pos (show (i : Int) < (l.length : Int) by omega), if_pos (show (0 : Int) ≤ (i : Int) by omega), dS l i hil]
    have h := hx _ (List.getElem_mem hil)
    refine Ev.bind (right_ev l[i] h.1 h.2).1 ?_
    cases hr : dU l[i] with
    | true =>
      simp only [if_true, Bool.true_and]
      rw [inc (by omega)]
      exact ih (i + 1) (by omega)
    | false =>
      simp only [if_neg (show ¬ false = true by decide), Bool.false_and]
      exact Ev.now _
theorem rights_ev (l : List S25) (hl : l.length ≤ 1048576) (hx : ∀ y ∈ l, pa y ≤ 1048576 ∧ wfT y) : Ev (fun k => bZ.f k l) (l.all dU) := by
  unfold bZ.f
  exact rights_loop l hl hx l.length 0 (by omega)
theorem compare_ev (x y : S25) (hx : pa x ≤ 1048576 ∧ wfT x) (hy : pa y ≤ 1048576 ∧ wfT y) : Ev (fun k => cJ.f k x.f0 x.f1 x.f2 y.f0 y.f1 y.f2) (if dU x = true ∧ dU y = true then ac.ordT x y else 0) := by
  have hn := nd_le_pa x
  unfold cJ.f
  simp only [eta25]
  refine Ev.bind (rights_ev [x, y] (by simp) (fun z hz => by
    simp only [List.mem_cons, List.not_mem_nil, or_false] at hz
    rcases hz with rfl | rfl
    · exact hx
    · exact hy)) ?_
  simp only [List.all_cons, List.all_nil, Bool.and_true, Bool.and_eq_true]
  by_cases c : dU x = true ∧ dU y = true
  · simp only [if_pos c]
    unfold am.f
    exact Ev.bind (f := fun k t => some t) (gc x (by omega) y) (Ev.now _)
  · simp only [if_neg c]
    exact Ev.now _
theorem RegexOrders : aD.PureU := by
  intro x y hwx hbx hwy hby
  have hpx := bk_pa x
  have hpy := bk_pa y
  have hn := nd_le_pa x
  have hx : pa x ≤ 1048576 ∧ wfT x := ⟨by omega, wf_wfT x hwx (by omega)⟩
  have hy : pa y ≤ 1048576 ∧ wfT y := ⟨by omega, wf_wfT y hwy (by omega)⟩
  have hc := compare_ev x y hx hy
  suffices h : Ev (fun k => aD.f k x.f0 x.f1 x.f2 y.f0 y.f1 y.f2) true by exact h.rounds
  unfold aD.f
  refine Ev.bind (right_ev x hx.1 hx.2).2 ?_
  have hno : ∀ b : Bool, ¬ (dU x = true ∧ dU y = true) → Ev (fun k => aD.j0 k 0 false x.f0 x.f1 x.f2 y.f0 y.f1 y.f2) true := fun b c => by
    rw [if_neg c] at hc
    apply Ev.succ
    simp only [aD.j0, if_neg (show ¬ false = true by decide)]
    refine Ev.bind hc ?_
    simp only [if_true]
    exact Ev.now _
  cases hrx : dU x with
  | true =>
    simp only [if_true]
    refine Ev.bind (right_ev y hy.1 hy.2).2 ?_
    cases hry : dU y with
    | true =>
      rw [if_pos ⟨hrx, hry⟩] at hc
      apply Ev.succ
      simp only [aD.j0, if_true]
      refine Ev.bind (gc x (by omega) y) ?_
      refine Ev.bind hc ?_
      simp only [if_true]
      exact Ev.now _
    | false => exact hno true (by rw [hry]; exact fun h => absurd h.2 (by decide))
  | false =>
    simp only [if_neg (show ¬ false = true by decide)]
    exact hno true (by rw [hrx]; exact fun h => absurd h.1 (by decide))
end Go.Proofs.YtaccleilcdfapaaGreat.Pure
