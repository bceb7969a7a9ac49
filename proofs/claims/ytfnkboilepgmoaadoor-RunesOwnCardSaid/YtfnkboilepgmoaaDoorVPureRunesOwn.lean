import Derived.Test.YtfnkboilepgmoaaDoorVPre
import Derived.Test.YtfnkboilepgmoaaDoorVax0
import Derived.Test.YtfnkboilepgmoaaDoorVax1
import Derived.Test.YtfnkboilepgmoaaDoorVax2
import Derived.Test.YtfnkboilepgmoaaDoorVax3
import Derived.Test.YtfnkboilepgmoaaDoorVax4
import Derived.Test.YtfnkboilepgmoaaDoorVax5
import Derived.Test.YtfnkboilepgmoaaDoorVax6
import Derived.Test.YtfnkboilepgmoaaDoorVax7

namespace Go.Proofs.YtfnkboilepgmoaaDoor.Pure
open Go.RowKit Go.Proofs.YtfnkboilepgmoaaDoor.R Go.Proofs.YtfnkboilepgmoaaDoorW.PrintWords Go.Proofs.YtfnkboilepgmoaaDoorW.PrintLast
set_option maxRecDepth 100000
set_option linter.unusedVariables false
set_option linter.unusedSimpArgs false
theorem Ev.succ {α : Type} {g : Nat → Option α} {r : α} (h : Ev (fun k => g (k + 1)) r) : Ev g r := Ev.step (fun _ => rfl) h
theorem Ev.const {α : Type} {a : Option α} {r : α} (h : a = some r) : Ev (fun _ => a) r := ⟨0, fun _ _ => h⟩
theorem wr {x : Int} (h0 : -9223372036854775808 ≤ x) (h1 : x ≤ 9223372036854775807) : wrap64 x = x := by unfold wrap64; omega
theorem wr32 {x : Int} (h0 : -2147483648 ≤ x) (h1 : x ≤ 2147483647) : wrap32 x = x := by unfold wrap32; omega
theorem wf32 {x : Int} (h : (Lit.int .i32 x).wf = true) : -2147483648 ≤ x ∧ x ≤ 2147483647 := by
  have : IntKind.i32.min = -2147483648 := by decide
  have h := h
  simp only [Lit.wf, decide_eq_true_eq, Bool.and_eq_true] at h
  have h2 : IntKind.i32.max = 2147483647 := by decide
  omega
theorem rd_at (l : List S36) (i : Nat) (h : i < l.length) : rd_T36 l (i : Int) = l[i] := by
  unfold rd_T36
  rw [List.getD_eq_getElem?_getD, Int.toNat_natCast, List.getElem?_eq_getElem h]
  rfl
def Wf (l : List S36) : Prop := ∀ x ∈ l, -2147483648 ≤ x.f0 ∧ x.f0 ≤ 2147483647 ∧ -2147483648 ≤ x.f1 ∧ x.f1 ≤ 2147483647
theorem wf_of {l : List S36} (h : ∀ x ∈ l, (Lit.int .i32 x.f0).wf = true ∧ (Lit.int .i32 x.f1).wf = true) : Wf l := fun x hx => by
  have h1 := wf32 (h x hx).1
  have h2 := wf32 (h x hx).2
  omega
theorem awake_at : quoinlaw02_awake.f 60 = some true := by decide +kernel
theorem awake_ev : Ev (fun k => quoinlaw02_awake.f k) true := Ev.of (fun k => quoinlaw02_awake.mono k) awake_at
def okL : Int → List S36 → Bool
  | _, [] => true
  | p, t :: l => decide (0 ≤ t.f0 ∧ t.f0 ≤ t.f1 ∧ t.f1 ≤ 1114111 ∧ p + 2 ≤ t.f0) && okL t.f1 l
theorem okL_no {p : Int} {t : S36} {l : List S36} (h : ¬ (0 ≤ t.f0 ∧ t.f0 ≤ t.f1 ∧ t.f1 ≤ 1114111 ∧ p + 2 ≤ t.f0)) : okL p (t :: l) = false := by
  simp only [okL, decide_eq_false h, Bool.false_and]
theorem okL_yes {p : Int} {t : S36} {l : List S36} (h : 0 ≤ t.f0 ∧ t.f0 ≤ t.f1 ∧ t.f1 ≤ 1114111 ∧ p + 2 ≤ t.f0) : okL p (t :: l) = okL t.f1 l := by
  simp only [okL, decide_eq_true h, Bool.true_and]
def checkOf (l : List S36) : Int := if okL (-2) l = true then (if 2048 < l.length then 21 else 0) else 20
def prev (l : List S36) (i : Nat) (p : Int) : Prop := (i = 0 ∧ p = -2) ∨ (1 ≤ i ∧ ∃ h : i - 1 < l.length, p = (l[i - 1]).f1 ∧ 0 ≤ p ∧ p ≤ 1114111)
theorem check_loop (l : List S36) (hl : l.length ≤ 9223372036854775806) (hw : Wf l) (n : Nat) : ∀ (i : Nat) (p : Int), i + n = l.length → prev l i p → Ev (fun k => runes_Check.l0 k l l (l.length : Int) i) (if okL p (l.drop i) = true then (if 2048 < l.length then 21 else 0) else 20) := by
  induction n with
  | zero =>
    intro i p hi hp
    apply Ev.succ
    rw [List.drop_eq_nil_of_le (by omega)]
    simp only [runes_Check.l0, if_neg (show ¬ (i : Int) < (l.length : Int) by omega), okL, if_true]
    by_cases c : 2048 < l.length
    · rw [if_pos c]
      simp only [if_pos (show (l.length : Int) > 2048 by omega)]
      exact Ev.now _
    · rw [if_neg c]
      simp only [if_neg (show ¬ (l.length : Int) > 2048 by omega)]
      exact Ev.now _
  | succ n ih =>
    intro i p hi hp
    have hil : i < l.length := by omega
    apply Ev.succ
    rw [List.drop_eq_getElem_cons hil]
    obtain ⟨t, ht⟩ : ∃ t, l[i] = t := ⟨_, rfl⟩
    have hwt := hw t (ht ▸ List.getElem_mem hil)
    rw [ht]
    simp only [runes_Check.l0, if_pos (show (i : Int) < (l.length : Int) by omega), if_pos (show (0 : Int) ≤ (i : Int) by omega), rd_at l i hil, ht]
    by_cases c1 : t.f0 < 0
    · simp only [if_pos c1]
      rw [okL_no (by omega), if_neg (by decide)]
      exact Ev.now _
    simp only [if_neg c1]
    by_cases c2 : t.f1 > 1114111
    · simp only [if_pos c2]
      rw [okL_no (by omega), if_neg (by decide)]
      exact Ev.now _
    simp only [if_neg c2]
    by_cases c3 : t.f0 > t.f1
    · simp only [if_pos c3]
      rw [okL_no (by omega), if_neg (by decide)]
      exact Ev.now _
    simp only [if_neg c3]
    have hs : wrap64 ((i : Int) + 1) = ((i + 1 : Nat) : Int) := by rw [wr (by omega) (by omega)]; omega
    have hp' : prev l (i + 1) t.f1 := .inr ⟨by omega, by simpa using hil, by simp [ht], by omega, by omega⟩
    have hnext := ih (i + 1) t.f1 (by omega) hp'
    by_cases c4 : (i : Int) > 0
    · simp only [if_pos c4, wr (show -9223372036854775808 ≤ (i : Int) - 1 by omega) (show (i : Int) - 1 ≤ 9223372036854775807 by omega), if_pos (show (0 : Int) ≤ (i : Int) - 1 by omega), if_pos (show (i : Int) - 1 < (l.length : Int) by omega), wr32 (show -2147483648 ≤ t.f0 - 1 by omega) (show t.f0 - 1 ≤ 2147483647 by omega)]
      rcases hp with ⟨h0, _⟩ | ⟨h0, h1, h2, h3, h4⟩
      · omega
      have e : rd_T36 l ((i : Int) - 1) = l[i - 1] := by rw [show (i : Int) - 1 = ((i - 1 : Nat) : Int) by omega]; exact rd_at l (i - 1) h1
      rw [e, ← h2]
      by_cases c5 : t.f0 - 1 ≤ p
      · simp only [if_pos c5]
        rw [okL_no (by omega), if_neg (by decide)]
        exact Ev.now _
      · simp only [if_neg c5]
        rw [okL_yes (by omega), hs]
        exact hnext
    · simp only [if_neg c4]
      rcases hp with ⟨h0, h1⟩ | ⟨h0, _⟩
      · rw [okL_yes (by omega), hs]
        exact hnext
      · omega
theorem check_ev (l : List S36) (hl : l.length ≤ 9223372036854775806) (hw : Wf l) : Ev (fun k => runes_Check.f k l) (checkOf l) := by
  have := check_loop l hl hw l.length 0 (-2) (by omega) (.inl ⟨rfl, rfl⟩)
  rwa [List.drop_zero] at this
theorem rcheck_loop (l : List S36) (hl : l.length ≤ 9223372036854775806) (hw : Wf l) (n : Nat) : ∀ (i : Nat) (p : Int), i + n = l.length → prev l i p → Ev (fun k => quoinref02_Check.l0 k l i) (if okL p (l.drop i) = true then (if 2048 < l.length then 21 else 0) else 20) := by
  induction n with
  | zero =>
    intro i p hi hp
    apply Ev.succ
    rw [List.drop_eq_nil_of_le (by omega)]
    simp only [quoinref02_Check.l0, if_neg (show ¬ (i : Int) < (l.length : Int) by omega), okL, if_true]
    by_cases c : 2048 < l.length
    · rw [if_pos c]
      simp only [if_pos (show (l.length : Int) > 2048 by omega)]
      exact Ev.now _
    · rw [if_neg c]
      simp only [if_neg (show ¬ (l.length : Int) > 2048 by omega)]
      exact Ev.now _
  | succ n ih =>
    intro i p hi hp
    have hil : i < l.length := by omega
    have bad : Ev (fun k => quoinref02_Check.j1 k l i true) (20 : Int) := by
      apply Ev.succ
      simp only [quoinref02_Check.j1, if_true]
      exact Ev.now _
    apply Ev.succ
    rw [List.drop_eq_getElem_cons hil]
    obtain ⟨t, ht⟩ : ∃ t, l[i] = t := ⟨_, rfl⟩
    have hwt := hw t (ht ▸ List.getElem_mem hil)
    rw [ht]
    simp only [quoinref02_Check.l0, if_pos (show (i : Int) < (l.length : Int) by omega), if_pos (show (0 : Int) ≤ (i : Int) by omega), rd_at l i hil, ht]
    by_cases c1 : t.f0 < 0
    · simp only [if_pos c1]
      rw [okL_no (by omega), if_neg (by decide)]
      exact bad
    simp only [if_neg c1]
    by_cases c3 : t.f0 > t.f1
    · simp only [if_pos c3]
      rw [okL_no (by omega), if_neg (by decide)]
      exact bad
    simp only [if_neg c3]
    by_cases c2 : t.f1 > 1114111
    · simp only [decide_eq_true c2]
      rw [okL_no (by omega), if_neg (by decide)]
      exact bad
    simp only [decide_eq_false c2]
    have hs : wrap64 ((i : Int) + 1) = ((i + 1 : Nat) : Int) := by rw [wr (by omega) (by omega)]; omega
    have hp' : prev l (i + 1) t.f1 := .inr ⟨by omega, by simpa using hil, by simp [ht], by omega, by omega⟩
    have hnext := ih (i + 1) t.f1 (by omega) hp'
    apply Ev.succ
    by_cases c4 : (i : Int) > 0
    · rcases hp with ⟨h0, _⟩ | ⟨h0, h1, h2, h3, h4⟩
      · omega
      have e : rd_T36 l ((i : Int) - 1) = l[i - 1] := by rw [show (i : Int) - 1 = ((i - 1 : Nat) : Int) by omega]; exact rd_at l (i - 1) h1
      simp only [quoinref02_Check.j1, Bool.false_eq_true, if_false, if_pos c4, if_pos (show (i : Int) < (l.length : Int) by omega), wr (show -9223372036854775808 ≤ (i : Int) - 1 by omega) (show (i : Int) - 1 ≤ 9223372036854775807 by omega), if_pos (show (0 : Int) ≤ (i : Int) by omega), if_pos (show (0 : Int) ≤ (i : Int) - 1 by omega), if_pos (show (i : Int) - 1 < (l.length : Int) by omega), rd_at l i hil, ht, e, ← h2, wr32 (show -2147483648 ≤ p + 2 by omega) (show p + 2 ≤ 2147483647 by omega)]
      by_cases c5 : t.f0 < p + 2
      · simp only [if_pos c5]
        rw [okL_no (by omega), if_neg (by decide)]
        exact Ev.now _
      · simp only [if_neg c5]
        rw [okL_yes (by omega), hs]
        exact hnext
    · simp only [quoinref02_Check.j1, Bool.false_eq_true, if_false, if_neg c4]
      rcases hp with ⟨h0, h1⟩ | ⟨h0, _⟩
      · rw [okL_yes (by omega), hs]
        exact hnext
      · omega
theorem rcheck_ev (l : List S36) (hl : l.length ≤ 9223372036854775806) (hw : Wf l) : Ev (fun k => quoinref02_Check.f k l) (checkOf l) := by
  have := rcheck_loop l hl hw l.length 0 (-2) (by omega) (.inl ⟨rfl, rfl⟩)
  rwa [List.drop_zero] at this
def mem (l : List S36) (r : Int) : Prop := ∃ t ∈ l, t.f0 ≤ r ∧ r ≤ t.f1
theorem mem_nil (r : Int) : ¬ mem [] r := by rintro ⟨t, h, _⟩; simp at h
theorem mem_cons (t : S36) (l : List S36) (r : Int) : mem (t :: l) r ↔ (t.f0 ≤ r ∧ r ≤ t.f1) ∨ mem l r := by
  constructor
  · rintro ⟨u, h, h1⟩
    rcases List.mem_cons.1 h with rfl | h
    · exact .inl h1
    · exact .inr ⟨u, h, h1⟩
  · rintro (h | ⟨u, h, h1⟩)
    · exact ⟨t, List.mem_cons_self, h⟩
    · exact ⟨u, List.mem_cons_of_mem _ h, h1⟩
theorem mem_append (l m : List S36) (r : Int) : mem (l ++ m) r ↔ mem l r ∨ mem m r := by
  induction l with
  | nil => simp [mem_nil]
  | cons t l ih => rw [List.cons_append, mem_cons, mem_cons, ih, or_assoc]
theorem okL_cons {p : Int} {t : S36} {l : List S36} : okL p (t :: l) = true ↔ (0 ≤ t.f0 ∧ t.f0 ≤ t.f1 ∧ t.f1 ≤ 1114111 ∧ p + 2 ≤ t.f0) ∧ okL t.f1 l = true := by
  simp only [okL, Bool.and_eq_true, decide_eq_true_eq]
theorem okL_ge : ∀ (l : List S36) (p : Int), okL p l = true → ∀ r, mem l r → p + 2 ≤ r ∧ r ≤ 1114111
  | [], p, _, r, h => absurd h (mem_nil r)
  | t :: l, p, h, r, hr => by
    obtain ⟨h1, h2⟩ := okL_cons.1 h
    rcases (mem_cons t l r).1 hr with h3 | h3
    · omega
    · have := okL_ge l t.f1 h2 r h3
      omega
theorem S36_ext {a b : S36} (h0 : a.f0 = b.f0) (h1 : a.f1 = b.f1) : a = b := by
  obtain ⟨_, _⟩ := a
  obtain ⟨_, _⟩ := b
  simp only at h0 h1
  rw [h0, h1]
theorem one_row : ∀ (A B : List S36) (p q : Int), okL p A = true → okL q B = true → (∀ r, mem A r ↔ mem B r) → A = B
  | [], [], _, _, _, _, _ => rfl
  | [], b :: B, p, q, hA, hB, h => by
    obtain ⟨h1, _⟩ := okL_cons.1 hB
    exact absurd ((h b.f0).2 ((mem_cons b B _).2 (.inl (by omega)))) (mem_nil _)
  | a :: A, [], p, q, hA, hB, h => by
    obtain ⟨h1, _⟩ := okL_cons.1 hA
    exact absurd ((h a.f0).1 ((mem_cons a A _).2 (.inl (by omega)))) (mem_nil _)
  | a :: A, b :: B, p, q, hA, hB, h => by
    obtain ⟨a1, a2⟩ := okL_cons.1 hA
    obtain ⟨b1, b2⟩ := okL_cons.1 hB
    have gA := okL_ge A a.f1 a2
    have gB := okL_ge B b.f1 b2
    have e0 : a.f0 = b.f0 := by
      have h1 := (mem_cons b B _).1 ((h a.f0).1 ((mem_cons a A _).2 (.inl (by omega))))
      have h2 := (mem_cons a A _).1 ((h b.f0).2 ((mem_cons b B _).2 (.inl (by omega))))
      have h3 : b.f0 ≤ a.f0 := by
        rcases h1 with h1 | h1
        · omega
        · have := gB _ h1; omega
      have h4 : a.f0 ≤ b.f0 := by
        rcases h2 with h2 | h2
        · omega
        · have := gA _ h2; omega
      omega
    have e1 : a.f1 = b.f1 := by
      rcases Int.lt_trichotomy a.f1 b.f1 with c | c | c
      · rcases (mem_cons a A _).1 ((h (a.f1 + 1)).2 ((mem_cons b B _).2 (.inl (by omega)))) with h1 | h1
        · omega
        · have := gA _ h1; omega
      · exact c
      · rcases (mem_cons b B _).1 ((h (b.f1 + 1)).1 ((mem_cons a A _).2 (.inl (by omega)))) with h1 | h1
        · omega
        · have := gB _ h1; omega
    obtain rfl := S36_ext e0 e1
    congr 1
    refine one_row A B a.f1 a.f1 a2 b2 (fun r => ⟨fun hr => ?_, fun hr => ?_⟩)
    · have := gA _ hr
      rcases (mem_cons a B _).1 ((h r).1 ((mem_cons a A _).2 (.inr hr))) with h1 | h1
      · omega
      · exact h1
    · have := gB _ hr
      rcases (mem_cons a A _).1 ((h r).2 ((mem_cons a B _).2 (.inr hr))) with h1 | h1
      · omega
      · exact h1
def merge (c : S36) : List S36 → List S36
  | [] => [c]
  | t :: l => if t.f0 ≤ c.f1 + 1 then merge ⟨c.f0, max c.f1 t.f1⟩ l else c :: merge t l
def good (t : S36) : Prop := 0 ≤ t.f0 ∧ t.f0 ≤ t.f1 ∧ t.f1 ≤ 1114111
theorem merge_ok : ∀ (l : List S36) (c : S36) (p : Int), good c → (∀ t ∈ l, good t ∧ c.f0 ≤ t.f0) → l.Pairwise (fun x y => x.f0 ≤ y.f0) → p + 2 ≤ c.f0 → okL p (merge c l) = true ∧ ∀ r, mem (merge c l) r ↔ mem (c :: l) r
  | [], c, p, hc, _, _, hp => by
    unfold merge
    exact ⟨okL_cons.2 ⟨by unfold good at hc; omega, rfl⟩, fun r => Iff.rfl⟩
  | t :: l, c, p, hc, hl, hs, hp => by
    have ht := hl t List.mem_cons_self
    obtain ⟨s1, s2⟩ := List.pairwise_cons.1 hs
    have hl' : ∀ u ∈ l, good u ∧ t.f0 ≤ u.f0 := fun u hu => ⟨(hl u (List.mem_cons_of_mem _ hu)).1, s1 u hu⟩
    have hgt := ht.1
    unfold good at hc hgt
    unfold merge
    by_cases c1 : t.f0 ≤ c.f1 + 1
    · rw [if_pos c1]
      obtain ⟨h1, h2⟩ := merge_ok l ⟨c.f0, max c.f1 t.f1⟩ p (by unfold good; dsimp only; omega) (fun u hu => ⟨(hl' u hu).1, by have := (hl' u hu).2; dsimp only; omega⟩) s2 hp
      refine ⟨h1, fun r => ?_⟩
      rw [h2, mem_cons, mem_cons, mem_cons, ← or_assoc]
      refine or_congr ?_ Iff.rfl
      dsimp only
      omega
    · rw [if_neg c1]
      obtain ⟨h1, h2⟩ := merge_ok l t c.f1 ht.1 hl' s2 (by omega)
      refine ⟨okL_cons.2 ⟨by omega, h1⟩, fun r => ?_⟩
      rw [mem_cons, h2, mem_cons c]
theorem sort_perm (l : List S36) : (sortR l).Perm l := by
  have h := (Go.Sort.pdq_sorts (ltOf sortR.cf) sortR.swo l.toArray 0 l.toArray.size (Lib.bitLen l.toArray.size) true true (Nat.zero_le _) (Nat.le_refl _) (.inl rfl)).1
  have h3 := h.2.2
  obtain ⟨d, hd⟩ : ∃ d, Go.Sort.pdq (ltOf sortR.cf) l.toArray 0 l.toArray.size (Lib.bitLen l.toArray.size) true true = d := ⟨_, rfl⟩
  unfold sortR
  rw [hd] at h3 h ⊢
  have e1 : d.extract 0 l.toArray.size = d := by rw [← h.1]; exact Array.extract_size
  have e2 : l.toArray.extract 0 l.toArray.size = l.toArray := Array.extract_size
  rw [e1, e2] at h3
  exact h3
theorem sort_sorted (l : List S36) : (sortR l).Pairwise (fun x y => x.f0 ≤ y.f0) := by
  have h := (Go.Sort.pdq_sorts (ltOf sortR.cf) sortR.swo l.toArray 0 l.toArray.size (Lib.bitLen l.toArray.size) true true (Nat.zero_le _) (Nat.le_refl _) (.inl rfl))
  obtain ⟨d, hd⟩ : ∃ d, Go.Sort.pdq (ltOf sortR.cf) l.toArray 0 l.toArray.size (Lib.bitLen l.toArray.size) true true = d := ⟨_, rfl⟩
  unfold sortR
  rw [hd] at h ⊢
  rw [List.pairwise_iff_getElem]
  intro i j hi hj hij
  have hs : d.size = l.toArray.size := h.1.1
  have hi' : i < d.size := by simpa using hi
  have hj' : j < d.size := by simpa using hj
  have := h.2 i j (Nat.zero_le _) hij (by omega)
  rw [sortR.lt, getElem!_pos d j hj', getElem!_pos d i hi'] at this
  have := of_decide_eq_false this
  simp only [Array.getElem_toList]
  omega
theorem mem_perm {l m : List S36} (h : l.Perm m) (r : Int) : mem l r ↔ mem m r := by
  unfold mem
  constructor
  · rintro ⟨t, ht, x⟩; exact ⟨t, h.mem_iff.1 ht, x⟩
  · rintro ⟨t, ht, x⟩; exact ⟨t, h.mem_iff.2 ht, x⟩
def setOf (l : List S36) : List S36 := match sortR l with | [] => [] | c :: s => merge c s
theorem setOf_ok (l : List S36) (hl : ∀ t ∈ l, good t) : okL (-2) (setOf l) = true ∧ ∀ r, mem (setOf l) r ↔ mem l r := by
  have hp := sort_perm l
  have hs := sort_sorted l
  unfold setOf
  cases hc : sortR l with
  | nil =>
    rw [hc] at hp
    obtain rfl := hp.nil_eq
    exact ⟨rfl, fun r => Iff.rfl⟩
  | cons c s =>
    rw [hc] at hp hs
    obtain ⟨s1, s2⟩ := List.pairwise_cons.1 hs
    have hg : ∀ t ∈ c :: s, good t := fun t ht => hl t (hp.mem_iff.1 ht)
    have hgc := hg c List.mem_cons_self
    obtain ⟨h1, h2⟩ := merge_ok s c (-2) hgc (fun t ht => ⟨hg t (List.mem_cons_of_mem _ ht), s1 t ht⟩) s2 (by unfold good at hgc; omega)
    exact ⟨h1, fun r => (h2 r).trans (mem_perm hp r)⟩
theorem rd_last (y : List S36) (c : S36) : rd_T36 (y ++ [c]) (y.length : Int) = c := by
  rw [rd_at _ _ (by simp)]
  simp
theorem set_last (y : List S36) (c d : S36) : (y ++ [c]).set ((y.length : Int)).toNat d = y ++ [d] := by
  rw [Int.toNat_natCast]
  simp
theorem mx_max (a b : Int) : mx a b = max a b := by unfold mx; split <;> omega
theorem merged_loop (t : List S36) (ht : ∀ u ∈ t, good u) (hl : t.length < 17592186044416) (n : Nat) : ∀ (i : Nat) (y : List S36) (c : S36), i + n = t.length → y.length + 1 ≤ i → good c → Ev (fun k => runes_merged.l0 k (y ++ [c]) t (t.length : Int) i) (y ++ merge c (t.drop i)) := by
  induction n with
  | zero =>
    intro i y c hi hy hc
    apply Ev.succ
    rw [List.drop_eq_nil_of_le (by omega)]
    simp only [runes_merged.l0, if_neg (show ¬ (i : Int) < (t.length : Int) by omega), merge]
    exact Ev.now _
  | succ n ih =>
    intro i y c hi hy hc
    have hil : i < t.length := by omega
    have hg : good t[i] := ht _ (List.getElem_mem hil)
    apply Ev.succ
    rw [List.drop_eq_getElem_cons hil]
    have hs : wrap64 ((i : Int) + 1) = ((i + 1 : Nat) : Int) := by rw [wr (by omega) (by omega)]; omega
    have hlen : ((y ++ [c]).length : Int) = (y.length : Int) + 1 := by simp
    have hw : wrap64 ((y.length : Int) + 1 - 1) = (y.length : Int) := by rw [wr (by omega) (by omega)]; omega
    unfold good at hc hg
    have hw2 : wrap32 (c.f1 + 1) = c.f1 + 1 := wr32 (by omega) (by omega)
    simp only [runes_merged.l0, if_pos (show (i : Int) < (t.length : Int) by omega), if_pos (show (0 : Int) ≤ (i : Int) by omega), rd_at t i hil, hlen, hw, rd_last, hw2, set_last,
      if_pos (show (y.length : Int) + 1 > 0 by omega), if_pos (show (0 : Int) ≤ (y.length : Int) by omega), if_pos (show (y.length : Int) < (y.length : Int) + 1 by omega), mx_max]
    unfold merge
    by_cases c1 : (t[i]).f0 ≤ c.f1 + 1
    · simp only [if_pos c1]
      rw [hs]
      exact ih (i + 1) y _ (by omega) (by omega) (by unfold good; dsimp only; omega)
    · simp only [if_neg c1, if_pos (show (y ++ [c]).length < 17592186044416 by simp; omega)]
      rw [hs]
      have := ih (i + 1) (y ++ [c]) t[i] (by omega) (by simp; omega) hg
      rw [show y ++ c :: merge t[i] (t.drop (i + 1)) = y ++ [c] ++ merge t[i] (t.drop (i + 1)) by simp]
      exact this
theorem clone_at (l : List S36) (hl : l.length < 17592186044416) : api_Range_44.f l = some l := by
  unfold api_Range_44.f
  simp [hl]
theorem merged_ev (l : List S36) (hg : ∀ t ∈ l, good t) (hl : l.length < 17592186044416) : Ev (fun k => runes_merged.f k l) (setOf l) := by
  have hp := sort_perm l
  have hlen := hp.length_eq
  unfold runes_merged.f setOf
  rw [clone_at l hl]
  refine Ev.bind (Ev.const rfl) ?_
  cases hc : sortR l with
  | nil =>
    apply Ev.succ
    simp only [runes_merged.l0, if_neg (show ¬ (0 : Int) < (([] : List S36).length : Int) by simp)]
    exact Ev.now _
  | cons c s =>
    rw [hc] at hp hlen
    have hg' : ∀ t ∈ c :: s, good t := fun t ht => hg t (hp.mem_iff.1 ht)
    apply Ev.succ
    have h0 : rd_T36 (c :: s) 0 = c := rfl
    have h1 := merged_loop (c :: s) hg' (by omega) s.length 1 [] c (by simp; omega) (by simp) (hg' c List.mem_cons_self)
    have hw : wrap64 ((0 : Int) + 1) = ((1 : Nat) : Int) := by rw [wr (by omega) (by omega)]; rfl
    simp only [runes_merged.l0, hw, if_pos (show (0 : Int) < ((c :: s).length : Int) by simp), if_pos (show (0 : Int) ≤ 0 by omega), if_neg (show ¬ ((([] : List S36).length : Int) > 0) by simp), if_pos (show ([] : List S36).length < 17592186044416 by simp), h0]
    exact h1
def madeR (R : List S36) : List S36 × Int := if 2048 < R.length then ([], 21) else (R, 0)
theorem made_ev (l : List S36) (hg : ∀ t ∈ l, good t) (hl : l.length < 17592186044416) : Ev (fun k => runes_made.f k l) (madeR (setOf l)) := by
  unfold runes_made.f madeR
  refine Ev.bind (merged_ev l hg hl) ?_
  by_cases c : 2048 < (setOf l).length
  · simp only [if_pos c, if_pos (show ((setOf l).length : Int) > 2048 by omega)]; exact Ev.now _
  · simp only [if_neg c, if_neg (show ¬ ((setOf l).length : Int) > 2048 by omega)]; exact Ev.now _
instance (t : S36) : Decidable (good t) := by unfold good; infer_instance
theorem rdi_at (l : List Int) (i : Nat) (h : i < l.length) : rd l (i : Int) = l[i] := by
  unfold rd
  rw [List.getD_eq_getElem?_getD, Int.toNat_natCast, List.getElem?_eq_getElem h]
  rfl
theorem rdl_at (l : List (List S36)) (i : Nat) (h : i < l.length) : rd_L2 l (i : Int) = l[i] := by
  unfold rd_L2
  rw [List.getD_eq_getElem?_getD, Int.toNat_natCast, List.getElem?_eq_getElem h]
  rfl
def ins (r : Int) : List Int → List Int
  | [] => [r]
  | a :: l => if a < r then a :: ins r l else if a = r then a :: l else r :: a :: l
theorem ins_mem (r x : Int) : ∀ l, x ∈ ins r l ↔ x = r ∨ x ∈ l
  | [] => by simp [ins]
  | a :: l => by
    unfold ins
    by_cases c1 : a < r
    · rw [if_pos c1, List.mem_cons, ins_mem r x l, List.mem_cons]
      constructor
      · rintro (h | h | h)
        · exact .inr (.inl h)
        · exact .inl h
        · exact .inr (.inr h)
      · rintro (h | h | h)
        · exact .inr (.inl h)
        · exact .inl h
        · exact .inr (.inr h)
    · rw [if_neg c1]
      by_cases c2 : a = r
      · rw [if_pos c2, List.mem_cons]
        subst c2
        constructor
        · exact fun h => .inr h
        · rintro (h | h)
          · exact .inl h
          · exact h
      · rw [if_neg c2, List.mem_cons]
theorem ins_rising (r : Int) : ∀ l : List Int, l.Pairwise (· < ·) → (ins r l).Pairwise (· < ·)
  | [], _ => by simp [ins]
  | a :: l, h => by
    obtain ⟨h1, h2⟩ := List.pairwise_cons.1 h
    unfold ins
    by_cases c1 : a < r
    · rw [if_pos c1]
      refine List.pairwise_cons.2 ⟨fun x hx => ?_, ins_rising r l h2⟩
      rcases (ins_mem r x l).1 hx with rfl | hx
      · exact c1
      · exact h1 x hx
    · rw [if_neg c1]
      by_cases c2 : a = r
      · rw [if_pos c2]; exact h
      · rw [if_neg c2]
        refine List.pairwise_cons.2 ⟨fun x hx => ?_, h⟩
        rcases List.mem_cons.1 hx with rfl | hx
        · omega
        · have := h1 x hx; omega
theorem rising_len : ∀ (l : List Int) (a : Int), a ≤ 1114112 → l.Pairwise (· < ·) → (∀ x ∈ l, a ≤ x ∧ x ≤ 1114111) → (l.length : Int) ≤ 1114112 - a
  | [], a, h, _, _ => by simp; omega
  | x :: l, a, h, hp, hx => by
    obtain ⟨h1, h2⟩ := List.pairwise_cons.1 hp
    have h3 := hx x List.mem_cons_self
    have := rising_len l (x + 1) (by omega) h2 (fun y hy => ⟨by have := h1 y hy; omega, (hx y (List.mem_cons_of_mem _ hy)).2⟩)
    rw [List.length_cons]
    omega
def Cut (C : List Int) : Prop := C.Pairwise (· < ·) ∧ ∀ x ∈ C, 0 ≤ x ∧ x ≤ 1114111
theorem Cut.len {C : List Int} (h : Cut C) : C.length ≤ 1114112 := by
  have := rising_len C 0 (by omega) h.1 h.2
  omega
theorem Cut.ins {C : List Int} (h : Cut C) {r : Int} (h0 : 0 ≤ r) (h1 : r ≤ 1114111) : Cut (ins r C) :=
  ⟨ins_rising r C h.1, fun x hx => by
    rcases (ins_mem r x C).1 hx with rfl | hx
    · exact ⟨h0, h1⟩
    · exact h.2 x hx⟩
theorem with_loop (C : List Int) (hC : C.length ≤ 1114112) (r : Int) (n : Nat) : ∀ i : Nat, i + n = C.length → Ev (fun k => quoinref02_with.l0 k C r i) (C.take i ++ ins r (C.drop i)) := by
  induction n with
  | zero =>
    intro i hi
    apply Ev.succ
    rw [List.drop_eq_nil_of_le (by omega), List.take_of_length_le (by omega)]
    simp only [quoinref02_with.l0, if_neg (show ¬ (i : Int) < (C.length : Int) by omega), Option.bind_some, if_pos (show (0 : Int) ≤ (i : Int) by omega), if_pos (show (i : Int) ≤ (C.length : Int) by omega), Int.toNat_natCast,
      List.drop_eq_nil_of_le (show C.length ≤ i by omega), List.take_of_length_le (show C.length ≤ i by omega), List.nil_append, List.append_nil, ins,
      if_pos (show C.length < 35184372088832 by omega), if_pos (show ([] : List Int).length + C.length < 35184372088832 by simp; omega), if_pos (show (C ++ [r]).length + ([] : List Int).length < 35184372088832 by simp; omega)]
    exact Ev.now _
  | succ n ih =>
    intro i hi
    have hil : i < C.length := by omega
    apply Ev.succ
    have hs : wrap64 ((i : Int) + 1) = ((i + 1 : Nat) : Int) := by rw [wr (by omega) (by omega)]; omega
    simp only [quoinref02_with.l0, if_pos (show (i : Int) < (C.length : Int) by omega), if_pos (show (0 : Int) ≤ (i : Int) by omega), rdi_at C i hil, Int.toNat_natCast]
    by_cases c1 : C[i] < r
    · simp only [if_pos c1]
      rw [hs]
      have := ih (i + 1) (by omega)
      rw [List.take_succ_eq_append_getElem hil, List.append_assoc] at this
      rw [List.drop_eq_getElem_cons hil, ins, if_pos c1]
      exact this
    · simp only [if_neg c1]
      by_cases c2 : C[i] = r
      · simp only [if_pos c2]
        rw [List.drop_eq_getElem_cons hil, ins, if_neg c1, if_pos c2, ← List.drop_eq_getElem_cons hil, List.take_append_drop]
        exact Ev.now _
      · have hd : (C.drop i).length = C.length - i := List.length_drop
        have ht : (C.take i).length = i := by rw [List.length_take]; omega
        simp only [if_neg c2, Option.bind_some, if_pos (show (i : Int) ≤ (C.length : Int) by omega), List.nil_append,
          if_pos (show ([] : List Int).length + (C.take i).length < 35184372088832 by rw [ht]; simp; omega), if_pos (show (C.take i).length < 35184372088832 by omega), if_pos (show (C.take i ++ [r]).length + (C.drop i).length < 35184372088832 by rw [List.length_append, ht, hd]; simp; omega)]
        rw [show C.take i ++ ins r (C.drop i) = C.take i ++ [r] ++ C.drop i by
          rw [List.append_assoc, List.singleton_append]
          congr 1
          rw [List.drop_eq_getElem_cons hil, ins, if_neg c1, if_neg c2]]
        exact Ev.now _
theorem with_ev (C : List Int) (hC : C.length ≤ 1114112) (r : Int) : Ev (fun k => quoinref02_with.f k C r) (ins r C) := by
  have := with_loop C hC r C.length 0 (by omega)
  rw [List.take_zero, List.drop_zero, List.nil_append] at this
  exact this
def addT (C : List Int) (t : S36) : List Int := if t.f1 < 1114111 then ins (t.f1 + 1) (ins t.f0 C) else ins t.f0 C
theorem Cut.addT {C : List Int} (h : Cut C) {t : S36} (ht : good t) : Cut (addT C t) := by
  unfold good at ht
  unfold Pure.addT
  split
  · exact (h.ins (by omega) (by omega)).ins (by omega) (by omega)
  · exact h.ins (by omega) (by omega)
theorem addT_sub {C : List Int} {t : S36} {x : Int} (h : x ∈ C) : x ∈ addT C t := by
  unfold addT
  split
  · exact (ins_mem _ _ _).2 (.inr ((ins_mem _ _ _).2 (.inr h)))
  · exact (ins_mem _ _ _).2 (.inr h)
theorem addT_lo (C : List Int) (t : S36) : t.f0 ∈ addT C t := by
  unfold addT
  split
  · exact (ins_mem _ _ _).2 (.inr ((ins_mem _ _ _).2 (.inl rfl)))
  · exact (ins_mem _ _ _).2 (.inl rfl)
theorem addT_hi (C : List Int) (t : S36) (h : t.f1 < 1114111) : t.f1 + 1 ∈ addT C t := by
  unfold addT
  rw [if_pos h]
  exact (ins_mem _ _ _).2 (.inl rfl)
def addR (C : List Int) (s : List S36) : List Int := s.foldl addT C
theorem Cut.addR {C : List Int} (h : Cut C) : ∀ {s : List S36}, (∀ t ∈ s, good t) → Cut (addR C s) := by
  intro s
  unfold Pure.addR
  induction s generalizing C with
  | nil => exact fun _ => h
  | cons t s ih => exact fun hs => ih (h.addT (hs t List.mem_cons_self)) (fun u hu => hs u (List.mem_cons_of_mem _ hu))
theorem addR_sub {x : Int} (s : List S36) : ∀ {C : List Int}, x ∈ C → x ∈ addR C s := by
  unfold addR
  induction s with
  | nil => exact fun h => h
  | cons t s ih => exact fun h => ih (addT_sub h)
theorem addR_has (s : List S36) : ∀ (C : List Int) (t : S36), t ∈ s → t.f0 ∈ addR C s ∧ (t.f1 < 1114111 → t.f1 + 1 ∈ addR C s) := by
  induction s with
  | nil => intro C t h; simp at h
  | cons u s ih =>
    intro C t h
    rcases List.mem_cons.1 h with rfl | h
    · exact ⟨addR_sub s (addT_lo C t), fun hh => addR_sub s (addT_hi C t hh)⟩
    · exact ih (addT C u) t h
def addL (C : List Int) (l : List (List S36)) : List Int := l.foldl addR C
theorem Cut.addL {C : List Int} (h : Cut C) : ∀ {l : List (List S36)}, (∀ s ∈ l, ∀ t ∈ s, good t) → Cut (addL C l) := by
  intro l
  unfold Pure.addL
  induction l generalizing C with
  | nil => exact fun _ => h
  | cons s l ih => exact fun hs => ih (h.addR (hs s List.mem_cons_self)) (fun u hu => hs u (List.mem_cons_of_mem _ hu))
theorem addL_sub {x : Int} (l : List (List S36)) : ∀ {C : List Int}, x ∈ C → x ∈ addL C l := by
  unfold addL
  induction l with
  | nil => exact fun h => h
  | cons t s ih => exact fun h => ih (addR_sub _ h)
theorem addL_has (l : List (List S36)) : ∀ (C : List Int), ∀ s ∈ l, ∀ t ∈ s, t.f0 ∈ addL C l ∧ (t.f1 < 1114111 → t.f1 + 1 ∈ addL C l) := by
  induction l with
  | nil => intro C t h; simp at h
  | cons u l ih =>
    intro C s h t ht
    rcases List.mem_cons.1 h with rfl | h
    · have := addR_has s C t ht
      exact ⟨addL_sub l this.1, fun hh => addL_sub l (this.2 hh)⟩
    · exact ih (addR C u) s h t ht
theorem starts_row (l : List (List S36)) (i : Nat) (hil : i < l.length) (hl : l.length ≤ 9223372036854775806) (hr : (l[i]).length ≤ 9223372036854775806) (hg : ∀ t ∈ l[i], good t) (R : List Int) (n : Nat) : ∀ (j : Nat) (C : List Int), Cut C → j + n = (l[i]).length → Ev (fun k => quoinref02_starts.l0 k l (addR C ((l[i]).drop j)) ((i + 1 : Nat) : Int)) R → Ev (fun k => quoinref02_starts.l1 k l C i j) R := by
  have hs : wrap64 ((i : Int) + 1) = ((i + 1 : Nat) : Int) := by rw [wr (by omega) (by omega)]; omega
  induction n with
  | zero =>
    intro j C hC hj h
    rw [List.drop_eq_nil_of_le (by omega)] at h
    apply Ev.succ
    simp only [quoinref02_starts.l1, if_pos (show (0 : Int) ≤ (i : Int) by omega), if_pos (show (i : Int) < (l.length : Int) by omega), rdl_at l i hil, if_neg (show ¬ (j : Int) < ((l[i]).length : Int) by omega)]
    rw [hs]
    exact h
  | succ n ih =>
    intro j C hC hj h
    have hjl : j < (l[i]).length := by omega
    have hgj := hg _ (List.getElem_mem hjl)
    have hsj : wrap64 ((j : Int) + 1) = ((j + 1 : Nat) : Int) := by rw [wr (by omega) (by omega)]; omega
    rw [List.drop_eq_getElem_cons hjl] at h
    apply Ev.succ
    simp only [quoinref02_starts.l1, if_pos (show (0 : Int) ≤ (i : Int) by omega), if_pos (show (i : Int) < (l.length : Int) by omega), rdl_at l i hil, if_pos (show (j : Int) < ((l[i]).length : Int) by omega), if_pos (show (0 : Int) ≤ (j : Int) by omega), rd_at _ j hjl]
    refine Ev.bind (with_ev C hC.len _) ?_
    have hCA := hC.addT hgj
    have h2 := ih (j + 1) (addT C (l[i])[j]) hCA (by omega) h
    unfold good at hgj
    unfold addT at h2
    by_cases c : ((l[i])[j]).f1 < 1114111
    · simp only [if_pos c] at h2 ⊢
      rw [wr32 (by omega) (by omega), hsj]
      exact Ev.bind (with_ev _ (hC.ins (by omega) (by omega)).len _) h2
    · simp only [if_neg c] at h2 ⊢
      rw [hsj]
      exact h2
theorem starts_loop (l : List (List S36)) (hl : l.length ≤ 9223372036854775806) (hr : ∀ s ∈ l, s.length ≤ 9223372036854775806) (hg : ∀ s ∈ l, ∀ t ∈ s, good t) (n : Nat) : ∀ (i : Nat) (C : List Int), Cut C → i + n = l.length → Ev (fun k => quoinref02_starts.l0 k l C i) (addL C (l.drop i)) := by
  induction n with
  | zero =>
    intro i C hC hi
    rw [List.drop_eq_nil_of_le (by omega)]
    apply Ev.succ
    simp only [quoinref02_starts.l0, if_neg (show ¬ (i : Int) < (l.length : Int) by omega)]
    exact Ev.now _
  | succ n ih =>
    intro i C hC hi
    have hil : i < l.length := by omega
    rw [List.drop_eq_getElem_cons hil]
    apply Ev.succ
    simp only [quoinref02_starts.l0, if_pos (show (i : Int) < (l.length : Int) by omega)]
    have hgi := hg _ (List.getElem_mem hil)
    have := starts_row l i hil hl (hr _ (List.getElem_mem hil)) hgi (addL (addR C l[i]) (l.drop (i + 1))) (l[i]).length 0 C hC (by omega) (ih (i + 1) _ (hC.addR hgi) (by omega))
    exact this
def startsOf (l : List (List S36)) : List Int := addL [0] l
theorem starts_ev (l : List (List S36)) (hl : l.length ≤ 9223372036854775806) (hr : ∀ s ∈ l, s.length ≤ 9223372036854775806) (hg : ∀ s ∈ l, ∀ t ∈ s, good t) : Ev (fun k => quoinref02_starts.f k l) (startsOf l) := by
  have := starts_loop l hl hr hg l.length 0 [0] ⟨by simp, by simp⟩ (by omega)
  rw [List.drop_zero] at this
  exact this
theorem starts_cut (l : List (List S36)) (hg : ∀ s ∈ l, ∀ t ∈ s, good t) : Cut (startsOf l) := Cut.addL ⟨by simp, by simp⟩ hg
theorem starts_zero (l : List (List S36)) : 0 ∈ startsOf l := addL_sub l (by simp)
def hasB : List S36 → Int → Bool
  | [], _ => false
  | t :: s, r => (decide (t.f0 ≤ r) && decide (r ≤ t.f1)) || hasB s r
theorem hasB_mem (r : Int) : ∀ s, hasB s r = true ↔ mem s r
  | [] => by simp [hasB, mem_nil]
  | t :: s => by simp only [hasB, Bool.or_eq_true, Bool.and_eq_true, decide_eq_true_eq, mem_cons, hasB_mem r s]
theorem rhas_loop (l : List S36) (hl : l.length ≤ 9223372036854775806) (r : Int) (n : Nat) : ∀ (i : Nat), i + n = l.length → Ev (fun k => quoinref02_Has.l0 k l r i) (hasB (l.drop i) r) := by
  induction n with
  | zero =>
    intro i hi
    apply Ev.succ
    rw [List.drop_eq_nil_of_le (by omega)]
    simp only [quoinref02_Has.l0, if_neg (show ¬ (i : Int) < (l.length : Int) by omega), hasB]
    exact Ev.now _
  | succ n ih =>
    intro i hi
    have hil : i < l.length := by omega
    apply Ev.succ
    rw [List.drop_eq_getElem_cons hil]
    have hs : wrap64 ((i : Int) + 1) = ((i + 1 : Nat) : Int) := by rw [wr (by omega) (by omega)]; omega
    simp only [quoinref02_Has.l0, if_pos (show (i : Int) < (l.length : Int) by omega), if_pos (show (0 : Int) ≤ (i : Int) by omega), rd_at l i hil, hasB]
    rw [hs]
    by_cases c1 : (l[i]).f0 ≤ r
    · by_cases c2 : r ≤ (l[i]).f1
      · simp only [if_pos c1, if_pos c2, decide_eq_true c1, decide_eq_true c2, Bool.and_true, Bool.true_or]; exact Ev.now _
      · simp only [if_pos c1, if_neg c2, decide_eq_true c1, decide_eq_false c2, Bool.and_false, Bool.false_or]; exact ih (i + 1) (by omega)
    · simp only [if_neg c1, decide_eq_false c1, Bool.false_and, Bool.false_or]; exact ih (i + 1) (by omega)
theorem rhas_ev (l : List S36) (hl : l.length ≤ 9223372036854775806) (r : Int) : Ev (fun k => quoinref02_Has.f k l r) (hasB l r) := by
  have := rhas_loop l hl r l.length 0 (by omega)
  rw [List.drop_zero] at this
  exact this
def cnt : List (List S36) → Int → Nat
  | [], _ => 0
  | s :: l, r => (if hasB s r = true then 1 else 0) + cnt l r
def fin (l : List (List S36)) (r what n : Int) : Bool := if what = 0 then decide (n > 0) else if what = 1 then n == (l.length : Int) else if what = 2 then (hasB (l.getD 0 []) r && !hasB (l.getD 1 []) r) else n == 0
def holdsOf (l : List (List S36)) (what r : Int) : Bool := fin l r what (cnt l r)
theorem holds_loop (l : List (List S36)) (hl : l.length ≤ 9223372036854775806) (hr : ∀ s ∈ l, s.length ≤ 9223372036854775806) (r what : Int) (h2 : what = 2 → 2 ≤ l.length) (n : Nat) : ∀ (i m : Nat), i + n = l.length → m ≤ i → Ev (fun k => quoinref02_holds.l0 k l r what m i) (fin l r what ((m + cnt (l.drop i) r : Nat) : Int)) := by
  induction n with
  | zero =>
    intro i m hi hm
    apply Ev.succ
    rw [List.drop_eq_nil_of_le (by omega)]
    simp only [quoinref02_holds.l0, if_neg (show ¬ (i : Int) < (l.length : Int) by omega), cnt, Nat.add_zero, fin]
    by_cases c0 : what = 0
    · simp only [if_pos c0]; exact Ev.now _
    simp only [if_neg c0]
    by_cases c1 : what = 1
    · simp only [if_pos c1]; exact Ev.now _
    simp only [if_neg c1]
    by_cases c2 : what = 2
    · have hl2 := h2 c2
      have e0 : l.getD 0 [] = l[0] := by rw [List.getD_eq_getElem?_getD, List.getElem?_eq_getElem (by omega)]; rfl
      have e1 : l.getD 1 [] = l[1] := by rw [List.getD_eq_getElem?_getD, List.getElem?_eq_getElem (by omega)]; rfl
      have r0 : rd_L2 l 0 = l[0] := rdl_at l 0 (by omega)
      have r1 : rd_L2 l 1 = l[1] := rdl_at l 1 (by omega)
      simp only [if_pos c2, e0, e1, r0, r1, if_pos (show (0 : Int) < (l.length : Int) by omega), if_pos (show (1 : Int) < (l.length : Int) by omega)]
      refine Ev.bind (rhas_ev _ (hr _ (List.getElem_mem (by omega))) r) ?_
      cases c : hasB l[0] r with
      | false => simp only [Bool.false_and, if_neg (show ¬ (false = true) by decide)]; exact Ev.now _
      | true =>
        simp only [if_true, Bool.true_and]
        exact Ev.bind (rhas_ev _ (hr _ (List.getElem_mem (by omega))) r) (Ev.now _)
    · simp only [if_neg c2]; exact Ev.now _
  | succ n ih =>
    intro i m hi hm
    have hil : i < l.length := by omega
    apply Ev.succ
    rw [List.drop_eq_getElem_cons hil]
    have hs : wrap64 ((i : Int) + 1) = ((i + 1 : Nat) : Int) := by rw [wr (by omega) (by omega)]; omega
    have hsm : wrap64 ((m : Int) + 1) = ((m + 1 : Nat) : Int) := by rw [wr (by omega) (by omega)]; omega
    simp only [quoinref02_holds.l0, if_pos (show (i : Int) < (l.length : Int) by omega), if_pos (show (0 : Int) ≤ (i : Int) by omega), rdl_at l i hil, cnt]
    rw [hs, hsm]
    refine Ev.bind (rhas_ev _ (hr _ (List.getElem_mem hil)) r) ?_
    cases c : hasB l[i] r with
    | true =>
      simp only [if_true]
      have := ih (i + 1) (m + 1) (by omega) (by omega)
      rw [Nat.add_assoc] at this
      exact this
    | false =>
      simp only [if_neg (show ¬ (false = true) by decide), Nat.zero_add]
      exact ih (i + 1) m (by omega) (by omega)
theorem holds_ev (l : List (List S36)) (hl : l.length ≤ 9223372036854775806) (hr : ∀ s ∈ l, s.length ≤ 9223372036854775806) (r what : Int) (h2 : what = 2 → 2 ≤ l.length) : Ev (fun k => quoinref02_holds.f k l r what) (holdsOf l what r) := by
  have := holds_loop l hl hr r what h2 l.length 0 0 (by omega) (by omega)
  rw [List.drop_zero, Nat.zero_add] at this
  exact this
theorem same_row (C : List Int) (a r : Int) (har : a ≤ r) (hr : r ≤ 1114111) (hno : ∀ x ∈ C, ¬ (a < x ∧ x ≤ r)) : ∀ s : List S36, (∀ t ∈ s, t.f0 ∈ C ∧ (t.f1 < 1114111 → t.f1 + 1 ∈ C)) → hasB s r = hasB s a
  | [], _ => rfl
  | t :: s, h => by
    have ih := same_row C a r har hr hno s (fun u hu => h u (List.mem_cons_of_mem _ hu))
    obtain ⟨h1, h2⟩ := h t List.mem_cons_self
    have n1 := hno _ h1
    have e1 : decide (t.f0 ≤ r) = decide (t.f0 ≤ a) := decide_eq_decide.2 (by omega)
    have e2 : decide (r ≤ t.f1) = decide (a ≤ t.f1) := decide_eq_decide.2 (by
      by_cases c : t.f1 < 1114111
      · have n2 := hno _ (h2 c); omega
      · omega)
    simp only [hasB, ih, e1, e2]
theorem same_cnt (C : List Int) (a r : Int) (har : a ≤ r) (hr : r ≤ 1114111) (hno : ∀ x ∈ C, ¬ (a < x ∧ x ≤ r)) : ∀ l : List (List S36), (∀ s ∈ l, ∀ t ∈ s, t.f0 ∈ C ∧ (t.f1 < 1114111 → t.f1 + 1 ∈ C)) → cnt l r = cnt l a
  | [], _ => rfl
  | s :: l, h => by
    simp only [cnt, same_row C a r har hr hno s (h s List.mem_cons_self), same_cnt C a r har hr hno l (fun u hu => h u (List.mem_cons_of_mem _ hu))]
theorem same_holds (l : List (List S36)) (what a r : Int) (har : a ≤ r) (hr : r ≤ 1114111) (hno : ∀ x ∈ startsOf l, ¬ (a < x ∧ x ≤ r)) (h2 : what = 2 → 2 ≤ l.length) : holdsOf l what r = holdsOf l what a := by
  have hh := addL_has l [0]
  have hc := same_cnt (startsOf l) a r har hr hno l hh
  unfold holdsOf fin
  rw [hc]
  by_cases c2 : what = 2
  · have hl2 := h2 c2
    have e0 : l.getD 0 [] = l[0] := by rw [List.getD_eq_getElem?_getD, List.getElem?_eq_getElem (by omega)]; rfl
    have e1 : l.getD 1 [] = l[1] := by rw [List.getD_eq_getElem?_getD, List.getElem?_eq_getElem (by omega)]; rfl
    rw [e0, e1, same_row (startsOf l) a r har hr hno l[0] (hh _ (List.getElem_mem (by omega))), same_row (startsOf l) a r har hr hno l[1] (hh _ (List.getElem_mem (by omega)))]
  · simp only [if_neg c2]
theorem okL_snoc : ∀ (l : List S36) (p : Int) (c : S36), okL p l = true → good c → p + 2 ≤ c.f0 → (∀ t ∈ l, t.f1 + 2 ≤ c.f0) → okL p (l ++ [c]) = true
  | [], p, c, _, hc, hp, _ => okL_cons.2 ⟨by unfold good at hc; omega, rfl⟩
  | t :: l, p, c, h, hc, hp, hl => by
    obtain ⟨h1, h2⟩ := okL_cons.1 h
    exact okL_cons.2 ⟨h1, okL_snoc l t.f1 c h2 hc (hl t List.mem_cons_self) (fun u hu => hl u (List.mem_cons_of_mem _ hu))⟩
theorem okL_front : ∀ (l : List S36) (p : Int) (c : S36), okL p (l ++ [c]) = true → okL p l = true ∧ good c ∧ p + 2 ≤ c.f0 ∧ ∀ t ∈ l, t.f1 + 2 ≤ c.f0
  | [], p, c, h => by
    obtain ⟨h1, h2⟩ := okL_cons.1 h
    exact ⟨rfl, by unfold good; omega, by omega, by simp⟩
  | t :: l, p, c, h => by
    obtain ⟨h1, h2⟩ := okL_cons.1 h
    obtain ⟨a, b, d, e⟩ := okL_front l t.f1 c h2
    refine ⟨okL_cons.2 ⟨h1, a⟩, b, by omega, fun u hu => ?_⟩
    rcases List.mem_cons.1 hu with rfl | hu
    · exact d
    · exact e u hu
theorem okL_len : ∀ (l : List S36) (p : Int), p ≤ 1114111 → okL p l = true → (l.length : Int) + p ≤ 1114111
  | [], p, hp, _ => by simp; omega
  | t :: l, p, hp, h => by
    obtain ⟨h1, h2⟩ := okL_cons.1 h
    have := okL_len l t.f1 (by omega) h2
    rw [List.length_cons]
    omega
def Inv (H : Int → Bool) (x : List S36) (a : Int) : Prop := okL (-2) x = true ∧ ∀ r, mem x r ↔ 0 ≤ r ∧ r < a ∧ H r = true
theorem piece_no {H : Int → Bool} {x : List S36} {a b : Int} (h : Inv H x a) (hab : a < b) (hH : ∀ r, a ≤ r → r < b → H r = false) : Inv H x b := by
  refine ⟨h.1, fun r => (h.2 r).trans ?_⟩
  constructor
  · rintro ⟨h1, h2, h3⟩; exact ⟨h1, by omega, h3⟩
  · rintro ⟨h1, h2, h3⟩
    refine ⟨h1, ?_, h3⟩
    by_cases c : r < a
    · exact c
    · rw [hH r (by omega) h2] at h3; exact absurd h3 (by decide)
theorem piece_new {H : Int → Bool} {x : List S36} {a b : Int} (h : Inv H x a) (ha : 0 ≤ a) (hab : a < b) (hb : b ≤ 1114112) (hH : ∀ r, a ≤ r → r < b → H r = true) (hx : ∀ y c, x = y ++ [c] → c.f1 + 1 ≠ a) : Inv H (x ++ [⟨a, b - 1⟩]) b := by
  refine ⟨okL_snoc x (-2) _ h.1 (by unfold good; dsimp only; omega) (by dsimp only; omega) ?_, fun r => ?_⟩
  · dsimp only
    rcases List.eq_nil_or_concat x with rfl | ⟨y, c, rfl⟩
    · simp
    · have h1 := okL_front y (-2) c (by have := h.1; rwa [List.concat_eq_append] at this)
      have hne := hx y c (List.concat_eq_append ..)
      have hgc := h1.2.1
      unfold good at hgc
      have hm := (h.2 c.f1).1 ⟨c, by simp, by omega, by omega⟩
      intro t ht
      rw [List.concat_eq_append, List.mem_append, List.mem_singleton] at ht
      rcases ht with ht | rfl
      · have := h1.2.2.2 t ht; omega
      · omega
  · rw [mem_append, h.2, mem_cons]
    dsimp only
    constructor
    · rintro (⟨h1, h2, h3⟩ | ⟨h1, h2⟩ | h1)
      · exact ⟨h1, by omega, h3⟩
      · exact ⟨by omega, by omega, hH r (by omega) (by omega)⟩
      · exact absurd h1 (mem_nil r)
    · rintro ⟨h1, h2, h3⟩
      by_cases c : r < a
      · exact .inl ⟨h1, c, h3⟩
      · exact .inr (.inl ⟨by omega, by omega⟩)
theorem piece_on {H : Int → Bool} {y : List S36} {c : S36} {a b : Int} (h : Inv H (y ++ [c]) a) (ha : 0 ≤ a) (hab : a < b) (hb : b ≤ 1114112) (hH : ∀ r, a ≤ r → r < b → H r = true) (hx : c.f1 + 1 = a) : Inv H (y ++ [⟨c.f0, b - 1⟩]) b := by
  have h1 := okL_front y (-2) c h.1
  have hgc := h1.2.1
  unfold good at hgc
  refine ⟨okL_snoc y (-2) _ h1.1 (by unfold good; dsimp only; omega) h1.2.2.1 h1.2.2.2, fun r => ?_⟩
  have h2 := h.2 r
  rw [mem_append, mem_cons] at h2 ⊢
  dsimp only
  have hn := mem_nil r
  constructor
  · rintro (h3 | ⟨h3, h4⟩ | h3)
    · have := h2.1 (.inl h3); exact ⟨this.1, by omega, this.2.2⟩
    · by_cases cc : r < a
      · have := h2.1 (.inr (.inl ⟨h3, by omega⟩)); exact ⟨this.1, by omega, this.2.2⟩
      · exact ⟨by omega, by omega, hH r (by omega) (by omega)⟩
    · exact absurd h3 hn
  · rintro ⟨h3, h4, h5⟩
    by_cases cc : r < a
    · rcases h2.2 ⟨h3, cc, h5⟩ with h6 | ⟨h6, h7⟩ | h6
      · exact .inl h6
      · exact .inr (.inl ⟨h6, by omega⟩)
      · exact absurd h6 hn
    · exact .inr (.inl ⟨by omega, by omega⟩)
def lim (C : List Int) (i : Nat) : Int := if h : i < C.length then C[i] else 1114112
theorem lim_lt {C : List Int} (hC : Cut C) {i : Nat} (h : i < C.length) : C[i] < lim C (i + 1) ∧ lim C (i + 1) ≤ 1114112 ∧ ∀ x ∈ C, C[i] < x → lim C (i + 1) ≤ x := by
  have hp := List.pairwise_iff_getElem.1 hC.1
  have hi := hC.2 _ (List.getElem_mem h)
  unfold lim
  by_cases c : i + 1 < C.length
  · rw [dif_pos c]
    have hj := hC.2 _ (List.getElem_mem c)
    refine ⟨hp i (i + 1) h c (by omega), by omega, fun x hx hlt => ?_⟩
    obtain ⟨j, hj, rfl⟩ := List.mem_iff_getElem.1 hx
    by_cases c1 : j ≤ i
    · by_cases c2 : j = i
      · subst c2; omega
      · have := hp j i hj h (by omega); omega
    · by_cases c2 : j = i + 1
      · subst c2; omega
      · have := hp (i + 1) j c hj (by omega); omega
  · rw [dif_neg c]
    refine ⟨by omega, by omega, fun x hx hlt => ?_⟩
    obtain ⟨j, hj, rfl⟩ := List.mem_iff_getElem.1 hx
    by_cases c2 : j = i
    · subst c2; omega
    · have := hp j i hj h (by omega); omega
theorem rmade_loop (l : List (List S36)) (hl : l.length ≤ 9223372036854775806) (hr : ∀ s ∈ l, s.length ≤ 9223372036854775806) (hg : ∀ s ∈ l, ∀ t ∈ s, good t) (what : Int) (h2 : what = 2 → 2 ≤ l.length) (n : Nat) : ∀ (i : Nat) (x : List S36), i + n = (startsOf l).length → Inv (holdsOf l what) x (lim (startsOf l) i) → ∃ R, Inv (holdsOf l what) R 1114112 ∧ Ev (fun k => quoinref02_made.l0 k l what (startsOf l) x i) (madeR R) := by
  have hC := starts_cut l hg
  have hCl := hC.len
  have hsame := fun a r h1 h3 h4 => same_holds l what a r h1 h3 h4 h2
  have hhold := fun r => holds_ev l hl hr r what h2
  generalize startsOf l = C at hC hCl hsame ⊢
  induction n with
  | zero =>
    intro i x hi hx
    refine ⟨x, by rwa [lim, dif_neg (by omega)] at hx, ?_⟩
    apply Ev.succ
    simp only [quoinref02_made.l0, if_neg (show ¬ (i : Int) < (C.length : Int) by omega), madeR]
    by_cases c : 2048 < x.length
    · simp only [if_pos c, if_pos (show (x.length : Int) > 2048 by omega)]; exact Ev.now _
    · simp only [if_neg c, if_neg (show ¬ (x.length : Int) > 2048 by omega)]; exact Ev.now _
  | succ n ih =>
    intro i x hi hx
    have hil : i < C.length := by omega
    have hci := hC.2 _ (List.getElem_mem hil)
    obtain ⟨l1, l2, l3⟩ := lim_lt hC hil
    have hs : wrap64 ((i : Int) + 1) = ((i + 1 : Nat) : Int) := by rw [wr (by omega) (by omega)]; omega
    rw [show lim C i = C[i] from dif_pos hil] at hx
    have hxl := okL_len x (-2) (by omega) hx.1
    have hH : ∀ r, C[i] ≤ r → r < lim C (i + 1) → holdsOf l what r = holdsOf l what C[i] := fun r h1 h3 => hsame _ r h1 (by omega) (fun y hy hh => by have := l3 y hy hh.1; omega)
    cases c : holdsOf l what C[i] with
    | false =>
      obtain ⟨R, hR, hE⟩ := ih (i + 1) x (by omega) (piece_no hx l1 (fun r h1 h3 => (hH r h1 h3).trans c))
      refine ⟨R, hR, ?_⟩
      apply Ev.succ
      simp only [quoinref02_made.l0, if_pos (show (i : Int) < (C.length : Int) by omega), if_pos (show (0 : Int) ≤ (i : Int) by omega), rdi_at C i hil]
      refine Ev.bind (hhold _) ?_
      simp only [c, if_neg (show ¬ (false = true) by decide)]
      rw [hs]
      exact hE
    | true =>
      have hH1 : ∀ r, C[i] ≤ r → r < lim C (i + 1) → holdsOf l what r = true := fun r h1 h3 => (hH r h1 h3).trans c
      have key : ∃ R, Inv (holdsOf l what) R 1114112 ∧ ((x = [] ∧ Ev (fun k => quoinref02_made.l0 k l what C (x ++ [⟨C[i], lim C (i + 1) - 1⟩]) ((i + 1 : Nat) : Int)) (madeR R)) ∨ ∃ y d, x = y ++ [d] ∧ good d ∧ ((d.f1 + 1 = C[i] ∧ Ev (fun k => quoinref02_made.l0 k l what C (y ++ [⟨d.f0, lim C (i + 1) - 1⟩]) ((i + 1 : Nat) : Int)) (madeR R)) ∨ (d.f1 + 1 ≠ C[i] ∧ Ev (fun k => quoinref02_made.l0 k l what C (x ++ [⟨C[i], lim C (i + 1) - 1⟩]) ((i + 1 : Nat) : Int)) (madeR R)))) := by
        rcases List.eq_nil_or_concat x with rfl | ⟨y, d, rfl⟩
        · obtain ⟨R, hR, hE⟩ := ih (i + 1) _ (by omega) (piece_new hx hci.1 l1 l2 hH1 (by intro y c h; simp at h))
          exact ⟨R, hR, .inl ⟨rfl, hE⟩⟩
        · rw [List.concat_eq_append] at hx ⊢
          have hd := (okL_front y (-2) d hx.1).2.1
          by_cases e : d.f1 + 1 = C[i]
          · obtain ⟨R, hR, hE⟩ := ih (i + 1) _ (by omega) (piece_on hx hci.1 l1 l2 hH1 e)
            exact ⟨R, hR, .inr ⟨y, d, rfl, hd, .inl ⟨e, hE⟩⟩⟩
          · obtain ⟨R, hR, hE⟩ := ih (i + 1) _ (by omega) (piece_new hx hci.1 l1 l2 hH1 (by
              intro y' c' h
              have := (List.append_inj' h rfl).2
              simp only [List.cons.injEq, and_true] at this
              subst this
              exact e))
            exact ⟨R, hR, .inr ⟨y, d, rfl, hd, .inr ⟨e, hE⟩⟩⟩
      obtain ⟨R, hR, hE⟩ := key
      refine ⟨R, hR, ?_⟩
      apply Ev.succ
      simp only [quoinref02_made.l0, if_pos (show (i : Int) < (C.length : Int) by omega), if_pos (show (0 : Int) ≤ (i : Int) by omega), rdi_at C i hil]
      refine Ev.bind (hhold _) ?_
      simp only [c, if_true]
      rw [hs]
      have hto : ∀ hh : i + 1 < C.length, wrap32 (rd C ((i + 1 : Nat) : Int) - 1) = lim C (i + 1) - 1 := by
        intro hh
        have := hC.2 _ (List.getElem_mem hh)
        rw [rdi_at C (i + 1) hh, wr32 (by omega) (by omega), lim, dif_pos hh]
      have hto' : ∀ hh : ¬ i + 1 < C.length, (1114111 : Int) = lim C (i + 1) - 1 := by
        intro hh
        rw [lim, dif_neg hh]; omega
      have hroom : x.length < 17592186044416 := by omega
      by_cases hn : i + 1 < C.length
      · simp only [if_pos (show ((i + 1 : Nat) : Int) < (C.length : Int) by omega), if_pos (show (0 : Int) ≤ ((i + 1 : Nat) : Int) by omega), hto hn]
        rcases hE with ⟨rfl, hE⟩ | ⟨y, d, rfl, hd, hE⟩
        · simp only [if_neg (show ¬ (([] : List S36).length : Int) > 0 by simp), if_pos hroom]
          exact hE
        · have hlen : ((y ++ [d]).length : Int) = (y.length : Int) + 1 := by simp
          have hyl : (y.length : Int) + 1 ≤ 1114113 := by omega
          have hw : wrap64 ((y.length : Int) + 1 - 1) = (y.length : Int) := by rw [wr (by omega) (by omega)]; omega
          unfold good at hd
          have hw2 : wrap32 (d.f1 + 1) = d.f1 + 1 := wr32 (by omega) (by omega)
          simp only [hlen, hw, rd_last, hw2, set_last, if_pos hroom, if_pos (show (y.length : Int) + 1 > 0 by omega), if_pos (show (0 : Int) ≤ (y.length : Int) by omega), if_pos (show (y.length : Int) < (y.length : Int) + 1 by omega)]
          rcases hE with ⟨e, hE⟩ | ⟨e, hE⟩
          · simp only [if_pos e]; exact hE
          · simp only [if_neg e]; exact hE
      · simp only [if_neg (show ¬ ((i + 1 : Nat) : Int) < (C.length : Int) by omega)]
        rw [hto' hn]
        rcases hE with ⟨rfl, hE⟩ | ⟨y, d, rfl, hd, hE⟩
        · simp only [if_neg (show ¬ (([] : List S36).length : Int) > 0 by simp), if_pos hroom]
          exact hE
        · have hlen : ((y ++ [d]).length : Int) = (y.length : Int) + 1 := by simp
          have hyl : (y.length : Int) + 1 ≤ 1114113 := by omega
          have hw : wrap64 ((y.length : Int) + 1 - 1) = (y.length : Int) := by rw [wr (by omega) (by omega)]; omega
          unfold good at hd
          have hw2 : wrap32 (d.f1 + 1) = d.f1 + 1 := wr32 (by omega) (by omega)
          simp only [hlen, hw, rd_last, hw2, set_last, if_pos hroom, if_pos (show (y.length : Int) + 1 > 0 by omega), if_pos (show (0 : Int) ≤ (y.length : Int) by omega), if_pos (show (y.length : Int) < (y.length : Int) + 1 by omega)]
          rcases hE with ⟨e, hE⟩ | ⟨e, hE⟩
          · simp only [if_pos e]; exact hE
          · simp only [if_neg e]; exact hE
theorem rmade_ev (l : List (List S36)) (hl : l.length ≤ 9223372036854775806) (hr : ∀ s ∈ l, s.length ≤ 9223372036854775806) (hg : ∀ s ∈ l, ∀ t ∈ s, good t) (what : Int) (h2 : what = 2 → 2 ≤ l.length) : ∃ R, Inv (holdsOf l what) R 1114112 ∧ Ev (fun k => quoinref02_made.f k l what) (madeR R) := by
  have hC := starts_cut l hg
  have hz := starts_zero l
  have h0 : lim (startsOf l) 0 = 0 := by
    cases hc : startsOf l with
    | nil => rw [hc] at hz; simp at hz
    | cons a C =>
      rw [hc] at hz hC
      show a = 0
      rcases List.mem_cons.1 hz with h | h
      · exact h.symm
      · have := (List.pairwise_cons.1 hC.1).1 0 h
        have := (hC.2 a List.mem_cons_self).1
        omega
  obtain ⟨R, hR, hE⟩ := rmade_loop l hl hr hg what h2 (startsOf l).length 0 [] (by omega) ⟨rfl, fun r => by rw [h0]; exact ⟨fun h => absurd h (mem_nil r), fun h => by omega⟩⟩
  exact ⟨R, hR, by unfold quoinref02_made.f; exact Ev.bind (starts_ev l hl hr hg) hE⟩
theorem Inv.one {H : Int → Bool} {A R : List S36} (hR : Inv H R 1114112) (h1 : okL (-2) A = true) (h2 : ∀ r, 0 ≤ r → r ≤ 1114111 → (mem A r ↔ H r = true)) : A = R :=
  one_row A R (-2) (-2) h1 hR.1 (fun r => by
    rw [hR.2]
    constructor
    · intro h
      have := okL_ge A (-2) h1 r h
      exact ⟨by omega, by omega, (h2 r (by omega) (by omega)).1 h⟩
    · rintro ⟨a, b, c⟩
      exact (h2 r a (by omega)).2 c)
theorem ord_self : ∀ l : List S36, quoinref02_Order.ord l l = 0
  | [] => rfl
  | t :: l => by simp only [quoinref02_Order.ord, Int.lt_irrefl, gt_iff_lt, if_false, ord_self l]
theorem same_ev (l : List S36) : quoinref02_Same.f l l = some true := by
  unfold quoinref02_Same.f quoinref02_Order.f
  rw [if_pos rfl, ord_self]
  rfl
theorem okL_good : ∀ (l : List S36) (p : Int), okL p l = true → ∀ t ∈ l, good t
  | [], _, _, t, h => by simp at h
  | u :: l, p, h, t, ht => by
    obtain ⟨h1, h2⟩ := okL_cons.1 h
    rcases List.mem_cons.1 ht with rfl | ht
    · unfold good; omega
    · exact okL_good l u.f1 h2 t ht
def chk : List (List S36) → Int
  | [] => 0
  | s :: l => if checkOf s = 0 then chk l else checkOf s
def WfL (l : List (List S36)) : Prop := ∀ s ∈ l, s.length ≤ 9223372036854775806 ∧ Wf s
theorem checked_loop (l : List (List S36)) (hl : l.length ≤ 9223372036854775806) (hw : WfL l) (n : Nat) : ∀ i : Nat, i + n = l.length → Ev (fun k => runes_checked.l0 k l (l.length : Int) i) (chk (l.drop i)) := by
  induction n with
  | zero =>
    intro i hi
    rw [List.drop_eq_nil_of_le (by omega)]
    apply Ev.succ
    simp only [runes_checked.l0, if_neg (show ¬ (i : Int) < (l.length : Int) by omega), chk]
    exact Ev.now _
  | succ n ih =>
    intro i hi
    have hil : i < l.length := by omega
    have hwi := hw _ (List.getElem_mem hil)
    rw [List.drop_eq_getElem_cons hil]
    apply Ev.succ
    simp only [runes_checked.l0, if_pos (show (i : Int) < (l.length : Int) by omega), if_pos (show (0 : Int) ≤ (i : Int) by omega), rdl_at l i hil, chk]
    refine Ev.bind (check_ev _ hwi.1 hwi.2) ?_
    have hs : wrap64 ((i : Int) + 1) = ((i + 1 : Nat) : Int) := by rw [wr (by omega) (by omega)]; omega
    by_cases c : checkOf l[i] = 0
    · simp only [if_pos c]
      rw [hs]
      exact ih (i + 1) (by omega)
    · simp only [if_neg c]
      exact Ev.now _
theorem checked_ev (l : List (List S36)) (hl : l.length ≤ 9223372036854775806) (hw : WfL l) : Ev (fun k => runes_checked.f k l) (chk l) := by
  have := checked_loop l hl hw l.length 0 (by omega)
  rwa [List.drop_zero] at this
theorem rchecked_loop (l : List (List S36)) (hl : l.length ≤ 9223372036854775806) (hw : WfL l) (n : Nat) : ∀ i : Nat, i + n = l.length → Ev (fun k => quoinref02_checked.l0 k l i) (chk (l.drop i)) := by
  induction n with
  | zero =>
    intro i hi
    rw [List.drop_eq_nil_of_le (by omega)]
    apply Ev.succ
    simp only [quoinref02_checked.l0, if_neg (show ¬ (i : Int) < (l.length : Int) by omega), chk]
    exact Ev.now _
  | succ n ih =>
    intro i hi
    have hil : i < l.length := by omega
    have hwi := hw _ (List.getElem_mem hil)
    rw [List.drop_eq_getElem_cons hil]
    apply Ev.succ
    simp only [quoinref02_checked.l0, if_pos (show (i : Int) < (l.length : Int) by omega), if_pos (show (0 : Int) ≤ (i : Int) by omega), rdl_at l i hil, chk]
    refine Ev.bind (rcheck_ev _ hwi.1 hwi.2) ?_
    have hs : wrap64 ((i : Int) + 1) = ((i + 1 : Nat) : Int) := by rw [wr (by omega) (by omega)]; omega
    by_cases c : checkOf l[i] = 0
    · simp only [if_pos c]
      rw [hs]
      exact ih (i + 1) (by omega)
    · simp only [if_neg c]
      exact Ev.now _
theorem rchecked_ev (l : List (List S36)) (hl : l.length ≤ 9223372036854775806) (hw : WfL l) : Ev (fun k => quoinref02_checked.f k l) (chk l) := by
  have := rchecked_loop l hl hw l.length 0 (by omega)
  rwa [List.drop_zero] at this
theorem check_ok {s : List S36} (h : checkOf s = 0) : okL (-2) s = true ∧ s.length ≤ 2048 := by
  unfold checkOf at h
  by_cases c : okL (-2) s = true
  · rw [if_pos c] at h
    exact ⟨c, by by_cases c2 : 2048 < s.length
                 · rw [if_pos c2] at h; omega
                 · omega⟩
  · rw [if_neg c] at h; omega
theorem chk_ok : ∀ {l : List (List S36)}, chk l = 0 → ∀ s ∈ l, checkOf s = 0
  | [], _, s, h => by simp at h
  | t :: l, h, s, hs => by
    unfold chk at h
    by_cases c : checkOf t = 0
    · rw [if_pos c] at h
      rcases List.mem_cons.1 hs with rfl | hs
      · exact c
      · exact chk_ok h s hs
    · rw [if_neg c] at h; exact absurd h c
def InvE (l : List (List S36)) (what : Int) (R : List S36) : Prop := Inv (holdsOf l what) R 1114112
theorem made_one {l : List (List S36)} {what : Int} {A R : List S36} (hR : InvE l what R) (hg : ∀ t ∈ A, good t) (hl : A.length < 17592186044416) (h : ∀ r, 0 ≤ r → r ≤ 1114111 → (mem A r ↔ holdsOf l what r = true)) : Ev (fun k => runes_made.f k A) (madeR R) := by
  have ho := setOf_ok A hg
  rw [← Inv.one hR ho.1 (fun r h0 h1 => (ho.2 r).trans (h r h0 h1))]
  exact made_ev A hg hl
def Out (l : List (List S36)) (what : Int) (p : List S36 × Int) : Prop := (chk l ≠ 0 → p = ([], chk l)) ∧ (chk l = 0 → ∃ R, InvE l what R ∧ p = madeR R)
theorem good_of {l : List (List S36)} (h : chk l = 0) : ∀ s ∈ l, ∀ t ∈ s, good t := fun s hs => okL_good s (-2) (check_ok (chk_ok h s hs)).1
theorem len_of {l : List (List S36)} (h : chk l = 0) : ∀ s ∈ l, s.length ≤ 9223372036854775806 := fun s hs => by have := (check_ok (chk_ok h s hs)).2; omega
theorem hasB_any (r : Int) : ∀ l : List (List S36), 0 < cnt l r ↔ ∃ s ∈ l, mem s r
  | [] => by simp [cnt]
  | s :: l => by
    unfold cnt
    have ih := hasB_any r l
    constructor
    · intro h
      by_cases c : hasB s r = true
      · exact ⟨s, List.mem_cons_self, (hasB_mem r s).1 c⟩
      · rw [if_neg c] at h
        obtain ⟨u, hu, hm⟩ := ih.1 (by omega)
        exact ⟨u, List.mem_cons_of_mem _ hu, hm⟩
    · rintro ⟨u, hu, hm⟩
      rcases List.mem_cons.1 hu with rfl | hu
      · rw [if_pos ((hasB_mem r u).2 hm)]; omega
      · have := ih.2 ⟨u, hu, hm⟩; omega
theorem holds0 (l : List (List S36)) (r : Int) : holdsOf l 0 r = true ↔ ∃ s ∈ l, mem s r := by
  rw [← hasB_any]
  unfold holdsOf fin
  simp
theorem mem_flat (r : Int) : ∀ l : List (List S36), mem l.flatten r ↔ ∃ s ∈ l, mem s r
  | [] => by simp [mem_nil]
  | s :: l => by
    rw [List.flatten_cons, mem_append, mem_flat r l]
    constructor
    · rintro (h | ⟨u, hu, h⟩)
      · exact ⟨s, List.mem_cons_self, h⟩
      · exact ⟨u, List.mem_cons_of_mem _ hu, h⟩
    · rintro ⟨u, hu, h⟩
      rcases List.mem_cons.1 hu with rfl | hu
      · exact .inl h
      · exact .inr ⟨u, hu, h⟩
theorem union_ev (l : List (List S36)) (hl : l.length ≤ 9223372036854775806) (hw : WfL l) (hf : chk l = 0 → l.flatten.length < 17592186044416) : ∃ p, Out l 0 p ∧ Ev (fun k => runes_Union.f k l) p ∧ Ev (fun k => quoinref02_Union.f k l) p := by
  by_cases c : chk l = 0
  · obtain ⟨R, hR, hE⟩ := rmade_ev l hl (len_of c) (good_of c) 0 (by omega)
    have hR' : InvE l 0 R := hR
    refine ⟨madeR R, ⟨fun h => absurd c h, fun _ => ⟨R, hR', rfl⟩⟩, ?_, ?_⟩
    · unfold runes_Union.f
      refine Ev.bind (checked_ev l hl hw) ?_
      simp only [if_pos c]
      refine Ev.bind (Ev.const (show api_Range_47.f l = some l.flatten by unfold api_Range_47.f; rw [if_pos (by have := hf c; omega)])) ?_
      refine Ev.bind (made_one hR' (fun t ht => ?_) (hf c) (fun r _ _ => (mem_flat r l).trans (holds0 l r).symm)) (Ev.now _)
      obtain ⟨s, hs, ht⟩ := List.mem_flatten.1 ht
      exact good_of c s hs t ht
    · unfold quoinref02_Union.f
      refine Ev.bind (rchecked_ev l hl hw) ?_
      simp only [if_pos c]
      exact Ev.bind hE (Ev.now _)
  · refine ⟨([], chk l), ⟨fun _ => rfl, fun h => absurd h c⟩, ?_, ?_⟩
    · unfold runes_Union.f
      refine Ev.bind (checked_ev l hl hw) ?_
      simp only [if_neg c]
      exact Ev.now _
    · unfold quoinref02_Union.f
      refine Ev.bind (rchecked_ev l hl hw) ?_
      simp only [if_neg c]
      exact Ev.now _
theorem wf_okL {l : List S36} {p : Int} (h : okL p l = true) : Wf l := fun t ht => by
  have := okL_good l p h t ht
  unfold good at this
  omega
theorem out_wf {l : List (List S36)} {what : Int} {p : List S36 × Int} (h : Out l what p) : Wf p.1 ∧ p.1.length ≤ 2048 := by
  by_cases c : chk l = 0
  · obtain ⟨R, hR, rfl⟩ := h.2 c
    unfold madeR
    by_cases c2 : 2048 < R.length
    · rw [if_pos c2]; exact ⟨fun t ht => by simp at ht, by simp⟩
    · rw [if_neg c2]; exact ⟨wf_okL hR.1, by dsimp only; omega⟩
  · rw [h.1 c]; exact ⟨fun t ht => by simp at ht, by simp⟩
section arms
variable {a b u m d n kk : List S36} {r e f g h x : Int}
end arms
def putC (y : List Int) (t : S36) : List Int := if t.f1 < 1114111 then y ++ [t.f0] ++ [t.f1 + 1] else y ++ [t.f0]
def putR (y : List Int) (s : List S36) : List Int := s.foldl putC y
def putL (y : List Int) (l : List (List S36)) : List Int := l.foldl putR y
theorem putC_mem {y C : List Int} (h : ∀ x, x ∈ y ↔ x ∈ C) (t : S36) (x : Int) : x ∈ putC y t ↔ x ∈ addT C t := by
  unfold putC addT
  split
  · rw [ins_mem, ins_mem, List.mem_append, List.mem_append, h, List.mem_singleton, List.mem_singleton]
    constructor
    · rintro ((h | h) | h)
      · exact .inr (.inr h)
      · exact .inr (.inl h)
      · exact .inl h
    · rintro (h | h | h)
      · exact .inr h
      · exact .inl (.inr h)
      · exact .inl (.inl h)
  · rw [ins_mem, List.mem_append, h, List.mem_singleton]
    exact ⟨fun h => h.elim .inr .inl, fun h => h.elim .inr .inl⟩
theorem putR_mem : ∀ (s : List S36) {y C : List Int}, (∀ x, x ∈ y ↔ x ∈ C) → ∀ x, x ∈ putR y s ↔ x ∈ addR C s
  | [], _, _, h, x => h x
  | t :: s, _, _, h, x => putR_mem s (fun x => putC_mem h t x) x
theorem putL_mem : ∀ (l : List (List S36)) {y C : List Int}, (∀ x, x ∈ y ↔ x ∈ C) → ∀ x, x ∈ putL y l ↔ x ∈ addL C l
  | [], _, _, h, x => h x
  | s :: l, _, _, h, x => putL_mem l (fun x => putR_mem s h x) x
theorem putC_len (y : List Int) (t : S36) : y.length ≤ (putC y t).length ∧ (putC y t).length ≤ y.length + 2 := by
  unfold putC
  split <;> simp
theorem putR_len : ∀ (s : List S36) (y : List Int), y.length ≤ (putR y s).length ∧ (putR y s).length ≤ y.length + 2 * s.length
  | [], y => ⟨Nat.le_refl _, Nat.le_refl _⟩
  | t :: s, y => by
    have h1 := putC_len y t
    have h2 := putR_len s (putC y t)
    have h3 : putR y (t :: s) = putR (putC y t) s := rfl
    rw [h3, List.length_cons]
    omega
def finC (c : List Int) : List Int × Int := if 2048 < (compactI (sortI c)).length then ([], 21) else (compactI (sortI c), 0)
theorem cuts_row (l : List (List S36)) (i : Nat) (s : List S36) (hl : s.length ≤ 9223372036854775806) (hg : ∀ t ∈ s, good t) (R : List Int × Int) (n : Nat) : ∀ (j : Nat) (y : List Int), j + n = s.length → y.length + 2 * n < 35184372088832 → Ev (fun k => runes_Cuts.l0 k (putR y (s.drop j)) l (l.length : Int) (wrap64 ((i : Int) + 1))) R → Ev (fun k => runes_Cuts.l1 k y l (l.length : Int) i s (s.length : Int) j) R := by
  induction n with
  | zero =>
    intro j y hj hb h
    rw [List.drop_eq_nil_of_le (by omega)] at h
    apply Ev.succ
    simp only [runes_Cuts.l1, if_neg (show ¬ (j : Int) < (s.length : Int) by omega)]
    exact h
  | succ n ih =>
    intro j y hj hb h
    have hjl : j < s.length := by omega
    have hgj := hg _ (List.getElem_mem hjl)
    rw [List.drop_eq_getElem_cons hjl] at h
    have hs : wrap64 ((j : Int) + 1) = ((j + 1 : Nat) : Int) := by rw [wr (by omega) (by omega)]; omega
    have hp := putC_len y s[j]
    have h2 := ih (j + 1) (putC y s[j]) (by omega) (by omega) h
    apply Ev.succ
    simp only [runes_Cuts.l1, if_pos (show (j : Int) < (s.length : Int) by omega), if_pos (show (0 : Int) ≤ (j : Int) by omega), rd_at _ j hjl, if_pos (show y.length < 35184372088832 by omega), Option.bind_some]
    unfold putC at h2
    unfold good at hgj
    by_cases c : (s[j]).f1 < 1114111
    · simp only [if_pos c] at h2 ⊢
      simp only [if_pos (show (y ++ [(s[j]).f0]).length < 35184372088832 by rw [List.length_append, List.length_singleton]; omega)]
      rw [wr32 (by omega) (by omega), hs]
      exact h2
    · simp only [if_neg c] at h2 ⊢
      rw [hs]
      exact h2
theorem cuts_loop (l : List (List S36)) (hl : l.length ≤ 9223372036854775806) (hr : ∀ s ∈ l, s.length ≤ 9223372036854775806) (hg : ∀ s ∈ l, ∀ t ∈ s, good t) (n : Nat) : ∀ (i : Nat) (y : List Int), i + n = l.length → 0 < y.length → y.length + 2 * (l.drop i).flatten.length < 35184372088832 → Ev (fun k => runes_Cuts.l0 k y l (l.length : Int) i) (finC (putL y (l.drop i))) := by
  induction n with
  | zero =>
    intro i y hi hy hb
    rw [List.drop_eq_nil_of_le (by omega)]
    have hb' : y.length < 35184372088832 := by omega
    apply Ev.succ
    simp only [runes_Cuts.l0, if_neg (show ¬ (i : Int) < (l.length : Int) by omega)]
    refine Ev.bind (Ev.const (show slices_Sort_rune_rune.f y = some (sortI y) by unfold slices_Sort_rune_rune.f; rw [if_pos ⟨hy, by omega⟩])) ?_
    refine Ev.bind (Ev.const (show slices_Compact_rune_rune.f (sortI y) = some (compactI (sortI y)) by unfold slices_Compact_rune_rune.f; rw [if_pos (by rw [sortI.len]; exact hy)])) ?_
    show Ev _ (finC y)
    unfold finC
    by_cases c : 2048 < (compactI (sortI y)).length
    · simp only [if_pos c, if_pos (show ((compactI (sortI y)).length : Int) > 2048 by omega)]
      exact Ev.now _
    · simp only [if_neg c, if_neg (show ¬ ((compactI (sortI y)).length : Int) > 2048 by omega)]
      exact Ev.now _
  | succ n ih =>
    intro i y hi hy hb
    have hil : i < l.length := by omega
    rw [List.drop_eq_getElem_cons hil] at hb ⊢
    rw [List.flatten_cons, List.length_append] at hb
    have hs : wrap64 ((i : Int) + 1) = ((i + 1 : Nat) : Int) := by rw [wr (by omega) (by omega)]; omega
    apply Ev.succ
    simp only [runes_Cuts.l0, if_pos (show (i : Int) < (l.length : Int) by omega), if_pos (show (0 : Int) ≤ (i : Int) by omega), rdl_at l i hil]
    have hp := putR_len l[i] y
    refine cuts_row l i l[i] (hr _ (List.getElem_mem hil)) (hg _ (List.getElem_mem hil)) _ (l[i]).length 0 y (by omega) (by omega) ?_
    rw [List.drop_zero, hs]
    exact ih (i + 1) (putR y l[i]) (by omega) (by omega) (by omega)
theorem sortI_mem (y : List Int) (x : Int) : x ∈ sortI y ↔ x ∈ y := (List.mergeSort_perm y _).mem_iff
theorem sortI_le (y : List Int) : (sortI y).Pairwise (· ≤ ·) := by
  have h := List.pairwise_mergeSort (le := fun x y : Int => !Srt.lt y x) (fun a b c h1 h2 => by simp [Srt.lt] at h1 h2 ⊢; omega) (fun a b => by simp [Srt.lt]; omega) y
  exact h.imp (fun h => by simpa [Srt.lt] using h)
theorem comp_upto (d : Array Int) (hd : ∀ i j, i ≤ j → j < d.size → d[i]! ≤ d[j]!) : ∀ m, m ≤ d.size → (Lib.compactUpTo d m).Pairwise (· < ·) ∧ ∀ x, x ∈ Lib.compactUpTo d m ↔ ∃ j, j < m ∧ d[j]! = x := by
  intro m
  induction m with
  | zero => intro _; exact ⟨List.Pairwise.nil, fun x => ⟨fun h => by simp [Lib.compactUpTo] at h, fun ⟨j, h, _⟩ => absurd h (by omega)⟩⟩
  | succ m ih =>
    intro hm
    obtain ⟨h1, h2⟩ := ih (by omega)
    rw [Lib.compactUpTo_succ]
    by_cases c : Lib.keeps d m = true
    · rw [if_pos c]
      have hc := of_decide_eq_true c
      refine ⟨List.pairwise_append.2 ⟨h1, List.pairwise_singleton _ _, fun x hx y hy => ?_⟩, fun x => ?_⟩
      · rw [List.mem_singleton] at hy
        subst hy
        obtain ⟨j, hj, rfl⟩ := (h2 x).1 hx
        have a1 := hd j (m - 1) (by omega) (by omega)
        have a2 := hd (m - 1) m (by omega) (by omega)
        rcases hc with hc | hc
        · omega
        · omega
      · rw [List.mem_append, List.mem_singleton, h2]
        constructor
        · rintro (⟨j, hj, e⟩ | e)
          · exact ⟨j, by omega, e⟩
          · exact ⟨m, by omega, e.symm⟩
        · rintro ⟨j, hj, e⟩
          by_cases c2 : j = m
          · subst c2; exact .inr e.symm
          · exact .inl ⟨j, by omega, e⟩
    · rw [if_neg c, List.append_nil]
      refine ⟨h1, fun x => ?_⟩
      rw [h2]
      have hc : ¬ (m = 0 ∨ d[m]! ≠ d[m - 1]!) := fun h => c (decide_eq_true h)
      have hc0 : m ≠ 0 := fun h => hc (.inl h)
      have hc1 : d[m]! = d[m - 1]! := Classical.byContradiction fun h => hc (.inr h)
      constructor
      · rintro ⟨j, hj, e⟩; exact ⟨j, by omega, e⟩
      · rintro ⟨j, hj, e⟩
        by_cases c2 : j = m
        · subst c2; exact ⟨j - 1, by omega, hc1.symm.trans e⟩
        · exact ⟨j, by omega, e⟩
theorem compact_of (y : List Int) (hy : y.Pairwise (· ≤ ·)) : (compactI y).Pairwise (· < ·) ∧ ∀ x, x ∈ compactI y ↔ x ∈ y := by
  have hs : y.toArray.size = y.length := by simp
  have hd : ∀ i j, i ≤ j → j < y.toArray.size → y.toArray[i]! ≤ y.toArray[j]! := by
    intro i j hij hj
    rw [getElem!_pos y.toArray j hj, getElem!_pos y.toArray i (by omega)]
    simp only [List.getElem_toArray]
    by_cases c : i = j
    · subst c; exact Int.le_refl _
    · exact List.pairwise_iff_getElem.1 hy i j (by omega) (by omega) (by omega)
  obtain ⟨h1, h2⟩ := comp_upto y.toArray hd y.toArray.size (Nat.le_refl _)
  refine ⟨h1, fun x => (h2 x).trans ?_⟩
  constructor
  · rintro ⟨j, hj, e⟩
    rw [getElem!_pos y.toArray j hj] at e
    simp only [List.getElem_toArray] at e
    exact e ▸ List.getElem_mem _
  · intro hx
    obtain ⟨j, hj, e⟩ := List.mem_iff_getElem.1 hx
    refine ⟨j, by omega, ?_⟩
    rw [getElem!_pos y.toArray j (by omega)]
    simpa using e
theorem rising_one : ∀ (A B : List Int), A.Pairwise (· < ·) → B.Pairwise (· < ·) → (∀ x, x ∈ A ↔ x ∈ B) → A = B
  | [], [], _, _, _ => rfl
  | [], b :: B, _, _, h => absurd ((h b).2 List.mem_cons_self) (by simp)
  | a :: A, [], _, _, h => absurd ((h a).1 List.mem_cons_self) (by simp)
  | a :: A, b :: B, hA, hB, h => by
    obtain ⟨a1, a2⟩ := List.pairwise_cons.1 hA
    obtain ⟨b1, b2⟩ := List.pairwise_cons.1 hB
    have e : a = b := by
      rcases List.mem_cons.1 ((h a).1 List.mem_cons_self) with e | h1
      · exact e
      · rcases List.mem_cons.1 ((h b).2 List.mem_cons_self) with e | h2
        · exact e.symm
        · have := b1 a h1; have := a1 b h2; omega
    subst e
    rw [rising_one A B a2 b2 (fun x => ?_)]
    constructor
    · intro hx
      rcases List.mem_cons.1 ((h x).1 (List.mem_cons_of_mem _ hx)) with rfl | h1
      · exact absurd (a1 x hx) (Int.lt_irrefl _)
      · exact h1
    · intro hx
      rcases List.mem_cons.1 ((h x).2 (List.mem_cons_of_mem _ hx)) with rfl | h1
      · exact absurd (b1 x hx) (Int.lt_irrefl _)
      · exact h1
theorem cuts_eq (l : List (List S36)) (hg : ∀ s ∈ l, ∀ t ∈ s, good t) : compactI (sortI (putL [0] l)) = startsOf l := by
  obtain ⟨h1, h2⟩ := compact_of (sortI (putL [0] l)) (sortI_le _)
  refine rising_one _ _ h1 (starts_cut l hg).1 (fun x => (h2 x).trans ((sortI_mem _ x).trans ?_))
  exact putL_mem l (fun _ => Iff.rfl) x
def cutsOf (l : List (List S36)) : List Int × Int := if chk l = 0 then (if 2048 < (startsOf l).length then ([], 21) else (startsOf l, 0)) else ([], chk l)
theorem cuts_ev (l : List (List S36)) (hl : l.length ≤ 9223372036854775806) (hw : WfL l) (hf : l.flatten.length < 17592186044415) : Ev (fun k => runes_Cuts.f k l) (cutsOf l) := by
  unfold runes_Cuts.f cutsOf
  refine Ev.bind (checked_ev l hl hw) ?_
  by_cases c : chk l = 0
  · simp only [if_pos c]
    have h := cuts_loop l hl (len_of c) (good_of c) l.length 0 [0] (by omega) (by simp) (by rw [List.drop_zero]; simp only [List.length_singleton]; omega)
    rw [List.drop_zero] at h
    unfold finC at h
    rw [cuts_eq l (good_of c)] at h
    exact h
  · simp only [if_neg c]
    exact Ev.now _
theorem rcuts_ev (l : List (List S36)) (hl : l.length ≤ 9223372036854775806) (hw : WfL l) : Ev (fun k => quoinref02_Cuts.f k l) (cutsOf l) := by
  unfold quoinref02_Cuts.f cutsOf
  refine Ev.bind (rchecked_ev l hl hw) ?_
  by_cases c : chk l = 0
  · simp only [if_pos c]
    refine Ev.bind (starts_ev l hl (len_of c) (good_of c)) ?_
    by_cases c2 : 2048 < (startsOf l).length
    · simp only [if_pos c2, if_pos (show ((startsOf l).length : Int) > 2048 by omega)]
      exact Ev.now _
    · simp only [if_neg c2, if_neg (show ¬ ((startsOf l).length : Int) > 2048 by omega)]
      exact Ev.now _
  · simp only [if_neg c]
    exact Ev.now _
theorem cutsOf_len (l : List (List S36)) : (cutsOf l).1.length ≤ 2048 := by
  unfold cutsOf
  split
  · split
    · simp
    · simp only; omega
  · simp
theorem out_len {l : List (List S36)} {what : Int} {p : List S36 × Int} (h : Out l what p) : p.1.length ≤ 2048 := (out_wf h).2
theorem flat_small {l : List (List S36)} (hl : l.length ≤ 2) (h : chk l = 0) : l.flatten.length ≤ 4096 := by
  have h1 := fun s hs => (check_ok (chk_ok h s hs)).2
  match l, hl with
  | [], _ => simp
  | [a], _ => have := h1 a (by simp); simp; omega
  | [a, b], _ => have := h1 a (by simp); have := h1 b (by simp); simp; omega
theorem own3 (a b : List S36) (e : Int) (y : List S36) (C : List Int) (hC : C.length ≤ 2048) (n : Nat) : ∀ (i : Nat), i + n = C.length → Ev (fun k => quoinlaw02_RunesOwn.l3 k a b a b e y y e C C i) true := by
  induction n with
  | zero =>
    intro i hi
    apply Ev.succ
    simp only [quoinlaw02_RunesOwn.l3, if_neg (show ¬ (i : Int) < (C.length : Int) by omega)]
    refine Ev.bind (Ev.const (same_ev a)) ?_
    simp only [if_true]
    refine Ev.bind (Ev.const (same_ev b)) ?_
    simp only [if_true]
    refine Ev.bind (Ev.const (same_ev y)) ?_
    simp only [if_true]
    exact Ev.bind awake_ev (Ev.now _)
  | succ n ih =>
    intro i hi
    have hs : wrap64 ((i : Int) + 1) = ((i + 1 : Nat) : Int) := by rw [wr (by omega) (by omega)]; omega
    apply Ev.succ
    simp only [quoinlaw02_RunesOwn.l3, if_pos (show (i : Int) < (C.length : Int) by omega), if_pos (show (0 : Int) ≤ (i : Int) by omega), if_true]
    rw [hs]
    exact ih (i + 1) (by omega)
theorem own2 (a b : List S36) (e : Int) (y : List S36) (R : Bool) (h : Ev (fun k => (quoinref02_Union.f k (([a, b] : List (List (S36))))).bind fun bt331 => ((runes_Cuts.f k (([a, b] : List (List (S36))))).bind fun bt338 => ((quoinref02_Cuts.f k (([a, b] : List (List (S36))))).bind fun bt345 => (if (bt338.1.length : Int) = (bt345.1.length : Int) then (quoinlaw02_RunesOwn.l3 k a b a b e y bt331.1 bt331.2 bt338.1 bt345.1 0) else (some false))))) R) (n : Nat) : ∀ (i : Nat) (C : List Int), i + n = C.length → C.length ≤ 2048 → Ev (fun k => quoinlaw02_RunesOwn.l2 k a b a b e y C i) R := by
  induction n with
  | zero =>
    intro i C hi hC
    apply Ev.succ
    simp only [quoinlaw02_RunesOwn.l2, if_neg (show ¬ (i : Int) < (C.length : Int) by omega)]
    exact h
  | succ n ih =>
    intro i C hi hC
    have hs : wrap64 ((i : Int) + 1) = ((i + 1 : Nat) : Int) := by rw [wr (by omega) (by omega)]; omega
    apply Ev.succ
    simp only [quoinlaw02_RunesOwn.l2, if_pos (show (i : Int) < (C.length : Int) by omega), if_pos (show (0 : Int) ≤ (i : Int) by omega)]
    rw [hs]
    exact ih (i + 1) _ (by rw [List.length_set]; omega) (by rw [List.length_set]; exact hC)
theorem own1 (a b : List S36) (e : Int) (y : List S36) (R : Bool) (h : Ev (fun k => (runes_Cuts.f k (([a, b] : List (List (S36))))).bind fun bt323 => (quoinlaw02_RunesOwn.l2 k a b a b e y bt323.1 0)) R) (n : Nat) : ∀ (i : Nat) (C : List S36), i + n = C.length → C.length ≤ 2048 → Ev (fun k => quoinlaw02_RunesOwn.l1 k a b a b e y C i) R := by
  induction n with
  | zero =>
    intro i C hi hC
    apply Ev.succ
    simp only [quoinlaw02_RunesOwn.l1, if_neg (show ¬ (i : Int) < (C.length : Int) by omega)]
    exact h
  | succ n ih =>
    intro i C hi hC
    have hs : wrap64 ((i : Int) + 1) = ((i + 1 : Nat) : Int) := by rw [wr (by omega) (by omega)]; omega
    apply Ev.succ
    simp only [quoinlaw02_RunesOwn.l1, if_pos (show (i : Int) < (C.length : Int) by omega), if_pos (show (0 : Int) ≤ (i : Int) by omega)]
    rw [hs]
    exact ih (i + 1) _ (by rw [List.length_set]; omega) (by rw [List.length_set]; exact hC)
theorem own0 (a b : List S36) (e : Int) (y : List S36) (R : Bool) (h : Ev (fun k => (runes_Union.f k (([a] : List (List (S36))))).bind fun bt315 => (quoinlaw02_RunesOwn.l1 k a b a b e y bt315.1 0)) R) (n : Nat) : ∀ (i : Nat) (C : List S36), i + n = C.length → C.length ≤ 2048 → Ev (fun k => quoinlaw02_RunesOwn.l0 k a b a b C e y i) R := by
  induction n with
  | zero =>
    intro i C hi hC
    apply Ev.succ
    simp only [quoinlaw02_RunesOwn.l0, if_neg (show ¬ (i : Int) < (C.length : Int) by omega)]
    exact h
  | succ n ih =>
    intro i C hi hC
    have hs : wrap64 ((i : Int) + 1) = ((i + 1 : Nat) : Int) := by rw [wr (by omega) (by omega)]; omega
    apply Ev.succ
    simp only [quoinlaw02_RunesOwn.l0, if_pos (show (i : Int) < (C.length : Int) by omega), if_pos (show (0 : Int) ≤ (i : Int) by omega)]
    rw [hs]
    exact ih (i + 1) _ (by rw [List.length_set]; omega) (by rw [List.length_set]; exact hC)
theorem cuts_ev2 (l : List (List S36)) (hl : l.length ≤ 2) (hw : WfL l) : Ev (fun k => runes_Cuts.f k l) (cutsOf l) := by
  by_cases c : chk l = 0
  · exact cuts_ev l (by omega) hw (by have := flat_small hl c; omega)
  · unfold runes_Cuts.f cutsOf
    refine Ev.bind (checked_ev l (by omega) hw) ?_
    simp only [if_neg c]
    exact Ev.now _
theorem RunesOwn : quoinlaw02_RunesOwn.Pure := by
  intro a b _ ha2 ha _ hb2 hb
  refine Ev.rounds ?_
  have hwa : a.length ≤ 9223372036854775806 ∧ Wf a := ⟨by omega, wf_of ha⟩
  have hwb : b.length ≤ 9223372036854775806 ∧ Wf b := ⟨by omega, wf_of hb⟩
  have hw2 : WfL [a, b] := fun s hs => by
    rcases List.mem_cons.1 hs with rfl | hs
    · exact hwa
    · rw [List.mem_singleton.1 hs]; exact hwb
  have hw1 : WfL [a] := fun s hs => by rw [List.mem_singleton.1 hs]; exact hwa
  obtain ⟨p, hp, p1, p2⟩ := union_ev [a, b] (by simp) hw2 (fun c => by have := flat_small (l := [a, b]) (by simp) c; omega)
  obtain ⟨q, hq, q1, q2⟩ := union_ev [a] (by simp) hw1 (fun c => by have := flat_small (l := [a]) (by simp) c; omega)
  unfold quoinlaw02_RunesOwn.f
  simp only [Option.bind_some, List.nil_append, List.length_nil, Nat.zero_add, if_pos (show a.length < 17592186044416 by omega), if_pos (show b.length < 17592186044416 by omega)]
  refine Ev.bind p1 (Ev.bind p1 ?_)
  refine own0 a b p.2 p.1 true ?_ p.1.length 0 p.1 (by omega) (out_len hp)
  refine Ev.bind q1 ?_
  refine own1 a b p.2 p.1 true ?_ q.1.length 0 q.1 (by omega) (out_len hq)
  refine Ev.bind (cuts_ev2 [a, b] (by simp) hw2) ?_
  refine own2 a b p.2 p.1 true ?_ (cutsOf [a, b]).1.length 0 (cutsOf [a, b]).1 (by omega) (cutsOf_len _)
  refine Ev.bind p2 (Ev.bind (cuts_ev2 [a, b] (by simp) hw2) (Ev.bind (rcuts_ev [a, b] (by simp) hw2) ?_))
  simp only [if_true]
  exact own3 a b p.2 p.1 (cutsOf [a, b]).1 (cutsOf_len _) (cutsOf [a, b]).1.length 0 (by omega)
end Go.Proofs.YtfnkboilepgmoaaDoor.Pure
