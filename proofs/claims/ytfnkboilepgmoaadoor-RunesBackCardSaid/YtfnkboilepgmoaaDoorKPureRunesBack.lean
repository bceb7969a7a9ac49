import Derived.Test.YtfnkboilepgmoaaDoorKPre
import Derived.Test.YtfnkboilepgmoaaDoorKax0
import Derived.Test.YtfnkboilepgmoaaDoorKax1
import Derived.Test.YtfnkboilepgmoaaDoorKax2
import Derived.Test.YtfnkboilepgmoaaDoorKax3
import Derived.Test.YtfnkboilepgmoaaDoorKax4
import Derived.Test.YtfnkboilepgmoaaDoorKax5

namespace Go.Proofs.YtfnkboilepgmoaaDoor.Pure
open Go.RowKit Go.Proofs.YtfnkboilepgmoaaDoor.R Go.Proofs.YtfnkboilepgmoaaDoorW.PrintWords Go.Proofs.YtfnkboilepgmoaaDoorW.PrintLast
set_option maxRecDepth 100000
set_option linter.unusedVariables false
set_option linter.unusedSimpArgs false
theorem Ev.succ {α : Type} {g : Nat → Option α} {r : α} (h : Ev (fun k => g (k + 1)) r) : Ev g r := Ev.step (fun _ => rfl) h
theorem Ev.const {α : Type} {a : Option α} {r : α} (h : a = some r) : Ev (fun _ => a) r := ⟨0, fun _ _ => h⟩
theorem wr {x : Int} (h0 : -9223372036854775808 ≤ x) (h1 : x ≤ 9223372036854775807) : wrap64 x = x := by unfold wrap64; omega
theorem wr32 {x : Int} (h0 : -2147483648 ≤ x) (h1 : x ≤ 2147483647) : wrap32 x = x := by unfold wrap32; omega
theorem wf32 {x : Int} (h : (Lit.int .i32 x).wf = true) : -2147483648 ≤ x ∧ x ≤ 2147483647 := by
  have : IntKind.i32.min = -2147483648 := by decide
  have h := h
  simp only [Lit.wf, decide_eq_true_eq, Bool.and_eq_true] at h
  have h2 : IntKind.i32.max = 2147483647 := by decide
  omega
theorem rd_at (l : List S36) (i : Nat) (h : i < l.length) : rd_T36 l (i : Int) = l[i] := by
  unfold rd_T36
  rw [List.getD_eq_getElem?_getD, Int.toNat_natCast, List.getElem?_eq_getElem h]
  rfl
def Wf (l : List S36) : Prop := ∀ x ∈ l, -2147483648 ≤ x.f0 ∧ x.f0 ≤ 2147483647 ∧ -2147483648 ≤ x.f1 ∧ x.f1 ≤ 2147483647
theorem wf_of {l : List S36} (h : ∀ x ∈ l, (Lit.int .i32 x.f0).wf = true ∧ (Lit.int .i32 x.f1).wf = true) : Wf l := fun x hx => by
  have h1 := wf32 (h x hx).1
  have h2 := wf32 (h x hx).2
  omega
theorem awake_at : quoinlaw02_awake.f 60 = some true := by decide +kernel
theorem awake_ev : Ev (fun k => quoinlaw02_awake.f k) true := Ev.of (fun k => quoinlaw02_awake.mono k) awake_at
def okL : Int → List S36 → Bool
  | _, [] => true
  | p, t :: l => decide (0 ≤ t.f0 ∧ t.f0 ≤ t.f1 ∧ t.f1 ≤ 1114111 ∧ p + 2 ≤ t.f0) && okL t.f1 l
theorem okL_no {p : Int} {t : S36} {l : List S36} (h : ¬ (0 ≤ t.f0 ∧ t.f0 ≤ t.f1 ∧ t.f1 ≤ 1114111 ∧ p + 2 ≤ t.f0)) : okL p (t :: l) = false := by
  simp only [okL, decide_eq_false h, Bool.false_and]
theorem okL_yes {p : Int} {t : S36} {l : List S36} (h : 0 ≤ t.f0 ∧ t.f0 ≤ t.f1 ∧ t.f1 ≤ 1114111 ∧ p + 2 ≤ t.f0) : okL p (t :: l) = okL t.f1 l := by
  simp only [okL, decide_eq_true h, Bool.true_and]
def checkOf (l : List S36) : Int := if okL (-2) l = true then (if 2048 < l.length then 21 else 0) else 20
def prev (l : List S36) (i : Nat) (p : Int) : Prop := (i = 0 ∧ p = -2) ∨ (1 ≤ i ∧ ∃ h : i - 1 < l.length, p = (l[i - 1]).f1 ∧ 0 ≤ p ∧ p ≤ 1114111)
theorem check_loop (l : List S36) (hl : l.length ≤ 9223372036854775806) (hw : Wf l) (n : Nat) : ∀ (i : Nat) (p : Int), i + n = l.length → prev l i p → Ev (fun k => runes_Check.l0 k l l (l.length : Int) i) (if okL p (l.drop i) = true then (if 2048 < l.length then 21 else 0) else 20) := by
  induction n with
  | zero =>
    intro i p hi hp
    apply Ev.succ
    rw [List.drop_eq_nil_of_le (by omega)]
    simp only [runes_Check.l0, if_neg (show ¬ (i : Int) < (l.length : Int) by omega), okL, if_true]
    by_cases c : 2048 < l.length
    · rw [if_pos c]
      simp only [if_pos (show (l.length : Int) > 2048 by omega)]
      exact Ev.now _
    · rw [if_neg c]
      simp only [if_neg (show ¬ (l.length : Int) > 2048 by omega)]
      exact Ev.now _
  | succ n ih =>
    intro i p hi hp
    have hil : i < l.length := by omega
    apply Ev.succ
    rw [List.drop_eq_getElem_cons hil]
    obtain ⟨t, ht⟩ : ∃ t, l[i] = t := ⟨_, rfl⟩
    have hwt := hw t (ht ▸ List.getElem_mem hil)
    rw [ht]
    simp only [runes_Check.l0, if_pos (show (i : Int) < (l.length : Int) by omega), if_pos (show (0 : Int) ≤ (i : Int) by omega), rd_at l i hil, ht]
    by_cases c1 : t.f0 < 0
    · simp only [if_pos c1]
      rw [okL_no (by omega), if_neg (by decide)]
      exact Ev.now _
    simp only [if_neg c1]
    by_cases c2 : t.f1 > 1114111
    · simp only [if_pos c2]
      rw [okL_no (by omega), if_neg (by decide)]
      exact Ev.now _
    simp only [if_neg c2]
    by_cases c3 : t.f0 > t.f1
    · simp only [if_pos c3]
      rw [okL_no (by omega), if_neg (by decide)]
      exact Ev.now _
    simp only [if_neg c3]
    have hs : wrap64 ((i : Int) + 1) = ((i + 1 : Nat) : Int) := by rw [wr (by omega) (by omega)]; omega
    have hp' : prev l (i + 1) t.f1 := .inr ⟨by omega, by simpa using hil, by simp [ht], by omega, by omega⟩
    have hnext := ih (i + 1) t.f1 (by omega) hp'
    by_cases c4 : (i : Int) > 0
    · simp only [if_pos c4, wr (show -9223372036854775808 ≤ (i : Int) - 1 by omega) (show (i : Int) - 1 ≤ 9223372036854775807 by omega), if_pos (show (0 : Int) ≤ (i : Int) - 1 by omega), if_pos (show (i : Int) - 1 < (l.length : Int) by omega), wr32 (show -2147483648 ≤ t.f0 - 1 by omega) (show t.f0 - 1 ≤ 2147483647 by omega)]
      rcases hp with ⟨h0, _⟩ | ⟨h0, h1, h2, h3, h4⟩
      · omega
      have e : rd_T36 l ((i : Int) - 1) = l[i - 1] := by rw [show (i : Int) - 1 = ((i - 1 : Nat) : Int) by omega]; exact rd_at l (i - 1) h1
      rw [e, ← h2]
      by_cases c5 : t.f0 - 1 ≤ p
      · simp only [if_pos c5]
        rw [okL_no (by omega), if_neg (by decide)]
        exact Ev.now _
      · simp only [if_neg c5]
        rw [okL_yes (by omega), hs]
        exact hnext
    · simp only [if_neg c4]
      rcases hp with ⟨h0, h1⟩ | ⟨h0, _⟩
      · rw [okL_yes (by omega), hs]
        exact hnext
      · omega
theorem check_ev (l : List S36) (hl : l.length ≤ 9223372036854775806) (hw : Wf l) : Ev (fun k => runes_Check.f k l) (checkOf l) := by
  have := check_loop l hl hw l.length 0 (-2) (by omega) (.inl ⟨rfl, rfl⟩)
  rwa [List.drop_zero] at this
def mem (l : List S36) (r : Int) : Prop := ∃ t ∈ l, t.f0 ≤ r ∧ r ≤ t.f1
theorem mem_nil (r : Int) : ¬ mem [] r := by rintro ⟨t, h, _⟩; simp at h
theorem mem_cons (t : S36) (l : List S36) (r : Int) : mem (t :: l) r ↔ (t.f0 ≤ r ∧ r ≤ t.f1) ∨ mem l r := by
  constructor
  · rintro ⟨u, h, h1⟩
    rcases List.mem_cons.1 h with rfl | h
    · exact .inl h1
    · exact .inr ⟨u, h, h1⟩
  · rintro (h | ⟨u, h, h1⟩)
    · exact ⟨t, List.mem_cons_self, h⟩
    · exact ⟨u, List.mem_cons_of_mem _ h, h1⟩
theorem mem_append (l m : List S36) (r : Int) : mem (l ++ m) r ↔ mem l r ∨ mem m r := by
  induction l with
  | nil => simp [mem_nil]
  | cons t l ih => rw [List.cons_append, mem_cons, mem_cons, ih, or_assoc]
theorem okL_cons {p : Int} {t : S36} {l : List S36} : okL p (t :: l) = true ↔ (0 ≤ t.f0 ∧ t.f0 ≤ t.f1 ∧ t.f1 ≤ 1114111 ∧ p + 2 ≤ t.f0) ∧ okL t.f1 l = true := by
  simp only [okL, Bool.and_eq_true, decide_eq_true_eq]
theorem okL_ge : ∀ (l : List S36) (p : Int), okL p l = true → ∀ r, mem l r → p + 2 ≤ r ∧ r ≤ 1114111
  | [], p, _, r, h => absurd h (mem_nil r)
  | t :: l, p, h, r, hr => by
    obtain ⟨h1, h2⟩ := okL_cons.1 h
    rcases (mem_cons t l r).1 hr with h3 | h3
    · omega
    · have := okL_ge l t.f1 h2 r h3
      omega
theorem S36_ext {a b : S36} (h0 : a.f0 = b.f0) (h1 : a.f1 = b.f1) : a = b := by
  obtain ⟨_, _⟩ := a
  obtain ⟨_, _⟩ := b
  simp only at h0 h1
  rw [h0, h1]
theorem one_row : ∀ (A B : List S36) (p q : Int), okL p A = true → okL q B = true → (∀ r, mem A r ↔ mem B r) → A = B
  | [], [], _, _, _, _, _ => rfl
  | [], b :: B, p, q, hA, hB, h => by
    obtain ⟨h1, _⟩ := okL_cons.1 hB
    exact absurd ((h b.f0).2 ((mem_cons b B _).2 (.inl (by omega)))) (mem_nil _)
  | a :: A, [], p, q, hA, hB, h => by
    obtain ⟨h1, _⟩ := okL_cons.1 hA
    exact absurd ((h a.f0).1 ((mem_cons a A _).2 (.inl (by omega)))) (mem_nil _)
  | a :: A, b :: B, p, q, hA, hB, h => by
    obtain ⟨a1, a2⟩ := okL_cons.1 hA
    obtain ⟨b1, b2⟩ := okL_cons.1 hB
    have gA := okL_ge A a.f1 a2
    have gB := okL_ge B b.f1 b2
    have e0 : a.f0 = b.f0 := by
      have h1 := (mem_cons b B _).1 ((h a.f0).1 ((mem_cons a A _).2 (.inl (by omega))))
      have h2 := (mem_cons a A _).1 ((h b.f0).2 ((mem_cons b B _).2 (.inl (by omega))))
      have h3 : b.f0 ≤ a.f0 := by
        rcases h1 with h1 | h1
        · omega
        · have := gB _ h1; omega
      have h4 : a.f0 ≤ b.f0 := by
        rcases h2 with h2 | h2
        · omega
        · have := gA _ h2; omega
      omega
    have e1 : a.f1 = b.f1 := by
      rcases Int.lt_trichotomy a.f1 b.f1 with c | c | c
      · rcases (mem_cons a A _).1 ((h (a.f1 + 1)).2 ((mem_cons b B _).2 (.inl (by omega)))) with h1 | h1
        · omega
        · have := gA _ h1; omega
      · exact c
      · rcases (mem_cons b B _).1 ((h (b.f1 + 1)).1 ((mem_cons a A _).2 (.inl (by omega)))) with h1 | h1
        · omega
        · have := gB _ h1; omega
    obtain rfl := S36_ext e0 e1
    congr 1
    refine one_row A B a.f1 a.f1 a2 b2 (fun r => ⟨fun hr => ?_, fun hr => ?_⟩)
    · have := gA _ hr
      rcases (mem_cons a B _).1 ((h r).1 ((mem_cons a A _).2 (.inr hr))) with h1 | h1
      · omega
      · exact h1
    · have := gB _ hr
      rcases (mem_cons a A _).1 ((h r).2 ((mem_cons a B _).2 (.inr hr))) with h1 | h1
      · omega
      · exact h1
def merge (c : S36) : List S36 → List S36
  | [] => [c]
  | t :: l => if t.f0 ≤ c.f1 + 1 then merge ⟨c.f0, max c.f1 t.f1⟩ l else c :: merge t l
def good (t : S36) : Prop := 0 ≤ t.f0 ∧ t.f0 ≤ t.f1 ∧ t.f1 ≤ 1114111
theorem merge_ok : ∀ (l : List S36) (c : S36) (p : Int), good c → (∀ t ∈ l, good t ∧ c.f0 ≤ t.f0) → l.Pairwise (fun x y => x.f0 ≤ y.f0) → p + 2 ≤ c.f0 → okL p (merge c l) = true ∧ ∀ r, mem (merge c l) r ↔ mem (c :: l) r
  | [], c, p, hc, _, _, hp => by
    unfold merge
    exact ⟨okL_cons.2 ⟨by unfold good at hc; omega, rfl⟩, fun r => Iff.rfl⟩
  | t :: l, c, p, hc, hl, hs, hp => by
    have ht := hl t List.mem_cons_self
    obtain ⟨s1, s2⟩ := List.pairwise_cons.1 hs
    have hl' : ∀ u ∈ l, good u ∧ t.f0 ≤ u.f0 := fun u hu => ⟨(hl u (List.mem_cons_of_mem _ hu)).1, s1 u hu⟩
    have hgt := ht.1
    unfold good at hc hgt
    unfold merge
    by_cases c1 : t.f0 ≤ c.f1 + 1
    · rw [if_pos c1]
      obtain ⟨h1, h2⟩ := merge_ok l ⟨c.f0, max c.f1 t.f1⟩ p (by unfold good; dsimp only; omega) (fun u hu => ⟨(hl' u hu).1, by have := (hl' u hu).2; dsimp only; omega⟩) s2 hp
      refine ⟨h1, fun r => ?_⟩
      rw [h2, mem_cons, mem_cons, mem_cons, ← or_assoc]
      refine or_congr ?_ Iff.rfl
      dsimp only
      omega
    · rw [if_neg c1]
      obtain ⟨h1, h2⟩ := merge_ok l t c.f1 ht.1 hl' s2 (by omega)
      refine ⟨okL_cons.2 ⟨by omega, h1⟩, fun r => ?_⟩
      rw [mem_cons, h2, mem_cons c]
theorem sort_perm (l : List S36) : (sortR l).Perm l := by
  have h := (Go.Sort.pdq_sorts (ltOf sortR.cf) sortR.swo l.toArray 0 l.toArray.size (Lib.bitLen l.toArray.size) true true (Nat.zero_le _) (Nat.le_refl _) (.inl rfl)).1
  have h3 := h.2.2
  obtain ⟨d, hd⟩ : ∃ d, Go.Sort.pdq (ltOf sortR.cf) l.toArray 0 l.toArray.size (Lib.bitLen l.toArray.size) true true = d := ⟨_, rfl⟩
  unfold sortR
  rw [hd] at h3 h ⊢
  have e1 : d.extract 0 l.toArray.size = d := by rw [← h.1]; exact Array.extract_size
  have e2 : l.toArray.extract 0 l.toArray.size = l.toArray := Array.extract_size
  rw [e1, e2] at h3
  exact h3
theorem sort_sorted (l : List S36) : (sortR l).Pairwise (fun x y => x.f0 ≤ y.f0) := by
  have h := (Go.Sort.pdq_sorts (ltOf sortR.cf) sortR.swo l.toArray 0 l.toArray.size (Lib.bitLen l.toArray.size) true true (Nat.zero_le _) (Nat.le_refl _) (.inl rfl))
  obtain ⟨d, hd⟩ : ∃ d, Go.Sort.pdq (ltOf sortR.cf) l.toArray 0 l.toArray.size (Lib.bitLen l.toArray.size) true true = d := ⟨_, rfl⟩
  unfold sortR
  rw [hd] at h ⊢
  rw [List.pairwise_iff_getElem]
  intro i j hi hj hij
  have hs : d.size = l.toArray.size := h.1.1
  have hi' : i < d.size := by simpa using hi
  have hj' : j < d.size := by simpa using hj
  have := h.2 i j (Nat.zero_le _) hij (by omega)
  rw [sortR.lt, getElem!_pos d j hj', getElem!_pos d i hi'] at this
  have := of_decide_eq_false this
  simp only [Array.getElem_toList]
  omega
theorem mem_perm {l m : List S36} (h : l.Perm m) (r : Int) : mem l r ↔ mem m r := by
  unfold mem
  constructor
  · rintro ⟨t, ht, x⟩; exact ⟨t, h.mem_iff.1 ht, x⟩
  · rintro ⟨t, ht, x⟩; exact ⟨t, h.mem_iff.2 ht, x⟩
def setOf (l : List S36) : List S36 := match sortR l with | [] => [] | c :: s => merge c s
theorem setOf_ok (l : List S36) (hl : ∀ t ∈ l, good t) : okL (-2) (setOf l) = true ∧ ∀ r, mem (setOf l) r ↔ mem l r := by
  have hp := sort_perm l
  have hs := sort_sorted l
  unfold setOf
  cases hc : sortR l with
  | nil =>
    rw [hc] at hp
    obtain rfl := hp.nil_eq
    exact ⟨rfl, fun r => Iff.rfl⟩
  | cons c s =>
    rw [hc] at hp hs
    obtain ⟨s1, s2⟩ := List.pairwise_cons.1 hs
    have hg : ∀ t ∈ c :: s, good t := fun t ht => hl t (hp.mem_iff.1 ht)
    have hgc := hg c List.mem_cons_self
    obtain ⟨h1, h2⟩ := merge_ok s c (-2) hgc (fun t ht => ⟨hg t (List.mem_cons_of_mem _ ht), s1 t ht⟩) s2 (by unfold good at hgc; omega)
    exact ⟨h1, fun r => (h2 r).trans (mem_perm hp r)⟩
theorem rd_last (y : List S36) (c : S36) : rd_T36 (y ++ [c]) (y.length : Int) = c := by
  rw [rd_at _ _ (by simp)]
  simp
theorem set_last (y : List S36) (c d : S36) : (y ++ [c]).set ((y.length : Int)).toNat d = y ++ [d] := by
  rw [Int.toNat_natCast]
  simp
theorem mx_max (a b : Int) : mx a b = max a b := by unfold mx; split <;> omega
theorem merged_loop (t : List S36) (ht : ∀ u ∈ t, good u) (hl : t.length < 17592186044416) (n : Nat) : ∀ (i : Nat) (y : List S36) (c : S36), i + n = t.length → y.length + 1 ≤ i → good c → Ev (fun k => runes_merged.l0 k (y ++ [c]) t (t.length : Int) i) (y ++ merge c (t.drop i)) := by
  induction n with
  | zero =>
    intro i y c hi hy hc
    apply Ev.succ
    rw [List.drop_eq_nil_of_le (by omega)]
    simp only [runes_merged.l0, if_neg (show ¬ (i : Int) < (t.length : Int) by omega), merge]
    exact Ev.now _
  | succ n ih =>
    intro i y c hi hy hc
    have hil : i < t.length := by omega
    have hg : good t[i] := ht _ (List.getElem_mem hil)
    apply Ev.succ
    rw [List.drop_eq_getElem_cons hil]
    have hs : wrap64 ((i : Int) + 1) = ((i + 1 : Nat) : Int) := by rw [wr (by omega) (by omega)]; omega
    have hlen : ((y ++ [c]).length : Int) = (y.length : Int) + 1 := by simp
    have hw : wrap64 ((y.length : Int) + 1 - 1) = (y.length : Int) := by rw [wr (by omega) (by omega)]; omega
    unfold good at hc hg
    have hw2 : wrap32 (c.f1 + 1) = c.f1 + 1 := wr32 (by omega) (by omega)
    simp only [runes_merged.l0, if_pos (show (i : Int) < (t.length : Int) by omega), if_pos (show (0 : Int) ≤ (i : Int) by omega), rd_at t i hil, hlen, hw, rd_last, hw2, set_last,
      if_pos (show (y.length : Int) + 1 > 0 by omega), if_pos (show (0 : Int) ≤ (y.length : Int) by omega), if_pos (show (y.length : Int) < (y.length : Int) + 1 by omega), mx_max]
    unfold merge
    by_cases c1 : (t[i]).f0 ≤ c.f1 + 1
    · simp only [if_pos c1]
      rw [hs]
      exact ih (i + 1) y _ (by omega) (by omega) (by unfold good; dsimp only; omega)
    · simp only [if_neg c1, if_pos (show (y ++ [c]).length < 17592186044416 by simp; omega)]
      rw [hs]
      have := ih (i + 1) (y ++ [c]) t[i] (by omega) (by simp; omega) hg
      rw [show y ++ c :: merge t[i] (t.drop (i + 1)) = y ++ [c] ++ merge t[i] (t.drop (i + 1)) by simp]
      exact this
theorem clone_at (l : List S36) (hl : l.length < 17592186044416) : api_Range_44.f l = some l := by
  unfold api_Range_44.f
  simp [hl]
theorem merged_ev (l : List S36) (hg : ∀ t ∈ l, good t) (hl : l.length < 17592186044416) : Ev (fun k => runes_merged.f k l) (setOf l) := by
  have hp := sort_perm l
  have hlen := hp.length_eq
  unfold runes_merged.f setOf
  rw [clone_at l hl]
  refine Ev.bind (Ev.const rfl) ?_
  cases hc : sortR l with
  | nil =>
    apply Ev.succ
    simp only [runes_merged.l0, if_neg (show ¬ (0 : Int) < (([] : List S36).length : Int) by simp)]
    exact Ev.now _
  | cons c s =>
    rw [hc] at hp hlen
    have hg' : ∀ t ∈ c :: s, good t := fun t ht => hg t (hp.mem_iff.1 ht)
    apply Ev.succ
    have h0 : rd_T36 (c :: s) 0 = c := rfl
    have h1 := merged_loop (c :: s) hg' (by omega) s.length 1 [] c (by simp; omega) (by simp) (hg' c List.mem_cons_self)
    have hw : wrap64 ((0 : Int) + 1) = ((1 : Nat) : Int) := by rw [wr (by omega) (by omega)]; rfl
    simp only [runes_merged.l0, hw, if_pos (show (0 : Int) < ((c :: s).length : Int) by simp), if_pos (show (0 : Int) ≤ 0 by omega), if_neg (show ¬ ((([] : List S36).length : Int) > 0) by simp), if_pos (show ([] : List S36).length < 17592186044416 by simp), h0]
    exact h1
def madeR (R : List S36) : List S36 × Int := if 2048 < R.length then ([], 21) else (R, 0)
theorem made_ev (l : List S36) (hg : ∀ t ∈ l, good t) (hl : l.length < 17592186044416) : Ev (fun k => runes_made.f k l) (madeR (setOf l)) := by
  unfold runes_made.f madeR
  refine Ev.bind (merged_ev l hg hl) ?_
  by_cases c : 2048 < (setOf l).length
  · simp only [if_pos c, if_pos (show ((setOf l).length : Int) > 2048 by omega)]; exact Ev.now _
  · simp only [if_neg c, if_neg (show ¬ ((setOf l).length : Int) > 2048 by omega)]; exact Ev.now _
instance (t : S36) : Decidable (good t) := by unfold good; infer_instance
theorem ord_self : ∀ l : List S36, quoinref02_Order.ord l l = 0
  | [] => rfl
  | t :: l => by simp only [quoinref02_Order.ord, Int.lt_irrefl, gt_iff_lt, if_false, ord_self l]
theorem same_ev (l : List S36) : quoinref02_Same.f l l = some true := by
  unfold quoinref02_Same.f quoinref02_Order.f
  rw [if_pos rfl, ord_self]
  rfl
theorem okL_good : ∀ (l : List S36) (p : Int), okL p l = true → ∀ t ∈ l, good t
  | [], _, _, t, h => by simp at h
  | u :: l, p, h, t, ht => by
    obtain ⟨h1, h2⟩ := okL_cons.1 h
    rcases List.mem_cons.1 ht with rfl | ht
    · unfold good; omega
    · exact okL_good l u.f1 h2 t ht
theorem check_ok {s : List S36} (h : checkOf s = 0) : okL (-2) s = true ∧ s.length ≤ 2048 := by
  unfold checkOf at h
  by_cases c : okL (-2) s = true
  · rw [if_pos c] at h
    exact ⟨c, by by_cases c2 : 2048 < s.length
                 · rw [if_pos c2] at h; omega
                 · omega⟩
  · rw [if_neg c] at h; omega
def rest (a : ByteArray) (p : Nat) : List UInt8 := a.data.toList.drop p
theorem rest_add (a : ByteArray) (p n : Nat) : rest a (p + n) = (rest a p).drop n := by unfold rest; rw [List.drop_drop]
theorem rest_len (a : ByteArray) (p : Nat) : (rest a p).length = a.size - p := by unfold rest; rw [List.length_drop]; rfl
theorem rest_cons {s : ByteArray} {p : Nat} {x : UInt8} {q : List UInt8} (h : rest s p = x :: q) : p < s.size ∧ bt s (p : Int) = (x.toNat : Int) ∧ rest s (p + 1) = q := by
  have h1 := rest_len s p
  rw [h, List.length_cons] at h1
  have hp : p < s.size := by omega
  refine ⟨hp, ?_, ?_⟩
  · have h' : p < s.data.toList.length := by simpa using hp
    have e : rest s p = s.data.toList[p] :: s.data.toList.drop (p + 1) := List.drop_eq_getElem_cons h'
    rw [h] at e
    injection e with e1 e2
    unfold bt
    rw [dif_pos (show (p : Int).toNat < s.size from hp), e1]
    rfl
  · rw [rest_add, h]; rfl
theorem rest_app {s : ByteArray} {p : Nat} {X Y : List UInt8} (h : rest s p = X ++ Y) : rest s (p + X.length) = Y := by rw [rest_add, h, List.drop_left]
theorem bytes_list (x : ByteArray) : x.toList = x.data.toList := Go.ByteArray.toList_eq x
theorem pfx {s : ByteArray} {p : Nat} {x : UInt8} {q : List UInt8} (h : rest s p = x :: q) (c : UInt8) : strings_HasPrefix.f (s.extract p s.size) ⟨#[c]⟩ = some (decide (x = c)) := by
  have hp := (rest_cons h).1
  have hs : (s.extract p s.size).size = s.size - p := by rw [ByteArray.size_extract]; omega
  have hc : (⟨#[c]⟩ : ByteArray).size = 1 := rfl
  unfold strings_HasPrefix.f stringslite_HasPrefix.f
  rw [hs, hc, if_pos (by omega), if_pos (by omega), if_pos (by omega)]
  simp only [Option.bind_some]
  have e : ((s.extract p s.size).extract 0 ((1 : Nat) : Int).toNat).toList = [x] := by
    rw [bytes_list, ByteArray.data_extract, ByteArray.data_extract, Array.toList_extract, Array.toList_extract, List.extract_eq_take_drop, List.extract_eq_take_drop]
    have : List.take (s.size - p) (List.drop p s.data.toList) = x :: q := by
      rw [List.take_of_length_le (by rw [List.length_drop]; exact Nat.le_refl _)]
      exact h
    rw [this]
    rfl
  rw [e, bytes_list]
  show some ([x] == [c]) = _
  by_cases c2 : x = c
  · subst c2; simp
  · rw [decide_eq_false c2]; congr 1; exact beq_eq_false_iff_ne.2 (by simpa using c2)
def num (n : Nat) : List Nat → Nat
  | [] => n
  | d :: l => num (16 * n + d) l
theorem num_le : ∀ (l : List Nat) (n : Nat), n ≤ num n l
  | [], n => Nat.le_refl _
  | d :: l, n => by have := num_le l (16 * n + d); simp only [num]; omega
theorem num_append (d : Nat) : ∀ (l : List Nat) (n : Nat), num n (l ++ [d]) = 16 * num n l + d
  | [], n => rfl
  | e :: l, n => num_append d l (16 * n + e)
def dv (n : Nat) : List Nat := if h : n < 16 then [n] else dv (n / 16) ++ [n % 16]
termination_by n
decreasing_by omega
theorem dv_spec (n : Nat) : bk_hexD n = (dv n).map bk_hexC ∧ (∀ d ∈ dv n, d < 16) ∧ num 0 (dv n) = n ∧ 1 ≤ (dv n).length := by
  induction n using Nat.strongRecOn with
  | ind n ih =>
    rw [bk_hexD, dv]
    by_cases h : n < 16
    · rw [dif_pos h, dif_pos h]
      exact ⟨rfl, by simpa using h, by simp [num], by simp⟩
    · rw [dif_neg h, dif_neg h]
      obtain ⟨h1, h2, h3, h4⟩ := ih (n / 16) (by omega)
      refine ⟨by rw [h1, List.map_append]; rfl, ?_, ?_, by simp⟩
      · intro d hd
        rcases List.mem_append.1 hd with hd | hd
        · exact h2 d hd
        · rw [List.mem_singleton] at hd; omega
      · rw [num_append, h3]; omega
theorem hex_all : ∀ d : Fin 16, strings_IndexByte.f (⟨#[48, 49, 50, 51, 52, 53, 54, 55, 56, 57, 97, 98, 99, 100, 101, 102]⟩ : ByteArray) (Go.bits .or .u8 ((bk_hexC d.1).toNat : Int) 32) = some (d.1 : Int) ∧ ¬ ((bk_hexC d.1).toNat : Int) < 48 := by decide +kernel
theorem hex_eq (d : Nat) (h : d < 16) : strings_IndexByte.f (⟨#[48, 49, 50, 51, 52, 53, 54, 55, 56, 57, 97, 98, 99, 100, 101, 102]⟩ : ByteArray) (Go.bits .or .u8 ((bk_hexC d).toNat : Int) 32) = some (d : Int) ∧ ¬ ((bk_hexC d).toNat : Int) < 48 := hex_all ⟨d, h⟩
theorem hex_end : strings_IndexByte.f (⟨#[48, 49, 50, 51, 52, 53, 54, 55, 56, 57, 97, 98, 99, 100, 101, 102]⟩ : ByteArray) (Go.bits .or .u8 (((125 : UInt8).toNat : Nat) : Int) 32) = some (-1) := by decide +kernel
theorem w1 {p : Nat} (hp : p < 4611686018427387904) : wrap64 ((p : Int) + 1) = ((p + 1 : Nat) : Int) := by rw [wr (by omega) (by omega)]; omega
theorem w16 {x d : Nat} (hx : x ≤ 1114111) (hd : d < 16) : wrap64 (wrap64 (16 * (x : Int)) + (d : Int)) = ((16 * x + d : Nat) : Int) := by rw [wr (x := 16 * (x : Int)) (by omega) (by omega), wr (by omega) (by omega)]; omega
theorem num_end (s : ByteArray) (hs : s.size < 4611686018427387904) (a f2 f3 : Int) (x6 x7 p : Nat) (q : List UInt8) (h : rest s p = 125 :: q) (h7 : 1 ≤ x7) (h6 : x6 ≤ 1114111) : Ev (fun k => runes_reader_number.j2 k a x6 x7 s p f2 f3) ((x6 : Int), true, s, ((p + 1 : Nat) : Int), f2, f3) := by
  obtain ⟨hp, hb, hr⟩ := rest_cons h
  have hpf := pfx h 125
  refine Ev.succ (Ev.succ ?_)
  have e1 : strings_HasPrefix.f (s.extract ((p : Nat) : Int).toNat s.size) (⟨#[125]⟩ : ByteArray) = some true := by rw [Int.toNat_natCast, hpf]; simp
  have o1 : ¬ (x7 : Int) = 0 := by omega
  have o2 : (0 : Int) ≤ (p : Int) := by omega
  have o3 : (p : Int) ≤ (s.size : Int) := by omega
  have o4 : ¬ (x6 : Int) > 1114111 := by omega
  have e2 : wrap32 (x6 : Int) = x6 := wr32 (by omega) (by omega)
  have e3 := w1 (show p < 4611686018427387904 by omega)
  simp only [runes_reader_number.j2, runes_reader_number.j3, if_neg o1, if_pos o2, if_pos o3, e1, Option.bind_some, Bool.not_true, if_neg (show ¬ (false = true) by decide), if_neg o4, e2, e3]
  exact Ev.now _
theorem num_loop (s : ByteArray) (hs : s.size < 4611686018427387904) (a f2 f3 : Int) (q : List UInt8) : ∀ (ds : List Nat) (x6 x7 p : Nat), (∀ d ∈ ds, d < 16) → rest s p = ds.map bk_hexC ++ 125 :: q → x7 + ds.length ≤ 6 → 1 ≤ x7 + ds.length → num x6 ds ≤ 1114111 → Ev (fun k => runes_reader_number.l0 k a x6 x7 s p f2 f3) ((num x6 ds : Int), true, s, ((p + ds.length + 1 : Nat) : Int), f2, f3)
  | [], x6, x7, p, _, h, h7, h7', h6 => by
    have h : rest s p = 125 :: q := h
    obtain ⟨hp, hb, hr⟩ := rest_cons h
    have hE := num_end s hs a f2 f3 x6 x7 p q h (by simpa using h7') h6
    have hp1 : (p : Int) < (s.size : Int) := by omega
    have hE' := hex_end
    rw [← hb] at hE'
    refine Ev.succ ?_
    simp only [runes_reader_number.l0, if_pos hp1]
    refine Ev.succ ?_
    by_cases c : (x7 : Int) < 6
    · simp only [runes_reader_number.j1, decide_eq_true c, if_pos hp1, if_pos (show (0 : Int) ≤ (p : Int) by omega), hE', Option.bind_some, if_true, if_pos (show (-1 : Int) < 0 by decide)]
      exact hE
    · simp only [runes_reader_number.j1, decide_eq_false c, if_neg (show ¬ (false = true) by decide)]
      exact hE
  | d :: ds, x6, x7, p, hd, h, h7, h7', h6 => by
    have h : rest s p = bk_hexC d :: (ds.map bk_hexC ++ 125 :: q) := h
    obtain ⟨hp, hb, hr⟩ := rest_cons h
    rw [List.length_cons] at h7
    have hd16 := hd d List.mem_cons_self
    have h6' : num (16 * x6 + d) ds ≤ 1114111 := h6
    have hle := num_le ds (16 * x6 + d)
    have hE := num_loop s hs a f2 f3 q ds (16 * x6 + d) (x7 + 1) (p + 1) (fun e he => hd e (List.mem_cons_of_mem _ he)) hr (by omega) (by omega) h6'
    have hp1 : (p : Int) < (s.size : Int) := by omega
    obtain ⟨hx1, hx2⟩ := hex_eq d hd16
    rw [← hb] at hx1 hx2
    have o2 : (0 : Int) ≤ (p : Int) := by omega
    have o3 : (x7 : Int) < 6 := by omega
    have o4 : ¬ (d : Int) < 0 := by omega
    have e4 : p + (d :: ds).length + 1 = p + 1 + ds.length + 1 := by rw [List.length_cons]; omega
    have o5 : x6 ≤ 1114111 := by omega
    have o6 : x7 < 4611686018427387904 := by omega
    have o7 : p < 4611686018427387904 := by omega
    have e1 := w16 o5 hd16
    have e2 := w1 o6
    have e3 := w1 o7
    refine Ev.succ ?_
    simp only [runes_reader_number.l0, if_pos hp1]
    refine Ev.succ ?_
    simp only [runes_reader_number.j1, decide_eq_true o3, if_pos hp1, if_pos o2, hx1, Option.bind_some, if_true, if_neg o4, if_neg hx2, e1, e2, e3, e4]
    exact hE
theorem number_ev (s : ByteArray) (hs : s.size < 4611686018427387904) (a f2 f3 : Int) (q : List UInt8) (r p : Nat) (hr : r ≤ 1114111) (h : rest s p = 123 :: (bk_hexD r ++ 125 :: q)) : Ev (fun k => runes_reader_number.f k s p f2 f3 a) ((r : Int), true, s, ((p + 1 + (bk_hexD r).length + 1 : Nat) : Int), f2, f3) := by
  obtain ⟨hp, hb, hr1⟩ := rest_cons h
  obtain ⟨d1, d2, d3, d4⟩ := dv_spec r
  have hl : (bk_hexD r).length ≤ 6 := bk_hexD_len 5 r (by omega)
  have hl2 : (bk_hexD r).length = (dv r).length := by rw [d1, List.length_map]
  rw [d1] at hr1
  have hE := num_loop s hs a f2 f3 q (dv r) 0 0 (p + 1) d2 hr1 (by omega) (by omega) (by rw [d3]; exact hr)
  rw [d3, ← hl2] at hE
  have e1 : strings_HasPrefix.f (s.extract ((p : Nat) : Int).toNat s.size) (⟨#[123]⟩ : ByteArray) = some true := by rw [Int.toNat_natCast, pfx h 123]; simp
  have o2 : (0 : Int) ≤ (p : Int) := by omega
  have o3 : (p : Int) ≤ (s.size : Int) := by omega
  have e3 := w1 (show p < 4611686018427387904 by omega)
  simp only [runes_reader_number.f, if_pos o2, if_pos o3, e1, Option.bind_some, if_true, e3]
  exact hE
theorem p1 (p : Nat) : ((p + 1 : Nat) : Int) = (p : Int) + 1 := by omega
theorem p2 (p : Nat) : ((p + 2 : Nat) : Int) = (p : Int) + 2 := by omega
def special (c : UInt8) : Prop := c = 91 ∨ c = 93 ∨ c = 45 ∨ c = 94 ∨ c = 34 ∨ c = 92
instance (c : UInt8) : Decidable (special c) := by unfold special; infer_instance
theorem special_int {c : UInt8} (h : special c) : (c.toNat : Int) = 91 ∨ (c.toNat : Int) = 93 ∨ (c.toNat : Int) = 45 ∨ (c.toNat : Int) = 94 ∨ (c.toNat : Int) = 34 ∨ (c.toNat : Int) = 92 := by
  rcases h with rfl | rfl | rfl | rfl | rfl | rfl <;> decide
theorem rune_esc (s : ByteArray) (hs : s.size < 4611686018427387904) (k p : Nat) (f2 f3 : Int) (c : UInt8) (q : List UInt8) (h : rest s p = 92 :: c :: q) (v : Int) (hv : special c ∧ v = (c.toNat : Int) ∨ c = 110 ∧ v = 10 ∨ c = 116 ∧ v = 9 ∨ c = 114 ∧ v = 13) : runes_reader_rune.f k s p f2 f3 = some (v, true, s, ((p + 2 : Nat) : Int), f2, f3) := by
  obtain ⟨hp, hb, hr⟩ := rest_cons h
  obtain ⟨hp1, hb1, -⟩ := rest_cons hr
  rw [p1] at hb1
  have hb : bt s (p : Int) = 92 := hb
  have o1 : (0 : Int) ≤ (p : Int) := by omega
  have o2 : (p : Int) < (s.size : Int) := by omega
  have o3 : (s.size : Int) < 4611686018427387904 := by omega
  have o4 : (p : Int) + 1 < (s.size : Int) := by omega
  unfold runes_reader_rune.f
  rw [hb, hb1, if_pos o1, if_pos o2, if_pos o3, if_pos (by decide), if_pos rfl, if_pos o4, p2]
  rcases hv with ⟨h1, rfl⟩ | ⟨rfl, rfl⟩ | ⟨rfl, rfl⟩ | ⟨rfl, rfl⟩
  · rw [if_pos (special_int h1)]
  · rfl
  · rfl
  · rfl
theorem rune_one (s : ByteArray) (hs : s.size < 4611686018427387904) (k p : Nat) (f2 f3 : Int) (c : UInt8) (q : List UInt8) (h : rest s p = c :: q) (h1 : 33 ≤ (c.toNat : Int) ∧ (c.toNat : Int) ≤ 126 ∧ (c.toNat : Int) ≠ 91 ∧ (c.toNat : Int) ≠ 93 ∧ (c.toNat : Int) ≠ 45 ∧ (c.toNat : Int) ≠ 34) (h2 : (c.toNat : Int) ≠ 92) : runes_reader_rune.f k s p f2 f3 = some ((c.toNat : Int), true, s, ((p + 1 : Nat) : Int), f2, f3) := by
  obtain ⟨hp, hb, hr⟩ := rest_cons h
  have o1 : (0 : Int) ≤ (p : Int) := by omega
  have o2 : (p : Int) < (s.size : Int) := by omega
  have o3 : (s.size : Int) < 4611686018427387904 := by omega
  unfold runes_reader_rune.f
  rw [hb, if_pos o1, if_pos o2, if_pos o3, if_pos h1, if_neg h2, p1]
theorem rune_num (s : ByteArray) (hs : s.size < 4611686018427387904) (k p : Nat) (f2 f3 : Int) (q : List UInt8) (h : rest s p = 92 :: 117 :: q) : runes_reader_rune.f k s p f2 f3 = runes_reader_number.f k s ((p + 2 : Nat) : Int) f2 f3 p := by
  obtain ⟨hp, hb, hr⟩ := rest_cons h
  obtain ⟨hp1, hb1, -⟩ := rest_cons hr
  rw [p1] at hb1
  have hb : bt s (p : Int) = 92 := hb
  have hb1 : bt s ((p : Int) + 1) = 117 := hb1
  have o1 : (0 : Int) ≤ (p : Int) := by omega
  have o2 : (p : Int) < (s.size : Int) := by omega
  have o3 : (s.size : Int) < 4611686018427387904 := by omega
  have o4 : (p : Int) + 1 < (s.size : Int) := by omega
  unfold runes_reader_rune.f
  rw [hb, hb1, if_pos o1, if_pos o2, if_pos o3, if_pos (by decide), if_pos rfl, if_pos o4, p2]
  rfl
theorem toU (r : Nat) (h : r < 256) : ((r.toUInt8).toNat : Int) = (r : Int) := by
  have : (r.toUInt8).toNat = r % 256 := rfl
  omega
theorem rune_ev (s : ByteArray) (hs : s.size < 4611686018427387904) (f2 f3 : Int) (q : List UInt8) (r p : Nat) (hr : r ≤ 1114111) (h : rest s p = bk_oneT r ++ q) : Ev (fun k => runes_reader_rune.f k s p f2 f3) ((r : Int), true, s, ((p + (bk_oneT r).length : Nat) : Int), f2, f3) := by
  unfold bk_oneT at h ⊢
  by_cases c1 : r = 10
  · subst c1
    exact ⟨0, fun k _ => rune_esc s hs k p f2 f3 110 q h 10 (.inr (.inl ⟨rfl, rfl⟩))⟩
  rw [if_neg c1] at h ⊢
  by_cases c2 : r = 9
  · subst c2
    exact ⟨0, fun k _ => rune_esc s hs k p f2 f3 116 q h 9 (.inr (.inr (.inl ⟨rfl, rfl⟩)))⟩
  rw [if_neg c2] at h ⊢
  by_cases c3 : r = 13
  · subst c3
    exact ⟨0, fun k _ => rune_esc s hs k p f2 f3 114 q h 13 (.inr (.inr (.inr ⟨rfl, rfl⟩)))⟩
  rw [if_neg c3] at h ⊢
  by_cases c4 : r = 91 ∨ r = 93 ∨ r = 45 ∨ r = 94 ∨ r = 92 ∨ r = 34
  · rw [if_pos c4] at h ⊢
    refine ⟨0, fun k _ => rune_esc s hs k p f2 f3 r.toUInt8 q h r (.inl ⟨?_, (toU r (by omega)).symm⟩)⟩
    rcases c4 with rfl | rfl | rfl | rfl | rfl | rfl <;> decide
  rw [if_neg c4] at h ⊢
  by_cases c5 : 33 ≤ r ∧ r ≤ 126
  · rw [if_pos c5] at h ⊢
    have e := toU r (by omega)
    have := fun k => rune_one s hs k p f2 f3 r.toUInt8 q h (by rw [e]; omega) (by rw [e]; omega)
    rw [e] at this
    exact ⟨0, fun k _ => this k⟩
  · rw [if_neg c5] at h ⊢
    have h' : rest s p = 92 :: 117 :: 123 :: (bk_hexD r ++ 125 :: q) := by rw [h]; simp
    have h2 : rest s (p + 2) = 123 :: (bk_hexD r ++ 125 :: q) := by rw [rest_add, h']; rfl
    have hE := number_ev s hs p f2 f3 q r (p + 2) hr h2
    refine Ev.congr (fun k => rune_num s hs k p f2 f3 _ h') ?_
    have e : p + ([92, 117, 123] ++ bk_hexD r ++ [125]).length = p + 2 + 1 + (bk_hexD r).length + 1 := by simp; omega
    rw [e]
    exact hE
theorem head_near : ∀ r : Nat, r < 127 → (33 ≤ r ∧ ¬ (r = 91 ∨ r = 93 ∨ r = 45 ∨ r = 94 ∨ r = 92 ∨ r = 34)) → r.toUInt8 ≠ 32 ∧ r.toUInt8 ≠ 93 ∧ r.toUInt8 ≠ 45 ∧ r.toUInt8 ≠ 94 := by decide +kernel
theorem oneT_head (r : Nat) : ∃ c u, bk_oneT r = c :: u ∧ c ≠ 32 ∧ c ≠ 93 ∧ c ≠ 45 ∧ c ≠ 94 := by
  unfold bk_oneT
  by_cases c1 : r = 10
  · rw [if_pos c1]; exact ⟨_, _, rfl, by decide⟩
  rw [if_neg c1]
  by_cases c2 : r = 9
  · rw [if_pos c2]; exact ⟨_, _, rfl, by decide⟩
  rw [if_neg c2]
  by_cases c3 : r = 13
  · rw [if_pos c3]; exact ⟨_, _, rfl, by decide⟩
  rw [if_neg c3]
  by_cases c4 : r = 91 ∨ r = 93 ∨ r = 45 ∨ r = 94 ∨ r = 92 ∨ r = 34
  · rw [if_pos c4]; exact ⟨_, _, rfl, by decide⟩
  rw [if_neg c4]
  by_cases c5 : 33 ≤ r ∧ r ≤ 126
  · rw [if_pos c5]; exact ⟨_, _, rfl, head_near r (by omega) ⟨c5.1, c4⟩⟩
  · rw [if_neg c5]; exact ⟨_, _, rfl, by decide⟩
def piece (t : S36) : List UInt8 := bk_oneT t.f0.toNat ++ (if t.f1 = t.f0 then [] else 45 :: bk_oneT t.f1.toNat)
def body : List S36 → List UInt8
  | [] => []
  | t :: l => piece t ++ body l
theorem body_head (l : List S36) (q : List UInt8) : ∃ c u, body l ++ 93 :: q = c :: u ∧ c ≠ 32 ∧ c ≠ 45 ∧ c ≠ 94 ∧ (l ≠ [] → c ≠ 93) ∧ (l = [] → c = 93) := by
  cases l with
  | nil => exact ⟨93, q, rfl, by decide, by decide, by decide, fun h => absurd rfl h, fun _ => rfl⟩
  | cons t l =>
    obtain ⟨c, u, h, h1, h2, h3, h4⟩ := oneT_head t.f0.toNat
    refine ⟨c, u ++ (if t.f1 = t.f0 then [] else 45 :: bk_oneT t.f1.toNat) ++ body l ++ 93 :: q, ?_, h1, h3, h4, fun _ => h2, fun e => by cases e⟩
    simp only [body, piece, h, List.cons_append, List.append_assoc]
theorem blanks_ev (s : ByteArray) (hs : s.size < 4611686018427387904) (f2 f3 : Int) (p : Nat) (c : UInt8) (u : List UInt8) (h : rest s p = c :: u) (hc : c ≠ 32) : Ev (fun k => runes_reader_blanks.f k s p f2 f3) (s, (p : Int), f2, f3) := by
  obtain ⟨hp, hb, hr⟩ := rest_cons h
  have o1 : (0 : Int) ≤ (p : Int) := by omega
  have o2 : (p : Int) ≤ (s.size : Int) := by omega
  have e1 : strings_HasPrefix.f (s.extract ((p : Nat) : Int).toNat s.size) (⟨#[32]⟩ : ByteArray) = some false := by rw [Int.toNat_natCast, pfx h 32, decide_eq_false hc]
  show Ev (fun k => runes_reader_blanks.l0 k s p f2 f3) _
  refine Ev.succ ?_
  simp only [runes_reader_blanks.l0, if_pos o1, if_pos o2, e1, Option.bind_some, if_neg (show ¬ (false = true) by decide)]
  exact Ev.now _
theorem ranges_ev (s : ByteArray) (hs : s.size < 4611686018427387904) (f2 f3 : Int) (q : List UInt8) : ∀ (l x3 : List S36) (p : Nat), (∀ t ∈ l, good t) → x3.length + l.length ≤ 1000000 → rest s p = body l ++ 93 :: q → Ev (fun k => runes_reader_ranges.l0 k x3 s p f2 f3) (x3 ++ l, s, ((p + (body l).length + 1 : Nat) : Int), f2, f3)
  | [], x3, p, _, _, h => by
    have h : rest s p = 93 :: q := h
    obtain ⟨hp, hb, hr⟩ := rest_cons h
    have o1 : (0 : Int) ≤ (p : Int) := by omega
    have o2 : (p : Int) ≤ (s.size : Int) := by omega
    have e1 : strings_HasPrefix.f (s.extract ((p : Nat) : Int).toNat s.size) (⟨#[93]⟩ : ByteArray) = some true := by rw [Int.toNat_natCast, pfx h 93]; simp
    have e3 := w1 (show p < 4611686018427387904 by omega)
    refine Ev.succ ?_
    simp only [runes_reader_ranges.l0]
    refine Ev.bind (blanks_ev s hs f2 f3 p 93 q h (by decide)) ?_
    simp only [if_pos o1, if_pos o2, e1, Option.bind_some, if_true, e3, List.append_nil]
    exact Ev.now _
  | t :: l, x3, p, hg, hl, h => by
    obtain ⟨g0, g1, g2⟩ := hg t List.mem_cons_self
    obtain ⟨n0, hn0⟩ : ∃ n, t.f0.toNat = n := ⟨_, rfl⟩
    obtain ⟨n1, hn1⟩ : ∃ n, t.f1.toNat = n := ⟨_, rfl⟩
    have i0 : (n0 : Int) = t.f0 := by omega
    have i1 : (n1 : Int) = t.f1 := by omega
    rw [List.length_cons] at hl
    obtain ⟨c, u, hc, c32, c45, c94, cn, -⟩ := body_head (t :: l) q
    have c93 := cn (by simp)
    have hcu : rest s p = c :: u := h.trans hc
    obtain ⟨hp, -, -⟩ := rest_cons hcu
    have o1 : (0 : Int) ≤ (p : Int) := by omega
    have o2 : (p : Int) ≤ (s.size : Int) := by omega
    have e1 : strings_HasPrefix.f (s.extract ((p : Nat) : Int).toNat s.size) (⟨#[93]⟩ : ByteArray) = some false := by rw [Int.toNat_natCast, pfx hcu 93, decide_eq_false c93]
    obtain ⟨d, v, hd, d32, d45, d94, -, -⟩ := body_head l q
    have hx : x3.length < 17592186044416 := by omega
    have ht : x3 ++ t :: l = (x3 ++ [t]) ++ l := by simp
    have hl2 : (x3 ++ [t]).length + l.length ≤ 1000000 := by simp; omega
    refine Ev.succ ?_
    simp only [runes_reader_ranges.l0]
    refine Ev.bind (blanks_ev s hs f2 f3 p c u hcu c32) ?_
    simp only [if_pos o1, if_pos o2, e1, Option.bind_some, if_neg (show ¬ (false = true) by decide)]
    by_cases ce : t.f1 = t.f0
    · have hb : body (t :: l) = bk_oneT n0 ++ body l := by simp only [body, piece, if_pos ce, List.append_nil, hn0]
      rw [hb, List.append_assoc] at h
      have hR := rune_ev s hs f2 f3 _ n0 p (by omega) h
      have h2 : rest s (p + (bk_oneT n0).length) = d :: v := (rest_app h).trans hd
      obtain ⟨hp2, -, -⟩ := rest_cons h2
      obtain ⟨p', hp'⟩ : ∃ p', p + (bk_oneT n0).length = p' := ⟨_, rfl⟩
      have h3 := rest_app h
      rw [hp'] at h2 hp2 hR h3
      have o3 : (0 : Int) ≤ (p' : Int) := by omega
      have o4 : (p' : Int) ≤ (s.size : Int) := by omega
      have e2 : strings_HasPrefix.f (s.extract ((p' : Nat) : Int).toNat s.size) (⟨#[45]⟩ : ByteArray) = some false := by rw [Int.toNat_natCast, pfx h2 45, decide_eq_false d45]
      refine Ev.bind hR ?_
      simp only [if_true, if_pos o3, if_pos o4, e2, Option.bind_some, if_neg (show ¬ (false = true) by decide), if_pos hx]
      have hE := ranges_ev s hs f2 f3 q l (x3 ++ [t]) p' (fun e he => hg e (List.mem_cons_of_mem _ he)) hl2 h3
      have et : (⟨(n0 : Int), (n0 : Int)⟩ : S36) = t := S36_ext i0 (i0.trans ce.symm)
      rw [et, ht]
      have ee : p + (body (t :: l)).length + 1 = p' + (body l).length + 1 := by rw [hb, List.length_append]; omega
      rw [ee]
      exact hE
    · have hb : body (t :: l) = bk_oneT n0 ++ (45 :: (bk_oneT n1 ++ body l)) := by simp only [body, piece, if_neg ce, hn0, hn1, List.append_assoc, List.cons_append]
      rw [hb, List.append_assoc, List.cons_append, List.append_assoc] at h
      have hR := rune_ev s hs f2 f3 _ n0 p (by omega) h
      have h2 := rest_app h
      obtain ⟨hp2, -, h3⟩ := rest_cons h2
      obtain ⟨p', hp'⟩ : ∃ p', p + (bk_oneT n0).length = p' := ⟨_, rfl⟩
      rw [hp'] at h2 hp2 hR h3
      have hR2 := rune_ev s hs f2 f3 _ n1 (p' + 1) (by omega) h3
      have h4 := rest_app h3
      obtain ⟨p2, hp2'⟩ : ∃ p2, p' + 1 + (bk_oneT n1).length = p2 := ⟨_, rfl⟩
      rw [hp2'] at hR2 h4
      have o3 : (0 : Int) ≤ (p' : Int) := by omega
      have o4 : (p' : Int) ≤ (s.size : Int) := by omega
      have o5 : ¬ (n0 : Int) > (n1 : Int) := by omega
      have e2 : strings_HasPrefix.f (s.extract ((p' : Nat) : Int).toNat s.size) (⟨#[45]⟩ : ByteArray) = some true := by rw [Int.toNat_natCast, pfx h2 45]; simp
      have hE := ranges_ev s hs f2 f3 q l (x3 ++ [t]) p2 (fun e he => hg e (List.mem_cons_of_mem _ he)) hl2 h4
      have et : (⟨(n0 : Int), (n1 : Int)⟩ : S36) = t := S36_ext i0 i1
      have ee : p + (body (t :: l)).length + 1 = p2 + (body l).length + 1 := by rw [hb, List.length_append, List.length_cons, List.length_append]; omega
      have e3 := w1 (show p' < 4611686018427387904 by omega)
      refine Ev.bind hR ?_
      simp only [if_true, if_pos o3, if_pos o4, e2, Option.bind_some, e3]
      refine Ev.bind hR2 ?_
      simp only [if_true, if_neg o5, if_pos hx, et, ht, ee]
      exact hE
theorem oneT_len (r : Nat) (h : r ≤ 1114111) : (bk_oneT r).length ≤ 10 := by
  have hl : (bk_hexD r).length ≤ 6 := bk_hexD_len 5 r (by omega)
  unfold bk_oneT
  repeat' split
  all_goals simp
  omega
theorem tl_eq : ∀ (l : List S36) (s : List UInt8), (∀ t ∈ l, good t) → s.length + 21 * l.length ≤ 1000000 → bk_tl l s = some (s ++ body l)
  | [], s, _, _ => by simp [bk_tl, body]
  | t :: l, s, hg, hl => by
    obtain ⟨g0, g1, g2⟩ := hg t List.mem_cons_self
    rw [List.length_cons] at hl
    have b0 : bk_oneB t.f0 = some ⟨(bk_oneT t.f0.toNat).toArray⟩ := by unfold bk_oneB; rw [if_pos ⟨g0, by omega⟩]
    have b1 : bk_oneB t.f1 = some ⟨(bk_oneT t.f1.toNat).toArray⟩ := by unfold bk_oneB; rw [if_pos ⟨by omega, g2⟩]
    have n0 := oneT_len t.f0.toNat (by omega)
    have n1 := oneT_len t.f1.toNat (by omega)
    have z0 : (⟨(bk_oneT t.f0.toNat).toArray⟩ : ByteArray).size ≤ 1000 := by show (bk_oneT t.f0.toNat).toArray.size ≤ 1000; rw [List.size_toArray]; omega
    have z1 : (⟨(bk_oneT t.f1.toNat).toArray⟩ : ByteArray).size ≤ 1000 := by show (bk_oneT t.f1.toNat).toArray.size ≤ 1000; rw [List.size_toArray]; omega
    unfold bk_tl
    rw [if_pos (show s.length ≤ 1000000000 by omega), b0, Option.bind_some, if_pos z0, b1, Option.bind_some, if_pos z1]
    by_cases ce : t.f1 = t.f0
    · rw [if_pos ce, tl_eq l _ (fun e he => hg e (List.mem_cons_of_mem _ he)) (by rw [List.length_append]; simp only; omega)]
      simp only [body, piece, if_pos ce, List.append_nil, List.append_assoc]
    · rw [if_neg ce]
      have e : ((⟨#[45]⟩ : ByteArray) ++ ⟨(bk_oneT t.f1.toNat).toArray⟩).data.toList = 45 :: bk_oneT t.f1.toNat := by simp
      rw [e, tl_eq l _ (fun e he => hg e (List.mem_cons_of_mem _ he)) (by rw [List.length_append, List.length_append, List.length_cons]; simp only; omega)]
      simp only [body, piece, if_neg ce, List.append_assoc, List.cons_append]
theorem body_len : ∀ (l : List S36), (∀ t ∈ l, good t) → (body l).length ≤ 21 * l.length
  | [], _ => by simp [body]
  | t :: l, hg => by
    obtain ⟨g0, g1, g2⟩ := hg t List.mem_cons_self
    have n0 := oneT_len t.f0.toNat (by omega)
    have n1 := oneT_len t.f1.toNat (by omega)
    have ih := body_len l (fun e he => hg e (List.mem_cons_of_mem _ he))
    simp only [body, piece, List.length_append, List.length_cons]
    by_cases ce : t.f1 = t.f0
    · rw [if_pos ce]; simp; omega
    · rw [if_neg ce]; simp only [List.length_cons]; omega
theorem meant_ev (l : List S36) (h : okL (-2) l = true) (hl : l.length ≤ 2048) : Ev (fun k => runes_meant.f k l false) (l, 0) := by
  have hg : ∀ t ∈ l, good t := fun t ht => okL_good l _ h t ht
  have ho := setOf_ok l hg
  have e : setOf l = l := one_row _ _ _ _ ho.1 h ho.2
  have hm := made_ev l hg (by omega)
  rw [e] at hm
  have e2 : madeR l = (l, 0) := by unfold madeR; rw [if_neg (by omega)]
  rw [e2] at hm
  unfold runes_meant.f
  simp only [if_neg (show ¬ (false = true) by decide)]
  exact Ev.bind hm (Ev.now _)
theorem read_ev (s : ByteArray) (hs : s.size < 4611686018427387904) (l : List S36) (q : List UInt8) (hg : ∀ t ∈ l, good t) (hl : l.length ≤ 2048) (h : rest s 0 = 91 :: (body l ++ 93 :: q)) : strings_HasPrefix.f s ⟨#[91]⟩ = some true ∧ strings_HasPrefix.f (s.extract 1 s.size) ⟨#[94]⟩ = some false ∧ Ev (fun k => runes_reader_ranges.f k s 1 0 0) (l, s, ((1 + (body l).length + 1 : Nat) : Int), 0, 0) := by
  obtain ⟨hp, -, hr⟩ := rest_cons h
  rw [Nat.zero_add] at hr
  obtain ⟨c, u, hc, c32, c45, c94, -, -⟩ := body_head l q
  have h0 := pfx h 91
  have e0 : s.extract 0 s.size = s := by rw [ByteArray.extract_zero_size]
  rw [e0] at h0
  have hcu : rest s 1 = c :: u := hr.trans hc
  refine ⟨by rw [h0]; simp, by rw [pfx hcu 94, decide_eq_false c94], ?_⟩
  have := ranges_ev s hs 0 0 q l [] 1 hg (by simp; omega) hr
  exact this
theorem RunesBack : quoinlaw02_RunesBack.Pure := by
  intro l b h1 h2 h3 h4
  have hl : l.length ≤ 9223372036854775806 := by omega
  obtain ⟨K1, k1⟩ := check_ev l hl (wf_of h3)
  obtain ⟨K2, k2⟩ := awake_ev
  have hb : (b.size : Int) ≤ 1125899906842624 := by omega
  by_cases c : checkOf l = 0
  · obtain ⟨o1, o2⟩ := check_ok c
    have hg : ∀ t ∈ l, good t := fun t ht => okL_good l _ o1 t ht
    have hbl := body_len l hg
    obtain ⟨T, hT⟩ : ∃ T : ByteArray, (⟨([91] ++ body l ++ [93]).toArray⟩ : ByteArray) = T := ⟨_, rfl⟩
    have hTl : T.data.toList = 91 :: (body l ++ 93 :: []) := by rw [← hT]; rfl
    have hTs : T.size = 1 + (body l).length + 1 := by
      have : T.size = T.data.toList.length := rfl
      rw [this, hTl]
      simp
      omega
    have r1 : rest T 0 = 91 :: (body l ++ 93 :: []) := by unfold rest; rw [hTl]; rfl
    have r2 : rest (T ++ b) 0 = 91 :: (body l ++ 93 :: b.data.toList) := by
      unfold rest
      rw [ByteArray.data_append, Array.toList_append, hTl]
      simp
    have hz : (T ++ b).size = T.size + b.size := ByteArray.size_append
    obtain ⟨p0, p1, K3, k3⟩ := read_ev T (by omega) l [] hg o2 r1
    obtain ⟨p2, p3, K4, k4⟩ := read_ev (T ++ b) (by omega) l _ hg o2 r2
    obtain ⟨K5, k5⟩ := meant_ev l o1 o2
    rw [← hTs] at k3 k4
    refine ⟨K1 + K2 + K3 + K4 + K5, ?_⟩
    unfold quoinlaw02_RunesBack.f
    rw [if_pos]
    refine ⟨k2 _ (by omega), hb, 0, ?_, .inr ⟨rfl, [91] ++ body l, T, tl_eq l [91] hg (by simp; omega), by simp; omega, hT, by omega, p0, p1, k3 _ (by omega), p2, p3, k4 _ (by omega), k5 _ (by omega), same_ev l⟩⟩
    rw [← c]
    exact k1 _ (by omega)
  · refine ⟨K1 + K2, ?_⟩
    unfold quoinlaw02_RunesBack.f
    rw [if_pos]
    exact ⟨k2 _ (by omega), hb, checkOf l, k1 _ (by omega), .inl c⟩
end Go.Proofs.YtfnkboilepgmoaaDoor.Pure
