import Derived.Test.YtcajiapjdlphmaaGPureBase
import Derived.Test.YtcajiapjdlphmaaGPre
import Derived.Test.YtcajiapjdlphmaaGax0
import Derived.Test.YtcajiapjdlphmaaGax1
namespace Go.Proofs.Ytcajiapjdlphmaa.Pure
open Go.RowKit Go.Proofs.Ytcajiapjdlphmaa.H Go.Proofs.YtcajiapjdlphmaaW.PrintWords Go.Proofs.YtcajiapjdlphmaaW.PrintLast
set_option maxRecDepth 100000
def term (t : S36) : ByteArray := if 8 ≤ t.f0 then (textOf t.f0).1 else goscan_Terms.names.getD (t.f0 - 2).toNat ByteArray.empty
def termsOf : List S36 → List ByteArray → List ByteArray × Int
  | [], out => (out, 0)
  | t :: l, out => if t.f0 < 2 then ([], 1) else if 81 ≤ t.f0 then ([], 1) else termsOf l (out ++ [term t])
theorem terms_loop : ∀ (l : List S36) (out : List ByteArray), out.length + l.length ≤ 5864062014805 → (∀ x ∈ l, (Lit.int .i64 x.f0).wf = true) → Ev (fun k => goscan_Terms.loop k 81 l out) (termsOf l out)
  | [], out, _, _ => by simp only [goscan_Terms.loop, termsOf]; exact Ev.now _
  | t :: l, out, hl, hw => by
    simp only [goscan_Terms.loop, termsOf]
    by_cases c1 : t.f0 < 2
    · simp only [if_pos c1]; exact Ev.now _
    · by_cases c2 : 81 ≤ t.f0
      · simp only [if_neg c1, if_pos c2]; exact Ev.now _
      · simp only [if_neg c1, if_neg c2]
        have hlen : out.length + (l.length + 1) ≤ 5864062014805 := hl
        refine Ev.bind (text_ev t.f0 (hw t List.mem_cons_self)) ?_
        simp only [if_pos (show out.length < 8796093022208 by omega)]
        have ih := fun s => terms_loop l (out ++ [s]) (by simp; omega) (fun x hx => hw x (List.mem_cons_of_mem _ hx))
        unfold term
        by_cases c3 : 8 ≤ t.f0
        · have e : textOf t.f0 = (TX.getD (t.f0 - 8).toNat ByteArray.empty, true) := if_pos ⟨c3, by omega⟩
          rw [e, if_pos c3]
          simp only [if_true]
          exact ih _
        · have e : textOf t.f0 = (⟨#[]⟩, false) := if_neg (by omega)
          rw [e, if_neg c3]
          simp only [Bool.false_eq_true, if_false, wr (show -9223372036854775808 ≤ t.f0 - 2 by omega) (show t.f0 - 2 ≤ 9223372036854775807 by omega), if_pos (show 0 ≤ t.f0 - 2 by omega), if_pos (show t.f0 - 2 < 6 by omega)]
          exact ih _
theorem terms_ev (l : List S36) (hl : l.length ≤ 5864062014805) (hw : ∀ x ∈ l, (Lit.int .i64 x.f0).wf = true) : Ev (fun k => goscan_Terms.f k l) (termsOf l []) := by
  unfold goscan_Terms.f
  exact Ev.bind newline_ev (terms_loop l [] (by simpa using hl) hw)
theorem rterms_loop (l : List S36) (hl : l.length ≤ 5864062014805) (hw : ∀ x ∈ l, (Lit.int .i64 x.f0).wf = true) (n : Nat) : ∀ (i : Nat) (out : List ByteArray), i + n = l.length → out.length ≤ i → Ev (fun k => quoinref26_Terms.l0 k l goscan_Terms.names out i) (termsOf (l.drop i) out) := by
  induction n with
  | zero =>
    intro i out hi _
    apply Ev.succ
    rw [List.drop_eq_nil_of_le (by omega)]
    simp only [quoinref26_Terms.l0, if_neg (show ¬ ((i : Nat) : Int) < ((l.length : Nat) : Int) by omega), termsOf]
    exact Ev.now _
  | succ n ih =>
    intro i out hi ho
    have hil : i < l.length := by omega
    apply Ev.succ
    rw [List.drop_eq_getElem_cons hil]
    simp only [quoinref26_Terms.l0, if_pos (show ((i : Nat) : Int) < ((l.length : Nat) : Int) by omega), if_pos (show (0 : Int) ≤ ((i : Nat) : Int) by omega), rd_at l i hil, termsOf]
    obtain ⟨t, ht⟩ : ∃ t, l[i] = t := ⟨_, rfl⟩
    have hwt := hw t (by rw [← ht]; exact List.getElem_mem hil)
    have stop : ∀ b, b = true → Ev (fun k => quoinref26_Terms.j1 k l goscan_Terms.names out i b) ([], 1) := by
      rintro b rfl
      apply Ev.succ
      simp only [quoinref26_Terms.j1, if_true]
      exact Ev.now _
    rw [ht]
    by_cases c1 : t.f0 < 2
    · simp only [if_pos c1]
      exact stop _ rfl
    · simp only [if_neg c1]
      refine Ev.bind rkinds_ev ?_
      rw [KS_len, show wrap64 (((84 : Nat) : Int) - 3) = 81 by decide +kernel]
      by_cases c2 : 81 ≤ t.f0
      · simp only [if_pos c2]
        exact stop _ (decide_eq_true c2)
      · simp only [if_neg c2]
        rw [decide_eq_false (show ¬ t.f0 ≥ 81 by omega)]
        apply Ev.succ
        simp only [quoinref26_Terms.j1, Bool.false_eq_true, if_false, if_pos (show ((i : Nat) : Int) < ((l.length : Nat) : Int) by omega), if_pos (show (0 : Int) ≤ ((i : Nat) : Int) by omega), rd_at l i hil, ht, wr (show -9223372036854775808 ≤ (i : Int) + 1 by omega) (show (i : Int) + 1 ≤ 9223372036854775807 by omega), if_pos (show out.length < 8796093022208 by omega)]
        refine Ev.bind (rtext_ev t.f0 hwt) ?_
        have ih := fun s => ih (i + 1) (out ++ [s]) (by omega) (by simp; omega)
        unfold term
        by_cases c3 : 8 ≤ t.f0
        · have e : textOf t.f0 = (TX.getD (t.f0 - 8).toNat ByteArray.empty, true) := if_pos ⟨c3, by omega⟩
          rw [e, if_pos c3]
          simp only [if_true]
          exact ih _
        · have e : textOf t.f0 = (⟨#[]⟩, false) := if_neg (by omega)
          have hn : goscan_Terms.names.length = 6 := by decide
          rw [e, if_neg c3]
          simp only [Bool.false_eq_true, if_false, wr (show -9223372036854775808 ≤ t.f0 - 2 by omega) (show t.f0 - 2 ≤ 9223372036854775807 by omega), if_pos (show 0 ≤ t.f0 - 2 by omega), hn, if_pos (show t.f0 - 2 < ((6 : Nat) : Int) by omega)]
          exact ih _
theorem rterms_ev (l : List S36) (hl : l.length ≤ 5864062014805) (hw : ∀ x ∈ l, (Lit.int .i64 x.f0).wf = true) : Ev (fun k => quoinref26_Terms.f k l) (termsOf l []) := rterms_loop l hl hw l.length 0 [] (by omega) (by simp)
theorem termsOf_len : ∀ (l : List S36) (out : List ByteArray), (termsOf l out).1.length ≤ out.length + l.length
  | [], out => by simp [termsOf]
  | t :: l, out => by
    unfold termsOf
    split
    · simp
    · split
      · simp
      · have := termsOf_len l (out ++ [term t])
        simp at this ⊢
        omega
theorem GoscanKinds : quoinlaw26_GoscanKinds.Pure := by
  intro a0 a1 l2 h0 _ hm hs hw
  have hl : l2.length ≤ 5864062014805 := by omega
  have hw' : ∀ x ∈ l2, (Lit.int .i64 x.f0).wf = true := fun x hx => (hw x hx).1
  refine Ev.rounds ?_
  unfold quoinlaw26_GoscanKinds.f
  refine Ev.bind (text_ev a0 h0) (Ev.bind (rtext_ev a0 h0) (Ev.bind (kind_ev a1) (Ev.bind (rkind_ev a1) (Ev.bind (terms_ev l2 hl hw') (Ev.bind (rterms_ev l2 hl hw') (Ev.bind kinds_ev (Ev.bind rkinds_ev ?_)))))))
  have hlen := termsOf_len l2 []
  refine Ev.bind (sameTexts_ev KS (by rw [KS_len]; omega)) ?_
  simp only [if_true, beq_self_eq_true]
  refine Ev.bind (follows_ev a0 h0) (Ev.bind (rfollows_ev a0) ?_)
  simp only [if_true, beq_self_eq_true]
  refine Ev.bind (sameTexts_ev (termsOf l2 []).1 (by simp at hlen; omega)) ?_
  simp only [if_true]
  exact Ev.bind awake_ev (Ev.now _)
end Go.Proofs.Ytcajiapjdlphmaa.Pure
