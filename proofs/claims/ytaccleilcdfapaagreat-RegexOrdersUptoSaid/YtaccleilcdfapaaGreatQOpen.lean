import Derived.Deep.Slices
import Derived.Deep.Fields
import Derived.ChangeSame
import Derived.Test.YtaccleilcdfapaaGreatRows
import Derived.SizedLaws
import Derived.ChangeSlices
import Derived.Test.YtaccleilcdfapaaGreatQPre

namespace Go.Proofs.YtaccleilcdfapaaGreat.G
open Go.RowKit Go.Proofs.YtaccleilcdfapaaGreatW.PrintWords Go.Proofs.YtaccleilcdfapaaGreatW.PrintLast Go.Proofs.YtaccleilcdfapaaGreatW.PrintMore
open Go.ChangeShapes Go.WideShapes Go.Deep
def fF {α : Type} (P : Program) (d : Kd α) (t : TypeId) (Wf : α → Prop) : Prop :=
  ∀ {H : Type} {enc : TypeId × Value → H} {w : World} {base : Nat} {spare : Nat → Bool} {held : Bool} {fuel : Nat} {cs : List Value} {x : DataW H × List MemPlace},
    DataW.trod enc P w base spare held fuel t cs = some x → ∃ p, d.K w p cs ∧ Wf p
theorem opens_int {P : Program} {t : TypeId} {k : IntKind} (ht : P.underlying t = some (.int k)) : fF P (Kd.int k) t (fun n => (Lit.int k n).wf = true) := by
  intro H enc w base spare held fuel cs x h
  obtain ⟨n, rfl, _, hw⟩ := DataW.trod_int ht h
  exact ⟨n, rfl, hw⟩
theorem opens_bool {P : Program} {t : TypeId} (ht : P.underlying t = some .bool) : fF P Kd.bool t (fun _ => True) := by
  intro H enc w base spare held fuel cs x h
  obtain ⟨b, rfl, _⟩ := DataW.trod_bool ht h
  exact ⟨b, rfl, trivial⟩
theorem opens_string {P : Program} {t : TypeId} (ht : P.underlying t = some .string) : fF P Kd.string t (fun s => s.size ≤ 9223372036854775807) := by
  intro H enc w base spare held fuel cs x h
  obtain ⟨s, rfl, _, hs⟩ := DataW.trod_string ht h
  exact ⟨s, rfl, hs⟩
theorem opens_slice {α : Type} {P : Program} {d : Kd α} {t e : TypeId} {Wf : α → Prop} (ht : P.underlying t = some (.slice e)) (hsz : P.cellsOf e = d.sz) (ho : fF P d e Wf) : fF P (Kd.slice e d) t (fun l => l.length ≤ 9223372036854775807 ∧ ∀ p ∈ l, Wf p) := by
  intro H enc w base spare held fuel cs x h
  rcases open_slice ht h with ⟨rfl, _⟩ | ⟨a, len, cap, m, n, D, Pl, rfl, _, hl, hm, hmm, _, hi⟩
  · exact ⟨[], ⟨none, 0, rfl, Nat.le_refl _, Kd.C_nil d w⟩, by simp, by simp⟩
  · have hlm : len ≤ m := by rw [hmm]; split <;> omega
    have key : ∀ i, i < len → ∃ p c, d.K w p c ∧ Wf p ∧ ∀ j u, c[j]? = some u → w.cell? (a.add (i * d.sz + j)) = some u := by
      intro i hil
      obtain ⟨cs', hc, ht'⟩ := hi i (by omega)
      obtain ⟨p, hp, hw⟩ := ho ht'
      rw [hsz] at hc
      obtain ⟨_, hcl, hat⟩ := World.cells?_some hc
      refine ⟨p, cs', hp, hw, fun j u hj => ?_⟩
      have hjl : j < cs'.length := (List.getElem?_eq_some_iff.1 hj).1
      have := hat j (by omega)
      rw [← Go.Deep.add_add, this, hj]
    have key2 : ∀ n, n ≤ len → ∃ l : List α, l.length = n ∧ (∀ p ∈ l, Wf p) ∧ ∀ j p, l[j]? = some p → ∃ c, d.K w p c ∧ ∀ i u, c[i]? = some u → w.cell? (a.add (j * d.sz + i)) = some u := by
      intro n
      induction n with
      | zero => exact fun _ => ⟨[], rfl, by simp, by simp⟩
      | succ n ih =>
        intro hn
        obtain ⟨l, hl1, hw, hl2⟩ := ih (by omega)
        obtain ⟨p, c, hp, hwp, hc⟩ := key n (by omega)
        refine ⟨l ++ [p], by simp [hl1], ?_, ?_⟩
        · intro q hq
          rcases List.mem_append.1 hq with h | h
          · exact hw q h
          · rw [List.mem_singleton.1 h]; exact hwp
        · intro j q hj
          by_cases hjn : j < l.length
          · rw [List.getElem?_append_left hjn] at hj
            exact hl2 j q hj
          · rw [List.getElem?_append_right (by omega)] at hj
            have hj0 : j - l.length = 0 := by
              rcases Nat.eq_zero_or_pos (j - l.length) with h | h
              · exact h
              · rw [List.getElem?_eq_none (by simp; omega)] at hj
                cases hj
            rw [hj0] at hj
            have hjq : p = q := by simpa using hj
            subst hjq
            have : j = n := by omega
            subst this
            exact ⟨c, hp, hc⟩
    obtain ⟨l, rfl, hw, hl2⟩ := key2 len (Nat.le_refl _)
    have hmx : l.length ≤ 9223372036854775807 := by unfold maxLen at hm; omega
    refine ⟨l, ⟨some a, cap, rfl, hl, rfl, hmx, fun _ => ⟨a, rfl, fun j p hj => ?_⟩⟩, hmx, hw⟩
    obtain ⟨c, hp, hc⟩ := hl2 j p hj
    exact ⟨c, d.K_len hp, hp, hc⟩
theorem opens_iso {α β : Type} {P : Program} {d : Kd α} {t : TypeId} {Wf : α → Prop} (ho : fF P d t Wf) (f : β → α) (g : α → β) (hfg : ∀ a, f (g a) = a) : fF P (Kd.iso d f) t (fun b => Wf (f b)) := by
  intro H enc w base spare held fuel cs x h
  obtain ⟨p, hp, hw⟩ := ho h
  refine ⟨g p, ?_, ?_⟩
  · show d.K w (f (g p)) cs
    rw [hfg]; exact hp
  · show Wf (f (g p))
    rw [hfg]; exact hw
theorem opens_two {α β : Type} {P : Program} {d0 : Kd α} {d1 : Kd β} {t : TypeId} {f0 f1 : Field} {W0 : α → Prop} {W1 : β → Prop} (ht : P.underlying t = some (.struct #[f0, f1])) (hone : oneCellFields P #[f0, f1] = true) (h0 : fF P d0 f0.type W0) (h1 : fF P d1 f1.type W1) (hc : P.cellsOf t = 2) : fF P (Kd.pair d0 d1) t (fun p => W0 p.1 ∧ W1 p.2) := by
  intro H enc w base spare held fuel cs x h
  obtain ⟨xs, n, _, hx, hl, hlen, hg⟩ := DataW.trod_struct ht h
  obtain ⟨o0, k0⟩ := hone_of hone 0 f0 rfl
  obtain ⟨o1, k1⟩ := hone_of hone 1 f1 rfl
  have hcl : cs.length = 2 := by first | exact hl.trans hc | (rw [← hc]; exact hl) | omega
  match cs, hcl with
  | [c0, c1], _ =>
    match xs, hlen with
    | [y0, y1], _ =>
      obtain ⟨p0, hp0, w0⟩ := h0 (by simpa [o0, k0] using hg 0 f0 rfl)
      obtain ⟨p1, hp1, w1⟩ := h1 (by simpa [o1, k1] using hg 1 f1 rfl)
      exact ⟨(p0, p1), ⟨[c0], [c1], rfl, hp0, hp1⟩, w0, w1⟩
theorem opens_three {α β γ : Type} {P : Program} {d0 : Kd α} {d1 : Kd β} {d2 : Kd γ} {t : TypeId} {f0 f1 f2 : Field} {W0 : α → Prop} {W1 : β → Prop} {W2 : γ → Prop} (ht : P.underlying t = some (.struct #[f0, f1, f2])) (hone : oneCellFields P #[f0, f1, f2] = true) (h0 : fF P d0 f0.type W0) (h1 : fF P d1 f1.type W1) (h2 : fF P d2 f2.type W2) (hc : P.cellsOf t = 3) : fF P (Kd.pair d0 (Kd.pair d1 d2)) t (fun p => W0 p.1 ∧ W1 p.2.1 ∧ W2 p.2.2) := by
  intro H enc w base spare held fuel cs x h
  obtain ⟨xs, n, _, hx, hl, hlen, hg⟩ := DataW.trod_struct ht h
  obtain ⟨o0, k0⟩ := hone_of hone 0 f0 rfl
  obtain ⟨o1, k1⟩ := hone_of hone 1 f1 rfl
  obtain ⟨o2, k2⟩ := hone_of hone 2 f2 rfl
  have hcl : cs.length = 3 := by first | exact hl.trans hc | (rw [← hc]; exact hl) | omega
  match cs, hcl with
  | [c0, c1, c2], _ =>
    match xs, hlen with
    | [y0, y1, y2], _ =>
      obtain ⟨p0, hp0, w0⟩ := h0 (by simpa [o0, k0] using hg 0 f0 rfl)
      obtain ⟨p1, hp1, w1⟩ := h1 (by simpa [o1, k1] using hg 1 f1 rfl)
      obtain ⟨p2, hp2, w2⟩ := h2 (by simpa [o2, k2] using hg 2 f2 rfl)
      exact ⟨(p0, p1, p2), ⟨[c0], [c1, c2], rfl, hp0, [c1], [c2], rfl, hp1, hp2⟩, w0, w1, w2⟩
theorem sized_any {H : Type} {enc : TypeId × Value → H} {P : Program} {W : World} {base : Nat} {spare : Nat → Bool} {held : Bool} {t e : TypeId} {a : Option Addr} {len cap : Nat} {d : DataW H} {ps : List MemPlace} {ts : List TypeId} {ds : List (DataW H)} {j : Nat}
    (hsz : (DataW.weightsEach P ts ds).all (· ≤ reachBytes) = true) (ht : ts[j]? = some t) (hd : ds[j]? = some d) (hu : P.underlying t = some (.slice e)) {B : Nat} (hB : P.bytesOf e = B)
    (h : DataW.Trod enc P W base spare held t (.slice a len cap) d ps) : len * B ≤ 140737488351232 := by
  obtain ⟨fuel, hf⟩ := h
  rcases open_slice hu hf with ⟨hcs, _⟩ | ⟨x, l, c, m, n, D, Pl, hcs, _, hl, _, hmm, hx, _⟩
  · simp [Value.cells] at hcs
    obtain ⟨rfl, rfl, rfl⟩ := hcs
    simp
  · simp [Value.cells] at hcs
    obtain ⟨rfl, rfl, rfl⟩ := hcs
    obtain ⟨hx, _⟩ := Prod.mk.inj hx
    subst hx
    have z := sized_slice hsz ht hd hu
    rw [hB] at z
    simp only [List.length_map, List.length_range] at z
    have : reachBytes = 140737488351232 := rfl
    have hle : len * B ≤ (len + (m - len)) * B := Nat.mul_le_mul_right _ (Nat.le_add_right _ _)
    omega
theorem came {α : Type} {H : Type} {enc : TypeId × Value → H} {P : Program} {d : Kd α} {t e : TypeId} {W : World} {base : Nat} {spare : Nat → Bool} {held : Bool} {a : Option Addr} {len cap : Nat} {x : DataW H} {ps : List MemPlace} {Wf : α → Prop} (ho : fF P (Kd.slice e d) t (fun l => l.length ≤ 9223372036854775807 ∧ ∀ p ∈ l, Wf p)) (h : DataW.Trod enc P W base spare held t (.slice a len cap) x ps) :
    ∃ l : List α, len = l.length ∧ l.length ≤ cap ∧ Kd.C d W a l.length l ∧ l.length ≤ 9223372036854775807 ∧ ∀ p ∈ l, Wf p := by
  obtain ⟨fuel, hf⟩ := h
  obtain ⟨l, ⟨A, c, hcs, hl, hC⟩, hm, hw⟩ := ho hf
  simp [Value.cells] at hcs
  obtain ⟨rfl, rfl, rfl⟩ := hcs
  exact ⟨l, rfl, hl, hC, hm, hw⟩
def fj {α : Type} (P : Program) (d : Kd α) (t : TypeId) (Wf : α → Prop) (bk : α → Nat) : Prop :=
  ∀ {H : Type} {enc : TypeId × Value → H} {w : World} {base : Nat} {spare : Nat → Bool} {held : Bool} {fuel : Nat} {cs : List Value} {x : DataW H × List MemPlace},
    DataW.trod enc P w base spare held fuel t cs = some x → ∃ p, d.K w p cs ∧ Wf p ∧ bk p ≤ Rows.uptoBulk x.1
theorem opensB_int {P : Program} {t : TypeId} {k : IntKind} (ht : P.underlying t = some (.int k)) : fj P (Kd.int k) t (fun n => (Lit.int k n).wf = true) (fun _ => 1) := by
  intro H enc w base spare held fuel cs x h
  obtain ⟨n, rfl, rfl, hw⟩ := DataW.trod_int ht h
  exact ⟨n, rfl, hw, by simp [Rows.uptoBulk]⟩
theorem opensB_bool {P : Program} {t : TypeId} (ht : P.underlying t = some .bool) : fj P Kd.bool t (fun _ => True) (fun _ => 1) := by
  intro H enc w base spare held fuel cs x h
  obtain ⟨b, rfl, rfl⟩ := DataW.trod_bool ht h
  exact ⟨b, rfl, trivial, by simp [Rows.uptoBulk]⟩
theorem opensB_string {P : Program} {t : TypeId} (ht : P.underlying t = some .string) : fj P Kd.string t (fun s => s.size ≤ 9223372036854775807) (fun s => s.size + 1) := by
  intro H enc w base spare held fuel cs x h
  obtain ⟨s, rfl, rfl, hs⟩ := DataW.trod_string ht h
  exact ⟨s, rfl, hs, by simp only [Rows.uptoBulk, Array.length_toList]; exact Nat.le_refl _⟩
theorem bulk_append {H : Type} (l r : List (DataW H)) : Rows.uptoBulkAll (l ++ r) = Rows.uptoBulkAll l + Rows.uptoBulkAll r := by
  induction l with
  | nil => simp [Rows.uptoBulkAll]
  | cons x l ih => simp only [List.cons_append, Rows.uptoBulkAll, ih]; omega
theorem bulk_part {H : Type} {d : DataW H} {l : List (DataW H)} (h : d ∈ l) : Rows.uptoBulk d ≤ Rows.uptoBulkAll l := by
  induction l with
  | nil => cases h
  | cons x r ih =>
    simp only [Rows.uptoBulkAll]
    cases List.mem_cons.1 h with
    | inl e => subst e; omega
    | inr e => have := ih e; omega
theorem opensB_slice_lt {α : Type} {P : Program} {d : Kd α} {t e : TypeId} {Wf : α → Prop} {bk : α → Nat} (ht : P.underlying t = some (.slice e)) (hsz : P.cellsOf e = d.sz) {H : Type} {enc : TypeId × Value → H} {w : World} {base : Nat} {spare : Nat → Bool} {held : Bool} {fuel : Nat} {cs : List Value} {x : DataW H × List MemPlace}
    (h : DataW.trod enc P w base spare held fuel t cs = some x)
    (ho : ∀ {fuel : Nat} {cs : List Value} {y : DataW H × List MemPlace}, Rows.uptoBulk y.1 < Rows.uptoBulk x.1 → DataW.trod enc P w base spare held fuel e cs = some y → ∃ p, d.K w p cs ∧ Wf p ∧ bk p ≤ Rows.uptoBulk y.1) :
    ∃ p, (Kd.slice e d).K w p cs ∧ (p.length ≤ 9223372036854775807 ∧ ∀ q ∈ p, Wf q) ∧ (p.map bk).sum + 1 ≤ Rows.uptoBulk x.1 := by
  rcases open_slice ht h with ⟨rfl, rfl⟩ | ⟨a, len, cap, m, n, D, Pl, rfl, _, hl, hm, hmm, rfl, hi⟩
  · exact ⟨[], ⟨none, 0, rfl, Nat.le_refl _, Kd.C_nil d w⟩, by simp, by simp [Rows.uptoBulk]⟩
  · have hlm : len ≤ m := by rw [hmm]; split <;> omega
    have key : ∀ i, i < len → ∃ p c, d.K w p c ∧ Wf p ∧ bk p ≤ Rows.uptoBulk (D i) ∧ ∀ j u, c[j]? = some u → w.cell? (a.add (i * d.sz + j)) = some u := by
      intro i hil
      obtain ⟨cs', hc, ht'⟩ := hi i (by omega)
      have hlt : Rows.uptoBulk (D i) < Rows.uptoBulk (.slice ((List.range len).map D) ((List.range (m - len)).map fun j => D (len + j))) := by
        have := bulk_part (l := (List.range len).map D) (List.mem_map.2 ⟨i, List.mem_range.2 hil, rfl⟩)
        simp only [Rows.uptoBulk]
        omega
      obtain ⟨p, hp, hw, hbk⟩ := ho hlt ht'
      rw [hsz] at hc
      obtain ⟨_, hcl, hat⟩ := World.cells?_some hc
      refine ⟨p, cs', hp, hw, hbk, fun j u hj => ?_⟩
      have hjl : j < cs'.length := (List.getElem?_eq_some_iff.1 hj).1
      have := hat j (by omega)
      rw [← Go.Deep.add_add, this, hj]
    have key2 : ∀ n, n ≤ len → ∃ l : List α, l.length = n ∧ (∀ p ∈ l, Wf p) ∧ (l.map bk).sum ≤ Rows.uptoBulkAll ((List.range n).map D) ∧ ∀ j p, l[j]? = some p → ∃ c, d.K w p c ∧ ∀ i u, c[i]? = some u → w.cell? (a.add (j * d.sz + i)) = some u := by
      intro n
      induction n with
      | zero => exact fun _ => ⟨[], rfl, by simp, by simp, by simp⟩
      | succ n ih =>
        intro hn
        obtain ⟨l, hl1, hw, hb, hl2⟩ := ih (by omega)
        obtain ⟨p, c, hp, hwp, hbp, hc⟩ := key n (by omega)
        refine ⟨l ++ [p], by simp [hl1], ?_, ?_, ?_⟩
        · intro q hq
          rcases List.mem_append.1 hq with h | h
          · exact hw q h
          · rw [List.mem_singleton.1 h]; exact hwp
        · rw [List.range_succ, List.map_append, List.map_append, bulk_append, List.sum_append]
          simp only [List.map_cons, List.map_nil, Rows.uptoBulkAll, List.sum_cons, List.sum_nil]
          omega
        · intro j q hj
          by_cases hjn : j < l.length
          · rw [List.getElem?_append_left hjn] at hj
            exact hl2 j q hj
          · rw [List.getElem?_append_right (by omega)] at hj
            have hj0 : j - l.length = 0 := by
              rcases Nat.eq_zero_or_pos (j - l.length) with h | h
              · exact h
              · rw [List.getElem?_eq_none (by simp; omega)] at hj
                cases hj
            rw [hj0] at hj
            have hjq : p = q := by simpa using hj
            subst hjq
            have : j = n := by omega
            subst this
            exact ⟨c, hp, hc⟩
    obtain ⟨l, rfl, hw, hb, hl2⟩ := key2 len (Nat.le_refl _)
    have hmx : l.length ≤ 9223372036854775807 := by unfold maxLen at hm; omega
    refine ⟨l, ⟨some a, cap, rfl, hl, rfl, hmx, fun _ => ⟨a, rfl, fun j p hj => ?_⟩⟩, ⟨hmx, hw⟩, ?_⟩
    · obtain ⟨c, hp, hc⟩ := hl2 j p hj
      exact ⟨c, d.K_len hp, hp, hc⟩
    · simp only [Rows.uptoBulk]
      omega
theorem opensB_slice {α : Type} {P : Program} {d : Kd α} {t e : TypeId} {Wf : α → Prop} {bk : α → Nat} (ht : P.underlying t = some (.slice e)) (hsz : P.cellsOf e = d.sz) (ho : fj P d e Wf bk) : fj P (Kd.slice e d) t (fun l => l.length ≤ 9223372036854775807 ∧ ∀ p ∈ l, Wf p) (fun l => (l.map bk).sum + 1) := by
  intro H enc w base spare held fuel cs x h
  exact opensB_slice_lt ht hsz h (fun _ h => ho h)
theorem opensB_iso {α β : Type} {P : Program} {d : Kd α} {t : TypeId} {Wf : α → Prop} {bk : α → Nat} (ho : fj P d t Wf bk) (f : β → α) (g : α → β) (hfg : ∀ a, f (g a) = a) : fj P (Kd.iso d f) t (fun b => Wf (f b)) (fun b => bk (f b)) := by
  intro H enc w base spare held fuel cs x h
  obtain ⟨p, hp, hw, hb⟩ := ho h
  refine ⟨g p, ?_, ?_, ?_⟩
  · show d.K w (f (g p)) cs
    rw [hfg]; exact hp
  · show Wf (f (g p))
    rw [hfg]; exact hw
  · show bk (f (g p)) ≤ _
    rw [hfg]; exact hb
theorem opensB_two {α β : Type} {P : Program} {d0 : Kd α} {d1 : Kd β} {t : TypeId} {f0 f1 : Field} {W0 : α → Prop} {W1 : β → Prop} {b0 : α → Nat} {b1 : β → Nat} (ht : P.underlying t = some (.struct #[f0, f1])) (hone : oneCellFields P #[f0, f1] = true) (h0 : fj P d0 f0.type W0 b0) (h1 : fj P d1 f1.type W1 b1) (hc : P.cellsOf t = 2) : fj P (Kd.pair d0 d1) t (fun p => W0 p.1 ∧ W1 p.2) (fun p => b0 p.1 + b1 p.2 + 1) := by
  intro H enc w base spare held fuel cs x h
  obtain ⟨xs, n, _, rfl, hl, hlen, hg⟩ := DataW.trod_struct ht h
  obtain ⟨o0, k0⟩ := hone_of hone 0 f0 rfl
  obtain ⟨o1, k1⟩ := hone_of hone 1 f1 rfl
  have hcl : cs.length = 2 := by first | exact hl.trans hc | (rw [← hc]; exact hl) | omega
  match cs, hcl with
  | [c0, c1], _ =>
    match xs, hlen with
    | [y0, y1], _ =>
      obtain ⟨p0, hp0, w0, e0⟩ := h0 (by simpa [o0, k0] using hg 0 f0 rfl)
      obtain ⟨p1, hp1, w1, e1⟩ := h1 (by simpa [o1, k1] using hg 1 f1 rfl)
      refine ⟨(p0, p1), ⟨[c0], [c1], rfl, hp0, hp1⟩, ⟨w0, w1⟩, ?_⟩
      simp only [Rows.uptoBulk, Rows.uptoBulkAll, List.map_cons, List.map_nil]
      omega
theorem opensB_three {α β γ : Type} {P : Program} {d0 : Kd α} {d1 : Kd β} {d2 : Kd γ} {t : TypeId} {f0 f1 f2 : Field} {W0 : α → Prop} {W1 : β → Prop} {W2 : γ → Prop} {b0 : α → Nat} {b1 : β → Nat} {b2 : γ → Nat} (ht : P.underlying t = some (.struct #[f0, f1, f2])) (hone : oneCellFields P #[f0, f1, f2] = true) (h0 : fj P d0 f0.type W0 b0) (h1 : fj P d1 f1.type W1 b1) (h2 : fj P d2 f2.type W2 b2) (hc : P.cellsOf t = 3) : fj P (Kd.pair d0 (Kd.pair d1 d2)) t (fun p => W0 p.1 ∧ W1 p.2.1 ∧ W2 p.2.2) (fun p => b0 p.1 + b1 p.2.1 + b2 p.2.2 + 1) := by
  intro H enc w base spare held fuel cs x h
  obtain ⟨xs, n, _, rfl, hl, hlen, hg⟩ := DataW.trod_struct ht h
  obtain ⟨o0, k0⟩ := hone_of hone 0 f0 rfl
  obtain ⟨o1, k1⟩ := hone_of hone 1 f1 rfl
  obtain ⟨o2, k2⟩ := hone_of hone 2 f2 rfl
  have hcl : cs.length = 3 := by first | exact hl.trans hc | (rw [← hc]; exact hl) | omega
  match cs, hcl with
  | [c0, c1, c2], _ =>
    match xs, hlen with
    | [y0, y1, y2], _ =>
      obtain ⟨p0, hp0, w0, e0⟩ := h0 (by simpa [o0, k0] using hg 0 f0 rfl)
      obtain ⟨p1, hp1, w1, e1⟩ := h1 (by simpa [o1, k1] using hg 1 f1 rfl)
      obtain ⟨p2, hp2, w2, e2⟩ := h2 (by simpa [o2, k2] using hg 2 f2 rfl)
      refine ⟨(p0, p1, p2), ⟨[c0], [c1, c2], rfl, hp0, [c1], [c2], rfl, hp1, hp2⟩, ⟨w0, w1, w2⟩, ?_⟩
      simp only [Rows.uptoBulk, Rows.uptoBulkAll, List.map_cons, List.map_nil]
      omega
theorem cameB {α : Type} {H : Type} {enc : TypeId × Value → H} {P : Program} {d : Kd α} {t e : TypeId} {W : World} {base : Nat} {spare : Nat → Bool} {held : Bool} {a : Option Addr} {len cap : Nat} {x : DataW H} {ps : List MemPlace} {Wf : α → Prop} {bk : α → Nat} {ds : List (DataW H)} (ho : fj P (Kd.slice e d) t (fun l => l.length ≤ 9223372036854775807 ∧ ∀ p ∈ l, Wf p) (fun l => (l.map bk).sum + 1)) (h : DataW.Trod enc P W base spare held t (.slice a len cap) x ps) (hm : x ∈ ds) (hb : Rows.uptoBulkAll ds ≤ 1048576) :
    ∃ l : List α, len = l.length ∧ l.length ≤ cap ∧ Kd.C d W a l.length l ∧ l.length ≤ 9223372036854775807 ∧ (∀ p ∈ l, Wf p) ∧ (l.map bk).sum + 1 ≤ 1048576 := by
  obtain ⟨fuel, hf⟩ := h
  obtain ⟨l, ⟨A, c, hcs, hl, hC⟩, ⟨hm', hw⟩, hbk⟩ := ho hf
  simp [Value.cells] at hcs
  obtain ⟨rfl, rfl, rfl⟩ := hcs
  exact ⟨l, rfl, hl, hC, hm', hw, Nat.le_trans hbk (Nat.le_trans (bulk_part hm) hb)⟩
theorem bulk_string {H : Type} {s : ByteArray} {ds : List (DataW H)} (hm : DataW.lit (H := H) (.string s.data.toList) ∈ ds) (hb : Rows.uptoBulkAll ds ≤ 1048576) : s.size + 1 ≤ 1048576 := by
  have h := Nat.le_trans (bulk_part hm) hb
  simp only [Rows.uptoBulk, Array.length_toList] at h
  exact h
theorem opens51 : fF Tryz.prog k51 51 (fun b => (Lit.int .i32 b.f0).wf = true ∧ (Lit.int .i32 b.f1).wf = true) := opens_iso (opens_two Tryz.underlying51 (by kernel_rfl) (opens_int Tryz.underlying21) (opens_int Tryz.underlying21) (by kernel_rfl)) (fun x : S51 => (x.f0, x.f1)) (fun p => ⟨p.1, p.2⟩) (fun _ => rfl)
theorem opensB51 : fj Tryz.prog k51 51 (fun b => (Lit.int .i32 b.f0).wf = true ∧ (Lit.int .i32 b.f1).wf = true) (fun _ => (1 + 1 + 1)) := opensB_iso (opensB_two Tryz.underlying51 (by kernel_rfl) (opensB_int Tryz.underlying21) (opensB_int Tryz.underlying21) (by kernel_rfl)) (fun x : S51 => (x.f0, x.f1)) (fun p => ⟨p.1, p.2⟩) (fun _ => rfl)
theorem bk25_sum : ∀ l : List S25, bkL25 l = (l.map bk25).sum
  | [] => by rw [bkL25]; rfl
  | x :: l => by rw [bkL25, bk25_sum l, List.map_cons, List.sum_cons]
theorem wf25_all : ∀ l : List S25, (∀ x ∈ l, wf25 x) → wfL25 l
  | [], _ => by rw [wfL25]; trivial
  | x :: l, h => by rw [wfL25]; exact ⟨h x (by simp), wf25_all l (fun y hy => h y (by simp [hy]))⟩
theorem bk51_sum : ∀ s : List S51, (s.map (fun _ => (1 + 1 + 1 : Nat))).sum = 3 * s.length
  | [] => rfl
  | x :: s => by rw [List.map_cons, List.sum_cons, bk51_sum s, List.length_cons]; omega
theorem bulk_pos {H : Type} (d : DataW H) : 1 ≤ Rows.uptoBulk d := by
  cases d with
  | lit x => cases x <;> simp [Rows.uptoBulk]
  | _ => simp [Rows.uptoBulk]
set_option maxRecDepth 100000 in
theorem opensB25_at {H : Type} {enc : TypeId × Value → H} {w : World} {base : Nat} {spare : Nat → Bool} {held : Bool} : ∀ (b : Nat) {fuel : Nat} {cs : List Value} {x : DataW H × List MemPlace}, Rows.uptoBulk x.1 ≤ b →
    DataW.trod enc Tryz.prog w base spare held fuel 25 cs = some x → ∃ p, k25.K w p cs ∧ wf25 p ∧ bk25 p ≤ Rows.uptoBulk x.1
  | 0, _, _, x, hb, h => absurd (bulk_pos x.1) (by omega)
  | b + 1, fuel, cs, x, hb, h => by
    obtain ⟨xs, n, _, rfl, hl, hlen, hg⟩ := DataW.trod_struct Tryz.underlying25 h
    have hcl : cs.length = 3 := hl.trans (by kernel_rfl)
    match cs, hcl with
    | [c0, c1, c2], _ =>
      match xs, hlen with
      | [y0, y1, y2], _ =>
        obtain ⟨p0, hp0, w0, e0⟩ := opensB_int Tryz.underlying3 (show DataW.trod enc Tryz.prog w base spare held n 3 [c0] = some y0 from hg 0 _ rfl)
        obtain ⟨p1, ⟨A1, k1, hp1, l1, g1⟩, w1, e1⟩ := opensB_slice Tryz.underlying22 (by kernel_rfl) opensB51 (show DataW.trod enc Tryz.prog w base spare held n 22 [c1] = some y1 from hg 1 _ rfl)
        have h2 : DataW.trod enc Tryz.prog w base spare held n 23 [c2] = some y2 := hg 2 _ rfl
        have hlt : Rows.uptoBulk y2.1 ≤ b := by
          simp only [Rows.uptoBulk, Rows.uptoBulkAll, List.map_cons, List.map_nil] at hb
          omega
        obtain ⟨p2, ⟨A2, k2, hp2, l2, g2⟩, w2, e2⟩ := opensB_slice_lt (d := k25) (Wf := wf25) (bk := bk25) Tryz.underlying23 (by kernel_rfl) h2 (fun hy h => opensB25_at b (by omega) h)
        have hp0 : [c0] = [Value.int .i64 p0] := hp0
        have hp1 : [c1] = [Value.slice A1 p1.length k1] := hp1
        have hp2 : [c2] = [Value.slice A2 p2.length k2] := hp2
        refine ⟨⟨p0, p1, p2⟩, ?_, ?_, ?_⟩
        · have := k25_mk w ⟨p0, p1, p2⟩ l1 g1 l2 g2
          rw [List.cons.injEq] at hp0 hp1 hp2
          rw [hp0.1, hp1.1, hp2.1]
          exact this
        · rw [wf25]
          exact ⟨w1, wf25_all _ w2.2⟩
        · rw [bk25, bk25_sum]
          dsimp only at e0 e1 e2
          rw [bk51_sum] at e1
          simp only [Rows.uptoBulk, Rows.uptoBulkAll, List.map_cons, List.map_nil]
          omega
theorem came25 {H : Type} {enc : TypeId × Value → H} {W : World} {base : Nat} {spare : Nat → Bool} {held : Bool} {cs : Array Value} {d : DataW H} {ps : List MemPlace} {ds : List (DataW H)} (h : DataW.Trod enc Tryz.prog W base spare held 25 (.agg cs) d ps) (hm : d ∈ ds) (hb : Rows.uptoBulkAll ds ≤ 1048576) :
    ∃ (x : S25) (A1 : Option Addr) (c1 : Nat) (A2 : Option Addr) (c2 : Nat), cs = #[.int .i64 x.f0, .slice A1 x.f1.length c1, .slice A2 x.f2.length c2] ∧ x.f1.length ≤ c1 ∧ Kd.C k51 W A1 x.f1.length x.f1 ∧ x.f2.length ≤ c2 ∧ Kd.C k25 W A2 x.f2.length x.f2 ∧ wf25 x ∧ bk25 x ≤ 1048576 := by
  obtain ⟨fuel, hf⟩ := h
  obtain ⟨x, hk, hw, hbk⟩ := opensB25_at _ (Nat.le_refl _) hf
  obtain ⟨A1, c1, A2, c2, hcs, l1, g1, l2, g2⟩ := fm hk
  have hcs : cs.toList = _ := hcs
  exact ⟨x, A1, c1, A2, c2, by rw [← Array.toArray_toList (xs := cs), hcs], l1, g1, l2, g2, hw, Nat.le_trans hbk (Nat.le_trans (bulk_part hm) hb)⟩
end Go.Proofs.YtaccleilcdfapaaGreat.G
