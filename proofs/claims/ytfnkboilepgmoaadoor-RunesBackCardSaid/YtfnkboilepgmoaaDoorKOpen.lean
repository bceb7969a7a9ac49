import Derived.Deep.Slices
import Derived.Deep.Fields
import Derived.ChangeSame
import Derived.SizedLaws
import Derived.ChangeSlices
import Derived.Test.YtfnkboilepgmoaaDoorKPre

namespace Go.Proofs.YtfnkboilepgmoaaDoor.R
open Go.RowKit Go.Proofs.YtfnkboilepgmoaaDoorW.PrintWords Go.Proofs.YtfnkboilepgmoaaDoorW.PrintLast Go.Proofs.YtfnkboilepgmoaaDoorW.PrintMore
open Go.ChangeShapes Go.WideShapes Go.Deep
def Opens {α : Type} (P : Program) (d : Kd α) (t : TypeId) (Wf : α → Prop) : Prop :=
  ∀ {H : Type} {enc : TypeId × Value → H} {w : World} {base : Nat} {spare : Nat → Bool} {held : Bool} {fuel : Nat} {cs : List Value} {x : DataW H × List MemPlace},
    DataW.trod enc P w base spare held fuel t cs = some x → ∃ p, d.K w p cs ∧ Wf p
theorem opens_int {P : Program} {t : TypeId} {k : IntKind} (ht : P.underlying t = some (.int k)) : Opens P (Kd.int k) t (fun n => (Lit.int k n).wf = true) := by
  intro H enc w base spare held fuel cs x h
  obtain ⟨n, rfl, _, hw⟩ := DataW.trod_int ht h
  exact ⟨n, rfl, hw⟩
theorem opens_bool {P : Program} {t : TypeId} (ht : P.underlying t = some .bool) : Opens P Kd.bool t (fun _ => True) := by
  intro H enc w base spare held fuel cs x h
  obtain ⟨b, rfl, _⟩ := DataW.trod_bool ht h
  exact ⟨b, rfl, trivial⟩
theorem opens_string {P : Program} {t : TypeId} (ht : P.underlying t = some .string) : Opens P Kd.string t (fun s => s.size ≤ 9223372036854775807) := by
  intro H enc w base spare held fuel cs x h
  obtain ⟨s, rfl, _, hs⟩ := DataW.trod_string ht h
  exact ⟨s, rfl, hs⟩
theorem opens_slice {α : Type} {P : Program} {d : Kd α} {t e : TypeId} {Wf : α → Prop} (ht : P.underlying t = some (.slice e)) (hsz : P.cellsOf e = d.sz) (ho : Opens P d e Wf) : Opens P (Kd.slice e d) t (fun l => l.length ≤ 9223372036854775807 ∧ ∀ p ∈ l, Wf p) := by
  intro H enc w base spare held fuel cs x h
  rcases open_slice ht h with ⟨rfl, _⟩ | ⟨a, len, cap, m, n, D, Pl, rfl, _, hl, hm, hmm, _, hi⟩
  · exact ⟨[], ⟨none, 0, rfl, Nat.le_refl _, Kd.C_nil d w⟩, by simp, by simp⟩
  · have hlm : len ≤ m := by rw [hmm]; split <;> omega
    have key : ∀ i, i < len → ∃ p c, d.K w p c ∧ Wf p ∧ ∀ j u, c[j]? = some u → w.cell? (a.add (i * d.sz + j)) = some u := by
      intro i hil
      obtain ⟨cs', hc, ht'⟩ := hi i (by omega)
      obtain ⟨p, hp, hw⟩ := ho ht'
      rw [hsz] at hc
      obtain ⟨_, hcl, hat⟩ := World.cells?_some hc
      refine ⟨p, cs', hp, hw, fun j u hj => ?_⟩
      have hjl : j < cs'.length := (List.getElem?_eq_some_iff.1 hj).1
      have := hat j (by omega)
      rw [← Go.Deep.add_add, this, hj]
    have key2 : ∀ n, n ≤ len → ∃ l : List α, l.length = n ∧ (∀ p ∈ l, Wf p) ∧ ∀ j p, l[j]? = some p → ∃ c, d.K w p c ∧ ∀ i u, c[i]? = some u → w.cell? (a.add (j * d.sz + i)) = some u := by
      intro n
      induction n with
      | zero => exact fun _ => ⟨[], rfl, by simp, by simp⟩
      | succ n ih =>
        intro hn
        obtain ⟨l, hl1, hw, hl2⟩ := ih (by omega)
        obtain ⟨p, c, hp, hwp, hc⟩ := key n (by omega)
        refine ⟨l ++ [p], by simp [hl1], ?_, ?_⟩
        · intro q hq
          rcases List.mem_append.1 hq with h | h
          · exact hw q h
          · rw [List.mem_singleton.1 h]; exact hwp
        · intro j q hj
          by_cases hjn : j < l.length
          · rw [List.getElem?_append_left hjn] at hj
            exact hl2 j q hj
          · rw [List.getElem?_append_right (by omega)] at hj
            have hj0 : j - l.length = 0 := by
              rcases Nat.eq_zero_or_pos (j - l.length) with h | h
              · exact h
              · rw [List.getElem?_eq_none (by simp; omega)] at hj
                cases hj
            rw [hj0] at hj
            have hjq : p = q := by simpa using hj
            subst hjq
            have : j = n := by omega
            subst this
            exact ⟨c, hp, hc⟩
    obtain ⟨l, rfl, hw, hl2⟩ := key2 len (Nat.le_refl _)
    have hmx : l.length ≤ 9223372036854775807 := by unfold maxLen at hm; omega
    refine ⟨l, ⟨some a, cap, rfl, hl, rfl, hmx, fun _ => ⟨a, rfl, fun j p hj => ?_⟩⟩, hmx, hw⟩
    obtain ⟨c, hp, hc⟩ := hl2 j p hj
    exact ⟨c, d.K_len hp, hp, hc⟩
theorem opens_iso {α β : Type} {P : Program} {d : Kd α} {t : TypeId} {Wf : α → Prop} (ho : Opens P d t Wf) (f : β → α) (g : α → β) (hfg : ∀ a, f (g a) = a) : Opens P (Kd.iso d f) t (fun b => Wf (f b)) := by
  intro H enc w base spare held fuel cs x h
  obtain ⟨p, hp, hw⟩ := ho h
  refine ⟨g p, ?_, ?_⟩
  · show d.K w (f (g p)) cs
    rw [hfg]; exact hp
  · show Wf (f (g p))
    rw [hfg]; exact hw
theorem opens_two {α β : Type} {P : Program} {d0 : Kd α} {d1 : Kd β} {t : TypeId} {f0 f1 : Field} {W0 : α → Prop} {W1 : β → Prop} (ht : P.underlying t = some (.struct #[f0, f1])) (hone : oneCellFields P #[f0, f1] = true) (h0 : Opens P d0 f0.type W0) (h1 : Opens P d1 f1.type W1) (hc : P.cellsOf t = 2) : Opens P (Kd.pair d0 d1) t (fun p => W0 p.1 ∧ W1 p.2) := by
  intro H enc w base spare held fuel cs x h
  obtain ⟨xs, n, _, hx, hl, hlen, hg⟩ := DataW.trod_struct ht h
  obtain ⟨o0, k0⟩ := hone_of hone 0 f0 rfl
  obtain ⟨o1, k1⟩ := hone_of hone 1 f1 rfl
  have hcl : cs.length = 2 := by first | exact hl.trans hc | (rw [← hc]; exact hl) | omega
  match cs, hcl with
  | [c0, c1], _ =>
    match xs, hlen with
    | [y0, y1], _ =>
      obtain ⟨p0, hp0, w0⟩ := h0 (by simpa [o0, k0] using hg 0 f0 rfl)
      obtain ⟨p1, hp1, w1⟩ := h1 (by simpa [o1, k1] using hg 1 f1 rfl)
      exact ⟨(p0, p1), ⟨[c0], [c1], rfl, hp0, hp1⟩, w0, w1⟩
theorem opens_three {α β γ : Type} {P : Program} {d0 : Kd α} {d1 : Kd β} {d2 : Kd γ} {t : TypeId} {f0 f1 f2 : Field} {W0 : α → Prop} {W1 : β → Prop} {W2 : γ → Prop} (ht : P.underlying t = some (.struct #[f0, f1, f2])) (hone : oneCellFields P #[f0, f1, f2] = true) (h0 : Opens P d0 f0.type W0) (h1 : Opens P d1 f1.type W1) (h2 : Opens P d2 f2.type W2) (hc : P.cellsOf t = 3) : Opens P (Kd.pair d0 (Kd.pair d1 d2)) t (fun p => W0 p.1 ∧ W1 p.2.1 ∧ W2 p.2.2) := by
  intro H enc w base spare held fuel cs x h
  obtain ⟨xs, n, _, hx, hl, hlen, hg⟩ := DataW.trod_struct ht h
  obtain ⟨o0, k0⟩ := hone_of hone 0 f0 rfl
  obtain ⟨o1, k1⟩ := hone_of hone 1 f1 rfl
  obtain ⟨o2, k2⟩ := hone_of hone 2 f2 rfl
  have hcl : cs.length = 3 := by first | exact hl.trans hc | (rw [← hc]; exact hl) | omega
  match cs, hcl with
  | [c0, c1, c2], _ =>
    match xs, hlen with
    | [y0, y1, y2], _ =>
      obtain ⟨p0, hp0, w0⟩ := h0 (by simpa [o0, k0] using hg 0 f0 rfl)
      obtain ⟨p1, hp1, w1⟩ := h1 (by simpa [o1, k1] using hg 1 f1 rfl)
      obtain ⟨p2, hp2, w2⟩ := h2 (by simpa [o2, k2] using hg 2 f2 rfl)
      exact ⟨(p0, p1, p2), ⟨[c0], [c1, c2], rfl, hp0, [c1], [c2], rfl, hp1, hp2⟩, w0, w1, w2⟩
theorem sized_any {H : Type} {enc : TypeId × Value → H} {P : Program} {W : World} {base : Nat} {spare : Nat → Bool} {held : Bool} {t e : TypeId} {a : Option Addr} {len cap : Nat} {d : DataW H} {ps : List MemPlace} {ts : List TypeId} {ds : List (DataW H)} {j : Nat}
    (hsz : (DataW.weightsEach P ts ds).all (· ≤ reachBytes) = true) (ht : ts[j]? = some t) (hd : ds[j]? = some d) (hu : P.underlying t = some (.slice e)) {B : Nat} (hB : P.bytesOf e = B)
    (h : DataW.Trod enc P W base spare held t (.slice a len cap) d ps) : len * B ≤ 140737488351232 := by
  obtain ⟨fuel, hf⟩ := h
  rcases open_slice hu hf with ⟨hcs, _⟩ | ⟨x, l, c, m, n, D, Pl, hcs, _, hl, _, hmm, hx, _⟩
  · simp [Value.cells] at hcs
    obtain ⟨rfl, rfl, rfl⟩ := hcs
    simp
  · simp [Value.cells] at hcs
    obtain ⟨rfl, rfl, rfl⟩ := hcs
    obtain ⟨hx, _⟩ := Prod.mk.inj hx
    subst hx
    have z := sized_slice hsz ht hd hu
    rw [hB] at z
    simp only [List.length_map, List.length_range] at z
    have : reachBytes = 140737488351232 := rfl
    have hle : len * B ≤ (len + (m - len)) * B := Nat.mul_le_mul_right _ (Nat.le_add_right _ _)
    omega
theorem came {α : Type} {H : Type} {enc : TypeId × Value → H} {P : Program} {d : Kd α} {t e : TypeId} {W : World} {base : Nat} {spare : Nat → Bool} {held : Bool} {a : Option Addr} {len cap : Nat} {x : DataW H} {ps : List MemPlace} {Wf : α → Prop} (ho : Opens P (Kd.slice e d) t (fun l => l.length ≤ 9223372036854775807 ∧ ∀ p ∈ l, Wf p)) (h : DataW.Trod enc P W base spare held t (.slice a len cap) x ps) :
    ∃ l : List α, len = l.length ∧ l.length ≤ cap ∧ Kd.C d W a l.length l ∧ l.length ≤ 9223372036854775807 ∧ ∀ p ∈ l, Wf p := by
  obtain ⟨fuel, hf⟩ := h
  obtain ⟨l, ⟨A, c, hcs, hl, hC⟩, hm, hw⟩ := ho hf
  simp [Value.cells] at hcs
  obtain ⟨rfl, rfl, rfl⟩ := hcs
  exact ⟨l, rfl, hl, hC, hm, hw⟩
theorem opens36 : Opens Tryd.prog k36 36 (fun b => (Lit.int .i32 b.f0).wf = true ∧ (Lit.int .i32 b.f1).wf = true) := opens_iso (opens_two Tryd.underlying36 (by kernel_rfl) (opens_int Tryd.underlying21) (opens_int Tryd.underlying21) (by kernel_rfl)) (fun x : S36 => (x.f0, x.f1)) (fun p => ⟨p.1, p.2⟩) (fun _ => rfl)
end Go.Proofs.YtfnkboilepgmoaaDoor.R
