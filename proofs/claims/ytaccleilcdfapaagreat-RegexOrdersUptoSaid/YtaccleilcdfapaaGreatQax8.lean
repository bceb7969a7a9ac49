import Derived.Test.YtaccleilcdfapaaGreatQPre
import Derived.Test.YtaccleilcdfapaaGreatQax0
import Derived.Test.YtaccleilcdfapaaGreatQax2
import Derived.Test.YtaccleilcdfapaaGreatQax4
import Derived.Test.YtaccleilcdfapaaGreatQax6
import Derived.Test.YtaccleilcdfapaaGreatQax7
namespace Go.Proofs.YtaccleilcdfapaaGreat.G
open Go.RowKit Go.Proofs.YtaccleilcdfapaaGreatW.PrintWords Go.Proofs.YtaccleilcdfapaaGreatW.PrintLast Go.Proofs.YtaccleilcdfapaaGreatW.PrintMore
attribute [local go_sem] dH dF dR dQ da cZ dG dE
set_option linter.unusedVariables false
set_option maxHeartbeats 8000000
set_option maxRecDepth 100000
set_option linter.unusedSimpArgs false
structure ac.El (W : World) (ok : Nat → Prop) (xs : List S25) where
 row : List Value
 t : S25
 len : row.length = 3
 one : ∀ u ∈ row, u.oneCell' = true
 fk : Kd.FK k25 W ok t row
 mem : t ∈ xs
theorem ac.El.swo {W : World} {ok : Nat → Prop} {xs : List S25} {ord : S25 → S25 → Int} (hO : Go.Sort.SWO (ltOf ord)) : Go.Sort.SWO (ltOf (fun x y : ac.El W ok xs => ord x.t y.t)) where
 irrefl x := hO.irrefl x.t
 trans x y z h1 h2 := hO.trans x.t y.t z.t h1 h2
 ntrans x y z h1 h2 := hO.ntrans x.t y.t z.t h1 h2
theorem ac.rows_reps {R : List (List Value)} {cs : List Value} (hR : ∀ r ∈ R, r.length = 3 ∧ ∀ u ∈ r, u.oneCell' = true) (hl : cs.length = R.length * 3) (h : ∀ j r, R[j]? = some r → ∀ i, i < 3 → cs[j * 3 + i]? = r[i]?) : Reps (fun x c => c = x ∧ c.length = 3 ∧ ∀ u ∈ c, u.oneCell' = true) 3 R cs := by
 refine ⟨hl, fun j r hj => ?_⟩
 obtain ⟨h1, h2⟩ := hR r (List.mem_of_getElem? hj)
 have e : (cs.drop (j * 3)).take 3 = r := by
  apply List.ext_getElem?
  intro i
  rw [List.getElem?_take, List.getElem?_drop]
  by_cases hi : i < 3
  ·rw [if_pos hi]; exact h j r hj i hi
  ·rw [if_neg hi, List.getElem?_eq_none Z8]
 rw [e]
 exact ⟨rfl, h1, h2⟩
theorem ac.reps_rows {R : List (List Value)} {cs : List Value} (h : Reps (fun x c => c = x ∧ c.length = 3 ∧ ∀ u ∈ c, u.oneCell' = true) 3 R cs) {j : Nat} {r : List Value} (hj : R[j]? = some r) : r.length = 3 ∧ (∀ u ∈ r, u.oneCell' = true) ∧ ∀ i, i < 3 → cs[j * 3 + i]? = r[i]? := by
 obtain ⟨e, h1, h2⟩ := h.2 j r hj
 refine ⟨by rw [← e]; exact h1, by rw [← e]; exact h2, fun i hi => ?_⟩
 rw [← e, List.getElem?_take, if_pos hi, List.getElem?_drop]
theorem ac.sortN (ord : S25 → S25 → Int) (hO : Go.Sort.SWO (ltOf ord)) (k : Nat) {base : Nat} {W : World} {ok : Nat → Prop} {v : Value} {xs : List S25} (hk : ∀ x ∈ xs, ∀ y ∈ xs, aj.f k x.f0 x.f1 x.f2 y.f0 y.f1 y.f2 = some (ord x y)) (HO : Kd.N k25 25 W base ok v xs) (hx : xs.length < 4611686018427387904) :
  Calls Tryz.prog 95 #[v, .func (.func 25) #[] #[]] W fun e w' => e = .returned (.tuple #[]) ∧ ∃ ys : List S25, ys.Perm xs ∧ ys.Pairwise (fun x y => ¬ ord y x < 0) ∧ Kd.N k25 25 w' base ok v ys ∧ W.heap.size ≤ w'.heap.size ∧ w'.os = W.os ∧ w'.tape = W.tape ∧ w'.output = W.output ∧ ∀ i, i < W.heap.size → some i ≠ v.ownBlock → w'.heap[i]? = W.heap[i]? := by
 obtain ⟨h0, rows, hl, ⟨h0', inner, ho, hr⟩, hf⟩ := HO
 by_cases hn : xs = []
 ·subst hn
  have e0 : rows = [] := List.eq_nil_of_length_eq_zero (by simpa using hl)
  subst e0
  obtain ⟨p, c, rfl⟩ : ∃ p c, v = .slice p 0 c := by
   rcases ho.2 with ⟨rfl, _⟩ | ⟨g, cap, cur, rfl, _⟩
   ·exact ⟨none, 0, rfl⟩
   ·exact ⟨_, _, rfl⟩
  refine (AnyF.slices_SortFunc_none Tryz.sortRx p c _ W).mono ?_
  rintro e w' ⟨rfl, rfl⟩
  exact ⟨rfl, [], List.Perm.refl _, List.Pairwise.nil, ⟨h0, [], rfl, ⟨h0', inner, ho, hr⟩, hf⟩, Nat.le_refl _, rfl, rfl, rfl, fun _ _ _ => rfl⟩
 have hr : Reps (fun x c => c = x ∧ c.length = 3 ∧ ∀ u ∈ c, u.oneCell' = true) 3 rows inner := hr
 have hpos : 0 < xs.length := List.length_pos_iff.2 hn
 rcases ho.2 with ⟨rfl, hn0⟩ | ⟨g, cap, cur, rfl, hg, hh, hc, hm, hs, ht⟩
 ·have : rows.length = 0 := hn0
  omega
 have hlt : g < W.heap.size := bB hh
 have hfk : ∀ (j : Nat) (hj : j < xs.length), Kd.FK k25 W (fun k => ok k ∧ k ≠ g) xs[j] (rows[j]'Z8) := fun j hj => by
  have := hf j xs[j] (rows[j]'Z8) (List.getElem?_eq_getElem hj) (List.getElem?_eq_getElem Z8)
  exact Kd.FK_mono this (fun k hk => ⟨hk.1, fun e => hk.2 (by rw [e]; rfl)⟩)
 have hrw : ∀ (j : Nat) (hj : j < xs.length), _ := fun j hj => ac.reps_rows hr (List.getElem?_eq_getElem (show j < rows.length by omega))
 let E := ac.El W (fun k => ok k ∧ k ≠ g) xs
 let mk : (i : Nat) → i < xs.length → E := fun i hi => ⟨rows[i]'Z8, xs[i], (hrw i hi).1, (hrw i hi).2.1, hfk i hi, List.getElem_mem _⟩
 haveI : Inhabited E := ⟨mk 0 hpos⟩
 let d : Array E := Array.ofFn (fun i : Fin xs.length => mk i.1 i.2)
 have hds : d.size = xs.length := Array.size_ofFn
 have hdi : ∀ (i : Nat) (hi : i < xs.length), d[i]! = mk i hi := fun i hi => by
  rw [getElem!_pos d i Z8]
  exact Array.getElem_ofFn _
 let enc : E → List Value := fun x => x.row
 have hcell : ∀ t, t < xs.length * 3 → cur[t]? = some (Go.Sort.flatK enc 3 d)[t]! := by
  intro t h
  rw [Go.Sort.get_flatK _ _ _ _ (by rw [hds]; exact h), hdi (t / 3) Z8]
  have h1 := (hrw (t / 3) Z8).2.2 (t % 3) Z8
  have h2 := (hrw (t / 3) Z8).1
  have e4 := congrArg (fun l : List Value => l[t]?) ht
  simp only [List.getElem?_take] at e4
  rw [if_pos (show t < rows.length * (Kd.raw k25.sz).sz from by show t < rows.length * 3; omega), Array.getElem?_toList] at e4
  rw [show t / 3 * 3 + t % 3 = t by omega] at h1
  rw [e4, h1, List.getElem?_eq_getElem Z8]
  congr 1
  exact (getElem!_pos _ _ _).symm
 have hH : Go.Sort.HoldsK enc 3 W g 0 d := by
  intro t h
  rw [Nat.zero_add, ah hh, ag hh]
  exact ⟨hcell t (by rw [Go.Sort.size_flatK, hds] at h; exact h), rfl⟩
 have eg : ∀ args w, (callFunc 25 args).run Tryz.prog w = .ok (.enter 25 args) w := enters_of Tryz.func25 Z5 rfl
 have hcmp : CmpLays Tryz.prog 25 #[] enc 3 (fun x y : E => ord x.t y.t) g 0 d.size W := by
  intro m os dk hdk x y
  have hsame : ∀ k, (ok k ∧ k ≠ g) → k < W.heap.size → (sortWorldK enc 3 W g 0 m dk os).heap[k]? = W.heap[k]? := by
   intro k hk hlk
   show ((W.heap.modify g _) ++ os)[k]? = _
   rw [Array.getElem?_append_left (by rw [Array.size_modify]; exact hlk), Array.getElem?_modify, if_neg (fun e => hk.2 e.symm)]
  have hx1 := x.fk _ hsame
  have hy1 := y.fk _ hsame
  obtain ⟨A1, c1, A2, c2, hx2, q1, C1, q2, C2⟩ := fm hx1
  obtain ⟨B1, d1, B2, d2, hy2, p1, D1, p2, D2⟩ := fm hy1
  have := am.ordAll k x.t.f0 A1 c1 x.t.f1 A2 c2 x.t.f2 y.t.f0 B1 d1 y.t.f1 B2 d2 y.t.f2 (ord x.t y.t) _ C1 q1 C2 q2 D1 p1 D2 p2 (hk x.t x.mem y.t y.mem)
  have ea : (#[Value.agg (enc x).toArray, Value.agg (enc y).toArray] ++ (#[] : Array Value)) = #[.agg #[.int .i64 x.t.f0, .slice A1 x.t.f1.length c1, .slice A2 x.t.f2.length c2], .agg #[.int .i64 y.t.f0, .slice B1 y.t.f1.length d1, .slice B2 y.t.f2.length d2]] := by
   show #[Value.agg x.row.toArray, Value.agg y.row.toArray] ++ (#[] : Array Value) = _
   rw [hx2, hy2, Array.append_empty]
  rw [ea]
  refine this.mono ?_
  rintro e w' ⟨rfl, hb⟩
  exact ⟨rfl, hb.grown⟩
 have hcon := AnyQ.slices_SortFunc_eq Tryz.sortRx 3 Tryz.isAgg25 Tryz.sizeOf25 enc (fun x => x.len) (fun x => x.one) (fun x y : E => ord x.t y.t) (ac.El.swo hO) 25 #[] g 0 cap d W eg hcmp hH hlt Z8
 rw [hds] at hcon
 rw [hl]
 refine hcon.mono ?_
 rintro e w' ⟨rfl, n, os, rfl⟩
 have hps := Go.Sort.pdq_sorts (ltOf (fun x y : E => ord x.t y.t)) (ac.El.swo hO) d 0 d.size (Lib.bitLen d.size) true true (Nat.zero_le _) (Nat.le_refl _) (.inl rfl)
 rw [hds] at hps
 obtain ⟨d', hd'⟩ : ∃ d', Go.Sort.pdq (ltOf (fun x y : E => ord x.t y.t)) d 0 xs.length (Lib.bitLen xs.length) true true = d' := ⟨_, rfl⟩
 rw [hd'] at hps ⊢
 have hsz : d'.size = xs.length := hps.1.1.trans hds
 have hperm : d'.toList.Perm d.toList := by
  have h3 := hps.1.2.2
  have e1 : d'.extract 0 xs.length = d' := by rw [← hsz]; exact Array.extract_size
  have e2 : d.extract 0 xs.length = d := by rw [← hds]; exact Array.extract_size
  rw [e1, e2] at h3
  exact h3
 have hdt : d.toList.map (fun x => x.t) = xs := by
  apply List.ext_getElem
  ·rw [List.length_map, Array.length_toList, hds]
  ·intro i h1 h2
   rw [List.getElem_map, Array.getElem_toList]
   have := hdi i h2
   rw [getElem!_pos d i Z8] at this
   rw [this]
 obtain ⟨cur', hcur⟩ : ∃ c, Go.Sort.putCells id 0 (Go.Sort.flatK enc 3 d') cur = c := ⟨_, rfl⟩
 have hsz' : cur'.size = cur.size := by rw [← hcur]; simp [Go.Sort.putCells]
 have hs2 : cur.size = cap * 3 := hs
 have hc2 : xs.length ≤ cap := by rw [← hl]; exact hc
 have hh' : (sortWorldK enc 3 W g 0 n d' os).heap[g]? = some (.cells cur' 25 (0, 0)) := by
  have e1 : (Go.Sort.putRowK enc 3 (Go.Sort.ahead W n) g 0 d').heap[g]? = some (.cells cur' 25 (0, 0)) := by
   show (W.heap.modify g (Go.Sort.onCells (Go.Sort.putCells id 0 (Go.Sort.flatK enc 3 d'))))[g]? = _
   rw [Array.getElem?_modify, if_pos rfl, hh, Option.map_some, ← hcur]
   rfl
  show ((Go.Sort.putRowK enc 3 (Go.Sort.ahead W n) g 0 d').heap ++ os)[g]? = _
  rw [Array.getElem?_append_left]
  ·exact e1
  ·show g < (W.heap.modify g _).size
   rw [Array.size_modify]; exact hlt
 have hget : ∀ t, t < d'.size * 3 → cur'[t]? = some (Go.Sort.flatK enc 3 d')[t]! := by
  intro t h
  have hlc : t < cur.size := by omega
  rw [← hcur]
  unfold Go.Sort.putCells
  rw [Array.getElem?_mapIdx, Array.getElem?_eq_getElem hlc, Option.map_some, if_pos ⟨Nat.zero_le _, by rw [Go.Sort.size_flatK]; omega⟩]
  rfl
 have hother : ∀ i, i < W.heap.size → i ≠ g → (sortWorldK enc 3 W g 0 n d' os).heap[i]? = W.heap[i]? := by
  intro i hi hne
  show ((W.heap.modify g _) ++ os)[i]? = _
  rw [Array.getElem?_append_left (by rw [Array.size_modify]; exact hi), Array.getElem?_modify, if_neg (fun e => hne e.symm)]
 refine ⟨rfl, d'.toList.map (fun x => x.t), ?_, ?_, ?_, ?_, rfl, rfl, rfl, fun i hi hne => hother i hi (fun e => hne (by rw [e]; rfl))⟩
 ·have := hperm.map (fun x => x.t)
  rw [hdt] at this
  exact this
 ·rw [List.pairwise_map, List.pairwise_iff_getElem]
  intro i j hi hj hij
  have hi' : i < d'.size := by simpa using hi
  have hj' : j < d'.size := by simpa using hj
  have := hps.2 i j (Nat.zero_le _) hij Z8
  rw [getElem!_pos d' j hj', getElem!_pos d' i hi'] at this
  simp only [Array.getElem_toList]
  exact of_decide_eq_false this
 ·refine ⟨h0, d'.toList.map (fun x => x.row), Z24, ⟨fun k hk => hk.symm, cur'.toList.take (xs.length * 3), ⟨?_, .inr ⟨g, cap, cur', ?_, hg, hh', ?_, hm, by rw [hsz']; exact hs, ?_⟩⟩, ?_⟩, ?_⟩
  ·rw [List.length_take, Array.length_toList (xs := cur'), hsz', List.length_map, Array.length_toList (xs := d')]
   show min (xs.length * 3) cur.size = d'.size * 3
   omega
  ·rw [List.length_map, Array.length_toList (xs := d'), hsz]
  ·rw [List.length_map, Array.length_toList (xs := d'), hsz]; exact hc2
  ·rw [List.length_map, Array.length_toList (xs := d'), hsz]; rfl
  ·refine ac.rows_reps (fun r hr => ?_) ?_ ?_
   ·obtain ⟨x, hx1, rfl⟩ := List.mem_map.1 hr
    exact ⟨x.len, x.one⟩
   ·rw [List.length_take, Array.length_toList (xs := cur'), hsz', List.length_map, Array.length_toList (xs := d')]; omega
   ·intro j r hj i hi
    rw [List.getElem?_map, Array.getElem?_toList] at hj
    have hj' : j < d'.size := by
     rcases Nat.lt_or_ge j d'.size with h | h
     ·exact h
     ·rw [Array.getElem?_eq_none h] at hj; simp at hj
    rw [Array.getElem?_eq_getElem hj', Option.map_some] at hj
    obtain rfl := Option.some.inj hj
    rw [List.getElem?_take, if_pos Z8, Array.getElem?_toList, hget _ Z8, Go.Sort.get_flatK _ _ _ _ Z8, show (j * 3 + i) / 3 = j by omega, show (j * 3 + i) % 3 = i by omega, getElem!_pos d' j hj']
    have hlen := (d'[j]).len
    rw [List.getElem?_eq_getElem Z8]
    exact congrArg some (getElem!_pos _ _ _)
  ·intro j x r hx hr
   rw [List.getElem?_map, Array.getElem?_toList] at hx hr
   have hj' : j < d'.size := by
    rcases Nat.lt_or_ge j d'.size with h | h
    ·exact h
    ·rw [Array.getElem?_eq_none h] at hr; simp at hr
   rw [Array.getElem?_eq_getElem hj', Option.map_some] at hx hr
   obtain rfl := Option.some.inj hx
   obtain rfl := Option.some.inj hr
   refine Kd.FK_mono (Kd.FK_step (d'[j]).fk (fun k hk hlk => hother k hlk hk.2)) (fun k hk => ⟨hk.1, fun e => hk.2 (Option.some.inj e)⟩)
 ·show W.heap.size ≤ ((W.heap.modify g _) ++ os).size
  rw [Array.size_append, Array.size_modify]; omega
def ac.ddk (ord : S25 → S25 → Int) : S25 → List S25 → List S25
 | _, [] => []
 | p, x :: l => if ord x p = 0 then ac.ddk ord x l else x :: ac.ddk ord x l
def ac.dd (ord : S25 → S25 → Int) : List S25 → List S25
 | [] => []
 | x :: l => x :: ac.ddk ord x l
theorem ac.ddk_len (ord : S25 → S25 → Int) : ∀ (l : List S25) (p : S25), (ac.ddk ord p l).length ≤ l.length
 | [], _ => Nat.le_refl _
 | x :: l, p => by
  unfold ac.ddk
  split
  ·exact Nat.le_succ_of_le (ac.ddk_len ord l x)
  ·exact Nat.succ_le_succ (ac.ddk_len ord l x)
theorem ac.dd_skip {ord : S25 → S25 → Int} {xs : List S25} {i : Nat} (h1 : 1 ≤ i) (h : i < xs.length) {T : List S25} (hd : T ++ ac.ddk ord (xs.getD (i - 1) z25) (xs.drop i) = ac.dd ord xs) (h0 : ord (xs.getD i z25) (xs.getD (i - 1) z25) = 0) : T ++ ac.ddk ord (xs.getD (i + 1 - 1) z25) (xs.drop (i + 1)) = ac.dd ord xs := by
 rw [ae.drop_at xs i h, ac.ddk, if_pos h0] at hd
 exact hd
theorem ac.dd_keep {ord : S25 → S25 → Int} {xs : List S25} {i : Nat} (h1 : 1 ≤ i) (h : i < xs.length) {T : List S25} (hd : T ++ ac.ddk ord (xs.getD (i - 1) z25) (xs.drop i) = ac.dd ord xs) (h0 : ¬ ord (xs.getD i z25) (xs.getD (i - 1) z25) = 0) : (T ++ [xs.getD i z25]) ++ ac.ddk ord (xs.getD (i + 1 - 1) z25) (xs.drop (i + 1)) = ac.dd ord xs := by
 rw [ae.drop_at xs i h, ac.ddk, if_neg h0] at hd
 rw [List.append_assoc]
 exact hd
theorem ac.grown_below {W wr w1 : World} {row : Option Nat} (h : W.grownBy wr row) (hb : Below wr.heap.size wr w1) : W.grownBy w1 row :=
 World.grownBy.trans h (fg hb row)
theorem ac.N_at3 {W : World} {base n cap g : Nat} {ok : Nat → Prop} {xs : List S25} (h : Kd.N k25 25 W base ok (.slice (some ⟨g, 0, none⟩) n cap) xs) (i : Nat) (h1 : i < n) :
  ∃ A1 c1 A2 c2, W.cell? ⟨g, i * 3, none⟩ = some (.int .i64 (xs.getD i z25).f0) ∧ W.cell? ⟨g, i * 3 + 1, none⟩ = some (.slice A1 (xs.getD i z25).f1.length c1) ∧ W.cell? ⟨g, i * 3 + 2, none⟩ = some (.slice A2 (xs.getD i z25).f2.length c2) ∧ (xs.getD i z25).f1.length ≤ c1 ∧ k51.C W A1 (xs.getD i z25).f1.length (xs.getD i z25).f1 ∧ (xs.getD i z25).f2.length ≤ c2 ∧ k25.C W A2 (xs.getD i z25).f2.length (xs.getD i z25).f2 ∧ Kd.FK k25 W (fun k => ok k ∧ k ≠ g) (xs.getD i z25) [.int .i64 (xs.getD i z25).f0, .slice A1 (xs.getD i z25).f1.length c1, .slice A2 (xs.getD i z25).f2.length c2] := by
 obtain ⟨c, hcl, hf, hc, _⟩ := Kd.N_elem h z25 (i : Int) Z8 Z8
 simp only [Int.toNat_natCast] at hf hc
 obtain ⟨A1, c1, A2, c2, rfl, l1, g1, l2, g2⟩ := fm (Kd.FK_now hf)
 exact ⟨A1, c1, A2, c2, hc 0 _ rfl, hc 1 _ rfl, hc 2 _ rfl, l1, g1, l2, g2, hf⟩
theorem ac.clear3 {P : Program} (w : World) (t e : TypeId) (z : Value) (ht : P.underlying t = some (.slice e)) (hv : ∀ w, (zeroValue e).run P w = .ok z w) (hz : z.cells.size = 3) (h1 : ∀ u ∈ z.cells, u.oneCell' = true) (b o n c : Nat)
  (hc : ∀ j, j < n * 3 → (w.cell? ⟨b, o + j, none⟩).isSome = true) (hf : ∀ j, j < n * 3 → w.frozen? ⟨b, o + j, none⟩ = false) :
  ∃ vs : List Value, vs.length = n * 3 ∧ ∀ ty, (Builtin.clear_ #[t] ty #[.slice (some ⟨b, o, none⟩) n c]).run P w = .ok (.tuple #[]) (w.setCells b o vs) := by
 rcases Nat.eq_zero_or_pos n with h0 | hp
 ·subst h0
  refine ⟨[], rfl, fun ty => ?_⟩
  simp [Builtin.clear_, run_underlying ht, World.setCells]
 ·have hlen : (Builtin.zeroCells z.cells n).toList.length = n * 3 := by
   simp [Builtin.zeroCells, hz, Nat.mul_comm]
  refine ⟨(Builtin.zeroCells z.cells n).toList, hlen, fun ty => ?_⟩
  have hst := run_storeCells_cells (P := P) b o (Builtin.zeroCells z.cells n).toList 0 w (by rw [hlen]; simpa using hc) (by rw [hlen]; simpa using hf) (by
   intro v hv'
   simp only [Builtin.zeroCells, Array.toList_map, List.mem_map] at hv'
   obtain ⟨i, _, rfl⟩ := hv'
   have hi : i % z.cells.size < z.cells.size := Nat.mod_lt _ Z8
   rw [getElem!_pos z.cells _ hi]
   exact h1 _ (Array.getElem_mem hi))
  simp only [Nat.add_zero] at hst
  obtain ⟨m, rfl⟩ : ∃ m, n = m + 1 := ⟨n - 1, Z8⟩
  simp [Builtin.clear_, run_underlying ht, hv, hst]
theorem ac.N_tail {W : World} {base n cap g o : Nat} {ok : Nat → Prop} {xs : List S25} {vs : List Value} (h : Kd.N k25 25 W base ok (.slice (some ⟨g, 0, none⟩) n cap) xs) (ho : n * 3 ≤ o) (hfit : o + vs.length ≤ cap * 3) : Kd.N k25 25 (W.setCells g o vs) base ok (.slice (some ⟨g, 0, none⟩) n cap) xs ∧ W.grownBy (W.setCells g o vs) (some g) := by
 obtain ⟨h0, rows, hl, ⟨h0', inner, ho', hr⟩, hf⟩ := h
 rcases ho'.2 with ⟨he, _⟩ | ⟨g2, cap2, cur, he, hg, hh, hc, hm, hs, ht⟩
 ·cases he
 obtain ⟨rfl, rfl, rfl⟩ : g = g2 ∧ n = rows.length ∧ cap = cap2 := by
  simp only [Value.slice.injEq, Option.some.injEq, Addr.mk.injEq] at he
  exact ⟨he.1.1, he.2.1, he.2.2⟩
 have hs2 : cur.size = cap * 3 := hs
 obtain ⟨cur', h3, h4, h5⟩ := gq vs o W cur hh Z8
 obtain ⟨s1, s2, s3, s4⟩ := fW g vs o W
 have hgr : W.grownBy (W.setCells g o vs) (some g) := ⟨s1, s2, s3, by rw [s4]; exact Nat.le_refl _, fun k _ hk => fI vs o k (fun e => hk (by rw [e]))⟩
 refine ⟨⟨h0, rows, hl, ⟨h0', inner, ⟨ho'.1, .inr ⟨g, cap, cur', rfl, hg, h3, hc, hm, by rw [h4]; exact hs, ?_⟩⟩, hr⟩, fun j x c hx hc' => ?_⟩, hgr⟩
 ·rw [h5, ← ht]
  have hsz : rows.length * (Kd.raw k25.sz).sz = rows.length * 3 := rfl
  rw [hsz, List.take_append_of_le_length (by simp; omega), List.take_append_of_le_length (by simp; omega), List.take_take, Nat.min_eq_left ho]
 ·exact Kd.FK_step (hf j x c hx hc') (fun k hk hlt => fI vs o k (fun e => hk.2 (by rw [e]; rfl)))
theorem ac.same_of {k : Nat} {ord : S25 → S25 → Int} {x y : S25} (h : aj.f k x.f0 x.f1 x.f2 y.f0 y.f1 y.f2 = some (ord x y)) : cE.f k x.f0 x.f1 x.f2 y.f0 y.f1 y.f2 = some (ord x y == 0) := by
 unfold cE.f am.f
 rw [h]
 rfl
theorem ac.len3 {l : List Value} (h : l.length = 3) : ∃ a b c, l = [a, b, c] := by
 match l, h with
 | [a, b, c], _ => exact ⟨a, b, c, rfl⟩
theorem ac.getD_drop {xs cur : List S25} {m i : Nat} (h : cur.drop m = xs.drop m) (hi : m ≤ i) : cur.getD i z25 = xs.getD i z25 := by
 have h2 := congrArg (fun l : List S25 => l[i - m]?) h
 simp only [List.getElem?_drop] at h2
 rw [show m + (i - m) = i by omega] at h2
 rw [List.getD_eq_getElem?_getD, List.getD_eq_getElem?_getD, h2]
theorem ac.take_set (l : List S25) (k : Nat) (x : S25) (h : k < l.length) : (l.set k x).take (k + 1) = l.take k ++ [x] := by
 apply List.ext_getElem?
 intro i
 rw [List.getElem?_take]
 rcases Nat.lt_trichotomy i k with h1 | h1 | h1
 ·rw [if_pos Z8, List.getElem?_set_ne Z8, List.getElem?_append_left (by rw [List.length_take]; omega), List.getElem?_take, if_pos h1]
 ·subst h1
  rw [if_pos Z8, List.getElem?_set_self h, List.getElem?_append_right (by rw [List.length_take]; omega), List.length_take, show i - min i l.length = 0 by omega]
  rfl
 ·rw [if_neg Z8, List.getElem?_eq_none (by rw [List.length_append, List.length_take, List.length_singleton]; omega)]
theorem ac.compactN (ord : S25 → S25 → Int) (k : Nat) {base : Nat} {W : World} {ok : Nat → Prop} {v : Value} {xs : List S25} (hk : ∀ x ∈ xs, ∀ y ∈ xs, aj.f k x.f0 x.f1 x.f2 y.f0 y.f1 y.f2 = some (ord x y)) (HO : Kd.N k25 25 W base ok v xs) (hx : xs.length < 4611686018427387904) :
  Calls Tryz.prog 96 #[v, .func (.func 31) #[] #[]] W fun e w' => ∃ v', e = .returned v' ∧ Kd.N k25 25 w' base ok v' (ac.dd ord xs) ∧ W.grownBy w' v.ownBlock := by
 by_cases hl2 : xs.length < 2
 ·have e : ac.dd ord xs = xs := by
   rcases xs with _ | ⟨x, _ | ⟨y, l⟩⟩
   ·rfl
   ·rfl
   ·simp at hl2; omega
  rw [e]
  obtain ⟨A, c, rfl⟩ := Kd.N_slice HO
  have H := gz HO
  clear HO hk e
  have d1 : decide ((xs.length : Int) < 2) = true := decide_eq_true Z8
  go_enter Tryz.func96, Tryz.ntmps96
  go_wp2
  go_ret
  exact ⟨_, rfl, H.out, World.grownBy.refl _ _⟩
 ·obtain ⟨g, cap, rfl, hbg, hgl, _⟩ := Kd.N_form HO Z8
  have hcap : xs.length ≤ cap := (Kd.N_reads' HO).2.1
  have H := gz HO
  have HK := gz hk
  clear HO hk
  have d1 : decide ((xs.length : Int) < 2) = false := decide_eq_false Z8
  go_enter Tryz.func96, Tryz.ntmps96
  go_wp2
  go_loopg [5] xs.length (fun gk s5 wr => ∃ i : Nat, 1 ≤ i ∧ i ≤ xs.length ∧ xs.length - i ≤ gk ∧ s5 = .int .i64 (i : Int) ∧ aa (Kd.N k25 25 wr base ok (.slice (some ⟨g, 0, none⟩) xs.length cap) xs) ∧ aa (W.grownBy wr (some g)) ∧ aa (xs.take i ++ ac.ddk ord (xs.getD (i - 1) z25) (xs.drop i) = ac.dd ord xs))
  case atStart =>
   refine ⟨1, Nat.le_refl _, Z8, Z8, rfl, H, ⟨World.grownBy.refl _ _⟩, ⟨?_⟩⟩
   rcases xs with _ | ⟨x, l⟩
   ·simp at hl2
   ·rfl
  case round =>
   clear H
   obtain ⟨i, hi1, hi2, hgk, rfl, H, HG, HD⟩ := hrel
   by_cases hlt : i < xs.length
   ·have d2 : decide ((i : Int) < (xs.length : Int)) = true := decide_eq_true Z8
    obtain ⟨A1, c1, A2, c2, p0, p1, p2, l1, C1, l2, C2, _⟩ := ac.N_at3 H.out i hlt
    obtain ⟨B1, e1, B2, e2, q0, q1, q2, m1, D1, m2, D2, _⟩ := ac.N_at3 H.out (i - 1) Z8
    have hkk := gz (ac.same_of (HK.out _ (ae.mem_at xs i hlt) _ (ae.mem_at xs (i - 1) Z8)))
    have HZ := gz (And.intro (fun h => ac.dd_skip (ord := ord) hi1 hlt HD.out h) (fun h => ac.dd_keep (ord := ord) hi1 hlt HD.out h))
    obtain ⟨⟨t0, t1, t2⟩, ht⟩ : ∃ t, xs.getD i z25 = t := ⟨_, rfl⟩
    obtain ⟨⟨u0, u1, u2⟩, hu⟩ : ∃ t, xs.getD (i - 1) z25 = t := ⟨_, rfl⟩
    rw [ht] at p0 p1 p2 l1 C1 l2 C2
    rw [hu] at q0 q1 q2 m1 D1 m2 D2
    dsimp only at p0 p1 p2 l1 C1 l2 C2 q0 q1 q2 m1 D1 m2 D2
    have hkk2 := hkk.out
    rw [ht, hu] at hkk2
    dsimp only at hkk2
    have HT := gz ht
    have HU := gz hu
    have KK := gz hkk2
    have Q1 := gz l1
    have Q2 := gz C1
    have Q3 := gz l2
    have Q4 := gz C2
    have Q5 := gz m1
    have Q6 := gz D1
    have Q7 := gz m2
    have Q8 := gz D2
    clear ht hu hkk hkk2 l1 C1 l2 C2 m1 D1 m2 D2 HD
    have hs1 : IntKind.i64.wrap ((i : Int) - 1) = ((i - 1 : Nat) : Int) := by rw [dq]; unfold wrap64; omega
    have z0 : (0 : Int) ≤ (i : Int) := by omega
    have z1 : (i : Int) < (xs.length : Int) := by omega
    have z2 : (0 : Int) ≤ ((i - 1 : Nat) : Int) := by omega
    have z3 : ((i - 1 : Nat) : Int) < (xs.length : Int) := by omega
    have z4 : i - 1 < xs.length := by omega
    have Q9 := gz (show Below wr.heap.size wr wr.drew from aX (Below.refl _ _))
    obtain ⟨r, hr⟩ : ∃ r, ord ⟨t0, t1, t2⟩ ⟨u0, u1, u2⟩ = r := ⟨_, rfl⟩
    obtain ⟨rb, hrb⟩ : ∃ rb : Bool, (r == 0) = rb := ⟨_, rfl⟩
    rw [hr, hrb] at KK
    have HR := gz hr
    have HRB := gz hrb
    clear hr hrb
    go_wp2_with fail
    go_region_held3 (fun w' => w'.cell? ⟨g, i * 3, none⟩ = some (.int .i64 t0) ∧ w'.cell? ⟨g, i * 3 + 1, none⟩ = some (.slice A1 t1.length c1) ∧ w'.cell? ⟨g, i * 3 + 2, none⟩ = some (.slice A2 t2.length c2) ∧ w'.cell? ⟨g, (i - 1) * 3, none⟩ = some (.int .i64 u0) ∧ w'.cell? ⟨g, (i - 1) * 3 + 1, none⟩ = some (.slice B1 u1.length e1) ∧ w'.cell? ⟨g, (i - 1) * 3 + 2, none⟩ = some (.slice B2 u2.length e2)) (go_keep) ((go_at_call 31; refine (cE.calls k t0 A1 c1 t1 A2 c2 t2 u0 B1 e1 u1 B2 e2 u2 _ _ (Kd.C_below Q2.out Q9.out) Q1.out (Kd.C_below Q4.out Q9.out) Q3.out (Kd.C_below Q6.out Q9.out) Q5.out (Kd.C_below Q8.out Q9.out) Q7.out KK.out).mono ?_; rintro ee w1 ⟨rfl, hb⟩; have f0 := (hb.cell (World.block_lt_of_cell? _ _ p0)).trans p0; have f1 := (hb.cell (World.block_lt_of_cell? _ _ p1)).trans p1; have f2 := (hb.cell (World.block_lt_of_cell? _ _ p2)).trans p2; have f3 := (hb.cell (World.block_lt_of_cell? _ _ q0)).trans q0; have f4 := (hb.cell (World.block_lt_of_cell? _ _ q1)).trans q1; have f5 := (hb.cell (World.block_lt_of_cell? _ _ q2)).trans q2))
    have H2 := gz (Kd.N_below (Kd.N_below H.out Q9.out) hb)
    have HG2 := gz (ac.grown_below (ac.grown_below HG.out Q9.out) hb)
    clear f0 f1 f2 f3 f4 f5 hb
    cases rb with
    | false =>
     go_wp2
     go_roundg (xs.length - (i + 1))
     case measure => omega
     case rel =>
      refine ⟨i + 1, Z8, Z8, Nat.le_refl _, by go_num, H2, HG2, ⟨?_⟩⟩
      rw [ae.take_at xs i hlt]
      exact HZ.out.2 (by rw [HT.out, HU.out, HR.out]; exact beq_eq_false_iff_ne.1 HRB.out)
    | true =>
     have HD2 := gz (HZ.out.1 (by rw [HT.out, HU.out, HR.out]; exact beq_iff_eq.1 HRB.out))
     go_wp2
     clear HZ HT HU KK HRB HR Q1 Q2 Q3 Q4 Q5 Q6 Q7 Q8 Q9 p0 p1 p2 q0 q1 q2 H HG
     go_loopg [5, 7] xs.length (fun gk s5 s7 wr => ∃ (kk k2 : Nat) (cur : List S25), s5 = .int .i64 (kk : Int) ∧ s7 = .int .i64 (k2 : Int) ∧ 1 ≤ k2 ∧ i + k2 ≤ xs.length ∧ xs.length - (i + k2) ≤ gk ∧ kk ≤ i + (k2 - 1) ∧ aa (Kd.N k25 25 wr base ok (.slice (some ⟨g, 0, none⟩) xs.length cap) cur) ∧ aa (W.grownBy wr (some g)) ∧ aa (cur.length = xs.length ∧ cur.drop (i + (k2 - 1)) = xs.drop (i + (k2 - 1)) ∧ cur.take kk ++ ac.ddk ord (xs.getD (i + k2 - 1) z25) (xs.drop (i + k2)) = ac.dd ord xs))
     case atStart => exact ⟨i, 1, xs, rfl, rfl, Nat.le_refl _, Z8, Z8, Z8, H2, HG2, ⟨⟨rfl, rfl, HD2.out⟩⟩⟩
     case round =>
      clear H2 HG2 HD2
      obtain ⟨kk, k2, cur, rfl, rfl, hk2, hik, hgk2, hkk, H, HG, HC⟩ := hrel
      by_cases hlt2 : i + k2 < xs.length
      ·have d3 : decide ((k2 : Int) < ((xs.length - i : Nat) : Int)) = true := decide_eq_true Z8
       obtain ⟨A1, c1, A2, c2, p0, p1, p2, l1, C1, l2, C2, FX⟩ := ac.N_at3 H.out (i + k2) hlt2
       obtain ⟨B1, e1, B2, e2, q0, q1, q2, m1, D1, m2, D2, _⟩ := ac.N_at3 H.out (i + (k2 - 1)) Z8
       rw [ac.getD_drop HC.out.2.1 (show i + (k2 - 1) ≤ i + k2 by omega)] at p0 p1 p2 l1 C1 l2 C2 FX
       rw [ac.getD_drop HC.out.2.1 (Nat.le_refl _)] at q0 q1 q2 m1 D1 m2 D2
       rw [Nat.add_mul] at p0 p1 p2 q0 q1 q2
       have hpr : i + (k2 - 1) = i + k2 - 1 := by omega
       have hkk3 := ac.same_of (HK.out _ (ae.mem_at xs (i + k2) hlt2) _ (ae.mem_at xs (i + (k2 - 1)) Z8))
       have HZ := gz (And.intro (fun h => ac.dd_skip (ord := ord) (show 1 ≤ i + k2 by omega) hlt2 HC.out.2.2 h) (fun h => ac.dd_keep (ord := ord) (show 1 ≤ i + k2 by omega) hlt2 HC.out.2.2 h))
       rw [← hpr] at HZ
       obtain ⟨⟨t0, t1, t2⟩, ht⟩ : ∃ t, xs.getD (i + k2) z25 = t := ⟨_, rfl⟩
       obtain ⟨⟨u0, u1, u2⟩, hu⟩ : ∃ t, xs.getD (i + (k2 - 1)) z25 = t := ⟨_, rfl⟩
       rw [ht] at p0 p1 p2 l1 C1 l2 C2 FX
       rw [hu] at q0 q1 q2 m1 D1 m2 D2
       rw [ht, hu] at HZ hkk3
       dsimp only at p0 p1 p2 l1 C1 l2 C2 q0 q1 q2 m1 D1 m2 D2 FX hkk3
       obtain ⟨r, hr⟩ : ∃ r, ord ⟨t0, t1, t2⟩ ⟨u0, u1, u2⟩ = r := ⟨_, rfl⟩
       obtain ⟨rb, hrb⟩ : ∃ rb : Bool, (r == 0) = rb := ⟨_, rfl⟩
       rw [hr, hrb] at hkk3
       rw [hr] at HZ
       have KK := gz hkk3
       have HRB := gz hrb
       have HT := gz ht
       have HF := gz FX
       have Q1 := gz l1
       have Q2 := gz C1
       have Q3 := gz l2
       have Q4 := gz C2
       have Q5 := gz m1
       have Q6 := gz D1
       have Q7 := gz m2
       have Q8 := gz D2
       have Q9 := gz (show Below wr.heap.size wr wr.drew from aX (Below.refl _ _))
       clear ht hu hkk3 hr hrb l1 C1 l2 C2 m1 D1 m2 D2 FX hpr
       have hs1 : IntKind.i64.wrap ((k2 : Int) - 1) = ((k2 - 1 : Nat) : Int) := by rw [dq]; unfold wrap64; omega
       have z0 : (0 : Int) ≤ (k2 : Int) := by omega
       have z1 : (k2 : Int) < ((xs.length - i : Nat) : Int) := by omega
       have z2 : (0 : Int) ≤ ((k2 - 1 : Nat) : Int) := by omega
       have z3 : ((k2 - 1 : Nat) : Int) < ((xs.length - i : Nat) : Int) := by omega
       have z4 : k2 - 1 < xs.length - i := by omega
       have z5 : k2 < xs.length - i := by omega
       go_wp2_with fail
       go_region_held3 (fun w' => w'.cell? ⟨g, i * 3 + k2 * 3, none⟩ = some (.int .i64 t0) ∧ w'.cell? ⟨g, i * 3 + k2 * 3 + 1, none⟩ = some (.slice A1 t1.length c1) ∧ w'.cell? ⟨g, i * 3 + k2 * 3 + 2, none⟩ = some (.slice A2 t2.length c2) ∧ w'.cell? ⟨g, i * 3 + (k2 - 1) * 3, none⟩ = some (.int .i64 u0) ∧ w'.cell? ⟨g, i * 3 + (k2 - 1) * 3 + 1, none⟩ = some (.slice B1 u1.length e1) ∧ w'.cell? ⟨g, i * 3 + (k2 - 1) * 3 + 2, none⟩ = some (.slice B2 u2.length e2)) (go_keep) ((go_at_call 31; refine (cE.calls k t0 A1 c1 t1 A2 c2 t2 u0 B1 e1 u1 B2 e2 u2 _ _ (Kd.C_below Q2.out Q9.out) Q1.out (Kd.C_below Q4.out Q9.out) Q3.out (Kd.C_below Q6.out Q9.out) Q5.out (Kd.C_below Q8.out Q9.out) Q7.out KK.out).mono ?_; rintro ee w1 ⟨rfl, hb⟩; have f0 := (hb.cell (World.block_lt_of_cell? _ _ p0)).trans p0; have f1 := (hb.cell (World.block_lt_of_cell? _ _ p1)).trans p1; have f2 := (hb.cell (World.block_lt_of_cell? _ _ p2)).trans p2; have f3 := (hb.cell (World.block_lt_of_cell? _ _ q0)).trans q0; have f4 := (hb.cell (World.block_lt_of_cell? _ _ q1)).trans q1; have f5 := (hb.cell (World.block_lt_of_cell? _ _ q2)).trans q2))
       have H2 := gz (Kd.N_below (Kd.N_below H.out Q9.out) hb)
       have HG2 := gz (ac.grown_below (ac.grown_below HG.out Q9.out) hb)
       have HF2 := gz (Kd.FK_below (Kd.FK_below HF.out Q9.out) hb)
       clear hb H HG HF KK Q1 Q2 Q3 Q4 Q5 Q6 Q7 Q8 Q9 p0 p1 p2 q0 q1 q2 f3 f4 f5
       cases rb with
       | true =>
        go_wp2
        go_roundg (xs.length - (i + (k2 + 1)))
        case measure => omega
        case rel =>
         refine ⟨kk, k2 + 1, cur, rfl, by go_num, Z8, Z8, Nat.le_refl _, Z8, H2, HG2, ⟨⟨HC.out.1, ?_, HZ.out.1 (beq_iff_eq.1 HRB.out)⟩⟩⟩
         have h1 := congrArg (List.drop 1) HC.out.2.1
         rw [List.drop_drop, List.drop_drop, show i + (k2 - 1) + 1 = i + (k2 + 1 - 1) by omega] at h1
         exact h1
       | false =>
        obtain ⟨c, hcl, _, hcc, hfr⟩ := Kd.N_elem H2.out z25 (kk : Int) Z8 Z8
        obtain ⟨o0, o1, o2, rfl⟩ := ac.len3 hcl
        simp only [Int.toNat_natCast] at hcc hfr
        have g0 : w1.cell? ⟨g, kk * 3, none⟩ = some o0 := hcc 0 _ rfl
        have g1 : w1.cell? ⟨g, kk * 3 + 1, none⟩ = some o1 := hcc 1 _ rfl
        have g2 : w1.cell? ⟨g, kk * 3 + 2, none⟩ = some o2 := hcc 2 _ rfl
        have r0 : w1.frozen? ⟨g, kk * 3, none⟩ = false := hfr 0
        have r1 : w1.frozen? ⟨g, kk * 3 + 1, none⟩ = false := hfr 1
        have r2 : w1.frozen? ⟨g, kk * 3 + 2, none⟩ = false := hfr 2
        have HCC := gz hcc
        have HCL := gz hcl
        clear hcc hfr hcl
        have y0 : (0 : Int) ≤ (kk : Int) := by omega
        have y1 : (kk : Int) < (xs.length : Int) := by omega
        have y2 : kk < xs.length := by omega
        go_wp2
        have hseg := Kd.N_seg H2.out (kk : Int) Z8 Z8 (c := [o0, o1, o2]) (seg := [.int .i64 t0, .slice A1 t1.length c1, .slice A2 t2.length c2]) (j := 0) HCL.out HCC.out (Nat.le_refl 3) HF2.out (fun _ hk => hk)
        have H3 : Kd.N k25 25 (((w1.setCell ⟨g, kk * 3, none⟩ (.int .i64 t0)).setCell ⟨g, kk * 3 + 1, none⟩ (.slice A1 t1.length c1)).setCell ⟨g, kk * 3 + 2, none⟩ (.slice A2 t2.length c2)) base ok (.slice (some ⟨g, 0, none⟩) xs.length cap) (cur.set kk ⟨t0, t1, t2⟩) := hseg.1
        have HG3 : w1.grownBy (((w1.setCell ⟨g, kk * 3, none⟩ (.int .i64 t0)).setCell ⟨g, kk * 3 + 1, none⟩ (.slice A1 t1.length c1)).setCell ⟨g, kk * 3 + 2, none⟩ (.slice A2 t2.length c2)) (some g) := hseg.2
        go_roundg (xs.length - (i + (k2 + 1)))
        case measure => omega
        case rel =>
         refine ⟨kk + 1, k2 + 1, cur.set kk ⟨t0, t1, t2⟩, by go_num, by go_num, Z8, Z8, Nat.le_refl _, Z8, ⟨H3⟩, ⟨World.grownBy.trans HG2.out HG3⟩, ⟨⟨by rw [List.length_set]; exact HC.out.1, ?_, ?_⟩⟩⟩
         ·rw [List.drop_set_of_lt Z8]
          have h1 := congrArg (List.drop 1) HC.out.2.1
          rw [List.drop_drop, List.drop_drop, show i + (k2 - 1) + 1 = i + (k2 + 1 - 1) by omega] at h1
          exact h1
         ·have h1 := HZ.out.2 (beq_eq_false_iff_ne.1 HRB.out)
          rw [ac.take_set _ _ _ (by rw [HC.out.1]; omega)]
          exact h1
      ·have d3 : decide ((k2 : Int) < ((xs.length - i : Nat) : Int)) = false := decide_eq_false Z8
       have hc2 : ¬ cap = kk := by omega
       have HT := Kd.N_take H.out (m := kk) (by rw [HC.out.1]; omega)
       have hcells : ∀ j, j < (xs.length - kk) * 3 → (wr.cell? ⟨g, kk * 3 + j, none⟩).isSome = true ∧ wr.frozen? ⟨g, kk * 3 + j, none⟩ = false := by
        intro j hj
        obtain ⟨c, hcl, _, hcc, hfr⟩ := Kd.N_elem H.out z25 ((kk + j / 3 : Nat) : Int) Z8 Z8
        obtain ⟨o0, o1, o2, rfl⟩ := ac.len3 hcl
        simp only [Int.toNat_natCast] at hcc hfr
        have e : kk * 3 + j = (kk + j / 3) * k25.sz + j % 3 := by
         show kk * 3 + j = (kk + j / 3) * 3 + j % 3
         omega
        rw [e]
        refine ⟨?_, hfr _⟩
        rcases (show j % 3 = 0 ∨ j % 3 = 1 ∨ j % 3 = 2 by omega) with h | h | h <;> rw [h]
        ·rw [hcc 0 _ rfl]; rfl
        ·rw [hcc 1 _ rfl]; rfl
        ·rw [hcc 2 _ rfl]; rfl
       obtain ⟨vs, hvs, hclr⟩ := ac.clear3 (P := Tryz.prog) wr 23 25 _ Tryz.underlying23 Tryz.zeroValue25 (by rfl) Z27 g (kk * 3) (xs.length - kk) (cap - kk) (fun j hj => (hcells j hj).1) (fun j hj => (hcells j hj).2)
       have HV := gz hvs
       have HD3 := HC.out.2.2
       rw [show i + k2 = xs.length by omega, List.drop_length, ac.ddk, List.append_nil] at HD3
       replace HD3 := gz HD3
       have HT := gz HT
       have y0 : (0 : Int) ≤ (kk : Int) := by omega
       have y1 : (kk : Int) ≤ (xs.length : Int) := by omega
       clear hvs hcells
       go_wp2
       go_ret
       have hl := HC.out.1
       have ht := ac.N_tail HT.out (o := kk * 3) (vs := vs) (Nat.le_refl _) (by rw [HV.out]; omega)
       refine ⟨_, rfl, ?_, World.grownBy.trans HG.out ht.2⟩
       rw [← HD3.out]
       exact ht.1
   ·have d2 : decide ((i : Int) < (xs.length : Int)) = false := decide_eq_false Z8
    have e : i = xs.length := by omega
    have HD2 := HD.out
    rw [e, List.take_length, List.drop_length, ac.ddk, List.append_nil] at HD2
    replace HD2 := gz HD2
    go_wp2
    go_ret
    exact ⟨_, rfl, by rw [← HD2.out]; exact H.out, HG.out⟩
structure ac.Tot {α : Type} (c : α → α → Int) (x : α) : Prop where
 swap : ∀ y, c y x = - c x y
 eq : ∀ y, c x y = 0 → x = y
 trans : ∀ y z, c x y < 0 → c y z ≤ 0 → c x z < 0
 small : ∀ y, c x y = -1 ∨ c x y = 0 ∨ c x y = 1
def ac.icmp (a b : Int) : Int := if a < b then -1 else if a > b then 1 else 0
theorem ac.icmp_tot (a : Int) : ac.Tot ac.icmp a := by
 constructor
 ·intro y; unfold ac.icmp; split <;> split <;> (try split) <;> (try split) <;> omega
 ·intro y; unfold ac.icmp; split <;> (try split) <;> omega
 ·intro y z; unfold ac.icmp; intro h1 h2; split at h1 <;> split at h2 <;> (try split at h1) <;> (try split at h2) <;> (try omega)
  all_goals (rw [if_pos Z8]; omega)
 ·intro y; unfold ac.icmp; split <;> (try split) <;> omega
def ac.lex (a b : Int) : Int := if a = 0 then b else a
theorem ac.lex_tot {α β γ : Type} {c : α → α → Int} {d : β → β → Int} (e : γ → γ → Int) (p : γ → α) (q : γ → β) (he : ∀ x y, e x y = ac.lex (c (p x) (p y)) (d (q x) (q y))) (hi : ∀ x y, p x = p y → q x = q y → x = y) (x : γ) (hc : ac.Tot c (p x)) (hd : ac.Tot d (q x)) : ac.Tot e x := by
 have c0 : ∀ y, c (p x) (p y) = 0 → ∀ z, c (p y) z = c (p x) z := fun y h z => by rw [hc.eq _ h]
 constructor
 ·intro y
  rw [he, he]
  unfold ac.lex
  have h1 := hc.swap (p y)
  have h2 := hd.swap (q y)
  split <;> split <;> omega
 ·intro y h
  rw [he] at h
  unfold ac.lex at h
  split at h
  ·rename_i h1
   exact hi _ _ (hc.eq _ h1) (hd.eq _ h)
  ·exact absurd h Z18
 ·intro y z
  rw [he, he, he]
  unfold ac.lex
  intro h1 h2
  by_cases e1 : c (p x) (p y) = 0
  ·rw [if_pos e1] at h1
   have e3 := hc.eq _ e1
   rw [← e3] at h2
   by_cases e2 : c (p x) (p z) = 0
   ·rw [if_pos e2] at h2 ⊢
    exact hd.trans _ _ h1 h2
   ·rw [if_neg e2] at h2 ⊢
    omega
  ·rw [if_neg e1] at h1
   by_cases e2 : c (p y) (p z) = 0
   ·have h3 := hc.trans _ _ h1 (Int.le_of_eq e2)
    rw [if_neg Z8]
    exact h3
   ·rw [if_neg e2] at h2
    have h3 := hc.trans _ _ h1 h2
    rw [if_neg Z8]
    exact h3
 ·intro y
  rw [he]
  unfold ac.lex
  split
  ·exact hd.small _
  ·exact hc.small _
theorem ac.nil_tot {α : Type} (e : List α → List α → Int) (h0 : e [] [] = 0) (h1 : ∀ y l, e [] (y :: l) = -1) (h2 : ∀ y l, e (y :: l) [] = 1) : ac.Tot e [] := by
 constructor
 ·intro y
  cases y with
  | nil => rw [h0]; rfl
  | cons y l => rw [h1, h2]; rfl
 ·intro y h
  cases y with
  | nil => rfl
  | cons y l => rw [h1] at h; exact absurd h Z27
 ·intro y z h h'
  cases y with
  | nil => rw [h0] at h; exact absurd h Z27
  | cons y l =>
   cases z with
   | nil => rw [h2] at h'; exact absurd h' Z27
   | cons z m => rw [h1]; decide
 ·intro y
  cases y with
  | nil => right; left; exact h0
  | cons y l => left; exact h1 _ _
theorem ac.cons_tot {α : Type} (c : α → α → Int) (e : List α → List α → Int) (h1 : ∀ y l, e [] (y :: l) = -1) (h2 : ∀ y l, e (y :: l) [] = 1) (h3 : ∀ x y l m, e (x :: l) (y :: m) = ac.lex (c x y) (e l m)) (x : α) (l : List α) (hx : ac.Tot c x) (hl : ac.Tot e l) : ac.Tot e (x :: l) := by
 constructor
 ·intro y
  cases y with
  | nil => rw [h1, h2]
  | cons y m =>
   rw [h3, h3, hx.swap, hl.swap]
   unfold ac.lex
   split <;> split <;> omega
 ·intro y h
  cases y with
  | nil => rw [h2] at h; exact absurd h Z27
  | cons y m =>
   rw [h3] at h
   unfold ac.lex at h
   split at h
   ·rename_i h4
    rw [hx.eq _ h4, hl.eq _ h]
   ·exact absurd h Z18
 ·intro y z h h'
  cases y with
  | nil => rw [h2] at h; exact absurd h Z27
  | cons y m =>
   cases z with
   | nil => rw [h2] at h'; exact absurd h' Z27
   | cons z n =>
    rw [h3] at h h' ⊢
    unfold ac.lex at h h' ⊢
    by_cases e1 : c x y = 0
    ·rw [if_pos e1] at h
     have e3 := hx.eq _ e1
     subst e3
     by_cases e2 : c x z = 0
     ·rw [if_pos e2] at h' ⊢
      exact hl.trans _ _ h h'
     ·rw [if_neg e2] at h' ⊢
      omega
    ·rw [if_neg e1] at h
     have h4 : c y z ≤ 0 := by split at h' <;> omega
     have h5 := hx.trans _ _ h h4
     rw [if_neg Z8]
     exact h5
 ·intro y
  cases y with
  | nil => right; right; exact h2 _ _
  | cons y m =>
   rw [h3]
   unfold ac.lex
   split
   ·exact hl.small _
   ·exact hx.small _
theorem ac.ord51_tot : ∀ l : List S51, ac.Tot av.ord l
 | [] => ac.nil_tot _ (by rw [av.ord]) (fun y l => by rw [av.ord]) (fun y l => by rw [av.ord])
 | x :: l => ac.cons_tot (fun x y : S51 => ac.lex (ac.icmp x.f0 y.f0) (ac.icmp x.f1 y.f1)) _ (fun y l => by rw [av.ord]) (fun y l => by rw [av.ord]) (fun x y l m => by
   rw [av.ord]
   unfold ac.lex ac.icmp
   split
   ·rfl
   ·split
    ·rfl
    ·split
     ·rfl
     ·split
      ·rfl
      ·rfl) x l (ac.lex_tot (c := ac.icmp) (d := ac.icmp) _ (fun x : S51 => x.f0) (fun x : S51 => x.f1) (fun _ _ => rfl) (fun x y h1 h2 => by cases x; cases y; simp only at h1 h2; rw [h1, h2]) x (ac.icmp_tot _) (ac.icmp_tot _)) (ac.ord51_tot l)
mutual
def ac.ordT : S25 → S25 → Int
 | ⟨a0, a1, a2⟩, y => ac.lex (ac.icmp a0 y.f0) (ac.lex (av.ord a1 y.f1) (ac.ordL a2 y.f2))
def ac.ordL : List S25 → List S25 → Int
 | [], [] => 0
 | [], _ :: _ => -1
 | _ :: _, [] => 1
 | x :: l, y :: m => ac.lex (ac.ordT x y) (ac.ordL l m)
end
theorem ac.ordT_eq (x y : S25) : ac.ordT x y = ac.lex (ac.icmp x.f0 y.f0) (ac.lex (av.ord x.f1 y.f1) (ac.ordL x.f2 y.f2)) := by
 cases x
 rw [ac.ordT]
mutual
theorem ac.ordT_tot : ∀ x : S25, ac.Tot ac.ordT x
 | ⟨a0, a1, a2⟩ => ac.lex_tot (c := ac.icmp) (d := fun x y : List S51 × List S25 => ac.lex (av.ord x.1 y.1) (ac.ordL x.2 y.2)) ac.ordT (fun x => x.f0) (fun x => (x.f1, x.f2)) (fun x y => ac.ordT_eq x y) (fun x y h1 h2 => by cases x; cases y; simp only [Prod.mk.injEq] at h1 h2; rw [h1, h2.1, h2.2]) _ (ac.icmp_tot _)
   (ac.lex_tot (c := av.ord) (d := ac.ordL) _ (fun x => x.1) (fun x => x.2) (fun _ _ => rfl) (fun x y h1 h2 => Prod.ext h1 h2) _ (ac.ord51_tot _) (ac.ordL_tot a2))
theorem ac.ordL_tot : ∀ l : List S25, ac.Tot ac.ordL l
 | [] => ac.nil_tot _ (by rw [ac.ordL]) (fun y l => by rw [ac.ordL]) (fun y l => by rw [ac.ordL])
 | x :: l => ac.cons_tot ac.ordT _ (fun y l => by rw [ac.ordL]) (fun y l => by rw [ac.ordL]) (fun x y l m => by rw [ac.ordL]) x l (ac.ordT_tot x) (ac.ordL_tot l)
end
theorem ac.ordT_swo : Go.Sort.SWO (ltOf ac.ordT) := by
 constructor
 ·intro x
  unfold ltOf
  have := (ac.ordT_tot x).swap x
  exact decide_eq_false Z8
 ·intro x y z h1 h2
  unfold ltOf at h1 h2 ⊢
  have h1 := of_decide_eq_true h1
  have h2 := of_decide_eq_true h2
  exact decide_eq_true ((ac.ordT_tot x).trans y z h1 Z8)
 ·intro x y z h1 h2
  unfold ltOf at h1 h2 ⊢
  have h1 := of_decide_eq_false h1
  have h2 := of_decide_eq_false h2
  refine decide_eq_false (fun h => ?_)
  have h3 := (ac.ordT_tot y).swap z
  have h4 := (ac.ordT_tot x).trans z y h Z8
  exact h1 h4
theorem ac.ordT_self (x : S25) : ac.ordT x x = 0 := by
 have := (ac.ordT_tot x).swap x
 omega
theorem ac.ordT_zero {x y : S25} : ac.ordT x y = 0 ↔ x = y := ⟨(ac.ordT_tot x).eq y, fun h => by rw [h]; exact ac.ordT_self y⟩
def ac.ins (x : S25) : List S25 → List S25
 | [] => [x]
 | y :: l => if ac.ordT y x < 0 then y :: ac.ins x l else x :: y :: l
def ac.isort : List S25 → List S25
 | [] => []
 | x :: l => ac.ins x (ac.isort l)
theorem ac.ins_perm (x : S25) : ∀ l : List S25, (ac.ins x l).Perm (x :: l)
 | [] => List.Perm.refl _
 | y :: l => by
  unfold ac.ins
  split
  ·exact ((ac.ins_perm x l).cons y).trans (List.Perm.swap x y l)
  ·exact List.Perm.refl _
theorem ac.isort_perm : ∀ l : List S25, (ac.isort l).Perm l
 | [] => List.Perm.refl _
 | x :: l => (ac.ins_perm x (ac.isort l)).trans ((ac.isort_perm l).cons x)
def ac.leT (x y : S25) : Prop := ¬ ac.ordT y x < 0
theorem ac.leT_trans {x y z : S25} (h1 : ac.leT x y) (h2 : ac.leT y z) : ac.leT x z := fun h => by
 have h3 := (ac.ordT_tot z).trans x y h (by have := (ac.ordT_tot x).swap y; have := h1; unfold ac.leT at this; omega)
 exact h2 h3
theorem ac.ins_sorted (x : S25) : ∀ l : List S25, l.Pairwise ac.leT → (ac.ins x l).Pairwise ac.leT
 | [], _ => by simp [ac.ins]
 | y :: l, h => by
  unfold ac.ins
  rw [List.pairwise_cons] at h
  split
  ·rename_i hlt
   rw [List.pairwise_cons]
   refine ⟨fun z hz => ?_, ac.ins_sorted x l h.2⟩
   rcases List.mem_cons.1 ((ac.ins_perm x l).mem_iff.1 hz) with rfl | hz
   ·have := (ac.ordT_tot y).swap z
    unfold ac.leT
    omega
   ·exact h.1 z hz
  ·rename_i hlt
   rw [List.pairwise_cons, List.pairwise_cons]
   have hxy : ac.leT x y := hlt
   exact ⟨fun z hz => by
    rcases List.mem_cons.1 hz with rfl | hz
    ·exact hxy
    ·exact ac.leT_trans hxy (h.1 z hz), h.1, h.2⟩
theorem ac.isort_sorted : ∀ l : List S25, (ac.isort l).Pairwise ac.leT
 | [] => List.Pairwise.nil
 | x :: l => ac.ins_sorted x _ (ac.isort_sorted l)
theorem ac.sorted_unique {xs ys : List S25} (hp : ys.Perm xs) (hs : ys.Pairwise ac.leT) : ys = ac.isort xs :=
 List.Perm.eq_of_pairwise (le := ac.leT) (fun a b _ _ h1 h2 => ac.ordT_zero.1 (by
  have := (ac.ordT_tot a).swap b
  unfold ac.leT at h1 h2
  omega)) hs (ac.isort_sorted xs) (hp.trans (ac.isort_perm xs).symm)
def ac.ev25 : S25 := ⟨6, [], [z25]⟩
def ac.outT (a : Int) : S25 := if a = 4 then z25 else ac.ev25
def ac.stopT (a : Int) : S25 := if a = 4 then ac.ev25 else z25
def ac.flatT (a : Int) : List S25 → List S25
 | [] => []
 | x :: l => (if x.f0 = a then x.f2 else [x]) ++ ac.flatT a l
def ac.eqT (k : Nat) (x y : S25) : Option Bool := cE.f k x.f0 x.f1 x.f2 y.f0 y.f1 y.f2
def ac.partT (k : Nat) (stop skip : S25) : List S25 → List (List S51) → List S25 → Option (Option (List (List S51) × List S25))
 | [], ss, rs => some (some (ss, rs))
 | x :: l, ss, rs => (ac.eqT k x stop).bind fun b => if b = true then some none else (ac.eqT k x skip).bind fun b2 => if b2 = true then ac.partT k stop skip l ss rs else if x.f0 = 2 then ac.partT k stop skip l (ss ++ [x.f1]) rs else ac.partT k stop skip l ss (rs ++ [x])
def ac.okT (k : Nat) (rs : List S25) : Prop := ∀ x ∈ rs, ∀ y ∈ rs, aj.f k x.f0 x.f1 x.f2 y.f0 y.f1 y.f2 = some (ac.ordT x y)
instance (k : Nat) (rs : List S25) : Decidable (ac.okT k rs) := by unfold ac.okT; exact inferInstance
def ac.endT (a : Int) : List S25 → Int × List S51 × List S25 × Int
 | [] => ((ac.outT a).f0, (ac.outT a).f1, (ac.outT a).f2, 0)
 | [x] => (x.f0, x.f1, x.f2, 0)
 | l => (a, [], l, 0)
def ac.finT (k : Nat) (a : Int) (rs : List S25) : Option (Int × List S51 × List S25 × Int) := if ac.okT k rs then some (ac.endT a (ac.dd ac.ordT (ac.isort rs))) else none
def ac.setT (k : Nat) (a : Int) (ss : List (List S51)) (rs : List S25) (s : List S51) (e : Int) : Option (Int × List S51 × List S25 × Int) :=
 if e = 0 then (if s = [] then some (0, [], [], 0) else ac.finT k a (rs ++ [⟨2, s, []⟩])) else some (0, [], [], e)
def ac.restT (k : Nat) (a : Int) (ss : List (List S51)) (rs : List S25) : Option (Int × List S51 × List S25 × Int) :=
 if ss = [] then ac.finT k a rs else (cN.f k ss).bind fun u => if a = 5 then (bD.f k ss).bind fun m => ac.setT k a ss rs m.1 m.2 else ac.setT k a ss rs u.1 u.2
def ac.contT (k : Nat) (a0 : Int) : Option (List (List S51) × List S25) → Option (Int × List S51 × List S25 × Int)
 | none => some ((ac.stopT a0).f0, (ac.stopT a0).f1, (ac.stopT a0).f2, 0)
 | some p => ac.restT k a0 p.1 p.2
def ac.f (k : Nat) (a0 : Int) (l1 : List S25) : Option (Int × List S51 × List S25 × Int) :=
 if (ac.flatT a0 l1).length < 2513169434915 then (ac.partT k (ac.stopT a0) (ac.outT a0) (ac.flatT a0 l1) [] []).bind (ac.contT k a0) else none
theorem ac.partT_mono (k : Nat) (stop skip : S25) : ∀ (l : List S25) (ss : List (List S51)) (rs : List S25), LeO (ac.partT k stop skip l ss rs) (ac.partT (k + 1) stop skip l ss rs)
 | [], ss, rs => by unfold ac.partT; exact LeO.refl _
 | x :: l, ss, rs => by
  unfold ac.partT
  refine LeO.bind (cE.mono _ _ _ _ _ _ _) (fun b => LeO.ite (LeO.refl _) (LeO.bind (cE.mono _ _ _ _ _ _ _) (fun b2 => LeO.ite (ac.partT_mono k stop skip l _ _) (LeO.ite (ac.partT_mono k stop skip l _ _) (ac.partT_mono k stop skip l _ _)))))
theorem ac.okT_mono {k : Nat} {rs : List S25} (h : ac.okT k rs) : ac.okT (k + 1) rs := fun x hx y hy => aj.mono _ _ _ _ _ _ _ _ (h x hx y hy)
theorem ac.finT_mono (k : Nat) (a : Int) (rs : List S25) : LeO (ac.finT k a rs) (ac.finT (k + 1) a rs) := by
 unfold ac.finT
 intro r hr
 by_cases h : ac.okT k rs
 ·rw [if_pos h] at hr
  rw [if_pos (ac.okT_mono h)]
  exact hr
 ·rw [if_neg h] at hr
  cases hr
theorem ac.setT_mono (k : Nat) (a : Int) (ss : List (List S51)) (rs : List S25) (s : List S51) (e : Int) : LeO (ac.setT k a ss rs s e) (ac.setT (k + 1) a ss rs s e) := by
 unfold ac.setT
 exact LeO.ite (LeO.ite (LeO.refl _) (ac.finT_mono _ _ _)) (LeO.refl _)
theorem ac.restT_mono (k : Nat) (a : Int) (ss : List (List S51)) (rs : List S25) : LeO (ac.restT k a ss rs) (ac.restT (k + 1) a ss rs) := by
 unfold ac.restT
 exact LeO.ite (ac.finT_mono _ _ _) (LeO.bind (cN.mono _ _) (fun u => LeO.ite (LeO.bind (bD.mono _ _) (fun m => ac.setT_mono _ _ _ _ _ _)) (ac.setT_mono _ _ _ _ _ _)))
def ac.RowE {α : Type} (d : Kd α) (e : Nat) (W0 W : World) (B : Nat) (E : Nat → Prop) (v : Value) (xs : List α) : Prop :=
 ∃ rows : List (List Value), rows.length = xs.length ∧ (Kd.raw d.sz).R e W B (fun _ => True) v rows ∧ ∀ (j : Nat) (x : α) (c : List Value), xs[j]? = some x → rows[j]? = some c → Kd.FK d W0 E x c
section
variable {α : Type} {d : Kd α} {e B : Nat} {W0 W W1 : World} {E : Nat → Prop} {v : Value} {xs : List α}
theorem ac.RowE.nil (d : Kd α) (e : Nat) (W0 W : World) (B : Nat) (E : Nat → Prop) : ac.RowE d e W0 W B E (.slice none 0 0) [] :=
 ⟨[], rfl, Kd.R_nil _ _ _ _ _, fun j x c hx => by simp at hx⟩
theorem ac.RowE.step (h : ac.RowE d e W0 W B E v xs) (hm : ∀ k, v.ownBlock = some k → k < W.heap.size → W1.heap[k]? = W.heap[k]?) : ac.RowE d e W0 W1 B E v xs := by
 obtain ⟨rows, hl, hR, hf⟩ := h
 exact ⟨rows, hl, Kd.R_mono (Kd.R_step (Kd.raw_tight hR) (fun k hk hlt => hm k hk.symm hlt)) (fun _ _ => trivial), hf⟩
theorem ac.RowE.below (h : ac.RowE d e W0 W B E v xs) (hb : Below W.heap.size W W1) : ac.RowE d e W0 W1 B E v xs := h.step (fun k _ hlt => hb.block k hlt)
theorem ac.RowE.base (h : ac.RowE d e W0 W B E v xs) : ∀ k, v.ownBlock = some k → B ≤ k := by
 obtain ⟨rows, hl, hR, hf⟩ := h
 exact Kd.R_base hR
theorem ac.RowE.lt (h : ac.RowE d e W0 W B E v xs) : ∀ k, v.ownBlock = some k → k < W.heap.size := by
 obtain ⟨rows, hl, hR, hf⟩ := h
 exact Kd.R_lt hR
theorem ac.RowE.typed (h : ac.RowE d e W0 W B E v xs) : ∀ k, v.ownBlock = some k → ∃ cells, W.heap[k]? = some (.cells cells e (0, 0)) := by
 obtain ⟨rows, hl, hR, hf⟩ := h
 exact Kd.R_typed hR
theorem ac.RowE.slice (h : ac.RowE d e W0 W B E v xs) : ∃ A c, v = .slice A xs.length c := by
 obtain ⟨rows, hl, hR, hf⟩ := h
 obtain ⟨A, c, he⟩ := Kd.R_slice hR
 exact ⟨A, c, by rw [he, hl]⟩
theorem ac.RowE.grown (h : ac.RowE d e W0 W B E v xs) {row : Option Nat} (hg : W.grownBy W1 row) (hne : ∀ k, v.ownBlock = some k → some k ≠ row) : ac.RowE d e W0 W1 B E v xs := h.step (fun k hk hlt => hg.block k hlt (hne k hk))
theorem ac.RowE.toN (h : ac.RowE d e W0 W B E v xs) (hE : ∀ k, E k → k < W0.heap.size) (hEB : ∀ k, E k → k < B) (hm : ∀ k, E k → W.heap[k]? = W0.heap[k]?) : Kd.N d e W B (fun k => E k ∨ B ≤ k) v xs := by
 have hb := h.base
 obtain ⟨rows, hl, hR, hf⟩ := h
 exact ⟨fun k hk => .inr (hb k hk), rows, hl, Kd.raw_tight hR, fun j x c hx hc => Kd.FK_mono (Kd.FK_step (hf j x c hx hc) (fun k hk _ => hm k hk)) (fun k hk => ⟨.inl hk, fun he => by have h1 := hb k he.symm; have h2 := hEB k hk; omega⟩)⟩
end
section
variable {P : Program} {ops : Array Oper} {rest : List Oper} {o : Oper} {a : Act} {Q : Exit → Act → World → Prop} {α : Type}
theorem ac.RowE_append (d : Kd α) {W0 w0 W : World} (base : Nat) (hgd : o.guard = none) (s x : Operand) (t e : TypeId) (z : Value) (bytes : Nat)
  (ho : o.op = .call { callee := .builtin .append, args := #[s, x], argTypes := #[t, t] })
  (ht : P.underlying t = some (.slice e)) (hinfo : (P.info? e).map (fun i => (i.zero, i.size, i.bytes)) = some (some z, d.sz, bytes)) (hz : z.cells.size = d.sz) (hs0 : 0 < d.sz) (hb0 : 0 < bytes)
  (v : Value) (xs : List α) (p : α) (cs : List Value) (E : Nat → Prop) (hs : a.eval s = v) (hx : a.eval x = .slice (some ⟨W.heap.size, 0, none⟩) 1 1) (hp : Kd.FK d W0 E p cs)
  (HO : ac.RowE d e W0 W base E v xs) (HB : Below base w0 W) (hbase : base ≤ W.heap.size) (hl : (xs.length + 1) * bytes ≤ 140737488355328)
  (h : ∀ v1 w1, ac.RowE d e W0 w1 base E v1 (xs ++ [p]) → Below base w0 w1 → W.grownBy w1 v.ownBlock → (v1.ownBlock = v.ownBlock ∨ ∃ b, v1.ownBlock = some b ∧ W.heap.size ≤ b) → wpList P ops Q rest (a.put o.dst v1) w1) :
  wpList P ops Q (o :: rest) a (W.alloc (.cells cs.toArray e)) := by
 obtain ⟨rows, hlr, hR, hf⟩ := HO
 refine Kd.R_append (Kd.raw d.sz) base hgd s x t e z bytes ho ht hinfo hz hs0 hb0 v rows cs cs (fun _ => True) (fun _ => False) hs hx (Kd.FK_raw hp) (fun _ hk => hk.elim) (fun _ _ => trivial) hR HB hbase (by rw [hlr]; exact hl) ?_
 intro v1 w1 hr hb hg hat
 refine h v1 w1 ⟨rows ++ [cs], by rw [List.length_append, List.length_append, hlr]; rfl, hr, fun j y c hy hc => ?_⟩ hb hg hat
 rcases Nat.lt_or_ge j xs.length with hlt | hge
 ·rw [List.getElem?_append_left hlt] at hy
  rw [List.getElem?_append_left Z8] at hc
  exact hf j y c hy hc
 ·rw [List.getElem?_append_right hge] at hy
  rw [List.getElem?_append_right Z8, hlr] at hc
  rcases h0 : j - xs.length with _ | i
  ·rw [h0] at hy hc
   simp only [List.getElem?_cons_zero, Option.some.injEq] at hy hc
   rw [← hy, ← hc]; exact hp
  ·rw [h0] at hy
   simp at hy
theorem ac.RowE_append_rows (d : Kd α) {W0 w0 W : World} (base : Nat) (hgd : o.guard = none) (s x : Operand) (t e : TypeId) (z : Value) (bytes : Nat)
  (ho : o.op = .call { callee := .builtin .append, args := #[s, x], argTypes := #[t, t] })
  (ht : P.underlying t = some (.slice e)) (hinfo : (P.info? e).map (fun i => (i.zero, i.size, i.bytes)) = some (some z, d.sz, bytes)) (hz : z.cells.size = d.sz) (hs0 : 0 < d.sz) (hb0 : 0 < bytes)
  (v : Value) (xs ys : List α) (A : Option Addr) (m c : Nat) (E : Nat → Prop) (hs : a.eval s = v) (hx : a.eval x = .slice A m c) (hF : Kd.F d W0 E A m ys) (hE : ∀ k, E k → k < W0.heap.size) (hm : ∀ k, E k → W.heap[k]? = W0.heap[k]?)
  (HO : ac.RowE d e W0 W base E v xs) (HB : Below base w0 W) (hbase : base ≤ W.heap.size) (hl : (xs.length + m) * bytes ≤ 140737488355328)
  (h : ∀ v1 w1, ac.RowE d e W0 w1 base E v1 (xs ++ ys) → Below base w0 w1 → W.grownBy w1 v.ownBlock → (v1.ownBlock = v.ownBlock ∨ ∃ b, v1.ownBlock = some b ∧ W.heap.size ≤ b) → wpList P ops Q rest (a.put o.dst v1) w1) :
  wpList P ops Q (o :: rest) a W := by
 obtain ⟨rows, hlr, hR, hf⟩ := HO
 have hrows0 := Kd.F_rows hF
 obtain ⟨news, hln, hrd, hfn⟩ := Kd.reads_raw (Kd.F_rows (Kd.F_step hF (W1 := W) (fun k hk _ => hm k hk))) (fun x c hq => ⟨d.K_len (Kd.FK_now hq), d.K_one (Kd.FK_now hq)⟩)
 refine Kd.R_append_rows (Kd.raw d.sz) (Rr := fun x cs => cs = x ∧ cs.length = d.sz ∧ ∀ u ∈ cs, u.oneCell' = true) base hgd s x t e z bytes ho ht hinfo hz hs0 hb0 v rows news A m c (fun _ => True) (fun _ => False) hs hx hR hrd (fun x cs h => h) (fun _ hk => hk.elim) (fun _ _ => trivial) HB hbase (by rw [hlr]; exact hl) ?_
 intro v1 w1 hr hb hg hat
 refine h v1 w1 ⟨rows ++ news, by rw [List.length_append, List.length_append, hlr, hln], hr, fun j y c hy hc => ?_⟩ hb hg hat
 rcases Nat.lt_or_ge j xs.length with hlt | hge
 ·rw [List.getElem?_append_left hlt] at hy
  rw [List.getElem?_append_left Z8] at hc
  exact hf j y c hy hc
 ·rw [List.getElem?_append_right hge] at hy
  rw [List.getElem?_append_right Z8, hlr] at hc
  exact Kd.FK_step (hfn _ y c hy hc) (fun k hk _ => (hm k hk).symm)
end
theorem ac.noneF (w : World) : Calls Tryz.prog 34 #[] w fun e w' => ∃ A1 c1 A2 c2, e = .returned (.agg #[.int .i64 0, .slice A1 0 c1, .slice A2 0 c2]) ∧ Kd.FK k25 w' (fun k => w.heap.size ≤ k) z25 [.int .i64 0, .slice A1 0 c1, .slice A2 0 c2] ∧ Below w.heap.size w w' := by
 refine (cS.calls rfl).mono ?_
 rintro e w' ⟨v1, v2, rfl, h1, h2, hb⟩
 obtain ⟨A1, c1, rfl⟩ := Kd.R_slice h1
 obtain ⟨A2, c2, rfl⟩ := Kd.R_slice h2
 exact ⟨A1, c1, A2, c2, rfl, bP _ _ z25 (Nat.zero_le _) (ae.F_zero _ _ _ _) (Nat.zero_le _) (ae.F_zero _ _ _ _), hb⟩
theorem ac.everyF (w : World) : Calls Tryz.prog 92 #[] w fun e w' => ∃ A1 c1 A2 c2, e = .returned (.agg #[.int .i64 6, .slice A1 0 c1, .slice A2 1 c2]) ∧ Kd.FK k25 w' (fun k => w.heap.size ≤ k) ac.ev25 [.int .i64 6, .slice A1 0 c1, .slice A2 1 c2] ∧ Below w.heap.size w w' := by
 refine (regex_every.calls rfl).mono ?_
 rintro e w' ⟨v1, v2, rfl, h1, h2, hb⟩
 obtain ⟨A1, c1, rfl⟩ := Kd.R_slice h1
 obtain ⟨A2, c2, rfl⟩ := Kd.N_slice h2
 have h3 := Kd.N_V (base' := 0) h2
 exact ⟨A1, c1, A2, c2, rfl, bP _ _ ac.ev25 (Nat.zero_le _) (ae.F_zero _ _ _ _) (Kd.V_at h3).2.1 (Kd.F_mono (Kd.V_F h3) (fun k hk => hk.1)), hb⟩
structure ac.Head (a0 : Int) (w X : World) (m : Nat) : Prop where
 low : w.heap.size < m
 big : m + 3 ≤ X.heap.size
 b4 : X.heap[w.heap.size]? = some (.cells #[.int .i64 0, .slice none 0 0, .slice none 0 0] 25 (0, 0))
 below : Below w.heap.size w X
structure ac.Lies (X : World) (Fr : Nat → Prop) (g : Nat) (t : S25) (v1 v2 : Value) : Prop where
 blk : X.heap[g]? = some (.cells #[.int .i64 t.f0, v1, v2] 25 (0, 0))
 fk : Kd.FK k25 X Fr t [.int .i64 t.f0, v1, v2]
def ac.FrM (w : World) (m : Nat) (k : Nat) : Prop := (w.heap.size + 1 ≤ k ∧ k < m) ∨ m + 3 ≤ k
theorem ac.Lies.step {X Y : World} {Fr : Nat → Prop} {g : Nat} {t : S25} {v1 v2 : Value} (h : ac.Lies X Fr g t v1 v2) (hb : Below X.heap.size X Y) : ac.Lies Y Fr g t v1 v2 := ⟨ao h.blk hb, Kd.FK_below h.fk hb⟩
theorem ac.Lies.far {X : World} {Fr : Nat → Prop} {g g' : Nat} {t : S25} {v1 v2 : Value} (h : ac.Lies X Fr g t v1 v2) (hg : g ≠ g') (hF : ¬ Fr g') (x y z : Value) : ac.Lies (ae.set3 X g' x y z) Fr g t v1 v2 :=
 ⟨(ae.set3_far X g' x y z g hg).trans h.blk, Kd.FK_step h.fk (fun k hk _ => ae.set3_far X g' x y z k (fun e => hF (e ▸ hk)))⟩
theorem ac.Lies.put {X : World} {Fr : Nat → Prop} {g : Nat} {t t' : S25} {v1 v2 u1 u2 : Value} (h : ac.Lies X Fr g t v1 v2) (hF : ¬ Fr g) (hf : Kd.FK k25 X Fr t' [.int .i64 t'.f0, u1, u2]) : ac.Lies (ae.set3 X g (.int .i64 t'.f0) u1 u2) Fr g t' u1 u2 :=
 ⟨ae.set3_at _ _ _ h.blk, Kd.FK_step hf (fun k hk _ => ae.set3_far X g _ _ _ k (fun e => hF (e ▸ hk)))⟩
theorem ac.Head.step {a0 : Int} {w X Y : World} {m : Nat} (h : ac.Head a0 w X m) (hb : Below X.heap.size X Y) : ac.Head a0 w Y m := ⟨h.low, Nat.le_trans h.big hb.size, ao h.b4 hb, ai h.below hb⟩
theorem ac.Head.put {a0 : Int} {w X : World} {m g : Nat} (h : ac.Head a0 w X m) (hg : m ≤ g) (x y z : Value) : ac.Head a0 w (ae.set3 X g x y z) m :=
 ⟨h.low, by simpa [ae.set3, World.setCell] using h.big, (ae.set3_far X g x y z _ (by have := h.low; omega)).trans h.b4, ae.set3_below h.below (by have := h.low; omega) x y z⟩
theorem ac.flatT_append (a : Int) : ∀ l m : List S25, ac.flatT a (l ++ m) = ac.flatT a l ++ ac.flatT a m
 | [], m => rfl
 | x :: l, m => by
  rw [List.cons_append, ac.flatT, ac.flatT, ac.flatT_append a l m, List.append_assoc]
theorem ac.flatT_at (a : Int) (l : List S25) (i : Nat) (h : i < l.length) : ac.flatT a (l.take (i + 1)) = ac.flatT a (l.take i) ++ (if (l.getD i z25).f0 = a then (l.getD i z25).f2 else [l.getD i z25]) := by
 rw [ae.take_at l i h, ac.flatT_append, ac.flatT, ac.flatT, List.append_nil]
theorem ac.flatT_le (a : Int) (l : List S25) (i : Nat) : (ac.flatT a (l.take i)).length ≤ (ac.flatT a l).length := by
 have h := ac.flatT_append a (l.take i) (l.drop i)
 rw [List.take_append_drop] at h
 rw [h, List.length_append]
 omega
theorem ac.RowE_at3 {W0 W : World} {B : Nat} {E : Nat → Prop} {v : Value} {xs : List S25} (h : ac.RowE k25 25 W0 W B E v xs) (i : Nat) (h1 : i < xs.length) :
  ∃ g cap A1 c1 A2 c2, v = .slice (some ⟨g, 0, none⟩) xs.length cap ∧ W.cell? ⟨g, i * 3, none⟩ = some (.int .i64 (xs.getD i z25).f0) ∧ W.cell? ⟨g, i * 3 + 1, none⟩ = some (.slice A1 (xs.getD i z25).f1.length c1) ∧ W.cell? ⟨g, i * 3 + 2, none⟩ = some (.slice A2 (xs.getD i z25).f2.length c2) ∧ (xs.getD i z25).f1.length ≤ c1 ∧ Kd.F k51 W0 E A1 (xs.getD i z25).f1.length (xs.getD i z25).f1 ∧ (xs.getD i z25).f2.length ≤ c2 ∧ Kd.F k25 W0 E A2 (xs.getD i z25).f2.length (xs.getD i z25).f2 := by
 obtain ⟨rows, hl, hR, hf⟩ := h
 obtain ⟨g, cap, rfl, _, _, _⟩ := Kd.R_form hR Z8
 obtain ⟨c, hcl, hM, hcc, _⟩ := Kd.R_elem hR [] (i : Int) Z8 Z8
 simp only [Int.toNat_natCast] at hM hcc
 have hil : i < rows.length := by omega
 have hc : c = rows[i] := by
  have h2 := hM.1
  rwa [List.getD_eq_getElem?_getD, List.getElem?_eq_getElem hil] at h2
 have hx : xs[i]? = some (xs.getD i z25) := by rw [List.getD_eq_getElem?_getD, List.getElem?_eq_getElem h1]; rfl
 have hF := hf i _ c hx (by rw [hc]; exact List.getElem?_eq_getElem hil)
 obtain ⟨A1, c1, A2, c2, rfl, l1, g1, l2, g2⟩ := dZ hF
 exact ⟨g, cap, A1, c1, A2, c2, by rw [hl], hcc 0 _ rfl, hcc 1 _ rfl, hcc 2 _ rfl, l1, g1, l2, g2⟩
theorem ac.Head.fin {a0 : Int} {w X : World} {m : Nat} {G P1_ : Nat → Prop} {t : S25} {A1 A2 : Option Addr} {c1 c2 : Nat} (h : ac.Head a0 w X m) (hf : Kd.FK k25 X G t [.int .i64 t.f0, .slice A1 t.f1.length c1, .slice A2 t.f2.length c2]) (hG : ¬ G w.heap.size) (hGP : ∀ k, G k → P1_ k ∨ w.heap.size ≤ k) :
  (ae.set3 X w.heap.size (.int .i64 t.f0) (.slice A1 t.f1.length c1) (.slice A2 t.f2.length c2)).heap[w.heap.size]? = some (.cells #[.int .i64 t.f0, .slice A1 t.f1.length c1, .slice A2 t.f2.length c2] 25 (0, 0)) ∧
  Kd.V k51 51 (ae.set3 X w.heap.size (.int .i64 t.f0) (.slice A1 t.f1.length c1) (.slice A2 t.f2.length c2)) w.heap.size (fun k_ => P1_ k_ ∨ w.heap.size ≤ k_) (.slice A1 t.f1.length c1) t.f1 ∧
  Kd.V k25 25 (ae.set3 X w.heap.size (.int .i64 t.f0) (.slice A1 t.f1.length c1) (.slice A2 t.f2.length c2)) w.heap.size (fun k_ => P1_ k_ ∨ w.heap.size ≤ k_) (.slice A2 t.f2.length c2) t.f2 ∧ Below w.heap.size w (ae.set3 X w.heap.size (.int .i64 t.f0) (.slice A1 t.f1.length c1) (.slice A2 t.f2.length c2)) := by
 have hf2 := Kd.FK_mono (Kd.FK_step hf (W1 := ae.set3 X w.heap.size (.int .i64 t.f0) (.slice A1 t.f1.length c1) (.slice A2 t.f2.length c2)) (fun k hk _ => ae.set3_far X _ _ _ _ k (fun e => hG (e ▸ hk)))) hGP
 obtain ⟨B1, d1, B2, d2, he, n1, f1, n2, f2⟩ := dZ hf2
 simp only [List.cons.injEq, Value.slice.injEq, and_true, true_and] at he
 obtain ⟨⟨rfl, rfl⟩, rfl, rfl⟩ := he
 exact ⟨ae.set3_at _ _ _ h.b4, Kd.V_mk n1 f1, Kd.V_mk n2 f2, ae.set3_below h.below (Nat.le_refl _) _ _ _⟩
theorem ac.calls (k : Nat) (a0 : Int) (P1_ : Nat → Prop) (A1 : Option Addr) (c1 : Nat) (l1 : List S25) (r1 : Int) (r2 : List S51) (r3 : List S25) (r4 : Int) (w : World) (hs1 : Kd.V k25 25 w w.heap.size (fun k_ => P1_ k_) (.slice A1 l1.length c1) l1) (h : ac.f k a0 l1 = some (r1, r2, r3, r4)) :
  Calls Tryz.prog 78 #[.int .i64 a0, .slice A1 l1.length c1] w fun e w' => ∃ v1_ v2_ : Value, e = .returned (.tuple #[.agg #[.int .i64 r1, v1_, v2_], .int .i64 r4]) ∧ Kd.V k51 51 w' w.heap.size (fun k_ => (P1_ k_ ∨ w.heap.size ≤ k_)) v1_ r2 ∧ Kd.V k25 25 w' w.heap.size (fun k_ => (P1_ k_ ∨ w.heap.size ≤ k_)) v2_ r3 ∧ Below w.heap.size w w' := by
 have HV := gz (Kd.V_bound hs1)
 have HF := gz h
 have HB := gz (Below.refl w.heap.size w)
 clear hs1 h
 go_enter Tryz.func78, Tryz.ntmps78
 go_wp2_with fail
 refine (ac.everyF _).mono ?_
 rintro e1 wA ⟨Xa1, xa1, Xa2, xa2, rfl, fa, ba⟩
 go_wp2_with fail
 refine (ac.everyF _).mono ?_
 rintro e2 wB ⟨Xb1, xb1, Xb2, xb2, rfl, fb, bb⟩
 go_wp2_with fail
 refine (ac.noneF _).mono ?_
 rintro e3 wC ⟨Xc1, xc1, Xc2, xc2, rfl, fc, bc⟩
 go_upto_if 22 with fail
 (try simp only [Act.put, List.setIfInBounds_toArray, List.set_cons_zero, List.set_cons_succ])
 have HH := gz (show ac.Head a0 w (((wC.alloc (.cells #[.int .i64 6, .slice Xa1 0 xa1, .slice Xa2 1 xa2] 25)).alloc (.cells #[.int .i64 6, .slice Xb1 0 xb1, .slice Xb2 1 xb2] 25)).alloc (.cells #[.int .i64 0, .slice Xc1 0 xc1, .slice Xc2 0 xc2] 25)) wC.heap.size ∧ ac.Lies (((wC.alloc (.cells #[.int .i64 6, .slice Xa1 0 xa1, .slice Xa2 1 xa2] 25)).alloc (.cells #[.int .i64 6, .slice Xb1 0 xb1, .slice Xb2 1 xb2] 25)).alloc (.cells #[.int .i64 0, .slice Xc1 0 xc1, .slice Xc2 0 xc2] 25)) (ac.FrM w wC.heap.size) wC.heap.size ac.ev25 (.slice Xa1 0 xa1) (.slice Xa2 1 xa2) ∧ ac.Lies (((wC.alloc (.cells #[.int .i64 6, .slice Xa1 0 xa1, .slice Xa2 1 xa2] 25)).alloc (.cells #[.int .i64 6, .slice Xb1 0 xb1, .slice Xb2 1 xb2] 25)).alloc (.cells #[.int .i64 0, .slice Xc1 0 xc1, .slice Xc2 0 xc2] 25)) (ac.FrM w wC.heap.size) (wC.heap.size + 1) ac.ev25 (.slice Xb1 0 xb1) (.slice Xb2 1 xb2) ∧ ac.Lies (((wC.alloc (.cells #[.int .i64 6, .slice Xa1 0 xa1, .slice Xa2 1 xa2] 25)).alloc (.cells #[.int .i64 6, .slice Xb1 0 xb1, .slice Xb2 1 xb2] 25)).alloc (.cells #[.int .i64 0, .slice Xc1 0 xc1, .slice Xc2 0 xc2] 25)) (ac.FrM w wC.heap.size) (wC.heap.size + 1 + 1) z25 (.slice Xc1 0 xc1) (.slice Xc2 0 xc2) from by
  have hsz0 : (w.alloc (.cells #[.int .i64 0, .slice none 0 0, .slice none 0 0] 25)).heap.size = w.heap.size + 1 := Array.size_push _
  have B4 := a8 w (.cells #[.int .i64 0, .slice none 0 0, .slice none 0 0] 25)
  have L0 : Below w.heap.size w (w.alloc (.cells #[.int .i64 0, .slice none 0 0, .slice none 0 0] 25)) := ak (Below.refl _ _) _
  generalize w.alloc (.cells #[.int .i64 0, .slice none 0 0, .slice none 0 0] 25) = wz at hsz0 B4 L0 fa ba
  have s1 := ba.size
  have s2 := bb.size
  have s3 := bc.size
  have L1 := ai (ai (ai L0 ba) bb) bc
  have B4c := ao (ao (ao B4 ba) bb) bc
  have F1 := Kd.FK_below (Kd.FK_below (Kd.FK_bound fa) bb) bc
  have F2 := Kd.FK_below (Kd.FK_bound fb) bc
  have F3 := Kd.FK_bound fc
  have G1 : Kd.FK k25 wC (ac.FrM w wC.heap.size) ac.ev25 _ := Kd.FK_mono F1 (fun k hk => .inl ⟨by have := hk.1; omega, Z29⟩)
  have G2 : Kd.FK k25 wC (ac.FrM w wC.heap.size) ac.ev25 _ := Kd.FK_mono F2 (fun k hk => .inl ⟨by have := hk.1; omega, Z29⟩)
  have G3 : Kd.FK k25 wC (ac.FrM w wC.heap.size) z25 _ := Kd.FK_mono F3 (fun k hk => .inl ⟨by have := hk.1; omega, Z29⟩)
  clear F1 F2 F3 fa fb fc
  have hsz1 : ((wC.alloc (Obj.cells #[.int .i64 6, .slice Xa1 0 xa1, .slice Xa2 1 xa2] 25)).heap.size) = wC.heap.size + 1 := Array.size_push _
  have hsz2 : (((wC.alloc (Obj.cells #[.int .i64 6, .slice Xa1 0 xa1, .slice Xa2 1 xa2] 25)).alloc (Obj.cells #[.int .i64 6, .slice Xb1 0 xb1, .slice Xb2 1 xb2] 25)).heap.size) = wC.heap.size + 1 + 1 := (Array.size_push _).trans (by rw [hsz1])
  have hsz3 : ((((wC.alloc (Obj.cells #[.int .i64 6, .slice Xa1 0 xa1, .slice Xa2 1 xa2] 25)).alloc (Obj.cells #[.int .i64 6, .slice Xb1 0 xb1, .slice Xb2 1 xb2] 25)).alloc (Obj.cells #[.int .i64 0, .slice Xc1 0 xc1, .slice Xc2 0 xc2] 25)).heap.size) = wC.heap.size + 1 + 1 + 1 := (Array.size_push _).trans (by rw [hsz2])
  have B6 := a8 wC (.cells #[.int .i64 6, .slice Xa1 0 xa1, .slice Xa2 1 xa2] 25)
  have B7 := a8 (wC.alloc (.cells #[.int .i64 6, .slice Xa1 0 xa1, .slice Xa2 1 xa2] 25)) (.cells #[.int .i64 6, .slice Xb1 0 xb1, .slice Xb2 1 xb2] 25)
  have B8 := a8 ((wC.alloc (.cells #[.int .i64 6, .slice Xa1 0 xa1, .slice Xa2 1 xa2] 25)).alloc (.cells #[.int .i64 6, .slice Xb1 0 xb1, .slice Xb2 1 xb2] 25)) (.cells #[.int .i64 0, .slice Xc1 0 xc1, .slice Xc2 0 xc2] 25)
  rw [hsz1] at B7
  rw [hsz2] at B8
  have LX : Below wC.heap.size wC (((wC.alloc (.cells #[.int .i64 6, .slice Xa1 0 xa1, .slice Xa2 1 xa2] 25)).alloc (.cells #[.int .i64 6, .slice Xb1 0 xb1, .slice Xb2 1 xb2] 25)).alloc (.cells #[.int .i64 0, .slice Xc1 0 xc1, .slice Xc2 0 xc2] 25)) := ak (ak (ak (Below.refl _ _) _) _) _
  exact ⟨⟨Z8, by rw [hsz3]; omega, ao B4c LX, ai L1 LX⟩, ⟨au (au B6 _) _, Kd.FK_below G1 LX⟩, ⟨au B7 _, Kd.FK_below G2 LX⟩, ⟨B8, Kd.FK_below G3 LX⟩⟩)
 clear fa fb fc ba bb bc HB
 generalize (((wC.alloc (.cells #[.int .i64 6, .slice Xa1 0 xa1, .slice Xa2 1 xa2] 25)).alloc (.cells #[.int .i64 6, .slice Xb1 0 xb1, .slice Xb2 1 xb2] 25)).alloc (.cells #[.int .i64 0, .slice Xc1 0 xc1, .slice Xc2 0 xc2] 25)) = X at HH ⊢
 generalize wC.heap.size = m at HH ⊢
 have p1 := gz HH.out.1
 have p2 := gz HH.out.2.1
 have p3 := gz HH.out.2.2.1
 have p4 := gz HH.out.2.2.2
 clear HH
 go_cut [] (fun wc => ∃ o1 o2 p1 p2 q1 q2 : Value, aa (ac.Head a0 w wc m) ∧ aa (ac.Lies wc (ac.FrM w m) m (ac.outT a0) o1 o2) ∧ aa (ac.Lies wc (ac.FrM w m) (m + 1) (ac.stopT a0) p1 p2) ∧ aa (ac.Lies wc (ac.FrM w m) (m + 1 + 1) (ac.outT a0) q1 q2))
 case first =>
  have N1 : ¬ ac.FrM w m m := by unfold ac.FrM; omega
  have N2 : ¬ ac.FrM w m (m + 1) := by unfold ac.FrM; omega
  have N3 : ¬ ac.FrM w m (m + 1 + 1) := by unfold ac.FrM; omega
  by_cases ha : a0 = 4
  ·have ha1 : (a0 == 4) = true := beq_iff_eq.mpr ha
   replace ha := gz ha
   go_wp2_with fail
   refine (ac.noneF _).mono ?_
   rintro e4 wD ⟨Xd1, xd1, Xd2, xd2, rfl, fd, bd⟩
   have n1 := gz (p1.out.step bd)
   have n2 := gz (p2.out.step bd)
   have n3 := gz (p3.out.step bd)
   have n4 := gz (p4.out.step bd)
   have FD := gz (show Kd.FK k25 wD (ac.FrM w m) z25 _ from Kd.FK_mono fd (fun k hk => .inr (by have := p1.out.big; omega)))
   have g0 := (ah n2.out.blk 0).trans rfl
   have g1 := (ah n2.out.blk 1).trans rfl
   have g2 := (ah n2.out.blk 2).trans rfl
   have h0 := ag n2.out.blk 0
   have h1 := ag n2.out.blk 1
   have h2 := ag n2.out.blk 2
   clear fd bd p1 p2 p3 p4
   go_wp2
   go_meet
   case rel =>
    have eo : ac.outT a0 = z25 := if_pos ha.out
    have es : ac.stopT a0 = ac.ev25 := if_pos ha.out
    rw [eo, es]
    exact ⟨_, _, _, _, _, _, ⟨n1.out.put (Nat.le_refl _) (.int .i64 0) (.slice Xd1 0 xd1) (.slice Xd2 0 xd2)⟩, ⟨n2.out.put (t' := z25) N1 FD.out⟩, ⟨n3.out.far Z8 N1 _ _ _⟩, ⟨n4.out.far Z8 N1 _ _ _⟩⟩
  ·have ha1 : (a0 == 4) = false := beq_eq_false_iff_ne.mpr ha
   replace ha := gz ha
   go_wp2_with fail
   refine (ac.noneF _).mono ?_
   rintro e4 wD ⟨Xd1, xd1, Xd2, xd2, rfl, fd, bd⟩
   have n1 := gz (p1.out.step bd)
   have n2 := gz (p2.out.step bd)
   have n3 := gz (p3.out.step bd)
   have n4 := gz (p4.out.step bd)
   have FD := gz (show Kd.FK k25 wD (ac.FrM w m) z25 _ from Kd.FK_mono fd (fun k hk => .inr (by have := p1.out.big; omega)))
   clear fd bd p1 p2 p3 p4
   go_wp2_with fail
   refine (ac.everyF _).mono ?_
   rintro e5 wE ⟨Xe1, xe1, Xe2, xe2, rfl, fe, be⟩
   have m1 := gz (n1.out.step be)
   have m2 := gz (n2.out.step be)
   have m3 := gz (n3.out.step be)
   have m4 := gz (n4.out.step be)
   have FD2 := gz (Kd.FK_below FD.out be)
   have FE := gz (show Kd.FK k25 wE (ac.FrM w m) ac.ev25 _ from Kd.FK_mono fe (fun k hk => .inr (by have := n1.out.big; omega)))
   have g0 := (ah m3.out.blk 0).trans rfl
   have g1 := (ah m3.out.blk 1).trans rfl
   have g2 := (ah m3.out.blk 2).trans rfl
   have h0 := ag m3.out.blk 0
   have h1 := ag m3.out.blk 1
   have h2 := ag m3.out.blk 2
   have i0 := (ah m4.out.blk 0).trans rfl
   have i1 := (ah m4.out.blk 1).trans rfl
   have i2 := (ah m4.out.blk 2).trans rfl
   have j0 := ag m4.out.blk 0
   have j1 := ag m4.out.blk 1
   have j2 := ag m4.out.blk 2
   clear fe be n1 n2 n3 n4 FD
   go_wp2
   go_meet
   case rel =>
    have eo : ac.outT a0 = ac.ev25 := if_neg ha.out
    have es : ac.stopT a0 = z25 := if_neg ha.out
    rw [eo, es]
    have k3 := m3.out.put (t' := z25) N2 FD2.out
    have k4 := m4.out.far (show m + 1 + 1 ≠ m + 1 by omega) N2 (.int .i64 0) (.slice Xd1 0 xd1) (.slice Xd2 0 xd2)
    have k2 := m2.out.far (show m ≠ m + 1 by omega) N2 (.int .i64 0) (.slice Xd1 0 xd1) (.slice Xd2 0 xd2)
    have k1 := m1.out.put (show m ≤ m + 1 by omega) (.int .i64 0) (.slice Xd1 0 xd1) (.slice Xd2 0 xd2)
    have FE2 := Kd.FK_step FE.out (W1 := ae.set3 wE (m + 1) (.int .i64 0) (.slice Xd1 0 xd1) (.slice Xd2 0 xd2)) (fun k hk _ => ae.set3_far wE (m + 1) _ _ _ k (fun e => N2 (e ▸ hk)))
    exact ⟨_, _, _, _, _, _, ⟨k1.put (show m ≤ m + 1 + 1 by omega) (.int .i64 6) (.slice Xe1 0 xe1) (.slice Xe2 1 xe2)⟩, ⟨k2.far Z8 N3 _ _ _⟩, ⟨k3.far Z8 N3 _ _ _⟩, ⟨k4.put (t' := ac.ev25) N3 FE2⟩⟩
 case rest =>
  obtain ⟨o1, o2, s1, s2, q1, q2, HD, LO, LS, LK⟩ := hcut
  clear p1 p2 p3 p4
  have HV0 := gz (show Kd.V k25 25 w 0 (fun k => P1_ k ∧ k < w.heap.size) (.slice A1 l1.length c1) l1 from HV.out)
  have HL0 := gz (show (ac.flatT a0 l1).length < 2513169434915 from by
   have h := HF.out
   unfold ac.f at h
   split at h
   ·assumption
   ·cases h)
  have HMX := gz (show (l1.length : Int) ≤ 9223372036854775807 from by have := (Kd.V_reads' HV.out).2.2.2.1; omega)
  go_wp2
  go_loopg [9, 28] l1.length (fun gk v9 v28 wr => ∃ (i : Nat), i ≤ l1.length ∧ l1.length - i ≤ gk ∧ v28 = .int .i64 (i : Int) ∧ aa (ac.RowE k25 25 w wr wc.heap.size (fun k => P1_ k ∧ k < w.heap.size) v9 (ac.flatT a0 (l1.take i))) ∧ aa (Below wc.heap.size wc wr))
  case atStart => exact ⟨0, Nat.zero_le _, Z8, rfl, ⟨ac.RowE.nil _ _ _ _ _ _⟩, ⟨Below.refl _ _⟩⟩
  case round =>
   obtain ⟨i, hi, hgk, rfl, HR, HW⟩ := hrel
   by_cases hlt : i < l1.length
   ·have d1 : decide ((i : Int) < (l1.length : Int)) = true := decide_eq_true Z8
    obtain ⟨ad, X1, x1, X2, x2, rfl, g0, g1, g2, n1, f1, n2, f2⟩ := ae.V_at3 HV0.out i hlt
    have hww := ai HD.out.below HW.out
    replace g0 := (hww.cell (World.block_lt_of_cell? w _ g0)).trans g0
    replace g1 := (hww.cell (World.block_lt_of_cell? w _ g1)).trans g1
    replace g2 := (hww.cell (World.block_lt_of_cell? w _ g2)).trans g2
    have HFL := gz (ac.flatT_at a0 l1 i hlt)
    have HFE := gz (ac.flatT_le a0 l1 (i + 1))
    obtain ⟨⟨t0, t1, t2⟩, ht⟩ : ∃ t, l1.getD i z25 = t := ⟨_, rfl⟩
    rw [ht] at g0 g1 g2 n1 f1 n2 f2 HFL
    dsimp only at g0 g1 g2 n1 f1 n2 f2 HFL
    have N1 := gz n1
    have N2 := gz n2
    have F1 := gz f1
    have F2 := gz f2
    have HWW := gz hww
    clear n1 n2 f1 f2 hww ht
    have z0 : (0 : Int) ≤ (i : Int) := by omega
    have z1 : (i : Int) < (l1.length : Int) := by omega
    have hw1 := gz (show wrap64 ((i : Int) + 1) = ((i + 1 : Nat) : Int) from by unfold wrap64; have := HMX.out; omega)
    by_cases hk : t0 = a0
    ·have b1 : (t0 == a0) = true := beq_iff_eq.mpr hk
     replace hk := gz hk
     rw [if_pos hk.out] at HFL
     go_wp2_with (first | ((with_reducible refine aK (b := .append) (xs := #[.tmp 36, .tmp 38]) rfl ?_); at_builtin; refine ac.RowE_append_rows k25 (W0 := w) (w0 := wc) wc.heap.size rfl (.tmp 36) (.tmp 38) 23 25 (.agg #[(.int .i64 0), (.slice none 0 0), (.slice none 0 0)]) 56 rfl Tryz.underlying23 fw rfl Z27 Z8 u9 (ac.flatT a0 (l1.take i)) t2 _ _ _ (fun k => P1_ k ∧ k < w.heap.size) rfl rfl F2.out (fun k hk => hk.2) (fun k hk => (ak HWW.out _).block k hk.2) (HR.out.below (ak (Below.refl _ _) _)) (ak HW.out _) (aU (ak HW.out _)) ?aL ?_; (case aL => have e1 := HFE.out; rw [HFL.out, List.length_append] at e1; have e2 := HL0.out; omega); intro v1 w1 hr hb hg hat; rw [← HFL.out] at hr))
     go_roundg (l1.length - (i + 1))
     case measure => omega
     case rel => exact ⟨i + 1, Z8, Nat.le_refl _, by rw [hw1.out], ⟨hr⟩, ⟨hb⟩⟩
    ·have b1 : (t0 == a0) = false := beq_eq_false_iff_ne.mpr hk
     replace hk := gz hk
     rw [if_neg hk.out] at HFL
     go_wp2_with (first | ((with_reducible refine aK (b := .append) (xs := #[.tmp 40, .tmp 42]) rfl ?_); at_builtin; refine ac.RowE_append k25 (W0 := w) (w0 := wc) wc.heap.size rfl (.tmp 40) (.tmp 42) 23 25 (.agg #[(.int .i64 0), (.slice none 0 0), (.slice none 0 0)]) 56 rfl Tryz.underlying23 fw rfl Z27 Z8 u9 (ac.flatT a0 (l1.take i)) ⟨t0, t1, t2⟩ [.int .i64 t0, .slice X1 t1.length x1, .slice X2 t2.length x2] (fun k => P1_ k ∧ k < w.heap.size) rfl (by rw [bL]; rfl) (bP _ _ ⟨t0, t1, t2⟩ N1.out F1.out N2.out F2.out) (HR.out.below (ak (Below.refl _ _) _)) (ak HW.out _) (aU (ak HW.out _)) ?aL ?_; (case aL => have e1 := HFE.out; rw [HFL.out, List.length_append] at e1; have e2 := HL0.out; simp only [List.length_singleton] at e1; omega); intro v1 w1 hr hb hg hat; rw [← HFL.out] at hr))
     go_roundg (l1.length - (i + 1))
     case measure => omega
     case rel => exact ⟨i + 1, Z8, Nat.le_refl _, by rw [hw1.out], ⟨hr⟩, ⟨hb⟩⟩
   ·have d1 : decide ((i : Int) < (l1.length : Int)) = false := decide_eq_false Z8
    have ei : i = l1.length := by omega
    rw [ei, List.take_length] at HR
    have HKI := HR
    clear HR
    obtain ⟨Ak, ck, rfl⟩ := HKI.out.slice
    have HF2 := HF.out
    unfold ac.f at HF2
    rw [if_pos HL0.out] at HF2
    obtain ⟨L, hL⟩ : ∃ L, ac.flatT a0 l1 = L := ⟨_, rfl⟩
    rw [hL] at HF2 HKI HL0
    rw [hL]
    have HF3 := gz HF2
    have GD := gz (HD.out.step HW.out)
    have GO := gz (LO.out.step HW.out)
    have GS := gz (LS.out.step HW.out)
    have GK := gz (LK.out.step HW.out)
    clear HV0 HMX d1 ei HF2 hL HF HV HD LO LS LK HW
    generalize wr = W1 at *
    clear wr
    go_wp2
    go_loopg [10, 13, 47] L.length (fun gk v10 v13 v47 w' => ∃ (j : Nat) (ss : List (List S51)) (rs : List S25), j ≤ L.length ∧ L.length - j ≤ gk ∧ v47 = .int .i64 (j : Int) ∧ aa (ac.RowE (Kd.slice 51 k51) 22 w w' W1.heap.size (fun k => P1_ k ∧ k < w.heap.size) v10 ss) ∧ aa (ac.RowE k25 25 w w' W1.heap.size (fun k => P1_ k ∧ k < w.heap.size) v13 rs) ∧ aa (Below W1.heap.size W1 w') ∧ aa (ss.length ≤ j ∧ rs.length ≤ j) ∧ aa ((ac.partT k (ac.stopT a0) (ac.outT a0) (L.drop j) ss rs).bind (ac.contT k a0) = some (r1, r2, r3, r4)))
    case atStart => exact ⟨0, [], [], Nat.zero_le _, Z8, rfl, ⟨ac.RowE.nil _ _ _ _ _ _⟩, ⟨ac.RowE.nil _ _ _ _ _ _⟩, ⟨Below.refl _ _⟩, ⟨⟨Nat.le_refl _, Nat.le_refl _⟩⟩, HF3⟩
    case round =>
     clear HF3
     obtain ⟨j, ss, rs, hj, hgk2, rfl, HS, HT, HW, HLN, HF⟩ := hrel
     by_cases hlt2 : j < L.length
     ·have d1 : decide ((j : Int) < (L.length : Int)) = true := decide_eq_true Z8
      obtain ⟨g, cap, X1, x1, X2, x2, ev, g0, g1, g2, n1, f1, n2, f2⟩ := ac.RowE_at3 HKI.out j hlt2
      cases ev
      have hwr := ai GD.out.below HW.out
      have hEw : ∀ k, (P1_ k ∧ k < w.heap.size) → k < w.heap.size → wr.heap[k]? = w.heap[k]? := fun k hk _ => hwr.block k hk.2
      replace g0 := (HW.out.cell (World.block_lt_of_cell? W1 _ g0)).trans g0
      replace g1 := (HW.out.cell (World.block_lt_of_cell? W1 _ g1)).trans g1
      replace g2 := (HW.out.cell (World.block_lt_of_cell? W1 _ g2)).trans g2
      have HDR := gz (ae.drop_at L j hlt2)
      obtain ⟨⟨t0, t1, t2⟩, ht⟩ : ∃ t, L.getD j z25 = t := ⟨_, rfl⟩
      rw [ht] at g0 g1 g2 n1 f1 n2 f2 HDR
      dsimp only at g0 g1 g2 n1 f1 n2 f2
      have HFx := HF.out
      rw [HDR.out, ac.partT] at HFx
      obtain ⟨pq, hpq, HFc⟩ := Option.bind_eq_some_iff.mp HFx
      obtain ⟨b1, hb1, hpq⟩ := Option.bind_eq_some_iff.mp hpq
      have C1 := Kd.F_now (Kd.F_step f1 hEw)
      have C2 := Kd.F_now (Kd.F_step f2 hEw)
      have S1 := GS.out.step HW.out
      have K1 := GK.out.step HW.out
      obtain ⟨Ys1, ys1, Ys2, ys2, es, ns1, D1, ns2, D2⟩ := ae.formF S1.fk
      obtain ⟨Yk1, yk1, Yk2, yk2, ek, nk1, E1, nk2, E2⟩ := ae.formF K1.fk
      simp only [List.cons.injEq, and_true, true_and] at es ek
      obtain ⟨rfl, rfl⟩ := es
      obtain ⟨rfl, rfl⟩ := ek
      have bx := ak (Below.refl wr.heap.size wr) (.cells #[.int .i64 t0, .slice X1 t1.length x1, .slice X2 t2.length x2] 25)
      have c0 := (bx.cell (World.block_lt_of_cell? wr _ ((ah S1.blk 0).trans rfl))).trans ((ah S1.blk 0).trans rfl)
      have c1' := (bx.cell (World.block_lt_of_cell? wr _ ((ah S1.blk 1).trans rfl))).trans ((ah S1.blk 1).trans rfl)
      have c2' := (bx.cell (World.block_lt_of_cell? wr _ ((ah S1.blk 2).trans rfl))).trans ((ah S1.blk 2).trans rfl)
      have BX := gz bx
      have CA := gz (show cE.f k t0 t1 t2 (ac.stopT a0).f0 (ac.stopT a0).f1 (ac.stopT a0).f2 = some b1 from hb1)
      have Q1 := gz C1
      have Q2 := gz C2
      have Q3 := gz D1
      have Q4 := gz D2
      have Q5 := gz E1
      have Q6 := gz E2
      have M1 := gz n1
      have M2 := gz n2
      have M3 := gz ns1
      have M4 := gz ns2
      have M5 := gz nk1
      have M6 := gz nk2
      have F1 := gz f1
      have F2 := gz f2
      have SS := gz S1
      have KK := gz K1
      have HPQ := gz hpq
      have HFC := gz HFc
      have HWR := gz hwr
      have HBX := gz (a8 wr (.cells #[.int .i64 t0, .slice X1 t1.length x1, .slice X2 t2.length x2] 25))
      clear C1 C2 D1 D2 E1 E2 n1 n2 ns1 ns2 nk1 nk2 f1 f2 S1 K1 hpq HFc hwr bx hb1 hEw HFx HF
      have z0 : (0 : Int) ≤ (j : Int) := by omega
      have z1 : (j : Int) < (L.length : Int) := by omega
      go_wp2_with fail
      refine (cE.calls k t0 X1 x1 t1 X2 x2 t2 (ac.stopT a0).f0 Ys1 ys1 (ac.stopT a0).f1 Ys2 ys2 (ac.stopT a0).f2 b1 _ (Kd.C_below Q1.out BX.out) M1.out (Kd.C_below Q2.out BX.out) M2.out (Kd.C_below Q3.out BX.out) M3.out (Kd.C_below Q4.out BX.out) M4.out CA.out).mono ?_
      rintro ee w2 ⟨rfl, hb2⟩
      have BW := ai BX.out hb2
      have B15 := gz (ao HBX.out hb2)
      have SS2 := gz (SS.out.step BW)
      have KK2 := gz (KK.out.step BW)
      have GD2 := gz (GD.out.step (ai HW.out BW))
      have HW2 := gz (ai HW.out BW)
      have HWR2 := gz (ai HWR.out BW)
      have HS2 := gz (HS.out.below BW)
      have HT2 := gz (HT.out.below BW)
      have BW2 := gz BW
      clear BW hb2 SS KK HW HWR HS HT HBX c0 c1' c2' Q1 Q2 Q3 Q4 CA
      have s0 := (ah SS2.out.blk 0).trans rfl
      have s1 := (ah SS2.out.blk 1).trans rfl
      have s2 := (ah SS2.out.blk 2).trans rfl
      cases b1 with
      | true =>
       have hp := HPQ.out
       rw [if_pos rfl] at hp
       obtain rfl : none = pq := Option.some.inj hp
       have hc := HFC.out
       simp only [ac.contT, Option.some.injEq, Prod.mk.injEq] at hc
       obtain ⟨rfl, rfl, rfl, rfl⟩ := hc
       have r0 := (ah GD2.out.b4 0).trans rfl
       have r1 := (ah GD2.out.b4 1).trans rfl
       have r2 := (ah GD2.out.b4 2).trans rfl
       have e0 := ag GD2.out.b4 0
       have e1 := ag GD2.out.b4 1
       have e2 := ag GD2.out.b4 2
       go_wp2
       obtain ⟨e1, e2, e3, e4⟩ := GD2.out.fin (P1_ := P1_) SS2.out.fk (by have := GD2.out.low; unfold ac.FrM; omega) (fun k hk => .inr (by have := GD2.out.low; unfold ac.FrM at hk; omega))
       refine bodyPost_ret (cM rfl _ _ w.heap.size 25 _ (0, 0) _ rfl e1 Tryz.underlying25 rfl Z5) rfl ?_
       exact ⟨_, _, rfl, e2, e3, e4⟩
      | false =>
       have hp := HPQ.out
       rw [if_neg Z27] at hp
       obtain ⟨b2, hb2, hp⟩ := Option.bind_eq_some_iff.mp hp
       have CB := gz (show cE.f k t0 t1 t2 (ac.outT a0).f0 (ac.outT a0).f1 (ac.outT a0).f2 = some b2 from hb2)
       have HP := gz hp
       clear hp hb2 HPQ s0 s1 s2
       have k0 := (ah KK2.out.blk 0).trans rfl
       have k1 := (ah KK2.out.blk 1).trans rfl
       have k2 := (ah KK2.out.blk 2).trans rfl
       have y0 := (ah B15.out 0).trans rfl
       have y1 := (ah B15.out 1).trans rfl
       have y2 := (ah B15.out 2).trans rfl
       have hEw : ∀ k, (P1_ k ∧ k < w.heap.size) → k < w.heap.size → w2.heap[k]? = w.heap[k]? := fun k hk _ => HWR2.out.block k hk.2
       have Q1 := gz (Kd.F_now (Kd.F_step F1.out hEw))
       have Q2 := gz (Kd.F_now (Kd.F_step F2.out hEw))
       clear hEw
       go_wp2_with fail
       refine (cE.calls k t0 X1 x1 t1 X2 x2 t2 (ac.outT a0).f0 Yk1 yk1 (ac.outT a0).f1 Yk2 yk2 (ac.outT a0).f2 b2 _ Q1.out M1.out Q2.out M2.out (Kd.C_below Q5.out BW2.out) M5.out (Kd.C_below Q6.out BW2.out) M6.out CB.out).mono ?_
       rintro ee w3 ⟨rfl, hb3⟩
       have C15 := gz (ao B15.out hb3)
       have GD3 := gz (GD2.out.step hb3)
       have HW3 := gz (ai HW2.out hb3)
       have HWR3 := gz (ai HWR2.out hb3)
       have HS3 := gz (HS2.out.below hb3)
       have HT3 := gz (HT2.out.below hb3)
       clear hb3 B15 SS2 KK2 GD2 HW2 HWR2 HS2 HT2 BW2 k0 k1 k2 y0 y1 y2 Q1 Q2 Q5 Q6 CB M3 M4 M5 M6 BX
       have y0 := (ah C15.out 0).trans rfl
       have y1 := (ah C15.out 1).trans rfl
       have y2 := (ah C15.out 2).trans rfl
       have hw1 := gz (show wrap64 ((j : Int) + 1) = ((j + 1 : Nat) : Int) from by unfold wrap64; have := HL0.out; omega)
       cases b2 with
       | true =>
        have hp := HP.out
        rw [if_pos rfl] at hp
        go_wp2
        go_roundg (L.length - (j + 1))
        case measure => omega
        case rel => exact ⟨j + 1, ss, rs, Z8, Nat.le_refl _, by rw [hw1.out], HS3, HT3, HW3, ⟨⟨by have := HLN.out; omega, by have := HLN.out; omega⟩⟩, ⟨by rw [hp]; exact HFC.out⟩⟩
       | false =>
        have hp := HP.out
        rw [if_neg Z27] at hp
        have hne : ∀ k, u13.ownBlock = some k → some k ≠ u10.ownBlock := fun k h1 h2 => by
         obtain ⟨cs1, e1⟩ := HT3.out.typed k h1
         obtain ⟨cs2, e2⟩ := HS3.out.typed k h2.symm
         rw [e1] at e2
         exact absurd (Option.some.inj e2) Z24
        have HNE := gz hne
        clear hne
        by_cases hk2 : t0 = 2
        ·have b3 : (t0 == 2) = true := beq_iff_eq.mpr hk2
         rw [if_pos hk2] at hp
         replace hp := gz hp
         replace hk2 := gz hk2
         go_wp2_with (first | ((with_reducible refine aK (b := .append) (xs := #[.tmp 68, .tmp 71]) rfl ?_); at_builtin; refine ac.RowE_append (Kd.slice 51 k51) (W0 := w) (w0 := W1) W1.heap.size rfl (.tmp 68) (.tmp 71) 102 22 (.slice none 0 0) 24 rfl Tryz.underlying102 info22 rfl Z27 Z8 u10 ss t1 [.slice X1 t1.length x1] (fun k => P1_ k ∧ k < w.heap.size) rfl rfl (Kd.FK_slice_mk M1.out F1.out) HS3.out HW3.out (aU HW3.out) ?aL ?_; (case aL => have := HLN.out; have := HL0.out; omega); intro v1 w4 hr hb hg hat))
         go_roundg (L.length - (j + 1))
         case measure => omega
         case rel => exact ⟨j + 1, ss ++ [t1], rs, Z8, Nat.le_refl _, by rw [hw1.out], ⟨hr⟩, ⟨HT3.out.grown hg HNE.out⟩, ⟨hb⟩, ⟨⟨by have := HLN.out; rw [List.length_append, List.length_singleton]; omega, by have := HLN.out; omega⟩⟩, ⟨by rw [hp.out]; exact HFC.out⟩⟩
        ·have b3 : (t0 == 2) = false := beq_eq_false_iff_ne.mpr hk2
         rw [if_neg hk2] at hp
         replace hp := gz hp
         replace hk2 := gz hk2
         go_wp2_with (first | ((with_reducible refine aK (b := .append) (xs := #[.tmp 51, .tmp 53]) rfl ?_); at_builtin; refine ac.RowE_append k25 (W0 := w) (w0 := W1) W1.heap.size rfl (.tmp 51) (.tmp 53) 23 25 (.agg #[(.int .i64 0), (.slice none 0 0), (.slice none 0 0)]) 56 rfl Tryz.underlying23 fw rfl Z27 Z8 u13 rs ⟨t0, t1, t2⟩ [.int .i64 t0, .slice X1 t1.length x1, .slice X2 t2.length x2] (fun k => P1_ k ∧ k < w.heap.size) rfl rfl (bP _ _ ⟨t0, t1, t2⟩ M1.out F1.out M2.out F2.out) HT3.out HW3.out (aU HW3.out) ?aL ?_; (case aL => have := HLN.out; have := HL0.out; omega); intro v1 w4 hr hb hg hat))
         go_roundg (L.length - (j + 1))
         case measure => omega
         case rel => exact ⟨j + 1, ss, rs ++ [⟨t0, t1, t2⟩], Z8, Nat.le_refl _, by rw [hw1.out], ⟨HS3.out.grown hg (fun k h1 h2 => HNE.out k h2.symm h1.symm)⟩, ⟨hr⟩, ⟨hb⟩, ⟨⟨by have := HLN.out; omega, by have := HLN.out; rw [List.length_append, List.length_singleton]; omega⟩⟩, ⟨by rw [hp.out]; exact HFC.out⟩⟩
     ·have d1 : decide ((j : Int) < (L.length : Int)) = false := decide_eq_false Z8
      have ej : j = L.length := by omega
      have HF2 := HF.out
      rw [ej, List.drop_length, ac.partT] at HF2
      replace HF2 : ac.restT k a0 ss rs = some (r1, r2, r3, r4) := HF2
      have HFr := gz HF2
      obtain ⟨As, cs, rfl⟩ := HS.out.slice
      obtain ⟨At, ct, rfl⟩ := HT.out.slice
      have HLE := gz (show ss.length ≤ L.length ∧ rs.length ≤ L.length from by have := HLN.out; omega)
      clear HF HF2 HLN
      clear ej
      go_upto_if 76 with fail
      (try simp only [Act.put, List.setIfInBounds_toArray, List.set_cons_zero, List.set_cons_succ])
      go_cut [13] (fun v13 wc => ∃ rs' : List S25, aa (Kd.N k25 25 wc W1.heap.size (fun k => (P1_ k ∧ k < w.heap.size) ∨ W1.heap.size ≤ k) v13 rs') ∧ aa (Below W1.heap.size W1 wc) ∧ aa (rs'.length ≤ L.length + 1) ∧ aa (ac.finT k a0 rs' = some (r1, r2, r3, r4)))
      case first =>
       have HWR := gz (ai GD.out.below HW.out)
       have hlow : w.heap.size < W1.heap.size := by have := GD.out.low; have := GD.out.big; omega
       by_cases hse : ss = []
       ·subst hse
        have hg0 : decide (((([] : List (List S51)).length : Nat) : Int) > 0) = false := by decide
        have hg1 : decide ((0 : Int) < ((([] : List (List S51)).length : Nat) : Int)) = false := by decide
        have hr := HFr.out
        unfold ac.restT at hr
        rw [if_pos rfl] at hr
        have HR2 := gz hr
        clear hr
        go_wp2
        go_meet
        case rel => exact ⟨rs, ⟨HT.out.toN (fun k hk => hk.2) (fun k hk => by have := hk.2; omega) (fun k hk => HWR.out.block k hk.2)⟩, HW, ⟨by have := HLE.out; omega⟩, HR2⟩
       ·have hpos : 0 < ss.length := List.length_pos_iff.2 hse
        have hg0 : decide (((ss.length : Nat) : Int) > 0) = true := decide_eq_true Z8
        have hg1 : decide ((0 : Int) < ((ss.length : Nat) : Int)) = true := decide_eq_true Z8
        have hr := HFr.out
        unfold ac.restT at hr
        rw [if_neg hse] at hr
        obtain ⟨⟨us, ue⟩, hu, hr⟩ := Option.bind_eq_some_iff.mp hr
        have HU := gz hu
        have HR2 := gz hr
        have HSN := gz (HS.out.toN (fun k hk => hk.2) (fun k hk => by have := hk.2; omega) (fun k hk => HWR.out.block k hk.2))
        clear hr hu hse
        have HC := gz (Kd.N_reads' HSN.out).2.2
        have HCL := gz (Kd.N_reads' HSN.out).2.1
        go_wp2_with fail
        refine (cN.calls k As cs ss us ue _ HC.out HCL.out HU.out).mono ?_
        rintro e7 w7 ⟨vu, rfl, hru, hbu⟩
        have hRu := gz (show Kd.R k51 51 w7 wr.heap.size (fun k => wr.heap.size ≤ k) vu us from Kd.R_mono (Kd.R_tight rfl hru) (fun k hk => Kd.R_base hru k hk.symm))
        have HT7 := gz (HT.out.below hbu)
        have HS7 := gz (Kd.N_below HSN.out hbu)
        have HW7 := gz (ai HW.out hbu)
        obtain ⟨Au, cu, rfl⟩ := Kd.R_slice hru
        have HLW := gz (show W1.heap.size ≤ wr.heap.size from HW.out.size)
        clear hru hbu HSN HC HCL HT HS HW HWR HU
        go_upto_if 83 with fail
        (try simp only [Act.put, List.setIfInBounds_toArray, List.set_cons_zero, List.set_cons_succ])
        go_cut [16, 17] (fun v16 v17 wc => ∃ (us' : List S51) (ue' : Int), v17 = .int .i64 ue' ∧ aa (∃ b, W1.heap.size ≤ b ∧ Kd.R k51 51 wc b (fun _ => True) v16 us') ∧ aa (ac.RowE k25 25 w wc W1.heap.size (fun k => P1_ k ∧ k < w.heap.size) (.slice At rs.length ct) rs) ∧ aa (Below W1.heap.size W1 wc) ∧ aa (ac.setT k a0 ss rs us' ue' = some (r1, r2, r3, r4)))
        case first =>
         by_cases ha5 : a0 = 5
         ·have ha1 : (a0 == 5) = true := beq_iff_eq.mpr ha5
          have hr := HR2.out
          rw [if_pos ha5] at hr
          obtain ⟨⟨ms, me⟩, hm, hr⟩ := Option.bind_eq_some_iff.mp hr
          have HM := gz hm
          have HR3 := gz (show ac.setT k a0 ss rs ms me = some (r1, r2, r3, r4) from hr)
          have HC := gz (Kd.N_reads' HS7.out).2.2
          have HCL := gz (Kd.N_reads' HS7.out).2.1
          clear hr hm HR2
          replace ha5 := gz ha5
          go_wp2_with fail
          refine (bD.calls k As cs ss ms me _ HC.out HCL.out HM.out).mono ?_
          rintro e8 w8 ⟨vm, rfl, hrm, hbm⟩
          have HT8 := gz (HT7.out.below hbm)
          have HW8 := gz (ai HW7.out hbm)
          have hRm := gz (show ∃ b, W1.heap.size ≤ b ∧ Kd.R k51 51 w8 b (fun _ => True) vm ms from ⟨_, HW7.out.size, Kd.R_mono hrm (fun _ _ => trivial)⟩)
          obtain ⟨Am, cm, rfl⟩ := Kd.R_slice hrm
          clear hrm hbm HC HCL HM hRu HT7 HS7 HW7
          go_wp2
          go_meet
          case rel => exact ⟨ms, me, rfl, hRm, HT8, HW8, HR3⟩
         ·have ha1 : (a0 == 5) = false := beq_eq_false_iff_ne.mpr ha5
          have hr := HR2.out
          rw [if_neg ha5] at hr
          have HR3 := gz (show ac.setT k a0 ss rs us ue = some (r1, r2, r3, r4) from hr)
          clear hr HR2
          replace ha5 := gz ha5
          go_wp2
          go_meet
          case rel => exact ⟨us, ue, rfl, ⟨⟨_, HLW.out, Kd.R_mono hRu.out (fun _ _ => trivial)⟩⟩, HT7, HW7, HR3⟩
        case rest =>
         clear HT7 HS7 HW7 hRu HR2 HLW
         obtain ⟨us', ue', rfl, HU8, HT8, HW8, HSET⟩ := hcut
         obtain ⟨b, hb, hR⟩ := HU8.out
         obtain ⟨Au', cu', rfl⟩ := Kd.R_slice hR
         have GD8 := gz (GD.out.step HW8.out)
         have HLo := gz (show w.heap.size < wc.heap.size from by have := HW8.out.size; omega)
         have HRU := gz hR
         have HBU := gz hb
         clear hR hb HU8
         by_cases he : ue' = 0
         ·have he1 : (ue' != 0) = false := bne_eq_false_iff_eq.mpr he
          by_cases hs : us' = []
          ·have hl0 : (((us'.length : Nat) : Int) == 0) = true := by rw [hs]; rfl
           have h0 := HSET.out
           unfold ac.setT at h0
           rw [if_pos he, if_pos hs] at h0
           simp only [Option.some.injEq, Prod.mk.injEq] at h0
           obtain ⟨rfl, rfl, rfl, rfl⟩ := h0
           replace he := gz he
           replace hs := gz hs
           go_wp2_with fail
           refine (ac.noneF _).mono ?_
           rintro e9 w9 ⟨X1, x1, X2, x2, rfl, fd, bd⟩
           have GD9 := gz (GD8.out.step bd)
           have FD9 := gz fd
           have r0 := (ah GD9.out.b4 0).trans rfl
           have r1 := (ah GD9.out.b4 1).trans rfl
           have r2 := (ah GD9.out.b4 2).trans rfl
           have e0 := ag GD9.out.b4 0
           have e1 := ag GD9.out.b4 1
           have e2 := ag GD9.out.b4 2
           clear fd bd
           go_wp2
           obtain ⟨u1, u2, u3, u4⟩ := GD9.out.fin (P1_ := P1_) (t := z25) FD9.out (by have := HLo.out; omega) (fun k hk => .inr (by have := HLo.out; omega))
           refine bodyPost_ret (cM rfl _ _ w.heap.size 25 _ (0, 0) _ rfl u1 Tryz.underlying25 rfl Z5) rfl ?_
           exact ⟨_, _, rfl, u2, u3, u4⟩
          ·have hl0 : (((us'.length : Nat) : Int) == 0) = false := beq_eq_false_iff_ne.mpr (by have := List.length_pos_iff.2 hs; omega)
           have h0 := HSET.out
           unfold ac.setT at h0
           rw [if_pos he, if_neg hs] at h0
           have HSF := gz (show cT.f us' = some (2, us', []) from by unfold cT.f; rw [if_neg (by have := List.length_pos_iff.2 hs; omega)])
           have HFIN := gz h0
           have HVU := gz (show Kd.V k51 51 wc wc.heap.size (fun k => some k = (Value.slice Au' us'.length cu').ownBlock) (.slice Au' us'.length cu') us' from Kd.R_V (Kd.R_tight rfl HRU.out))
           have HN8 := gz (HT8.out.toN (fun k hk => hk.2) (fun k hk => by have := hk.2; omega) (fun k hk => (ai GD.out.below HW8.out).block k hk.2))
           clear h0
           replace he := gz he
           replace hs := gz hs
           go_wp2_with fail
           refine (cT.calls _ Au' cu' us' 2 us' [] _ HVU.out HSF.out).mono ?_
           rintro e9 w9 ⟨v1, v2, rfl, h1, h2, hb9⟩
           obtain ⟨X1, x1, rfl, n1, f1⟩ := h1
           obtain ⟨X2, x2, rfl, n2, f2⟩ := h2
           have HFX := gz (bP w9 _ ⟨2, us', []⟩ n1 f1 n2 f2)
           have HN9 := gz (Kd.N_below HN8.out hb9)
           have HW9 := gz (ai HW8.out hb9)
           have HOKP := gz (show ∀ k, (some k = (Value.slice Au' us'.length cu').ownBlock ∨ wc.heap.size ≤ k) → ((P1_ k ∧ k < w.heap.size) ∨ W1.heap.size ≤ k) ∧ some k ≠ (Value.slice At rs.length ct).ownBlock from by
            rintro k (hk | hk)
            ·refine ⟨.inr (Nat.le_trans HBU.out (Kd.R_base HRU.out k hk.symm)), fun h2 => ?_⟩
             obtain ⟨cs1, e1⟩ := HT8.out.typed k h2.symm
             obtain ⟨cs2, e2⟩ := Kd.R_typed HRU.out k hk.symm
             rw [e1] at e2
             exact absurd (Option.some.inj e2) Z24
            ·refine ⟨.inr (Nat.le_trans HW8.out.size hk), fun h2 => ?_⟩
             have := HT8.out.lt k h2.symm
             omega)
           clear n1 f1 n2 f2 hb9 HN8
           go_wp2_with (first | ((with_reducible refine aK (b := .append) (xs := #[.tmp 97, .tmp 100]) rfl ?_); at_builtin; refine Kd.N_append k25 (w0 := W1) W1.heap.size rfl (.tmp 97) (.tmp 100) 23 25 (.agg #[(.int .i64 0), (.slice none 0 0), (.slice none 0 0)]) 56 rfl Tryz.underlying23 fw rfl Z27 Z8 (.slice At rs.length ct) rs ⟨2, us', []⟩ [.int .i64 2, .slice X1 us'.length x1, .slice X2 0 x2] (fun k => (P1_ k ∧ k < w.heap.size) ∨ W1.heap.size ≤ k) (fun k => some k = (Value.slice Au' us'.length cu').ownBlock ∨ wc.heap.size ≤ k) rfl rfl HFX.out HOKP.out (fun k hk => .inr (Nat.le_trans HW9.out.size hk)) HN9.out HW9.out (aU HW9.out) ?aL ?_; (case aL => have := HLE.out; have := HL0.out; omega); intro v1 w1 hr hb hg hat))
           go_meet
           case rel => exact ⟨rs ++ [⟨2, us', []⟩], ⟨hr⟩, ⟨hb⟩, ⟨by have := HLE.out; rw [List.length_append, List.length_singleton]; omega⟩, HFIN⟩
         ·have he1 : (ue' != 0) = true := bne_iff_ne.mpr he
          have h0 := HSET.out
          unfold ac.setT at h0
          rw [if_neg he] at h0
          simp only [Option.some.injEq, Prod.mk.injEq] at h0
          obtain ⟨rfl, rfl, rfl, rfl⟩ := h0
          replace he := gz he
          go_wp2_with fail
          refine (ac.noneF _).mono ?_
          rintro e9 w9 ⟨X1, x1, X2, x2, rfl, fd, bd⟩
          have GD9 := gz (GD8.out.step bd)
          have FD9 := gz fd
          have r0 := (ah GD9.out.b4 0).trans rfl
          have r1 := (ah GD9.out.b4 1).trans rfl
          have r2 := (ah GD9.out.b4 2).trans rfl
          have e0 := ag GD9.out.b4 0
          have e1 := ag GD9.out.b4 1
          have e2 := ag GD9.out.b4 2
          clear fd bd
          go_wp2
          obtain ⟨u1, u2, u3, u4⟩ := GD9.out.fin (P1_ := P1_) (t := z25) FD9.out (by have := HLo.out; omega) (fun k hk => .inr (by have := HLo.out; omega))
          refine bodyPost_ret (cM rfl _ _ w.heap.size 25 _ (0, 0) _ rfl u1 Tryz.underlying25 rfl Z5) rfl ?_
          exact ⟨_, _, rfl, u2, u3, u4⟩
      case rest =>
       obtain ⟨rs', HN, HV2, HLR, HFN⟩ := hcut
       have hok : ac.okT k rs' := by
        have h := HFN.out
        unfold ac.finT at h
        split at h
        ·assumption
        ·cases h
       have hen : ac.endT a0 (ac.dd ac.ordT (ac.isort rs')) = (r1, r2, r3, r4) := by
        have h := HFN.out
        unfold ac.finT at h
        rw [if_pos hok] at h
        exact Option.some.inj h
       have HEN := gz hen
       have HOK := gz hok
       clear hen hok HFN
       obtain ⟨Av, cv, rfl⟩ := Kd.N_slice HN.out
       go_wp2_with fail
       refine (ac.sortN ac.ordT ac.ordT_swo k HOK.out HN.out (by have := HLR.out; have := HL0.out; omega)).mono ?_
       rintro e5 w5 ⟨rfl, ys, hp, hs, HN5, q1, q2, q3, q4, q5⟩
       obtain rfl := ac.sorted_unique hp hs
       have hb5 := gz (show Below W1.heap.size W1 w5 from ⟨q2.trans HV2.out.os, q3.trans HV2.out.tape, q4.trans HV2.out.output, Nat.le_trans HV2.out.size q1, fun i hi => (q5 i (Nat.lt_of_lt_of_le hi HV2.out.size) (fun e => by have := Kd.N_base HN.out i e.symm; omega)).trans (HV2.out.block i hi)⟩)
       clear hp hs q1 q2 q3 q4 q5
       have H5 := gz HN5
       clear HN5
       go_wp2_with fail
       refine (ac.compactN ac.ordT k (fun x hx y hy => HOK.out x ((ac.isort_perm rs').mem_iff.1 hx) y ((ac.isort_perm rs').mem_iff.1 hy)) H5.out (by have := HLR.out; have := HL0.out; rw [(ac.isort_perm rs').length_eq]; omega)).mono ?_
       rintro e6 w6 ⟨v6, rfl, HN6, hg6⟩
       have hb6 := gz (pw_below_grown hb5.out _ hb5.out.size hg6 (fun k hk => Kd.N_base H5.out k hk))
       obtain ⟨D, hD⟩ : ∃ D, ac.dd ac.ordT (ac.isort rs') = D := ⟨_, rfl⟩
       rw [hD] at HN6
       have HE2 := HEN.out
       rw [hD] at HE2
       have HE := gz HE2
       have H6 := gz HN6
       obtain ⟨Ay, cy, rfl⟩ := Kd.N_slice HN6
       have GD6 := gz (GD.out.step hb6.out)
       have GO6 := gz (GO.out.step hb6.out)
       clear hg6 hD HN6 HE2 HEN H5 hb5 HOK HLR HN HV2
       have r0 := (ah GD6.out.b4 0).trans rfl
       have r1' := (ah GD6.out.b4 1).trans rfl
       have r2' := (ah GD6.out.b4 2).trans rfl
       have e0 := ag GD6.out.b4 0
       have e1 := ag GD6.out.b4 1
       have e2 := ag GD6.out.b4 2
       have hlow : w.heap.size < W1.heap.size := by have := GD.out.low; have := GD.out.big; omega
       rcases D with _ | ⟨x, _ | ⟨y, D⟩⟩
       ·obtain ⟨B1, d1', B2, d2', eo, _, _, _, _⟩ := ae.formF GO6.out.fk
        simp only [List.cons.injEq, and_true, true_and] at eo
        obtain ⟨rfl, rfl⟩ := eo
        have o0 := (ah GO6.out.blk 0).trans rfl
        have o1 := (ah GO6.out.blk 1).trans rfl
        have o2 := (ah GO6.out.blk 2).trans rfl
        have he := HE.out
        simp only [ac.endT, Prod.mk.injEq] at he
        obtain ⟨rfl, rfl, rfl, rfl⟩ := he
        go_wp2
        obtain ⟨u1, u2, u3, u4⟩ := GD6.out.fin (P1_ := P1_) GO6.out.fk (by have := GD6.out.low; unfold ac.FrM; omega) (fun k hk => .inr (by have := GD6.out.low; unfold ac.FrM at hk; omega))
        refine bodyPost_ret (cM rfl _ _ w.heap.size 25 _ (0, 0) _ rfl u1 Tryz.underlying25 rfl Z5) rfl ?_
        exact ⟨_, _, rfl, u2, u3, u4⟩
       ·obtain ⟨g6, cap6, ev6, hg6, hl6, _⟩ := Kd.N_form H6.out Z24
        cases ev6
        obtain ⟨B1, d1', B2, d2', p0, p1, p2, n1, _, n2, _, hfx⟩ := ac.N_at3 H6.out 0 Z24
        have he := HE.out
        simp only [ac.endT, Prod.mk.injEq] at he
        obtain ⟨rfl, rfl, rfl, rfl⟩ := he
        have p0 : w6.cell? ⟨g6, 0, none⟩ = some (.int .i64 x.f0) := p0
        have p1 : w6.cell? ⟨g6, 1, none⟩ = some (.slice B1 x.f1.length d1') := p1
        have p2 : w6.cell? ⟨g6, 2, none⟩ = some (.slice B2 x.f2.length d2') := p2
        have FX := gz (show Kd.FK k25 w6 _ x [.int .i64 x.f0, .slice B1 x.f1.length d1', .slice B2 x.f2.length d2'] from hfx)
        clear hfx n1 n2
        go_wp2
        obtain ⟨u1, u2, u3, u4⟩ := GD6.out.fin (P1_ := P1_) FX.out (by rintro ⟨h | h, _⟩ <;> omega) (fun k hk => by rcases hk.1 with h | h; exact .inl h.1; exact .inr Z8)
        refine bodyPost_ret (cM rfl _ _ w.heap.size 25 _ (0, 0) _ rfl u1 Tryz.underlying25 rfl Z5) rfl ?_
        exact ⟨_, _, rfl, u2, u3, u4⟩
       ·obtain ⟨g6, cap6, ev6, hg6, hl6, _⟩ := Kd.N_form H6.out Z24
        cases ev6
        have he := HE.out
        simp only [ac.endT, Prod.mk.injEq] at he
        obtain ⟨rfl, rfl, rfl, rfl⟩ := he
        have hlen : ((x :: y :: D).length : Int) ≠ 0 ∧ ((x :: y :: D).length : Int) ≠ 1 := by simp only [List.length_cons]; omega
        obtain ⟨n, hn⟩ : ∃ n, (x :: y :: D).length = n := ⟨_, rfl⟩
        have hnc := (Kd.N_reads' H6.out).2.1
        have hF := Kd.N_F H6.out
        rw [hn] at hlen
        have d3 : ((n : Int) == 0) = false := beq_eq_false_iff_ne.mpr hlen.1
        have d4 : ((n : Int) == 1) = false := beq_eq_false_iff_ne.mpr hlen.2
        have FX := gz (bP w6 _ ⟨a0, [], x :: y :: D⟩ (A1 := none) (c1 := 0) (Nat.le_refl _) (ae.F_zero k51 w6 _ none) hnc hF)
        have HN := gz hn
        rw [hn]
        clear hnc hF hlen hn
        go_wp2
        obtain ⟨u1, u2, u3, u4⟩ := GD6.out.fin (P1_ := P1_) FX.out (by rintro (h | h) <;> omega) (fun k hk => by rcases hk with h | h; exact .inl h.1; exact .inr Z8)
        dsimp only at u1 u2 u3 u4
        rw [HN.out] at u1 u2 u3 u4
        refine bodyPost_ret (cM rfl _ _ w.heap.size 25 _ (0, 0) _ rfl u1 Tryz.underlying25 rfl Z5) rfl ?_
        exact ⟨_, _, rfl, u2, u3, u4⟩
end Go.Proofs.YtaccleilcdfapaaGreat.G
