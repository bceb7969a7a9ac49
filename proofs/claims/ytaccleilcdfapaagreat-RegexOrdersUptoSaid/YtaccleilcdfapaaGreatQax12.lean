import Derived.Test.YtaccleilcdfapaaGreatQPre
import Derived.Test.YtaccleilcdfapaaGreatQax11
import Derived.Test.YtaccleilcdfapaaGreatQax9
namespace Go.Proofs.YtaccleilcdfapaaGreat.G
open Go.RowKit Go.Proofs.YtaccleilcdfapaaGreatW.PrintWords Go.Proofs.YtaccleilcdfapaaGreatW.PrintLast Go.Proofs.YtaccleilcdfapaaGreatW.PrintMore
attribute [local go_sem] dH dF dR dQ da cZ dG dE
set_option linter.unusedVariables false
set_option maxHeartbeats 8000000
set_option maxRecDepth 100000
set_option linter.unusedSimpArgs false
structure af.E4 where
 n : Int
 f : Int
 t : Int
 b : Bool
def af.key3 (n f t : Int) : Value := .agg #[.int .i64 n, .int .i64 f, .int .i64 t]
def af.encs : Nat → List af.E4 → List MapEntry
 | _, [] => []
 | i, x :: l => { key := af.key3 x.n x.f x.t, val := .bool x.b, born := i } :: af.encs (i + 1) l
def af.findM : List af.E4 → Int → Int → Int → Option Bool
 | [], _, _, _ => none
 | x :: l, n, f, t => if n = x.n ∧ f = x.f ∧ t = x.t then some x.b else af.findM l n f t
theorem af.part_int (xs : Array Value) (i : Nat) (v : Int) (w : World) (h : xs[i]? = some (.int .i64 v)) : (part 3 xs i).run Tryz.prog w = .ok (.int .i64 v) w :=
 run_part_plain (P := Tryz.prog) w (show Tryz.prog.plainKey 3 = true by kernel_rfl) h
theorem af.eqK (n f t n' f' t' : Int) (w : World) : (Op.equal 96 (af.key3 n f t) (af.key3 n' f' t')).run Tryz.prog w = .ok (n == n' && (f == f' && t == t')) w := by
 unfold af.key3
 show (Op.equalIn (9999 + 1) 96 _ _).run Tryz.prog w = _
 refine eqA_of Tryz.underlying96 Z5 ?_
 refine eqf_cons rfl (af.part_int _ _ n w rfl) (af.part_int _ _ n' w rfl) (run_equalIn_int _ _ _ _ _ _ _ Tryz.underlying3) ?_
 refine eqf_cons rfl (af.part_int _ _ f w rfl) (af.part_int _ _ f' w rfl) (run_equalIn_int _ _ _ _ _ _ _ Tryz.underlying3) ?_
 exact eqf_last rfl (af.part_int _ _ t w rfl) (af.part_int _ _ t' w rfl) (run_equalIn_int _ _ _ _ _ _ _ Tryz.underlying3)
theorem af.findA (n f t : Int) (w : World) : ∀ (M : List af.E4) (i j : Nat), ∃ r, (Instr.findAsking 96 (af.key3 n f t) (af.encs i M) j).run Tryz.prog w = .ok r w ∧ r.map (·.2) = (af.findM M n f t).map Value.bool
 | [], i, j => ⟨none, by simp [af.encs, Instr.findAsking], by simp [af.findM]⟩
 | x :: l, i, j => by
  by_cases h : n = x.n ∧ f = x.f ∧ t = x.t
  ·refine ⟨some (j, .bool x.b), ?_, ?_⟩
   ·simp [af.encs, Instr.findAsking, af.eqK, h, Result.andThen]
   ·simp [af.findM, h]
  ·obtain ⟨r, hr, hm⟩ := af.findA n f t w l (i + 1) (j + 1)
   refine ⟨r, ?_, ?_⟩
   ·have hb : (n == x.n && (f == x.f && t == x.t)) = false := by
     simp only [Bool.and_eq_false_iff, beq_eq_false_iff_ne]
     by_cases h1 : n = x.n
     ·by_cases h2 : f = x.f
      ·exact .inr (.inr (fun h3 => h ⟨h1, h2, h3⟩))
      ·exact .inr (.inl h2)
     ·exact .inl h1
    simp [af.encs, Instr.findAsking, af.eqK, hb, hr, Result.andThen]
   ·rw [hm, af.findM, if_neg h]
theorem af.findK (n f t : Int) (w : World) (M : List af.E4) : ∃ r, (Instr.findKey 96 (af.key3 n f t) (af.encs 0 M)).run Tryz.prog w = .ok r w ∧ r.map (·.2) = (af.findM M n f t).map Value.bool := by
 cases M with
 | nil => exact ⟨none, by simp [Instr.findKey, af.encs, Instr.findNow, run_underlying Tryz.underlying96, Result.andThen], by simp [af.findM]⟩
 | cons x l =>
  obtain ⟨r, hr, hm⟩ := af.findA n f t w (x :: l) 0 0
  exact ⟨r, by simpa [Instr.findKey, af.encs, Instr.findNow, Instr.sameNow, run_underlying Tryz.underlying96, Result.andThen] using hr, hm⟩
theorem af.checkK (n f t : Int) (e : Bool) (w : World) : (Instr.checkKey e 10000 96 (af.key3 n f t)).run Tryz.prog w = .ok () w := by
 have h3 : ∀ (v : Int) (w : World), (Instr.checkKey e 9999 3 (.int .i64 v)).run Tryz.prog w = .ok () w := fun v w => MapKept.run_checkKey (d := .int .i64) (k := .int .i64 v) Tryz.underlying3 rfl e 9998
 show (Instr.checkKey e (9999 + 1) 96 _).run Tryz.prog w = _
 unfold Instr.checkKey af.key3
 simp [run_underlying Tryz.underlying96, Result.andThen, h3, af.part_int #[.int .i64 n, .int .i64 f, .int .i64 t] 0 n w rfl, af.part_int #[.int .i64 n, .int .i64 f, .int .i64 t] 1 f w rfl, af.part_int #[.int .i64 n, .int .i64 f, .int .i64 t] 2 t w rfl]
theorem af.encs_append (x : af.E4) : ∀ (M : List af.E4) (i : Nat), af.encs i (M ++ [x]) = af.encs i M ++ [{ key := af.key3 x.n x.f x.t, val := .bool x.b, born := i + M.length }]
 | [], i => by simp [af.encs]
 | y :: l, i => by
  rw [List.cons_append, af.encs, af.encs_append x l (i + 1), af.encs, List.cons_append, List.length_cons]
  congr 4
  omega
def af.MapAt (w : World) (g : Nat) (M : List af.E4) : Prop := w.heap[g]? = some (.map (af.encs 0 M).toArray M.length)
theorem af.lookupR {w : World} {g : Nat} {M : List af.E4} (h : af.MapAt w g M) (n f t : Int) :
  (Instr.lookup 67 (.map (some g)) (af.key3 n f t) true).run Tryz.prog w = .ok (.tuple #[.bool ((af.findM M n f t).getD false), .bool (af.findM M n f t).isSome]) w := by
 obtain ⟨r, hr, hm⟩ := af.findK n f t w M
 have hg := MapKept.run_getObj_map (P := Tryz.prog) h
 unfold Instr.lookup
 simp only [Sem.run_bind, run_underlying Tryz.underlying67, Result.andThen, hg, Sem.run_pure, af.checkK, List.toList_toArray, hr]
 cases r with
 | none =>
  have h0 : af.findM M n f t = none := by cases hx : af.findM M n f t with
   | none => rfl
   | some b => simp [hx] at hm
  simp [h0, Tryz.zeroValue4, Result.andThen]
 | some p =>
  obtain ⟨b, hb, hv⟩ : ∃ b, af.findM M n f t = some b ∧ p.2 = .bool b := by cases hx : af.findM M n f t with
   | none => simp [hx] at hm
   | some b => exact ⟨b, rfl, by simpa [hx] using hm⟩
  obtain ⟨i, v⟩ := p
  simp only at hv
  subst hv
  simp [hb, Result.andThen]
def af.mapPut (w : World) (g : Nat) (M : List af.E4) : World := { w with heap := w.heap.setIfInBounds g (.map (af.encs 0 M).toArray M.length) }
theorem af.updateR {w : World} {g : Nat} {M : List af.E4} (h : af.MapAt w g M) (n f t : Int) (b : Bool) (hn : af.findM M n f t = none) :
  (Instr.mapUpdate 67 (.map (some g)) (af.key3 n f t) (.bool b)).run Tryz.prog w = .ok () (af.mapPut w g (M ++ [⟨n, f, t, b⟩])) := by
 obtain ⟨r, hr, hm⟩ := af.findK n f t w M
 have hg := MapKept.run_getObj_map (P := Tryz.prog) h
 obtain rfl : r = none := by
  cases r with
  | none => rfl
  | some p => simp [hn] at hm
 unfold Instr.mapUpdate
 simp only [Sem.run_bind, run_underlying Tryz.underlying67, Result.andThen, hg, af.checkK, List.toList_toArray, hr]
 rw [MapKept.run_setObj_map _ h, List.push_toArray]
 unfold af.mapPut
 rw [af.encs_append, Nat.zero_add, List.length_append, List.length_singleton]
theorem af.mapPut_at {w : World} {g : Nat} {M M' : List af.E4} (h : af.MapAt w g M) : af.MapAt (af.mapPut w g M') g M' := by
 have hlt : g < w.heap.size := (Array.getElem?_eq_some_iff.1 h).1
 simp [af.MapAt, af.mapPut, hlt]
theorem af.mapPut_far (w : World) (g : Nat) (M : List af.E4) (k : Nat) (h : k ≠ g) : (af.mapPut w g M).heap[k]? = w.heap[k]? := by
 simp [af.mapPut, Ne.symm h]
theorem af.mapPut_size (w : World) (g : Nat) (M : List af.E4) : (af.mapPut w g M).heap.size = w.heap.size := by simp [af.mapPut]
mutual
def af.sizeT : S25 → Nat
 | ⟨_, _, l⟩ => 1 + af.sizeL l
def af.sizeL : List S25 → Nat
 | [] => 0
 | x :: l => af.sizeT x + af.sizeL l
end
def af.Keeps (W0 w : World) : Prop := ∀ (b : Nat) (c : Array Value) (t : TypeId) (fr : Nat × Nat), W0.heap[b]? = some (.cells c t fr) → w.heap[b]? = some (.cells c t fr)
theorem af.Keeps.cell {W0 w : World} (h : af.Keeps W0 w) {b o : Nat} {v : Value} (hc : W0.cell? ⟨b, o, none⟩ = some v) : w.cell? ⟨b, o, none⟩ = some v := by
 unfold World.cell? at hc ⊢
 cases hb : W0.heap[b]? with
 | none => simp [hb] at hc
 | some ob =>
  cases ob with
  | cells c t fr => rw [h b c t fr hb]; simpa [hb] using hc
  | _ => simp [hb] at hc
theorem af.Keeps.gb {W0 w w' : World} {g : Nat} {M : List af.E4} (h : af.Keeps W0 w) (hm : af.MapAt w g M) (k : ab.GB w w' g) : af.Keeps W0 w' := fun b c t fr hb => by
 have h1 := h b c t fr hb
 refine (k.block b (bB h1) (fun e => ?_)).trans h1
 cases e
 rw [hm] at h1
 cases h1
theorem af.MapAt.below {w w' : World} {g : Nat} {M : List af.E4} (h : af.MapAt w g M) (hb : Below w.heap.size w w') : af.MapAt w' g M := (hb.block g (Array.getElem?_eq_some_iff.1 h).1).trans h
theorem af.Keeps.below {W0 w w' : World} (h : af.Keeps W0 w) (hb : Below w.heap.size w w') : af.Keeps W0 w' := fun b c t fr hc => ao (h b c t fr hc) hb
theorem ab.GB.put {w w1 : World} {g : Nat} (h : ab.GB w w1 g) (M : List af.E4) : ab.GB w (af.mapPut w1 g M) g :=
 ⟨h.os, h.tape, h.output, by rw [af.mapPut_size]; exact h.size, fun i hi hr => (af.mapPut_far w1 g M i (fun e => hr (by rw [e]))).trans (h.block i hi hr)⟩
def af.MatAt (W0 : World) (gmm gm : Nat) (row : List Int) : Prop := ∃ A c, W0.heap[gmm]? = some (.cells #[.slice A row.length c, .map (some gm)] 69 (0, 0)) ∧ row.length ≤ c ∧ (row.length : Int) ≤ 9223372036854775807 ∧ ∀ i v, row[i]? = some v → ∃ gr o, A = some ⟨gr, o, none⟩ ∧ W0.cell? ⟨gr, o + i, none⟩ = some (.int .i32 v)
def af.NodeAt (W0 : World) : Nat → Nat → S25 → Int → Prop
 | 0, _, _, _ => False
 | j + 1, b, x, n => ∃ A1 c1 A2 c2 gk ck, W0.heap[b]? = some (.cells #[.int .i64 x.f0, .slice A1 x.f1.length c1, .slice A2 x.f2.length c2, .int .i64 n, .slice gk x.f2.length ck] 94 (0, 0)) ∧ k51.C W0 A1 x.f1.length x.f1 ∧ (x.f1.length : Int) + x.f2.length ≤ 9223372036854775807 ∧
  ∀ i y, x.f2[i]? = some y → ∃ g b', gk = some ⟨g, 0, none⟩ ∧ W0.cell? ⟨g, i, none⟩ = some (.pointer (some ⟨b', 0, none⟩)) ∧ af.NodeAt W0 j b' y (n + 1 + (af.sizeL (x.f2.take i) : Nat))
abbrev af.TKF := S25 → Int → Int → Int → List af.E4 → Option (Bool × List af.E4)
def af.tkF (look : af.TKF) : af.TKF := fun x n f t M => match af.findM M n f t with
 | some b => some (b, M)
 | none => (look x n f t M).bind fun r => if af.findM r.2 n f t = none then some (r.1, r.2 ++ [⟨n, f, t, r.1⟩]) else none
def af.MCall (W0 : World) (gmm gm fn : Nat) (F : af.TKF) : Prop := ∀ (x : S25) (n f t : Int) (M : List af.E4) (r : Bool) (M' : List af.E4) (j b : Nat) (w : World), F x n f t M = some (r, M') → af.NodeAt W0 j b x n → af.Keeps W0 w → af.MapAt w gm M →
 Calls Tryz.prog fn #[.pointer (some ⟨gmm, 0, none⟩), .pointer (some ⟨b, 0, none⟩), .int .i64 f, .int .i64 t] w fun ee w' => ee = .returned (.bool r) ∧ af.MapAt w' gm M' ∧ ab.GB w w' gm
set_option maxHeartbeats 4000000 in
theorem af.takesR {W0 : World} {gmm gm : Nat} {row : List Int} (HM : af.MatAt W0 gmm gm row) {look : af.TKF} (HL : af.MCall W0 gmm gm 76 look) : af.MCall W0 gmm gm 51 (af.tkF look) := by
 intro x n f t M r M' j b w h hN hK hMap
 obtain ⟨A, c, hm0, _⟩ := HM
 cases j with
 | zero => exact absurd hN (by simp [af.NodeAt])
 | succ j =>
  have HN := gz hN
  obtain ⟨A1, c1, A2, c2, gk, ck, hb0, _⟩ := hN
  have p0 := hK.cell ((ah hm0 1).trans rfl)
  have p1 := hK.cell ((ah hb0 3).trans rfl)
  have HK := gz hK
  have HMap := gz hMap
  clear hK hMap hb0
  have bx := ak (Below.refl w.heap.size w) (.cells #[.int .i64 n, .int .i64 f, .int .i64 t] 96)
  have KB := gz (HK.out.below bx)
  have MB := gz (HMap.out.below bx)
  have GBx := gz (ab.GB.of bx gm)
  have NB := gz (a8 w (.cells #[.int .i64 n, .int .i64 f, .int .i64 t] 96))
  clear bx
  go_enter Tryz.func51, Tryz.ntmps51
  go_upto_region 2 with (fail)
  generalize w.alloc (.cells #[.int .i64 n, .int .i64 f, .int .i64 t] 96) = X at KB MB GBx NB ⊢
  have q0 := (ah NB.out 0).trans rfl
  have q1 := (ah NB.out 1).trans rfl
  have q2 := (ah NB.out 2).trans rfl
  have p0 := KB.out.cell ((ah hm0 1).trans rfl)
  have hmp : X.heap[gm]? = some (.map (af.encs 0 M).toArray M.length) := MB.out
  have hmp2 : X.drew.heap[gm]? = some (.map (af.encs 0 M).toArray M.length) := MB.out
  have hlk : ∀ w' : World, w'.heap[gm]? = some (.map (af.encs 0 M).toArray M.length) → (Instr.lookup 67 (.map (some gm)) (.agg #[.int .i64 n, .int .i64 f, .int .i64 t]) true).run Tryz.prog w' = .ok (.tuple #[.bool ((af.findM M n f t).getD false), .bool (af.findM M n f t).isSome]) w' := fun w' hw => af.lookupR (M := M) hw n f t
  obtain ⟨v1, hv1⟩ : ∃ v, (af.findM M n f t).getD false = v := ⟨_, rfl⟩
  obtain ⟨v2, hv2⟩ : ∃ v, (af.findM M n f t).isSome = v := ⟨_, rfl⟩
  rw [hv1, hv2] at hlk
  replace hv1 := gz hv1
  replace hv2 := gz hv2
  go_region_held3 (fun w' => w'.cell? ⟨gmm, 1, none⟩ = some (.map (some gm)) ∧ w'.cell? ⟨w.heap.size, 0, none⟩ = some (.int .i64 n) ∧ w'.cell? ⟨w.heap.size, 1, none⟩ = some (.int .i64 f) ∧ w'.cell? ⟨w.heap.size, 2, none⟩ = some (.int .i64 t) ∧ w'.heap[gm]? = some (.map (af.encs 0 M).toArray M.length)) (go_keep) (fail)
  have KD := gz (show af.Keeps W0 X.drew from KB.out)
  have MD := gz (show af.MapAt X.drew gm M from MB.out)
  have GD := gz (show ab.GB w X.drew gm from GBx.out.below (aX (Below.refl _ _)))
  have ND := gz (show X.drew.heap[w.heap.size]? = some (.cells #[.int .i64 n, .int .i64 f, .int .i64 t] 96 (0, 0)) from NB.out)
  clear hmp hmp2 hlk KB MB GBx NB q0 q1 q2 p0
  generalize X.drew = Y at KD MD GD ND ⊢
  have h0 := h
  unfold af.tkF at h0
  cases hfm : af.findM M n f t with
  | some bv =>
   rw [hfm] at h0
   obtain ⟨rfl, rfl⟩ := Prod.mk.inj (Option.some.inj h0)
   obtain rfl : v1 = bv := by rw [← hv1.out, hfm]; rfl
   obtain rfl : v2 = true := by rw [← hv2.out, hfm]; rfl
   clear h h0 hfm hv1 hv2
   go_wp2
   go_ret
   exact ⟨rfl, MD.out, GD.out⟩
  | none =>
   rw [hfm] at h0
   obtain ⟨⟨r1, M1⟩, hl, h0⟩ := Option.bind_eq_some_iff.mp h0
   dsimp only at h0
   obtain ⟨hno, h0⟩ := ab.ite_some h0
   obtain ⟨rfl, rfl⟩ := Prod.mk.inj (Option.some.inj h0)
   obtain rfl : v1 = false := by rw [← hv1.out, hfm]; rfl
   obtain rfl : v2 = false := by rw [← hv2.out, hfm]; rfl
   have HLk := gz hl
   have HNO := gz hno
   clear h h0 hfm hl hno hv1 hv2
   go_wp2_with fail
   refine (HL x n f t M r1 M1 (j + 1) b Y HLk.out HN.out KD.out MD.out).mono ?_
   rintro ee w4 ⟨rfl, hm4, hg4⟩
   have K4 := gz (KD.out.gb MD.out hg4)
   have M4 := gz hm4
   have G4 := gz (GD.out.trans hg4)
   have N4 := gz ((hg4.block w.heap.size (bB ND.out) (fun e => by
    have e2 := Option.some.inj e
    have h1 := ND.out
    rw [e2, MD.out] at h1
    cases h1)).trans ND.out)
   clear hm4 hg4 KD MD GD ND
   have q0 := (ah N4.out 0).trans rfl
   have q1 := (ah N4.out 1).trans rfl
   have q2 := (ah N4.out 2).trans rfl
   have p0 := K4.out.cell ((ah hm0 1).trans rfl)
   have hmp : w4.heap[gm]? = some (.map (af.encs 0 M1).toArray M1.length) := M4.out
   have hmp2 : w4.drew.heap[gm]? = some (.map (af.encs 0 M1).toArray M1.length) := M4.out
   have hup : ∀ w' : World, w'.heap[gm]? = some (.map (af.encs 0 M1).toArray M1.length) → (Instr.mapUpdate 67 (.map (some gm)) (.agg #[.int .i64 n, .int .i64 f, .int .i64 t]) (.bool r1)).run Tryz.prog w' = .ok () (af.mapPut w' gm (M1 ++ [⟨n, f, t, r1⟩])) := fun w' hw => af.updateR (M := M1) hw n f t r1 HNO.out
   go_wp2_with fail
   refine gp (n := 7) (S := fun w' => w'.cell? ⟨gmm, 1, none⟩ = some (.map (some gm)) ∧ w'.cell? ⟨w.heap.size, 0, none⟩ = some (.int .i64 n) ∧ w'.cell? ⟨w.heap.size, 1, none⟩ = some (.int .i64 f) ∧ w'.cell? ⟨w.heap.size, 2, none⟩ = some (.int .i64 t)) (ds := [6]) #[false, false, false, false, false, false, false] Z5 rfl rfl ⟨p0, q0, q1, q2⟩ (fun hHeld => ?_)
   refine pU 0 35 (hc := Z5) (h := ?_)
   refine pU 1 36 (hc := Z5) (h := ?_)
   refine pU 2 37 (hc := Z5) (h := ?_)
   refine take_ (i := 3) (N := some 38) (v := ?_) (a' := ?_) #[true, true, true, true, false, false, false] rfl rfl Z5 (fun _ _ _ h => h) (Or.inl ⟨by rfl, ?_⟩) hHeld ?_ ?_
   rotate_left
   ·rintro w' ⟨s0, s1, s2, s3⟩
    go_simp
    with_reducible rfl
   rotate_left
   ·simp only [Act.put, List.setIfInBounds_toArray, List.set_cons_zero, List.set_cons_succ, dq, dJ]
    rfl
   refine take_ (i := 4) (N := some 39) (v := ?_) (a' := ?_) #[true, true, true, true, true, false, false] rfl rfl Z5 (fun _ _ _ h => h) (Or.inl ⟨by rfl, ?_⟩) hHeld ?_ ?_
   rotate_left
   ·rintro w' ⟨s0, s1, s2, s3⟩
    go_simp
    with_reducible rfl
   rotate_left
   ·simp only [Act.put, List.setIfInBounds_toArray, List.set_cons_zero, List.set_cons_succ, dq, dJ]
    rfl
   refine pU 5 40 (hc := Z5) (h := ?_)
   refine last_ (i := 6) (N := none) #[true, true, true, true, true, true, true] rfl rfl Z5 Z27 (fun K hK => ?_)
   refine skip_ (w1 := af.mapPut w4.drew gm (M1 ++ [⟨n, f, t, r1⟩])) (by rfl) rfl ?_ ?_
   ·have hu := hup w4.drew hmp2
    go_simp
    (try rfl)
   refine hK.out _ _ ?_
   clear hK K
   refine done_ Z5 ?_
   go_wp2
   go_ret
   exact ⟨rfl, af.mapPut_at (w := w4.drew) M4.out, (G4.out.below (aX (Below.refl _ _))).put _⟩
def af.setHit (c : Int) : List S51 → Bool
 | [] => false
 | r :: l => if r.f0 ≤ c then (if c ≤ r.f1 then true else af.setHit c l) else af.setHit c l
def af.altL (takes : af.TKF) (kind f t : Int) : List S25 → Int → List af.E4 → Option (Bool × List af.E4)
 | [], _, M => some (kind == 5, M)
 | y :: l, n, M => (takes y n f t M).bind fun r => if (r.1 == (kind == 4)) = true then some (kind == 4, r.2) else af.altL takes kind f t l (n + (af.sizeT y : Nat)) r.2
def af.starL (takes : af.TKF) (x y : S25) (n f t : Int) : Nat → Int → List af.E4 → Option (Bool × List af.E4)
 | 0, _, _ => none
 | j + 1, k, M => if k ≤ t then (takes y (n + 1) f k M).bind fun r => if r.1 = true then (takes x n k t r.2).bind fun q => if q.1 = true then some (true, q.2) else af.starL takes x y n f t j (wrap64 (k + 1)) q.2 else af.starL takes x y n f t j (wrap64 (k + 1)) r.2 else some (false, M)
def af.lkF (row : List Int) (takes : af.TKF) : af.TKF := fun x n f t M =>
 if x.f0 = 1 then some (f == t, M)
 else if x.f0 = 2 then (if t = wrap64 (f + 1) then (if 0 ≤ f then (row[f.toNat]?).bind fun c => some (af.setHit c x.f1, M) else none) else some (false, M))
 else if x.f0 = 3 then none
 else if x.f0 = 4 then af.altL takes 4 f t x.f2 (n + 1) M
 else if x.f0 = 5 then af.altL takes 5 f t x.f2 (n + 1) M
 else if x.f0 = 6 then (match x.f2 with | [] => none | y :: _ => (takes y (n + 1) f t M).bind fun r => some (!r.1, r.2))
 else if x.f0 = 7 then (if f = t then some (true, M) else match x.f2 with | [] => none | y :: _ => af.starL takes x y n f t 1000 (wrap64 (f + 1)) M)
 else some (false, M)
theorem af.drop_cons_of {x2 : List S25} {i : Nat} {y : S25} (h : x2[i]? = some y) : x2.drop i = y :: x2.drop (i + 1) := by
 obtain ⟨hl, rfl⟩ := List.getElem?_eq_some_iff.1 h
 exact List.drop_eq_getElem_cons hl
theorem af.sizeL_append : ∀ l m : List S25, af.sizeL (l ++ m) = af.sizeL l + af.sizeL m
 | [], m => by simp [af.sizeL]
 | x :: l, m => by rw [List.cons_append, af.sizeL, af.sizeL, af.sizeL_append l m, Nat.add_assoc]
theorem af.sizeL_take {x2 : List S25} {i : Nat} {y : S25} (h : x2[i]? = some y) : ((af.sizeL (x2.take (i + 1)) : Nat) : Int) = (af.sizeL (x2.take i) : Nat) + (af.sizeT y : Nat) := by
 obtain ⟨hl, rfl⟩ := List.getElem?_eq_some_iff.1 h
 rw [List.take_succ_eq_append_getElem hl, af.sizeL_append]
 simp [af.sizeL]
theorem af.setHit_drop {l : List S51} {i : Nat} {y : S51} {c : Int} (h : l[i]? = some y) : af.setHit c (l.drop i) = if y.f0 ≤ c then (if c ≤ y.f1 then true else af.setHit c (l.drop (i + 1))) else af.setHit c (l.drop (i + 1)) := by
 obtain ⟨hl, rfl⟩ := List.getElem?_eq_some_iff.1 h
 rw [List.drop_eq_getElem_cons hl, af.setHit]
theorem af.rangeAt {w : World} {A : Option Addr} {n : Nat} {l : List S51} (h : k51.C w A n l) {i : Nat} {y : S51} (hi : l[i]? = some y) (hn : i < n) : ∃ ad, A = some ad ∧ w.cell? (ad.add (i * 2)) = some (.int .i32 y.f0) ∧ w.cell? ⟨(ad.add (i * 2)).block, (ad.add (i * 2)).off + 1, none⟩ = some (.int .i32 y.f1) := by
 have h1 := cI h (i : Int) Z8 Z8
 obtain ⟨hl, rfl⟩ := List.getElem?_eq_some_iff.1 hi
 simpa [aA, hl] using h1
theorem af.Keeps.cellA {W0 w : World} (h : af.Keeps W0 w) {a : Addr} {v : Value} (hc : W0.cell? a = some v) : w.cell? a = some v := by
 unfold World.cell? at hc ⊢
 cases hb : W0.heap[a.block]? with
 | none => simp [hb] at hc
 | some ob =>
  cases ob with
  | cells c t fr => rw [h _ c t fr hb]; simpa [hb] using hc
  | _ => simp [hb] at hc
theorem af.lookSet {W0 : World} {gmm gm : Nat} {row : List Int} (HM : af.MatAt W0 gmm gm row) (x1 : List S51) (x2 : List S25) (n f t : Int) (M : List af.E4) (r : Bool) (M' : List af.E4) (j b : Nat) (w : World)
  (h : (if t = wrap64 (f + 1) then (if 0 ≤ f then (row[f.toNat]?).bind fun c => some (af.setHit c x1, M) else none) else some (false, M)) = some (r, M'))
  (hN : af.NodeAt W0 (j + 1) b ⟨2, x1, x2⟩ n) (hK : af.Keeps W0 w) (hMap : af.MapAt w gm M) :
  Calls Tryz.prog 76 #[.pointer (some ⟨gmm, 0, none⟩), .pointer (some ⟨b, 0, none⟩), .int .i64 f, .int .i64 t] w fun ee w' => ee = .returned (.bool r) ∧ af.MapAt w' gm M' ∧ ab.GB w w' gm := by
 obtain ⟨A1, c1, A2, c2, gk, ck, hb0, hC, hlm, hkids⟩ := hN
 dsimp only at hb0 hC
 have HK := gz hK
 have HMap := gz hMap
 have HC := gz hC
 have HB0 := gz hb0
 have p0 := hK.cell ((ah hb0 0).trans rfl)
 have p1 := hK.cell ((ah hb0 1).trans rfl)
 have HNM := gz hlm
 clear hkids hC hlm hMap hK hb0
 by_cases kt : t = wrap64 (f + 1)
 ·have bt : (t != wrap64 (f + 1)) = false := by simp [kt]
  rw [if_pos kt] at h
  obtain ⟨h0, h⟩ := ab.ite_some h
  obtain ⟨ch, hc, h⟩ := Option.bind_eq_some_iff.mp h
  obtain ⟨rfl, rfl⟩ := Prod.mk.inj (Option.some.inj h)
  obtain ⟨i, rfl⟩ := Int.eq_ofNat_of_zero_le h0
  rw [Int.toNat_natCast] at hc
  obtain ⟨A, c, hm0, hlc, hlm, hrow⟩ := HM
  obtain ⟨gr, o, rfl, hch⟩ := hrow i ch hc
  have hlt : i < row.length := (List.getElem?_eq_some_iff.1 hc).1
  obtain ⟨nr, hnr⟩ : ∃ nr, row.length = nr := ⟨_, rfl⟩
  rw [hnr] at hm0 hlm hlt
  have HM0 := gz hm0
  have HCH := gz hch
  have hw0 : wrap64 ((i : Int) + 1) = (i : Int) + 1 := by unfold wrap64; omega
  rw [hw0] at bt
  clear hw0
  replace kt := gz kt
  have HC1 := gz (show ∀ y m, x1[m]? = some y → ∃ ad, A1 = some ad ∧ W0.cell? (ad.add (m * 2)) = some (.int .i32 y.f0) ∧ W0.cell? ⟨(ad.add (m * 2)).block, (ad.add (m * 2)).off + 1, none⟩ = some (.int .i32 y.f1) from fun y m hm => af.rangeAt HC.out hm (List.getElem?_eq_some_iff.1 hm).1)
  obtain ⟨n1, hn1⟩ : ∃ n1, x1.length = n1 := ⟨_, rfl⟩
  have HN1 := gz hn1
  rw [hn1] at p1
  have HL1 := gz (show (n1 : Int) ≤ 9223372036854775807 from by have := HNM.out; dsimp only at this; omega)
  clear h hrow hc hnr hm0 hch hn1 HC HB0 h0
  go_enter Tryz.func76, Tryz.ntmps76
  go_wp2
  go_loopg [10, 36] n1 (fun gk v10 v36 wr => ∃ (m : Nat), m ≤ n1 ∧ n1 - m ≤ gk ∧ v36 = .int .i64 (m : Int) ∧ aa (af.setHit ch (x1.drop m) = af.setHit ch x1) ∧ aa (Below w.heap.size w wr))
  case atStart => exact ⟨0, Nat.zero_le _, Z8, rfl, ⟨Z24⟩, ⟨Below.refl _ _⟩⟩
  case round =>
   clear p0 p1
   obtain ⟨m, hm, hgk, rfl, HS, HB⟩ := hrel
   have K1 := gz (HK.out.below HB.out)
   by_cases hlt1 : m < n1
   ·have d1 : decide ((m : Int) < (n1 : Int)) = true := decide_eq_true Z8
    obtain ⟨⟨r0, r1⟩, hy⟩ : ∃ y, x1[m]? = some y := ⟨_, List.getElem?_eq_getElem (by have := HN1.out; omega)⟩
    obtain ⟨ad, rfl, hr0, hr1⟩ := HC1.out _ _ hy
    dsimp only at hr0 hr1
    have e0 := K1.out.cellA hr0
    have e1 := K1.out.cellA hr1
    have hs := HS.out
    rw [af.setHit_drop hy] at hs
    have HSS := gz hs
    have z0 : (0 : Int) ≤ (m : Int) := by omega
    have z1 : (m : Int) < (n1 : Int) := by omega
    have hw1 := gz (show wrap64 ((m : Int) + 1) = ((m + 1 : Nat) : Int) from by unfold wrap64; have := HL1.out; omega)
    clear hs HS hy hr0 hr1
    go_upto_region 10 with (fail)
    clear e0 e1
    have BX := gz (ak (Below.refl wr.heap.size wr) (.cells #[.int .i32 r0, .int .i32 r1] 51))
    have NX := gz (a8 wr (.cells #[.int .i32 r0, .int .i32 r1] 51))
    have BW := gz (ak HB.out (.cells #[.int .i32 r0, .int .i32 r1] 51))
    generalize wr.alloc (.cells #[.int .i32 r0, .int .i32 r1] 51) = X at BX NX BW ⊢
    have KX := gz (K1.out.below BX.out)
    have p0 := (ah NX.out 0).trans rfl
    have p1 := (ah NX.out 1).trans rfl
    have p2 := KX.out.cell ((ah HM0.out 0).trans rfl)
    have p3 := KX.out.cell HCH.out
    have y0 : (0 : Int) ≤ (i : Int) := by omega
    have y1 : (i : Int) < (nr : Int) := by omega
    have BD := gz (show Below w.heap.size w X.drew from aX BW.out)
    clear KX BX NX BW
    by_cases hg1 : r0 ≤ ch
    ·have g1 : decide (r0 ≤ ch) = true := decide_eq_true hg1
     by_cases hg2 : ch ≤ r1
     ·have g2 : decide (ch ≤ r1) = true := decide_eq_true hg2
      have hs := HSS.out
      rw [if_pos hg1, if_pos hg2] at hs
      have HS5 := gz hs
      clear hs HSS
      refine gp (n := 22) (S := fun w' => w'.cell? ⟨wr.heap.size, 0, none⟩ = some (.int .i32 r0) ∧ w'.cell? ⟨wr.heap.size, 1, none⟩ = some (.int .i32 r1) ∧ w'.cell? ⟨gmm, 0, none⟩ = some (.slice (some ⟨gr, o, none⟩) nr c) ∧ w'.cell? ⟨gr, o + i, none⟩ = some (.int .i32 ch)) (ds := []) #[false, false, false, false, false, false, false, false, false, false, false, false, false, false, false, false, false, false, false, false, false, false] Z5 rfl rfl ⟨p0, p1, p2, p3⟩ (fun hHeld => ?_)
      refine pU 0 40 (hc := Z5) (h := ?_)
      refine take_ (i := 1) (N := some 41) (v := ?_) (a' := ?_) #[true, true, false, false, false, false, false, false, false, false, false, false, false, false, false, false, false, false, false, false, false, false] rfl rfl Z5 (fun _ _ _ h => h) (Or.inl ⟨by rfl, ?_⟩) hHeld ?_ ?_
      rotate_left
      ·rintro w' ⟨s0, s1, s2, s3⟩
       go_simp
       with_reducible rfl
      rotate_left
      ·simp only [Act.put, List.setIfInBounds_toArray, List.set_cons_zero, List.set_cons_succ, dq, dJ]
       rfl
      refine pU 2 42 (hc := Z5) (h := ?_)
      refine pU 3 43 (hc := Z5) (h := ?_)
      refine pU 4 44 (hc := Z5) (h := ?_)
      refine take_ (i := 5) (N := some 45) (v := ?_) (a' := ?_) #[true, true, true, true, true, true, false, false, false, false, false, false, false, false, false, false, false, false, false, false, false, false] rfl rfl Z5 (fun _ _ _ h => h) (Or.inl ⟨by rfl, ?_⟩) hHeld ?_ ?_
      rotate_left
      ·rintro w' ⟨s0, s1, s2, s3⟩
       go_simp
       with_reducible rfl
      rotate_left
      ·simp only [Act.put, List.setIfInBounds_toArray, List.set_cons_zero, List.set_cons_succ, dq, dJ]
       rfl
      refine pU 6 46 (hc := Z5) (h := ?_)
      refine pU 7 47 (hc := Z5) (h := ?_)
      refine take_ (i := 8) (N := some 48) (v := ?_) (a' := ?_) #[true, true, true, true, true, true, true, true, true, false, false, false, false, false, false, false, false, false, false, false, false, false] rfl rfl Z5 (fun _ _ _ h => h) (Or.inl ⟨by rfl, ?_⟩) hHeld ?_ ?_
      rotate_left
      ·rintro w' ⟨s0, s1, s2, s3⟩
       go_simp
       with_reducible rfl
      rotate_left
      ·simp only [Act.put, List.setIfInBounds_toArray, List.set_cons_zero, List.set_cons_succ, dq, dJ]
       rfl
      refine pU 9 49 (hc := Z5) (h := ?_)
      refine pU 10 50 (hc := Z5) (h := ?_)
      refine pU 11 51 (hc := Z5) (h := ?_)
      refine pU 12 52 (hc := Z5) (h := ?_)
      refine pU 13 53 (hc := Z5) (h := ?_)
      refine take_ (i := 14) (N := some 54) (v := ?_) (a' := ?_) #[true, true, true, true, true, true, true, true, true, true, true, true, true, true, true, false, false, false, false, false, false, false] rfl rfl Z5 (fun _ _ _ h => h) (Or.inl ⟨by rfl, ?_⟩) hHeld ?_ ?_
      rotate_left
      ·rintro w' ⟨s0, s1, s2, s3⟩
       go_simp
       with_reducible rfl
      rotate_left
      ·simp only [Act.put, List.setIfInBounds_toArray, List.set_cons_zero, List.set_cons_succ, dq, dJ]
       rfl
      refine pU 15 55 (hc := Z5) (h := ?_)
      refine pU 16 56 (hc := Z5) (h := ?_)
      refine take_ (i := 17) (N := some 57) (v := ?_) (a' := ?_) #[true, true, true, true, true, true, true, true, true, true, true, true, true, true, true, true, true, true, false, false, false, false] rfl rfl Z5 (fun _ _ _ h => h) (Or.inl ⟨by rfl, ?_⟩) hHeld ?_ ?_
      rotate_left
      ·rintro w' ⟨s0, s1, s2, s3⟩
       go_simp
       with_reducible rfl
      rotate_left
      ·simp only [Act.put, List.setIfInBounds_toArray, List.set_cons_zero, List.set_cons_succ, dq, dJ]
       rfl
      refine pU 18 58 (hc := Z5) (h := ?_)
      refine take_ (i := 19) (N := some 59) (v := ?_) (a' := ?_) #[true, true, true, true, true, true, true, true, true, true, true, true, true, true, true, true, true, true, true, true, false, false] rfl rfl Z5 (fun _ _ _ h => h) (Or.inl ⟨by rfl, ?_⟩) hHeld ?_ ?_
      rotate_left
      ·rintro w' ⟨s0, s1, s2, s3⟩
       go_simp
       with_reducible rfl
      rotate_left
      ·simp only [Act.put, List.setIfInBounds_toArray, List.set_cons_zero, List.set_cons_succ, dq, dJ]
       rfl
      refine pU 20 60 (hc := Z5) (h := ?_)
      refine pU 21 61 (hc := Z5) (h := ?_)
      refine done_ Z5 ?_
      clear p0 p1 p2 p3
      go_wp2
      go_ret
      exact ⟨by rw [← HS5.out]; rfl, HMap.out.below BD.out, ab.GB.of BD.out gm⟩
     ·have g2 : decide (ch ≤ r1) = false := decide_eq_false hg2
      have hs := HSS.out
      rw [if_pos hg1, if_neg hg2] at hs
      have HS5 := gz hs
      clear hs HSS
      refine gp (n := 22) (S := fun w' => w'.cell? ⟨wr.heap.size, 0, none⟩ = some (.int .i32 r0) ∧ w'.cell? ⟨wr.heap.size, 1, none⟩ = some (.int .i32 r1) ∧ w'.cell? ⟨gmm, 0, none⟩ = some (.slice (some ⟨gr, o, none⟩) nr c) ∧ w'.cell? ⟨gr, o + i, none⟩ = some (.int .i32 ch)) (ds := []) #[false, false, false, false, false, false, false, false, false, false, false, false, false, false, false, false, false, false, false, false, false, false] Z5 rfl rfl ⟨p0, p1, p2, p3⟩ (fun hHeld => ?_)
      refine pU 0 40 (hc := Z5) (h := ?_)
      refine take_ (i := 1) (N := some 41) (v := ?_) (a' := ?_) #[true, true, false, false, false, false, false, false, false, false, false, false, false, false, false, false, false, false, false, false, false, false] rfl rfl Z5 (fun _ _ _ h => h) (Or.inl ⟨by rfl, ?_⟩) hHeld ?_ ?_
      rotate_left
      ·rintro w' ⟨s0, s1, s2, s3⟩
       go_simp
       with_reducible rfl
      rotate_left
      ·simp only [Act.put, List.setIfInBounds_toArray, List.set_cons_zero, List.set_cons_succ, dq, dJ]
       rfl
      refine pU 2 42 (hc := Z5) (h := ?_)
      refine pU 3 43 (hc := Z5) (h := ?_)
      refine pU 4 44 (hc := Z5) (h := ?_)
      refine take_ (i := 5) (N := some 45) (v := ?_) (a' := ?_) #[true, true, true, true, true, true, false, false, false, false, false, false, false, false, false, false, false, false, false, false, false, false] rfl rfl Z5 (fun _ _ _ h => h) (Or.inl ⟨by rfl, ?_⟩) hHeld ?_ ?_
      rotate_left
      ·rintro w' ⟨s0, s1, s2, s3⟩
       go_simp
       with_reducible rfl
      rotate_left
      ·simp only [Act.put, List.setIfInBounds_toArray, List.set_cons_zero, List.set_cons_succ, dq, dJ]
       rfl
      refine pU 6 46 (hc := Z5) (h := ?_)
      refine pU 7 47 (hc := Z5) (h := ?_)
      refine take_ (i := 8) (N := some 48) (v := ?_) (a' := ?_) #[true, true, true, true, true, true, true, true, true, false, false, false, false, false, false, false, false, false, false, false, false, false] rfl rfl Z5 (fun _ _ _ h => h) (Or.inl ⟨by rfl, ?_⟩) hHeld ?_ ?_
      rotate_left
      ·rintro w' ⟨s0, s1, s2, s3⟩
       go_simp
       with_reducible rfl
      rotate_left
      ·simp only [Act.put, List.setIfInBounds_toArray, List.set_cons_zero, List.set_cons_succ, dq, dJ]
       rfl
      refine pU 9 49 (hc := Z5) (h := ?_)
      refine pU 10 50 (hc := Z5) (h := ?_)
      refine pU 11 51 (hc := Z5) (h := ?_)
      refine pU 12 52 (hc := Z5) (h := ?_)
      refine pU 13 53 (hc := Z5) (h := ?_)
      refine take_ (i := 14) (N := some 54) (v := ?_) (a' := ?_) #[true, true, true, true, true, true, true, true, true, true, true, true, true, true, true, false, false, false, false, false, false, false] rfl rfl Z5 (fun _ _ _ h => h) (Or.inl ⟨by rfl, ?_⟩) hHeld ?_ ?_
      rotate_left
      ·rintro w' ⟨s0, s1, s2, s3⟩
       go_simp
       with_reducible rfl
      rotate_left
      ·simp only [Act.put, List.setIfInBounds_toArray, List.set_cons_zero, List.set_cons_succ, dq, dJ]
       rfl
      refine pU 15 55 (hc := Z5) (h := ?_)
      refine pU 16 56 (hc := Z5) (h := ?_)
      refine take_ (i := 17) (N := some 57) (v := ?_) (a' := ?_) #[true, true, true, true, true, true, true, true, true, true, true, true, true, true, true, true, true, true, false, false, false, false] rfl rfl Z5 (fun _ _ _ h => h) (Or.inl ⟨by rfl, ?_⟩) hHeld ?_ ?_
      rotate_left
      ·rintro w' ⟨s0, s1, s2, s3⟩
       go_simp
       with_reducible rfl
      rotate_left
      ·simp only [Act.put, List.setIfInBounds_toArray, List.set_cons_zero, List.set_cons_succ, dq, dJ]
       rfl
      refine pU 18 58 (hc := Z5) (h := ?_)
      refine take_ (i := 19) (N := some 59) (v := ?_) (a' := ?_) #[true, true, true, true, true, true, true, true, true, true, true, true, true, true, true, true, true, true, true, true, false, false] rfl rfl Z5 (fun _ _ _ h => h) (Or.inl ⟨by rfl, ?_⟩) hHeld ?_ ?_
      rotate_left
      ·rintro w' ⟨s0, s1, s2, s3⟩
       go_simp
       with_reducible rfl
      rotate_left
      ·simp only [Act.put, List.setIfInBounds_toArray, List.set_cons_zero, List.set_cons_succ, dq, dJ]
       rfl
      refine pU 20 60 (hc := Z5) (h := ?_)
      refine pU 21 61 (hc := Z5) (h := ?_)
      refine done_ Z5 ?_
      clear p0 p1 p2 p3
      go_wp2
      go_roundg (n1 - (m + 1))
      case measure => omega
      case rel => exact ⟨m + 1, Z8, Nat.le_refl _, by rw [hw1.out], HS5, BD⟩
    ·have g1 : decide (r0 ≤ ch) = false := decide_eq_false hg1
     have hs := HSS.out
     rw [if_neg hg1] at hs
     have HS5 := gz hs
     clear hs HSS
     refine gp (n := 22) (S := fun w' => w'.cell? ⟨wr.heap.size, 0, none⟩ = some (.int .i32 r0) ∧ w'.cell? ⟨wr.heap.size, 1, none⟩ = some (.int .i32 r1) ∧ w'.cell? ⟨gmm, 0, none⟩ = some (.slice (some ⟨gr, o, none⟩) nr c) ∧ w'.cell? ⟨gr, o + i, none⟩ = some (.int .i32 ch)) (ds := []) #[false, false, false, false, false, false, false, false, false, false, false, false, false, false, false, false, false, false, false, false, false, false] Z5 rfl rfl ⟨p0, p1, p2, p3⟩ (fun hHeld => ?_)
     refine pU 0 40 (hc := Z5) (h := ?_)
     refine take_ (i := 1) (N := some 41) (v := ?_) (a' := ?_) #[true, true, false, false, false, false, false, false, false, false, false, false, false, false, false, false, false, false, false, false, false, false] rfl rfl Z5 (fun _ _ _ h => h) (Or.inl ⟨by rfl, ?_⟩) hHeld ?_ ?_
     rotate_left
     ·rintro w' ⟨s0, s1, s2, s3⟩
      go_simp
      with_reducible rfl
     rotate_left
     ·simp only [Act.put, List.setIfInBounds_toArray, List.set_cons_zero, List.set_cons_succ, dq, dJ]
      rfl
     refine pU 2 42 (hc := Z5) (h := ?_)
     refine pU 3 43 (hc := Z5) (h := ?_)
     refine pU 4 44 (hc := Z5) (h := ?_)
     refine take_ (i := 5) (N := some 45) (v := ?_) (a' := ?_) #[true, true, true, true, true, true, false, false, false, false, false, false, false, false, false, false, false, false, false, false, false, false] rfl rfl Z5 (fun _ _ _ h => h) (Or.inl ⟨by rfl, ?_⟩) hHeld ?_ ?_
     rotate_left
     ·rintro w' ⟨s0, s1, s2, s3⟩
      go_simp
      with_reducible rfl
     rotate_left
     ·simp only [Act.put, List.setIfInBounds_toArray, List.set_cons_zero, List.set_cons_succ, dq, dJ]
      rfl
     refine pU 6 46 (hc := Z5) (h := ?_)
     refine pU 7 47 (hc := Z5) (h := ?_)
     refine take_ (i := 8) (N := some 48) (v := ?_) (a' := ?_) #[true, true, true, true, true, true, true, true, true, false, false, false, false, false, false, false, false, false, false, false, false, false] rfl rfl Z5 (fun _ _ _ h => h) (Or.inl ⟨by rfl, ?_⟩) hHeld ?_ ?_
     rotate_left
     ·rintro w' ⟨s0, s1, s2, s3⟩
      go_simp
      with_reducible rfl
     rotate_left
     ·simp only [Act.put, List.setIfInBounds_toArray, List.set_cons_zero, List.set_cons_succ, dq, dJ]
      rfl
     refine pU 9 49 (hc := Z5) (h := ?_)
     refine pU 10 50 (hc := Z5) (h := ?_)
     refine pV 11 51 (hc := Z5) (h := ?_)
     refine pV 12 52 (hc := Z5) (h := ?_)
     refine pV 13 53 (hc := Z5) (h := ?_)
     refine pV 14 54 (hc := Z5) (h := ?_)
     refine pV 15 55 (hc := Z5) (h := ?_)
     refine pV 16 56 (hc := Z5) (h := ?_)
     refine pV 17 57 (hc := Z5) (h := ?_)
     refine pV 18 58 (hc := Z5) (h := ?_)
     refine pV 19 59 (hc := Z5) (h := ?_)
     refine pV 20 60 (hc := Z5) (h := ?_)
     refine pU 21 61 (hc := Z5) (h := ?_)
     refine done_ Z5 ?_
     clear p0 p1 p2 p3
     go_wp2
     go_roundg (n1 - (m + 1))
     case measure => omega
     case rel => exact ⟨m + 1, Z8, Nat.le_refl _, by rw [hw1.out], HS5, BD⟩
   ·have d1 : decide ((m : Int) < (n1 : Int)) = false := decide_eq_false Z8
    have hs := HS.out
    rw [List.drop_eq_nil_of_le (by have := HN1.out; omega), af.setHit] at hs
    replace hs := gz hs
    clear HS
    go_wp2
    go_ret
    exact ⟨by rw [← hs.out]; rfl, HMap.out.below HB.out, ab.GB.of HB.out gm⟩
 ·have bt : (t != wrap64 (f + 1)) = true := by simp [kt]
  rw [if_neg kt] at h
  obtain ⟨rfl, rfl⟩ := Prod.mk.inj (Option.some.inj h)
  replace kt := gz kt
  clear h
  go_enter Tryz.func76, Tryz.ntmps76
  go_wp2
  go_ret
  exact ⟨rfl, HMap.out, ab.GB.refl _ _⟩
theorem af.lookR {W0 : World} {gmm gm : Nat} {row : List Int} (HM : af.MatAt W0 gmm gm row) {takes : af.TKF} (HT : af.MCall W0 gmm gm 51 takes) : af.MCall W0 gmm gm 76 (af.lkF row takes) := by
 intro x n f t M r M' j b w h hN hK hMap
 cases j with
 | zero => exact absurd hN (by simp [af.NodeAt])
 | succ j =>
  have HN := gz hN
  obtain ⟨A1, c1, A2, c2, gk, ck, hb0, hC, hlm, hkids⟩ := hN
  have HK := gz hK
  have HMap := gz hMap
  have HKD := gz hkids
  have HC := gz hC
  have HLM := gz hlm
  have HB0 := gz hb0
  have p0 := hK.cell ((ah hb0 0).trans rfl)
  clear hkids hC hlm hMap hK
  obtain ⟨x0, x1, x2⟩ := x
  dsimp only at p0
  unfold af.lkF at h
  dsimp only at h
  by_cases k1 : x0 = 1
  ·have b1 : (x0 == 1) = true := beq_iff_eq.mpr k1
   rw [if_pos k1] at h
   obtain ⟨rfl, rfl⟩ := Prod.mk.inj (Option.some.inj h)
   replace k1 := gz k1
   clear h hb0
   go_enter Tryz.func76, Tryz.ntmps76
   go_wp2
   go_ret
   exact ⟨rfl, HMap.out, ab.GB.refl _ _⟩
  ·have b1 : (x0 == 1) = false := beq_eq_false_iff_ne.mpr k1
   rw [if_neg k1] at h
   replace k1 := gz k1
   by_cases k2 : x0 = 2
   ·subst k2
    rw [if_pos rfl] at h
    exact af.lookSet HM x1 x2 n f t M r M' j b w h HN.out HK.out HMap.out
   ·have b2 : (x0 == 2) = false := beq_eq_false_iff_ne.mpr k2
    rw [if_neg k2] at h
    replace k2 := gz k2
    by_cases k3 : x0 = 3
    ·rw [if_pos k3] at h
     cases h
    ·have b3 : (x0 == 3) = false := beq_eq_false_iff_ne.mpr k3
     rw [if_neg k3] at h
     replace k3 := gz k3
     by_cases k4 : x0 = 4
     ·rw [if_pos k4] at h
      subst k4
      have HS := gz (show af.altL takes 4 f t (x2.drop 0) (n + 1 + (af.sizeL (x2.take 0) : Nat)) M = some (r, M') from by simpa [af.sizeL] using h)
      have q4 := (ah HB0.out 4).trans rfl
      dsimp only at q4
      have Q4 := gz q4
      clear h hb0 q4 p0
      have Q0 := gz (show W0.cell? ⟨b, 0, none⟩ = some (.int .i64 4) from (ah HB0.out 0).trans rfl)
      have p4 := HK.out.cell Q4.out
      have p0 := HK.out.cell Q0.out
      go_enter Tryz.func76, Tryz.ntmps76
      go_wp2
      go_loopg [12, 81] x2.length (fun gk v12 v81 wr => ∃ (i : Nat) (M1 : List af.E4), i ≤ x2.length ∧ x2.length - i ≤ gk ∧ v81 = .int .i64 (i : Int) ∧ aa (af.altL takes 4 f t (x2.drop i) (n + 1 + (af.sizeL (x2.take i) : Nat)) M1 = some (r, M')) ∧ aa (af.MapAt wr gm M1) ∧ aa (ab.GB w wr gm))
      case atStart => exact ⟨0, M, Nat.zero_le _, Z8, rfl, HS, HMap, ⟨ab.GB.refl _ _⟩⟩
      case round =>
       clear HS p0 p4
       obtain ⟨i, M1, hi, hgk, rfl, HS, HM1, HG⟩ := hrel
       have K1 := gz (HK.out.gb HMap.out HG.out)
       have p4 := K1.out.cell Q4.out
       have p0 := K1.out.cell Q0.out
       by_cases hlt : i < x2.length
       ·have d1 : decide ((i : Int) < (x2.length : Int)) = true := decide_eq_true Z8
        obtain ⟨y, hy⟩ : ∃ y, x2[i]? = some y := ⟨_, List.getElem?_eq_getElem hlt⟩
        obtain ⟨g, b', hgk2, hcell, hny⟩ := HKD.out i y hy
        subst hgk2
        have p5 := K1.out.cell hcell
        have HNy := gz hny
        have hs := HS.out
        rw [af.drop_cons_of hy, af.altL] at hs
        obtain ⟨⟨r1, M2⟩, h1, hs⟩ := Option.bind_eq_some_iff.mp hs
        have H1 := gz h1
        have HSS := gz hs
        have HTK := gz (af.sizeL_take hy)
        clear h1 hs HS hcell hny hy
        have z0 : (0 : Int) ≤ (i : Int) := by omega
        have z1 : (i : Int) < (x2.length : Int) := by omega
        have hw1 := gz (show wrap64 ((i : Int) + 1) = ((i + 1 : Nat) : Int) from by unfold wrap64; have := HLM.out; omega)
        have KD := gz (show af.Keeps W0 wr.drew from K1.out)
        have MD := gz (show af.MapAt wr.drew gm M1 from HM1.out)
        have GD := gz (show ab.GB w wr.drew gm from HG.out.below (aX (Below.refl _ _)))
        go_wp2_with fail
        go_region_held3 (fun w' => w'.cell? ⟨b, 0, none⟩ = some (.int .i64 4)) (go_keep) ((go_at_call 51; refine (HT y _ f t M1 r1 M2 j b' _ H1.out HNy.out KD.out MD.out).mono ?_; rintro ee w4 ⟨rfl, hm4, hg4⟩; have M4 := gz hm4; have G4 := gz (GD.out.trans hg4); have e0 := (HK.out.gb HMap.out G4.out).cell Q0.out))
        have hs := HSS.out
        clear HSS p0 p4 p5 hm4 hg4
        have p0 := e0
        cases r1 with
        | true =>
         have hx : (true == (((4 : Int)) == 4)) = true := by decide
         rw [if_pos Z27] at hs
         obtain ⟨rfl, rfl⟩ := Prod.mk.inj (Option.some.inj hs)
         clear hs
         go_wp2
         go_ret
         exact ⟨rfl, M4.out, G4.out⟩
        | false =>
         rw [if_neg Z27] at hs
         have HS5 := gz hs
         clear hs
         go_wp2
         go_roundg (x2.length - (i + 1))
         case measure => omega
         case rel => exact ⟨i + 1, M2, Z8, Nat.le_refl _, by rw [hw1.out], ⟨by rw [HTK.out]; simpa [Int.add_assoc] using HS5.out⟩, M4, G4⟩
       ·have d1 : decide ((i : Int) < (x2.length : Int)) = false := decide_eq_false Z8
        have hs := HS.out
        rw [List.drop_eq_nil_of_le Z8, af.altL] at hs
        obtain ⟨rfl, rfl⟩ := Prod.mk.inj (Option.some.inj hs)
        clear hs
        go_wp2
        go_ret
        exact ⟨rfl, HM1.out, HG.out⟩
     ·have b4 : (x0 == 4) = false := beq_eq_false_iff_ne.mpr k4
      rw [if_neg k4] at h
      replace k4 := gz k4
      by_cases k5 : x0 = 5
      ·rw [if_pos k5] at h
       subst k5
       have HS := gz (show af.altL takes 5 f t (x2.drop 0) (n + 1 + (af.sizeL (x2.take 0) : Nat)) M = some (r, M') from by simpa [af.sizeL] using h)
       have q4 := (ah HB0.out 4).trans rfl
       dsimp only at q4
       have Q4 := gz q4
       clear h hb0 q4 p0
       have Q0 := gz (show W0.cell? ⟨b, 0, none⟩ = some (.int .i64 5) from (ah HB0.out 0).trans rfl)
       have p4 := HK.out.cell Q4.out
       have p0 := HK.out.cell Q0.out
       go_enter Tryz.func76, Tryz.ntmps76
       go_wp2
       go_loopg [12, 81] x2.length (fun gk v12 v81 wr => ∃ (i : Nat) (M1 : List af.E4), i ≤ x2.length ∧ x2.length - i ≤ gk ∧ v81 = .int .i64 (i : Int) ∧ aa (af.altL takes 5 f t (x2.drop i) (n + 1 + (af.sizeL (x2.take i) : Nat)) M1 = some (r, M')) ∧ aa (af.MapAt wr gm M1) ∧ aa (ab.GB w wr gm))
       case atStart => exact ⟨0, M, Nat.zero_le _, Z8, rfl, HS, HMap, ⟨ab.GB.refl _ _⟩⟩
       case round =>
        clear HS p0 p4
        obtain ⟨i, M1, hi, hgk, rfl, HS, HM1, HG⟩ := hrel
        have K1 := gz (HK.out.gb HMap.out HG.out)
        have p4 := K1.out.cell Q4.out
        have p0 := K1.out.cell Q0.out
        by_cases hlt : i < x2.length
        ·have d1 : decide ((i : Int) < (x2.length : Int)) = true := decide_eq_true Z8
         obtain ⟨y, hy⟩ : ∃ y, x2[i]? = some y := ⟨_, List.getElem?_eq_getElem hlt⟩
         obtain ⟨g, b', hgk2, hcell, hny⟩ := HKD.out i y hy
         subst hgk2
         have p5 := K1.out.cell hcell
         have HNy := gz hny
         have hs := HS.out
         rw [af.drop_cons_of hy, af.altL] at hs
         obtain ⟨⟨r1, M2⟩, h1, hs⟩ := Option.bind_eq_some_iff.mp hs
         have H1 := gz h1
         have HSS := gz hs
         have HTK := gz (af.sizeL_take hy)
         clear h1 hs HS hcell hny hy
         have z0 : (0 : Int) ≤ (i : Int) := by omega
         have z1 : (i : Int) < (x2.length : Int) := by omega
         have hw1 := gz (show wrap64 ((i : Int) + 1) = ((i + 1 : Nat) : Int) from by unfold wrap64; have := HLM.out; omega)
         have KD := gz (show af.Keeps W0 wr.drew from K1.out)
         have MD := gz (show af.MapAt wr.drew gm M1 from HM1.out)
         have GD := gz (show ab.GB w wr.drew gm from HG.out.below (aX (Below.refl _ _)))
         go_wp2_with fail
         go_region_held3 (fun w' => w'.cell? ⟨b, 0, none⟩ = some (.int .i64 5)) (go_keep) ((go_at_call 51; refine (HT y _ f t M1 r1 M2 j b' _ H1.out HNy.out KD.out MD.out).mono ?_; rintro ee w4 ⟨rfl, hm4, hg4⟩; have M4 := gz hm4; have G4 := gz (GD.out.trans hg4); have e0 := (HK.out.gb HMap.out G4.out).cell Q0.out))
         have hs := HSS.out
         clear HSS p0 p4 p5 hm4 hg4
         have p0 := e0
         cases r1 with
         | true =>
          have hx : (true == (((5 : Int)) == 4)) = false := by decide
          rw [if_neg Z27] at hs
          have HS5 := gz hs
          clear hs
          go_wp2
          go_roundg (x2.length - (i + 1))
          case measure => omega
          case rel => exact ⟨i + 1, M2, Z8, Nat.le_refl _, by rw [hw1.out], ⟨by rw [HTK.out]; simpa [Int.add_assoc] using HS5.out⟩, M4, G4⟩
         | false =>
          rw [if_pos Z27] at hs
          obtain ⟨rfl, rfl⟩ := Prod.mk.inj (Option.some.inj hs)
          clear hs
          go_wp2
          go_ret
          exact ⟨rfl, M4.out, G4.out⟩
        ·have d1 : decide ((i : Int) < (x2.length : Int)) = false := decide_eq_false Z8
         have hs := HS.out
         rw [List.drop_eq_nil_of_le Z8, af.altL] at hs
         obtain ⟨rfl, rfl⟩ := Prod.mk.inj (Option.some.inj hs)
         clear hs
         go_wp2
         go_ret
         exact ⟨rfl, HM1.out, HG.out⟩
      ·have b5 : (x0 == 5) = false := beq_eq_false_iff_ne.mpr k5
       rw [if_neg k5] at h
       replace k5 := gz k5
       by_cases k6 : x0 = 6
       ·have b6 : (x0 == 6) = true := beq_iff_eq.mpr k6
        rw [if_pos k6] at h
        replace k6 := gz k6
        rcases x2 with _ | ⟨y, l⟩
        ·cases h
        ·obtain ⟨⟨r1, M1⟩, ht, h⟩ := Option.bind_eq_some_iff.mp h
         obtain ⟨rfl, rfl⟩ := Prod.mk.inj (Option.some.inj h)
         obtain ⟨g, b', rfl, hcell, hny⟩ := HKD.out 0 y rfl
         have p4 := HK.out.cell ((ah HB0.out 4).trans rfl)
         have p5 := HK.out.cell hcell
         have HTk := gz ht
         have HNy := gz (show af.NodeAt W0 j b' y (n + 1) from by simpa [af.sizeL] using hny)
         obtain ⟨nn, hn⟩ : ∃ nn, (y :: l).length = nn := ⟨_, rfl⟩
         have hnp : (0 : Int) < (nn : Int) := by rw [← hn]; simp
         have hnp2 : 0 < nn := by omega
         have p4 : w.cell? ⟨b, 4, none⟩ = some (.slice (some ⟨g, 0, none⟩) nn ck) := by rw [← hn]; exact p4
         clear h ht hcell hny hb0 hn
         go_enter Tryz.func76, Tryz.ntmps76
         go_wp2_with fail
         refine (HT y (n + 1) f t M r1 M1 j b' w HTk.out HNy.out HK.out HMap.out).mono ?_
         rintro ee w4 ⟨rfl, hm4, hg4⟩
         have M4 := gz hm4
         have G4 := gz hg4
         clear hm4 hg4
         go_wp2
         go_ret
         exact ⟨rfl, M4.out, G4.out⟩
       ·have b6 : (x0 == 6) = false := beq_eq_false_iff_ne.mpr k6
        rw [if_neg k6] at h
        replace k6 := gz k6
        by_cases k7 : x0 = 7
        ·have b7 : (x0 == 7) = true := beq_iff_eq.mpr k7
         rw [if_pos k7] at h
         replace k7 := gz k7
         by_cases kf : f = t
         ·have bf : (f == t) = true := beq_iff_eq.mpr kf
          rw [if_pos kf] at h
          obtain ⟨rfl, rfl⟩ := Prod.mk.inj (Option.some.inj h)
          replace kf := gz kf
          clear h hb0
          go_enter Tryz.func76, Tryz.ntmps76
          go_wp2
          go_ret
          exact ⟨rfl, HMap.out, ab.GB.refl _ _⟩
         ·have bf : (f == t) = false := beq_eq_false_iff_ne.mpr kf
          rw [if_neg kf] at h
          replace kf := gz kf
          rcases x2 with _ | ⟨y, l⟩
          ·cases h
          ·obtain ⟨g, b', rfl, hcell, hny⟩ := HKD.out 0 y rfl
           have HNy := gz (show af.NodeAt W0 j b' y (n + 1) from by simpa [af.sizeL] using hny)
           obtain ⟨nn, hn⟩ : ∃ nn, (y :: l).length = nn := ⟨_, rfl⟩
           have hnp : (0 : Int) < (nn : Int) := by rw [← hn]; simp
           have hnp2 : 0 < nn := by omega
           have q4 : W0.cell? ⟨b, 4, none⟩ = some (.slice (some ⟨g, 0, none⟩) nn ck) := by rw [← hn]; exact (ah HB0.out 4).trans rfl
           have Q4 := gz q4
           have Q5 := gz hcell
           have HS := gz (show af.starL takes ⟨x0, x1, y :: l⟩ y n f t 1000 (wrap64 (f + 1)) M = some (r, M') from h)
           clear h hcell hny hb0 hn q4
           go_enter Tryz.func76, Tryz.ntmps76
           go_wp2
           go_loopg [13] 1000 (fun gk v13 wr => ∃ (k : Int) (M1 : List af.E4), v13 = .int .i64 k ∧ aa (af.starL takes ⟨x0, x1, y :: l⟩ y n f t gk k M1 = some (r, M')) ∧ aa (af.MapAt wr gm M1) ∧ aa (ab.GB w wr gm))
           case atStart => exact ⟨_, M, rfl, HS, HMap, ⟨ab.GB.refl _ _⟩⟩
           case round =>
            clear HS p0
            obtain ⟨k, M1, rfl, HS, HM1, HG⟩ := hrel
            cases gk with
            | zero => exact absurd HS.out (by simp [af.starL])
            | succ gk =>
             have hs := HS.out
             rw [af.starL] at hs
             have K1 := gz (HK.out.gb HMap.out HG.out)
             have p4 := K1.out.cell Q4.out
             have p5 := K1.out.cell Q5.out
             by_cases hkt : k ≤ t
             ·have bkt : decide (k ≤ t) = true := decide_eq_true hkt
              rw [if_pos hkt] at hs
              obtain ⟨⟨r1, M2⟩, h1, hs⟩ := Option.bind_eq_some_iff.mp hs
              have H1 := gz h1
              have HSS := gz hs
              clear h1 hs HS
              replace hkt := gz hkt
              go_wp2_with fail
              refine (HT y (n + 1) f k M1 r1 M2 j b' wr H1.out HNy.out K1.out HM1.out).mono ?_
              rintro ee w4 ⟨rfl, hm4, hg4⟩
              have M4 := gz hm4
              have G4 := gz (HG.out.trans hg4)
              clear hm4 hg4 K1 HM1 HG H1
              have hs := HSS.out
              clear HSS
              cases r1 with
              | true =>
               rw [if_pos rfl] at hs
               obtain ⟨⟨q1, M3⟩, h2, hs⟩ := Option.bind_eq_some_iff.mp hs
               have H2 := gz h2
               have HSS := gz hs
               have K4 := gz (HK.out.gb HMap.out G4.out)
               clear h2 hs
               go_wp2_with fail
               refine (HT ⟨x0, x1, y :: l⟩ n k t M2 q1 M3 (j + 1) b w4 H2.out HN.out K4.out M4.out).mono ?_
               rintro ee w5 ⟨rfl, hm5, hg5⟩
               have M5 := gz hm5
               have G5 := gz (G4.out.trans hg5)
               clear hm5 hg5 K4 M4 G4 H2
               have hs := HSS.out
               clear HSS
               cases q1 with
               | true =>
                rw [if_pos rfl] at hs
                obtain ⟨rfl, rfl⟩ := Prod.mk.inj (Option.some.inj hs)
                clear hs
                go_wp2
                go_ret
                exact ⟨rfl, M5.out, G5.out⟩
               | false =>
                rw [if_neg Z27] at hs
                have HS5 := gz hs
                clear hs
                go_wp2
                go_roundg gk
                case measure => omega
                case rel => exact ⟨_, M3, rfl, HS5, M5, G5⟩
              | false =>
               rw [if_neg Z27] at hs
               have HS5 := gz hs
               clear hs
               go_wp2
               go_roundg gk
               case measure => omega
               case rel => exact ⟨_, M2, rfl, HS5, M4, G4⟩
             ·have bkt : decide (k ≤ t) = false := decide_eq_false hkt
              rw [if_neg hkt] at hs
              obtain ⟨rfl, rfl⟩ := Prod.mk.inj (Option.some.inj hs)
              replace hkt := gz hkt
              clear hs
              go_wp2
              go_ret
              exact ⟨rfl, HM1.out, HG.out⟩
        ·have b7 : (x0 == 7) = false := beq_eq_false_iff_ne.mpr k7
         rw [if_neg k7] at h
         obtain ⟨rfl, rfl⟩ := Prod.mk.inj (Option.some.inj h)
         replace k7 := gz k7
         clear h hb0
         go_enter Tryz.func76, Tryz.ntmps76
         go_wp2
         go_ret
         exact ⟨rfl, HMap.out, ab.GB.refl _ _⟩
abbrev af.pt : Kd Nat := Kd.scalar (fun b : Nat => Value.pointer (some ⟨b, 0, none⟩)) (fun _ => rfl)
def af.NodeB (Wt w : World) : (Nat → Prop) → Nat → Nat → S25 → Int → Prop
 | _, 0, _, _, _ => False
 | P, j + 1, b, x, n => P b ∧ ∃ A1 c1 A2 c2 vk bs base, w.heap[b]? = some (.cells #[.int .i64 x.f0, .slice A1 x.f1.length c1, .slice A2 x.f2.length c2, .int .i64 n, vk] 94 (0, 0)) ∧ k51.C Wt A1 x.f1.length x.f1 ∧ (x.f1.length : Int) + x.f2.length ≤ 9223372036854775807 ∧
  af.pt.R 71 w base P vk bs ∧ bs.length = x.f2.length ∧ ∀ (i : Nat) (y : S25) (b' : Nat), x.f2[i]? = some y → bs[i]? = some b' → af.NodeB Wt w P j b' y (n + 1 + (af.sizeL (x.f2.take i) : Nat))
theorem af.NodeB.step {Wt w w' : World} : ∀ {j b : Nat} {x : S25} {n : Int} {P P' : Nat → Prop}, af.NodeB Wt w P j b x n → (∀ k, P k → k < w.heap.size → w'.heap[k]? = w.heap[k]? ∧ P' k) → af.NodeB Wt w' P' j b x n
 | 0, b, x, n, P, P', h, _ => absurd h (by simp [af.NodeB])
 | j + 1, b, x, n, P, P', h, hk => by
  obtain ⟨hp, A1, c1, A2, c2, vk, bs, base, hb, hC, hlm, hR, hl, hkids⟩ := h
  have hb1 := hk b hp (bB hb)
  refine ⟨hb1.2, A1, c1, A2, c2, vk, bs, base, hb1.1.trans hb, hC, hlm, ?_, hl, fun i y b' hi hb' => (hkids i y b' hi hb').step hk⟩
  exact Kd.R_mono (Kd.R_bound (Kd.R_step hR (fun k hp hlt => (hk k hp hlt).1)) |> fun h => Kd.R_mono (Kd.R_bound (Kd.R_mono (Kd.R_bound hR) (fun k hk => hk))) (fun k h => h) |> fun h2 => Kd.R_step (Kd.R_mono h2 (fun k hq => (hk k hq.1.1 hq.2.2.1 : _ ∧ _).2 |> fun hp' => (⟨hp', hq.1.1, hq.2.2.1⟩ : P' k ∧ P k ∧ k < w.heap.size))) (fun k hq hlt => (hk k hq.2.1 hlt).1)) (fun k hq => hq.1)
theorem af.NodeB.at {Wt w : World} (hB : Below Wt.heap.size Wt w) : ∀ {j b : Nat} {x : S25} {n : Int} {P : Nat → Prop}, af.NodeB Wt w P j b x n → af.NodeAt w j b x n
 | 0, b, x, n, P, h => absurd h (by simp [af.NodeB])
 | j + 1, b, x, n, P, h => by
  obtain ⟨hp, A1, c1, A2, c2, vk, bs, base, hb, hC, hlm, hR, hl, hkids⟩ := h
  obtain ⟨gk, ck, hv⟩ := Kd.R_slice hR
  subst hv
  rw [hl] at hb
  refine ⟨A1, c1, A2, c2, gk, ck, hb, Kd.C_below hC hB, hlm, fun i y hi => ?_⟩
  have hlt : i < bs.length := by rw [hl]; exact (List.getElem?_eq_some_iff.1 hi).1
  obtain ⟨g, cap, hv, _⟩ := Kd.R_form hR Z8
  injection hv with h1 h2 h3
  subst h1
  rw [hl] at hR
  obtain ⟨h4, _⟩ := Kd.R_celln 0 hR (i : Int) Z8 Z8
  rw [Int.toNat_natCast] at h4
  refine ⟨g, bs[i], rfl, ?_, (hkids i y bs[i] hi (List.getElem?_eq_getElem hlt)).at hB⟩
  rw [h4]
  simp [rdOf, hlt]
def af.Small : Nat → S25 → Prop
 | 0, _ => False
 | j + 1, x => x.f1.length + x.f2.length ≤ 1000000 ∧ ∀ (i : Nat) (y : S25), x.f2[i]? = some y → af.Small j y
def af.CntAt (w : World) (pc : Nat) (n : Int) : Prop := w.heap[pc]? = some (.cells #[.int .i64 n] 3 (0, 0))
def af.NodesCall (Wt : World) (j : Nat) : Prop := ∀ (x : S25) (n : Int) (A1 A2 : Option Addr) (c1 c2 pc : Nat) (w : World), af.Small j x → Below Wt.heap.size Wt w → Wt.heap.size ≤ pc → af.CntAt w pc n →
 x.f1.length ≤ c1 → k51.C Wt A1 x.f1.length x.f1 → x.f2.length ≤ c2 → k25.C Wt A2 x.f2.length x.f2 → 0 ≤ n → n + (af.sizeT x : Nat) ≤ 1000000000000000000 →
 Calls Tryz.prog 52 #[.agg #[.int .i64 x.f0, .slice A1 x.f1.length c1, .slice A2 x.f2.length c2], .pointer (some ⟨pc, 0, none⟩)] w fun e w' => ∃ b, e = .returned (.pointer (some ⟨b, 0, none⟩)) ∧ af.NodeB Wt w' (fun k => w.heap.size ≤ k) j b x n ∧ af.CntAt w' pc (n + (af.sizeT x : Nat)) ∧ ab.GB w w' pc
theorem ab.GB.fromB {Wt w w' : World} {g : Nat} (h : Below Wt.heap.size Wt w) (k : ab.GB w w' g) (hg : Wt.heap.size ≤ g) : Below Wt.heap.size Wt w' :=
 ⟨k.os.trans h.os, k.tape.trans h.tape, k.output.trans h.output, Nat.le_trans h.size k.size, fun i hi => (k.block i (Nat.lt_of_lt_of_le hi h.size) (fun e => by cases e; omega)).trans (h.block i hi)⟩
theorem af.kidAt {w : World} {A : Option Addr} {n : Nat} {l : List S25} (h : k25.C w A n l) {i : Nat} {y : S25} (hi : l[i]? = some y) (hn : i < n) : ∃ ad A1 c1 A2 c2, A = some ad ∧ w.cell? (ad.add (i * 3)) = some (.int .i64 y.f0) ∧ w.cell? ⟨(ad.add (i * 3)).block, (ad.add (i * 3)).off + 1, none⟩ = some (.slice A1 y.f1.length c1) ∧ w.cell? ⟨(ad.add (i * 3)).block, (ad.add (i * 3)).off + 2, none⟩ = some (.slice A2 y.f2.length c2) ∧ y.f1.length ≤ c1 ∧ k51.C w A1 y.f1.length y.f1 ∧ y.f2.length ≤ c2 ∧ k25.C w A2 y.f2.length y.f2 := by
 have h1 := d8 h (i : Int) Z8 Z8
 obtain ⟨hl, rfl⟩ := List.getElem?_eq_some_iff.1 hi
 have h2 : an l (i : Int) = l[i] := by simp [an, hl]
 rw [h2, Int.toNat_natCast] at h1
 exact h1
theorem af.nodesR {Wt : World} : ∀ j : Nat, af.NodesCall Wt j
 | 0 => fun x n A1 A2 c1 c2 pc w hs => absurd hs (by simp [af.Small])
 | j + 1 => by
  have IH := gz (af.nodesR (Wt := Wt) j)
  intro x n A1 A2 c1 c2 pc w hs hB hpc hcn hc1 hC1 hc2 hC2 h0 hn
  obtain ⟨x0, x1, x2⟩ := x
  obtain ⟨hs1, hs2⟩ := hs
  dsimp only at hs1 hs2 hc1 hC1 hc2 hC2 ⊢
  have HS2 := gz hs2
  have HB := gz hB
  have HPC := gz hpc
  have HCN := gz hcn
  have HC1 := gz hC1
  have HC2 := gz hC2
  have hz := gz (show ((af.sizeT ⟨x0, x1, x2⟩ : Nat) : Int) = 1 + (af.sizeL x2 : Nat) from by simp [af.sizeT])
  have HN := gz (show n + 1 + (af.sizeL x2 : Nat) ≤ 1000000000000000000 from by rw [hz.out] at hn; omega)
  have HL := gz hs1
  have hcl := gz (show pc < w.heap.size from bB hcn)
  have bx := gz (ak (Below.refl w.heap.size w) (.cells #[.int .i64 x0, .slice A1 x1.length c1, .slice A2 x2.length c2] 25))
  have nx := gz (a8 w (.cells #[.int .i64 x0, .slice A1 x1.length c1, .slice A2 x2.length c2] 25))
  clear hs1 hs2 hB hpc hcn hC1 hC2 hn
  go_enter Tryz.func52, Tryz.ntmps52
  go_upto_region 1 with (fail)
  have hX := gz (World.size_alloc w (.cells #[.int .i64 x0, .slice A1 x1.length c1, .slice A2 x2.length c2] 25))
  generalize w.alloc (.cells #[.int .i64 x0, .slice A1 x1.length c1, .slice A2 x2.length c2] 25) = X at bx nx hX ⊢
  have p0 := (ah nx.out 0).trans rfl
  have p1 := (ah nx.out 1).trans rfl
  have p2 := (ah nx.out 2).trans rfl
  have CX := gz ((bx.out.block pc hcl.out).trans HCN.out)
  have p3 := (ah CX.out 0).trans rfl
  go_still_tail 5, Z5
  change wpList _ _ _ _ _ X.drew
  have CY := gz (show af.CntAt X.drew pc n from CX.out)
  have NY := gz (show X.drew.heap[w.heap.size]? = some (.cells #[.int .i64 x0, .slice A1 x1.length c1, .slice A2 x2.length c2] 25 (0, 0)) from nx.out)
  have BY := gz (show Below w.heap.size w X.drew from aX bx.out)
  have SY := gz (show X.drew.heap.size = w.heap.size + 1 from hX.out)
  clear p0 p1 p2 p3 CX nx bx hX
  generalize X.drew = Y at CY NY BY SY ⊢
  go_upto_region 2 with (fail)
  have CZ := gz (au CY.out (.cells #[.int .i64 x0, .slice A1 x1.length c1, .slice A2 x2.length c2, .int .i64 n, .slice none 0 0] 94))
  have NZ := gz (au NY.out (.cells #[.int .i64 x0, .slice A1 x1.length c1, .slice A2 x2.length c2, .int .i64 n, .slice none 0 0] 94))
  have DZ := gz (a8 Y (.cells #[.int .i64 x0, .slice A1 x1.length c1, .slice A2 x2.length c2, .int .i64 n, .slice none 0 0] 94))
  have BZ := gz (ak BY.out (.cells #[.int .i64 x0, .slice A1 x1.length c1, .slice A2 x2.length c2, .int .i64 n, .slice none 0 0] 94))
  have SZ := gz (World.size_alloc Y (.cells #[.int .i64 x0, .slice A1 x1.length c1, .slice A2 x2.length c2, .int .i64 n, .slice none 0 0] 94))
  generalize Y.alloc (.cells #[.int .i64 x0, .slice A1 x1.length c1, .slice A2 x2.length c2, .int .i64 n, .slice none 0 0] 94) = Z at CZ NZ DZ BZ SZ ⊢
  obtain ⟨b0, hb0⟩ : ∃ b0, Y.heap.size = b0 := ⟨_, rfl⟩
  rw [hb0] at DZ SZ SY ⊢
  have SB := gz (show b0 = w.heap.size + 1 from SY.out)
  clear hb0 CY NY BY SY
  have p0 := (ah CZ.out 0).trans rfl
  have p1 := ag CZ.out 0
  have hw0 : wrap64 (n + 1) = n + 1 := by unfold wrap64; have := HN.out; omega
  go_upto_region 3 with (fail)
  clear p0 p1
  have C1 := gz (show af.CntAt (Z.setCell ⟨pc, 0, none⟩ (.int .i64 (n + 1))) pc (n + 1) from bG CZ.out 0 _ rfl)
  have N1 := gz (fB NZ.out (p := ⟨pc, 0, none⟩) (fun e => by have := hcl.out; simp at e; omega) (.int .i64 (n + 1)))
  have D1 := gz (fB DZ.out (p := ⟨pc, 0, none⟩) (fun e => by have := hcl.out; have := SB.out; simp at e; omega) (.int .i64 (n + 1)))
  have G1 := gz ((ab.GB.of BZ.out pc).set 0 (.int .i64 (n + 1)))
  clear CZ NZ DZ BZ
  generalize Z.setCell ⟨pc, 0, none⟩ (.int .i64 (n + 1)) = Z1 at C1 N1 D1 G1 ⊢
  have p0 := (ah N1.out 2).trans rfl
  go_wp2
  go_loopg [7, 22] x2.length (fun gk v7 v22 wr => ∃ (m : Nat) (vk : Value) (bs : List Nat), m ≤ x2.length ∧ x2.length - m ≤ gk ∧ v22 = .int .i64 (m : Int) ∧ aa (bs.length = m) ∧ aa (ab.GB w wr pc) ∧ aa (af.CntAt wr pc (n + 1 + (af.sizeL (x2.take m) : Nat))) ∧ aa (wr.heap[b0]? = some (.cells #[.int .i64 x0, .slice A1 x1.length c1, .slice A2 x2.length c2, .int .i64 n, vk] 94 (0, 0))) ∧ aa (af.pt.R 71 wr (b0 + 1) (fun k => b0 + 1 ≤ k) vk bs) ∧ aa (∀ (i : Nat) (y : S25) (b' : Nat), x2[i]? = some y → bs[i]? = some b' → af.NodeB Wt wr (fun k => b0 + 1 ≤ k ∧ some k ≠ vk.ownBlock) j b' y (n + 1 + (af.sizeL (x2.take i) : Nat))))
  case atStart => exact ⟨0, .slice none 0 0, [], Nat.zero_le _, Z8, rfl, ⟨rfl⟩, G1, ⟨by simpa [af.sizeL] using C1.out⟩, D1, ⟨Kd.R_nil _ _ _ _ _⟩, ⟨fun i y b' _ h => by simp at h⟩⟩
  case round =>
   clear p0
   obtain ⟨m, vk, bs, hm, hgk, rfl, hbl, HG, HC, HD, HR, HK⟩ := hrel
   by_cases hlt : m < x2.length
   ·have d1 : decide ((m : Int) < (x2.length : Int)) = true := decide_eq_true Z8
    obtain ⟨y, hy⟩ : ∃ y, x2[m]? = some y := ⟨_, List.getElem?_eq_getElem hlt⟩
    obtain ⟨ad, D1', d1', D2', d2', rfl, hc0, hc1', hc2', hl1, hD1, hl2, hD2⟩ := af.kidAt HC2.out hy hlt
    obtain ⟨y0, y1, y2⟩ := y
    dsimp only at hc0 hc1' hc2' hl1 hD1 hl2 hD2
    have HY := gz hy
    have Bwr := gz (ab.GB.fromB HB.out HG.out HPC.out)
    have e0 := (Bwr.out.cell (World.block_lt_of_cell? _ _ hc0)).trans hc0
    have e1 := (Bwr.out.cell (World.block_lt_of_cell? _ _ hc1')).trans hc1'
    have e2 := (Bwr.out.cell (World.block_lt_of_cell? _ _ hc2')).trans hc2'
    have HSy := gz (HS2.out m _ hy)
    have HD1 := gz hl1
    have HE1 := gz hD1
    have HD2 := gz hl2
    have HE2 := gz hD2
    have z0 : (0 : Int) ≤ (m : Int) := by omega
    have z1 : (m : Int) < (x2.length : Int) := by omega
    have hw1 := gz (show wrap64 ((m : Int) + 1) = ((m + 1 : Nat) : Int) from by unfold wrap64; have := HL.out; omega)
    have HTK := gz (af.sizeL_take hy)
    have HN0 := gz (show 0 ≤ n + 1 + ((af.sizeL (x2.take m) : Nat) : Int) from by omega)
    have HN1 := gz (show n + 1 + ((af.sizeL (x2.take m) : Nat) : Int) + ((af.sizeT ⟨y0, y1, y2⟩ : Nat) : Int) ≤ 1000000000000000000 from by
     have h1 := HTK.out
     have h2 : af.sizeL x2 = af.sizeL (x2.take (m + 1)) + af.sizeL (x2.drop (m + 1)) := by rw [← af.sizeL_append, List.take_append_drop]
     have h3 := HN.out
     omega)
    clear hy hc0 hc1' hc2' hl1 hD1 hl2 hD2
    go_upto_region 6 with (fail)
    have HNE := gz (show b0 ≠ pc from by have := hcl.out; have := SB.out; omega)
    have HNF := gz (show wr.heap.size ≠ pc from by have := hcl.out; have := HG.out.size; omega)
    have GU := gz (ab.GB.of (ak (Below.refl wr.heap.size wr) (.cells #[.int .i64 y0, .slice D1' y1.length d1', .slice D2' y2.length d2'] 25)) pc)
    have BU := gz (show Below Wt.heap.size Wt (wr.alloc (.cells #[.int .i64 y0, .slice D1' y1.length d1', .slice D2' y2.length d2'] 25)).drew from aX (ak Bwr.out _))
    have CU := gz (show af.CntAt (wr.alloc (.cells #[.int .i64 y0, .slice D1' y1.length d1', .slice D2' y2.length d2'] 25)).drew pc (n + 1 + ((af.sizeL (x2.take m) : Nat) : Int)) from au HC.out _)
    have NDu := gz (show (wr.alloc (.cells #[.int .i64 y0, .slice D1' y1.length d1', .slice D2' y2.length d2'] 25)).drew.heap[b0]? = some (.cells #[.int .i64 x0, .slice A1 x1.length c1, .slice (some ad) x2.length c2, .int .i64 n, vk] 94 (0, 0)) from au HD.out _)
    have BXu := gz (show (wr.alloc (.cells #[.int .i64 y0, .slice D1' y1.length d1', .slice D2' y2.length d2'] 25)).drew.heap[wr.heap.size]? = some (.cells #[.int .i64 y0, .slice D1' y1.length d1', .slice D2' y2.length d2'] 25 (0, 0)) from a8 wr _)
    have SU := gz (World.size_alloc wr (.cells #[.int .i64 y0, .slice D1' y1.length d1', .slice D2' y2.length d2'] 25))
    generalize wr.alloc (.cells #[.int .i64 y0, .slice D1' y1.length d1', .slice D2' y2.length d2'] 25) = U at GU BU CU NDu BXu SU ⊢
    have GUd := gz (show ab.GB wr U.drew pc from GU.out.below (aX (Below.refl _ _)))
    have SUd := gz (show U.drew.heap.size = wr.heap.size + 1 from SU.out)
    have q0 : U.cell? ⟨b0, 4, none⟩ = some vk := (ah NDu.out 4).trans rfl
    have q1 : U.cell? ⟨wr.heap.size, 0, none⟩ = some (.int .i64 y0) := (ah BXu.out 0).trans rfl
    have q2 : U.cell? ⟨wr.heap.size, 1, none⟩ = some (.slice D1' y1.length d1') := (ah BXu.out 1).trans rfl
    have q3 : U.cell? ⟨wr.heap.size, 2, none⟩ = some (.slice D2' y2.length d2') := (ah BXu.out 2).trans rfl
    have HLn := gz (show (bs.length + 1) * 8 ≤ 140737488355328 from by have := hbl.out; have := HL.out; omega)
    have hpcw := gz (show pc < wr.heap.size from Nat.lt_of_lt_of_le hcl.out HG.out.size)
    have hb0w := gz (bB HD.out)
    clear e0 e1 e2
    refine gp (n := 13) (S := fun w' => w'.cell? ⟨b0, 4, none⟩ = some vk ∧ w'.cell? ⟨wr.heap.size, 0, none⟩ = some (.int .i64 y0) ∧ w'.cell? ⟨wr.heap.size, 1, none⟩ = some (.slice D1' y1.length d1') ∧ w'.cell? ⟨wr.heap.size, 2, none⟩ = some (.slice D2' y2.length d2')) (ds := [9, 12]) #[false, false, false, false, false, false, false, false, false, false, false, false, false] Z5 rfl rfl ⟨q0, q1, q2, q3⟩ (fun hHeld => ?_)
    refine pU 0 26 (hc := Z5) (h := ?_)
    refine pU 1 27 (hc := Z5) (h := ?_)
    refine pU 2 28 (hc := Z5) (h := ?_)
    refine pU 3 29 (hc := Z5) (h := ?_)
    refine take_ (i := 4) (N := some 30) (v := ?_) (a' := ?_) #[true, true, true, true, true, false, false, false, false, false, false, false, false] rfl rfl Z5 (fun _ _ _ h => h) (Or.inl ⟨by rfl, ?_⟩) hHeld ?_ ?_
    rotate_left
    ·rintro w' ⟨s0, s1, s2, s3⟩
     go_simp
     with_reducible rfl
    rotate_left
    ·simp only [Act.put, List.setIfInBounds_toArray, List.set_cons_zero, List.set_cons_succ, dq, dJ]
     rfl
    refine take_ (i := 5) (N := some 31) (v := ?_) (a' := ?_) #[true, true, true, true, true, true, false, false, false, false, false, false, false] rfl rfl Z5 (fun _ _ _ h => h) (Or.inl ⟨by rfl, ?_⟩) hHeld ?_ ?_
    rotate_left
    ·rintro w' ⟨s0, s1, s2, s3⟩
     go_simp
     with_reducible rfl
    rotate_left
    ·simp only [Act.put, List.setIfInBounds_toArray, List.set_cons_zero, List.set_cons_succ, dq, dJ]
     rfl
    refine pU 6 32 (hc := Z5) (h := ?_)
    refine oN 7 (some 33) (hc := Z5) (h := fun K hK => ?_)
    refine goes_ Tryz.func52 Z5 rfl #[.agg #[.int .i64 y0, .slice D1' y1.length d1', .slice D2' y2.length d2'], .pointer (some ⟨pc, 0, none⟩)] (by rfl) rfl rfl (by (try simp only [List.map_toArray, List.map_cons, List.map_nil]); first | done | rfl) ?_
    refine (IH.out ⟨y0, y1, y2⟩ (n + 1 + (af.sizeL (x2.take m) : Nat)) D1' D2' d1' d2' pc U.drew HSy.out BU.out HPC.out CU.out HD1.out HE1.out HD2.out HE2.out HN0.out HN1.out).mono ?_
    rintro ee w4 ⟨b', rfl, hnb, hcnt, hgb⟩
    have NB4 := gz hnb
    have C4 := gz hcnt
    have G4 := gz hgb
    have HOWN := gz (show ∀ k, k ≤ b0 → some k ≠ vk.ownBlock from fun k hk he => by have := Kd.R_base HR.out k he.symm; omega)
    have R4 := gz (Kd.R_step HR.out (fun k hk hlt => hgb.block k (by have := SUd.out; omega) (fun e => by cases e; have := hcl.out; have := SB.out; omega) |>.trans (GUd.out.block k hlt (fun e => by cases e; have := hcl.out; have := SB.out; omega))))
    have HB4 := gz (show b0 + 1 ≤ w4.heap.size from by have := hgb.size; have := SUd.out; have := hb0w.out; omega)
    have ND4 := gz ((hgb.block b0 (bB NDu.out) (fun e => HNE.out (Option.some.inj e))).trans NDu.out)
    have BX4 := gz ((hgb.block wr.heap.size (bB BXu.out) (fun e => HNF.out (Option.some.inj e))).trans BXu.out)
    clear hnb hcnt hgb
    have v0 := (ah ND4.out 4).trans rfl
    have v1 := (ah BX4.out 0).trans rfl
    have v2 := (ah BX4.out 1).trans rfl
    have v3 := (ah BX4.out 2).trans rfl
    refine ⟨_, rfl, ?_⟩
    refine hK.out _ _ ⟨v0, v1, v2, v3⟩ (fun hHeld => ?_)
    clear hK K v0 v1 v2 v3 q0 q1 q2 q3
    refine nO 33 (h := ?_)
    refine oN 8 (some 34) (hc := Z5) (h := fun K hK => ?_)
    refine value_ (w1 := w4.alloc (.cells #[.pointer (some ⟨b', 0, none⟩)] 71)) (v := .slice (some ⟨w4.heap.size, 0, none⟩) 1 1) (by rfl) rfl ?_ ?_
    ·go_simp
     (try rfl)
    have v0 := (ah (au ND4.out (.cells #[.pointer (some ⟨b', 0, none⟩)] 71)) 4).trans rfl
    have v1 := (ah (au BX4.out (.cells #[.pointer (some ⟨b', 0, none⟩)] 71)) 0).trans rfl
    have v2 := (ah (au BX4.out (.cells #[.pointer (some ⟨b', 0, none⟩)] 71)) 1).trans rfl
    have v3 := (ah (au BX4.out (.cells #[.pointer (some ⟨b', 0, none⟩)] 71)) 2).trans rfl
    refine hK.out _ _ ⟨v0, v1, v2, v3⟩ (fun hHeld => ?_)
    clear hK K v0 v1 v2 v3 hHeld
    refine nO 34 (h := ?_)
    refine last_ (i := 9) (N := some 35) #[true, true, true, true, true, true, true, true, true, true, false, false, false] rfl rfl Z5 Z27 (fun K hK => ?_)
    refine Kd.R_append_step af.pt (w0 := w4) (W := w4) (b0 + 1) (by rfl) (.tmp 30) (.tmp 34) 92 71 (.pointer none) 8 rfl Tryz.underlying92 Z5 rfl Z27 Z27 vk bs b' [.pointer (some ⟨b', 0, none⟩)] (fun k => b0 + 1 ≤ k) (fun _ => False) rfl rfl rfl (fun _ h => h.elim) (fun k hk => Nat.le_trans HB4.out hk) R4.out (Below.refl _ _) HB4.out HLn.out ?_
    intro vk1 w5 hr1 hb1 hg1 hat1
    obtain ⟨A5, c5, rfl⟩ := Kd.R_slice hr1
    have R5 := gz hr1
    have G5 := gz hg1
    have AT5 := gz hat1
    have ND5 := gz (blk_grown ND4.out hg1 (HOWN.out b0 Z8))
    clear hr1 hb1 hg1 hat1
    refine hK.out _ _ ?_
    clear hK K
    refine nO 35 (h := ?_)
    refine pU 10 36 (hc := Z5) (h := ?_)
    refine pU 11 37 (hc := Z5) (h := ?_)
    refine last_ (i := 12) (N := none) #[true, true, true, true, true, true, true, true, true, true, true, true, true] rfl rfl Z5 Z27 (fun K hK => ?_)
    have v0 := (ah ND5.out 4).trans rfl
    have v1 := ag ND5.out 4
    refine skip_ (w1 := w5.setCell ⟨b0, 4, none⟩ (.slice A5 (bs ++ [b']).length c5)) (by rfl) rfl ?_ ?_
    ·go_simp
     (try rfl)
    refine hK.out _ _ ?_
    clear hK K v0 v1
    refine done_ Z5 ?_
    have N6 := gz (bG ND5.out 4 (.slice A5 (bs ++ [b']).length c5) rfl)
    have F6 := gz (show ∀ k, k ≠ b0 → (w5.setCell ⟨b0, 4, none⟩ (.slice A5 (bs ++ [b']).length c5)).heap[k]? = w5.heap[k]? from fun k hk => Below.heap_setCell w5 ⟨b0, 4, none⟩ _ k hk)
    have T6 := gz (show (w5.setCell ⟨b0, 4, none⟩ (.slice A5 (bs ++ [b']).length c5)).heap.size = w5.heap.size from World.size_setCell _ _ _)
    have R6 := gz (Kd.R_far (p := ⟨b0, 4, none⟩) R5.out (fun k hk => by simp; omega) (.slice A5 (bs ++ [b']).length c5))
    have O6 := gz (show (w5.setCell ⟨b0, 4, none⟩ (.slice A5 (bs ++ [b']).length c5)).os = w5.os ∧ (w5.setCell ⟨b0, 4, none⟩ (.slice A5 (bs ++ [b']).length c5)).tape = w5.tape ∧ (w5.setCell ⟨b0, 4, none⟩ (.slice A5 (bs ++ [b']).length c5)).output = w5.output from ⟨rfl, rfl, rfl⟩)
    generalize w5.setCell ⟨b0, 4, none⟩ (.slice A5 (bs ++ [b']).length c5) = w6 at N6 F6 T6 R6 O6 ⊢
    have W0 := gz (show w.heap.size < b0 ∧ pc < w.heap.size ∧ b0 < wr.heap.size ∧ wr.heap.size + 1 ≤ w4.heap.size ∧ w4.heap.size ≤ w6.heap.size from ⟨by have := SB.out; omega, hcl.out, hb0w.out, by have := SUd.out; have := G4.out.size; omega, by have := G5.out.size; have := T6.out; omega⟩)
    have L6 := gz (show ∀ k, k < wr.heap.size → k ≠ pc → k ≠ b0 → some k ≠ vk.ownBlock → w6.heap[k]? = wr.heap[k]? from fun k h1 h2 h3 h4 => by
     obtain ⟨q1, q2, q3, q4, q5⟩ := W0.out
     rw [F6.out k h3, G5.out.block k Z8 h4, G4.out.block k (by have := SUd.out; omega) (fun e => h2 (Option.some.inj e)), GUd.out.block k h1 (fun e => h2 (Option.some.inj e))])
    have G6 := gz (show ab.GB w w6 pc from (⟨O6.out.1.trans (G5.out.os.trans (G4.out.os.trans (GUd.out.os.trans HG.out.os))), O6.out.2.1.trans (G5.out.tape.trans (G4.out.tape.trans (GUd.out.tape.trans HG.out.tape))), O6.out.2.2.trans (G5.out.output.trans (G4.out.output.trans (GUd.out.output.trans HG.out.output))), by have := W0.out; have := HG.out.size; omega, fun k h1 h2 => by
     obtain ⟨q1, q2, q3, q4, q5⟩ := W0.out
     rw [L6.out k (Nat.lt_of_lt_of_le h1 HG.out.size) (fun e => h2 (by rw [e])) Z8 (HOWN.out k Z8), HG.out.block k h1 h2]⟩ : w.grownBy w6 (some pc)))
    have C6 := gz (show af.CntAt w6 pc (n + 1 + ((af.sizeL (x2.take (m + 1)) : Nat) : Int)) from by
     obtain ⟨q1, q2, q3, q4, q5⟩ := W0.out
     have h := C4.out
     unfold af.CntAt at h ⊢
     rw [F6.out pc Z8, G5.out.block pc Z8 (HOWN.out pc Z8), h, HTK.out]
     simp [Int.add_assoc])
    have K6 := gz (show ∀ (i : Nat) (y : S25) (b'' : Nat), x2[i]? = some y → (bs ++ [b'])[i]? = some b'' → af.NodeB Wt w6 (fun k => b0 + 1 ≤ k ∧ some k ≠ (Value.slice A5 (bs ++ [b']).length c5).ownBlock) j b'' y (n + 1 + (af.sizeL (x2.take i) : Nat)) from fun i y b'' hi hb => by
     obtain ⟨q1, q2, q3, q4, q5⟩ := W0.out
     have hnew : ∀ k, k < w4.heap.size → some k ≠ vk.ownBlock → some k ≠ (Value.slice A5 (bs ++ [b']).length c5).ownBlock := fun k hk hne he => by
      rcases AT5.out with h | ⟨q, h, hq⟩
      ·exact hne (he.trans h)
      ·rw [h] at he
       injection he with he
       omega
     rcases Nat.lt_or_ge i bs.length with hlt | hge
     ·rw [List.getElem?_append_left hlt] at hb
      refine (HK.out i y b'' hi hb).step (fun k hk hkl => ⟨L6.out k hkl Z8 Z8 hk.2, hk.1, hnew k Z8 hk.2⟩)
     ·rw [List.getElem?_append_right hge] at hb
      have him : i = m := by
       rcases h0 : i - bs.length with _ | q
       ·have := hbl.out; omega
       ·rw [h0] at hb; simp at hb
      subst him
      rw [hbl.out, Nat.sub_self] at hb
      simp only [List.getElem?_cons_zero, Option.some.injEq] at hb
      subst hb
      obtain rfl : (⟨y0, y1, y2⟩ : S25) = y := by have h := HY.out; rw [hi] at h; exact (Option.some.inj h).symm
      refine NB4.out.step (fun k hk hkl => ?_)
      have hk1 : wr.heap.size + 1 ≤ k := by have := SUd.out; omega
      have hne : some k ≠ vk.ownBlock := fun e => by have := Kd.R_lt HR.out k e.symm; omega
      exact ⟨by rw [F6.out k Z8, G5.out.block k hkl hne], Z8, hnew k hkl hne⟩)
    clear L6 F6 T6 O6 G5 AT5 ND5 R5 R4 ND4 BX4 NB4 C4 G4 GUd SUd BU GU CU NDu BXu
    go_wp2
    go_roundg (x2.length - (m + 1))
    case measure => omega
    case rel => exact ⟨m + 1, _, _, Z8, Nat.le_refl _, by rw [hw1.out], ⟨by rw [List.length_append, hbl.out]; rfl⟩, G6, C6, N6, R6, K6⟩
   ·have d1 : decide ((m : Int) < (x2.length : Int)) = false := decide_eq_false Z8
    obtain rfl : m = x2.length := by omega
    go_wp2
    go_ret
    rw [List.take_length] at HC
    have hbw := gz (show w.heap.size < b0 from by have := SB.out; omega)
    exact ⟨b0, rfl, ⟨by have := hbw.out; omega, A1, c1, _, c2, vk, bs, _, HD.out, Kd.C_below HC1.out (ab.GB.fromB HB.out HG.out HPC.out) |> fun _ => HC1.out, by have := HL.out; dsimp only; omega, Kd.R_mono HR.out (fun k hk => by have := hbw.out; omega), hbl.out, fun i y b' hi hb' => (HK.out i y b' hi hb').step (fun k hk _ => ⟨rfl, by have := hbw.out; omega⟩)⟩, by rw [hz.out]; have h := HC.out; rw [← Int.add_assoc]; exact h, HG.out⟩
def af.LK (row : List Int) : Nat → af.TKF
 | 0 => fun _ _ _ _ _ => none
 | k + 1 => af.lkF row (af.tkF (af.LK row k))
def af.TK (row : List Int) (k : Nat) : af.TKF := af.tkF (af.LK row k)
theorem af.LK_calls {W0 : World} {gmm gm : Nat} {row : List Int} (HM : af.MatAt W0 gmm gm row) : ∀ k, af.MCall W0 gmm gm 76 (af.LK row k)
 | 0 => fun x n f t M r M' j b w h => by simp [af.LK] at h
 | k + 1 => af.lookR HM (af.takesR HM (af.LK_calls HM k))
theorem af.TK_calls {W0 : World} {gmm gm : Nat} {row : List Int} (HM : af.MatAt W0 gmm gm row) (k : Nat) : af.MCall W0 gmm gm 51 (af.TK row k) := af.takesR HM (af.LK_calls HM k)
theorem af.makeMapR (w : World) : (Instr.makeMap 67 none).run Tryz.prog w = .ok (.map (some w.heap.size)) (w.alloc (.map #[] 0)) := by
 unfold Instr.makeMap
 simp [run_underlying Tryz.underlying67, Result.andThen]
theorem af.matchR (k j : Nat) (x : S25) (A1 : Option Addr) (c1 : Nat) (A2 : Option Addr) (c2 : Nat) (gr : Nat) (row : List Int) (b : Bool) (M' : List af.E4) (w : World)
  (hC1 : Kd.C k51 w A1 x.f1.length x.f1) (hc1 : x.f1.length ≤ c1) (hC2 : Kd.C k25 w A2 x.f2.length x.f2) (hc2 : x.f2.length ≤ c2)
  (hright : bX.f k x.f0 x.f1 x.f2 = some true) (hsm : af.Small j x) (hsz : af.sizeT x ≤ 1000000) (hrow : ∀ (i : Nat) (v : Int), row[i]? = some v → w.cell? ⟨gr, i, none⟩ = some (.int .i32 v)) (hrl : row.length ≤ 1000000) (hin : ∀ v ∈ row, 0 ≤ v ∧ v ≤ 1114111)
  (h : af.TK row k x 0 0 row.length [] = some (b, M')) :
  Calls Tryz.prog 27 #[.agg #[.int .i64 x.f0, .slice A1 x.f1.length c1, .slice A2 x.f2.length c2], .slice (some ⟨gr, 0, none⟩) row.length row.length] w fun e w' => e = .returned (.bool b) ∧ Below w.heap.size w w' := by
 have HC1 := gz hC1
 have HC2 := gz hC2
 have HR := gz hright
 have HSM := gz hsm
 have HSZ := gz hsz
 have HROW := gz hrow
 have HRL := gz hrl
 have HIN := gz hin
 have HT := gz h
 obtain ⟨x0, x1, x2⟩ := x
 dsimp only at hc1 hc2 ⊢
 obtain ⟨nr, hnr⟩ : ∃ nr, row.length = nr := ⟨_, rfl⟩
 have HNR := gz hnr
 rw [hnr]
 have bx := gz (ak (Below.refl w.heap.size w) (.cells #[.int .i64 x0, .slice A1 x1.length c1, .slice A2 x2.length c2] 25))
 have nx := gz (a8 w (.cells #[.int .i64 x0, .slice A1 x1.length c1, .slice A2 x2.length c2] 25))
 clear hC1 hC2 hright hsm hsz hrow hrl hin h hnr
 go_enter Tryz.func27, Tryz.ntmps27
 go_upto_region 1 with (fail)
 generalize w.alloc (.cells #[.int .i64 x0, .slice A1 x1.length c1, .slice A2 x2.length c2] 25) = X at bx nx ⊢
 have p0 := (ah nx.out 0).trans rfl
 have p1 := (ah nx.out 1).trans rfl
 have p2 := (ah nx.out 2).trans rfl
 go_wp2_with fail
 refine (bX.calls k x0 A1 c1 x1 A2 c2 x2 true X (Kd.C_below HC1.out bx.out) hc1 (Kd.C_below HC2.out bx.out) hc2 HR.out).mono ?_
 rintro ee w1 ⟨rfl, hb1⟩
 have B1 := gz (bx.out.trans (hb1.mono bx.out.size))
 have N1 := gz (ao nx.out hb1)
 clear bx nx p0 p1 p2 hb1
 go_wp2
 go_loopg [6, 14] nr (fun gk v6 v14 wr => ∃ (m : Nat), m ≤ nr ∧ nr - m ≤ gk ∧ v14 = .int .i64 (m : Int) ∧ wr = w1)
 case atStart => exact ⟨0, Nat.zero_le _, Z8, rfl, rfl⟩
 case round =>
  obtain ⟨m, hm, hgk, rfl, rfl⟩ := hrel
  by_cases hlt : m < nr
  ·have d1 : decide ((m : Int) < (nr : Int)) = true := decide_eq_true Z8
   obtain ⟨v, hv⟩ : ∃ v, row[m]? = some v := ⟨_, List.getElem?_eq_getElem (by have := HNR.out; omega)⟩
   have e0 := (B1.out.cell (World.block_lt_of_cell? _ _ (HROW.out m v hv))).trans (HROW.out m v hv)
   obtain ⟨hv0, hv1⟩ := HIN.out v (List.mem_of_getElem? hv)
   have d2 : decide (v < 0) = false := decide_eq_false Z8
   have d3 : decide (v > 1114111) = false := decide_eq_false Z8
   have d4 : decide (1114111 < v) = false := decide_eq_false Z8
   have z0 : (0 : Int) ≤ (m : Int) := by omega
   have z1 : (m : Int) < (nr : Int) := by omega
   have hw1 := gz (show wrap64 ((m : Int) + 1) = ((m + 1 : Nat) : Int) from by unfold wrap64; have := HRL.out; have := HNR.out; omega)
   replace hv0 := gz hv0
   replace hv1 := gz hv1
   clear hv
   go_wp2
   go_roundg (nr - (m + 1))
   case measure => omega
   case rel => exact ⟨m + 1, Z8, Nat.le_refl _, by rw [hw1.out], rfl⟩
  ·have d1 : decide ((m : Int) < (nr : Int)) = false := decide_eq_false Z8
   have hmk : ∀ w' : World, (Instr.makeMap 67 none).run Tryz.prog w' = .ok (.map (some w'.heap.size)) (w'.alloc (.map #[] 0)) := fun w' => af.makeMapR w'
   go_upto_region 11 with (fail)
   have B3 := gz (ak (ak (ak (Below.refl wr.heap.size wr) (.cells #[.int .i64 0] 3)) (.map #[] 0)) (.cells #[.slice (some ⟨gr, 0, none⟩) nr nr, .map (some (wr.heap.size + 1))] 69))
   have S1 := World.size_alloc wr (.cells #[.int .i64 0] 3)
   have S2 := World.size_alloc (wr.alloc (.cells #[.int .i64 0] 3)) (.map #[] 0)
   have C3 := gz (show af.CntAt _ wr.heap.size 0 from au (au (a8 wr (.cells #[.int .i64 0] 3)) (.map #[] 0)) (.cells #[.slice (some ⟨gr, 0, none⟩) nr nr, .map (some (wr.heap.size + 1))] 69))
   have M3 := au (a8 (wr.alloc (.cells #[.int .i64 0] 3)) (.map #[] 0)) (.cells #[.slice (some ⟨gr, 0, none⟩) nr nr, .map (some (wr.heap.size + 1))] 69)
   have D3 := a8 ((wr.alloc (.cells #[.int .i64 0] 3)).alloc (.map #[] 0)) (.cells #[.slice (some ⟨gr, 0, none⟩) nr nr, .map (some (wr.heap.size + 1))] 69)
   rw [S2, S1] at D3
   rw [S1] at M3
   replace M3 := gz M3
   replace D3 := gz D3
   clear S1 S2 hmk
   generalize ((wr.alloc (.cells #[.int .i64 0] 3)).alloc (.map #[] 0)).alloc (.cells #[.slice (some ⟨gr, 0, none⟩) nr nr, .map (some (wr.heap.size + 1))] 69) = w3 at B3 C3 M3 D3 ⊢
   have N3 := gz (ao N1.out B3.out)
   have p0 := (ah N3.out 0).trans rfl
   have p1 := (ah N3.out 1).trans rfl
   have p2 := (ah N3.out 2).trans rfl
   go_wp2_with fail
   refine (af.nodesR (Wt := wr) j ⟨x0, x1, x2⟩ 0 A1 A2 c1 c2 wr.heap.size w3 HSM.out B3.out (Nat.le_refl _) C3.out hc1 (Kd.C_below HC1.out B1.out) hc2 (Kd.C_below HC2.out B1.out) (Int.le_refl 0) (by have := HSZ.out; omega)).mono ?_
   rintro ee w4 ⟨b', rfl, hnb, hcnt, hgb⟩
   have B4 := gz (ab.GB.fromB B3.out hgb (Nat.le_refl _))
   have NA := gz (hnb.at B4.out)
   have M4 := gz (show af.MapAt w4 (wr.heap.size + 1) [] from (hgb.block _ (bB M3.out) (fun e => by have := Option.some.inj e; omega)).trans M3.out)
   have D4 := gz ((hgb.block _ (bB D3.out) (fun e => by have := Option.some.inj e; omega)).trans D3.out)
   have MM := gz (show af.MatAt w4 (wr.heap.size + 1 + 1) (wr.heap.size + 1) row from ⟨some ⟨gr, 0, none⟩, nr, by rw [HNR.out]; exact D4.out, by rw [HNR.out]; exact Nat.le_refl _, by have := HRL.out; omega, fun i v hv => ⟨gr, 0, rfl, by
    rw [Nat.zero_add]
    have h1 := HROW.out i v hv
    have h2 := (B1.out.cell (World.block_lt_of_cell? _ _ h1)).trans h1
    exact (B4.out.cell (World.block_lt_of_cell? _ _ h2)).trans h2⟩⟩)
   have HT2 := gz (show af.TK row k ⟨x0, x1, x2⟩ 0 0 nr [] = some (b, M') from by rw [← HNR.out]; exact HT.out)
   clear hnb hcnt hgb p0 p1 p2 B3 C3 M3 D3 N3
   go_wp2_with fail
   refine (af.TK_calls MM.out k ⟨x0, x1, x2⟩ 0 0 nr [] b M' j b' w4 HT2.out NA.out (fun _ _ _ _ h => h) M4.out).mono ?_
   rintro ee w5 ⟨rfl, hm5, hg5⟩
   have B5 := gz (ab.GB.fromB (B1.out.trans (B4.out.mono B1.out.size)) hg5 (by have := B1.out.size; omega))
   clear hm5 hg5
   go_wp2
   go_ret
   exact ⟨rfl, B5.out⟩
end Go.Proofs.YtaccleilcdfapaaGreat.G
