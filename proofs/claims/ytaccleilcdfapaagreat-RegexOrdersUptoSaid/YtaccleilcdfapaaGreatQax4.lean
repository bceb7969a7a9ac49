import Derived.Test.YtaccleilcdfapaaGreatQPre
import Derived.Test.YtaccleilcdfapaaGreatQax0
import Derived.Test.YtaccleilcdfapaaGreatQax1
import Derived.Test.YtaccleilcdfapaaGreatQax2
import Derived.Test.YtaccleilcdfapaaGreatQax3
namespace Go.Proofs.YtaccleilcdfapaaGreat.G
open Go.RowKit Go.Proofs.YtaccleilcdfapaaGreatW.PrintWords Go.Proofs.YtaccleilcdfapaaGreatW.PrintLast Go.Proofs.YtaccleilcdfapaaGreatW.PrintMore
attribute [local go_sem] dH dF dR dQ da cZ dG dE
set_option linter.unusedVariables false
set_option maxHeartbeats 8000000
set_option maxRecDepth 100000
set_option linter.unusedSimpArgs false
theorem ae.drop_at (xs : List S25) (i : Nat) (h : i < xs.length) : xs.drop i = xs.getD i z25 :: xs.drop (i + 1) := by
 rw [List.drop_eq_getElem_cons h]
 congr 1
 rw [List.getD_eq_getElem?_getD, List.getElem?_eq_getElem h]
 rfl
theorem ae.mem_at (xs : List S25) (i : Nat) (h : i < xs.length) : xs.getD i z25 ∈ xs := by
 rw [List.getD_eq_getElem?_getD, List.getElem?_eq_getElem h]
 exact List.getElem_mem h
theorem ae.take_at (xs : List S25) (i : Nat) (h : i < xs.length) : xs.take (i + 1) = xs.take i ++ [xs.getD i z25] := by
 rw [List.take_succ_eq_append_getElem h]
 congr 2
 rw [List.getD_eq_getElem?_getD, List.getElem?_eq_getElem h]
 rfl
def ae.set3 (W : World) (m : Nat) (x y z : Value) : World := ((W.setCell ⟨m, 0, none⟩ x).setCell ⟨m, 1, none⟩ y).setCell ⟨m, 2, none⟩ z
theorem ae.set3_at {W : World} {m : Nat} {a b c : Value} (x y z : Value) (h : W.heap[m]? = some (.cells #[a, b, c] 25 (0, 0))) : (ae.set3 W m x y z).heap[m]? = some (.cells #[x, y, z] 25 (0, 0)) :=
 bG (cs := #[x, y, c]) (bG (cs := #[x, b, c]) (bG (cs := #[a, b, c]) h 0 _ rfl) 1 _ rfl) 2 _ rfl
theorem ae.set3_far (W : World) (m : Nat) (x y z : Value) (k : Nat) (h : k ≠ m) : (ae.set3 W m x y z).heap[k]? = W.heap[k]? := by
 unfold ae.set3
 rw [Below.heap_setCell _ _ _ k h, Below.heap_setCell _ _ _ k h, Below.heap_setCell _ _ _ k h]
theorem ae.set3_below {B m : Nat} {w W : World} (h : Below B w W) (hm : B ≤ m) (x y z : Value) : Below B w (ae.set3 W m x y z) := ((h.setCell hm _).setCell hm _).setCell hm _
theorem ae.F_zero {α : Type} (d : Kd α) (W : World) (ok : Nat → Prop) (A : Option Addr) : Kd.F d W ok A 0 [] := fun W' _ => ⟨rfl, Z8, fun hp => absurd hp Z8⟩
theorem ae.formF {W : World} {ok : Nat → Prop} {x : S25} {c : List Value} (h : Kd.FK k25 W ok x c) : ∃ A1 c1 A2 c2, c = [.int .i64 x.f0, .slice A1 x.f1.length c1, .slice A2 x.f2.length c2] ∧ x.f1.length ≤ c1 ∧ k51.C W A1 x.f1.length x.f1 ∧ x.f2.length ≤ c2 ∧ k25.C W A2 x.f2.length x.f2 := fm (Kd.FK_now h)
theorem ae.V_at3 {W : World} {E : Nat → Prop} {A : Option Addr} {n c : Nat} {xs : List S25} (h : Kd.V k25 25 W 0 E (.slice A n c) xs) (i : Nat) (h1 : i < n) :
  ∃ ad A1 c1 A2 c2, A = some ad ∧ W.cell? (ad.add (i * 3)) = some (.int .i64 (xs.getD i z25).f0) ∧ W.cell? ⟨(ad.add (i * 3)).block, (ad.add (i * 3)).off + 1, none⟩ = some (.slice A1 (xs.getD i z25).f1.length c1) ∧ W.cell? ⟨(ad.add (i * 3)).block, (ad.add (i * 3)).off + 2, none⟩ = some (.slice A2 (xs.getD i z25).f2.length c2) ∧ (xs.getD i z25).f1.length ≤ c1 ∧ Kd.F k51 W E A1 (xs.getD i z25).f1.length (xs.getD i z25).f1 ∧ (xs.getD i z25).f2.length ≤ c2 ∧ Kd.F k25 W E A2 (xs.getD i z25).f2.length (xs.getD i z25).f2 := by
 obtain ⟨ad, cs, he, hcl, hK, hcc, _⟩ := Kd.F_get (Kd.V_F h) z25 (i : Int) Z8 Z8
 simp only [Int.toNat_natCast] at hK hcc
 obtain ⟨A1, c1, A2, c2, rfl, l1, g1, l2, g2⟩ := dZ hK
 have hc : ∀ j u, [Value.int .i64 (xs.getD i z25).f0, .slice A1 (xs.getD i z25).f1.length c1, .slice A2 (xs.getD i z25).f2.length c2][j]? = some u → W.cell? (ad.add (i * 3 + j)) = some u := hcc
 exact ⟨ad, A1, c1, A2, c2, he, hc 0 _ rfl, by rw [← dB _ _ 1 Z8]; exact hc 1 _ rfl, by rw [← dB _ _ 2 Z8]; exact hc 2 _ rfl, l1, g1, l2, g2⟩
def ae.sameT (k : Nat) (x y : S25) : Option Bool := bO.f k x.f0 x.f1 x.f2 y.f0 y.f1 y.f2
def ae.jloop (k : Nat) (stop skip : S25) : List S25 → List S25 → Option (Option (List S25))
 | [], out => some (some out)
 | x :: l, out => (ae.sameT k x stop).bind fun b => if b = true then some none else if x.f0 = 2 then ae.jloop k stop skip l out else (ae.sameT k x skip).bind fun b2 => if b2 = true then ae.jloop k stop skip l out else (aq.f k out x.f0 x.f1 x.f2).bind fun o => ae.jloop k stop skip l o
def ae.jend (a : Int) (skip : S25) : List S25 → Int × List S51 × List S25 × Int
 | [] => (skip.f0, skip.f1, skip.f2, 0)
 | [x] => (x.f0, x.f1, x.f2, 0)
 | l => (a, [], l, 0)
def ae.jlast (k : Nat) (s : List S51) (out : List S25) : Option (List S25) := aq.f k out 2 s []
def ae.jfin (k : Nat) (a : Int) (skip : S25) (ss : List (List S51)) (s : List S51) (e : Int) (out : List S25) : Option (Int × List S51 × List S25 × Int) :=
 if ss = [] then some (ae.jend a skip out) else if e = 0 then (if s = [] then some (0, [], [], 0) else (ae.jlast k s out).bind fun o => some (ae.jend a skip o)) else some (0, [], [], e)
def ae.jcont (k : Nat) (a : Int) (stop skip : S25) (ss : List (List S51)) (s : List S51) (e : Int) : Option (List S25) → Option (Int × List S51 × List S25 × Int)
 | none => some (stop.f0, stop.f1, stop.f2, 0)
 | some out => ae.jfin k a skip ss s e out
def ae.junion (k : Nat) (a : Int) (ss : List (List S51)) : Option (List S51 × Int) := if a = 4 then dp.f k ss else dD.f k ss
def ae.f (k : Nat) (a0 : Int) (l1 : List S25) (a2_0 : Int) (l2_1 : List S51) (l2_2 : List S25) (a3_0 : Int) (l3_1 : List S51) (l3_2 : List S25) : Option (Int × List S51 × List S25 × Int) :=
 (bM.f k a0 l1).bind fun L => (bJ.f k L).bind fun ss => (ae.junion k a0 ss).bind fun u => (ae.jloop k ⟨a2_0, l2_1, l2_2⟩ ⟨a3_0, l3_1, l3_2⟩ L []).bind (ae.jcont k a0 ⟨a2_0, l2_1, l2_2⟩ ⟨a3_0, l3_1, l3_2⟩ ss u.1 u.2)
theorem ae.jloop_mono (k : Nat) (stop skip : S25) : ∀ l out : List S25, LeO (ae.jloop k stop skip l out) (ae.jloop (k + 1) stop skip l out)
 | [], out => by unfold ae.jloop; exact LeO.refl _
 | x :: l, out => by
  unfold ae.jloop
  exact LeO.bind (bO.mono _ _ _ _ _ _ _) (fun b => LeO.ite (LeO.refl _) (LeO.ite (ae.jloop_mono k stop skip l _) (LeO.bind (bO.mono _ _ _ _ _ _ _) (fun b2 => LeO.ite (ae.jloop_mono k stop skip l _) (LeO.bind (aq.mono _ _ _ _ _) (fun o => ae.jloop_mono k stop skip l _))))))
theorem ae.jfin_mono (k : Nat) (a : Int) (skip : S25) (ss : List (List S51)) (s : List S51) (e : Int) (out : List S25) : LeO (ae.jfin k a skip ss s e out) (ae.jfin (k + 1) a skip ss s e out) := by
 unfold ae.jfin
 exact LeO.ite (LeO.refl _) (LeO.ite (LeO.ite (LeO.refl _) (LeO.bind (aq.mono _ _ _ _ _) (fun o => LeO.refl _))) (LeO.refl _))
structure ae.JH (w X : World) (x2 x3 : S25) (v21 v22 v31 v32 : Value) : Prop where
 size : w.heap.size + 3 ≤ X.heap.size
 e : X.heap[w.heap.size]? = some (.cells #[.int .i64 x2.f0, v21, v22] 25 (0, 0))
 g : X.heap[w.heap.size + 1]? = some (.cells #[.int .i64 x3.f0, v31, v32] 25 (0, 0))
 r : X.heap[w.heap.size + 1 + 1]? = some (.cells #[.int .i64 0, .slice none 0 0, .slice none 0 0] 25 (0, 0))
 below : Below w.heap.size w X
theorem ae.JH.step {w X Y : World} {x2 x3 : S25} {v21 v22 v31 v32 : Value} (h : ae.JH w X x2 x3 v21 v22 v31 v32) (hb : Below X.heap.size X Y) : ae.JH w Y x2 x3 v21 v22 v31 v32 :=
 ⟨Nat.le_trans h.size hb.size, ao h.e hb, ao h.g hb, ao h.r hb, ai h.below hb⟩
theorem ae.JH.make (w : World) (x2 x3 : S25) (v21 v22 v31 v32 : Value) : ae.JH w (((w.alloc (.cells #[.int .i64 x2.f0, v21, v22] 25)).alloc (.cells #[.int .i64 x3.f0, v31, v32] 25)).alloc (.cells #[.int .i64 0, .slice none 0 0, .slice none 0 0] 25)) x2 x3 v21 v22 v31 v32 := by
 have B6 := a8 w (.cells #[.int .i64 x2.f0, v21, v22] 25)
 have s1 : (w.alloc (.cells #[.int .i64 x2.f0, v21, v22] 25)).heap.size = w.heap.size + 1 := Array.size_push _
 have L1 : Below w.heap.size w (w.alloc (.cells #[.int .i64 x2.f0, v21, v22] 25)) := ak (Below.refl _ _) _
 generalize w.alloc (.cells #[.int .i64 x2.f0, v21, v22] 25) = X1 at *
 have B7 := a8 X1 (.cells #[.int .i64 x3.f0, v31, v32] 25)
 have s2 : (X1.alloc (.cells #[.int .i64 x3.f0, v31, v32] 25)).heap.size = w.heap.size + 1 + 1 := (Array.size_push _).trans (by rw [s1])
 have L2 : Below X1.heap.size X1 (X1.alloc (.cells #[.int .i64 x3.f0, v31, v32] 25)) := ak (Below.refl _ _) _
 rw [s1] at B7
 have B62 := ao B6 L2
 generalize X1.alloc (.cells #[.int .i64 x3.f0, v31, v32] 25) = X2 at *
 have B8 := a8 X2 (.cells #[.int .i64 0, .slice none 0 0, .slice none 0 0] 25)
 have s3 : (X2.alloc (.cells #[.int .i64 0, .slice none 0 0, .slice none 0 0] 25)).heap.size = w.heap.size + 1 + 1 + 1 := (Array.size_push _).trans (by rw [s2])
 have L3 : Below X2.heap.size X2 (X2.alloc (.cells #[.int .i64 0, .slice none 0 0, .slice none 0 0] 25)) := ak (Below.refl _ _) _
 rw [s2] at B8
 exact ⟨Z8, ao B62 L3, ao B7 L3, B8, ai (ai L1 L2) L3⟩
def ae.JG (w : World) (E : Nat → Prop) (k : Nat) : Prop := (E k ∧ k < w.heap.size) ∨ w.heap.size + 3 ≤ k
theorem ae.JH.fin {w X : World} {x2 x3 t : S25} {v21 v22 v31 v32 : Value} {E : Nat → Prop} {A1 A2 : Option Addr} {c1 c2 : Nat} (h : ae.JH w X x2 x3 v21 v22 v31 v32) (hf : Kd.FK k25 X (ae.JG w E) t [.int .i64 t.f0, .slice A1 t.f1.length c1, .slice A2 t.f2.length c2]) :
  (ae.set3 X (w.heap.size + 1 + 1) (.int .i64 t.f0) (.slice A1 t.f1.length c1) (.slice A2 t.f2.length c2)).heap[w.heap.size + 1 + 1]? = some (.cells #[.int .i64 t.f0, .slice A1 t.f1.length c1, .slice A2 t.f2.length c2] 25 (0, 0)) ∧
  Kd.V k51 51 (ae.set3 X (w.heap.size + 1 + 1) (.int .i64 t.f0) (.slice A1 t.f1.length c1) (.slice A2 t.f2.length c2)) w.heap.size (fun k_ => E k_ ∨ w.heap.size ≤ k_) (.slice A1 t.f1.length c1) t.f1 ∧
  Kd.V k25 25 (ae.set3 X (w.heap.size + 1 + 1) (.int .i64 t.f0) (.slice A1 t.f1.length c1) (.slice A2 t.f2.length c2)) w.heap.size (fun k_ => E k_ ∨ w.heap.size ≤ k_) (.slice A2 t.f2.length c2) t.f2 ∧ Below w.heap.size w (ae.set3 X (w.heap.size + 1 + 1) (.int .i64 t.f0) (.slice A1 t.f1.length c1) (.slice A2 t.f2.length c2)) := by
 have hf2 := Kd.FK_mono (ok' := fun k_ => E k_ ∨ w.heap.size ≤ k_) (Kd.FK_step hf (W1 := ae.set3 X (w.heap.size + 1 + 1) (.int .i64 t.f0) (.slice A1 t.f1.length c1) (.slice A2 t.f2.length c2)) (fun k hk _ => ae.set3_far X _ _ _ _ k (fun e => by subst e; rcases hk with hk | hk <;> omega))) (fun k hk => by
  rcases hk with hk | hk
  ·exact .inl hk.1
  ·exact .inr Z8)
 obtain ⟨B1, d1, B2, d2, he, n1, f1, n2, f2⟩ := dZ hf2
 simp only [List.cons.injEq, Value.slice.injEq, and_true, true_and] at he
 obtain ⟨⟨rfl, rfl⟩, rfl, rfl⟩ := he
 exact ⟨ae.set3_at _ _ _ h.r, Kd.V_mk n1 f1, Kd.V_mk n2 f2, ae.set3_below h.below Z8 _ _ _⟩
def ae.jT14 : Bool × List (List Nat × List Nat) := (true, [([], []), ([], []), ([0, 1], [0, 1]), ([2], [2]), ([3], [3]), ([4], [4]), ([5], [5]), ([6], [6]), ([6], [6]), ([7, 8, 6], [6, 7, 8]), ([9, 6], [6, 9]), ([6], [6]), ([10, 11, 6, 6], [6, 10, 11]), ([12, 6], [6, 12]), ([6, 13], [6, 13])])
def ae.jB14 : List Nat := [0, 0, 3, 7, 15, 31, 63, 127, 127, 511, 1023, 127, 4095, 8191, 16383]
theorem ae.jtab14 : rtab .any (opsOf Tryz.f85 14) = ae.jT14 := by kernel_rfl
theorem ae.jbits14 : go ae.jT14.2 ae.jB14 = true := by kernel_rfl
theorem ae.joinedE (k : Nat) (a0 : Int) (E : Nat → Prop) (A1 : Option Addr) (c1 : Nat) (l1 : List S25) (x2 x3 : S25) (B1 : Option Addr) (b1 : Nat) (B2 : Option Addr) (b2 : Nat) (D1 : Option Addr) (d1 : Nat) (D2 : Option Addr) (d2 : Nat) (r1 : Int) (r2 : List S51) (r3 : List S25) (r4 : Int) (w : World)
  (hs1 : Kd.V k25 25 w w.heap.size E (.slice A1 l1.length c1) l1)
  (h2 : Kd.FK k25 w E x2 [.int .i64 x2.f0, .slice B1 x2.f1.length b1, .slice B2 x2.f2.length b2])
  (h3 : Kd.FK k25 w E x3 [.int .i64 x3.f0, .slice D1 x3.f1.length d1, .slice D2 x3.f2.length d2])
  (h : ae.f k a0 l1 x2.f0 x2.f1 x2.f2 x3.f0 x3.f1 x3.f2 = some (r1, r2, r3, r4)) :
  Calls Tryz.prog 85 #[.int .i64 a0, .slice A1 l1.length c1, .agg #[.int .i64 x2.f0, .slice B1 x2.f1.length b1, .slice B2 x2.f2.length b2], .agg #[.int .i64 x3.f0, .slice D1 x3.f1.length d1, .slice D2 x3.f2.length d2]] w fun e w' => ∃ v1_ v2_ : Value, e = .returned (.tuple #[.agg #[.int .i64 r1, v1_, v2_], .int .i64 r4]) ∧ Kd.V k51 51 w' w.heap.size (fun k_ => (E k_ ∨ w.heap.size ≤ k_)) v1_ r2 ∧ Kd.V k25 25 w' w.heap.size (fun k_ => (E k_ ∨ w.heap.size ≤ k_)) v2_ r3 ∧ Below w.heap.size w w' := by
 obtain ⟨y0, y1, y2⟩ := x2
 obtain ⟨z0, z1, z2⟩ := x3
 dsimp only at h2 h3 h ⊢
 unfold ae.f at h
 obtain ⟨L, hL, h⟩ := Option.bind_eq_some_iff.mp h
 obtain ⟨ss, hss, h⟩ := Option.bind_eq_some_iff.mp h
 obtain ⟨⟨us, ue⟩, hu, h⟩ := Option.bind_eq_some_iff.mp h
 have HV := gz (Kd.V_bound hs1)
 have H2 := gz (Kd.FK_bound h2)
 have H3 := gz (Kd.FK_bound h3)
 have HL := gz hL
 have HSS := gz hss
 have HU := gz hu
 have HF := gz (show (ae.jloop k ⟨y0, y1, y2⟩ ⟨z0, z1, z2⟩ L []).bind (ae.jcont k a0 ⟨y0, y1, y2⟩ ⟨z0, z1, z2⟩ ss us ue) = some (r1, r2, r3, r4) from h)
 clear hs1 h2 h3 h hL hss hu
 go_enter Tryz.func85, Tryz.ntmps85
 go_wp2_with fail
 have HJ := gz (show ae.JH w (((w.alloc (.cells #[.int .i64 y0, .slice B1 y1.length b1, .slice B2 y2.length b2] 25)).alloc (.cells #[.int .i64 z0, .slice D1 z1.length d1, .slice D2 z2.length d2] 25)).alloc (.cells #[.int .i64 0, .slice none 0 0, .slice none 0 0] 25)) ⟨y0, y1, y2⟩ ⟨z0, z1, z2⟩ (.slice B1 y1.length b1) (.slice B2 y2.length b2) (.slice D1 z1.length d1) (.slice D2 z2.length d2) from ae.JH.make w ⟨y0, y1, y2⟩ ⟨z0, z1, z2⟩ _ _ _ _)
 generalize (((w.alloc (.cells #[.int .i64 y0, .slice B1 y1.length b1, .slice B2 y2.length b2] 25)).alloc (.cells #[.int .i64 z0, .slice D1 z1.length d1, .slice D2 z2.length d2] 25)).alloc (.cells #[.int .i64 0, .slice none 0 0, .slice none 0 0] 25)) = X at HJ ⊢
 have HV1 := gz (show Kd.V k25 25 X X.heap.size (ae.JG w E) (.slice A1 l1.length c1) l1 from Kd.V_mono (Kd.V_below HV.out HJ.out.below) (fun k hk => .inl hk))
 have G2 := gz (show Kd.FK k25 X (ae.JG w E) ⟨y0, y1, y2⟩ _ from Kd.FK_mono (Kd.FK_below H2.out HJ.out.below) (fun k hk => .inl hk))
 have G3 := gz (show Kd.FK k25 X (ae.JG w E) ⟨z0, z1, z2⟩ _ from Kd.FK_mono (Kd.FK_below H3.out HJ.out.below) (fun k hk => .inl hk))
 clear HV H2 H3
 refine (bM.calls k a0 (ae.JG w E) A1 c1 l1 L X HV1.out HL.out).mono ?_
 rintro e1 w1 ⟨v1, rfl, hn1, hb1⟩
 obtain ⟨Al, cl, rfl⟩ := Kd.N_slice hn1
 have HVL := gz (show Kd.V k25 25 w1 w1.heap.size (ae.JG w E) (.slice Al L.length cl) L from Kd.V_mono (Kd.N_V hn1) (fun k hk => by
  rcases hk with hk | hk
  ·exact hk
  ·exact .inr (Nat.le_trans HJ.out.size hk)))
 have HJ1 := gz (HJ.out.step hb1)
 have G21 := gz (Kd.FK_below G2.out hb1)
 have G31 := gz (Kd.FK_below G3.out hb1)
 clear hn1 hb1 HJ G2 G3 HV1 HL
 go_wp2_with fail
 refine (bJ.calls k (ae.JG w E) Al cl L ss w1 HVL.out HSS.out).mono ?_
 rintro e2 w2 ⟨v2, rfl, hn2, hb2⟩
 obtain ⟨As, cs, rfl⟩ := Kd.N_slice hn2
 have HS2 := gz (Kd.N_reads' hn2).2.2
 have HSC := gz (Kd.N_reads' hn2).2.1
 have HVL2 := gz (Kd.V_below HVL.out hb2)
 have HJ2 := gz (HJ1.out.step hb2)
 have G22 := gz (Kd.FK_below G21.out hb2)
 have G32 := gz (Kd.FK_below G31.out hb2)
 clear hn2 hb2 HJ1 G21 G31 HVL HSS
 go_upto_if 21 with fail
 (try simp only [Act.put, List.setIfInBounds_toArray, List.set_cons_zero, List.set_cons_succ])
 go_cut [11, 12] (fun v11 v12 wc => v12 = .int .i64 ue ∧ aa (Kd.V k51 51 wc wc.heap.size (ae.JG w E) v11 us) ∧ aa (Below w2.heap.size w2 wc))
 case first =>
  have hu := HU.out
  unfold ae.junion at hu
  by_cases ha : a0 = 4
  ·have ha1 : (a0 == 4) = true := beq_iff_eq.mpr ha
   rw [if_pos ha] at hu
   have HU2 := gz hu
   clear hu HU
   replace ha := gz ha
   go_wp2_with fail
   refine (dp.calls k As cs ss us ue _ HS2.out HSC.out HU2.out).mono ?_
   rintro e3 w3 ⟨v3, rfl, hr, hb⟩
   have HR := gz (show Kd.V k51 51 w3 w3.heap.size (ae.JG w E) v3 us from Kd.R_V (Kd.R_mono (Kd.R_tight rfl hr) (fun k hk => .inr (Nat.le_trans HJ2.out.size (Kd.R_base hr k hk.symm)))))
   have HB := gz hb
   obtain ⟨Au, cu, rfl⟩ := Kd.R_slice hr
   clear hr hb
   go_wp2
   go_meet
   case rel => exact ⟨rfl, HR, HB⟩
  ·have ha1 : (a0 == 4) = false := beq_eq_false_iff_ne.mpr ha
   rw [if_neg ha] at hu
   have HU2 := gz hu
   clear hu HU
   replace ha := gz ha
   go_wp2_with fail
   refine (dD.calls k As cs ss us ue _ HS2.out HSC.out HU2.out).mono ?_
   rintro e3 w3 ⟨v3, rfl, hr, hb⟩
   have HR := gz (show Kd.V k51 51 w3 w3.heap.size (ae.JG w E) v3 us from Kd.R_V (Kd.R_mono (Kd.R_tight rfl hr) (fun k hk => .inr (Nat.le_trans HJ2.out.size (Kd.R_base hr k hk.symm)))))
   have HB := gz hb
   obtain ⟨Au, cu, rfl⟩ := Kd.R_slice hr
   clear hr hb
   go_wp2
   go_meet
   case rel => exact ⟨rfl, HR, HB⟩
 case rest =>
  obtain ⟨rfl, HU3, HB3⟩ := hcut
  obtain ⟨Au, cu, hau, _⟩ := HU3.out
  subst hau
  have HVL := gz (Kd.V_below HVL2.out HB3.out)
  have HJ := gz (HJ2.out.step HB3.out)
  have G2 := gz (Kd.FK_below G22.out HB3.out)
  have G3 := gz (Kd.FK_below G32.out HB3.out)
  clear HU HS2 HVL2 HJ2 G22 G32 HB3
  have HMX := gz (show (L.length : Int) ≤ 9223372036854775807 from by have := (Kd.V_reads' HVL.out).2.2.2.1; omega)
  generalize wc = W1 at *
  go_wp2
  go_loopg [13, 14] L.length (fun gk v13 v14 wr => ∃ (i : Nat) (out : List S25), i ≤ L.length ∧ L.length - i ≤ gk ∧ v14 = .int .i64 (i : Int) ∧ aa (Kd.V k25 25 wr wr.heap.size (ae.JG w E) v13 out) ∧ aa (Below W1.heap.size W1 wr) ∧ aa ((ae.jloop k ⟨y0, y1, y2⟩ ⟨z0, z1, z2⟩ (L.drop i) out).bind (ae.jcont k a0 ⟨y0, y1, y2⟩ ⟨z0, z1, z2⟩ ss us ue) = some (r1, r2, r3, r4)))
  case atStart => exact ⟨0, [], Nat.zero_le _, Z8, rfl, ⟨Kd.V_mk (Nat.zero_le _) (ae.F_zero _ _ _ _)⟩, ⟨Below.refl _ _⟩, HF⟩
  case round =>
   clear HF
   obtain ⟨i, out, hi, hgk, rfl, HO, HW, HF⟩ := hrel
   obtain ⟨Ao, co, hao, _⟩ := HO.out
   subst hao
   have HJr := gz (HJ.out.step HW.out)
   have G2r := gz (Kd.FK_below G2.out HW.out)
   have G3r := gz (Kd.FK_below G3.out HW.out)
   have HVr := gz (Kd.V_below HVL.out HW.out)
   by_cases hlt : i < L.length
   ·have d1' : decide ((i : Int) < (L.length : Int)) = true := decide_eq_true Z8
    obtain ⟨ad, X1, x1, X2, x2, hAl, p0, p1, p2, n1, f1, n2, f2⟩ := ae.V_at3 (E := ae.JG w E) (show Kd.V k25 25 wr 0 (ae.JG w E) (.slice Al L.length cl) L from HVr.out) i hlt
    subst hAl
    have HDR := ae.drop_at L i hlt
    obtain ⟨⟨t0, t1, t2⟩, ht⟩ : ∃ t, L.getD i z25 = t := ⟨_, rfl⟩
    rw [ht] at p0 p1 p2 n1 f1 n2 f2 HDR
    dsimp only at p0 p1 p2 n1 f1 n2 f2
    have HFx := HF.out
    rw [HDR, ae.jloop] at HFx
    obtain ⟨o, ho, HFc⟩ := Option.bind_eq_some_iff.mp HFx
    obtain ⟨bb, hbb, ho⟩ := Option.bind_eq_some_iff.mp ho
    obtain ⟨Y1, yy1, Y2, yy2, eY, m1, D1', m2, D2'⟩ := ae.formF G2r.out
    simp only [List.cons.injEq, Value.slice.injEq, and_true, true_and] at eY
    obtain ⟨⟨rfl, rfl⟩, rfl, rfl⟩ := eY
    have q0 := (ah HJr.out.e 0).trans rfl
    have q1 := (ah HJr.out.e 1).trans rfl
    have q2 := (ah HJr.out.e 2).trans rfl
    have KK := gz (show bO.f k t0 t1 t2 y0 y1 y2 = some bb from hbb)
    have HO2 := gz ho
    have HFC := gz HFc
    have M1 := gz n1
    have M2 := gz n2
    have F1 := gz f1
    have F2 := gz f2
    have Q1 := gz n1
    have Q2 := gz (Kd.F_now f1)
    have Q3 := gz n2
    have Q4 := gz (Kd.F_now f2)
    have Q5 := gz m1
    have Q6 := gz D1'
    have Q7 := gz m2
    have Q8 := gz D2'
    have Q9 := gz (show Below wr.heap.size wr wr.drew from aX (Below.refl _ _))
    clear n1 f1 n2 f2 m1 D1' m2 D2' hbb ho HFc HFx HDR ht HF
    have z0' : (0 : Int) ≤ (i : Int) := by omega
    have z1' : (i : Int) < (L.length : Int) := by omega
    have hw1 := gz (show wrap64 ((i : Int) + 1) = ((i + 1 : Nat) : Int) from by unfold wrap64; have := HMX.out; omega)
    go_wp2_with fail
    go_region_held3 (fun w' => w'.cell? (ad.add (i * 3)) = some (.int .i64 t0) ∧ w'.cell? ⟨(ad.add (i * 3)).block, (ad.add (i * 3)).off + 1, none⟩ = some (.slice X1 t1.length x1) ∧ w'.cell? ⟨(ad.add (i * 3)).block, (ad.add (i * 3)).off + 2, none⟩ = some (.slice X2 t2.length x2) ∧ w'.cell? ⟨w.heap.size, 0, none⟩ = some (.int .i64 y0) ∧ w'.cell? ⟨w.heap.size, 1, none⟩ = some (.slice B1 y1.length b1) ∧ w'.cell? ⟨w.heap.size, 2, none⟩ = some (.slice B2 y2.length b2)) (go_keep) ((go_at_call 21; refine (bO.calls k t0 X1 x1 t1 X2 x2 t2 y0 B1 b1 y1 B2 b2 y2 bb _ (Kd.C_below Q2.out Q9.out) Q1.out (Kd.C_below Q4.out Q9.out) Q3.out (Kd.C_below Q6.out Q9.out) Q5.out (Kd.C_below Q8.out Q9.out) Q7.out KK.out).mono ?_; rintro ee w3 ⟨rfl, hb⟩; have e0 := (hb.cell (World.block_lt_of_cell? _ _ p0)).trans p0; have e1 := (hb.cell (World.block_lt_of_cell? _ _ p1)).trans p1; have e2 := (hb.cell (World.block_lt_of_cell? _ _ p2)).trans p2; have e3 := (hb.cell (World.block_lt_of_cell? _ _ q0)).trans q0; have e4 := (hb.cell (World.block_lt_of_cell? _ _ q1)).trans q1; have e5 := (hb.cell (World.block_lt_of_cell? _ _ q2)).trans q2))
    have HB4 := ai Q9.out hb
    have HJ3 := gz (HJr.out.step HB4)
    have G23 := gz (Kd.FK_below G2r.out HB4)
    have G33 := gz (Kd.FK_below G3r.out HB4)
    have HV3 := gz (Kd.V_below HVr.out HB4)
    have HO3 := gz (Kd.V_below HO.out HB4)
    have HW3 := gz (ai HW.out HB4)
    have f3 := gz (Kd.F_below F1.out HB4)
    have f4 := gz (Kd.F_below F2.out HB4)
    clear HB4 hb HJr G2r G3r HVr HO HW F1 F2 Q1 Q2 Q3 Q4 Q5 Q6 Q7 Q8 Q9 p0 p1 p2 q0 q1 q2 KK
    cases bb with
    | true =>
     have hp := HO2.out
     rw [if_pos rfl] at hp
     obtain rfl : none = o := Option.some.inj hp
     have hc := HFC.out
     simp only [ae.jcont, Option.some.injEq, Prod.mk.injEq] at hc
     obtain ⟨rfl, rfl, rfl, rfl⟩ := hc
     have s0 := (ah HJ3.out.r 0).trans rfl
     have s1 := (ah HJ3.out.r 1).trans rfl
     have s2 := (ah HJ3.out.r 2).trans rfl
     have b0 := ag HJ3.out.r 0
     have b1' := ag HJ3.out.r 1
     have b2' := ag HJ3.out.r 2
     clear hp
     go_wp2
     obtain ⟨u1, u2, u3, u4⟩ := HJ3.out.fin (E := E) G23.out
     refine bodyPost_ret (cM rfl _ _ (w.heap.size + 1 + 1) 25 _ (0, 0) _ rfl u1 Tryz.underlying25 rfl Z5) rfl ?_
     exact ⟨_, _, rfl, u2, u3, u4⟩
    | false =>
     have hp := HO2.out
     rw [if_neg Z27] at hp
     have Q9 := gz (show Below w3.heap.size w3 w3.drew from aX (Below.refl _ _))
     replace z0' := eq_true z0'
     replace z1' := eq_true z1'
     by_cases hk : t0 = 2
     ·have c1' : (t0 != 2) = false := bne_eq_false_iff_eq.mpr hk
      rw [if_pos hk] at hp
      replace hp := gz hp
      replace hk := gz hk
      go_wp2_with fail
      refine gp (n := 15) (S := fun w' => w'.cell? (ad.add (i * 3)) = some (.int .i64 t0) ∧ w'.cell? ⟨(ad.add (i * 3)).block, (ad.add (i * 3)).off + 1, none⟩ = some (.slice X1 t1.length x1) ∧ w'.cell? ⟨(ad.add (i * 3)).block, (ad.add (i * 3)).off + 2, none⟩ = some (.slice X2 t2.length x2)) (ds := []) #[false, false, false, false, false, false, false, false, false, false, false, false, false, false, false] Z5 rfl rfl ⟨e0, e1, e2⟩ (fun hHeld => ?_); refine with_tabW ae.jtab14 ae.jbits14 (fun HT_ HW_ => ?_)
      refine pU 0 45 (hc := (cw HT_.out Z5)) (h := ?_)
      refine pU 1 46 (hc := (cw HT_.out Z5)) (h := ?_)
      refine pU 2 47 (hc := (cw HT_.out Z5)) (h := ?_)
      refine pU 3 48 (hc := (cw HT_.out Z5)) (h := ?_)
      refine take_ (i := 4) (N := some 49) (v := ?_) (a' := ?_) #[true, true, true, true, true, false, false, false, false, false, false, false, false, false, false] rfl rfl (take_ofW HT_.out HW_.out Z5) (fun _ _ _ h => h) (Or.inl ⟨by rfl, ?_⟩) hHeld ?_ ?_
      rotate_left
      ·rintro w' ⟨s0, s1, s2⟩
       go_simp
       with_reducible rfl
      rotate_left
      ·simp only [Act.put, List.setIfInBounds_toArray, List.set_cons_zero, List.set_cons_succ, dq, dJ]
       rfl
      refine pU 5 50 (hc := (cw HT_.out Z5)) (h := ?_)
      refine pU 6 51 (hc := (cw HT_.out Z5)) (h := ?_)
      refine pV 7 52 (hc := (cw HT_.out Z5)) (h := ?_)
      refine pV 8 53 (hc := (cw HT_.out Z5)) (h := ?_)
      refine pV 9 54 (hc := (cw HT_.out Z5)) (h := ?_)
      refine pV 10 55 (hc := (cw HT_.out Z5)) (h := ?_)
      refine pV 11 56 (hc := (cw HT_.out Z5)) (h := ?_)
      refine pV 12 57 (hc := (cw HT_.out Z5)) (h := ?_)
      refine pV 13 58 (hc := (cw HT_.out Z5)) (h := ?_)
      refine pU 14 59 (hc := (cw HT_.out Z5)) (h := ?_)
      refine done_ (done_of HT_.out Z5) ?_
      go_wp2
      go_roundg (L.length - (i + 1))
      case measure => omega
      case rel => exact ⟨i + 1, out, Z8, Nat.le_refl _, by rw [hw1.out], ⟨Kd.V_below HO3.out Q9.out⟩, ⟨ai HW3.out Q9.out⟩, ⟨by rw [hp.out]; exact HFC.out⟩⟩
     ·have c1' : (t0 != 2) = true := bne_iff_ne.mpr hk
      rw [if_neg hk] at hp
      obtain ⟨b2', hb2, hp⟩ := Option.bind_eq_some_iff.mp hp
      have KK2 := gz (show bO.f k t0 t1 t2 z0 z1 z2 = some b2' from hb2)
      replace hp := gz hp
      replace hk := gz hk
      obtain ⟨Y1, yy1, Y2, yy2, eY, m1, D1', m2, D2'⟩ := ae.formF G33.out
      simp only [List.cons.injEq, Value.slice.injEq, and_true, true_and] at eY
      obtain ⟨⟨rfl, rfl⟩, rfl, rfl⟩ := eY
      have g0 := (ah HJ3.out.g 0).trans rfl
      have g1 := (ah HJ3.out.g 1).trans rfl
      have g2 := (ah HJ3.out.g 2).trans rfl
      have Q1 := gz M1.out
      have Q2 := gz (Kd.F_now f3.out)
      have Q3 := gz M2.out
      have Q4 := gz (Kd.F_now f4.out)
      have Q5 := gz m1
      have Q6 := gz D1'
      have Q7 := gz m2
      have Q8 := gz D2'
      clear m1 D1' m2 D2' hb2
      go_wp2_with fail
      refine gp (n := 15) (S := fun w' => w'.cell? (ad.add (i * 3)) = some (.int .i64 t0) ∧ w'.cell? ⟨(ad.add (i * 3)).block, (ad.add (i * 3)).off + 1, none⟩ = some (.slice X1 t1.length x1) ∧ w'.cell? ⟨(ad.add (i * 3)).block, (ad.add (i * 3)).off + 2, none⟩ = some (.slice X2 t2.length x2) ∧ w'.cell? ⟨w.heap.size + 1, 0, none⟩ = some (.int .i64 z0) ∧ w'.cell? ⟨w.heap.size + 1, 1, none⟩ = some (.slice D1 z1.length d1) ∧ w'.cell? ⟨w.heap.size + 1, 2, none⟩ = some (.slice D2 z2.length d2)) (ds := []) #[false, false, false, false, false, false, false, false, false, false, false, false, false, false, false] Z5 rfl rfl ⟨e0, e1, e2, g0, g1, g2⟩ (fun hHeld => ?_); refine with_tabW ae.jtab14 ae.jbits14 (fun HT_ HW_ => ?_)
      refine pU 0 45 (hc := (cw HT_.out Z5)) (h := ?_)
      refine pU 1 46 (hc := (cw HT_.out Z5)) (h := ?_)
      refine pU 2 47 (hc := (cw HT_.out Z5)) (h := ?_)
      refine pU 3 48 (hc := (cw HT_.out Z5)) (h := ?_)
      refine take_ (i := 4) (N := some 49) (v := ?_) (a' := ?_) #[true, true, true, true, true, false, false, false, false, false, false, false, false, false, false] rfl rfl (take_ofW HT_.out HW_.out Z5) (fun _ _ _ h => h) (Or.inl ⟨by rfl, ?_⟩) hHeld ?_ ?_
      rotate_left
      ·rintro w' ⟨s0, s1, s2, s3, s4, s5⟩
       go_simp
       with_reducible rfl
      rotate_left
      ·simp only [Act.put, List.setIfInBounds_toArray, List.set_cons_zero, List.set_cons_succ, dq, dJ]
       rfl
      refine pU 5 50 (hc := (cw HT_.out Z5)) (h := ?_)
      refine pU 6 51 (hc := (cw HT_.out Z5)) (h := ?_)
      refine pU 7 52 (hc := (cw HT_.out Z5)) (h := ?_)
      refine pU 8 53 (hc := (cw HT_.out Z5)) (h := ?_)
      refine pU 9 54 (hc := (cw HT_.out Z5)) (h := ?_)
      refine take_ (i := 10) (N := some 55) (v := ?_) (a' := ?_) #[true, true, true, true, true, true, true, true, true, true, true, false, false, false, false] rfl rfl (take_ofW HT_.out HW_.out Z5) (fun _ _ _ h => h) (Or.inl ⟨by rfl, ?_⟩) hHeld ?_ ?_
      rotate_left
      ·rintro w' ⟨s0, s1, s2, s3, s4, s5⟩
       go_simp
       with_reducible rfl
      rotate_left
      ·simp only [Act.put, List.setIfInBounds_toArray, List.set_cons_zero, List.set_cons_succ, dq, dJ]
       rfl
      refine take_ (i := 11) (N := some 56) (v := ?_) (a' := ?_) #[true, true, true, true, true, true, true, true, true, true, true, true, false, false, false] rfl rfl (take_ofW HT_.out HW_.out Z5) (fun _ _ _ h => h) (Or.inl ⟨by rfl, ?_⟩) hHeld ?_ ?_
      rotate_left
      ·rintro w' ⟨s0, s1, s2, s3, s4, s5⟩
       go_simp
       with_reducible rfl
      rotate_left
      ·simp only [Act.put, List.setIfInBounds_toArray, List.set_cons_zero, List.set_cons_succ, dq, dJ]
       rfl
      refine oN 12 (some 57) (hc := (one_of HT_.out Z5)) (h := fun K hK => ?_)
      refine goes_ Tryz.func21 Z5 rfl #[.agg #[.int .i64 t0, .slice X1 t1.length x1, .slice X2 t2.length x2], .agg #[.int .i64 z0, .slice D1 z1.length d1, .slice D2 z2.length d2]] (by rfl) rfl rfl Z1 ?_
      refine (bO.calls k t0 X1 x1 t1 X2 x2 t2 z0 D1 d1 z1 D2 d2 z2 b2' _ (Kd.C_below Q2.out Q9.out) Q1.out (Kd.C_below Q4.out Q9.out) Q3.out (Kd.C_below Q6.out Q9.out) Q5.out (Kd.C_below Q8.out Q9.out) Q7.out KK2.out).mono ?_
      rintro ee w5 ⟨rfl, hb5⟩
      have v0 := (hb5.cell (World.block_lt_of_cell? _ _ e0)).trans e0
      have v1 := (hb5.cell (World.block_lt_of_cell? _ _ e1)).trans e1
      have v2 := (hb5.cell (World.block_lt_of_cell? _ _ e2)).trans e2
      have v3 := (hb5.cell (World.block_lt_of_cell? _ _ g0)).trans g0
      have v4 := (hb5.cell (World.block_lt_of_cell? _ _ g1)).trans g1
      have v5 := (hb5.cell (World.block_lt_of_cell? _ _ g2)).trans g2
      refine ⟨_, rfl, ?_⟩
      refine hK.out _ _ ⟨v0, v1, v2, v3, v4, v5⟩ (fun hHeld => ?_)
      clear hK K
      refine nO 57 (h := ?_)
      refine pU 13 58 (hc := (cw HT_.out Z5)) (h := ?_)
      refine pU 14 59 (hc := (cw HT_.out Z5)) (h := ?_)
      refine done_ (done_of HT_.out Z5) ?_
      have HB5 := gz (ai Q9.out hb5)
      clear hb5 KK2 Q1 Q2 Q3 Q4 Q5 Q6 Q7 Q8 Q9
      cases b2' with
      | true =>
       have hp2 := hp.out
       rw [if_pos rfl] at hp2
       go_wp2
       go_roundg (L.length - (i + 1))
       case measure => omega
       case rel => exact ⟨i + 1, out, Z8, Nat.le_refl _, by rw [hw1.out], ⟨Kd.V_below HO3.out HB5.out⟩, ⟨ai HW3.out HB5.out⟩, ⟨by rw [hp2]; exact HFC.out⟩⟩
      | false =>
       have hp2 := hp.out
       rw [if_neg Z27] at hp2
       obtain ⟨oo, hoo, hp2⟩ := Option.bind_eq_some_iff.mp hp2
       have HOO := gz hoo
       have HP2 := gz hp2
       have R1 := gz (Kd.V_below HO3.out HB5.out)
       have R2 := gz (show Kd.V k51 51 w5 w5.heap.size (ae.JG w E) (.slice X1 t1.length x1) t1 from Kd.V_mk M1.out (Kd.F_below f3.out HB5.out))
       have R3 := gz (show Kd.V k25 25 w5 w5.heap.size (ae.JG w E) (.slice X2 t2.length x2) t2 from Kd.V_mk M2.out (Kd.F_below f4.out HB5.out))
       have HW5 := gz (ai HW3.out HB5.out)
       have HJ5 := gz (HJ3.out.step HB5.out)
       clear hoo hp2 HO3 HW3 HJ3 G23 G33 HV3 hp
       go_wp2_with fail
       refine (aq.calls k (ae.JG w E) Ao co out t0 (ae.JG w E) X1 x1 t1 (ae.JG w E) X2 x2 t2 oo w5 R1.out R2.out R3.out HOO.out).mono ?_
       rintro e6 w6 ⟨v6, rfl, hv6, hb6⟩
       have HV6 := gz (show Kd.V k25 25 w6 w6.heap.size (ae.JG w E) v6 oo from Kd.V_mono hv6 (fun k hk => by
        rcases hk with (hk | hk | hk) | hk
        ·exact hk
        ·exact hk
        ·exact hk
        ·exact .inr (Nat.le_trans HJ5.out.size hk)))
       have HW6 := gz (ai HW5.out hb6)
       obtain ⟨A6, c6, h6, _⟩ := hv6
       subst h6
       clear hb6
       go_wp2
       go_roundg (L.length - (i + 1))
       case measure => omega
       case rel => exact ⟨i + 1, oo, Z8, Nat.le_refl _, by rw [hw1.out], HV6, HW6, ⟨by rw [HP2.out]; exact HFC.out⟩⟩
   ·have d1' : decide ((i : Int) < (L.length : Int)) = false := decide_eq_false Z8
    have ei : i = L.length := by omega
    have HFx := HF.out
    rw [ei, List.drop_length, ae.jloop] at HFx
    replace HFx : ae.jfin k a0 ⟨z0, z1, z2⟩ ss us ue out = some (r1, r2, r3, r4) := HFx
    clear HF ei
    by_cases hse : ss = []
    ·subst hse
     unfold ae.jfin at HFx
     rw [if_pos rfl] at HFx
     have HEN := gz (show ae.jend a0 ⟨z0, z1, z2⟩ out = (r1, r2, r3, r4) from Option.some.inj HFx)
     have hg0 : decide (((([] : List (List S51)).length : Nat) : Int) > 0) = false := by decide
     have hg1 : decide ((0 : Int) < ((([] : List (List S51)).length : Nat) : Int)) = false := by decide
     have HJT := HJr
     have GT := G3r
     have HVT := HO
     clear HFx HW HVr G2r
     have s0 := (ah HJT.out.r 0).trans rfl
     have s1 := (ah HJT.out.r 1).trans rfl
     have s2 := (ah HJT.out.r 2).trans rfl
     have b0 := ag HJT.out.r 0
     have b1' := ag HJT.out.r 1
     have b2' := ag HJT.out.r 2
     rcases out with _ | ⟨x, _ | ⟨y, l⟩⟩
     ·have he := HEN.out
      simp only [ae.jend, Prod.mk.injEq] at he
      obtain ⟨rfl, rfl, rfl, rfl⟩ := he
      obtain ⟨Y1, yy1, Y2, yy2, eY, _, _, _, _⟩ := ae.formF GT.out
      simp only [List.cons.injEq, Value.slice.injEq, and_true, true_and] at eY
      obtain ⟨⟨rfl, rfl⟩, rfl, rfl⟩ := eY
      have g0 := (ah HJT.out.g 0).trans rfl
      have g1 := (ah HJT.out.g 1).trans rfl
      have g2 := (ah HJT.out.g 2).trans rfl
      go_wp2
      obtain ⟨u1, u2, u3, u4⟩ := HJT.out.fin (E := E) GT.out
      refine bodyPost_ret (cM rfl _ _ (w.heap.size + 1 + 1) 25 _ (0, 0) _ rfl u1 Tryz.underlying25 rfl Z5) rfl ?_
      exact ⟨_, _, rfl, u2, u3, u4⟩
     ·obtain ⟨ad, X1, x1, X2, x2, hAo, p0, p1, p2, n1, f1, n2, f2⟩ := ae.V_at3 (E := ae.JG w E) (show Kd.V k25 25 wr 0 (ae.JG w E) (.slice Ao [x].length co) [x] from HVT.out) 0 Z24
      subst hAo
      have FX := gz (show Kd.FK k25 wr (ae.JG w E) x [.int .i64 x.f0, .slice X1 x.f1.length x1, .slice X2 x.f2.length x2] from bP _ _ x n1 f1 n2 f2)
      have he := HEN.out
      simp only [ae.jend, Prod.mk.injEq] at he
      obtain ⟨rfl, rfl, rfl, rfl⟩ := he
      have p0 : wr.cell? ad = some (.int .i64 x.f0) := p0
      have p1 : wr.cell? ⟨ad.block, ad.off + 1, none⟩ = some (.slice X1 x.f1.length x1) := p1
      have p2 : wr.cell? ⟨ad.block, ad.off + 2, none⟩ = some (.slice X2 x.f2.length x2) := p2
      clear n1 f1 n2 f2
      go_wp2
      obtain ⟨u1, u2, u3, u4⟩ := HJT.out.fin (E := E) FX.out
      refine bodyPost_ret (cM rfl _ _ (w.heap.size + 1 + 1) 25 _ (0, 0) _ rfl u1 Tryz.underlying25 rfl Z5) rfl ?_
      exact ⟨_, _, rfl, u2, u3, u4⟩
     ·have he := HEN.out
      simp only [ae.jend, Prod.mk.injEq] at he
      obtain ⟨rfl, rfl, rfl, rfl⟩ := he
      have hlen : ((x :: y :: l).length : Int) ≠ 0 ∧ ((x :: y :: l).length : Int) ≠ 1 := by simp only [List.length_cons]; omega
      obtain ⟨n, hn⟩ : ∃ n, (x :: y :: l).length = n := ⟨_, rfl⟩
      rw [hn] at hlen
      have d3 : ((n : Int) == 0) = false := beq_eq_false_iff_ne.mpr hlen.1
      have d4 : ((n : Int) == 1) = false := beq_eq_false_iff_ne.mpr hlen.2
      have FX := gz (bP wr (ae.JG w E) ⟨a0, [], x :: y :: l⟩ (A1 := none) (c1 := 0) (Nat.le_refl _) (ae.F_zero k51 wr _ none) (Kd.V_at HVT.out).2.1 (Kd.V_F HVT.out))
      have HN := gz hn
      rw [hn]
      clear hlen hn
      go_wp2
      obtain ⟨u1, u2, u3, u4⟩ := HJT.out.fin (E := E) FX.out
      dsimp only at u1 u2 u3 u4
      rw [HN.out] at u1 u2 u3 u4
      refine bodyPost_ret (cM rfl _ _ (w.heap.size + 1 + 1) 25 _ (0, 0) _ rfl u1 Tryz.underlying25 rfl Z5) rfl ?_
      exact ⟨_, _, rfl, u2, u3, u4⟩
    ·have hpos : 0 < ss.length := List.length_pos_iff.2 hse
     have hg0 : decide (((ss.length : Nat) : Int) > 0) = true := decide_eq_true Z8
     have hg1 : decide ((0 : Int) < ((ss.length : Nat) : Int)) = true := decide_eq_true Z8
     unfold ae.jfin at HFx
     rw [if_neg hse] at HFx
     by_cases he : ue = 0
     ·have he1 : (ue != 0) = false := bne_eq_false_iff_eq.mpr he
      rw [if_pos he] at HFx
      have HU3r := gz (Kd.V_below HU3.out HW.out)
      by_cases hs : us = []
      ·have hl0 : (((us.length : Nat) : Int) == 0) = true := by rw [hs]; rfl
       rw [if_pos hs] at HFx
       simp only [Option.some.injEq, Prod.mk.injEq] at HFx
       obtain ⟨rfl, rfl, rfl, rfl⟩ := HFx
       replace he := gz he
       replace hs := gz hs
       clear hse
       go_wp2_with fail
       refine (bT.calls rfl).mono ?_
       rintro e5 w5 ⟨v5, v6, rfl, h5, h6, hb5⟩
       obtain ⟨X1, x1, rfl⟩ := Kd.R_slice h5
       obtain ⟨X2, x2, rfl⟩ := Kd.R_slice h6
       have HJT := gz (HJr.out.step hb5)
       have FX := gz (bP w5 (ae.JG w E) z25 (A1 := X1) (c1 := x1) (Nat.zero_le _) (ae.F_zero _ _ _ _) (A2 := X2) (c2 := x2) (Nat.zero_le _) (ae.F_zero _ _ _ _))
       clear h5 h6 hb5
       have s0 := (ah HJT.out.r 0).trans rfl
       have s1 := (ah HJT.out.r 1).trans rfl
       have s2 := (ah HJT.out.r 2).trans rfl
       have b0 := ag HJT.out.r 0
       have b1' := ag HJT.out.r 1
       have b2' := ag HJT.out.r 2
       go_wp2
       obtain ⟨u1, u2, u3, u4⟩ := HJT.out.fin (E := E) (t := z25) FX.out
       refine bodyPost_ret (cM rfl _ _ (w.heap.size + 1 + 1) 25 _ (0, 0) _ rfl u1 Tryz.underlying25 rfl Z5) rfl ?_
       exact ⟨_, _, rfl, u2, u3, u4⟩
      ·have hl0 : (((us.length : Nat) : Int) == 0) = false := beq_eq_false_iff_ne.mpr (by have := List.length_pos_iff.2 hs; omega)
       rw [if_neg hs] at HFx
       obtain ⟨o, ho, HFx⟩ := Option.bind_eq_some_iff.mp HFx
       have HEN := gz (show ae.jend a0 ⟨z0, z1, z2⟩ o = (r1, r2, r3, r4) from Option.some.inj HFx)
       have HOO := gz (show aq.f k out 2 us [] = some o from ho)
       have HSF := gz (show cG.f us = some (2, us, []) from by unfold cG.f; rw [if_neg (by have := List.length_pos_iff.2 hs; omega)])
       clear HFx ho
       replace he := gz he
       replace hs := gz hs
       clear hse
       go_wp2_with fail
       refine (cG.calls (ae.JG w E) Au cu us 2 us [] _ HU3r.out HSF.out).mono ?_
       rintro e5 w5 ⟨v5, v6, rfl, h5, h6, hb5⟩
       have R2 := gz (show Kd.V k51 51 w5 w5.heap.size (ae.JG w E) v5 us from Kd.V_mono h5 (fun k hk => by
        rcases hk with hk | hk
        ·exact hk
        ·exact .inr (Nat.le_trans HJr.out.size hk)))
       have R3 := gz (show Kd.V k25 25 w5 w5.heap.size (ae.JG w E) v6 [] from Kd.V_mono h6 (fun k hk => by
        rcases hk with hk | hk
        ·exact hk
        ·exact .inr (Nat.le_trans HJr.out.size hk)))
       have R1 := gz (Kd.V_below HO.out hb5)
       obtain ⟨X1, x1, e1', _⟩ := h5
       subst e1'
       obtain ⟨X2, x2, e2', _⟩ := h6
       subst e2'
       have HJ5 := gz (HJr.out.step hb5)
       have G35 := gz (Kd.FK_below G3r.out hb5)
       clear hb5 HSF HU3r HW HJr G2r G3r HVr HO
       go_wp2_with fail
       refine (aq.calls k (ae.JG w E) Ao co out 2 (ae.JG w E) X1 x1 us (ae.JG w E) X2 x2 [] o w5 R1.out R2.out R3.out HOO.out).mono ?_
       rintro e6 w6 ⟨v7, rfl, hv6, hb6⟩
       have HVT := gz (show Kd.V k25 25 w6 w6.heap.size (ae.JG w E) v7 o from Kd.V_mono hv6 (fun k hk => by
        rcases hk with (hk | hk | hk) | hk
        ·exact hk
        ·exact hk
        ·exact hk
        ·exact .inr (Nat.le_trans HJ5.out.size hk)))
       have HJT := gz (HJ5.out.step hb6)
       have GT := gz (Kd.FK_below G35.out hb6)
       obtain ⟨A6, c6, h6', _⟩ := hv6
       subst h6'
       clear hb6 HOO R1 R2 R3 HJ5 G35
       have s0 := (ah HJT.out.r 0).trans rfl
       have s1 := (ah HJT.out.r 1).trans rfl
       have s2 := (ah HJT.out.r 2).trans rfl
       have b0 := ag HJT.out.r 0
       have b1' := ag HJT.out.r 1
       have b2' := ag HJT.out.r 2
       rcases o with _ | ⟨x, _ | ⟨y, l⟩⟩
       ·have he := HEN.out
        simp only [ae.jend, Prod.mk.injEq] at he
        obtain ⟨rfl, rfl, rfl, rfl⟩ := he
        obtain ⟨Y1, yy1, Y2, yy2, eY, _, _, _, _⟩ := ae.formF GT.out
        simp only [List.cons.injEq, Value.slice.injEq, and_true, true_and] at eY
        obtain ⟨⟨rfl, rfl⟩, rfl, rfl⟩ := eY
        have g0 := (ah HJT.out.g 0).trans rfl
        have g1 := (ah HJT.out.g 1).trans rfl
        have g2 := (ah HJT.out.g 2).trans rfl
        go_wp2
        obtain ⟨u1, u2, u3, u4⟩ := HJT.out.fin (E := E) GT.out
        refine bodyPost_ret (cM rfl _ _ (w.heap.size + 1 + 1) 25 _ (0, 0) _ rfl u1 Tryz.underlying25 rfl Z5) rfl ?_
        exact ⟨_, _, rfl, u2, u3, u4⟩
       ·obtain ⟨ad, X1, x1, X2, x2, hAo, p0, p1, p2, n1, f1, n2, f2⟩ := ae.V_at3 (E := ae.JG w E) (show Kd.V k25 25 w6 0 (ae.JG w E) (.slice A6 [x].length c6) [x] from HVT.out) 0 Z24
        subst hAo
        have FX := gz (show Kd.FK k25 w6 (ae.JG w E) x [.int .i64 x.f0, .slice X1 x.f1.length x1, .slice X2 x.f2.length x2] from bP _ _ x n1 f1 n2 f2)
        have he := HEN.out
        simp only [ae.jend, Prod.mk.injEq] at he
        obtain ⟨rfl, rfl, rfl, rfl⟩ := he
        have p0 : w6.cell? ad = some (.int .i64 x.f0) := p0
        have p1 : w6.cell? ⟨ad.block, ad.off + 1, none⟩ = some (.slice X1 x.f1.length x1) := p1
        have p2 : w6.cell? ⟨ad.block, ad.off + 2, none⟩ = some (.slice X2 x.f2.length x2) := p2
        clear n1 f1 n2 f2
        go_wp2
        obtain ⟨u1, u2, u3, u4⟩ := HJT.out.fin (E := E) FX.out
        refine bodyPost_ret (cM rfl _ _ (w.heap.size + 1 + 1) 25 _ (0, 0) _ rfl u1 Tryz.underlying25 rfl Z5) rfl ?_
        exact ⟨_, _, rfl, u2, u3, u4⟩
       ·have he := HEN.out
        simp only [ae.jend, Prod.mk.injEq] at he
        obtain ⟨rfl, rfl, rfl, rfl⟩ := he
        have hlen : ((x :: y :: l).length : Int) ≠ 0 ∧ ((x :: y :: l).length : Int) ≠ 1 := by simp only [List.length_cons]; omega
        obtain ⟨n, hn⟩ : ∃ n, (x :: y :: l).length = n := ⟨_, rfl⟩
        rw [hn] at hlen
        have d3 : ((n : Int) == 0) = false := beq_eq_false_iff_ne.mpr hlen.1
        have d4 : ((n : Int) == 1) = false := beq_eq_false_iff_ne.mpr hlen.2
        have FX := gz (bP w6 (ae.JG w E) ⟨a0, [], x :: y :: l⟩ (A1 := none) (c1 := 0) (Nat.le_refl _) (ae.F_zero k51 w6 _ none) (Kd.V_at HVT.out).2.1 (Kd.V_F HVT.out))
        have HN := gz hn
        rw [hn]
        clear hlen hn
        go_wp2
        obtain ⟨u1, u2, u3, u4⟩ := HJT.out.fin (E := E) FX.out
        dsimp only at u1 u2 u3 u4
        rw [HN.out] at u1 u2 u3 u4
        refine bodyPost_ret (cM rfl _ _ (w.heap.size + 1 + 1) 25 _ (0, 0) _ rfl u1 Tryz.underlying25 rfl Z5) rfl ?_
        exact ⟨_, _, rfl, u2, u3, u4⟩
     ·have he1 : (ue != 0) = true := bne_iff_ne.mpr he
      rw [if_neg he] at HFx
      simp only [Option.some.injEq, Prod.mk.injEq] at HFx
      obtain ⟨rfl, rfl, rfl, rfl⟩ := HFx
      replace he := gz he
      clear hse
      have HJT := HJr
      have FX := gz (bP wr (ae.JG w E) z25 (A1 := none) (c1 := 0) (Nat.zero_le _) (ae.F_zero _ _ _ _) (A2 := none) (c2 := 0) (Nat.zero_le _) (ae.F_zero _ _ _ _))
      have s0 := (ah HJT.out.r 0).trans rfl
      have s1 := (ah HJT.out.r 1).trans rfl
      have s2 := (ah HJT.out.r 2).trans rfl
      have b0 := ag HJT.out.r 0
      have b1' := ag HJT.out.r 1
      have b2' := ag HJT.out.r 2
      go_wp2
      obtain ⟨u1, u2, u3, u4⟩ := HJT.out.fin (E := E) (t := z25) FX.out
      refine bodyPost_ret (cM rfl _ _ (w.heap.size + 1 + 1) 25 _ (0, 0) _ rfl u1 Tryz.underlying25 rfl Z5) rfl ?_
      exact ⟨_, _, rfl, u2, u3, u4⟩
theorem ae.calls (k : Nat) (a0 : Int) (P1_ : Nat → Prop) (A1 : Option Addr) (c1 : Nat) (l1 : List S25) (a2_0 : Int) (P2_1_ : Nat → Prop) (u9000_ : Value) (l2_1 : List S51) (P2_2_ : Nat → Prop) (A2_2 : Option Addr) (c2_2 : Nat) (l2_2 : List S25) (a3_0 : Int) (P3_1_ : Nat → Prop) (u9001_ : Value) (l3_1 : List S51) (P3_2_ : Nat → Prop) (A3_2 : Option Addr) (c3_2 : Nat) (l3_2 : List S25) (r1 : Int) (r2 : List S51) (r3 : List S25) (r4 : Int) (w0 w : World) (hB : Below w0.heap.size w0 w) (hs1 : Kd.V k25 25 w w0.heap.size (fun k_ => P1_ k_ ∧ some k_ ≠ (u9000_ : Value).ownBlock ∧ some k_ ≠ (u9001_ : Value).ownBlock) (.slice A1 l1.length c1) l1) (ho2_1 : Kd.R k51 51 w w0.heap.size P2_1_ u9000_ l2_1) (hp2_1_3_1 : ∀ k_, P2_1_ k_ → ¬ P3_1_ k_) (hs2_2 : Kd.V k25 25 w w0.heap.size (fun k_ => P2_2_ k_ ∧ some k_ ≠ (u9000_ : Value).ownBlock ∧ some k_ ≠ (u9001_ : Value).ownBlock) (.slice A2_2 l2_2.length c2_2) l2_2) (ho3_1 : Kd.R k51 51 w w0.heap.size P3_1_ u9001_ l3_1) (hp3_1_2_1 : ∀ k_, P3_1_ k_ → ¬ P2_1_ k_) (hs3_2 : Kd.V k25 25 w w0.heap.size (fun k_ => P3_2_ k_ ∧ some k_ ≠ (u9000_ : Value).ownBlock ∧ some k_ ≠ (u9001_ : Value).ownBlock) (.slice A3_2 l3_2.length c3_2) l3_2) (h : ae.f k a0 l1 a2_0 l2_1 l2_2 a3_0 l3_1 l3_2 = some (r1, r2, r3, r4)) :
  Calls Tryz.prog 85 #[.int .i64 a0, .slice A1 l1.length c1, .agg #[.int .i64 a2_0, u9000_, .slice A2_2 l2_2.length c2_2], .agg #[.int .i64 a3_0, u9001_, .slice A3_2 l3_2.length c3_2]] w fun e w' => ∃ v1_ v2_ : Value, e = .returned (.tuple #[.agg #[.int .i64 r1, v1_, v2_], .int .i64 r4]) ∧ Kd.V k51 51 w' w0.heap.size (fun k_ => ((P2_1_ k_ ∨ P3_1_ k_ ∨ P1_ k_ ∨ P2_2_ k_ ∨ P3_2_ k_) ∨ w.heap.size ≤ k_)) v1_ r2 ∧ Kd.V k25 25 w' w0.heap.size (fun k_ => ((P2_1_ k_ ∨ P3_1_ k_ ∨ P1_ k_ ∨ P2_2_ k_ ∨ P3_2_ k_) ∨ w.heap.size ≤ k_)) v2_ r3 ∧ Below w0.heap.size w0 w' ∧ Kept w w' (fun k_ => P2_1_ k_ ∨ P3_1_ k_) := by
 obtain ⟨X2, x2, rfl⟩ := Kd.R_slice ho2_1
 obtain ⟨X3, x3, rfl⟩ := Kd.R_slice ho3_1
 have e1 := Kd.V_mono hs1 (ok' := fun k_ => P2_1_ k_ ∨ P3_1_ k_ ∨ P1_ k_ ∨ P2_2_ k_ ∨ P3_2_ k_) (fun k hk => .inr (.inr (.inl hk.1)))
 have e2 := Kd.V_mono (Kd.R_V (base' := 0) ho2_1) (ok' := fun k_ => P2_1_ k_ ∨ P3_1_ k_ ∨ P1_ k_ ∨ P2_2_ k_ ∨ P3_2_ k_) (fun k hk => .inl hk)
 have e3 := Kd.V_mono (Kd.R_V (base' := 0) ho3_1) (ok' := fun k_ => P2_1_ k_ ∨ P3_1_ k_ ∨ P1_ k_ ∨ P2_2_ k_ ∨ P3_2_ k_) (fun k hk => .inr (.inl hk))
 have e4 := Kd.V_mono hs2_2 (ok' := fun k_ => P2_1_ k_ ∨ P3_1_ k_ ∨ P1_ k_ ∨ P2_2_ k_ ∨ P3_2_ k_) (fun k hk => .inr (.inr (.inr (.inl hk.1))))
 have e5 := Kd.V_mono hs3_2 (ok' := fun k_ => P2_1_ k_ ∨ P3_1_ k_ ∨ P1_ k_ ∨ P2_2_ k_ ∨ P3_2_ k_) (fun k hk => .inr (.inr (.inr (.inr hk.1))))
 refine (ae.joinedE k a0 (fun k_ => P2_1_ k_ ∨ P3_1_ k_ ∨ P1_ k_ ∨ P2_2_ k_ ∨ P3_2_ k_) A1 c1 l1 ⟨a2_0, l2_1, l2_2⟩ ⟨a3_0, l3_1, l3_2⟩ X2 x2 A2_2 c2_2 X3 x3 A3_2 c3_2 r1 r2 r3 r4 w e1 (bP w _ ⟨a2_0, l2_1, l2_2⟩ (Kd.V_at e2).2.1 (Kd.V_F e2) (Kd.V_at e4).2.1 (Kd.V_F e4)) (bP w _ ⟨a3_0, l3_1, l3_2⟩ (Kd.V_at e3).2.1 (Kd.V_F e3) (Kd.V_at e5).2.1 (Kd.V_F e5)) h).mono ?_
 rintro e w' ⟨v1, v2, rfl, g1, g2, hb⟩
 exact ⟨v1, v2, rfl, g1, g2, ai hB hb, Kept.of_below hb _⟩
def dx.f  : Option (Int × (List (S51)) × (List (S25))) := (bT.f).bind fun bt370 => (some (6, ([] : List (S51)), (([(⟨bt370.1, bt370.2.1, bt370.2.2⟩ : S25)] : List (S25)))))
theorem dx.calls  {r1 : Int} {r2 : List (S51)} {r3 : List (S25)} {w : World} (h : dx.f  = some (r1, r2, r3)) :
  Calls Tryz.prog 86 #[] w fun e w' => ∃ v1_ v2_ : Value, e = .returned (.agg #[.int .i64 r1, v1_, v2_]) ∧ Kd.R k51 51 w' w.heap.size (fun k_ => (w.heap.size ≤ k_)) v1_ r2 ∧ Kd.N k25 25 w' w.heap.size (fun k_ => (w.heap.size ≤ k_) ∧ some k_ ≠ (v1_ : Value).ownBlock) v2_ r3 ∧ Below w.heap.size w w' := by
 have hu25 := Tryz.underlying25
 have HB := gz (Below.refl w.heap.size w)
 have H : ((bT.f).bind fun bt370 => (some (6, ([] : List (S51)), (([(⟨bt370.1, bt370.2.1, bt370.2.2⟩ : S25)] : List (S25)))))) = some (r1, r2, r3) := h
 clear h
 replace H := Option.bind_eq_some_iff.mp H
 obtain ⟨⟨t370, t371, t374⟩, A10, H⟩ := H
 replace H : (some (6, ([] : List (S51)), (([(⟨t370, t371, t374⟩ : S25)] : List (S25))))) = some (r1, r2, r3) := H
 have A1 := gz A10
 clear A10
 obtain ⟨y377, hy377⟩ : ∃ y_ : List (S25), y_ = (([(⟨t370, t371, t374⟩ : S25)] : List (S25))) := ⟨_, rfl⟩
 replace H : (some (6, ([] : List (S51)), y377)) = some (r1, r2, r3) := by first | (rw [hy377]; with_reducible exact H) | (have H2_ := (Option.bind_some _ _).symm.trans H; rw [hy377]; with_reducible exact H2_) | (have H2_ := (Option.bind_some _ _).symm.trans H; with_reducible exact H2_) | with_reducible exact H | (rw [hy377]; exact H) | exact H
 have Ny377 := gz hy377
 clear hy377
 simp only [Option.some.injEq, Prod.mk.injEq] at H
 obtain ⟨rfl, rfl, rfl⟩ := H
 go_enter Tryz.func86, Tryz.ntmps86
 go_wp2_with (first | ((with_reducible refine bI (N := 0) rfl ?_); refine bQ ?hg (N := 0) ?hd (cs := #[.int .i64 0, .slice none 0 0, .slice none 0 0]) (t := 25) ?hr ?_; (case hd => rfl); (case hg => rfl); (case hr => first | (go_simp; done) | (go_simp; rfl)); intro gb369 hg w2 hbox hb; have BK369 := gz (hbox); have GW369 := gE hg zB; have GE369 := gE hg zB; replace HB := gz (ai zB hb); clear hb hbox hg) | ((with_reducible refine gC 83 rfl ?_); refine bl (some 1) rfl rfl Tryz.func83 Z5 rfl #[] rfl Z1 ?_; (with_reducible refine (bT.calls A1.out).mono ?_); rintro e w3 ⟨v372, v375, rfl, ho0, ho1, hb⟩; refine ⟨_, rfl, ?_⟩; have HO373 := gz (Kd.R_lower (Kd.R_newM (M := fun k_ => (w.heap.size ≤ k_)) ho0 (aU zB) (fun k_ h_ => h_)) (aU zB)); have HO376 := gz (Kd.N_lower (Kd.N_mono (ok' := fun k_ => (w.heap.size ≤ k_) ∧ some k_ ≠ (v372 : Value).ownBlock ∧ k_ ≠ gb369) (Kd.R_N (Kd.R_bound ho1)) (fun k_ hk_ => ⟨(Nat.le_trans (aU zB) hk_.2.1), hk_.1, (Kd.freshB (g := gb369) (o := .cells #[.int .i64 0, .slice none 0 0, .slice none 0 0] 25 (0, 0)) (bK BK369) k_ hk_.2.1)⟩)) (aU zB)); replace BK369 := gz (ao (g := gb369) (o := .cells #[.int .i64 0, .slice none 0 0, .slice none 0 0] 25 (0, 0)) (bK BK369) hb); replace HB := gz (ai zB hb); (try clear hb); (try clear hb2); (try clear hk); (try clear hi); (try clear ho0); (try clear ho1); obtain ⟨Ao4, co4, eo4⟩ := Kd.R_slice HO373.out; subst eo4; obtain ⟨Ao5, co5, eo5⟩ := Kd.N_slice HO376.out; subst eo5) | ((with_reducible refine bI (N := 2) rfl ?_); refine Kd.N_lit k25 _ 25 ?hg (N' := 2) ?hd (xs := ([(⟨t370, t371, t374⟩ : S25)] : List (S25))) (inner := [.int .i64 t370, .slice Ao4 t371.length co4, .slice Ao5 t374.length co5]) (ok := (fun k_ => (w.heap.size ≤ k_) ∧ k_ ≠ gb369)) (okp := (fun k_ => (w.heap.size ≤ k_) ∧ k_ ≠ gb369)) ?hr ?hp (fun _ hk => hk) ((show ∀ k_, w3.heap.size ≤ k_ → (fun k_ => (w.heap.size ≤ k_) ∧ k_ ≠ gb369) k_ from fun k_ hk => ⟨(Nat.le_trans (aU zB) hk), Kd.freshB (g := gb369) (o := .cells #[.int .i64 0, .slice none 0 0, .slice none 0 0] 25 (0, 0)) (bK BK369) k_ hk⟩) _ (Nat.le_refl _)) (Below.refl _ _) (Nat.le_refl _) Z24 ?_; (case hd => rfl); (case hg => rfl); (case hr => first | (go_simp; done) | (go_simp; rfl)); (case hp => exact (Reps.c3 (show Kd.FK k25 _ _ (⟨t370, t371, t374⟩ : S25) [.int .i64 t370, .slice Ao4 t371.length co4, .slice Ao5 t374.length co5] from (bP _ _ (⟨t370, t371, t374⟩ : S25) (Kd.R_reads' (Kd.R_mono (ok' := (fun k_ => (w.heap.size ≤ k_) ∧ k_ ≠ gb369)) (Kd.R_types (HO373.out) BK369.out Z27) (fun k_ hk => ⟨hk.1.1, hk.2⟩))).2.1 (Kd.R_F (Kd.R_mono (ok' := (fun k_ => (w.heap.size ≤ k_) ∧ k_ ≠ gb369)) (Kd.R_types (HO373.out) BK369.out Z27) (fun k_ hk => ⟨hk.1.1, hk.2⟩))) (Kd.N_reads' (Kd.N_mono (ok' := (fun k_ => (w.heap.size ≤ k_) ∧ k_ ≠ gb369)) (HO376.out) (fun k_ hk => ⟨hk.1, hk.2.2⟩))).2.1 (Kd.N_F (Kd.N_mono (ok' := (fun k_ => (w.heap.size ≤ k_) ∧ k_ ≠ gb369)) (HO376.out) (fun k_ hk => ⟨hk.1, hk.2.2⟩))))) (Reps.none _ _))); intro v378 w6 ho7 hb hg_ hnew_; clear hg_ hnew_; (first | rw [← Ny377.out] at ho7 | (simp only [Int.reduceToNat] at ho7; rw [← Ny377.out] at ho7)); have n0_ := gz (Kd.N_lower ho7 (aU zB)); have n1_ := gz (ao (g := gb369) (o := .cells #[.int .i64 0, .slice none 0 0, .slice none 0 0] 25 (0, 0)) (bK BK369) hb); have n2_ := gz (ai zB hb); clear BK369; clear HB; clear HO373; clear HO376; have HO379 := n0_; have BK369 := n1_; have HB := n2_; clear n0_ n1_ n2_; clear hb ho7; obtain ⟨Ao8, co8, eo8⟩ := Kd.N_slice HO379.out; subst eo8; have hcz9_0 := bC BK369 0 (.int .i64 0); have hcz9_1 := bC BK369 1 (.slice none 0 0); have hcz9_2 := bC BK369 2 (.slice none 0 0); have hfz9_0 := ag BK369.out 0; have hfz9_1 := ag BK369.out 1; have hfz9_2 := ag BK369.out 2))
 refine bodyPost_ret (results_cell_row rfl _ _ gb369 25 #[.int .i64 6, .slice none 0 0, .slice Ao8 y377.length co8] (0, 0) _ rfl (by (with_reducible repeat (first | refine az ?_ _ | refine aI ?_ | refine au ?_ _)); refine bG (cs := #[.int .i64 6, .slice none 0 0, .slice none 0 0]) ?_ 2 _ rfl; (with_reducible repeat (first | refine az ?_ _ | refine aI ?_ | refine au ?_ _)); refine bG (cs := #[.int .i64 6, .slice none 0 0, .slice none 0 0]) ?_ 1 _ rfl; (with_reducible repeat (first | refine az ?_ _ | refine aI ?_ | refine au ?_ _)); refine bG (cs := #[.int .i64 0, .slice none 0 0, .slice none 0 0]) ?_ 0 _ rfl; (with_reducible repeat (first | refine az ?_ _ | refine aI ?_ | refine au ?_ _)); exact BK369.out) Tryz.underlying25 rfl Z5) rfl ?_
 exact ⟨_, _, Z3, Z7, by (with_reducible repeat (first | apply Kd.N_alloc | apply Kd.N_drewN | apply Kd.N_drew)); exact Kd.N_mono (Kd.N_far (p := ⟨gb369, 2, none⟩) (Kd.N_far (p := ⟨gb369, 1, none⟩) (Kd.N_far (p := ⟨gb369, 0, none⟩) (Kd.N_mono HO379.out (fun k_ hk => (⟨hk, hk.2⟩ : _ ∧ k_ ≠ gb369))) (fun _ hk => hk.2) (.int .i64 6)) (fun _ hk => hk.2) (.slice none 0 0)) (fun _ hk => hk.2) (.slice Ao8 y377.length co8)) (fun _ hk => ⟨hk.1.1, (by simp [Value.ownBlock])⟩), Z0⟩
def cX.f (k : Nat) (l0 : List (S25)) : Option (Int × (List (S51)) × (List (S25)) × Int) := (dx.f).bind fun bt381 => ((bT.f).bind fun bt388 => ((ae.f k 4 l0 bt381.1 bt381.2.1 bt381.2.2 bt388.1 bt388.2.1 bt388.2.2).bind fun bt395 => (some (bt395.1, bt395.2.1, bt395.2.2.1, bt395.2.2.2))))
theorem cX.calls (k : Nat) (P0_ : Nat → Prop) (A0 : Option Addr) (c0 : Nat) (l0 : List (S25)) (r1 : Int) (r2 : List (S51)) (r3 : List (S25)) (r4 : Int) (w : World) (hs0 : Kd.V k25 25 w w.heap.size (fun k_ => P0_ k_) (.slice A0 l0.length c0) l0) (h : cX.f k l0 = some (r1, r2, r3, r4)) :
  Calls Tryz.prog 65 #[.slice A0 l0.length c0] w fun e w' => ∃ v1_ v2_ : Value, e = .returned (.tuple #[.agg #[.int .i64 r1, v1_, v2_], .int .i64 r4]) ∧ Kd.V k51 51 w' w.heap.size (fun k_ => (P0_ k_ ∨ w.heap.size ≤ k_)) v1_ r2 ∧ Kd.V k25 25 w' w.heap.size (fun k_ => (P0_ k_ ∨ w.heap.size ≤ k_)) v2_ r3 ∧ Below w.heap.size w w' := by
 have hu25 := Tryz.underlying25
 have HQ := gz (fun k (hk : (P0_ k ∧ k < w.heap.size) ∨ w.heap.size + 1 ≤ k) => (Or.elim hk (fun h => ⟨.inl h.1, Z8⟩) (fun h => ⟨.inr Z8, Z8⟩) : (P0_ k ∨ w.heap.size ≤ k) ∧ k ≠ w.heap.size))
 have B1 : aa ((w.alloc zx).heap[w.heap.size]? = some zx) := ⟨bN⟩
 have HB : aa (Below w.heap.size w (w.alloc zx)) := ⟨zb⟩
 have V0 : aa (Kd.V k25 25 (w.alloc zx) 0 (fun k => (P0_ k ∧ k < w.heap.size) ∨ w.heap.size + 1 ≤ k) (.slice A0 l0.length c0) l0) := ⟨V_W (V_cap hs0) zb (fun k hk => .inl hk)⟩
 clear hs0
 unfold cX.f at h
 obtain ⟨⟨t1, t2, t3⟩, AA, h⟩ := cC h
 have AA := gz AA
 obtain ⟨⟨u1, u2, u3⟩, AN, h⟩ := cC h
 obtain ⟨rfl, rfl, rfl⟩ : 0 = u1 ∧ [] = u2 ∧ [] = u3 := by simpa [bT.f] using AN
 clear AN
 obtain ⟨⟨s1, s2, s3, s4⟩, AJ, h⟩ := cC h
 simp only [Option.some.injEq, Prod.mk.injEq] at h
 obtain ⟨rfl, rfl, rfl, rfl⟩ := h
 have AJ := gz AJ
 go_enter Tryz.func65, Tryz.ntmps65
 go_wp2_with fail
 have hl := gz (show w.heap.size + 1 ≤ (w.alloc zx).heap.size by simp only [bL]; omega)
 refine (dx.calls AA.out).mono ?_
 rintro ee w2 ⟨v1, v2, rfl, g1, g2, hb⟩
 obtain ⟨X1, x1, rfl⟩ := Kd.R_slice g1
 obtain ⟨X2, x2, rfl⟩ := Kd.N_slice g2
 have V1 : aa (Kd.V k51 51 w2 0 (fun k => (P0_ k ∧ k < w.heap.size) ∨ w.heap.size + 1 ≤ k) _ t2) := ⟨Kd.R_V (Kd.R_mono g1 (fun k hk => .inr (Nat.le_trans hl.out hk)))⟩
 have V2 : aa (Kd.V k25 25 w2 0 (fun k => (P0_ k ∧ k < w.heap.size) ∨ w.heap.size + 1 ≤ k) _ t3) := ⟨Kd.N_V (Kd.N_mono g2 (fun k hk => .inr (Nat.le_trans hl.out hk.1)))⟩
 replace V0 := vO' V0 hb
 replace B1 := dO B1 hb
 replace HB := dP HB hb
 clear g1 g2 hb hl
 go_wp2_with fail
 refine (c83 _).mono ?_
 rintro ee w3 ⟨Y1, y1, Y2, y2, rfl, hb⟩
 replace V0 := vO' V0 hb
 replace V1 := vO' V1 hb
 replace V2 := vO' V2 hb
 replace B1 := dO B1 hb
 replace HB := dP HB hb
 clear hb
 go_wp2_with fail
 refine (ae.joinedE k 4 (fun k => (P0_ k ∧ k < w.heap.size) ∨ w.heap.size + 1 ≤ k) _ _ l0 ⟨t1, t2, t3⟩ ⟨0, [], []⟩ _ _ _ _ _ _ _ _ s1 s2 s3 s4 _ (fC V0 (fun _ h => h)) (bP _ _ ⟨t1, t2, t3⟩ (vL V1) (Kd.V_F V1.out) (vL V2) (Kd.V_F V2.out)) (bP _ _ ⟨0, [], []⟩ (Nat.zero_le _) (Kd.V_F (dA k51 51 _ 0 _ _ 0)) (Nat.zero_le _) (Kd.V_F (dA k25 25 _ 0 _ _ 0))) AJ.out).mono ?_
 rintro ee w9 hr
 obtain ⟨D1, d1, D2, d2, rfl, T⟩ := tl2 (E := P0_) B1 HB HQ.out hr
 have q := T.2.2.2.2
 go_wp2
 exact end2 T (Nat.le_refl _)
def cW.f (k : Nat) (l0 : List (S25)) : Option (Int × (List (S51)) × (List (S25)) × Int) := (bT.f).bind fun bt404 => ((dx.f).bind fun bt411 => ((ae.f k 5 l0 bt404.1 bt404.2.1 bt404.2.2 bt411.1 bt411.2.1 bt411.2.2).bind fun bt418 => (some (bt418.1, bt418.2.1, bt418.2.2.1, bt418.2.2.2))))
theorem cW.calls (k : Nat) (P0_ : Nat → Prop) (A0 : Option Addr) (c0 : Nat) (l0 : List (S25)) (r1 : Int) (r2 : List (S51)) (r3 : List (S25)) (r4 : Int) (w : World) (hs0 : Kd.V k25 25 w w.heap.size (fun k_ => P0_ k_) (.slice A0 l0.length c0) l0) (h : cW.f k l0 = some (r1, r2, r3, r4)) :
  Calls Tryz.prog 66 #[.slice A0 l0.length c0] w fun e w' => ∃ v1_ v2_ : Value, e = .returned (.tuple #[.agg #[.int .i64 r1, v1_, v2_], .int .i64 r4]) ∧ Kd.V k51 51 w' w.heap.size (fun k_ => (P0_ k_ ∨ w.heap.size ≤ k_)) v1_ r2 ∧ Kd.V k25 25 w' w.heap.size (fun k_ => (P0_ k_ ∨ w.heap.size ≤ k_)) v2_ r3 ∧ Below w.heap.size w w' := by
 have hu25 := Tryz.underlying25
 have HQ := gz (fun k (hk : (P0_ k ∧ k < w.heap.size) ∨ w.heap.size + 1 ≤ k) => (Or.elim hk (fun h => ⟨.inl h.1, Z8⟩) (fun h => ⟨.inr Z8, Z8⟩) : (P0_ k ∨ w.heap.size ≤ k) ∧ k ≠ w.heap.size))
 have B1 : aa ((w.alloc zx).heap[w.heap.size]? = some zx) := ⟨bN⟩
 have HB : aa (Below w.heap.size w (w.alloc zx)) := ⟨zb⟩
 have V0 : aa (Kd.V k25 25 (w.alloc zx) 0 (fun k => (P0_ k ∧ k < w.heap.size) ∨ w.heap.size + 1 ≤ k) (.slice A0 l0.length c0) l0) := ⟨V_W (V_cap hs0) zb (fun k hk => .inl hk)⟩
 clear hs0
 unfold cW.f at h
 obtain ⟨⟨u1, u2, u3⟩, AN, h⟩ := cC h
 obtain ⟨rfl, rfl, rfl⟩ : 0 = u1 ∧ [] = u2 ∧ [] = u3 := by simpa [bT.f] using AN
 clear AN
 obtain ⟨⟨t1, t2, t3⟩, AA, h⟩ := cC h
 have AA := gz AA
 obtain ⟨⟨s1, s2, s3, s4⟩, AJ, h⟩ := cC h
 simp only [Option.some.injEq, Prod.mk.injEq] at h
 obtain ⟨rfl, rfl, rfl, rfl⟩ := h
 have AJ := gz AJ
 go_enter Tryz.func66, Tryz.ntmps66
 go_wp2_with fail
 refine (c83 _).mono ?_
 rintro ee w3 ⟨Y1, y1, Y2, y2, rfl, hb⟩
 have hl := gz (Nat.le_trans (show w.heap.size + 1 ≤ (w.alloc zx).heap.size by simp only [bL]; omega) hb.size)
 replace V0 := vO' V0 hb
 replace B1 := dO B1 hb
 replace HB := dP HB hb
 clear hb
 go_wp2_with fail
 refine (dx.calls AA.out).mono ?_
 rintro ee w2 ⟨v1, v2, rfl, g1, g2, hb⟩
 obtain ⟨X1, x1, rfl⟩ := Kd.R_slice g1
 obtain ⟨X2, x2, rfl⟩ := Kd.N_slice g2
 have V1 : aa (Kd.V k51 51 w2 0 (fun k => (P0_ k ∧ k < w.heap.size) ∨ w.heap.size + 1 ≤ k) _ t2) := ⟨Kd.R_V (Kd.R_mono g1 (fun k hk => .inr (Nat.le_trans hl.out hk)))⟩
 have V2 : aa (Kd.V k25 25 w2 0 (fun k => (P0_ k ∧ k < w.heap.size) ∨ w.heap.size + 1 ≤ k) _ t3) := ⟨Kd.N_V (Kd.N_mono g2 (fun k hk => .inr (Nat.le_trans hl.out hk.1)))⟩
 replace V0 := vO' V0 hb
 replace B1 := dO B1 hb
 replace HB := dP HB hb
 clear g1 g2 hb hl
 go_wp2_with fail
 refine (ae.joinedE k 5 (fun k => (P0_ k ∧ k < w.heap.size) ∨ w.heap.size + 1 ≤ k) _ _ l0 ⟨0, [], []⟩ ⟨t1, t2, t3⟩ _ _ _ _ _ _ _ _ s1 s2 s3 s4 _ (fC V0 (fun _ h => h)) (bP _ _ ⟨0, [], []⟩ (Nat.zero_le _) (Kd.V_F (dA k51 51 _ 0 _ _ 0)) (Nat.zero_le _) (Kd.V_F (dA k25 25 _ 0 _ _ 0))) (bP _ _ ⟨t1, t2, t3⟩ (vL V1) (Kd.V_F V1.out) (vL V2) (Kd.V_F V2.out)) AJ.out).mono ?_
 rintro ee w9 hr
 obtain ⟨D1, d1, D2, d2, rfl, T⟩ := tl2 (E := P0_) B1 HB HQ.out hr
 have q := T.2.2.2.2
 go_wp2
 exact end2 T (Nat.le_refl _)
def cU.f (a0_0 : Int) (l0_1 : List (S51)) (l0_2 : List (S25)) : Option (Int × (List (S51)) × (List (S25))) := if a0_0 = 6 then (if 0 < (l0_2.length : Int) then (some ((an l0_2 0).f0, (an l0_2 0).f1, (an l0_2 0).f2)) else (none)) else (some (6, ([] : List (S51)), (([(⟨a0_0, l0_1, l0_2⟩ : S25)] : List (S25)))))
theorem cU.calls (a0_0 : Int) (P0_1_ : Nat → Prop) (A0_1 : Option Addr) (c0_1 : Nat) (l0_1 : List (S51)) (P0_2_ : Nat → Prop) (A0_2 : Option Addr) (c0_2 : Nat) (l0_2 : List (S25)) (r1 : Int) (r2 : List (S51)) (r3 : List (S25)) (w : World) (hs0_1 : Kd.V k51 51 w w.heap.size (fun k_ => P0_1_ k_) (.slice A0_1 l0_1.length c0_1) l0_1) (hs0_2 : Kd.V k25 25 w w.heap.size (fun k_ => P0_2_ k_) (.slice A0_2 l0_2.length c0_2) l0_2) (h : cU.f a0_0 l0_1 l0_2 = some (r1, r2, r3)) :
  Calls Tryz.prog 67 #[.agg #[.int .i64 a0_0, .slice A0_1 l0_1.length c0_1, .slice A0_2 l0_2.length c0_2]] w fun e w' => ∃ v1_ v2_ : Value, e = .returned (.agg #[.int .i64 r1, v1_, v2_]) ∧ Kd.V k51 51 w' w.heap.size (fun k_ => ((P0_1_ k_ ∨ P0_2_ k_) ∨ w.heap.size ≤ k_)) v1_ r2 ∧ Kd.V k25 25 w' w.heap.size (fun k_ => ((P0_1_ k_ ∨ P0_2_ k_) ∨ w.heap.size ≤ k_)) v2_ r3 ∧ Below w.heap.size w w' := by
 have hu25 := Tryz.underlying25
 have H1 := gz hs0_1
 have H2 := gz hs0_2
 clear hs0_1 hs0_2
 unfold cU.f at h
 go_enter Tryz.func67, Tryz.ntmps67
 by_cases c6 : a0_0 = 6
 ·rw [if_pos c6] at h
  by_cases c : 0 < (l0_2.length : Int)
  ·rw [if_pos c] at h
   simp only [Option.some.injEq, Prod.mk.injEq] at h
   obtain ⟨rfl, rfl, rfl⟩ := h
   subst c6
   go_upto_region 2 with (fail)
   have hh := hd w (bx 6 A0_1 l0_1 c0_1 A0_2 l0_2 c0_2) zx
   generalize (w.alloc (bx 6 A0_1 l0_1 c0_1 A0_2 l0_2 c0_2)).alloc zx = X at hh ⊢
   obtain ⟨HB, B0, B1, hs⟩ := hh
   have p := b3 B0.out
   have q := b3 B1.out
   obtain ⟨ad, A1, c1, A2, c2, rfl, x0, x1, x2, F1, F2⟩ := V_el0 (vO H2 HB.out) c
   go_wp2
   exact fin1 (dT B1.out) (vS F1) (vS F2) zb
  ·rw [if_neg c] at h
   cases h
 ·rw [if_neg c6] at h
  have d6 := e3 c6
  simp only [Option.some.injEq, Prod.mk.injEq] at h
  obtain ⟨rfl, rfl, rfl⟩ := h
  go_wp2
  exact fin1 (g := w.heap.size + 1) (au bN _) (dA _ _ _ _ _ _ _) (V_one (x := ⟨a0_0, l0_1, l0_2⟩) bN (vW H1) (vW H2) (.inr Z8)) zb
end Go.Proofs.YtaccleilcdfapaaGreat.G
