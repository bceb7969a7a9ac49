import Derived.Test.YtaccleilcdfapaaGreatQPre
import Derived.Test.YtaccleilcdfapaaGreatQax10
import Derived.Test.YtaccleilcdfapaaGreatQax4
import Derived.Test.YtaccleilcdfapaaGreatQax5
import Derived.Test.YtaccleilcdfapaaGreatQax6
import Derived.Test.YtaccleilcdfapaaGreatQax8
import Derived.Test.YtaccleilcdfapaaGreatQax9
namespace Go.Proofs.YtaccleilcdfapaaGreat.G
open Go.RowKit Go.Proofs.YtaccleilcdfapaaGreatW.PrintWords Go.Proofs.YtaccleilcdfapaaGreatW.PrintLast Go.Proofs.YtaccleilcdfapaaGreatW.PrintMore
attribute [local go_sem] dH dF dR dQ da cZ dG dE
set_option linter.unusedVariables false
set_option maxHeartbeats 8000000
set_option maxRecDepth 100000
set_option linter.unusedSimpArgs false
def ab.GB (w w' : World) (g : Nat) : Prop := w.grownBy w' (some g)
theorem ab.GB.of {w w' : World} (h : Below w.heap.size w w') (g : Nat) : ab.GB w w' g := fg h _
theorem ab.GB.trans {w w1 w2 : World} {g : Nat} (h : ab.GB w w1 g) (k : ab.GB w1 w2 g) : ab.GB w w2 g :=
 ⟨k.os.trans h.os, k.tape.trans h.tape, k.output.trans h.output, Nat.le_trans h.size k.size, fun i hi hr => (k.block i (Nat.lt_of_lt_of_le hi h.size) hr).trans (h.block i hi hr)⟩
theorem ab.GB.refl (w : World) (g : Nat) : ab.GB w w g := ab.GB.of (Below.refl _ _) g
theorem ab.GB.set {w w1 : World} {g : Nat} (h : ab.GB w w1 g) (j : Nat) (v : Value) : ab.GB w (w1.setCell ⟨g, j, none⟩ v) g :=
 ⟨h.os, h.tape, h.output, by simpa [World.setCell] using h.size, fun i hi hr => (Below.heap_setCell w1 ⟨g, j, none⟩ v i (fun e => hr (by rw [e]))).trans (h.block i hi hr)⟩
theorem ab.GB.below {w w1 w2 : World} {g : Nat} (h : ab.GB w w1 g) (k : Below w1.heap.size w1 w2) : ab.GB w w2 g := h.trans (ab.GB.of k g)
def ab.RS (w : World) (g : Nat) (s : ByteArray) (at' e op : Int) : Prop := w.heap[g]? = some (.cells #[.string s, .int .i64 at', .int .i64 e, .int .i64 op, .int .i64 0] 64 (0, 0))
theorem ab.RS.below {w w1 : World} {g : Nat} {s : ByteArray} {a e op : Int} (h : ab.RS w g s a e op) (hb : Below w.heap.size w w1) : ab.RS w1 g s a e op := ao h hb
theorem ab.RS.lt {w : World} {g : Nat} {s : ByteArray} {a e op : Int} (h : ab.RS w g s a e op) : g < w.heap.size := bB h
theorem ab.RS.to {w : World} {g : Nat} {s : ByteArray} {a e op : Int} (h : ab.RS w g s a e op) : IsS64 { w with heap := #[] } w g s a e op 0 := ⟨h, Nat.zero_le _⟩
theorem ab.zeroB (w : World) : Below ({ w with heap := #[] } : World).heap.size { w with heap := #[] } w := ⟨rfl, rfl, rfl, Nat.zero_le _, fun k hk => absurd hk Z24⟩
theorem ab.GB.keep {w w' : World} {g : Nat} (h : KeepBut w w' g none) (hb : Below ({ w with heap := #[] } : World).heap.size { w with heap := #[] } w') : ab.GB w w' g :=
 ⟨hb.os, hb.tape, hb.output, h.1, fun i hi hr => h.2 i hi (fun e => hr (by rw [e])) Z24⟩
def ab.TV (B : Nat) (w : World) (v : Value) (x : S25) : Prop := ∃ A1 c1 A2 c2, v = .agg #[.int .i64 x.f0, .slice A1 x.f1.length c1, .slice A2 x.f2.length c2] ∧ Kd.FK k25 w (fun k => B ≤ k) x [.int .i64 x.f0, .slice A1 x.f1.length c1, .slice A2 x.f2.length c2]
theorem ab.TV.gb {B : Nat} {w w' : World} {v : Value} {x : S25} {g : Nat} (h : ab.TV B w v x) (k : ab.GB w w' g) (hg : g < B) : ab.TV B w' v x := by
 obtain ⟨A1, c1, A2, c2, rfl, hf⟩ := h
 exact ⟨A1, c1, A2, c2, rfl, Kd.FK_step hf (fun i hi hlt => k.block i hlt (fun e => by cases e; omega))⟩
theorem ab.TV.below {B : Nat} {w w' : World} {v : Value} {x : S25} (h : ab.TV B w v x) (k : Below w.heap.size w w') : ab.TV B w' v x := by
 obtain ⟨A1, c1, A2, c2, rfl, hf⟩ := h
 exact ⟨A1, c1, A2, c2, rfl, Kd.FK_below hf k⟩
theorem ab.TV.mono {B B' : Nat} {w : World} {v : Value} {x : S25} (h : ab.TV B w v x) (k : B' ≤ B) : ab.TV B' w v x := by
 obtain ⟨A1, c1, A2, c2, rfl, hf⟩ := h
 exact ⟨A1, c1, A2, c2, rfl, Kd.FK_mono hf (fun i hi => Nat.le_trans k hi)⟩
theorem ab.TV.mk {B : Nat} {w : World} {r1 : Int} {r2 : List S51} {r3 : List S25} {v1 v2 : Value} {e1 e2 b1 b2 : Nat} {ok1 ok2 : Nat → Prop} (h1 : Kd.V k51 e1 w b1 ok1 v1 r2) (h2 : Kd.V k25 e2 w b2 ok2 v2 r3) (k1 : ∀ k, ok1 k → B ≤ k) (k2 : ∀ k, ok2 k → B ≤ k) : ab.TV B w (.agg #[.int .i64 r1, v1, v2]) ⟨r1, r2, r3⟩ := by
 obtain ⟨A1, c1, rfl, n1, f1⟩ := h1
 obtain ⟨A2, c2, rfl, n2, f2⟩ := h2
 exact ⟨A1, c1, A2, c2, rfl, bP w _ ⟨r1, r2, r3⟩ n1 (Kd.F_mono f1 k1) n2 (Kd.F_mono f2 k2)⟩
def ab.pk (k : Nat) (s : ByteArray) (a : Int) : Option (Int × Int) := (bo.f k s a 0 0 0).map fun r => (r.1, r.2.2.1)
theorem ab.pk_eq (s : ByteArray) (e o y : Int) : ∀ (k : Nat) (a : Int), bo.l0 k s a e o y = (bo.l0 k s a 0 0 0).map fun r => (r.1, s, r.2.2.1, e, o, y)
 | 0, a => by simp [bo.l0]
 | k + 1, a => by
  rw [bo.l0, bo.l0]
  split
  ·split
   ·obtain h | ⟨t, h⟩ : bY.f (⟨#[32, 9, 10, 13]⟩ : ByteArray) (bt s a) = none ∨ ∃ t, bY.f (⟨#[32, 9, 10, 13]⟩ : ByteArray) (bt s a) = some t := by
     cases bY.f (⟨#[32, 9, 10, 13]⟩ : ByteArray) (bt s a) with
     | none => exact .inl rfl
     | some t => exact .inr ⟨t, rfl⟩
    ·rw [h]; rfl
    ·rw [h]
     simp only [Option.bind_some]
     split
     ·exact ab.pk_eq s e o y k _
     ·split <;> rfl
   ·rfl
  ·split
   ·rfl
   ·split <;> rfl
theorem ab.pk_f {k : Nat} {s : ByteArray} {a c a' : Int} (h : ab.pk k s a = some (c, a')) (e o : Int) : bo.f k s a e o 0 = some (c, s, a', e, o, 0) := by
 unfold ab.pk at h
 unfold bo.f at h ⊢
 rw [ab.pk_eq]
 obtain ⟨r, hr, h2⟩ := Option.map_eq_some_iff.mp h
 rw [hr]
 simp only [Prod.mk.injEq] at h2
 obtain ⟨rfl, rfl⟩ := h2
 rfl
theorem ab.peekR {k : Nat} {s : ByteArray} {a c a' : Int} (h : ab.pk k s a = some (c, a')) (g : Nat) (e o : Int) (w : World) (hR : ab.RS w g s a e o) :
  Calls Tryz.prog 49 #[.pointer (some ⟨g, 0, none⟩)] w fun ee w' => ee = .returned (.int .u8 c) ∧ ab.RS w' g s a' e o ∧ ab.GB w w' g := by
 refine (bo.calls k g s a e o 0 c s a' e o 0 _ w hR.to (ab.zeroB w) (ab.pk_f h e o)).mono ?_
 rintro ee w' ⟨rfl, hI, hB, hK⟩
 exact ⟨rfl, hI.1, ab.GB.keep hK hB⟩
theorem ab.takeR (g : Nat) (s : ByteArray) (a e o n : Int) (w : World) (hR : ab.RS w g s a e o) :
  Calls Tryz.prog 102 #[.pointer (some ⟨g, 0, none⟩), .int .i64 n] w fun ee w' => ee = .returned (.tuple #[]) ∧ ab.RS w' g s (wrap64 (a + n)) (wrap64 (a + n)) o ∧ ab.GB w w' g := by
 refine (ft.calls g s a e o 0 n s (wrap64 (a + n)) (wrap64 (a + n)) o 0 _ w hR.to (ab.zeroB w) rfl).mono ?_
 rintro ee w' ⟨rfl, hI, hB, hK⟩
 exact ⟨rfl, hI.1, ab.GB.keep hK hB⟩
set_option maxHeartbeats 4000000 in
theorem ab.enterR (g : Nat) (s : ByteArray) (a e o : Int) (w : World) (hR : ab.RS w g s a e o) (h0 : 0 ≤ o) (ho : o < 64) :
  Calls Tryz.prog 115 #[.pointer (some ⟨g, 0, none⟩)] w fun ee w' => ee = .returned (.tuple #[]) ∧ ab.RS w' g s a e (o + 1) ∧ ab.GB w w' g := by
 have HR := gz hR
 have c3 := (ah hR 3).trans rfl
 have f3 := ag hR 3
 have d1 : decide (o ≥ 64) = false := decide_eq_false Z8
 have d2 : decide ((64 : Int) ≤ o) = false := decide_eq_false Z8
 have hw : wrap64 (o + 1) = o + 1 := by unfold wrap64; omega
 have HWX := gz hw
 clear hw hR
 go_enter Tryz.func115, Tryz.ntmps115
 go_wp2
 first | go_end0 | ((try simp only [Exit.inBlock, Exit.then]); refine bodyPost_ret (results_none rfl _ _ _) rfl ?_)
 refine ⟨rfl, ?_, (ab.GB.refl w g).set _ _⟩
 unfold ab.RS
 rw [← HWX.out]
 exact bG HR.out 3 _ rfl
set_option maxHeartbeats 4000000 in
theorem ab.mustR {k : Nat} {s : ByteArray} {a c a' : Int} (h : ab.pk k s a = some (c, a')) (g : Nat) (e o : Int) (w : World) (hR : ab.RS w g s a e o) :
  Calls Tryz.prog 143 #[.pointer (some ⟨g, 0, none⟩), .int .u8 c] w fun ee w' => ee = .returned (.tuple #[]) ∧ ab.RS w' g s (wrap64 (a' + 1)) (wrap64 (a' + 1)) o ∧ ab.GB w w' g := by
 have HR := gz hR
 have HP := gz h
 clear h hR
 have d1 : (c != c) = false := bne_self_eq_false c
 go_enter Tryz.func143, Tryz.ntmps143
 go_wp2_with fail
 refine (ab.peekR HP.out g e o w HR.out).mono ?_
 rintro e1 w1 ⟨rfl, h1, g1⟩
 have H1 := gz h1
 have G1 := gz g1
 clear h1 g1
 go_wp2_with fail
 refine (ab.takeR g s a' e o 1 w1 H1.out).mono ?_
 rintro e2 w2 ⟨rfl, h2, g2⟩
 have H2 := gz h2
 have G2 := gz (G1.out.trans g2)
 clear h2 g2
 go_wp2
 first | go_end0 | ((try simp only [Exit.inBlock, Exit.then]); refine bodyPost_ret (results_none rfl _ _ _) rfl ?_)
 exact ⟨rfl, H2.out, G2.out⟩
def ab.RC (X : World) (m : Nat) : Prop := X.heap[m]? = some (.cells #[.int .i64 0, .slice none 0 0, .slice none 0 0] 25 (0, 0))
theorem ab.RC.new (w : World) : ab.RC (w.alloc (.cells #[.int .i64 0, .slice none 0 0, .slice none 0 0] 25)) w.heap.size := a8 w _
theorem ab.RC.below {X Y : World} {m : Nat} (h : ab.RC X m) (hb : Below X.heap.size X Y) : ab.RC Y m := ao h hb
theorem ab.RC.gb {X Y : World} {m g : Nat} (h : ab.RC X m) (hb : ab.GB X Y g) (hg : m ≠ g) : ab.RC Y m := (hb.block m (bB h) (fun e => hg (Option.some.inj e))).trans h
theorem ab.TV.fin {B : Nat} {X : World} {m : Nat} {t : S25} {A1 A2 : Option Addr} {c1 c2 : Nat} {a b c : Value} (h : X.heap[m]? = some (.cells #[a, b, c] 25 (0, 0))) (hf : Kd.FK k25 X (fun k => B ≤ k) t [.int .i64 t.f0, .slice A1 t.f1.length c1, .slice A2 t.f2.length c2]) (hm : m < B) :
  (ae.set3 X m (.int .i64 t.f0) (.slice A1 t.f1.length c1) (.slice A2 t.f2.length c2)).heap[m]? = some (.cells #[.int .i64 t.f0, .slice A1 t.f1.length c1, .slice A2 t.f2.length c2] 25 (0, 0)) ∧
  ab.TV B (ae.set3 X m (.int .i64 t.f0) (.slice A1 t.f1.length c1) (.slice A2 t.f2.length c2)) (.agg #[.int .i64 t.f0, .slice A1 t.f1.length c1, .slice A2 t.f2.length c2]) t :=
 ⟨ae.set3_at _ _ _ h, A1, c1, A2, c2, rfl, Kd.FK_step hf (fun k hk _ => ae.set3_far X m _ _ _ k (fun e => by omega))⟩
theorem ab.GB.set3 {w X : World} {g m : Nat} (h : ab.GB w X g) (hm : w.heap.size ≤ m) (x y z : Value) : ab.GB w (ae.set3 X m x y z) g :=
 ⟨h.os, h.tape, h.output, by simpa [ae.set3, World.setCell] using h.size, fun i hi hr => (ae.set3_far X m x y z i Z8).trans (h.block i hi hr)⟩
theorem ab.RS.set3 {X : World} {g m : Nat} {s : ByteArray} {a e o : Int} (h : ab.RS X g s a e o) (hm : g ≠ m) (x y z : Value) : ab.RS (ae.set3 X m x y z) g s a e o := (ae.set3_far X m x y z g hm).trans h
theorem ab.FK.reads {X : World} {ok : Nat → Prop} {t : S25} {A1 A2 : Option Addr} {c1 c2 : Nat} (hf : Kd.FK k25 X ok t [.int .i64 t.f0, .slice A1 t.f1.length c1, .slice A2 t.f2.length c2]) :
  k51.C X A1 t.f1.length t.f1 ∧ t.f1.length ≤ c1 ∧ k25.C X A2 t.f2.length t.f2 ∧ t.f2.length ≤ c2 := by
 obtain ⟨B1, d1, B2, d2, he, n1, f1, n2, f2⟩ := fm (Kd.FK_now hf)
 simp only [List.cons.injEq, Value.slice.injEq, and_true, true_and] at he
 obtain ⟨⟨rfl, rfl⟩, rfl, rfl⟩ := he
 exact ⟨f1, n1, f2, n2⟩
theorem ab.FK.V {X : World} {ok : Nat → Prop} {t : S25} {A1 A2 : Option Addr} {c1 c2 : Nat} (hf : Kd.FK k25 X ok t [.int .i64 t.f0, .slice A1 t.f1.length c1, .slice A2 t.f2.length c2]) (b : Nat) :
  Kd.V k51 51 X b ok (.slice A1 t.f1.length c1) t.f1 ∧ Kd.V k25 25 X b ok (.slice A2 t.f2.length c2) t.f2 := by
 obtain ⟨B1, d1, B2, d2, he, n1, f1, n2, f2⟩ := dZ hf
 simp only [List.cons.injEq, Value.slice.injEq, and_true, true_and] at he
 obtain ⟨⟨rfl, rfl⟩, rfl, rfl⟩ := he
 exact ⟨Kd.V_mk n1 f1, Kd.V_mk n2 f2⟩
set_option maxHeartbeats 4000000 in
theorem ab.madeR {k : Nat} (x : S25) (A1 : Option Addr) (c1 : Nat) (A2 : Option Addr) (c2 : Nat) (g : Value) (w : World) (ok : Nat → Prop) (hz : dv.f k x.f0 x.f1 x.f2 = some 0) (hf : Kd.FK k25 w ok x [.int .i64 x.f0, .slice A1 x.f1.length c1, .slice A2 x.f2.length c2]) :
  Calls Tryz.prog 103 #[g, .agg #[.int .i64 x.f0, .slice A1 x.f1.length c1, .slice A2 x.f2.length c2], .int .i64 0] w fun ee w' => ee = .returned (.agg #[.int .i64 x.f0, .slice A1 x.f1.length c1, .slice A2 x.f2.length c2]) ∧ Kd.FK k25 w' (fun k => ok k ∧ k < w.heap.size) x [.int .i64 x.f0, .slice A1 x.f1.length c1, .slice A2 x.f2.length c2] ∧ Below w.heap.size w w' := by
 obtain ⟨x0, x1, x2⟩ := x
 dsimp only at hz hf ⊢
 have HF := gz (Kd.FK_bound hf)
 have HZ := gz hz
 clear hf hz
 go_enter Tryz.func103, Tryz.ntmps103
 go_upto_if 8 with fail
 have Z1 := a8 w (.cells #[.int .i64 x0, .slice A1 x1.length c1, .slice A2 x2.length c2] 25)
 have L1 : Below w.heap.size w (w.alloc (.cells #[.int .i64 x0, .slice A1 x1.length c1, .slice A2 x2.length c2] 25)) := ak (Below.refl _ _) _
 have s1 : (w.alloc (.cells #[.int .i64 x0, .slice A1 x1.length c1, .slice A2 x2.length c2] 25)).heap.size = w.heap.size + 1 := Array.size_push _
 generalize (w.alloc (.cells #[.int .i64 x0, .slice A1 x1.length c1, .slice A2 x2.length c2] 25)) = X1 at *
 have Z2 := a8 X1 (.cells #[.int .i64 0, .slice none 0 0, .slice none 0 0] 25)
 have L2 : Below X1.heap.size X1 (X1.alloc (.cells #[.int .i64 0, .slice none 0 0, .slice none 0 0] 25)) := ak (Below.refl _ _) _
 have Z12 := ao Z1 L2
 rw [s1] at Z2
 generalize (X1.alloc (.cells #[.int .i64 0, .slice none 0 0, .slice none 0 0] 25)) = X2 at *
 have L3 := gz (ai L1 L2)
 have q0 := (ah Z12 0).trans rfl
 have q1 := (ah Z12 1).trans rfl
 have q2 := (ah Z12 2).trans rfl
 have H12 := gz Z12
 have H2 := gz Z2
 clear Z1 Z12 Z2 L1 L2 s1
 have C1 := gz (ab.FK.reads (Kd.FK_below HF.out L3.out))
 go_wp2_with fail
 refine (dv.calls k x0 A1 c1 x1 A2 c2 x2 0 X2 C1.out.1 C1.out.2.1 C1.out.2.2.1 C1.out.2.2.2 HZ.out).mono ?_
 rintro ee w3 ⟨rfl, hb⟩
 have K12 := gz (ao H12.out hb)
 have K2 := gz (ao H2.out hb)
 have L4 := gz (ai L3.out hb)
 clear hb q0 q1 q2 H12 H2 L3 C1
 have q0 := (ah K12.out 0).trans rfl
 have q1 := (ah K12.out 1).trans rfl
 have q2 := (ah K12.out 2).trans rfl
 have r0 := (ah K2.out 0).trans rfl
 have r1 := (ah K2.out 1).trans rfl
 have r2 := (ah K2.out 2).trans rfl
 have e0 := ag K2.out 0
 have e1 := ag K2.out 1
 have e2 := ag K2.out 2
 go_wp2
 have F4 := Kd.FK_below HF.out L4.out
 have hb4 := L4.out.size
 refine bodyPost_ret (bq rfl (.cell (w.heap.size + 1) 25 _ (0, 0) _ rfl (ae.set3_at (W := w3) (m := w.heap.size + 1) (.int .i64 x0) (.slice A1 x1.length c1) (.slice A2 x2.length c2) K2.out) Tryz.underlying25 rfl Z5 .nil)) rfl ?_
 exact ⟨rfl, Kd.FK_step F4 (fun k hk _ => ae.set3_far w3 (w.heap.size + 1) _ _ _ k (fun e => by omega)), ae.set3_below L4.out (Nat.le_succ _) _ _ _⟩
set_option maxHeartbeats 4000000 in
theorem ab.opened (k : Nat) (s : ByteArray) (a : Int) (l : List S51) (n f2 f3 : Int) (h0 : 0 ≤ a) (h1 : a < (s.size : Int)) (hs : (s.size : Int) < 4611686018427387904) (p0 : aY.f (s.extract a.toNat s.size) ⟨#[91]⟩ = some true) (p1 : aY.f (s.extract (a + 1).toNat s.size) ⟨#[94]⟩ = some false) (hr : bF.f k s (a + 1) 0 0 = some (l, s, n, f2, f3)) (w : World) :
  Calls Tryz.prog 150 #[.string s, .int .i64 a] w fun e w' => ∃ (g : Nat) (v : Value), e = .returned (.tuple #[.pointer (some ⟨g, 0, none⟩), v, .bool false]) ∧ Kd.R k51 51 w' w.heap.size (fun _ => True) v l ∧ IsS164 w w' g s n f2 f3 ∧ Below w.heap.size w w' := by
 have P0 := gz p0
 have P1 := gz p1
 have HR := gz hr
 clear p0 p1 hr
 have z1 : a ≤ (s.size : Int) := by omega
 have z2 : a + 1 ≤ (s.size : Int) := by omega
 have z3 : (0 : Int) ≤ a + 1 := by omega
 have hw : wrap64 (a + 1) = a + 1 := by unfold wrap64; omega
 go_enter Tryz.func150, Tryz.ntmps150
 have I1 := gz (IsS164.new w w s a 0 0 (Below.refl _ _))
 have B1 := gz (ak (Below.refl w.heap.size w) (.cells #[.string s, .int .i64 a, .int .i64 0, .int .i64 0] 164))
 go_upto_region 2 with (fail)
 generalize w.alloc (.cells #[.string s, .int .i64 a, .int .i64 0, .int .i64 0] 164) = w1 at I1 B1 ⊢
 have hx1 := dX I1.out.1
 have hf1 := ag I1.out.1 1
 have I2 := gz (I1.out.set_1 (a + 1))
 have B2 := gz (cx (j := 1) (v := Value.int IntKind.i64 (a + 1)) B1.out (Nat.le_refl _))
 go_wp2_with (first | (go_at_call 166; with_reducible refine (aY.calls P0.out).mono ?_; rintro e2 w2 ⟨rfl, ⟨nd, rfl⟩⟩) | (go_at_call 166; with_reducible refine (aY.calls P1.out).mono ?_; rintro e2 w2 ⟨rfl, ⟨ne, rfl⟩⟩) | (go_at_call 168; refine (bF.calls k w.heap.size s (a + 1) 0 0 l s n f2 f3 w _ ?hI ?hB HR.out).mono ?_; (case hI => exact ((I1.out.drewN nd).set_1 (a + 1)).drewN ne); (case hB => exact aC (cx (aC B1.out nd) (Nat.le_refl _)) ne); rintro e3 w3 ⟨v, rfl, hR3, hI3, hB3, hK3⟩))
 go_ret3
 refine ⟨w.heap.size, v, rfl, ?_, hI3, hB3⟩
 exact Kd.R_lower hR3 (aC (cx (aC B1.out nd) (Nat.le_refl _)) ne).size
theorem ab.ite_some {α : Type} {p : Prop} [Decidable p] {x : Option α} {r : α} (h : (if p then x else none) = some r) : p ∧ x = some r := by
 by_cases hp : p
 ·rw [if_pos hp] at h; exact ⟨hp, h⟩
 ·rw [if_neg hp] at h; cases h
def ab.fromP (k : Nat) (s : ByteArray) (a : Int) : Option (List S51 × Int) :=
 if 0 ≤ a then (if a < (s.size : Int) then (if (s.size : Int) < 4611686018427387904 then (if aY.f (s.extract a.toNat s.size) ⟨#[91]⟩ = some true then (if aY.f (s.extract (a + 1).toNat s.size) ⟨#[94]⟩ = some false then
  (bF.f k s (a + 1) 0 0).bind fun r => if r.2.1 = s then (if r.2.2.2 = (0, 0) then (fD.f k r.1 false).bind fun m => if m.2 = 0 then some (m.1, r.2.2.1) else none else none) else none else none) else none) else none) else none) else none
theorem ab.fromP_some {k : Nat} {s : ByteArray} {a n : Int} {out : List S51} (h : ab.fromP k s a = some (out, n)) : 0 ≤ a ∧ a < (s.size : Int) ∧ (s.size : Int) < 4611686018427387904 ∧ aY.f (s.extract a.toNat s.size) ⟨#[91]⟩ = some true ∧ aY.f (s.extract (a + 1).toNat s.size) ⟨#[94]⟩ = some false ∧ ∃ l, bF.f k s (a + 1) 0 0 = some (l, s, n, 0, 0) ∧ fD.f k l false = some (out, 0) := by
 unfold ab.fromP at h
 obtain ⟨q1, h⟩ := ab.ite_some h
 obtain ⟨q2, h⟩ := ab.ite_some h
 obtain ⟨q3, h⟩ := ab.ite_some h
 obtain ⟨q4, h⟩ := ab.ite_some h
 obtain ⟨q5, h⟩ := ab.ite_some h
 obtain ⟨⟨l, s', n', f2, f3⟩, hr, h⟩ := Option.bind_eq_some_iff.mp h
 dsimp only at h
 obtain ⟨e1, h⟩ := ab.ite_some h
 obtain ⟨e2, h⟩ := ab.ite_some h
 obtain ⟨⟨o, e⟩, hm, h⟩ := Option.bind_eq_some_iff.mp h
 dsimp only at h
 obtain ⟨e3, h⟩ := ab.ite_some h
 simp only [Option.some.injEq, Prod.mk.injEq] at h e2
 obtain ⟨rfl, rfl⟩ := h
 obtain ⟨rfl, rfl⟩ := e2
 subst e1 e3
 exact ⟨q1, q2, q3, q4, q5, l, hr, hm⟩
set_option maxHeartbeats 4000000 in
theorem ab.fromR {k : Nat} {s : ByteArray} {a n : Int} {out : List S51} (h : ab.fromP k s a = some (out, n)) (w : World) :
  Calls Tryz.prog 144 #[.string s, .int .i64 a] w fun e w' => ∃ (v : Value), e = .returned (.tuple #[v, .int .i64 n, .agg #[.int .i64 0, .int .i64 0]]) ∧ Kd.R k51 51 w' w.heap.size (fun _ => True) v out ∧ Below w.heap.size w w' := by
 obtain ⟨h0, h1, hs, p0, p1, l, hr, hm⟩ := ab.fromP_some h
 have hu42 := Tryz.underlying42
 have HM := gz hm
 have HO := gz (ab.opened k s a l n 0 0 h0 h1 hs p0 p1 hr)
 clear p0 p1 hr hm h
 have z0 : decide (a < 0) = false := decide_eq_false Z8
 have z1 : decide (a > (s.size : Int)) = false := decide_eq_false Z8
 have z2 : decide ((s.size : Int) < a) = false := decide_eq_false Z8
 go_enter Tryz.func144, Tryz.ntmps144
 have B0 := gz (ak (Below.refl w.heap.size w) (.cells #[.int .i64 0, .int .i64 0] 42))
 have K0 := gz (a8 w (.cells #[.int .i64 0, .int .i64 0] 42))
 go_upto_region 1 with (fail)
 generalize w.alloc (.cells #[.int .i64 0, .int .i64 0] 42) = w1 at B0 K0 ⊢
 have hz1 := gz (bB K0.out)
 go_upto_region 4 with (go_at_call 150; refine (HO.out _).mono ?_; rintro e2 w2 ⟨g, v, rfl, hR2, hI2, hB2⟩)
 have hx1 := dX hI2.1
 have hx2 := gx hI2.1
 have hx3 := gw hI2.1
 have K2 := gz (ao K0.out hB2)
 have B2 := gz (fL B0.out B0.out.size hB2)
 have hR := gz (Kd.R_lower hR2 (Nat.le_of_lt hz1.out))
 have I2 := gz hI2
 clear hR2 hB2 hI2
 obtain ⟨A, c, rfl⟩ := Kd.R_slice hR.out
 go_wp2_with (go_at_call 151; refine (fD.calls k A c l false out 0 _ (Kd.R_reads' hR.out).2.2 (Kd.R_reads' hR.out).2.1 HM.out).mono ?_; rintro e3 w3 ⟨v3, rfl, hR3, hB3⟩; have K3 := gz (ao K2.out hB3); have I3 := gz (I2.out.below hB3); have B3 := gz (fL B2.out B2.out.size hB3); have hR4 := gz (Kd.R_lower hR3 B2.out.size); clear hR3 hB3 hx1 hx2 hx3)
 have hne := IsS164.ne_blk I3.out K3.out Z27
 have hE : ∀ q, q ∈ 51 :: k51.E → q ≠ 42 := by decide
 have c30 := (ah K3.out 0).trans rfl
 have c31 := (ah K3.out 1).trans rfl
 have f30 := ag K3.out 0
 have f31 := ag K3.out 1
 have hx1 := dX I3.out.1
 have hne' := hne.symm
 go_region_held3 (fun w' => w'.cell? ⟨g, 1, none⟩ = some (.int .i64 n)) (go_keep) (fail)
 go_wp2
 exact bodyPost_ret (v := .tuple #[v3, .int .i64 n, .agg #[.int .i64 0, .int .i64 0]]) (by simp [results, Tryz.results144, go_sem, c30, c31]) rfl ⟨_, rfl, Kd.R_drew (Kd.R_set (Kd.R_set hR4.out K3.out hE 0 _) (fi K3.out 0 _) hE 1 _), ((B3.out.setCell (Nat.le_refl _) _).setCell (Nat.le_refl _) _).drew⟩
theorem ab.bkept {B b : Nat} {bs : List Value} {w w1 : World} (h : Lib.IsBuilderF 169 5 B b bs w) (hb : Below w.heap.size w w1) : Lib.IsBuilderF 169 5 B b bs w1 := by
 have key : ∀ p, Lib.BuilderAtF 169 5 B b p bs w → Lib.BuilderAtF 169 5 B b p bs w1 := by
  rintro p ⟨h0, v, h1, h2, h3⟩
  exact ⟨h0, v, ao h1 hb, h2.kept (row := none) ⟨hb.os, hb.tape, hb.output, hb.size, fun k hk _ => hb.block k hk⟩ (by cases v.ownBlock <;> simp), h3⟩
 exact h.imp (key _) (key _)
theorem ab.bwk {B : Nat} {w W w2 : World} (h : Below B w W) (hle : B ≤ W.heap.size) (k : Below W.heap.size W w2) : Below B w w2 :=
 ⟨k.os.trans h.os, k.tape.trans h.tape, k.output.trans h.output, Nat.le_trans h.size k.size, fun i hi => (k.block i (Nat.lt_of_lt_of_le hi hle)).trans (h.block i hi)⟩
theorem ab.bcat (s : List UInt8) (a : ByteArray) : Lib.byteCells s ++ Lib.strCells a = Lib.byteCells (s ++ a.data.toList) := by simp [Lib.byteCells, Lib.strCells]
theorem ab.bfresh {B : Nat} {w : World} (h : B ≤ w.heap.size) : Lib.IsBuilderF 169 5 B w.heap.size [] (w.alloc (.cells #[.pointer none, .slice none 0 0] 169 (0, 0))) :=
 .inl (Lib.BuilderAtF.of ⟨h, .slice none 0 0, a8 w _, own_nil _ _ _ _, by simp [Value.ownBlock]⟩)
set_option maxHeartbeats 4000000 in
theorem ab.lenR {B b : Nat} {bs : List Value} {w : World} (h : Lib.IsBuilderF 169 5 B b bs w) :
  Calls Tryz.prog 153 #[.pointer (some ⟨b, 0, none⟩)] w fun e w' => e = .returned (.int .i64 bs.length) ∧ w' = w := by
 obtain ⟨A, c, hv⟩ : ∃ A c, w.cell? ⟨b, 1, none⟩ = some (.slice A bs.length c) := by
  have key : ∀ p, Lib.BuilderAtF 169 5 B b p bs w → ∃ A c, w.cell? ⟨b, 1, none⟩ = some (.slice A bs.length c) := by
   rintro p ⟨h0, v, h1, h2, h3⟩
   rcases h2.2 with ⟨rfl, h4⟩ | ⟨g, cap, cur, fz, rfl, _⟩
   ·exact ⟨none, 0, by rw [h4]; exact (ah h1 1).trans rfl⟩
   ·exact ⟨_, _, (ah h1 1).trans rfl⟩
  exact h.elim (key _) (key _)
 clear h
 go_enter Tryz.func153, Tryz.ntmps153
 go_wp2
 go_ret
 exact ⟨rfl, rfl⟩
def ab.qloop (s : ByteArray) : Nat → Int → List UInt8 → Option (List UInt8 × Int)
 | 0, _, _ => none
 | k + 1, i, acc => if i < (s.size : Int) then (if bt s i = 34 then (if acc.length ≤ 4096 then some (acc, i + 1) else none) else if 32 ≤ bt s i ∧ bt s i < 127 ∧ bt s i ≠ 92 then ab.qloop s k (i + 1) (acc ++ [(bt s i).toNat.toUInt8]) else none) else none
def ab.quotedP (k : Nat) (s : ByteArray) (a : Int) : Option (List UInt8 × Int) :=
 if 0 ≤ a then (if a < (s.size : Int) then (if (s.size : Int) < 1000000000 then (if bt s a = 34 then ab.qloop s k (a + 1) [] else none) else none) else none) else none
theorem ab.bt_pos (s : ByteArray) (i : Int) : 0 ≤ bt s i ∧ bt s i < 256 := by
 unfold bt
 split
 ·have := (s[i.toNat]).toNat_lt; omega
 ·omega
theorem ab.cut1 (s : ByteArray) (i : Int) (h0 : 0 ≤ i) (h1 : i < (s.size : Int)) : (s.extract i.toNat (i + 1).toNat).data.toList = [(bt s i).toNat.toUInt8] := by
 have hn : i.toNat < s.size := by omega
 rw [bE.bt_eq s i hn, show (i + 1).toNat = i.toNat + 1 from by omega]
 apply List.ext_getElem
 ·simp; omega
 ·intro n g1 g2
  have : n = 0 := by simpa using g2
  subst this
  simp
  rfl
set_option maxHeartbeats 4000000 in
theorem ab.quotedR {k : Nat} {s : ByteArray} {a n : Int} {v : List UInt8} (h : ab.quotedP k s a = some (v, n)) (w : World) :
  Calls Tryz.prog 145 #[.string s, .int .i64 a] w fun e w' => e = .returned (.tuple #[.string ⟨v.toArray⟩, .int .i64 n, .agg #[.int .i64 0, .int .i64 0]]) ∧ Below w.heap.size w w' := by
 unfold ab.quotedP at h
 obtain ⟨h0, h⟩ := ab.ite_some h
 obtain ⟨h1, h⟩ := ab.ite_some h
 obtain ⟨h2, h⟩ := ab.ite_some h
 obtain ⟨h3, h⟩ := ab.ite_some h
 have HQ := gz h
 clear h
 have z0 : decide (a < 0) = false := decide_eq_false Z8
 have z1 : decide (a ≥ (s.size : Int)) = false := decide_eq_false Z8
 have z2 : decide ((s.size : Int) ≤ a) = false := decide_eq_false Z8
 have hb34 : (bt s a != 34) = false := bne_eq_false_iff_eq.mpr h3
 have hn : a.toNat < s.size := by omega
 have hx4 := bt_at s a
 have y0 : 0 ≤ a := h0
 have y1 : a < (s.size : Int) := h1
 have hw1 : wrap64 (a + 1) = a + 1 := by unfold wrap64; omega
 replace h3 := gz h3
 go_enter Tryz.func145, Tryz.ntmps145
 go_upto_region 6 with (fail)
 have K0 := gz (show ((w.alloc (.cells #[.int .i64 0, .int .i64 0] 42)).alloc (.cells #[.int .i64 12, .int .i64 a] 42)).heap[w.heap.size]? = some (.cells #[.int .i64 0, .int .i64 0] 42 (0, 0)) from au (a8 w _) _)
 have L0 := gz (show Below w.heap.size w ((w.alloc (.cells #[.int .i64 0, .int .i64 0] 42)).alloc (.cells #[.int .i64 12, .int .i64 a] 42)) from ak (ak (Below.refl _ _) _) _)
 have S0 : ((w.alloc (.cells #[.int .i64 0, .int .i64 0] 42)).alloc (.cells #[.int .i64 12, .int .i64 a] 42)).heap.size = w.heap.size + 1 + 1 := by rw [bL, bL]
 generalize ((w.alloc (.cells #[.int .i64 0, .int .i64 0] 42)).alloc (.cells #[.int .i64 12, .int .i64 a] 42)) = X at K0 L0 S0 ⊢
 have I1 := gz (ab.bfresh (Nat.le_refl X.heap.size))
 have K1 := gz (au K0.out (.cells #[.pointer none, .slice none 0 0] 169 (0, 0)))
 have L1 := gz (ak L0.out (.cells #[.pointer none, .slice none 0 0] 169 (0, 0)))
 have S1 : X.heap.size ≤ (X.alloc (.cells #[.pointer none, .slice none 0 0] 169 (0, 0))).heap.size := by rw [bL]; omega
 have hlo : w.heap.size < X.heap.size := by omega
 go_upto_region 7 with (fail)
 generalize X.alloc (.cells #[.pointer none, .slice none 0 0] 169 (0, 0)) = Y at I1 K1 L1 S1 ⊢
 clear K0 L0
 rw [S0] at I1 S1
 obtain ⟨B, hB⟩ : ∃ B, w.heap.size + 1 + 1 = B := ⟨_, rfl⟩
 have hlo2 : w.heap.size < B := by omega
 rw [hB] at I1 S1
 rw [hB]
 clear hB S0 hlo
 go_wp2
 go_loopg [9, 10, 11, 12, 13, 14] k (fun gk v9 v10 v11 v12 v13 v14 wr => ∃ (i : Int) (acc : List UInt8), v9 = .int .i64 i ∧ 0 ≤ i ∧ aa (acc.length + 1 ≤ i) ∧ aa (gk ≤ k) ∧ aa (ab.qloop s gk i acc = some (v, n)) ∧ aa (Lib.IsBuilderF 169 5 B B (Lib.byteCells acc) wr) ∧ aa (Below B Y wr))
 case atStart => exact ⟨a + 1, [], rfl, Z8, ⟨by simp; omega⟩, ⟨Nat.le_refl _⟩, HQ, I1, ⟨Below.refl _ _⟩⟩
 case round =>
  clear HQ I1
  obtain ⟨i, acc, rfl, hi0, HA, HK, HQ, HI, HW⟩ := hrel
  cases gk with
  | zero => exact absurd HQ.out (by simp [ab.qloop])
  | succ gk =>
   have hq := HQ.out
   rw [ab.qloop] at hq
   obtain ⟨hi1, hq⟩ := ab.ite_some hq
   have d1 : decide (i < (s.size : Int)) = true := decide_eq_true hi1
   have hxi := bt_at s i
   obtain ⟨c, hc⟩ : ∃ c, bt s i = c := ⟨_, rfl⟩
   have hcr := bt_range s i
   rw [hc] at hxi hq hcr
   have hlt : c < 128 := by
    by_cases hc34 : c = 34
    ·omega
    ·rw [if_neg hc34] at hq
     have := (ab.ite_some hq).1
     omega
   have HN := gz (show fq.f s i = some (c, 1, true) from hc ▸ bE.next_ascii s i hi0 hi1 Z8)
   have HQ2 := gz hq
   have HC := gz hc
   have HLT := gz hlt
   have HCR := gz hcr
   have HI1 := gz hi1
   clear hq hc hlt hcr HQ
   go_wp2_with fail
   refine (fq.calls HN.out).mono ?_
   rintro e2 w2 ⟨rfl, hb2⟩
   have HI2 := gz (ab.bkept HI.out hb2)
   have HW2 := gz (ab.bwk HW.out (Nat.le_trans S1 HW.out.size) hb2)
   clear hb2 HI HW
   have HBw := gz (Nat.le_trans S1 HW2.out.size)
   by_cases hc34 : c = 34
   ·have e1 : (c == 34) = true := beq_iff_eq.mpr hc34
    have hq := HQ2.out
    rw [if_pos hc34] at hq
    obtain ⟨hl, hq⟩ := ab.ite_some hq
    obtain ⟨rfl, rfl⟩ := Prod.mk.inj (Option.some.inj hq)
    have e2 : decide (((Lib.byteCells acc).length : Int) > 4096) = false := decide_eq_false (by simp [Lib.byteCells]; omega)
    have e3 : decide ((4096 : Int) < ((Lib.byteCells acc).length : Int)) = false := decide_eq_false (by simp [Lib.byteCells]; omega)
    have hw2 : wrap64 (i + 1) = i + 1 := by unfold wrap64; omega
    replace hc34 := gz hc34
    clear hq
    go_wp2_with fail
    refine (ab.lenR HI2.out).mono ?_
    rintro e3 w3 ⟨rfl, rfl⟩
    go_wp2_with fail
    refine (Tryz.Builder_String_any B B acc w3 HI2.out HBw.out).mono ?_
    rintro e4 w4 ⟨rfl, hb4⟩
    have K4 := gz (show w4.heap[w.heap.size]? = some (.cells #[.int .i64 0, .int .i64 0] 42 (0, 0)) from ((hb4.block _ hlo2).trans (HW2.out.block _ hlo2)).trans K1.out)
    have L4 := gz (show Below w.heap.size w w4 from ⟨hb4.os.trans (HW2.out.os.trans L1.out.os), hb4.tape.trans (HW2.out.tape.trans L1.out.tape), hb4.output.trans (HW2.out.output.trans L1.out.output), Nat.le_trans L1.out.size (Nat.le_trans HW2.out.size hb4.size), fun k hk => (hb4.block k Z8).trans ((HW2.out.block k Z8).trans (L1.out.block k hk))⟩)
    clear hb4
    have q0 := (ah K4.out 0).trans rfl
    have q1 := (ah K4.out 1).trans rfl
    have f0 := ag K4.out 0
    have f1 := ag K4.out 1
    go_wp2
    exact bodyPost_ret (v := .tuple #[.string ⟨acc.toArray⟩, .int .i64 (i + 1), .agg #[.int .i64 0, .int .i64 0]]) (by simp [results, Tryz.results145, go_sem, q0, q1]) rfl ⟨rfl, (L4.out.setCell (Nat.le_refl _) _).setCell (Nat.le_refl _) _⟩
   ·have e1 : (c == 34) = false := beq_eq_false_iff_ne.mpr hc34
    have hq := HQ2.out
    rw [if_neg hc34] at hq
    obtain ⟨⟨g1, g2, g3⟩, hq⟩ := ab.ite_some hq
    have e2 : decide (c < 32) = false := decide_eq_false Z8
    have e3 : (c == 127) = false := beq_eq_false_iff_ne.mpr Z8
    have e4 : (c != 92) = true := bne_iff_ne.mpr g3
    have hw2 : wrap64 (i + 1) = i + 1 := by unfold wrap64; have := HI1.out; omega
    have y2 : i + 1 ≤ (s.size : Int) := by have := HI1.out; omega
    have y3 : i ≤ i + 1 := by omega
    have y4 : (0 : Int) ≤ i + 1 := by omega
    have HQ3 := gz (show ab.qloop s gk (i + 1) (acc ++ [c.toNat.toUInt8]) = some (v, n) from hq)
    replace hc34 := gz hc34
    replace g3 := gz g3
    clear hq
    go_wp2_with fail
    refine (Tryz.Builder_WriteString B B (Lib.byteCells acc) (s.extract i.toNat (i + 1).toNat) w2 HI2.out (by have := HA.out; have := HI1.out; simp [Lib.byteCells]; omega) HBw.out).mono ?_
    rintro e3 w3 ⟨rfl, hi, hb, -⟩
    have HI3 := gz (show Lib.IsBuilderF 169 5 B B (Lib.byteCells (acc ++ [c.toNat.toUInt8])) w3 from .inr (by
     have h1 := hi
     rw [ab.bcat, ab.cut1 s i hi0 HI1.out, HC.out] at h1
     exact h1))
    have HW3 := gz (show Below B Y w3 from ⟨hb.os.trans HW2.out.os, hb.tape.trans HW2.out.tape, hb.output.trans HW2.out.output, Nat.le_trans HW2.out.size hb.size, fun k hk => (hb.block k hk).trans (HW2.out.block k hk)⟩)
    clear hi hb
    go_wp2
    go_roundg gk
    case measure => omega
    case rel => exact ⟨i + 1, acc ++ [c.toNat.toUInt8], rfl, Z8, ⟨by have := HA.out; simp; omega⟩, ⟨Z20⟩, HQ3, HI3, HW3⟩
def ab.itAt (W : World) (g : Nat) (s : ByteArray) (pos : Nat) : World := { W with heap := W.heap.setIfInBounds g (.stringIter s pos) }
theorem ab.next_at {P : Program} (W : World) (g : Nat) (s : ByteArray) (pos : Nat) (ty : TypeId) (hb : W.heap[g]? = some (.stringIter s pos)) (h : pos < s.size) (ha : (s[pos]'h).toNat < 128) :
  (Instr.next (.pointer (some ⟨g, 0, none⟩)) true ty).run P W = .ok (.tuple #[.bool true, .int .i64 pos, .int .i32 (s[pos]'h).toNat]) (ab.itAt W g s (pos + 1)) := by
 simp only [Instr.next, getObj, setObj, Sem.run_bind, Sem.run, hb, Result.andThen, h, if_true, decode_ascii s pos h ha]
 simp [goInt, Sem.run, hb, ab.itAt]
theorem ab.end_at {P : Program} (W : World) (g : Nat) (s : ByteArray) (pos : Nat) (ty : TypeId) (hb : W.heap[g]? = some (.stringIter s pos)) (h : ¬ pos < s.size) :
  (Instr.next (.pointer (some ⟨g, 0, none⟩)) true ty).run P W = .ok (.tuple #[.bool false]) W := by
 simp [Instr.next, getObj, Sem.run, hb, h]
theorem ab.itAt_at {W : World} {g : Nat} {s : ByteArray} {pos pos' : Nat} (hb : W.heap[g]? = some (.stringIter s pos)) : (ab.itAt W g s pos').heap[g]? = some (.stringIter s pos') := by
 have hlt : g < W.heap.size := (Array.getElem?_eq_some_iff.1 hb).1
 simp [ab.itAt, hlt]
theorem ab.itAt_far (W : World) (g : Nat) (s : ByteArray) (pos : Nat) (k : Nat) (h : k ≠ g) : (ab.itAt W g s pos).heap[k]? = W.heap[k]? := by
 simp [ab.itAt, Ne.symm h]
theorem ab.itAt_size (W : World) (g : Nat) (s : ByteArray) (pos : Nat) : (ab.itAt W g s pos).heap.size = W.heap.size := by simp [ab.itAt]
theorem ab.itAt_below {B : Nat} {w W : World} {g : Nat} (h : Below B w W) (hg : B ≤ g) (s : ByteArray) (pos : Nat) : Below B w (ab.itAt W g s pos) :=
 ⟨h.os, h.tape, h.output, by rw [ab.itAt_size]; exact h.size, fun k hk => (ab.itAt_far W g s pos k Z8).trans (h.block k hk)⟩
def ab.ascii (s : ByteArray) : Prop := ∀ i (h : i < s.size), (s[i]'h).toNat < 128
set_option maxHeartbeats 4000000 in
theorem ab.validR {s : ByteArray} (hs : ab.ascii s) (w : World) :
  Calls Tryz.prog 157 #[.string s] w fun e w' => e = .returned (.agg #[.int .i64 0, .int .i64 0]) ∧ Below w.heap.size w w' := by
 have HS := gz hs
 clear hs
 go_enter Tryz.func157, Tryz.ntmps157
 have K0 := gz (a8 w (.cells #[.int .i64 0, .int .i64 0] 42))
 have L0 := gz (ak (Below.refl w.heap.size w) (.cells #[.int .i64 0, .int .i64 0] 42))
 have S0 : (w.alloc (.cells #[.int .i64 0, .int .i64 0] 42)).heap.size = w.heap.size + 1 := bL _ _
 go_upto_region 1 with (fail)
 generalize (w.alloc (.cells #[.int .i64 0, .int .i64 0] 42)) = X at K0 L0 S0 ⊢
 go_wp2
 go_loopg [3, 4] s.size (fun gk v3 v4 wr => ∃ pos : Nat, pos ≤ s.size ∧ s.size - pos ≤ gk ∧ wr = X.iter s pos)
 case atStart => exact ⟨0, Z8, Z8, rfl⟩
 case round =>
  obtain ⟨pos, hp, hgk, rfl⟩ := hrel
  by_cases c : pos < s.size
  ·have hnx : ∀ ty, (Instr.next (.pointer (some ⟨X.heap.size, 0, none⟩)) true ty).run Tryz.prog (X.iter s pos) = .ok (.tuple #[.bool true, .int .i64 pos, .int .i32 (s[pos]'c).toNat]) (X.iter s (pos + 1)) := fun ty => run_next_ascii X s pos ty c (HS.out pos c)
   obtain ⟨x, hx⟩ : ∃ x : Int, ((s[pos]'c).toNat : Int) = x := ⟨_, rfl⟩
   have hne : (x == 65533) = false := by have := HS.out pos c; rw [beq_eq_false_iff_ne]; omega
   simp only [hx, S0] at hnx
   clear hx
   go_wp2
   go_roundg (s.size - (pos + 1))
   case measure => omega
   case rel => exact ⟨pos + 1, Z8, Z8, rfl⟩
  ·have hnx : ∀ ty, (Instr.next (.pointer (some ⟨X.heap.size, 0, none⟩)) true ty).run Tryz.prog (X.iter s pos) = .ok (.tuple #[.bool false]) (X.iter s pos) := fun ty => run_next_end X s pos ty c
   simp only [S0] at hnx
   have K1 := gz (show (X.iter s pos).heap[w.heap.size]? = some (.cells #[.int .i64 0, .int .i64 0] 42 (0, 0)) from au K0.out _)
   have L1 := gz (show Below w.heap.size w (X.iter s pos) from ak L0.out _)
   have q0 := (ah K1.out 0).trans rfl
   have q1 := (ah K1.out 1).trans rfl
   have f0 := ag K1.out 0
   have f1 := ag K1.out 1
   go_wp2
   exact bodyPost_ret (v := .agg #[.int .i64 0, .int .i64 0]) (by simp [results, Tryz.results157, go_sem, q0, q1]) rfl ⟨rfl, (L1.out.setCell (Nat.le_refl _) _).setCell (Nat.le_refl _) _⟩
def ab.runeRow (l : List UInt8) : List (List Value) := l.map fun b => [.int .i32 (b.toNat : Int)]
set_option maxHeartbeats 4000000 in
theorem ab.runesR {s : ByteArray} (hs : ab.ascii s) (hz : s.size < 1000000000) (w : World) :
  Calls Tryz.prog 146 #[.string s] w fun e w' => ∃ v, e = .returned (.tuple #[v, .agg #[.int .i64 0, .int .i64 0]]) ∧ (Kd.raw 1).R 21 w' w.heap.size (fun _ => True) v (ab.runeRow s.data.toList) ∧ Below w.heap.size w w' := by
 have HS := gz hs
 have HZ := gz hz
 clear hs hz
 go_enter Tryz.func146, Tryz.ntmps146
 have K0 := gz (a8 w (.cells #[.int .i64 0, .int .i64 0] 42))
 have L0 := gz (ak (Below.refl w.heap.size w) (.cells #[.int .i64 0, .int .i64 0] 42))
 go_upto_region 1 with (fail)
 generalize (w.alloc (.cells #[.int .i64 0, .int .i64 0] 42)) = X at K0 L0 ⊢
 go_upto_if 12 with (first | (go_at_call 157; refine (ab.validR HS.out X).mono ?_; rintro e1 w1 ⟨rfl, hb1⟩))
 have K1 := gz (au (ao K0.out hb1) (.cells #[.int .i64 0, .int .i64 0] 42))
 have L1 := gz (ak (ai L0.out hb1) (.cells #[.int .i64 0, .int .i64 0] 42))
 clear hb1 K0 L0
 generalize (w1.alloc (.cells #[.int .i64 0, .int .i64 0] 42)) = Y at K1 L1 ⊢
 have hlo := gz (bB K1.out)
 have IT := gz (World.iter_heap Y s 0)
 have L2 := gz (show Below Y.heap.size Y (Y.iter s 0) from ak (Below.refl _ _) _)
 go_upto_region 6 with (fail)
 generalize Y.iter s 0 = Z at IT L2 ⊢
 obtain ⟨g, hg⟩ : ∃ g, Y.heap.size = g := ⟨_, rfl⟩
 rw [hg] at IT L2 hlo
 rw [hg]
 have HG := gz hg
 clear hg
 have hgz := gz (show g + 1 ≤ Z.heap.size from bB IT.out)
 go_loopg [5, 7] s.size (fun gk v5 v7 wr => ∃ pos : Nat, pos ≤ s.size ∧ s.size - pos ≤ gk ∧ aa (wr.heap[g]? = some (.stringIter s pos)) ∧ aa ((Kd.raw 1).R 21 wr (g + 1) (fun _ => True) v5 (ab.runeRow (s.data.toList.take pos))) ∧ aa (Below g Y wr) ∧ aa (g + 1 ≤ wr.heap.size))
 case atStart => exact ⟨0, Z8, Z8, IT, ⟨Kd.R_nil _ _ _ _ _⟩, L2, hgz⟩
 case round =>
  clear IT L2 hgz
  obtain ⟨pos, hp, hgk, IT, HR, HW, HS2⟩ := hrel
  by_cases c : pos < s.size
  ·have hnx : ∀ ty, (Instr.next (.pointer (some ⟨g, 0, none⟩)) true ty).run Tryz.prog wr = .ok (.tuple #[.bool true, .int .i64 pos, .int .i32 (s[pos]'c).toNat]) (ab.itAt wr g s (pos + 1)) := fun ty => ab.next_at wr g s pos ty IT.out c (HS.out pos c)
   have IT2 := gz (ab.itAt_at (pos' := pos + 1) IT.out)
   have HW2 := gz (ab.itAt_below HW.out (Nat.le_refl g) s (pos + 1))
   have HS3 := gz (show g + 1 ≤ (ab.itAt wr g s (pos + 1)).heap.size from by rw [ab.itAt_size]; exact HS2.out)
   have HR2 := gz (show (Kd.raw 1).R 21 (ab.itAt wr g s (pos + 1)) (g + 1) (fun _ => True) u5 (ab.runeRow (s.data.toList.take pos)) from Kd.R_mono (Kd.R_step (Kd.raw_tight HR.out) (fun k hk hlt => ab.itAt_far wr g s (pos + 1) k (fun e => by have := Kd.R_base HR.out k hk.symm; omega))) (fun _ _ => trivial))
   have HL := gz (show ab.runeRow (s.data.toList.take (pos + 1)) = ab.runeRow (s.data.toList.take pos) ++ [[.int .i32 ((s[pos]'c).toNat : Int)]] from by
    have hl : pos < s.data.toList.length := by simpa using c
    rw [List.take_succ_eq_append_getElem hl]
    simp [ab.runeRow]
    rfl)
   obtain ⟨x, hx⟩ : ∃ x : Int, ((s[pos]'c).toNat : Int) = x := ⟨_, rfl⟩
   simp only [hx] at hnx HL
   clear hx
   generalize ab.itAt wr g s (pos + 1) = W2 at hnx IT2 HW2 HS3 HR2 ⊢
   clear IT HR HW HS2
   go_wp2_with (first | ((with_reducible refine aK (b := .append) (xs := #[.tmp 19, .tmp 21]) rfl ?_); at_builtin; refine Kd.R_append (Kd.raw 1) (w0 := W2) (g + 1) rfl (.tmp 19) (.tmp 21) 65 21 (.int .i32 0) 4 rfl Tryz.underlying65 info21 rfl Z27 Z8 u5 (ab.runeRow (s.data.toList.take pos)) [.int .i32 x] [.int .i32 x] (fun _ => True) (fun _ => False) rfl rfl ⟨rfl, rfl, by simp [Value.oneCell']⟩ (fun _ hk => hk.elim) (fun _ _ => trivial) HR2.out (Below.refl _ _) HS3.out ?aL ?_; (case aL => have := HZ.out; simp [ab.runeRow]; omega); intro v1 w3 hr hb hg2 hat))
   rw [← HL.out] at hr
   go_roundg (s.size - (pos + 1))
   case measure => omega
   case rel => exact ⟨pos + 1, Z8, Z8, ⟨(hb.block g Z8).trans IT2.out⟩, ⟨hr⟩, ⟨⟨hb.os.trans HW2.out.os, hb.tape.trans HW2.out.tape, hb.output.trans HW2.out.output, Nat.le_trans HW2.out.size hb.size, fun k hk => (hb.block k Z8).trans (HW2.out.block k hk)⟩⟩, ⟨Nat.le_trans HS3.out hb.size⟩⟩
  ·have hnx : ∀ ty, (Instr.next (.pointer (some ⟨g, 0, none⟩)) true ty).run Tryz.prog wr = .ok (.tuple #[.bool false]) wr := fun ty => ab.end_at wr g s pos ty IT.out c
   have hfull : s.data.toList.take pos = s.data.toList := List.take_of_length_le (by simp; omega)
   rw [hfull] at HR
   have K4 := gz (show wr.heap[w.heap.size]? = some (.cells #[.int .i64 0, .int .i64 0] 42 (0, 0)) from (HW.out.block _ hlo.out).trans K1.out)
   have L4 := gz (show Below w.heap.size w wr from ⟨HW.out.os.trans L1.out.os, HW.out.tape.trans L1.out.tape, HW.out.output.trans L1.out.output, Nat.le_trans L1.out.size HW.out.size, fun k hk => (HW.out.block k (by have := hlo.out; omega)).trans (L1.out.block k hk)⟩)
   have q0 := (ah K4.out 0).trans rfl
   have q1 := (ah K4.out 1).trans rfl
   have f0 := ag K4.out 0
   have f1 := ag K4.out 1
   obtain ⟨A5, c5, h5⟩ := Kd.R_slice HR.out
   subst h5
   have HR4 := gz (Kd.R_lower HR.out (show w.heap.size ≤ g + 1 from by have := hlo.out; omega))
   clear HR hfull
   have hE : ∀ q, q ∈ 21 :: (Kd.raw 1).E → q ≠ 42 := by decide
   go_wp2
   exact bodyPost_ret (v := .tuple #[.slice A5 (ab.runeRow s.data.toList).length c5, .agg #[.int .i64 0, .int .i64 0]]) (by simp [results, Tryz.results146, go_sem, q0, q1]) rfl ⟨_, rfl, Kd.R_set (Kd.R_set HR4.out K4.out hE 0 _) (fi K4.out 0 _) hE 1 _, (L4.out.setCell (Nat.le_refl _) _).setCell (Nat.le_refl _) _⟩
abbrev ab.PF := Int → Int → Int → Option (S25 × Int × Int)
def ab.mk25 (r : Int × List S51 × List S25) : S25 := ⟨r.1, r.2.1, r.2.2⟩
def ab.szd (k : Nat) (x : S25) : Option S25 := (dv.f k x.f0 x.f1 x.f2).bind fun e => if e = 0 then some x else none
theorem ab.szd_some {k : Nat} {x y : S25} (h : ab.szd k x = some y) : y = x ∧ dv.f k x.f0 x.f1 x.f2 = some 0 := by
 unfold ab.szd at h
 obtain ⟨e, he, h⟩ := Option.bind_eq_some_iff.mp h
 obtain ⟨h0, h1⟩ := ab.ite_some h
 subst h0
 exact ⟨(Option.some.inj h1).symm, he⟩
def ab.singles (v : List UInt8) : List S25 := v.map fun b => ⟨2, [⟨(b.toNat : Int), (b.toNat : Int)⟩], []⟩
def ab.nxt (a n : Int) : Int := wrap64 (a + n)
def ab.asciiB (v : List UInt8) : Bool := v.all fun b => decide (b.toNat < 128)
def ab.atomF (k : Nat) (s : ByteArray) (alt : ab.PF) : ab.PF := fun a e op =>
 (ab.pk k s a).bind fun c =>
  if c.1 = 40 then (if 0 ≤ op ∧ op < 64 then (alt (ab.nxt c.2 1) (ab.nxt c.2 1) (op + 1)).bind fun x => (ab.pk k s x.2.1).bind fun d => if d.1 = 41 then some (x.1, ab.nxt d.2 1, ab.nxt d.2 1) else none else none)
  else if c.1 = 91 then (ab.fromP k s c.2).bind fun l => (cT.f l.1).bind fun x => some (ab.mk25 x, ab.nxt c.2 (wrap64 (l.2 - c.2)), ab.nxt c.2 (wrap64 (l.2 - c.2)))
  else if c.1 = 34 then (ab.quotedP k s c.2).bind fun v => if ab.asciiB v.1 = true ∧ v.1.length < 1000000 then (cq.f k (ab.singles v.1)).bind fun x => (ab.szd k (ab.mk25 x)).bind fun y => some (y, ab.nxt c.2 (wrap64 (v.2 - c.2)), ab.nxt c.2 (wrap64 (v.2 - c.2))) else none
  else if c.1 = 46 then some (⟨2, [⟨0, 1114111⟩], []⟩, ab.nxt c.2 1, ab.nxt c.2 1)
  else none
def ab.postL (k : Nat) (s : ByteArray) : Nat → S25 → Int → Int → Option (S25 × Int × Int)
 | 0, _, _, _ => none
 | j + 1, x, a, e => (ab.pk k s a).bind fun c =>
  if c.1 = 42 then (dV.f x.f0 x.f1 x.f2).bind fun y => (ab.szd k (ab.mk25 y)).bind fun z => ab.postL k s j z (ab.nxt c.2 1) (ab.nxt c.2 1)
  else if c.1 = 43 ∨ c.1 = 63 ∨ c.1 = 123 then none else some (x, c.2, e)
def ab.postF (k : Nat) (s : ByteArray) (atom : ab.PF) : ab.PF := fun a e op => (atom a e op).bind fun x => ab.postL k s k x.1 x.2.1 x.2.2
def ab.preF (k : Nat) (s : ByteArray) (pre post : ab.PF) : ab.PF := fun a e op =>
 (ab.pk k s a).bind fun c =>
  if c.1 = 33 then (if 0 ≤ op ∧ op < 64 then (pre (ab.nxt c.2 1) (ab.nxt c.2 1) (op + 1)).bind fun x => (fh.f x.1.f0 x.1.f1 x.1.f2).bind fun y => (ab.szd k (ab.mk25 y)).bind fun z => some (z, x.2.1, x.2.2) else none)
  else post c.2 e op
def ab.catL (k : Nat) (s : ByteArray) (pre : ab.PF) (op : Int) : Nat → List S25 → Int → Int → Option (List S25 × Int × Int)
 | 0, _, _, _ => none
 | j + 1, acc, a, e => (ab.pk k s a).bind fun c => if c.1 = 0 then some (acc, c.2, e) else
  (bY.f ⟨#[33, 40, 91, 34, 46]⟩ c.1).bind fun t => if 0 ≤ t then (if acc.length < 1000000 then (pre c.2 e op).bind fun x => ab.catL k s pre op j (acc ++ [x.1]) x.2.1 x.2.2 else none) else some (acc, c.2, e)
def ab.catF (k : Nat) (s : ByteArray) (pre : ab.PF) : ab.PF := fun a e op =>
 (pre a e op).bind fun x => (ab.catL k s pre op k [x.1] x.2.1 x.2.2).bind fun r => (match r.1 with
  | [y] => some (y, r.2.1, r.2.2)
  | l => (cq.f k l).bind fun y => (ab.szd k (ab.mk25 y)).bind fun z => some (z, r.2.1, r.2.2))
def ab.rowL (k : Nat) (s : ByteArray) (one : ab.PF) (sign op : Int) : Nat → List S25 → Int → Int → Option (List S25 × Int × Int)
 | 0, _, _, _ => none
 | j + 1, acc, a, e => (ab.pk k s a).bind fun c => if c.1 = sign then (if acc.length < 1000000 then (one (ab.nxt c.2 1) (ab.nxt c.2 1) op).bind fun x => ab.rowL k s one sign op j (acc ++ [x.1]) x.2.1 x.2.2 else none) else some (acc, c.2, e)
def ab.rowF (k : Nat) (s : ByteArray) (sign kind : Int) (one : ab.PF) : ab.PF := fun a e op =>
 (one a e op).bind fun x => (ab.rowL k s one sign op k [x.1] x.2.1 x.2.2).bind fun r => (match r.1 with
  | [y] => some (y, r.2.1, r.2.2)
  | l => (ac.f k kind l).bind fun y => if y.2.2.2 = 0 then (ab.szd k ⟨y.1, y.2.1, y.2.2.1⟩).bind fun z => some (z, r.2.1, r.2.2) else none)
mutual
def ab.altP (k : Nat) (s : ByteArray) : Nat → ab.PF
 | 0 => fun _ _ _ => none
 | n + 1 => ab.rowF k s 124 4 (ab.rowF k s 38 5 (ab.catF k s (ab.preP k s n)))
def ab.preP (k : Nat) (s : ByteArray) : Nat → ab.PF
 | 0 => fun _ _ _ => none
 | n + 1 => ab.preF k s (ab.preP k s n) (ab.postF k s (ab.atomF k s (ab.altP k s n)))
end
def ab.RCall (s : ByteArray) (fn : Nat) (F : ab.PF) : Prop := ∀ (g : Nat) (a e op : Int) (x : S25) (a2 e2 : Int) (w : World), ab.RS w g s a e op → F a e op = some (x, a2, e2) →
 Calls Tryz.prog fn #[.pointer (some ⟨g, 0, none⟩)] w fun ee w' => ∃ v, ee = .returned v ∧ ab.TV w.heap.size w' v x ∧ ab.RS w' g s a2 e2 op ∧ ab.GB w w' g
theorem ab.RS.c0 {w : World} {g : Nat} {s : ByteArray} {a e o : Int} (h : ab.RS w g s a e o) : w.cell? ⟨g, 0, none⟩ = some (.string s) := (ah h 0).trans rfl
theorem ab.RS.c1 {w : World} {g : Nat} {s : ByteArray} {a e o : Int} (h : ab.RS w g s a e o) : w.cell? ⟨g, 1, none⟩ = some (.int .i64 a) := (ah h 1).trans rfl
theorem ab.RS.c3 {w : World} {g : Nat} {s : ByteArray} {a e o : Int} (h : ab.RS w g s a e o) : w.cell? ⟨g, 3, none⟩ = some (.int .i64 o) := (ah h 3).trans rfl
theorem ab.GB.lt {w w' : World} {g : Nat} (h : ab.GB w w' g) : w.heap.size ≤ w'.heap.size := h.size
theorem ab.lit1 {α : Type} (d : Kd α) (W : World) (p : α) (cs : List Value) (e b : Nat) (ok : Nat → Prop) (hF : Kd.FK d W ok p cs) (hok : ∀ k, ok k → k < W.heap.size) : Kd.V d e (W.alloc (.cells cs.toArray e)) b (fun k => ok k ∨ k = W.heap.size) (.slice (some ⟨W.heap.size, 0, none⟩) 1 1) [p] := by
 refine ⟨_, 1, rfl, Nat.le_refl _, fun W' hW => ⟨rfl, Z24, fun _ => ⟨⟨W.heap.size, 0, none⟩, rfl, fun j q hq => ?_⟩⟩⟩
 have hblk : W'.heap[W.heap.size]? = some (.cells cs.toArray e (0, 0)) := (hW _ (.inr rfl) (by rw [bL]; omega)).trans (a8 W _)
 rcases j with _ | j
 ·simp only [List.getElem?_cons_zero, Option.some.injEq] at hq
  subst hq
  refine ⟨cs, d.K_len (Kd.FK_now hF), hF W' (fun k hk hlt => (hW k (.inl hk) (by rw [bL]; omega)).trans ((ak (Below.refl W.heap.size W) _).block k hlt)), fun i u hu => ?_⟩
  rw [show (⟨W.heap.size, 0, none⟩ : Addr).add (0 * d.sz + i) = ⟨W.heap.size, i, none⟩ from by simp [Addr.add]; intro h; exact h.symm]
  exact (ah hblk i).trans (by simpa using hu)
 ·simp at hq
theorem ab.atomR {k : Nat} {s : ByteArray} {alt : ab.PF} (HA : ab.RCall s 73 alt) : ab.RCall s 130 (ab.atomF k s alt) := by
 intro g a e op x a2 e2 w hR h
 have HR0 := gz (hR.below (ak (Below.refl _ _) (.cells #[.int .i64 0, .slice none 0 0, .slice none 0 0] 25)))
 have hgw := gz hR.lt
 unfold ab.atomF at h
 obtain ⟨⟨c, a1⟩, hp, h⟩ := Option.bind_eq_some_iff.mp h
 have HP := gz hp
 dsimp only at h
 clear hp hR
 go_enter Tryz.func130, Tryz.ntmps130
 have RC0 := gz (ab.RC.new w)
 have G0 := gz (ab.GB.of (ak (Below.refl w.heap.size w) (.cells #[.int .i64 0, .slice none 0 0, .slice none 0 0] 25)) g)
 have S0 := gz (show w.heap.size + 1 ≤ (w.alloc (.cells #[.int .i64 0, .slice none 0 0, .slice none 0 0] 25)).heap.size from Nat.le_of_eq (bL _ _).symm)
 go_upto_region 1 with (fail)
 generalize (w.alloc (.cells #[.int .i64 0, .slice none 0 0, .slice none 0 0] 25)) = X at HR0 RC0 G0 S0 ⊢
 go_wp2_with fail
 refine (ab.peekR HP.out g e op X HR0.out).mono ?_
 rintro ee w1 ⟨rfl, hr1, hg1⟩
 have R1 := gz hr1
 have RC1 := gz (RC0.out.gb hg1 Z11)
 have G1 := gz (G0.out.trans hg1)
 have S1 := gz (Nat.le_trans S0.out hg1.size)
 clear hr1 hg1 RC0 G0 S0 HR0 HP
 have c1 := R1.out.c1
 by_cases k40 : c = 40
 ·have b40 : (c == 40) = true := beq_iff_eq.mpr k40
  rw [if_pos k40] at h
  obtain ⟨⟨o0, o1⟩, h⟩ := ab.ite_some h
  obtain ⟨⟨x', a3, e3⟩, hx, h⟩ := Option.bind_eq_some_iff.mp h
  obtain ⟨⟨d, a4⟩, hd, h⟩ := Option.bind_eq_some_iff.mp h
  dsimp only at h hd hx
  obtain ⟨rfl, h⟩ := ab.ite_some h
  simp only [Option.some.injEq, Prod.mk.injEq] at h
  obtain ⟨rfl, rfl, rfl⟩ := h
  obtain ⟨x0, x1, x2⟩ := x
  have HX := gz hx
  have HD := gz hd
  have O0 := gz o0
  have O1 := gz o1
  clear hx hd o0 o1
  replace k40 := gz k40
  go_wp2_with fail
  refine (ab.enterR g s a1 e op w1 R1.out O0.out O1.out).mono ?_
  rintro ee w2 ⟨rfl, hr2, hg2⟩
  have R2 := gz hr2
  have RC2 := gz (RC1.out.gb hg2 Z11)
  have G2 := gz (G1.out.trans hg2)
  have S2 := gz (Nat.le_trans S1.out hg2.size)
  clear hr2 hg2 R1 RC1 G1 c1
  go_wp2_with fail
  refine (ab.takeR g s a1 e (op + 1) 1 w2 R2.out).mono ?_
  rintro ee w3 ⟨rfl, hr3, hg3⟩
  have R3 := gz hr3
  have RC3 := gz (RC2.out.gb hg3 Z11)
  have G3 := gz (G2.out.trans hg3)
  have S3 := gz (Nat.le_trans S2.out hg3.size)
  clear hr3 hg3 R2 RC2 G2
  go_wp2_with fail
  refine (HA g (wrap64 (a1 + 1)) (wrap64 (a1 + 1)) (op + 1) ⟨x0, x1, x2⟩ a3 e3 w3 R3.out HX.out).mono ?_
  rintro ee w4 ⟨vv, rfl, ⟨B1, y1, B2, y2, rfl, hf4⟩, hr4, hg4⟩
  have R4 := gz hr4
  have RC4 := gz (RC3.out.gb hg4 Z11)
  have G4 := gz (G3.out.trans hg4)
  have S4 := gz (Nat.le_trans S3.out hg4.size)
  have F4 := gz (show Kd.FK k25 w4 (fun k => w.heap.size + 1 ≤ k) ⟨x0, x1, x2⟩ [.int .i64 x0, .slice B1 x1.length y1, .slice B2 x2.length y2] from Kd.FK_mono hf4 (fun k hk => Nat.le_trans S3.out hk))
  clear hr4 hg4 hf4 R3 RC3 G3 HX
  go_wp2_with fail
  have bx := ak (Below.refl w4.heap.size w4) (.cells #[.int .i64 x0, .slice B1 x1.length y1, .slice B2 x2.length y2] 25)
  have R5 := gz (R4.out.below bx)
  have RC5 := gz (RC4.out.below bx)
  have G5 := gz (G4.out.below bx)
  have F5 := gz (Kd.FK_below F4.out bx)
  have N5 := gz (a8 w4 (.cells #[.int .i64 x0, .slice B1 x1.length y1, .slice B2 x2.length y2] 25))
  clear R4 RC4 G4 F4 bx
  generalize (w4.alloc (.cells #[.int .i64 x0, .slice B1 x1.length y1, .slice B2 x2.length y2] 25)) = X5 at R5 RC5 G5 F5 N5 ⊢
  refine (ab.mustR HD.out g e3 (op + 1) X5 R5.out).mono ?_
  rintro ee w6 ⟨rfl, hr6, hg6⟩
  have R6 := gz hr6
  have RC6 := gz (RC5.out.gb hg6 Z11)
  have G6 := gz (G5.out.trans hg6)
  have F6 := gz (Kd.FK_step F5.out (fun k hk hlt => hg6.block k hlt (fun e => by cases e; have := hgw.out; omega)))
  have N6 := gz ((hg6.block w4.heap.size (bB N5.out) (fun e => by have := Option.some.inj e; have := hgw.out; have := S4.out; omega)).trans N5.out)
  clear hr6 hg6 R5 RC5 G5 F5 N5
  have c3 := R6.out.c3
  have f3 := ag R6.out 3
  have hw : wrap64 (op + 1 - 1) = op := by have := O0.out; have := O1.out; unfold wrap64; omega
  have hw' : wrap64 op = op := by have := O0.out; have := O1.out; unfold wrap64; omega
  have hop : op + 1 - 1 = op := by omega
  go_upto_region 10 with (fail)
  have R7 := gz (show ab.RS (w6.setCell ⟨g, 3, none⟩ (.int .i64 op)) g s (wrap64 (a4 + 1)) (wrap64 (a4 + 1)) op from bG R6.out 3 _ rfl)
  have RCf := gz (show ab.RC (w6.setCell ⟨g, 3, none⟩ (.int .i64 op)) w.heap.size from (Below.heap_setCell w6 ⟨g, 3, none⟩ _ w.heap.size (by have := hgw.out; show w.heap.size ≠ g; omega)).trans RC6.out)
  have Gf := gz (G6.out.set 3 (.int .i64 op))
  have FXf := gz (Kd.FK_step F6.out (W1 := w6.setCell ⟨g, 3, none⟩ (.int .i64 op)) (fun k hk hlt => Below.heap_setCell w6 ⟨g, 3, none⟩ _ k (by have := hgw.out; show k ≠ g; omega)))
  have Nf := gz ((Below.heap_setCell w6 ⟨g, 3, none⟩ (.int .i64 op) w4.heap.size (by have := hgw.out; have := S4.out; show w4.heap.size ≠ g; omega)).trans N6.out)
  clear R6 RC6 G6 F6 N6 c3 f3 hw hw' hop
  generalize w6.setCell ⟨g, 3, none⟩ (.int .i64 op) = X7 at R7 RCf Gf FXf Nf ⊢
  have Rf := R7
  have q0 := (ah Nf.out 0).trans rfl
  have q1 := (ah Nf.out 1).trans rfl
  have q2 := (ah Nf.out 2).trans rfl
  have s0 := (ah RCf.out 0).trans rfl
  have s1 := (ah RCf.out 1).trans rfl
  have s2 := (ah RCf.out 2).trans rfl
  have e0 := ag RCf.out 0
  have e1 := ag RCf.out 1
  have e2 := ag RCf.out 2
  go_wp2
  obtain ⟨u1, u2⟩ := ab.TV.fin (t := ⟨x0, x1, x2⟩) (m := w.heap.size) RCf.out FXf.out (Nat.lt_succ_self _)
  refine bodyPost_ret (bq rfl (.cell w.heap.size 25 _ (0, 0) _ rfl u1 Tryz.underlying25 rfl Z5 .nil)) rfl ?_
  exact ⟨_, rfl, ab.TV.mono u2 (Nat.le_succ _), Rf.out.set3 Z11 _ _ _, Gf.out.set3 (Nat.le_refl _) _ _ _⟩
 ·have b40 : (c == 40) = false := beq_eq_false_iff_ne.mpr k40
  rw [if_neg k40] at h
  by_cases k91 : c = 91
  ·have b91 : (c == 91) = true := beq_iff_eq.mpr k91
   rw [if_pos k91] at h
   obtain ⟨⟨l, n⟩, hl, h⟩ := Option.bind_eq_some_iff.mp h
   obtain ⟨⟨x0, x1, x2⟩, hx, h⟩ := Option.bind_eq_some_iff.mp h
   simp only [Option.some.injEq, Prod.mk.injEq] at h
   obtain ⟨rfl, rfl, rfl⟩ := h
   have HL := gz hl
   have HX := gz hx
   clear hl hx
   replace k91 := gz k91
   replace k40 := gz k40
   have c0 := R1.out.c0
   go_wp2_with fail
   refine (ab.fromR HL.out w1).mono ?_
   rintro ee w2 ⟨v, rfl, hv, hb2⟩
   obtain ⟨A1, d1, rfl⟩ := Kd.R_slice hv
   have HV := gz (show Kd.V k51 51 w2 w2.heap.size (fun k => w1.heap.size ≤ k) (.slice A1 l.length d1) l from Kd.R_V (Kd.R_mono (Kd.R_tight rfl hv) (fun k hk => Kd.R_base hv k hk.symm)))
   have R2 := gz (R1.out.below hb2)
   have RC2 := gz (RC1.out.below hb2)
   have G2 := gz (G1.out.below hb2)
   have S2 := gz (Nat.le_trans S1.out hb2.size)
   have S12 := gz hb2.size
   clear hv hb2 R1 RC1 G1 c0 c1 HL
   go_wp2_with fail
   have bx := ak (Below.refl w2.heap.size w2) (.cells #[.int .i64 0, .int .i64 0] 42)
   have R3 := gz (R2.out.below bx)
   have RC3 := gz (RC2.out.below bx)
   have G3 := gz (G2.out.below bx)
   have V3 := gz (Kd.V_below HV.out bx)
   have S3 := gz (Nat.le_trans S2.out bx.size)
   clear R2 RC2 G2 HV S2
   generalize (w2.alloc (.cells #[.int .i64 0, .int .i64 0] 42)) = X3 at R3 RC3 G3 V3 S3 ⊢
   clear bx
   refine (ab.takeR g s a1 e op (wrap64 (n - a1)) X3 R3.out).mono ?_
   rintro ee w4 ⟨rfl, hr4, hg4⟩
   have R4 := gz hr4
   have RC4 := gz (RC3.out.gb hg4 Z11)
   have G4 := gz (G3.out.trans hg4)
   have V4 := gz (show Kd.V k51 51 w4 w4.heap.size (fun k => w1.heap.size ≤ k) (.slice A1 l.length d1) l from Kd.V_step V3.out (fun k hk hlt => hg4.block k hlt (fun e => by cases e; have := hgw.out; have := S1.out; omega)))
   have S4 := gz (Nat.le_trans S3.out hg4.size)
   clear hr4 hg4 R3 RC3 G3 V3 S3
   go_wp2_with fail
   refine (cT.calls (fun k => w1.heap.size ≤ k) A1 d1 l x0 x1 x2 w4 V4.out HX.out).mono ?_
   rintro ee w5 ⟨v1, v2, rfl, h1, h2, hb5⟩
   have Rf := gz (R4.out.below hb5)
   have RCf := gz (RC4.out.below hb5)
   have Gf := gz (G4.out.below hb5)
   obtain ⟨B1, y1, rfl, n1, f1⟩ := h1
   obtain ⟨B2, y2, rfl, n2, f2⟩ := h2
   have FXf := gz (show Kd.FK k25 w5 (fun k => w.heap.size + 1 ≤ k) ⟨x0, x1, x2⟩ [.int .i64 x0, .slice B1 x1.length y1, .slice B2 x2.length y2] from bP w5 _ ⟨x0, x1, x2⟩ n1 (Kd.F_mono f1 (fun k hk => by have := S1.out; have := S4.out; rcases hk with hk | hk <;> omega)) n2 (Kd.F_mono f2 (fun k hk => by have := S1.out; have := S4.out; rcases hk with hk | hk <;> omega)))
   clear hb5 n1 f1 n2 f2 R4 RC4 G4 V4
   have s0 := (ah RCf.out 0).trans rfl
   have s1 := (ah RCf.out 1).trans rfl
   have s2 := (ah RCf.out 2).trans rfl
   have e0 := ag RCf.out 0
   have e1 := ag RCf.out 1
   have e2 := ag RCf.out 2
   go_wp2
   obtain ⟨u1, u2⟩ := ab.TV.fin (m := w.heap.size) RCf.out FXf.out (Nat.lt_succ_self _)
   refine bodyPost_ret (bq rfl (.cell w.heap.size 25 _ (0, 0) _ rfl u1 Tryz.underlying25 rfl Z5 .nil)) rfl ?_
   exact ⟨_, rfl, ab.TV.mono u2 (Nat.le_succ _), Rf.out.set3 Z11 _ _ _, Gf.out.set3 (Nat.le_refl _) _ _ _⟩
  ·have b91 : (c == 91) = false := beq_eq_false_iff_ne.mpr k91
   rw [if_neg k91] at h
   by_cases k34 : c = 34
   ·have b34 : (c == 34) = true := beq_iff_eq.mpr k34
    rw [if_pos k34] at h
    obtain ⟨⟨v, n⟩, hv, h⟩ := Option.bind_eq_some_iff.mp h
    obtain ⟨⟨hasc, hlen⟩, h⟩ := ab.ite_some h
    obtain ⟨⟨x0, x1, x2⟩, hx, h⟩ := Option.bind_eq_some_iff.mp h
    obtain ⟨y, hy, h⟩ := Option.bind_eq_some_iff.mp h
    obtain ⟨rfl, hz⟩ := ab.szd_some hy
    simp only [Option.some.injEq, Prod.mk.injEq] at h
    obtain ⟨rfl, rfl, rfl⟩ := h
    dsimp only [ab.mk25] at hz hasc hlen hx ⊢
    have HQ := gz hv
    have HX := gz hx
    have HZ := gz hz
    have HLen := gz hlen
    have HAsc := gz (show ab.ascii ⟨v.toArray⟩ from fun i hi => by
     have hm : v[i]'(by simpa [ByteArray.size] using hi) ∈ v := List.getElem_mem _
     have := List.all_eq_true.1 hasc _ hm
     change (v.toArray[i]'(by simpa [ByteArray.size] using hi)).toNat < 128
     simpa using this)
    clear hv hx hy hz hasc hlen
    replace k34 := gz k34
    replace k91 := gz k91
    replace k40 := gz k40
    have c0 := R1.out.c0
    go_wp2_with fail
    refine (ab.quotedR HQ.out w1).mono ?_
    rintro ee w2 ⟨rfl, hb2⟩
    have R2 := gz (R1.out.below hb2)
    have RC2 := gz (RC1.out.below hb2)
    have G2 := gz (G1.out.below hb2)
    have S2 := gz (Nat.le_trans S1.out hb2.size)
    clear hb2 R1 RC1 G1 c0 c1 HQ S1
    go_wp2_with fail
    have bx := ak (Below.refl w2.heap.size w2) (.cells #[.int .i64 0, .int .i64 0] 42)
    have R3 := gz (R2.out.below bx)
    have RC3 := gz (RC2.out.below bx)
    have G3 := gz (G2.out.below bx)
    have S3 := gz (Nat.le_trans S2.out bx.size)
    clear R2 RC2 G2 S2
    generalize (w2.alloc (.cells #[.int .i64 0, .int .i64 0] 42)) = X3 at R3 RC3 G3 S3 ⊢
    clear bx
    refine (ab.runesR HAsc.out (by have := HLen.out; simpa [ByteArray.size] using (by omega : v.length < 1000000000)) X3).mono ?_
    rintro ee w4 ⟨v4, rfl, hr4, hb4⟩
    obtain ⟨A4, d4, rfl⟩ := Kd.R_slice hr4
    have R4 := gz (R3.out.below hb4)
    have RC4 := gz (RC3.out.below hb4)
    have G4 := gz (G3.out.below hb4)
    have S4 := gz (Nat.le_trans S3.out hb4.size)
    have hln : (ab.runeRow (ByteArray.mk v.toArray).data.toList).length = v.length := by simp [ab.runeRow]
    rw [hln] at hr4 ⊢
    have V4 := gz (show (Kd.raw 1).R 21 w4 X3.heap.size (fun _ => True) (.slice A4 v.length d4) (ab.runeRow v) from hr4)
    have hgX := gz (show g < X3.heap.size from by have := hgw.out; have := S3.out; omega)
    have S34 := gz hb4.size
    clear hr4 hb4 R3 RC3 G3 hln
    go_wp2_with fail
    have bx := ak (Below.refl w4.heap.size w4) (.cells #[.int .i64 0, .int .i64 0] 42)
    have R5 := gz (R4.out.below bx)
    have RC5 := gz (RC4.out.below bx)
    have G5 := gz (G4.out.below bx)
    have S5 := gz (Nat.le_trans S4.out bx.size)
    have V5 := gz (Kd.R_mono (Kd.R_step (Kd.raw_tight V4.out) (fun k hk hlt => bx.block k hlt)) (fun _ _ => trivial))
    generalize (w4.alloc (.cells #[.int .i64 0, .int .i64 0] 42)) = X5 at R5 RC5 G5 S5 V5 ⊢
    clear bx R4 RC4 G4 V4 S34
    refine (ab.takeR g s a1 e op (wrap64 (n - a1)) X5 R5.out).mono ?_
    rintro ee w6 ⟨rfl, hr6, hg6⟩
    have R6 := gz hr6
    have RC6 := gz (RC5.out.gb hg6 Z11)
    have G6 := gz (G5.out.trans hg6)
    have S6 := gz (Nat.le_trans S5.out hg6.size)
    have V6 := gz (show (Kd.raw 1).R 21 w6 X3.heap.size (fun _ => True) (.slice A4 v.length d4) (ab.runeRow v) from Kd.R_mono (Kd.R_step (Kd.raw_tight V5.out) (fun k hk hlt => hg6.block k hlt (fun e => by cases e; have := Kd.R_base V5.out _ hk.symm; have := hgX.out; omega))) (fun _ _ => trivial))
    clear hr6 hg6 R5 RC5 G5 V5 S5
    go_wp2
    go_loopg [14, 16, 102] v.length (fun gk v14 v16 v102 wr => ∃ i : Nat, i ≤ v.length ∧ v.length - i ≤ gk ∧ v102 = .int .i64 (i : Int) ∧ aa (Kd.N k25 25 wr w6.heap.size (fun k => w6.heap.size ≤ k) v14 (ab.singles (v.take i))) ∧ aa (Below w6.heap.size w6 wr))
    case atStart => exact ⟨0, Nat.zero_le _, Z8, rfl, ⟨Kd.N_nil _ _ _ _ _⟩, ⟨Below.refl _ _⟩⟩
    case round =>
     obtain ⟨i, hi, hgk, rfl, HN, HW⟩ := hrel
     by_cases hlt : i < v.length
     ·have d1' : decide ((i : Int) < (v.length : Int)) = true := decide_eq_true Z8
      have V7 := Kd.R_mono (Kd.R_step (Kd.raw_tight V6.out) (fun k hk hlt => HW.out.block k hlt)) (ok' := fun _ => True) (fun _ _ => trivial)
      have hrl : (ab.runeRow v).length = v.length := by simp [ab.runeRow]
      obtain ⟨g5, cap, e5, _, _, _⟩ := Kd.R_form V7 Z8
      injection e5 with e51 e52 e53
      subst e51 e53
      obtain ⟨cs, hcl, hM, hcc, _⟩ := Kd.R_elem V7 [] (i : Int) Z8 Z8
      simp only [Int.toNat_natCast] at hM hcc
      obtain ⟨bb, hbb⟩ : ∃ bb : UInt8, v[i]'hlt = bb := ⟨_, rfl⟩
      have hcs : cs = [.int .i32 (bb.toNat : Int)] := by
       rw [hM.1, List.getD_eq_getElem?_getD]
       simp [ab.runeRow, hlt, hbb]
      subst hcs
      have p0 := hcc 0 _ rfl
      have HL := gz (show ab.singles (v.take (i + 1)) = ab.singles (v.take i) ++ [⟨2, [⟨(bb.toNat : Int), (bb.toNat : Int)⟩], []⟩] from by
       rw [List.take_succ_eq_append_getElem hlt, hbb]
       simp [ab.singles])
      obtain ⟨x, hx⟩ : ∃ x : Int, (bb.toNat : Int) = x := ⟨_, rfl⟩
      rw [hx] at p0 HL
      clear V7 hcl hM hcc hx hbb e52 hrl
      have z0' : (0 : Int) ≤ (i : Int) := by omega
      have z1' : (i : Int) < (v.length : Int) := by omega
      have hw1 := gz (show wrap64 ((i : Int) + 1) = ((i + 1 : Nat) : Int) from by unfold wrap64; have := HLen.out; omega)
      have p0 : wr.cell? ⟨g5, i, none⟩ = some (.int .i32 x) := by simpa [Kd.raw] using p0
      go_wp2_with fail
      have V8 := gz (ab.lit1 k51 wr (⟨x, x⟩ : S51) [.int .i32 x, .int .i32 x] 51 0 (fun _ => False) (k51_mkF wr _ (⟨x, x⟩ : S51)) (fun k hk => hk.elim))
      have bx := ak (Below.refl wr.heap.size wr) (.cells #[.int .i32 x, .int .i32 x] 51)
      have HN8 := gz (Kd.N_below HN.out bx)
      have HW8 := gz (ai HW.out bx)
      have S8 := gz (show wr.heap.size ≤ (wr.alloc (.cells #[.int .i32 x, .int .i32 x] 51)).heap.size from bx.size)
      clear bx
      refine (cT.calls (fun k => False ∨ k = wr.heap.size) _ 1 [⟨x, x⟩] 2 [⟨x, x⟩] [] _ V8.out rfl).mono ?_
      rintro ee w8 ⟨v1, v2, rfl, h1, h2, hb8⟩
      obtain ⟨B1, y1, rfl, n1, f1⟩ := h1
      obtain ⟨B2, y2, rfl, n2, f2⟩ := h2
      have FX := gz (show Kd.FK k25 w8 (fun k => wr.heap.size ≤ k) ⟨2, [⟨x, x⟩], []⟩ [.int .i64 2, .slice B1 1 y1, .slice B2 0 y2] from bP w8 _ ⟨2, [⟨x, x⟩], []⟩ n1 (Kd.F_mono f1 (fun k hk => by have := S8.out; rcases hk with (hk | hk) | hk; exact hk.elim; all_goals omega)) n2 (Kd.F_mono f2 (fun k hk => by have := S8.out; rcases hk with (hk | hk) | hk; exact hk.elim; all_goals omega)))
      have HN9 := gz (Kd.N_below HN8.out hb8)
      have HW9 := gz (ai HW8.out hb8)
      have HOKP := gz (show ∀ k, wr.heap.size ≤ k → w6.heap.size ≤ k ∧ some k ≠ u14.ownBlock from fun k hk => ⟨Nat.le_trans HW.out.size hk, fun e => by have := Kd.N_lt HN.out k e.symm; omega⟩)
      clear n1 f1 n2 f2 hb8 HN8 HW8 V8
      go_wp2_with (first | ((with_reducible refine aK (b := .append) (xs := #[.tmp 106, .tmp 112]) rfl ?_); at_builtin; refine Kd.N_append k25 (w0 := w6) w6.heap.size rfl (.tmp 106) (.tmp 112) 23 25 (.agg #[(.int .i64 0), (.slice none 0 0), (.slice none 0 0)]) 56 rfl Tryz.underlying23 fw rfl Z27 Z8 u14 (ab.singles (v.take i)) ⟨2, [⟨x, x⟩], []⟩ [.int .i64 2, .slice B1 1 y1, .slice B2 0 y2] (fun k => w6.heap.size ≤ k) (fun k => wr.heap.size ≤ k) rfl rfl FX.out HOKP.out (fun k hk => Nat.le_trans HW9.out.size hk) HN9.out HW9.out (aU HW9.out) ?aL ?_; (case aL => have := HLen.out; simp [ab.singles]; omega); intro v3 w9 hr hb hg9 hat))
      rw [← HL.out] at hr
      go_roundg (v.length - (i + 1))
      case measure => omega
      case rel => exact ⟨i + 1, Z8, Nat.le_refl _, by rw [hw1.out], ⟨hr⟩, ⟨hb⟩⟩
     ·have d1' : decide ((i : Int) < (v.length : Int)) = false := decide_eq_false Z8
      have ei : v.take i = v := List.take_of_length_le Z8
      rw [ei] at HN
      obtain ⟨A7, d7, h7⟩ := Kd.N_slice HN.out
      subst h7
      have R7 := gz (R6.out.below HW.out)
      have RC7 := gz (RC6.out.below HW.out)
      have G7 := gz (G6.out.below HW.out)
      have HVN := gz (show Kd.V k25 25 wr wr.heap.size (fun k => w6.heap.size ≤ k) (.slice A7 (ab.singles v).length d7) (ab.singles v) from Kd.N_V HN.out)
      clear ei HN R6 RC6 G6 V6
      go_wp2_with fail
      refine (cq.calls k (fun k => w6.heap.size ≤ k) A7 d7 (ab.singles v) x0 x1 x2 wr HVN.out HX.out).mono ?_
      rintro ee w9 ⟨v1, v2, rfl, h1, h2, hb9⟩
      obtain ⟨B1, y1, rfl, n1, f1⟩ := h1
      obtain ⟨B2, y2, rfl, n2, f2⟩ := h2
      have FX := gz (show Kd.FK k25 w9 (fun k => w6.heap.size ≤ k) ⟨x0, x1, x2⟩ [.int .i64 x0, .slice B1 x1.length y1, .slice B2 x2.length y2] from bP w9 _ ⟨x0, x1, x2⟩ n1 (Kd.F_mono f1 (fun k hk => by have := HW.out.size; rcases hk with hk | hk <;> omega)) n2 (Kd.F_mono f2 (fun k hk => by have := HW.out.size; rcases hk with hk | hk <;> omega)))
      have R9 := gz (R7.out.below hb9)
      have RC9 := gz (RC7.out.below hb9)
      have G9 := gz (G7.out.below hb9)
      have S9 := gz (Nat.le_trans HW.out.size hb9.size)
      clear n1 f1 n2 f2 hb9 R7 RC7 G7 HVN
      go_wp2_with fail
      refine (ab.madeR ⟨x0, x1, x2⟩ B1 y1 B2 y2 _ w9 (fun k => w6.heap.size ≤ k) HZ.out FX.out).mono ?_
      rintro ee w10 ⟨rfl, hf10, hb10⟩
      have Rf := gz (R9.out.below hb10)
      have RCf := gz (RC9.out.below hb10)
      have Gf := gz (G9.out.below hb10)
      have FXf := gz (show Kd.FK k25 w10 (fun k => w.heap.size + 1 ≤ k) ⟨x0, x1, x2⟩ [.int .i64 x0, .slice B1 x1.length y1, .slice B2 x2.length y2] from Kd.FK_mono hf10 (fun k hk => Nat.le_trans S6.out hk.1))
      clear hf10 hb10 R9 RC9 G9 FX
      have s0 := (ah RCf.out 0).trans rfl
      have s1 := (ah RCf.out 1).trans rfl
      have s2 := (ah RCf.out 2).trans rfl
      have e0 := ag RCf.out 0
      have e1 := ag RCf.out 1
      have e2 := ag RCf.out 2
      go_wp2
      obtain ⟨u1, u2⟩ := ab.TV.fin (t := ⟨x0, x1, x2⟩) (m := w.heap.size) RCf.out FXf.out (Nat.lt_succ_self _)
      refine bodyPost_ret (bq rfl (.cell w.heap.size 25 _ (0, 0) _ rfl u1 Tryz.underlying25 rfl Z5 .nil)) rfl ?_
      exact ⟨_, rfl, ab.TV.mono u2 (Nat.le_succ _), Rf.out.set3 Z11 _ _ _, Gf.out.set3 (Nat.le_refl _) _ _ _⟩
   ·have b34 : (c == 34) = false := beq_eq_false_iff_ne.mpr k34
    rw [if_neg k34] at h
    by_cases k46 : c = 46
    ·have b46 : (c == 46) = true := beq_iff_eq.mpr k46
     rw [if_pos k46] at h
     simp only [Option.some.injEq, Prod.mk.injEq] at h
     obtain ⟨rfl, rfl, rfl⟩ := h
     replace k46 := gz k46
     replace k34 := gz k34
     replace k91 := gz k91
     replace k40 := gz k40
     go_wp2_with fail
     refine (ab.takeR g s a1 e op 1 w1 R1.out).mono ?_
     rintro ee w4 ⟨rfl, hr4, hg4⟩
     have R4 := gz hr4
     have RC4 := gz (RC1.out.gb hg4 Z11)
     have G4 := gz (G1.out.trans hg4)
     have S4 := gz (Nat.le_trans S1.out hg4.size)
     clear hr4 hg4 R1 RC1 G1
     go_wp2_with fail
     have bx := ak (Below.refl w4.heap.size w4) (.cells #[.int .i32 0, .int .i32 1114111] 51)
     have R5 := gz (R4.out.below bx)
     have RC5 := gz (RC4.out.below bx)
     have G5 := gz (G4.out.below bx)
     have V5 := gz (ab.lit1 k51 w4 (⟨0, 1114111⟩ : S51) [.int .i32 0, .int .i32 1114111] 51 0 (fun _ => False) (k51_mkF w4 _ (⟨0, 1114111⟩ : S51)) (fun k hk => hk.elim))
     have S5 := gz (Nat.le_trans S4.out bx.size)
     clear R4 RC4 G4
     refine (cT.calls (fun k => False ∨ k = w4.heap.size) _ 1 [⟨0, 1114111⟩] 2 [⟨0, 1114111⟩] [] _ V5.out rfl).mono ?_
     rintro ee w5 ⟨v1, v2, rfl, h1, h2, hb5⟩
     have Rf := gz (R5.out.below hb5)
     have RCf := gz (RC5.out.below hb5)
     have Gf := gz (G5.out.below hb5)
     obtain ⟨B1, y1, rfl, n1, f1⟩ := h1
     obtain ⟨B2, y2, rfl, n2, f2⟩ := h2
     have FXf := gz (show Kd.FK k25 w5 (fun k => w.heap.size + 1 ≤ k) ⟨2, [⟨0, 1114111⟩], []⟩ [.int .i64 2, .slice B1 1 y1, .slice B2 0 y2] from bP w5 _ ⟨2, [⟨0, 1114111⟩], []⟩ n1 (Kd.F_mono f1 (fun k hk => by have := S5.out; have := S4.out; rcases hk with (hk | hk) | hk; exact hk.elim; all_goals omega)) n2 (Kd.F_mono f2 (fun k hk => by have := S5.out; have := S4.out; rcases hk with (hk | hk) | hk; exact hk.elim; all_goals omega)))
     clear hb5 n1 f1 n2 f2 R5 RC5 G5 V5
     have s0 := (ah RCf.out 0).trans rfl
     have s1 := (ah RCf.out 1).trans rfl
     have s2 := (ah RCf.out 2).trans rfl
     have e0 := ag RCf.out 0
     have e1 := ag RCf.out 1
     have e2 := ag RCf.out 2
     go_wp2
     obtain ⟨u1, u2⟩ := ab.TV.fin (t := ⟨2, [⟨0, 1114111⟩], []⟩) (m := w.heap.size) RCf.out FXf.out (Nat.lt_succ_self _)
     refine bodyPost_ret (bq rfl (.cell w.heap.size 25 _ (0, 0) _ rfl u1 Tryz.underlying25 rfl Z5 .nil)) rfl ?_
     exact ⟨_, rfl, ab.TV.mono u2 (Nat.le_succ _), Rf.out.set3 Z11 _ _ _, Gf.out.set3 (Nat.le_refl _) _ _ _⟩
    ·rw [if_neg k46] at h
     cases h
theorem ab.preR {k : Nat} {s : ByteArray} {pre post : ab.PF} (HA : ab.RCall s 104 pre) (HB : ab.RCall s 114 post) : ab.RCall s 104 (ab.preF k s pre post) := by
 intro g a e op x a2 e2 w hR h
 have HR0 := gz (hR.below (ak (Below.refl _ _) (.cells #[.int .i64 0, .slice none 0 0, .slice none 0 0] 25)))
 have hgw := gz hR.lt
 unfold ab.preF at h
 obtain ⟨⟨c, a1⟩, hp, h⟩ := Option.bind_eq_some_iff.mp h
 have HP := gz hp
 dsimp only at h
 clear hp hR
 go_enter Tryz.func104, Tryz.ntmps104
 have RC0 := gz (ab.RC.new w)
 have G0 := gz (ab.GB.of (ak (Below.refl w.heap.size w) (.cells #[.int .i64 0, .slice none 0 0, .slice none 0 0] 25)) g)
 have S0 := gz (show w.heap.size + 1 ≤ (w.alloc (.cells #[.int .i64 0, .slice none 0 0, .slice none 0 0] 25)).heap.size from Nat.le_of_eq (bL _ _).symm)
 go_upto_region 1 with (fail)
 generalize (w.alloc (.cells #[.int .i64 0, .slice none 0 0, .slice none 0 0] 25)) = X at HR0 RC0 G0 S0 ⊢
 go_wp2_with fail
 refine (ab.peekR HP.out g e op X HR0.out).mono ?_
 rintro ee w1 ⟨rfl, hr1, hg1⟩
 have R1 := gz hr1
 have RC1 := gz (RC0.out.gb hg1 Z11)
 have G1 := gz (G0.out.trans hg1)
 have S1 := gz (Nat.le_trans S0.out hg1.size)
 clear hr1 hg1 RC0 G0 S0 HR0 HP
 by_cases k33 : c = 33
 ·have b33 : (c != 33) = false := bne_eq_false_iff_eq.mpr k33
  rw [if_pos k33] at h
  obtain ⟨⟨o0, o1⟩, h⟩ := ab.ite_some h
  obtain ⟨⟨⟨x0, x1, x2⟩, a3, e3⟩, hx, h⟩ := Option.bind_eq_some_iff.mp h
  obtain ⟨⟨y0, y1, y2⟩, hy, h⟩ := Option.bind_eq_some_iff.mp h
  obtain ⟨z, hz0, h⟩ := Option.bind_eq_some_iff.mp h
  obtain ⟨rfl, hz⟩ := ab.szd_some hz0
  dsimp only [ab.mk25] at h hz hy hx
  simp only [Option.some.injEq, Prod.mk.injEq] at h
  obtain ⟨rfl, rfl, rfl⟩ := h
  have HX := gz hx
  have HY := gz hy
  have HZ := gz hz
  have O0 := gz o0
  have O1 := gz o1
  clear hx hy hz o0 o1
  replace k33 := gz k33
  go_wp2_with fail
  refine (ab.enterR g s a1 e op w1 R1.out O0.out O1.out).mono ?_
  rintro ee w2 ⟨rfl, hr2, hg2⟩
  have R2 := gz hr2
  have RC2 := gz (RC1.out.gb hg2 Z11)
  have G2 := gz (G1.out.trans hg2)
  have S2 := gz (Nat.le_trans S1.out hg2.size)
  clear hr2 hg2 R1 RC1 G1
  go_wp2_with fail
  refine (ab.takeR g s a1 e (op + 1) 1 w2 R2.out).mono ?_
  rintro ee w3 ⟨rfl, hr3, hg3⟩
  have R3 := gz hr3
  have RC3 := gz (RC2.out.gb hg3 Z11)
  have G3 := gz (G2.out.trans hg3)
  have S3 := gz (Nat.le_trans S2.out hg3.size)
  clear hr3 hg3 R2 RC2 G2
  go_wp2_with fail
  refine (HA g (wrap64 (a1 + 1)) (wrap64 (a1 + 1)) (op + 1) ⟨x0, x1, x2⟩ a3 e3 w3 R3.out HX.out).mono ?_
  rintro ee w4 ⟨vv, rfl, ⟨B1, z1, B2, z2, rfl, hf4⟩, hr4, hg4⟩
  have R4 := gz hr4
  have RC4 := gz (RC3.out.gb hg4 Z11)
  have G4 := gz (G3.out.trans hg4)
  have S4 := gz (Nat.le_trans S3.out hg4.size)
  have F4 := gz (show Kd.FK k25 w4 (fun k => w.heap.size + 1 ≤ k) ⟨x0, x1, x2⟩ [.int .i64 x0, .slice B1 x1.length z1, .slice B2 x2.length z2] from Kd.FK_mono hf4 (fun k hk => Nat.le_trans S3.out hk))
  clear hr4 hg4 hf4 R3 RC3 G3 HX
  have V4 := gz (ab.FK.V F4.out w4.heap.size)
  go_wp2_with fail
  refine (fh.calls x0 _ B1 z1 x1 _ B2 z2 x2 y0 y1 y2 w4 V4.out.1 V4.out.2 HY.out).mono ?_
  rintro ee w5 ⟨v1, v2, rfl, h1, h2, hb5⟩
  obtain ⟨C1, u1, rfl, n1, f1⟩ := h1
  obtain ⟨C2, u2, rfl, n2, f2⟩ := h2
  have F5 := gz (show Kd.FK k25 w5 (fun k => w.heap.size + 1 ≤ k) ⟨y0, y1, y2⟩ [.int .i64 y0, .slice C1 y1.length u1, .slice C2 y2.length u2] from bP w5 _ ⟨y0, y1, y2⟩ n1 (Kd.F_mono f1 (fun k hk => by have := S4.out; rcases hk with (hk | hk) | hk <;> omega)) n2 (Kd.F_mono f2 (fun k hk => by have := S4.out; rcases hk with (hk | hk) | hk <;> omega)))
  have R5 := gz (R4.out.below hb5)
  have RC5 := gz (RC4.out.below hb5)
  have G5 := gz (G4.out.below hb5)
  have S5 := gz (Nat.le_trans S4.out hb5.size)
  clear n1 f1 n2 f2 hb5 R4 RC4 G4 F4 V4
  have c3 := R5.out.c3
  have f3 := ag R5.out 3
  have hw : wrap64 (op + 1 - 1) = op := by have := O0.out; have := O1.out; unfold wrap64; omega
  have hw' : wrap64 op = op := by have := O0.out; have := O1.out; unfold wrap64; omega
  have hop : op + 1 - 1 = op := by omega
  have bx := ak (Below.refl w5.heap.size w5) (.cells #[.int .i64 y0, .slice C1 y1.length u1, .slice C2 y2.length u2] 25)
  have R6 := gz (R5.out.below bx)
  have RC6 := gz (RC5.out.below bx)
  have G6 := gz (G5.out.below bx)
  have F6 := gz (Kd.FK_below F5.out bx)
  have N6 := gz (a8 w5 (.cells #[.int .i64 y0, .slice C1 y1.length u1, .slice C2 y2.length u2] 25))
  clear R5 RC5 G5 F5 bx
  go_upto_region 6 with (fail)
  generalize (w5.alloc (.cells #[.int .i64 y0, .slice C1 y1.length u1, .slice C2 y2.length u2] 25)) = w6 at R6 RC6 G6 F6 N6 ⊢
  clear c3 f3
  have c3 := R6.out.c3
  have f3 := ag R6.out 3
  go_upto_region 7 with (fail)
  have R7 := gz (show ab.RS (w6.setCell ⟨g, 3, none⟩ (.int .i64 op)) g s a3 e3 op from bG R6.out 3 _ rfl)
  have RC7 := gz (show ab.RC (w6.setCell ⟨g, 3, none⟩ (.int .i64 op)) w.heap.size from (Below.heap_setCell w6 ⟨g, 3, none⟩ _ w.heap.size (by have := hgw.out; show w.heap.size ≠ g; omega)).trans RC6.out)
  have G7 := gz (G6.out.set 3 (.int .i64 op))
  have F7 := gz (Kd.FK_step F6.out (W1 := w6.setCell ⟨g, 3, none⟩ (.int .i64 op)) (fun k hk hlt => Below.heap_setCell w6 ⟨g, 3, none⟩ _ k (by have := hgw.out; show k ≠ g; omega)))
  have N7 := gz ((Below.heap_setCell w6 ⟨g, 3, none⟩ (.int .i64 op) w5.heap.size (by have := hgw.out; have := S5.out; show w5.heap.size ≠ g; omega)).trans N6.out)
  clear R6 RC6 G6 F6 N6 c3 f3 hw hw' hop
  generalize w6.setCell ⟨g, 3, none⟩ (.int .i64 op) = w7 at R7 RC7 G7 F7 N7 ⊢
  have q0 := (ah N7.out 0).trans rfl
  have q1 := (ah N7.out 1).trans rfl
  have q2 := (ah N7.out 2).trans rfl
  go_wp2_with fail
  refine (ab.madeR ⟨y0, y1, y2⟩ C1 u1 C2 u2 _ w7 (fun k => w.heap.size + 1 ≤ k) HZ.out F7.out).mono ?_
  rintro ee w8 ⟨rfl, hf8, hb8⟩
  have Rf := gz (R7.out.below hb8)
  have RCf := gz (RC7.out.below hb8)
  have Gf := gz (G7.out.below hb8)
  have FXf := gz (Kd.FK_mono hf8 (ok' := fun k => w.heap.size + 1 ≤ k) (fun k hk => hk.1))
  clear hf8 hb8 R7 RC7 G7 F7 q0 q1 q2 N7
  have s0 := (ah RCf.out 0).trans rfl
  have s1 := (ah RCf.out 1).trans rfl
  have s2 := (ah RCf.out 2).trans rfl
  have e0 := ag RCf.out 0
  have e1 := ag RCf.out 1
  have e2 := ag RCf.out 2
  go_wp2
  obtain ⟨u1, u2⟩ := ab.TV.fin (t := ⟨y0, y1, y2⟩) (m := w.heap.size) RCf.out FXf.out (Nat.lt_succ_self _)
  refine bodyPost_ret (bq rfl (.cell w.heap.size 25 _ (0, 0) _ rfl u1 Tryz.underlying25 rfl Z5 .nil)) rfl ?_
  exact ⟨_, rfl, ab.TV.mono u2 (Nat.le_succ _), Rf.out.set3 Z11 _ _ _, Gf.out.set3 (Nat.le_refl _) _ _ _⟩
 ·have b33 : (c != 33) = true := bne_iff_ne.mpr k33
  rw [if_neg k33] at h
  obtain ⟨x0, x1, x2⟩ := x
  have HX := gz h
  clear h
  replace k33 := gz k33
  go_wp2_with fail
  refine (HB g a1 e op ⟨x0, x1, x2⟩ a2 e2 w1 R1.out HX.out).mono ?_
  rintro ee w4 ⟨vv, rfl, ⟨B1, z1, B2, z2, rfl, hf4⟩, hr4, hg4⟩
  have Rf := gz hr4
  have RCf := gz (RC1.out.gb hg4 Z11)
  have Gf := gz (G1.out.trans hg4)
  have FXf := gz (show Kd.FK k25 w4 (fun k => w.heap.size + 1 ≤ k) ⟨x0, x1, x2⟩ [.int .i64 x0, .slice B1 x1.length z1, .slice B2 x2.length z2] from Kd.FK_mono hf4 (fun k hk => Nat.le_trans S1.out hk))
  clear hr4 hg4 hf4 R1 RC1 G1 HX
  have s0 := (ah RCf.out 0).trans rfl
  have s1 := (ah RCf.out 1).trans rfl
  have s2 := (ah RCf.out 2).trans rfl
  have e0 := ag RCf.out 0
  have e1 := ag RCf.out 1
  have e2 := ag RCf.out 2
  go_wp2
  obtain ⟨u1, u2⟩ := ab.TV.fin (t := ⟨x0, x1, x2⟩) (m := w.heap.size) RCf.out FXf.out (Nat.lt_succ_self _)
  refine bodyPost_ret (bq rfl (.cell w.heap.size 25 _ (0, 0) _ rfl u1 Tryz.underlying25 rfl Z5 .nil)) rfl ?_
  exact ⟨_, rfl, ab.TV.mono u2 (Nat.le_succ _), Rf.out.set3 Z11 _ _ _, Gf.out.set3 (Nat.le_refl _) _ _ _⟩
theorem ab.postR {k : Nat} {s : ByteArray} {atom : ab.PF} (HA : ab.RCall s 130 atom) : ab.RCall s 114 (ab.postF k s atom) := by
 intro g a e op x a2 e2 w hR h
 have HR0 := gz (hR.below (ak (Below.refl _ _) (.cells #[.int .i64 0, .slice none 0 0, .slice none 0 0] 25)))
 have hgw := gz hR.lt
 unfold ab.postF at h
 obtain ⟨⟨⟨x0, x1, x2⟩, a1, e1⟩, hx, h⟩ := Option.bind_eq_some_iff.mp h
 have HX := gz hx
 have HL := gz (show ab.postL k s k ⟨x0, x1, x2⟩ a1 e1 = some (x, a2, e2) from h)
 clear hx h hR
 go_enter Tryz.func114, Tryz.ntmps114
 have RC0 := gz (ab.RC.new w)
 have G0 := gz (ab.GB.of (ak (Below.refl w.heap.size w) (.cells #[.int .i64 0, .slice none 0 0, .slice none 0 0] 25)) g)
 have S0 := gz (show w.heap.size + 1 ≤ (w.alloc (.cells #[.int .i64 0, .slice none 0 0, .slice none 0 0] 25)).heap.size from Nat.le_of_eq (bL _ _).symm)
 go_upto_region 1 with (fail)
 generalize (w.alloc (.cells #[.int .i64 0, .slice none 0 0, .slice none 0 0] 25)) = X at HR0 RC0 G0 S0 ⊢
 go_wp2_with fail
 refine (HA g a e op ⟨x0, x1, x2⟩ a1 e1 X HR0.out HX.out).mono ?_
 rintro ee w4 ⟨vv, rfl, ⟨B1, z1, B2, z2, rfl, hf4⟩, hr4, hg4⟩
 have bx := ak (Below.refl w4.heap.size w4) (.cells #[.int .i64 x0, .slice B1 x1.length z1, .slice B2 x2.length z2] 25)
 have R5 := gz (ab.RS.below hr4 bx)
 have RC5 := gz (ab.RC.below (RC0.out.gb hg4 Z11) bx)
 have G5 := gz (ab.GB.below (G0.out.trans hg4) bx)
 have S4 := gz (Nat.le_trans S0.out hg4.size)
 have F5 := gz (show Kd.FK k25 (w4.alloc (.cells #[.int .i64 x0, .slice B1 x1.length z1, .slice B2 x2.length z2] 25)) (fun k => w.heap.size + 1 ≤ k ∧ k ≠ w4.heap.size) ⟨x0, x1, x2⟩ [.int .i64 x0, .slice B1 x1.length z1, .slice B2 x2.length z2] from Kd.FK_mono (Kd.FK_below (Kd.FK_bound hf4) bx) (fun k hk => ⟨Nat.le_trans S0.out hk.1, Z29⟩))
 have N5 := gz (a8 w4 (.cells #[.int .i64 x0, .slice B1 x1.length z1, .slice B2 x2.length z2] 25))
 clear hr4 hg4 hf4 RC0 G0 HR0 HX bx
 go_wp2
 go_loopg [4, 5, 6, 7] k (fun gk v4 v5 v6 v7 wr => ∃ (t : S25) (ar er : Int) (C1 : Option Addr) (u1 : Nat) (C2 : Option Addr) (u2 : Nat), aa (ab.postL k s gk t ar er = some (x, a2, e2)) ∧ aa (ab.RS wr g s ar er op) ∧ aa (ab.RC wr w.heap.size) ∧ aa (ab.GB w wr g) ∧ aa (Kd.FK k25 wr (fun k => w.heap.size + 1 ≤ k ∧ k ≠ w4.heap.size) t [.int .i64 t.f0, .slice C1 t.f1.length u1, .slice C2 t.f2.length u2]) ∧ aa (wr.heap[w4.heap.size]? = some (.cells #[.int .i64 t.f0, .slice C1 t.f1.length u1, .slice C2 t.f2.length u2] 25 (0, 0))))
 case atStart => exact ⟨⟨x0, x1, x2⟩, a1, e1, B1, z1, B2, z2, HL, R5, RC5, G5, F5, N5⟩
 case round =>
  clear HL R5 RC5 G5 F5 N5
  obtain ⟨⟨t0, t1, t2⟩, ar, er, C1, u1, C2, u2, HL, R, RC0, G, F, N⟩ := hrel
  dsimp only at F N
  cases gk with
  | zero => exact absurd HL.out (by simp [ab.postL])
  | succ gk =>
   have h0 := HL.out
   rw [ab.postL] at h0
   obtain ⟨⟨c, a3⟩, hp, hh⟩ := Option.bind_eq_some_iff.mp h0
   have HP := gz hp
   dsimp only at hh
   have HH := gz hh
   clear hp HL hh h0
   go_wp2_with fail
   refine (ab.peekR HP.out g er op wr R.out).mono ?_
   rintro ee w1 ⟨rfl, hr1, hg1⟩
   have R1 := gz hr1
   have RC1 := gz (RC0.out.gb hg1 Z11)
   have G1 := gz (G.out.trans hg1)
   have F1 := gz (Kd.FK_step F.out (fun k hk hlt => hg1.block k hlt (fun e => by cases e; have := hgw.out; omega)))
   have N1 := gz ((hg1.block w4.heap.size (bB N.out) (fun e => by have := Option.some.inj e; have := hgw.out; have := S4.out; omega)).trans N.out)
   clear hr1 hg1 R RC0 G F N HP
   have c1 := R1.out.c1
   have h := HH.out
   clear HH
   by_cases k42 : c = 42
   ·have b42 : (c == 42) = true := beq_iff_eq.mpr k42
    rw [if_pos k42] at h
    obtain ⟨⟨y0, y1, y2⟩, hy, h⟩ := Option.bind_eq_some_iff.mp h
    obtain ⟨z, hz0, h⟩ := Option.bind_eq_some_iff.mp h
    obtain ⟨rfl, hz⟩ := ab.szd_some hz0
    dsimp only [ab.mk25] at h hz hy
    have HY := gz hy
    have HZ := gz hz
    have HL := gz h
    clear hy hz hz0 h
    replace k42 := gz k42
    go_wp2_with fail
    refine (ab.takeR g s a3 er op 1 w1 R1.out).mono ?_
    rintro ee w2 ⟨rfl, hr2, hg2⟩
    have R2 := gz hr2
    have RC2 := gz (RC1.out.gb hg2 Z11)
    have G2 := gz (G1.out.trans hg2)
    have F2 := gz (Kd.FK_step F1.out (fun k hk hlt => hg2.block k hlt (fun e => by cases e; have := hgw.out; omega)))
    have N2 := gz ((hg2.block w4.heap.size (bB N1.out) (fun e => by have := Option.some.inj e; have := hgw.out; have := S4.out; omega)).trans N1.out)
    clear hr2 hg2 R1 RC1 G1 F1 N1 c1
    have q0 := (ah N2.out 0).trans rfl
    have q1 := (ah N2.out 1).trans rfl
    have q2 := (ah N2.out 2).trans rfl
    have V2 := gz (ab.FK.V F2.out w2.heap.size)
    go_wp2_with fail
    refine (dV.calls t0 _ C1 u1 t1 _ C2 u2 t2 y0 y1 y2 w2 V2.out.1 V2.out.2 HY.out).mono ?_
    rintro ee w3 ⟨v1, v2, rfl, h1, h2, hb3⟩
    obtain ⟨D1, d1, rfl, n1, f1⟩ := h1
    obtain ⟨D2, d2, rfl, n2, f2⟩ := h2
    have hbl := bB N2.out
    have hlo : w.heap.size + 1 ≤ w4.heap.size := S4.out
    have F3 := gz (show Kd.FK k25 w3 (fun k => w.heap.size + 1 ≤ k ∧ k ≠ w4.heap.size) ⟨y0, y1, y2⟩ [.int .i64 y0, .slice D1 y1.length d1, .slice D2 y2.length d2] from bP w3 _ ⟨y0, y1, y2⟩ n1 (Kd.F_mono f1 (fun k hk => by rcases hk with (hk | hk) | hk; exact hk; exact hk; exact ⟨Z8, Z8⟩)) n2 (Kd.F_mono f2 (fun k hk => by rcases hk with (hk | hk) | hk; exact hk; exact hk; exact ⟨Z8, Z8⟩)))
    have R3 := gz (R2.out.below hb3)
    have RC3 := gz (RC2.out.below hb3)
    have G3 := gz (G2.out.below hb3)
    have N3 := gz (ao N2.out hb3)
    clear n1 f1 n2 f2 hb3 R2 RC2 G2 F2 N2 V2 q0 q1 q2 hbl hlo
    go_wp2_with fail
    refine (ab.madeR ⟨y0, y1, y2⟩ D1 d1 D2 d2 _ w3 (fun k => w.heap.size + 1 ≤ k ∧ k ≠ w4.heap.size) HZ.out F3.out).mono ?_
    rintro ee w5 ⟨rfl, hf5, hb5⟩
    have R5 := gz (R3.out.below hb5)
    have RC5 := gz (RC3.out.below hb5)
    have G5 := gz (G3.out.below hb5)
    have N5 := gz (ao N3.out hb5)
    have F5 := gz (Kd.FK_mono hf5 (ok' := fun k => w.heap.size + 1 ≤ k ∧ k ≠ w4.heap.size) (fun k hk => hk.1))
    clear hf5 hb5 R3 RC3 G3 F3 N3
    have s0 := (ah N5.out 0).trans rfl
    have s1 := (ah N5.out 1).trans rfl
    have s2 := (ah N5.out 2).trans rfl
    have e0 := ag N5.out 0
    have e1' := ag N5.out 1
    have e2' := ag N5.out 2
    go_wp2
    go_roundg gk
    case measure => omega
    case rel => exact ⟨⟨y0, y1, y2⟩, ab.nxt a3 1, ab.nxt a3 1, D1, d1, D2, d2, HL, ⟨R5.out.set3 (by have := hgw.out; have := S4.out; omega) _ _ _⟩, ⟨(ae.set3_far w5 w4.heap.size (.int .i64 y0) (.slice D1 y1.length d1) (.slice D2 y2.length d2) w.heap.size (by have := S4.out; omega)).trans RC5.out⟩, ⟨G5.out.set3 (by have := S4.out; omega) _ _ _⟩, ⟨Kd.FK_step F5.out (fun k hk _ => ae.set3_far w5 w4.heap.size (.int .i64 y0) (.slice D1 y1.length d1) (.slice D2 y2.length d2) k hk.2)⟩, ⟨ae.set3_at _ _ _ N5.out⟩⟩
   ·have b42 : (c == 42) = false := beq_eq_false_iff_ne.mpr k42
    rw [if_neg k42] at h
    have hne : ¬ (c = 43 ∨ c = 63 ∨ c = 123) := fun hc => by rw [if_pos hc] at h; cases h
    rw [if_neg hne] at h
    have b43 : (c == 43) = false := beq_eq_false_iff_ne.mpr (fun e => hne (.inl e))
    have b63 : (c == 63) = false := beq_eq_false_iff_ne.mpr (fun e => hne (.inr (.inl e)))
    have b123 : (c == 123) = false := beq_eq_false_iff_ne.mpr (fun e => hne (.inr (.inr e)))
    simp only [Option.some.injEq, Prod.mk.injEq] at h
    obtain ⟨rfl, rfl, rfl⟩ := h
    replace hne := gz hne
    replace k42 := gz k42
    have q0 := (ah N1.out 0).trans rfl
    have q1 := (ah N1.out 1).trans rfl
    have q2 := (ah N1.out 2).trans rfl
    have Rf := R1
    have RCf := RC1
    have Gf := G1
    have FXf := gz (Kd.FK_mono F1.out (ok' := fun k => w.heap.size + 1 ≤ k) (fun k hk => hk.1))
    clear R1 RC1 G1 F1
    have s0 := (ah RCf.out 0).trans rfl
    have s1 := (ah RCf.out 1).trans rfl
    have s2 := (ah RCf.out 2).trans rfl
    have f0 := ag RCf.out 0
    have f1 := ag RCf.out 1
    have f2 := ag RCf.out 2
    go_wp2
    obtain ⟨u1, u2⟩ := ab.TV.fin (t := ⟨t0, t1, t2⟩) (m := w.heap.size) RCf.out FXf.out (Nat.lt_succ_self _)
    refine bodyPost_ret (bq rfl (.cell w.heap.size 25 _ (0, 0) _ rfl u1 Tryz.underlying25 rfl Z5 .nil)) rfl ?_
    exact ⟨_, rfl, ab.TV.mono u2 (Nat.le_succ _), Rf.out.set3 Z11 _ _ _, Gf.out.set3 (Nat.le_refl _) _ _ _⟩
theorem ab.litN {α : Type} (d : Kd α) (W : World) (p : α) (cs : List Value) (e base : Nat) (ok okp : Nat → Prop) (hF : Kd.FK d W okp p cs) (hok : ∀ k, okp k → ok k ∧ k < W.heap.size) (hfresh : ok W.heap.size) (hb : base ≤ W.heap.size) : Kd.N d e (W.alloc (.cells cs.toArray e)) base ok (.slice (some ⟨W.heap.size, 0, none⟩) 1 1) [p] := by
 have hl : cs.length = d.sz := d.K_len (Kd.FK_now hF)
 refine ⟨fun k hk => ?_, [cs], rfl, ⟨fun k hk => hk.symm, cs, ⟨by simp [hl, Kd.raw], .inr ⟨W.heap.size, 1, cs.toArray, rfl, hb, a8 W _, Nat.le_refl _, Z27, by simp [hl, Kd.raw], by simp [Kd.raw, ← hl]⟩⟩, Reps.front ⟨rfl, hl, d.K_one (Kd.FK_now hF)⟩ hl (Reps.none _ _) Z24⟩, fun j x c hx hc => ?_⟩
 ·simp only [Value.ownBlock, Option.some.injEq] at hk
  subst hk
  exact hfresh
 ·rcases j with _ | j
  ·simp only [List.getElem?_cons_zero, Option.some.injEq] at hx hc
   subst hx hc
   exact Kd.FK_mono (Kd.FK_below (Kd.FK_bound hF) (ak (Below.refl _ _) _)) (fun k hk => ⟨(hok k hk.1).1, fun e => by have h1 : k = W.heap.size := Option.some.inj e; have h2 := hk.2; omega⟩)
  ·simp at hx
theorem ab.catL_pk {k : Nat} {s : ByteArray} {pre : ab.PF} {op : Int} {j : Nat} {acc L : List S25} {a e a3 e3 : Int} (h : ab.catL k s pre op j acc a e = some (L, a3, e3)) : ∃ c a', ab.pk k s a = some (c, a') := by
 cases j with
 | zero => simp [ab.catL] at h
 | succ j =>
  rw [ab.catL] at h
  obtain ⟨⟨c, a'⟩, hp, _⟩ := Option.bind_eq_some_iff.mp h
  exact ⟨c, a', hp⟩
theorem ab.rowL_pk {k : Nat} {s : ByteArray} {one : ab.PF} {sign op : Int} {j : Nat} {acc L : List S25} {a e a3 e3 : Int} (h : ab.rowL k s one sign op j acc a e = some (L, a3, e3)) : ∃ c a', ab.pk k s a = some (c, a') := by
 cases j with
 | zero => simp [ab.rowL] at h
 | succ j =>
  rw [ab.rowL] at h
  obtain ⟨⟨c, a'⟩, hp, _⟩ := Option.bind_eq_some_iff.mp h
  exact ⟨c, a', hp⟩
theorem ab.catR {k : Nat} {s : ByteArray} {pre : ab.PF} (HA : ab.RCall s 104 pre) : ab.RCall s 89 (ab.catF k s pre) := by
 intro g a e op x a2 e2 w hR h
 have HR0 := gz (hR.below (ak (Below.refl _ _) (.cells #[.int .i64 0, .slice none 0 0, .slice none 0 0] 25)))
 have hgw := gz hR.lt
 clear hR
 unfold ab.catF at h
 obtain ⟨⟨⟨x0, x1, x2⟩, a1, e1⟩, hx, h⟩ := Option.bind_eq_some_iff.mp h
 obtain ⟨⟨L, a3, e3⟩, hl, hF⟩ := Option.bind_eq_some_iff.mp h
 have HX := gz hx
 have HL := gz hl
 have HF := gz hF
 clear hx hl hF h
 go_enter Tryz.func89, Tryz.ntmps89
 have RC0 := gz (ab.RC.new w)
 have G0 := gz (ab.GB.of (ak (Below.refl w.heap.size w) (.cells #[.int .i64 0, .slice none 0 0, .slice none 0 0] 25)) g)
 have S0 := gz (show w.heap.size + 1 ≤ (w.alloc (.cells #[.int .i64 0, .slice none 0 0, .slice none 0 0] 25)).heap.size from Nat.le_of_eq (bL _ _).symm)
 go_upto_region 1 with (fail)
 generalize (w.alloc (.cells #[.int .i64 0, .slice none 0 0, .slice none 0 0] 25)) = X at HR0 RC0 G0 S0 ⊢
 go_wp2_with fail
 refine (HA g a e op ⟨x0, x1, x2⟩ a1 e1 X HR0.out HX.out).mono ?_
 rintro ee w4 ⟨vv, rfl, ⟨B1, z1, B2, z2, rfl, hf4⟩, hr4, hg4⟩
 have bx := ak (Below.refl w4.heap.size w4) (.cells #[.int .i64 x0, .slice B1 x1.length z1, .slice B2 x2.length z2] 25)
 have R5 := gz (ab.RS.below hr4 bx)
 have RC5 := gz (ab.RC.below (RC0.out.gb hg4 Z11) bx)
 have G5 := gz (ab.GB.below (G0.out.trans hg4) bx)
 have S4 := gz (Nat.le_trans S0.out hg4.size)
 have N5 := gz (ab.litN k25 w4 ⟨x0, x1, x2⟩ [.int .i64 x0, .slice B1 x1.length z1, .slice B2 x2.length z2] 25 (w.heap.size + 1) (fun k => w.heap.size + 1 ≤ k) _ (Kd.FK_bound hf4) (fun k hk => ⟨Nat.le_trans S0.out hk.1, hk.2⟩) (Nat.le_trans S0.out hg4.size) (Nat.le_trans S0.out hg4.size))
 have S5 := gz (Nat.le_trans S4.out bx.size)
 clear hr4 hg4 hf4 RC0 G0 HR0 HX bx
 obtain ⟨c5, a5, hpk⟩ := ab.catL_pk HL.out
 have HPK := gz hpk
 clear hpk
 go_upto_region 2 with (fail)
 generalize (w4.alloc (.cells #[.int .i64 x0, .slice B1 x1.length z1, .slice B2 x2.length z2] 25)) = X5 at R5 RC5 G5 N5 S5 ⊢
 go_wp2_with fail
 refine (ab.peekR HPK.out g e1 op X5 R5.out).mono ?_
 rintro ee w6 ⟨rfl, hr6, hg6⟩
 have R6 := gz hr6
 have RC6 := gz (RC5.out.gb hg6 Z11)
 have G6 := gz (G5.out.trans hg6)
 have N6 := gz (Kd.N_grown N5.out hg6 (fun k hk e => by have := Option.some.inj e; have := hgw.out; omega))
 have S6 := gz (Nat.le_trans S5.out hg6.size)
 clear hr6 hg6 R5 RC5 G5 N5 S5
 go_wp2
 go_loopg [3, 4] k (fun gk v3 v4 wr => ∃ (acc : List S25) (a0 e0 c a' : Int), v4 = .int .u8 c ∧ aa (ab.pk k s a0 = some (c, a')) ∧ aa (ab.catL k s pre op gk acc a0 e0 = some (L, a3, e3)) ∧ aa (ab.RS wr g s a' e0 op) ∧ aa (ab.RC wr w.heap.size) ∧ aa (ab.GB w wr g) ∧ aa (Kd.N k25 25 wr (w.heap.size + 1) (fun k => w.heap.size + 1 ≤ k) v3 acc) ∧ aa (w.heap.size + 1 ≤ wr.heap.size))
 case atStart => exact ⟨_, a1, e1, c5, a5, rfl, HPK, HL, R6, RC6, G6, N6, S6⟩
 case round =>
  clear HL HPK R6 RC6 G6 N6 S6
  obtain ⟨acc, a0, e0, c, a', rfl, HPK, HL, Rf, RCf, Gf, HN, SZ⟩ := hrel
  cases gk with
  | zero => exact absurd HL.out (by simp [ab.catL])
  | succ gk =>
   have hh := HL.out
   rw [ab.catL, HPK.out] at hh
   simp only [Option.bind_some] at hh
   by_cases k0 : c = 0
   ·have b0 : (c != 0) = false := bne_eq_false_iff_eq.mpr k0
    rw [if_pos k0] at hh
    simp only [Option.some.injEq, Prod.mk.injEq] at hh
    obtain ⟨rfl, rfl, rfl⟩ := hh
    replace k0 := gz k0
    clear HL HPK
    obtain ⟨A7, d7, h7⟩ := Kd.N_slice HN.out
    subst h7
    rcases acc with _ | ⟨⟨x0, x1, x2⟩, _ | ⟨y, acc⟩⟩
    ·obtain ⟨⟨q0, q1, q2⟩, hq, hr⟩ := Option.bind_eq_some_iff.mp HF.out
     obtain ⟨z, hz0, hr⟩ := Option.bind_eq_some_iff.mp hr
     obtain ⟨rfl, hz⟩ := ab.szd_some hz0
     dsimp only [ab.mk25] at hr hz
     simp only [Option.some.injEq, Prod.mk.injEq] at hr
     obtain ⟨rfl, rfl, rfl⟩ := hr
     have HQ := gz (show cq.f k ([]) = some (q0, q1, q2) from hq)
     have HZ := gz hz
     have HVN := gz (show Kd.V k25 25 wr wr.heap.size (fun k => w.heap.size + 1 ≤ k) (.slice A7 ([]).length d7) ([]) from Kd.N_V HN.out)
     obtain ⟨n, hn⟩ : ∃ n, ([]).length = n := ⟨_, rfl⟩
     have dl : ((n : Int) == 1) = false := beq_eq_false_iff_ne.mpr (by rw [← hn]; simp; try omega)
     have HNn := gz hn
     rw [hn]
     clear hq hz hz0 hr hn HF
     go_wp2_with fail
     refine (show Calls Tryz.prog 60 #[.slice A7 n d7] wr _ from HNn.out ▸ (cq.calls k (fun k => w.heap.size + 1 ≤ k) A7 d7 ([]) q0 q1 q2 wr HVN.out HQ.out)).mono ?_
     rintro ee w9 ⟨v1, v2, rfl, h1, h2, hb9⟩
     obtain ⟨B1, y1, rfl, n1, g1⟩ := h1
     obtain ⟨B2, y2, rfl, n2, g2⟩ := h2
     have FX := gz (show Kd.FK k25 w9 (fun k => w.heap.size + 1 ≤ k) ⟨q0, q1, q2⟩ [.int .i64 q0, .slice B1 q1.length y1, .slice B2 q2.length y2] from bP w9 _ ⟨q0, q1, q2⟩ n1 (Kd.F_mono g1 (fun k hk => by have := SZ.out; rcases hk with hk | hk <;> omega)) n2 (Kd.F_mono g2 (fun k hk => by have := SZ.out; rcases hk with hk | hk <;> omega)))
     have R9 := gz (Rf.out.below hb9)
     have RC9 := gz (RCf.out.below hb9)
     have G9 := gz (Gf.out.below hb9)
     clear n1 g1 n2 g2 hb9 Rf RCf Gf HVN HN
     go_wp2_with fail
     refine (ab.madeR ⟨q0, q1, q2⟩ B1 y1 B2 y2 _ w9 (fun k => w.heap.size + 1 ≤ k) HZ.out FX.out).mono ?_
     rintro ee w10 ⟨rfl, hf10, hb10⟩
     have Rf := gz (R9.out.below hb10)
     have RCf := gz (RC9.out.below hb10)
     have Gf := gz (G9.out.below hb10)
     have FXf := gz (Kd.FK_mono hf10 (ok' := fun k => w.heap.size + 1 ≤ k) (fun k hk => hk.1))
     clear hf10 hb10 R9 RC9 G9 FX
     have s0 := (ah RCf.out 0).trans rfl
     have s1 := (ah RCf.out 1).trans rfl
     have s2 := (ah RCf.out 2).trans rfl
     have f0 := ag RCf.out 0
     have f1 := ag RCf.out 1
     have f2 := ag RCf.out 2
     go_wp2
     obtain ⟨u1, u2⟩ := ab.TV.fin (t := ⟨q0, q1, q2⟩) (m := w.heap.size) RCf.out FXf.out (Nat.lt_succ_self _)
     refine bodyPost_ret (bq rfl (.cell w.heap.size 25 _ (0, 0) _ rfl u1 Tryz.underlying25 rfl Z5 .nil)) rfl ?_
     exact ⟨_, rfl, ab.TV.mono u2 (Nat.le_succ _), Rf.out.set3 Z11 _ _ _, Gf.out.set3 (Nat.le_refl _) _ _ _⟩
    ·obtain ⟨rfl, rfl, rfl⟩ : (⟨x0, x1, x2⟩ : S25) = x ∧ a' = a2 ∧ e0 = e2 := by simpa using HF.out
     obtain ⟨ad, B1, y1, B2, y2, hA, p0, p1, p2, n1, g1, n2, g2⟩ := ae.V_at3 (E := fun k => w.heap.size + 1 ≤ k) (show Kd.V k25 25 wr 0 (fun k => w.heap.size + 1 ≤ k) (.slice A7 [(⟨x0, x1, x2⟩ : S25)].length d7) [⟨x0, x1, x2⟩] from Kd.N_V HN.out) 0 Z24
     subst hA
     have p0 : wr.cell? ad = some (.int .i64 x0) := p0
     have p1 : wr.cell? ⟨ad.block, ad.off + 1, none⟩ = some (.slice B1 x1.length y1) := p1
     have p2 : wr.cell? ⟨ad.block, ad.off + 2, none⟩ = some (.slice B2 x2.length y2) := p2
     have FXf := gz (show Kd.FK k25 wr (fun k => w.heap.size + 1 ≤ k) ⟨x0, x1, x2⟩ [.int .i64 x0, .slice B1 x1.length y1, .slice B2 x2.length y2] from bP wr _ ⟨x0, x1, x2⟩ n1 g1 n2 g2)
     clear n1 g1 n2 g2 HF
     have s0 := (ah RCf.out 0).trans rfl
     have s1 := (ah RCf.out 1).trans rfl
     have s2 := (ah RCf.out 2).trans rfl
     have f0 := ag RCf.out 0
     have f1 := ag RCf.out 1
     have f2 := ag RCf.out 2
     go_wp2
     obtain ⟨u1, u2⟩ := ab.TV.fin (t := ⟨x0, x1, x2⟩) (m := w.heap.size) RCf.out FXf.out (Nat.lt_succ_self _)
     refine bodyPost_ret (bq rfl (.cell w.heap.size 25 _ (0, 0) _ rfl u1 Tryz.underlying25 rfl Z5 .nil)) rfl ?_
     exact ⟨_, rfl, ab.TV.mono u2 (Nat.le_succ _), Rf.out.set3 Z11 _ _ _, Gf.out.set3 (Nat.le_refl _) _ _ _⟩
    ·obtain ⟨⟨q0, q1, q2⟩, hq, hr⟩ := Option.bind_eq_some_iff.mp HF.out
     obtain ⟨z, hz0, hr⟩ := Option.bind_eq_some_iff.mp hr
     obtain ⟨rfl, hz⟩ := ab.szd_some hz0
     dsimp only [ab.mk25] at hr hz
     simp only [Option.some.injEq, Prod.mk.injEq] at hr
     obtain ⟨rfl, rfl, rfl⟩ := hr
     have HQ := gz (show cq.f k (⟨x0, x1, x2⟩ :: y :: acc) = some (q0, q1, q2) from hq)
     have HZ := gz hz
     have HVN := gz (show Kd.V k25 25 wr wr.heap.size (fun k => w.heap.size + 1 ≤ k) (.slice A7 (⟨x0, x1, x2⟩ :: y :: acc).length d7) (⟨x0, x1, x2⟩ :: y :: acc) from Kd.N_V HN.out)
     obtain ⟨n, hn⟩ : ∃ n, (⟨x0, x1, x2⟩ :: y :: acc).length = n := ⟨_, rfl⟩
     have dl : ((n : Int) == 1) = false := beq_eq_false_iff_ne.mpr (by rw [← hn]; simp; try omega)
     have HNn := gz hn
     rw [hn]
     clear hq hz hz0 hr hn HF
     go_wp2_with fail
     refine (show Calls Tryz.prog 60 #[.slice A7 n d7] wr _ from HNn.out ▸ (cq.calls k (fun k => w.heap.size + 1 ≤ k) A7 d7 (⟨x0, x1, x2⟩ :: y :: acc) q0 q1 q2 wr HVN.out HQ.out)).mono ?_
     rintro ee w9 ⟨v1, v2, rfl, h1, h2, hb9⟩
     obtain ⟨B1, y1, rfl, n1, g1⟩ := h1
     obtain ⟨B2, y2, rfl, n2, g2⟩ := h2
     have FX := gz (show Kd.FK k25 w9 (fun k => w.heap.size + 1 ≤ k) ⟨q0, q1, q2⟩ [.int .i64 q0, .slice B1 q1.length y1, .slice B2 q2.length y2] from bP w9 _ ⟨q0, q1, q2⟩ n1 (Kd.F_mono g1 (fun k hk => by have := SZ.out; rcases hk with hk | hk <;> omega)) n2 (Kd.F_mono g2 (fun k hk => by have := SZ.out; rcases hk with hk | hk <;> omega)))
     have R9 := gz (Rf.out.below hb9)
     have RC9 := gz (RCf.out.below hb9)
     have G9 := gz (Gf.out.below hb9)
     clear n1 g1 n2 g2 hb9 Rf RCf Gf HVN HN
     go_wp2_with fail
     refine (ab.madeR ⟨q0, q1, q2⟩ B1 y1 B2 y2 _ w9 (fun k => w.heap.size + 1 ≤ k) HZ.out FX.out).mono ?_
     rintro ee w10 ⟨rfl, hf10, hb10⟩
     have Rf := gz (R9.out.below hb10)
     have RCf := gz (RC9.out.below hb10)
     have Gf := gz (G9.out.below hb10)
     have FXf := gz (Kd.FK_mono hf10 (ok' := fun k => w.heap.size + 1 ≤ k) (fun k hk => hk.1))
     clear hf10 hb10 R9 RC9 G9 FX
     have s0 := (ah RCf.out 0).trans rfl
     have s1 := (ah RCf.out 1).trans rfl
     have s2 := (ah RCf.out 2).trans rfl
     have f0 := ag RCf.out 0
     have f1 := ag RCf.out 1
     have f2 := ag RCf.out 2
     go_wp2
     obtain ⟨u1, u2⟩ := ab.TV.fin (t := ⟨q0, q1, q2⟩) (m := w.heap.size) RCf.out FXf.out (Nat.lt_succ_self _)
     refine bodyPost_ret (bq rfl (.cell w.heap.size 25 _ (0, 0) _ rfl u1 Tryz.underlying25 rfl Z5 .nil)) rfl ?_
     exact ⟨_, rfl, ab.TV.mono u2 (Nat.le_succ _), Rf.out.set3 Z11 _ _ _, Gf.out.set3 (Nat.le_refl _) _ _ _⟩
   ·have b0 : (c != 0) = true := bne_iff_ne.mpr k0
    rw [if_neg k0] at hh
    obtain ⟨t, ht, hh⟩ := Option.bind_eq_some_iff.mp hh
    have HT := gz ht
    have HH := gz hh
    clear ht hh HL
    replace k0 := gz k0
    go_wp2_with fail
    refine (bY.calls HT.out).mono ?_
    rintro ee w1 ⟨rfl, hdr⟩
    have hb1 : Below wr.heap.size wr w1 := by obtain ⟨nd, rfl⟩ := hdr; exact aC (Below.refl _ _) nd
    have R1 := gz (Rf.out.below hb1)
    have RC1 := gz (RCf.out.below hb1)
    have G1 := gz (Gf.out.below hb1)
    have N1 := gz (Kd.N_below HN.out hb1)
    have S1 := gz (Nat.le_trans SZ.out hb1.size)
    clear hb1 hdr Rf RCf Gf HN SZ
    have h := HH.out
    clear HH
    by_cases kt : 0 ≤ t
    ·have bt0 : decide (t ≥ 0) = true := decide_eq_true kt
     have bt1 : decide (0 ≤ t) = true := decide_eq_true kt
     rw [if_pos kt] at h
     obtain ⟨hln, h⟩ := ab.ite_some h
     obtain ⟨⟨⟨y0, y1, y2⟩, a6, e6⟩, hy, h⟩ := Option.bind_eq_some_iff.mp h
     have HY := gz hy
     have HL := gz h
     have HLN := gz hln
     clear hy h hln
     replace kt := gz kt
     go_wp2_with fail
     refine (HA g a' e0 op ⟨y0, y1, y2⟩ a6 e6 w1 R1.out HY.out).mono ?_
     rintro ee w2 ⟨vv, rfl, ⟨D1, d1, D2, d2, rfl, hf2⟩, hr2, hg2⟩
     have R2 := gz hr2
     have RC2 := gz (RC1.out.gb hg2 Z11)
     have G2 := gz (G1.out.trans hg2)
     have N2 := gz (Kd.N_grown N1.out hg2 (fun k hk e => by have := Option.some.inj e; have := hgw.out; omega))
     have S2 := gz (Nat.le_trans S1.out hg2.size)
     have F2 := gz hf2
     have HOKP := gz (show ∀ k, w1.heap.size ≤ k → w.heap.size + 1 ≤ k ∧ some k ≠ u3.ownBlock from fun k hk => ⟨Nat.le_trans S1.out hk, fun e => by have := Kd.N_lt N1.out k e.symm; omega⟩)
     clear hr2 hg2 hf2 R1 RC1 G1 N1 HY
     obtain ⟨c7, a7, hpk7⟩ := ab.catL_pk HL.out
     have HPK7 := gz hpk7
     clear hpk7 HPK
     go_wp2_with (first | ((with_reducible refine aK (b := .append) (xs := #[.tmp 19, .tmp 22]) rfl ?_); at_builtin; refine Kd.N_append k25 (w0 := w2) (w.heap.size + 1) rfl (.tmp 19) (.tmp 22) 23 25 (.agg #[(.int .i64 0), (.slice none 0 0), (.slice none 0 0)]) 56 rfl Tryz.underlying23 fw rfl Z27 Z8 u3 acc ⟨y0, y1, y2⟩ [.int .i64 y0, .slice D1 y1.length d1, .slice D2 y2.length d2] (fun k => w.heap.size + 1 ≤ k) (fun k => w1.heap.size ≤ k) rfl rfl F2.out HOKP.out (fun k hk => Nat.le_trans S2.out hk) N2.out (Below.refl _ _) S2.out ?aL ?_; (case aL => have := HLN.out; omega); intro v3 w3 hr hb hg3 hat; have N3 := gz hr; have R3 := gz ((hb.block g Z11).trans R2.out); have RC3 := gz ((hb.block w.heap.size Z8).trans RC2.out); have G3 := gz (show ab.GB w w3 g from ⟨hb.os.trans G2.out.os, hb.tape.trans G2.out.tape, hb.output.trans G2.out.output, Nat.le_trans G2.out.size hb.size, fun i hi he => (hb.block i Z8).trans (G2.out.block i hi he)⟩); have S3 := gz (Nat.le_trans S2.out hb.size); clear hr hb hg3 hat))
     refine (ab.peekR HPK7.out g e6 op w3 R3.out).mono ?_
     rintro ee w6 ⟨rfl, hr6, hg6⟩
     have R6 := gz hr6
     have RC6 := gz (ab.RC.gb RC3.out hg6 Z11)
     have G6 := gz (G3.out.trans hg6)
     have N6 := gz (Kd.N_grown N3.out hg6 (fun k hk e => by have := Option.some.inj e; have := hgw.out; omega))
     have S6 := gz (Nat.le_trans S3.out hg6.size)
     clear hr6 hg6 R3 RC3 G3 N3 S3
     go_wp2
     go_roundg gk
     case measure => omega
     case rel => exact ⟨acc ++ [⟨y0, y1, y2⟩], a6, e6, c7, a7, rfl, HPK7, HL, R6, RC6, G6, N6, S6⟩
    ·have bt0 : decide (t ≥ 0) = false := decide_eq_false kt
     have bt1 : decide (0 ≤ t) = false := decide_eq_false kt
     rw [if_neg kt] at h
     simp only [Option.some.injEq, Prod.mk.injEq] at h
     obtain ⟨rfl, rfl, rfl⟩ := h
     replace kt := gz kt
     clear HPK
     have Rf := R1
     have RCf := RC1
     have Gf := G1
     have HN := N1
     have SZ := S1
     clear R1 RC1 G1 N1 S1
     obtain ⟨A7, d7, h7⟩ := Kd.N_slice HN.out
     subst h7
     rcases acc with _ | ⟨⟨x0, x1, x2⟩, _ | ⟨y, acc⟩⟩
     ·obtain ⟨⟨q0, q1, q2⟩, hq, hr⟩ := Option.bind_eq_some_iff.mp HF.out
      obtain ⟨z, hz0, hr⟩ := Option.bind_eq_some_iff.mp hr
      obtain ⟨rfl, hz⟩ := ab.szd_some hz0
      dsimp only [ab.mk25] at hr hz
      simp only [Option.some.injEq, Prod.mk.injEq] at hr
      obtain ⟨rfl, rfl, rfl⟩ := hr
      have HQ := gz (show cq.f k ([]) = some (q0, q1, q2) from hq)
      have HZ := gz hz
      have HVN := gz (show Kd.V k25 25 w1 w1.heap.size (fun k => w.heap.size + 1 ≤ k) (.slice A7 ([]).length d7) ([]) from Kd.N_V HN.out)
      obtain ⟨n, hn⟩ : ∃ n, ([]).length = n := ⟨_, rfl⟩
      have dl : ((n : Int) == 1) = false := beq_eq_false_iff_ne.mpr (by rw [← hn]; simp; try omega)
      have HNn := gz hn
      rw [hn]
      clear hq hz hz0 hr hn HF
      go_wp2_with fail
      refine (show Calls Tryz.prog 60 #[.slice A7 n d7] w1 _ from HNn.out ▸ (cq.calls k (fun k => w.heap.size + 1 ≤ k) A7 d7 ([]) q0 q1 q2 w1 HVN.out HQ.out)).mono ?_
      rintro ee w9 ⟨v1, v2, rfl, h1, h2, hb9⟩
      obtain ⟨B1, y1, rfl, n1, g1⟩ := h1
      obtain ⟨B2, y2, rfl, n2, g2⟩ := h2
      have FX := gz (show Kd.FK k25 w9 (fun k => w.heap.size + 1 ≤ k) ⟨q0, q1, q2⟩ [.int .i64 q0, .slice B1 q1.length y1, .slice B2 q2.length y2] from bP w9 _ ⟨q0, q1, q2⟩ n1 (Kd.F_mono g1 (fun k hk => by have := SZ.out; rcases hk with hk | hk <;> omega)) n2 (Kd.F_mono g2 (fun k hk => by have := SZ.out; rcases hk with hk | hk <;> omega)))
      have R9 := gz (Rf.out.below hb9)
      have RC9 := gz (RCf.out.below hb9)
      have G9 := gz (Gf.out.below hb9)
      clear n1 g1 n2 g2 hb9 Rf RCf Gf HVN HN
      go_wp2_with fail
      refine (ab.madeR ⟨q0, q1, q2⟩ B1 y1 B2 y2 _ w9 (fun k => w.heap.size + 1 ≤ k) HZ.out FX.out).mono ?_
      rintro ee w10 ⟨rfl, hf10, hb10⟩
      have Rf := gz (R9.out.below hb10)
      have RCf := gz (RC9.out.below hb10)
      have Gf := gz (G9.out.below hb10)
      have FXf := gz (Kd.FK_mono hf10 (ok' := fun k => w.heap.size + 1 ≤ k) (fun k hk => hk.1))
      clear hf10 hb10 R9 RC9 G9 FX
      have s0 := (ah RCf.out 0).trans rfl
      have s1 := (ah RCf.out 1).trans rfl
      have s2 := (ah RCf.out 2).trans rfl
      have f0 := ag RCf.out 0
      have f1 := ag RCf.out 1
      have f2 := ag RCf.out 2
      go_wp2
      obtain ⟨u1, u2⟩ := ab.TV.fin (t := ⟨q0, q1, q2⟩) (m := w.heap.size) RCf.out FXf.out (Nat.lt_succ_self _)
      refine bodyPost_ret (bq rfl (.cell w.heap.size 25 _ (0, 0) _ rfl u1 Tryz.underlying25 rfl Z5 .nil)) rfl ?_
      exact ⟨_, rfl, ab.TV.mono u2 (Nat.le_succ _), Rf.out.set3 Z11 _ _ _, Gf.out.set3 (Nat.le_refl _) _ _ _⟩
     ·obtain ⟨rfl, rfl, rfl⟩ : (⟨x0, x1, x2⟩ : S25) = x ∧ a' = a2 ∧ e0 = e2 := by simpa using HF.out
      obtain ⟨ad, B1, y1, B2, y2, hA, p0, p1, p2, n1, g1, n2, g2⟩ := ae.V_at3 (E := fun k => w.heap.size + 1 ≤ k) (show Kd.V k25 25 w1 0 (fun k => w.heap.size + 1 ≤ k) (.slice A7 [(⟨x0, x1, x2⟩ : S25)].length d7) [⟨x0, x1, x2⟩] from Kd.N_V HN.out) 0 Z24
      subst hA
      have p0 : w1.cell? ad = some (.int .i64 x0) := p0
      have p1 : w1.cell? ⟨ad.block, ad.off + 1, none⟩ = some (.slice B1 x1.length y1) := p1
      have p2 : w1.cell? ⟨ad.block, ad.off + 2, none⟩ = some (.slice B2 x2.length y2) := p2
      have FXf := gz (show Kd.FK k25 w1 (fun k => w.heap.size + 1 ≤ k) ⟨x0, x1, x2⟩ [.int .i64 x0, .slice B1 x1.length y1, .slice B2 x2.length y2] from bP w1 _ ⟨x0, x1, x2⟩ n1 g1 n2 g2)
      clear n1 g1 n2 g2 HF
      have s0 := (ah RCf.out 0).trans rfl
      have s1 := (ah RCf.out 1).trans rfl
      have s2 := (ah RCf.out 2).trans rfl
      have f0 := ag RCf.out 0
      have f1 := ag RCf.out 1
      have f2 := ag RCf.out 2
      go_wp2
      obtain ⟨u1, u2⟩ := ab.TV.fin (t := ⟨x0, x1, x2⟩) (m := w.heap.size) RCf.out FXf.out (Nat.lt_succ_self _)
      refine bodyPost_ret (bq rfl (.cell w.heap.size 25 _ (0, 0) _ rfl u1 Tryz.underlying25 rfl Z5 .nil)) rfl ?_
      exact ⟨_, rfl, ab.TV.mono u2 (Nat.le_succ _), Rf.out.set3 Z11 _ _ _, Gf.out.set3 (Nat.le_refl _) _ _ _⟩
     ·obtain ⟨⟨q0, q1, q2⟩, hq, hr⟩ := Option.bind_eq_some_iff.mp HF.out
      obtain ⟨z, hz0, hr⟩ := Option.bind_eq_some_iff.mp hr
      obtain ⟨rfl, hz⟩ := ab.szd_some hz0
      dsimp only [ab.mk25] at hr hz
      simp only [Option.some.injEq, Prod.mk.injEq] at hr
      obtain ⟨rfl, rfl, rfl⟩ := hr
      have HQ := gz (show cq.f k (⟨x0, x1, x2⟩ :: y :: acc) = some (q0, q1, q2) from hq)
      have HZ := gz hz
      have HVN := gz (show Kd.V k25 25 w1 w1.heap.size (fun k => w.heap.size + 1 ≤ k) (.slice A7 (⟨x0, x1, x2⟩ :: y :: acc).length d7) (⟨x0, x1, x2⟩ :: y :: acc) from Kd.N_V HN.out)
      obtain ⟨n, hn⟩ : ∃ n, (⟨x0, x1, x2⟩ :: y :: acc).length = n := ⟨_, rfl⟩
      have dl : ((n : Int) == 1) = false := beq_eq_false_iff_ne.mpr (by rw [← hn]; simp; try omega)
      have HNn := gz hn
      rw [hn]
      clear hq hz hz0 hr hn HF
      go_wp2_with fail
      refine (show Calls Tryz.prog 60 #[.slice A7 n d7] w1 _ from HNn.out ▸ (cq.calls k (fun k => w.heap.size + 1 ≤ k) A7 d7 (⟨x0, x1, x2⟩ :: y :: acc) q0 q1 q2 w1 HVN.out HQ.out)).mono ?_
      rintro ee w9 ⟨v1, v2, rfl, h1, h2, hb9⟩
      obtain ⟨B1, y1, rfl, n1, g1⟩ := h1
      obtain ⟨B2, y2, rfl, n2, g2⟩ := h2
      have FX := gz (show Kd.FK k25 w9 (fun k => w.heap.size + 1 ≤ k) ⟨q0, q1, q2⟩ [.int .i64 q0, .slice B1 q1.length y1, .slice B2 q2.length y2] from bP w9 _ ⟨q0, q1, q2⟩ n1 (Kd.F_mono g1 (fun k hk => by have := SZ.out; rcases hk with hk | hk <;> omega)) n2 (Kd.F_mono g2 (fun k hk => by have := SZ.out; rcases hk with hk | hk <;> omega)))
      have R9 := gz (Rf.out.below hb9)
      have RC9 := gz (RCf.out.below hb9)
      have G9 := gz (Gf.out.below hb9)
      clear n1 g1 n2 g2 hb9 Rf RCf Gf HVN HN
      go_wp2_with fail
      refine (ab.madeR ⟨q0, q1, q2⟩ B1 y1 B2 y2 _ w9 (fun k => w.heap.size + 1 ≤ k) HZ.out FX.out).mono ?_
      rintro ee w10 ⟨rfl, hf10, hb10⟩
      have Rf := gz (R9.out.below hb10)
      have RCf := gz (RC9.out.below hb10)
      have Gf := gz (G9.out.below hb10)
      have FXf := gz (Kd.FK_mono hf10 (ok' := fun k => w.heap.size + 1 ≤ k) (fun k hk => hk.1))
      clear hf10 hb10 R9 RC9 G9 FX
      have s0 := (ah RCf.out 0).trans rfl
      have s1 := (ah RCf.out 1).trans rfl
      have s2 := (ah RCf.out 2).trans rfl
      have f0 := ag RCf.out 0
      have f1 := ag RCf.out 1
      have f2 := ag RCf.out 2
      go_wp2
      obtain ⟨u1, u2⟩ := ab.TV.fin (t := ⟨q0, q1, q2⟩) (m := w.heap.size) RCf.out FXf.out (Nat.lt_succ_self _)
      refine bodyPost_ret (bq rfl (.cell w.heap.size 25 _ (0, 0) _ rfl u1 Tryz.underlying25 rfl Z5 .nil)) rfl ?_
      exact ⟨_, rfl, ab.TV.mono u2 (Nat.le_succ _), Rf.out.set3 Z11 _ _ _, Gf.out.set3 (Nat.le_refl _) _ _ _⟩
theorem ab.row89 {k : Nat} {s : ByteArray} {one : ab.PF} (sign kind : Int) (HA : ab.RCall s 89 one) (g : Nat) (a e op : Int) (x : S25) (a2 e2 : Int) (w : World) (hR : ab.RS w g s a e op) (h : ab.rowF k s sign kind one a e op = some (x, a2, e2)) :
  Calls Tryz.prog 87 #[.pointer (some ⟨g, 0, none⟩), .int .u8 sign, .int .i64 kind, .func (.func 89) #[.pointer (some ⟨g, 0, none⟩)] #[]] w fun ee w' => ∃ v, ee = .returned v ∧ ab.TV w.heap.size w' v x ∧ ab.RS w' g s a2 e2 op ∧ ab.GB w w' g := by
 have HR0 := gz (hR.below (ak (Below.refl _ _) (.cells #[.int .i64 0, .slice none 0 0, .slice none 0 0] 25)))
 have hgw := gz hR.lt
 clear hR
 unfold ab.rowF at h
 obtain ⟨⟨⟨x0, x1, x2⟩, a1, e1⟩, hx, h⟩ := Option.bind_eq_some_iff.mp h
 obtain ⟨⟨L, a3, e3⟩, hl, hF⟩ := Option.bind_eq_some_iff.mp h
 have HX := gz hx
 have HL := gz hl
 have HF := gz hF
 clear hx hl hF h
 go_enter Tryz.func87, Tryz.ntmps87
 have RC0 := gz (ab.RC.new w)
 have G0 := gz (ab.GB.of (ak (Below.refl w.heap.size w) (.cells #[.int .i64 0, .slice none 0 0, .slice none 0 0] 25)) g)
 have S0 := gz (show w.heap.size + 1 ≤ (w.alloc (.cells #[.int .i64 0, .slice none 0 0, .slice none 0 0] 25)).heap.size from Nat.le_of_eq (bL _ _).symm)
 go_upto_region 1 with (fail)
 generalize (w.alloc (.cells #[.int .i64 0, .slice none 0 0, .slice none 0 0] 25)) = X at HR0 RC0 G0 S0 ⊢
 go_wp2_with fail
 refine (HA g a e op ⟨x0, x1, x2⟩ a1 e1 X HR0.out HX.out).mono ?_
 rintro ee w4 ⟨vv, rfl, ⟨B1, z1, B2, z2, rfl, hf4⟩, hr4, hg4⟩
 have bx := ak (Below.refl w4.heap.size w4) (.cells #[.int .i64 x0, .slice B1 x1.length z1, .slice B2 x2.length z2] 25)
 have R5 := gz (ab.RS.below hr4 bx)
 have RC5 := gz (ab.RC.below (RC0.out.gb hg4 Z11) bx)
 have G5 := gz (ab.GB.below (G0.out.trans hg4) bx)
 have S4 := gz (Nat.le_trans S0.out hg4.size)
 have N5 := gz (ab.litN k25 w4 ⟨x0, x1, x2⟩ [.int .i64 x0, .slice B1 x1.length z1, .slice B2 x2.length z2] 25 (w.heap.size + 1) (fun k => w.heap.size + 1 ≤ k) _ (Kd.FK_bound hf4) (fun k hk => ⟨Nat.le_trans S0.out hk.1, hk.2⟩) (Nat.le_trans S0.out hg4.size) (Nat.le_trans S0.out hg4.size))
 have S5 := gz (Nat.le_trans S4.out bx.size)
 clear hr4 hg4 hf4 RC0 G0 HR0 HX bx
 go_wp2
 generalize (w4.alloc (.cells #[.int .i64 x0, .slice B1 x1.length z1, .slice B2 x2.length z2] 25)) = X5 at R5 RC5 G5 N5 S5 ⊢
 go_loopg [9] k (fun gk v9 wr => ∃ (acc : List S25) (a0 e0 : Int), aa (ab.rowL k s one sign op gk acc a0 e0 = some (L, a3, e3)) ∧ aa (ab.RS wr g s a0 e0 op) ∧ aa (ab.RC wr w.heap.size) ∧ aa (ab.GB w wr g) ∧ aa (Kd.N k25 25 wr (w.heap.size + 1) (fun k => w.heap.size + 1 ≤ k) v9 acc) ∧ aa (w.heap.size + 1 ≤ wr.heap.size))
 case atStart => exact ⟨_, a1, e1, HL, R5, RC5, G5, N5, S5⟩
 case round =>
  clear HL R5 RC5 G5 N5 S5
  obtain ⟨acc, a0, e0, HL, R0, RC0, G0, N0, S0⟩ := hrel
  cases gk with
  | zero => exact absurd HL.out (by simp [ab.rowL])
  | succ gk =>
   have hh := HL.out
   rw [ab.rowL] at hh
   obtain ⟨⟨c, a'⟩, hp, hh⟩ := Option.bind_eq_some_iff.mp hh
   dsimp only at hh
   have HPK := gz hp
   have HH := gz hh
   clear hp hh HL
   go_wp2_with fail
   refine (ab.peekR HPK.out g e0 op wr R0.out).mono ?_
   rintro ee w1 ⟨rfl, hr1, hg1⟩
   have Rf := gz hr1
   have RCf := gz (ab.RC.gb RC0.out hg1 Z11)
   have Gf := gz (G0.out.trans hg1)
   have HN := gz (Kd.N_grown N0.out hg1 (fun k hk e => by have := Option.some.inj e; have := hgw.out; omega))
   have SZ := gz (Nat.le_trans S0.out hg1.size)
   clear hr1 hg1 R0 RC0 G0 N0 S0 HPK
   have h := HH.out
   clear HH
   by_cases kc : c = sign
   ·have bc : (c == sign) = true := beq_iff_eq.mpr kc
    rw [if_pos kc] at h
    obtain ⟨hln, h⟩ := ab.ite_some h
    obtain ⟨⟨⟨y0, y1, y2⟩, a6, e6⟩, hy, h⟩ := Option.bind_eq_some_iff.mp h
    have HY := gz hy
    have HL := gz h
    have HLN := gz hln
    clear hy h hln
    replace kc := gz kc
    go_wp2_with fail
    refine (ab.takeR g s a' e0 op 1 w1 Rf.out).mono ?_
    rintro ee w2 ⟨rfl, hr2, hg2⟩
    have R2 := gz hr2
    have RC2 := gz (ab.RC.gb RCf.out hg2 Z11)
    have G2 := gz (Gf.out.trans hg2)
    have N2 := gz (Kd.N_grown HN.out hg2 (fun k hk e => by have := Option.some.inj e; have := hgw.out; omega))
    have S2 := gz (Nat.le_trans SZ.out hg2.size)
    clear hr2 hg2 Rf RCf Gf HN SZ
    go_wp2_with fail
    refine (HA g (wrap64 (a' + 1)) (wrap64 (a' + 1)) op ⟨y0, y1, y2⟩ a6 e6 w2 R2.out HY.out).mono ?_
    rintro ee w3 ⟨vv, rfl, ⟨D1, d1, D2, d2, rfl, hf3⟩, hr3, hg3⟩
    have R3 := gz hr3
    have RC3 := gz (ab.RC.gb RC2.out hg3 Z11)
    have G3 := gz (G2.out.trans hg3)
    have N3 := gz (Kd.N_grown N2.out hg3 (fun k hk e => by have := Option.some.inj e; have := hgw.out; omega))
    have S3 := gz (Nat.le_trans S2.out hg3.size)
    have F3 := gz hf3
    have HOKP := gz (show ∀ k, w2.heap.size ≤ k → w.heap.size + 1 ≤ k ∧ some k ≠ u9.ownBlock from fun k hk => ⟨Nat.le_trans S2.out hk, fun e => by have := Kd.N_lt N2.out k e.symm; omega⟩)
    clear hr3 hg3 hf3 R2 RC2 G2 N2 HY
    go_wp2_with (first | ((with_reducible refine aK (b := .append) (xs := #[.tmp 19, .tmp 22]) rfl ?_); at_builtin; refine Kd.N_append k25 (w0 := w3) (w.heap.size + 1) rfl (.tmp 19) (.tmp 22) 23 25 (.agg #[(.int .i64 0), (.slice none 0 0), (.slice none 0 0)]) 56 rfl Tryz.underlying23 fw rfl Z27 Z8 u9 acc ⟨y0, y1, y2⟩ [.int .i64 y0, .slice D1 y1.length d1, .slice D2 y2.length d2] (fun k => w.heap.size + 1 ≤ k) (fun k => w2.heap.size ≤ k) rfl rfl F3.out HOKP.out (fun k hk => Nat.le_trans S3.out hk) N3.out (Below.refl _ _) S3.out ?aL ?_; (case aL => have := HLN.out; omega); intro v3 w5 hr hb hg5 hat))
    go_roundg gk
    case measure => omega
    case rel => exact ⟨acc ++ [⟨y0, y1, y2⟩], a6, e6, HL, ⟨(hb.block g Z11).trans R3.out⟩, ⟨(hb.block w.heap.size Z8).trans RC3.out⟩, ⟨⟨hb.os.trans G3.out.os, hb.tape.trans G3.out.tape, hb.output.trans G3.out.output, Nat.le_trans G3.out.size hb.size, fun i hi he => (hb.block i Z8).trans (G3.out.block i hi he)⟩⟩, ⟨hr⟩, ⟨Nat.le_trans S3.out hb.size⟩⟩
   ·have bc : (c == sign) = false := beq_eq_false_iff_ne.mpr kc
    rw [if_neg kc] at h
    simp only [Option.some.injEq, Prod.mk.injEq] at h
    obtain ⟨rfl, rfl, rfl⟩ := h
    replace kc := gz kc
    obtain ⟨A7, d7, h7⟩ := Kd.N_slice HN.out
    subst h7
    rcases acc with _ | ⟨⟨x0, x1, x2⟩, _ | ⟨y, acc⟩⟩
    ·obtain ⟨⟨q0, q1, q2, qe⟩, hq, hr⟩ := Option.bind_eq_some_iff.mp HF.out
     dsimp only at hr
     obtain ⟨hqe, hr⟩ := ab.ite_some hr
     subst hqe
     obtain ⟨z, hz0, hr⟩ := Option.bind_eq_some_iff.mp hr
     obtain ⟨rfl, hz⟩ := ab.szd_some hz0
     dsimp only at hr hz
     simp only [Option.some.injEq, Prod.mk.injEq] at hr
     obtain ⟨rfl, rfl, rfl⟩ := hr
     have HQ := gz (show ac.f k kind ([]) = some (q0, q1, q2, 0) from hq)
     have HZ := gz hz
     have HVN := gz (show Kd.V k25 25 w1 w1.heap.size (fun k => w.heap.size + 1 ≤ k) (.slice A7 ([]).length d7) ([]) from Kd.N_V HN.out)
     obtain ⟨n, hn⟩ : ∃ n, ([]).length = n := ⟨_, rfl⟩
     have dl : ((n : Int) == 1) = false := beq_eq_false_iff_ne.mpr (by rw [← hn]; simp; try omega)
     have HNn := gz hn
     rw [hn]
     clear hq hz hz0 hr hn HF
     go_wp2_with fail
     refine (show Calls Tryz.prog 78 #[.int .i64 kind, .slice A7 n d7] w1 _ from HNn.out ▸ (ac.calls k kind (fun k => w.heap.size + 1 ≤ k) A7 d7 ([]) q0 q1 q2 0 w1 HVN.out HQ.out)).mono ?_
     rintro ee w9 ⟨v1, v2, rfl, h1, h2, hb9⟩
     obtain ⟨B1, y1, rfl, n1, g1⟩ := h1
     obtain ⟨B2, y2, rfl, n2, g2⟩ := h2
     have FX := gz (show Kd.FK k25 w9 (fun k => w.heap.size + 1 ≤ k) ⟨q0, q1, q2⟩ [.int .i64 q0, .slice B1 q1.length y1, .slice B2 q2.length y2] from bP w9 _ ⟨q0, q1, q2⟩ n1 (Kd.F_mono g1 (fun k hk => by have := SZ.out; rcases hk with hk | hk <;> omega)) n2 (Kd.F_mono g2 (fun k hk => by have := SZ.out; rcases hk with hk | hk <;> omega)))
     have R9 := gz (Rf.out.below hb9)
     have RC9 := gz (RCf.out.below hb9)
     have G9 := gz (Gf.out.below hb9)
     clear n1 g1 n2 g2 hb9 Rf RCf Gf HVN HN
     go_wp2_with fail
     refine (ab.madeR ⟨q0, q1, q2⟩ B1 y1 B2 y2 _ w9 (fun k => w.heap.size + 1 ≤ k) HZ.out FX.out).mono ?_
     rintro ee w10 ⟨rfl, hf10, hb10⟩
     have Rf := gz (R9.out.below hb10)
     have RCf := gz (RC9.out.below hb10)
     have Gf := gz (G9.out.below hb10)
     have FXf := gz (Kd.FK_mono hf10 (ok' := fun k => w.heap.size + 1 ≤ k) (fun k hk => hk.1))
     clear hf10 hb10 R9 RC9 G9 FX
     have s0 := (ah RCf.out 0).trans rfl
     have s1 := (ah RCf.out 1).trans rfl
     have s2 := (ah RCf.out 2).trans rfl
     have f0 := ag RCf.out 0
     have f1 := ag RCf.out 1
     have f2 := ag RCf.out 2
     go_wp2
     obtain ⟨u1, u2⟩ := ab.TV.fin (t := ⟨q0, q1, q2⟩) (m := w.heap.size) RCf.out FXf.out (Nat.lt_succ_self _)
     refine bodyPost_ret (bq rfl (.cell w.heap.size 25 _ (0, 0) _ rfl u1 Tryz.underlying25 rfl Z5 .nil)) rfl ?_
     exact ⟨_, rfl, ab.TV.mono u2 (Nat.le_succ _), Rf.out.set3 Z11 _ _ _, Gf.out.set3 (Nat.le_refl _) _ _ _⟩
    ·obtain ⟨rfl, rfl, rfl⟩ : (⟨x0, x1, x2⟩ : S25) = x ∧ a' = a2 ∧ e0 = e2 := by simpa using HF.out
     obtain ⟨ad, B1, y1, B2, y2, hA, p0, p1, p2, n1, g1, n2, g2⟩ := ae.V_at3 (E := fun k => w.heap.size + 1 ≤ k) (show Kd.V k25 25 w1 0 (fun k => w.heap.size + 1 ≤ k) (.slice A7 [(⟨x0, x1, x2⟩ : S25)].length d7) [⟨x0, x1, x2⟩] from Kd.N_V HN.out) 0 Z24
     subst hA
     have p0 : w1.cell? ad = some (.int .i64 x0) := p0
     have p1 : w1.cell? ⟨ad.block, ad.off + 1, none⟩ = some (.slice B1 x1.length y1) := p1
     have p2 : w1.cell? ⟨ad.block, ad.off + 2, none⟩ = some (.slice B2 x2.length y2) := p2
     have FXf := gz (show Kd.FK k25 w1 (fun k => w.heap.size + 1 ≤ k) ⟨x0, x1, x2⟩ [.int .i64 x0, .slice B1 x1.length y1, .slice B2 x2.length y2] from bP w1 _ ⟨x0, x1, x2⟩ n1 g1 n2 g2)
     clear n1 g1 n2 g2 HF
     have s0 := (ah RCf.out 0).trans rfl
     have s1 := (ah RCf.out 1).trans rfl
     have s2 := (ah RCf.out 2).trans rfl
     have f0 := ag RCf.out 0
     have f1 := ag RCf.out 1
     have f2 := ag RCf.out 2
     go_wp2
     obtain ⟨u1, u2⟩ := ab.TV.fin (t := ⟨x0, x1, x2⟩) (m := w.heap.size) RCf.out FXf.out (Nat.lt_succ_self _)
     refine bodyPost_ret (bq rfl (.cell w.heap.size 25 _ (0, 0) _ rfl u1 Tryz.underlying25 rfl Z5 .nil)) rfl ?_
     exact ⟨_, rfl, ab.TV.mono u2 (Nat.le_succ _), Rf.out.set3 Z11 _ _ _, Gf.out.set3 (Nat.le_refl _) _ _ _⟩
    ·obtain ⟨⟨q0, q1, q2, qe⟩, hq, hr⟩ := Option.bind_eq_some_iff.mp HF.out
     dsimp only at hr
     obtain ⟨hqe, hr⟩ := ab.ite_some hr
     subst hqe
     obtain ⟨z, hz0, hr⟩ := Option.bind_eq_some_iff.mp hr
     obtain ⟨rfl, hz⟩ := ab.szd_some hz0
     dsimp only at hr hz
     simp only [Option.some.injEq, Prod.mk.injEq] at hr
     obtain ⟨rfl, rfl, rfl⟩ := hr
     have HQ := gz (show ac.f k kind (⟨x0, x1, x2⟩ :: y :: acc) = some (q0, q1, q2, 0) from hq)
     have HZ := gz hz
     have HVN := gz (show Kd.V k25 25 w1 w1.heap.size (fun k => w.heap.size + 1 ≤ k) (.slice A7 (⟨x0, x1, x2⟩ :: y :: acc).length d7) (⟨x0, x1, x2⟩ :: y :: acc) from Kd.N_V HN.out)
     obtain ⟨n, hn⟩ : ∃ n, (⟨x0, x1, x2⟩ :: y :: acc).length = n := ⟨_, rfl⟩
     have dl : ((n : Int) == 1) = false := beq_eq_false_iff_ne.mpr (by rw [← hn]; simp; try omega)
     have HNn := gz hn
     rw [hn]
     clear hq hz hz0 hr hn HF
     go_wp2_with fail
     refine (show Calls Tryz.prog 78 #[.int .i64 kind, .slice A7 n d7] w1 _ from HNn.out ▸ (ac.calls k kind (fun k => w.heap.size + 1 ≤ k) A7 d7 (⟨x0, x1, x2⟩ :: y :: acc) q0 q1 q2 0 w1 HVN.out HQ.out)).mono ?_
     rintro ee w9 ⟨v1, v2, rfl, h1, h2, hb9⟩
     obtain ⟨B1, y1, rfl, n1, g1⟩ := h1
     obtain ⟨B2, y2, rfl, n2, g2⟩ := h2
     have FX := gz (show Kd.FK k25 w9 (fun k => w.heap.size + 1 ≤ k) ⟨q0, q1, q2⟩ [.int .i64 q0, .slice B1 q1.length y1, .slice B2 q2.length y2] from bP w9 _ ⟨q0, q1, q2⟩ n1 (Kd.F_mono g1 (fun k hk => by have := SZ.out; rcases hk with hk | hk <;> omega)) n2 (Kd.F_mono g2 (fun k hk => by have := SZ.out; rcases hk with hk | hk <;> omega)))
     have R9 := gz (Rf.out.below hb9)
     have RC9 := gz (RCf.out.below hb9)
     have G9 := gz (Gf.out.below hb9)
     clear n1 g1 n2 g2 hb9 Rf RCf Gf HVN HN
     go_wp2_with fail
     refine (ab.madeR ⟨q0, q1, q2⟩ B1 y1 B2 y2 _ w9 (fun k => w.heap.size + 1 ≤ k) HZ.out FX.out).mono ?_
     rintro ee w10 ⟨rfl, hf10, hb10⟩
     have Rf := gz (R9.out.below hb10)
     have RCf := gz (RC9.out.below hb10)
     have Gf := gz (G9.out.below hb10)
     have FXf := gz (Kd.FK_mono hf10 (ok' := fun k => w.heap.size + 1 ≤ k) (fun k hk => hk.1))
     clear hf10 hb10 R9 RC9 G9 FX
     have s0 := (ah RCf.out 0).trans rfl
     have s1 := (ah RCf.out 1).trans rfl
     have s2 := (ah RCf.out 2).trans rfl
     have f0 := ag RCf.out 0
     have f1 := ag RCf.out 1
     have f2 := ag RCf.out 2
     go_wp2
     obtain ⟨u1, u2⟩ := ab.TV.fin (t := ⟨q0, q1, q2⟩) (m := w.heap.size) RCf.out FXf.out (Nat.lt_succ_self _)
     refine bodyPost_ret (bq rfl (.cell w.heap.size 25 _ (0, 0) _ rfl u1 Tryz.underlying25 rfl Z5 .nil)) rfl ?_
     exact ⟨_, rfl, ab.TV.mono u2 (Nat.le_succ _), Rf.out.set3 Z11 _ _ _, Gf.out.set3 (Nat.le_refl _) _ _ _⟩
theorem ab.row88 {k : Nat} {s : ByteArray} {one : ab.PF} (sign kind : Int) (HA : ∀ (b g : Nat) (a e op : Int) (x : S25) (a2 e2 : Int) (w : World), b ≠ g → w.heap[b]? = some (.cells #[.pointer (some ⟨g, 0, none⟩)] 59 (0, 0)) → ab.RS w g s a e op → one a e op = some (x, a2, e2) → Calls Tryz.prog 88 #[.pointer (some ⟨b, 0, none⟩)] w fun ee w' => ∃ v, ee = .returned v ∧ ab.TV w.heap.size w' v x ∧ ab.RS w' g s a2 e2 op ∧ ab.GB w w' g) (g : Nat) (a e op : Int) (x : S25) (a2 e2 : Int) (w : World) (hR : ab.RS w g s a e op) (h : ab.rowF k s sign kind one a e op = some (x, a2, e2)) (b : Nat) (hbg : b ≠ g) (hI : w.heap[b]? = some (.cells #[.pointer (some ⟨g, 0, none⟩)] 59 (0, 0))) :
  Calls Tryz.prog 87 #[.pointer (some ⟨g, 0, none⟩), .int .u8 sign, .int .i64 kind, .func (.func 88) #[] #[.pointer (some ⟨b, 0, none⟩)]] w fun ee w' => ∃ v, ee = .returned v ∧ ab.TV w.heap.size w' v x ∧ ab.RS w' g s a2 e2 op ∧ ab.GB w w' g := by
 have HR0 := gz (hR.below (ak (Below.refl _ _) (.cells #[.int .i64 0, .slice none 0 0, .slice none 0 0] 25)))
 have hgw := gz hR.lt
 clear hR
 have HBG := gz hbg
 have HI := gz hI
 have HBL := gz (bB hI)
 clear hbg hI
 unfold ab.rowF at h
 obtain ⟨⟨⟨x0, x1, x2⟩, a1, e1⟩, hx, h⟩ := Option.bind_eq_some_iff.mp h
 obtain ⟨⟨L, a3, e3⟩, hl, hF⟩ := Option.bind_eq_some_iff.mp h
 have HX := gz hx
 have HL := gz hl
 have HF := gz hF
 clear hx hl hF h
 go_enter Tryz.func87, Tryz.ntmps87
 have RC0 := gz (ab.RC.new w)
 have G0 := gz (ab.GB.of (ak (Below.refl w.heap.size w) (.cells #[.int .i64 0, .slice none 0 0, .slice none 0 0] 25)) g)
 have S0 := gz (show w.heap.size + 1 ≤ (w.alloc (.cells #[.int .i64 0, .slice none 0 0, .slice none 0 0] 25)).heap.size from Nat.le_of_eq (bL _ _).symm)
 go_upto_region 1 with (fail)
 generalize (w.alloc (.cells #[.int .i64 0, .slice none 0 0, .slice none 0 0] 25)) = X at HR0 RC0 G0 S0 ⊢
 have Gi := G0
 go_wp2_with fail
 refine (HA b g a e op ⟨x0, x1, x2⟩ a1 e1 X HBG.out (((Gi.out.block b HBL.out (fun e => HBG.out (Option.some.inj e)))).trans HI.out) HR0.out HX.out).mono ?_
 rintro ee w4 ⟨vv, rfl, ⟨B1, z1, B2, z2, rfl, hf4⟩, hr4, hg4⟩
 clear Gi
 have bx := ak (Below.refl w4.heap.size w4) (.cells #[.int .i64 x0, .slice B1 x1.length z1, .slice B2 x2.length z2] 25)
 have R5 := gz (ab.RS.below hr4 bx)
 have RC5 := gz (ab.RC.below (RC0.out.gb hg4 Z11) bx)
 have G5 := gz (ab.GB.below (G0.out.trans hg4) bx)
 have S4 := gz (Nat.le_trans S0.out hg4.size)
 have N5 := gz (ab.litN k25 w4 ⟨x0, x1, x2⟩ [.int .i64 x0, .slice B1 x1.length z1, .slice B2 x2.length z2] 25 (w.heap.size + 1) (fun k => w.heap.size + 1 ≤ k) _ (Kd.FK_bound hf4) (fun k hk => ⟨Nat.le_trans S0.out hk.1, hk.2⟩) (Nat.le_trans S0.out hg4.size) (Nat.le_trans S0.out hg4.size))
 have S5 := gz (Nat.le_trans S4.out bx.size)
 clear hr4 hg4 hf4 RC0 G0 HR0 HX bx
 go_wp2
 generalize (w4.alloc (.cells #[.int .i64 x0, .slice B1 x1.length z1, .slice B2 x2.length z2] 25)) = X5 at R5 RC5 G5 N5 S5 ⊢
 go_loopg [9] k (fun gk v9 wr => ∃ (acc : List S25) (a0 e0 : Int), aa (ab.rowL k s one sign op gk acc a0 e0 = some (L, a3, e3)) ∧ aa (ab.RS wr g s a0 e0 op) ∧ aa (ab.RC wr w.heap.size) ∧ aa (ab.GB w wr g) ∧ aa (Kd.N k25 25 wr (w.heap.size + 1) (fun k => w.heap.size + 1 ≤ k) v9 acc) ∧ aa (w.heap.size + 1 ≤ wr.heap.size))
 case atStart => exact ⟨_, a1, e1, HL, R5, RC5, G5, N5, S5⟩
 case round =>
  clear HL R5 RC5 G5 N5 S5
  obtain ⟨acc, a0, e0, HL, R0, RC0, G0, N0, S0⟩ := hrel
  cases gk with
  | zero => exact absurd HL.out (by simp [ab.rowL])
  | succ gk =>
   have hh := HL.out
   rw [ab.rowL] at hh
   obtain ⟨⟨c, a'⟩, hp, hh⟩ := Option.bind_eq_some_iff.mp hh
   dsimp only at hh
   have HPK := gz hp
   have HH := gz hh
   clear hp hh HL
   go_wp2_with fail
   refine (ab.peekR HPK.out g e0 op wr R0.out).mono ?_
   rintro ee w1 ⟨rfl, hr1, hg1⟩
   have Rf := gz hr1
   have RCf := gz (ab.RC.gb RC0.out hg1 Z11)
   have Gf := gz (G0.out.trans hg1)
   have HN := gz (Kd.N_grown N0.out hg1 (fun k hk e => by have := Option.some.inj e; have := hgw.out; omega))
   have SZ := gz (Nat.le_trans S0.out hg1.size)
   clear hr1 hg1 R0 RC0 G0 N0 S0 HPK
   have h := HH.out
   clear HH
   by_cases kc : c = sign
   ·have bc : (c == sign) = true := beq_iff_eq.mpr kc
    rw [if_pos kc] at h
    obtain ⟨hln, h⟩ := ab.ite_some h
    obtain ⟨⟨⟨y0, y1, y2⟩, a6, e6⟩, hy, h⟩ := Option.bind_eq_some_iff.mp h
    have HY := gz hy
    have HL := gz h
    have HLN := gz hln
    clear hy h hln
    replace kc := gz kc
    go_wp2_with fail
    refine (ab.takeR g s a' e0 op 1 w1 Rf.out).mono ?_
    rintro ee w2 ⟨rfl, hr2, hg2⟩
    have R2 := gz hr2
    have RC2 := gz (ab.RC.gb RCf.out hg2 Z11)
    have G2 := gz (Gf.out.trans hg2)
    have N2 := gz (Kd.N_grown HN.out hg2 (fun k hk e => by have := Option.some.inj e; have := hgw.out; omega))
    have S2 := gz (Nat.le_trans SZ.out hg2.size)
    clear hr2 hg2 Rf RCf Gf HN SZ
    have Gi := G2
    go_wp2_with fail
    refine (HA b g (wrap64 (a' + 1)) (wrap64 (a' + 1)) op ⟨y0, y1, y2⟩ a6 e6 w2 HBG.out (((Gi.out.block b HBL.out (fun e => HBG.out (Option.some.inj e)))).trans HI.out) R2.out HY.out).mono ?_
    rintro ee w3 ⟨vv, rfl, ⟨D1, d1, D2, d2, rfl, hf3⟩, hr3, hg3⟩
    have R3 := gz hr3
    have RC3 := gz (ab.RC.gb RC2.out hg3 Z11)
    have G3 := gz (G2.out.trans hg3)
    have N3 := gz (Kd.N_grown N2.out hg3 (fun k hk e => by have := Option.some.inj e; have := hgw.out; omega))
    have S3 := gz (Nat.le_trans S2.out hg3.size)
    have F3 := gz hf3
    have HOKP := gz (show ∀ k, w2.heap.size ≤ k → w.heap.size + 1 ≤ k ∧ some k ≠ u9.ownBlock from fun k hk => ⟨Nat.le_trans S2.out hk, fun e => by have := Kd.N_lt N2.out k e.symm; omega⟩)
    clear hr3 hg3 hf3 R2 RC2 G2 N2 HY
    go_wp2_with (first | ((with_reducible refine aK (b := .append) (xs := #[.tmp 19, .tmp 22]) rfl ?_); at_builtin; refine Kd.N_append k25 (w0 := w3) (w.heap.size + 1) rfl (.tmp 19) (.tmp 22) 23 25 (.agg #[(.int .i64 0), (.slice none 0 0), (.slice none 0 0)]) 56 rfl Tryz.underlying23 fw rfl Z27 Z8 u9 acc ⟨y0, y1, y2⟩ [.int .i64 y0, .slice D1 y1.length d1, .slice D2 y2.length d2] (fun k => w.heap.size + 1 ≤ k) (fun k => w2.heap.size ≤ k) rfl rfl F3.out HOKP.out (fun k hk => Nat.le_trans S3.out hk) N3.out (Below.refl _ _) S3.out ?aL ?_; (case aL => have := HLN.out; omega); intro v3 w5 hr hb hg5 hat))
    go_roundg gk
    case measure => omega
    case rel => exact ⟨acc ++ [⟨y0, y1, y2⟩], a6, e6, HL, ⟨(hb.block g Z11).trans R3.out⟩, ⟨(hb.block w.heap.size Z8).trans RC3.out⟩, ⟨⟨hb.os.trans G3.out.os, hb.tape.trans G3.out.tape, hb.output.trans G3.out.output, Nat.le_trans G3.out.size hb.size, fun i hi he => (hb.block i Z8).trans (G3.out.block i hi he)⟩⟩, ⟨hr⟩, ⟨Nat.le_trans S3.out hb.size⟩⟩
   ·have bc : (c == sign) = false := beq_eq_false_iff_ne.mpr kc
    rw [if_neg kc] at h
    simp only [Option.some.injEq, Prod.mk.injEq] at h
    obtain ⟨rfl, rfl, rfl⟩ := h
    replace kc := gz kc
    obtain ⟨A7, d7, h7⟩ := Kd.N_slice HN.out
    subst h7
    rcases acc with _ | ⟨⟨x0, x1, x2⟩, _ | ⟨y, acc⟩⟩
    ·obtain ⟨⟨q0, q1, q2, qe⟩, hq, hr⟩ := Option.bind_eq_some_iff.mp HF.out
     dsimp only at hr
     obtain ⟨hqe, hr⟩ := ab.ite_some hr
     subst hqe
     obtain ⟨z, hz0, hr⟩ := Option.bind_eq_some_iff.mp hr
     obtain ⟨rfl, hz⟩ := ab.szd_some hz0
     dsimp only at hr hz
     simp only [Option.some.injEq, Prod.mk.injEq] at hr
     obtain ⟨rfl, rfl, rfl⟩ := hr
     have HQ := gz (show ac.f k kind ([]) = some (q0, q1, q2, 0) from hq)
     have HZ := gz hz
     have HVN := gz (show Kd.V k25 25 w1 w1.heap.size (fun k => w.heap.size + 1 ≤ k) (.slice A7 ([]).length d7) ([]) from Kd.N_V HN.out)
     obtain ⟨n, hn⟩ : ∃ n, ([]).length = n := ⟨_, rfl⟩
     have dl : ((n : Int) == 1) = false := beq_eq_false_iff_ne.mpr (by rw [← hn]; simp; try omega)
     have HNn := gz hn
     rw [hn]
     clear hq hz hz0 hr hn HF
     go_wp2_with fail
     refine (show Calls Tryz.prog 78 #[.int .i64 kind, .slice A7 n d7] w1 _ from HNn.out ▸ (ac.calls k kind (fun k => w.heap.size + 1 ≤ k) A7 d7 ([]) q0 q1 q2 0 w1 HVN.out HQ.out)).mono ?_
     rintro ee w9 ⟨v1, v2, rfl, h1, h2, hb9⟩
     obtain ⟨B1, y1, rfl, n1, g1⟩ := h1
     obtain ⟨B2, y2, rfl, n2, g2⟩ := h2
     have FX := gz (show Kd.FK k25 w9 (fun k => w.heap.size + 1 ≤ k) ⟨q0, q1, q2⟩ [.int .i64 q0, .slice B1 q1.length y1, .slice B2 q2.length y2] from bP w9 _ ⟨q0, q1, q2⟩ n1 (Kd.F_mono g1 (fun k hk => by have := SZ.out; rcases hk with hk | hk <;> omega)) n2 (Kd.F_mono g2 (fun k hk => by have := SZ.out; rcases hk with hk | hk <;> omega)))
     have R9 := gz (Rf.out.below hb9)
     have RC9 := gz (RCf.out.below hb9)
     have G9 := gz (Gf.out.below hb9)
     clear n1 g1 n2 g2 hb9 Rf RCf Gf HVN HN
     go_wp2_with fail
     refine (ab.madeR ⟨q0, q1, q2⟩ B1 y1 B2 y2 _ w9 (fun k => w.heap.size + 1 ≤ k) HZ.out FX.out).mono ?_
     rintro ee w10 ⟨rfl, hf10, hb10⟩
     have Rf := gz (R9.out.below hb10)
     have RCf := gz (RC9.out.below hb10)
     have Gf := gz (G9.out.below hb10)
     have FXf := gz (Kd.FK_mono hf10 (ok' := fun k => w.heap.size + 1 ≤ k) (fun k hk => hk.1))
     clear hf10 hb10 R9 RC9 G9 FX
     have s0 := (ah RCf.out 0).trans rfl
     have s1 := (ah RCf.out 1).trans rfl
     have s2 := (ah RCf.out 2).trans rfl
     have f0 := ag RCf.out 0
     have f1 := ag RCf.out 1
     have f2 := ag RCf.out 2
     go_wp2
     obtain ⟨u1, u2⟩ := ab.TV.fin (t := ⟨q0, q1, q2⟩) (m := w.heap.size) RCf.out FXf.out (Nat.lt_succ_self _)
     refine bodyPost_ret (bq rfl (.cell w.heap.size 25 _ (0, 0) _ rfl u1 Tryz.underlying25 rfl Z5 .nil)) rfl ?_
     exact ⟨_, rfl, ab.TV.mono u2 (Nat.le_succ _), Rf.out.set3 Z11 _ _ _, Gf.out.set3 (Nat.le_refl _) _ _ _⟩
    ·obtain ⟨rfl, rfl, rfl⟩ : (⟨x0, x1, x2⟩ : S25) = x ∧ a' = a2 ∧ e0 = e2 := by simpa using HF.out
     obtain ⟨ad, B1, y1, B2, y2, hA, p0, p1, p2, n1, g1, n2, g2⟩ := ae.V_at3 (E := fun k => w.heap.size + 1 ≤ k) (show Kd.V k25 25 w1 0 (fun k => w.heap.size + 1 ≤ k) (.slice A7 [(⟨x0, x1, x2⟩ : S25)].length d7) [⟨x0, x1, x2⟩] from Kd.N_V HN.out) 0 Z24
     subst hA
     have p0 : w1.cell? ad = some (.int .i64 x0) := p0
     have p1 : w1.cell? ⟨ad.block, ad.off + 1, none⟩ = some (.slice B1 x1.length y1) := p1
     have p2 : w1.cell? ⟨ad.block, ad.off + 2, none⟩ = some (.slice B2 x2.length y2) := p2
     have FXf := gz (show Kd.FK k25 w1 (fun k => w.heap.size + 1 ≤ k) ⟨x0, x1, x2⟩ [.int .i64 x0, .slice B1 x1.length y1, .slice B2 x2.length y2] from bP w1 _ ⟨x0, x1, x2⟩ n1 g1 n2 g2)
     clear n1 g1 n2 g2 HF
     have s0 := (ah RCf.out 0).trans rfl
     have s1 := (ah RCf.out 1).trans rfl
     have s2 := (ah RCf.out 2).trans rfl
     have f0 := ag RCf.out 0
     have f1 := ag RCf.out 1
     have f2 := ag RCf.out 2
     go_wp2
     obtain ⟨u1, u2⟩ := ab.TV.fin (t := ⟨x0, x1, x2⟩) (m := w.heap.size) RCf.out FXf.out (Nat.lt_succ_self _)
     refine bodyPost_ret (bq rfl (.cell w.heap.size 25 _ (0, 0) _ rfl u1 Tryz.underlying25 rfl Z5 .nil)) rfl ?_
     exact ⟨_, rfl, ab.TV.mono u2 (Nat.le_succ _), Rf.out.set3 Z11 _ _ _, Gf.out.set3 (Nat.le_refl _) _ _ _⟩
    ·obtain ⟨⟨q0, q1, q2, qe⟩, hq, hr⟩ := Option.bind_eq_some_iff.mp HF.out
     dsimp only at hr
     obtain ⟨hqe, hr⟩ := ab.ite_some hr
     subst hqe
     obtain ⟨z, hz0, hr⟩ := Option.bind_eq_some_iff.mp hr
     obtain ⟨rfl, hz⟩ := ab.szd_some hz0
     dsimp only at hr hz
     simp only [Option.some.injEq, Prod.mk.injEq] at hr
     obtain ⟨rfl, rfl, rfl⟩ := hr
     have HQ := gz (show ac.f k kind (⟨x0, x1, x2⟩ :: y :: acc) = some (q0, q1, q2, 0) from hq)
     have HZ := gz hz
     have HVN := gz (show Kd.V k25 25 w1 w1.heap.size (fun k => w.heap.size + 1 ≤ k) (.slice A7 (⟨x0, x1, x2⟩ :: y :: acc).length d7) (⟨x0, x1, x2⟩ :: y :: acc) from Kd.N_V HN.out)
     obtain ⟨n, hn⟩ : ∃ n, (⟨x0, x1, x2⟩ :: y :: acc).length = n := ⟨_, rfl⟩
     have dl : ((n : Int) == 1) = false := beq_eq_false_iff_ne.mpr (by rw [← hn]; simp; try omega)
     have HNn := gz hn
     rw [hn]
     clear hq hz hz0 hr hn HF
     go_wp2_with fail
     refine (show Calls Tryz.prog 78 #[.int .i64 kind, .slice A7 n d7] w1 _ from HNn.out ▸ (ac.calls k kind (fun k => w.heap.size + 1 ≤ k) A7 d7 (⟨x0, x1, x2⟩ :: y :: acc) q0 q1 q2 0 w1 HVN.out HQ.out)).mono ?_
     rintro ee w9 ⟨v1, v2, rfl, h1, h2, hb9⟩
     obtain ⟨B1, y1, rfl, n1, g1⟩ := h1
     obtain ⟨B2, y2, rfl, n2, g2⟩ := h2
     have FX := gz (show Kd.FK k25 w9 (fun k => w.heap.size + 1 ≤ k) ⟨q0, q1, q2⟩ [.int .i64 q0, .slice B1 q1.length y1, .slice B2 q2.length y2] from bP w9 _ ⟨q0, q1, q2⟩ n1 (Kd.F_mono g1 (fun k hk => by have := SZ.out; rcases hk with hk | hk <;> omega)) n2 (Kd.F_mono g2 (fun k hk => by have := SZ.out; rcases hk with hk | hk <;> omega)))
     have R9 := gz (Rf.out.below hb9)
     have RC9 := gz (RCf.out.below hb9)
     have G9 := gz (Gf.out.below hb9)
     clear n1 g1 n2 g2 hb9 Rf RCf Gf HVN HN
     go_wp2_with fail
     refine (ab.madeR ⟨q0, q1, q2⟩ B1 y1 B2 y2 _ w9 (fun k => w.heap.size + 1 ≤ k) HZ.out FX.out).mono ?_
     rintro ee w10 ⟨rfl, hf10, hb10⟩
     have Rf := gz (R9.out.below hb10)
     have RCf := gz (RC9.out.below hb10)
     have Gf := gz (G9.out.below hb10)
     have FXf := gz (Kd.FK_mono hf10 (ok' := fun k => w.heap.size + 1 ≤ k) (fun k hk => hk.1))
     clear hf10 hb10 R9 RC9 G9 FX
     have s0 := (ah RCf.out 0).trans rfl
     have s1 := (ah RCf.out 1).trans rfl
     have s2 := (ah RCf.out 2).trans rfl
     have f0 := ag RCf.out 0
     have f1 := ag RCf.out 1
     have f2 := ag RCf.out 2
     go_wp2
     obtain ⟨u1, u2⟩ := ab.TV.fin (t := ⟨q0, q1, q2⟩) (m := w.heap.size) RCf.out FXf.out (Nat.lt_succ_self _)
     refine bodyPost_ret (bq rfl (.cell w.heap.size 25 _ (0, 0) _ rfl u1 Tryz.underlying25 rfl Z5 .nil)) rfl ?_
     exact ⟨_, rfl, ab.TV.mono u2 (Nat.le_succ _), Rf.out.set3 Z11 _ _ _, Gf.out.set3 (Nat.le_refl _) _ _ _⟩
theorem ab.alt1R {k : Nat} {s : ByteArray} {cat : ab.PF} (HC : ab.RCall s 89 cat) (b g : Nat) (a e op : Int) (x : S25) (a2 e2 : Int) (w : World) (hbg : b ≠ g) (hI : w.heap[b]? = some (.cells #[.pointer (some ⟨g, 0, none⟩)] 59 (0, 0))) (hR : ab.RS w g s a e op) (h : ab.rowF k s 38 5 cat a e op = some (x, a2, e2)) :
  Calls Tryz.prog 88 #[.pointer (some ⟨b, 0, none⟩)] w fun ee w' => ∃ v, ee = .returned v ∧ ab.TV w.heap.size w' v x ∧ ab.RS w' g s a2 e2 op ∧ ab.GB w w' g := by
 have HR0 := gz (hR.below (ak (Below.refl _ _) (.cells #[.int .i64 0, .slice none 0 0, .slice none 0 0] 25)))
 have hgw := gz hR.lt
 have H := gz h
 have p0 := (ah (au hI (.cells #[.int .i64 0, .slice none 0 0, .slice none 0 0] 25)) 0).trans rfl
 have q0 := (ah hI 0).trans rfl
 have n0 := World.new_ne w _ q0
 clear hR h
 obtain ⟨x0, x1, x2⟩ := x
 go_enter Tryz.func88, Tryz.ntmps88
 have RC0 := gz (ab.RC.new w)
 have G0 := gz (ab.GB.of (ak (Below.refl w.heap.size w) (.cells #[.int .i64 0, .slice none 0 0, .slice none 0 0] 25)) g)
 have S0 := gz (show w.heap.size + 1 ≤ (w.alloc (.cells #[.int .i64 0, .slice none 0 0, .slice none 0 0] 25)).heap.size from Nat.le_of_eq (bL _ _).symm)
 go_upto_region 1 with (fail)
 generalize (w.alloc (.cells #[.int .i64 0, .slice none 0 0, .slice none 0 0] 25)) = X at HR0 RC0 G0 S0 p0 ⊢
 go_wp2_with fail
 refine (ab.row89 38 5 HC g a e op ⟨x0, x1, x2⟩ a2 e2 X HR0.out H.out).mono ?_
 rintro ee w4 ⟨vv, rfl, ⟨B1, z1, B2, z2, rfl, hf4⟩, hr4, hg4⟩
 have Rf := gz hr4
 have RCf := gz (RC0.out.gb hg4 Z11)
 have Gf := gz (G0.out.trans hg4)
 have FXf := gz (show Kd.FK k25 w4 (fun k => w.heap.size + 1 ≤ k) ⟨x0, x1, x2⟩ [.int .i64 x0, .slice B1 x1.length z1, .slice B2 x2.length z2] from Kd.FK_mono hf4 (fun k hk => Nat.le_trans S0.out hk))
 clear hr4 hg4 hf4 RC0 G0 HR0 p0 q0 n0
 have s0 := (ah RCf.out 0).trans rfl
 have s1 := (ah RCf.out 1).trans rfl
 have s2 := (ah RCf.out 2).trans rfl
 have f0 := ag RCf.out 0
 have f1 := ag RCf.out 1
 have f2 := ag RCf.out 2
 go_wp2
 obtain ⟨u1, u2⟩ := ab.TV.fin (t := ⟨x0, x1, x2⟩) (m := w.heap.size) RCf.out FXf.out (Nat.lt_succ_self _)
 refine bodyPost_ret (bq rfl (.cell w.heap.size 25 _ (0, 0) _ rfl u1 Tryz.underlying25 rfl Z5 .nil)) rfl ?_
 exact ⟨_, rfl, ab.TV.mono u2 (Nat.le_succ _), Rf.out.set3 Z11 _ _ _, Gf.out.set3 (Nat.le_refl _) _ _ _⟩
theorem ab.altR {k : Nat} {s : ByteArray} {cat : ab.PF} (HC : ab.RCall s 89 cat) : ab.RCall s 73 (ab.rowF k s 124 4 (ab.rowF k s 38 5 cat)) := by
 intro g a e op x a2 e2 w hR h
 have hgw := gz hR.lt
 have H := gz h
 have L1 := ak (Below.refl w.heap.size w) (.cells #[.pointer (some ⟨g, 0, none⟩)] 59)
 have R1 := hR.below L1
 have N1 := a8 w (.cells #[.pointer (some ⟨g, 0, none⟩)] 59)
 have z1 : (w.alloc (.cells #[.pointer (some ⟨g, 0, none⟩)] 59)).heap.size = w.heap.size + 1 := bL _ _
 clear hR h
 obtain ⟨x0, x1, x2⟩ := x
 go_enter Tryz.func73, Tryz.ntmps73
 go_upto_region 1 with (fail)
 generalize (w.alloc (.cells #[.pointer (some ⟨g, 0, none⟩)] 59)) = W1 at *
 have L2 := ak (Below.refl W1.heap.size W1) (.cells #[.int .i64 0, .slice none 0 0, .slice none 0 0] 25)
 have R2 := gz (R1.below L2)
 have N2 := gz (ao N1 L2)
 have G2 := gz (ab.GB.of (ai L1 L2) g)
 have RC2 := ab.RC.new W1
 rw [z1] at RC2
 have RC0 := gz RC2
 have z2 : (W1.alloc (.cells #[.int .i64 0, .slice none 0 0, .slice none 0 0] 25)).heap.size = w.heap.size + 1 + 1 := (bL _ _).trans (by rw [z1])
 have S2 := gz (Nat.le_of_eq z2.symm)
 generalize (W1.alloc (.cells #[.int .i64 0, .slice none 0 0, .slice none 0 0] 25)) = X at R2 N2 G2 RC0 S2 ⊢
 clear L1 R1 N1 L2 RC2 z1 z2
 have p0 := (ah N2.out 0).trans rfl
 go_wp2_with fail
 refine (ab.row88 (k := k) 124 4 (fun b g a e op x a2 e2 w => ab.alt1R (k := k) HC b g a e op x a2 e2 w) g a e op ⟨x0, x1, x2⟩ a2 e2 X R2.out H.out w.heap.size Z11 N2.out).mono ?_
 rintro ee w4 ⟨vv, rfl, ⟨B1, z1, B2, z2, rfl, hf4⟩, hr4, hg4⟩
 have Rf := gz hr4
 have RCf := gz (ab.RC.gb RC0.out hg4 Z11)
 have Gf := gz (G2.out.trans hg4)
 have FXf := gz (show Kd.FK k25 w4 (fun k => w.heap.size + 1 + 1 ≤ k) ⟨x0, x1, x2⟩ [.int .i64 x0, .slice B1 x1.length z1, .slice B2 x2.length z2] from Kd.FK_mono hf4 (fun k hk => Nat.le_trans S2.out hk))
 clear hr4 hg4 hf4 RC0 G2 R2 p0
 have s0 := (ah RCf.out 0).trans rfl
 have s1 := (ah RCf.out 1).trans rfl
 have s2 := (ah RCf.out 2).trans rfl
 have f0 := ag RCf.out 0
 have f1 := ag RCf.out 1
 have f2 := ag RCf.out 2
 go_wp2
 obtain ⟨u1, u2⟩ := ab.TV.fin (t := ⟨x0, x1, x2⟩) (m := w.heap.size + 1) RCf.out FXf.out (Nat.lt_succ_self _)
 refine bodyPost_ret (bq rfl (.cell (w.heap.size + 1) 25 _ (0, 0) _ rfl u1 Tryz.underlying25 rfl Z5 .nil)) rfl ?_
 exact ⟨_, rfl, ab.TV.mono u2 Z8, Rf.out.set3 Z11 _ _ _, Gf.out.set3 Z8 _ _ _⟩
theorem ab.readR (k : Nat) (s : ByteArray) : ∀ n, ab.RCall s 73 (ab.altP k s n) ∧ ab.RCall s 104 (ab.preP k s n)
 | 0 => ⟨fun g a e op x a2 e2 w hR h => by simp [ab.altP] at h, fun g a e op x a2 e2 w hR h => by simp [ab.preP] at h⟩
 | n + 1 => by
  obtain ⟨h1, h2⟩ := ab.readR k s n
  rw [ab.altP, ab.preP]
  exact ⟨ab.altR (ab.catR h2), ab.preR h2 (ab.postR (ab.atomR h1))⟩
set_option maxHeartbeats 4000000 in
theorem ab.idleR (p q : Value) (w : World) :
  CallsD Tryz.prog 72 #[p, q] .returning w fun e u' w' => e = .returned (.tuple #[]) ∧ u' = .returning ∧ Below w.heap.size w w' := by
 refine callsD_of_wpS Tryz.func72 rfl fun c₀ cs hu => ?_
 apply wpS_seq
 apply wpS_region
 simp [wpOpsS, go_sem, recoverD, hu, Tryz.ntmps72, Exit.thenS]
 refine wpS_of_wp ?_
 have hta : ∀ w : World, (Instr.typeAssert .nilIface 20 88 true).run Tryz.prog w = .ok (.tuple #[.agg #[.int .i64 0, .int .i64 0], .bool false]) w := fun w => by
  have hu := run_underlying (w := w) Tryz.underlying88
  have hz := Tryz.zeroValue88 (w := w)
  simp [Instr.typeAssert, hu, hz, Result.andThen]
 have er : (Array.replicate 20 undef : Array Value) = #[undef, undef, undef, undef, undef, undef, undef, undef, undef, undef, undef, undef, undef, undef, undef, undef, undef, undef, undef, undef] := rfl
 simp only [er, List.setIfInBounds_toArray, List.set_cons_zero, List.set_cons_succ, List.append_toArray, List.cons_append, List.nil_append]
 go_wp2
 cases c₀
 simp_all [bodyPostS, results, Tryz.results72]
 exact ak (Below.refl _ _) _
set_option maxHeartbeats 4000000 in
theorem ab.readC {k n : Nat} {s : ByteArray} {a : Int} {x : S25} {a2 e2 : Int} (h : ab.altP k s n a 0 0 = some (x, a2, e2)) (w : World) :
  Calls Tryz.prog 48 #[.string s, .int .i64 a] w fun ee w' => ∃ g v, ee = .returned (.tuple #[v, .pointer (some ⟨g, 0, none⟩), .agg #[.int .i64 0, .int .i64 0]]) ∧ ab.TV (g + 1) w' v x ∧ w.heap.size ≤ g ∧ ab.RS w' g s a2 e2 0 ∧ Below w.heap.size w w' := by
 have hmf : ∀ (fn : Fn) (first cap : Array Value) (w : World), (Instr.makeFunc fn first cap).run Tryz.prog w = .ok (.func fn first cap) w := fun _ _ _ _ => rfl
 have H := gz h
 clear h
 obtain ⟨x0, x1, x2⟩ := x
 have K1 := a8 w (.cells #[.int .i64 0, .slice none 0 0, .slice none 0 0] 25)
 have L1 : Below w.heap.size w (w.alloc (.cells #[.int .i64 0, .slice none 0 0, .slice none 0 0] 25)) := ak (Below.refl _ _) _
 have z1 : (w.alloc (.cells #[.int .i64 0, .slice none 0 0, .slice none 0 0] 25)).heap.size = w.heap.size + 1 := bL _ _
 go_enter_defers Tryz.func48, Tryz.ntmps48
 go_upto_region 1 with (fail)
 generalize (w.alloc (.cells #[.int .i64 0, .slice none 0 0, .slice none 0 0] 25)) = W1 at *
 have K2 := a8 W1 (.cells #[.int .i64 0, .int .i64 0] 42)
 have L2 : Below W1.heap.size W1 (W1.alloc (.cells #[.int .i64 0, .int .i64 0] 42)) := ak (Below.refl _ _) _
 have z2 : (W1.alloc (.cells #[.int .i64 0, .int .i64 0] 42)).heap.size = w.heap.size + 1 + 1 := (bL _ _).trans (by rw [z1])
 rw [z1] at K2
 have K12 := ao K1 L2
 generalize (W1.alloc (.cells #[.int .i64 0, .int .i64 0] 42)) = W2 at *
 have R3 := a8 W2 (.cells #[.string s, .int .i64 a, .int .i64 0, .int .i64 0, .int .i64 0] 64)
 have L3 : Below W2.heap.size W2 (W2.alloc (.cells #[.string s, .int .i64 a, .int .i64 0, .int .i64 0, .int .i64 0] 64)) := ak (Below.refl _ _) _
 have z3 : (W2.alloc (.cells #[.string s, .int .i64 a, .int .i64 0, .int .i64 0, .int .i64 0] 64)).heap.size = w.heap.size + 1 + 1 + 1 := (bL _ _).trans (by rw [z2])
 rw [z2] at R3
 have K13 := gz (ao K12 L3)
 have K23 := gz (ao K2 L3)
 have LL := gz (ai (ai L1 L2) L3)
 have S3 := gz z3
 have RR := gz (show ab.RS _ (w.heap.size + 1 + 1) s a 0 0 from R3)
 go_upto_region 2 with (fail)
 clear K1 K2 K12 R3 L1 L2 L3 z1 z2 z3
 generalize (W2.alloc (.cells #[.string s, .int .i64 a, .int .i64 0, .int .i64 0, .int .i64 0] 64)) = X at K13 K23 LL S3 RR ⊢
 go_wp2_with fail
 refine ((ab.readR k s n).1 (w.heap.size + 1 + 1) a 0 0 ⟨x0, x1, x2⟩ a2 e2 X RR.out H.out).mono ?_
 rintro ee w4 ⟨vv, rfl, ⟨B1, z1, B2, z2, rfl, hf4⟩, hr4, hg4⟩
 have R4 := gz hr4
 have N1 := gz ((hg4.block w.heap.size (by have := S3.out; omega) (fun e => by have := Option.some.inj e; omega)).trans K13.out)
 have N2 := gz ((hg4.block (w.heap.size + 1) (by have := S3.out; omega) (fun e => by have := Option.some.inj e; omega)).trans K23.out)
 have L4 := gz (show Below w.heap.size w w4 from ⟨hg4.os.trans LL.out.os, hg4.tape.trans LL.out.tape, hg4.output.trans LL.out.output, Nat.le_trans LL.out.size hg4.size, fun i hi => (hg4.block i (by have := S3.out; omega) (fun e => by have := Option.some.inj e; omega)).trans (LL.out.block i hi)⟩)
 have F4 := gz (show Kd.FK k25 w4 (fun k => w.heap.size + 1 + 1 + 1 ≤ k) ⟨x0, x1, x2⟩ [.int .i64 x0, .slice B1 x1.length z1, .slice B2 x2.length z2] from Kd.FK_mono hf4 (fun k hk => by have := S3.out; omega))
 clear hr4 hg4 hf4 RR K13 K23 LL S3 H
 have s0 := (ah N1.out 0).trans rfl
 have s1 := (ah N1.out 1).trans rfl
 have s2 := (ah N1.out 2).trans rfl
 have f0 := ag N1.out 0
 have f1 := ag N1.out 1
 have f2 := ag N1.out 2
 go_upto_region 4 with (fail)
 obtain ⟨q1, q2⟩ := ab.TV.fin (B := w.heap.size + 1 + 1 + 1) (t := ⟨x0, x1, x2⟩) (m := w.heap.size) N1.out F4.out Z8
 have R5 := gz (R4.out.set3 (m := w.heap.size) Z8 (.int .i64 x0) (.slice B1 x1.length z1) (.slice B2 x2.length z2))
 have N5 := gz ((ae.set3_far w4 w.heap.size (.int .i64 x0) (.slice B1 x1.length z1) (.slice B2 x2.length z2) (w.heap.size + 1) Z8).trans N2.out)
 have L5 := gz (ae.set3_below L4.out (Nat.le_refl _) (.int .i64 x0) (.slice B1 x1.length z1) (.slice B2 x2.length z2))
 have Q1 := gz q1
 have F5 := gz (Kd.FK_step F4.out (W1 := ae.set3 w4 w.heap.size (.int .i64 x0) (.slice B1 x1.length z1) (.slice B2 x2.length z2)) (fun k hk _ => ae.set3_far w4 w.heap.size _ _ _ k Z8))
 change Code.wp Tryz.prog _ _ _ (ae.set3 w4 w.heap.size (.int .i64 x0) (.slice B1 x1.length z1) (.slice B2 x2.length z2))
 generalize ae.set3 w4 w.heap.size (.int .i64 x0) (.slice B1 x1.length z1) (.slice B2 x2.length z2) = w5 at R5 N5 L5 Q1 F5 ⊢
 clear s0 s1 s2 f0 f1 f2 q1 q2
 have s0 := (ah Q1.out 0).trans rfl
 have s1 := (ah Q1.out 1).trans rfl
 have s2 := (ah Q1.out 2).trans rfl
 have f0 := ag Q1.out 0
 have f1 := ag Q1.out 1
 have f2 := ag Q1.out 2
 have t0 := (ah N5.out 0).trans rfl
 have t1 := (ah N5.out 1).trans rfl
 have g0 := ag N5.out 0
 have g1 := ag N5.out 1
 go_wp2
 have R6 := gz (show ab.RS _ (w.heap.size + 1 + 1) s a2 e2 0 from (Below.heap_setCell (ae.set3 w5 w.heap.size (.int .i64 x0) (.slice B1 x1.length z1) (.slice B2 x2.length z2)) ⟨w.heap.size + 1, 0, none⟩ (.int .i64 0) (w.heap.size + 1 + 1) (by show w.heap.size + 1 + 1 ≠ w.heap.size + 1; omega)).trans (R5.out.set3 (m := w.heap.size) Z8 _ _ _))
 have R7 := gz (show ab.RS _ (w.heap.size + 1 + 1) s a2 e2 0 from (Below.heap_setCell _ ⟨w.heap.size + 1, 1, none⟩ (.int .i64 0) (w.heap.size + 1 + 1) (by show w.heap.size + 1 + 1 ≠ w.heap.size + 1; omega)).trans R6.out)
 have Q6 := gz ((Below.heap_setCell (ae.set3 w5 w.heap.size (.int .i64 x0) (.slice B1 x1.length z1) (.slice B2 x2.length z2)) ⟨w.heap.size + 1, 0, none⟩ (.int .i64 0) w.heap.size (by show w.heap.size ≠ w.heap.size + 1; omega)).trans (ae.set3_at (.int .i64 x0) (.slice B1 x1.length z1) (.slice B2 x2.length z2) Q1.out))
 have Q7 := gz ((Below.heap_setCell _ ⟨w.heap.size + 1, 1, none⟩ (.int .i64 0) w.heap.size (by show w.heap.size ≠ w.heap.size + 1; omega)).trans Q6.out)
 have N6 := gz ((ae.set3_far w5 w.heap.size (.int .i64 x0) (.slice B1 x1.length z1) (.slice B2 x2.length z2) (w.heap.size + 1) Z8).trans N5.out)
 have N7 := gz (bG (cs := #[.int .i64 0, .int .i64 0]) (bG (cs := #[.int .i64 0, .int .i64 0]) N6.out 0 (.int .i64 0) rfl) 1 (.int .i64 0) rfl)
 have L7 := gz (((ae.set3_below L5.out (Nat.le_refl _) (.int .i64 x0) (.slice B1 x1.length z1) (.slice B2 x2.length z2)).setCell (p := ⟨w.heap.size + 1, 0, none⟩) (Nat.le_succ _) (.int .i64 0)).setCell (p := ⟨w.heap.size + 1, 1, none⟩) (Nat.le_succ _) (.int .i64 0))
 have F6 := Kd.FK_step F5.out (W1 := ae.set3 w5 w.heap.size (.int .i64 x0) (.slice B1 x1.length z1) (.slice B2 x2.length z2)) (fun k hk _ => ae.set3_far w5 w.heap.size _ _ _ k Z8)
 have F7 := Kd.FK_step F6 (W1 := (ae.set3 w5 w.heap.size (.int .i64 x0) (.slice B1 x1.length z1) (.slice B2 x2.length z2)).setCell ⟨w.heap.size + 1, 0, none⟩ (.int .i64 0)) (fun k hk _ => Below.heap_setCell _ ⟨w.heap.size + 1, 0, none⟩ _ k (by show k ≠ w.heap.size + 1; omega))
 have F8 := gz (Kd.FK_step F7 (W1 := ((ae.set3 w5 w.heap.size (.int .i64 x0) (.slice B1 x1.length z1) (.slice B2 x2.length z2)).setCell ⟨w.heap.size + 1, 0, none⟩ (.int .i64 0)).setCell ⟨w.heap.size + 1, 1, none⟩ (.int .i64 0)) (fun k hk _ => Below.heap_setCell _ ⟨w.heap.size + 1, 1, none⟩ _ k (by show k ≠ w.heap.size + 1; omega)))
 refine leaves_cons (f := 72) (args := #[.pointer (some ⟨w.heap.size, 0, none⟩), .pointer (some ⟨w.heap.size + 1, 0, none⟩)]) Z24 (by simp [go_sem]) ?_
 refine (ab.idleR _ _ _).mono ?_
 rintro e u' w9 ⟨rfl, rfl, hb9⟩
 have Q9 := ao Q7.out hb9
 have N9 := ao N7.out hb9
 refine ⟨_, results_list (rs := [.cell 4 25, .tmp 5, .cell 6 42]) rfl Z24 (.cell w.heap.size 25 _ (0, 0) _ rfl Q9 Tryz.underlying25 rfl Z5 (.tmp (.cell (w.heap.size + 1) 42 _ (0, 0) _ rfl N9 Tryz.underlying42 rfl Z5 .nil))), w.heap.size + 1 + 1, .agg #[.int .i64 x0, .slice B1 x1.length z1, .slice B2 x2.length z2], rfl, ⟨B1, z1, B2, z2, rfl, Kd.FK_mono (Kd.FK_below F8.out hb9) (fun k hk => by omega)⟩, Z8, ab.RS.below R7.out hb9, ai L7.out hb9⟩
def ab.parseP (k n : Nat) (s : ByteArray) : Option S25 := (ab.altP k s n 0 0 0).bind fun x => (ab.pk k s x.2.1).bind fun c => if (s.size : Int) ≤ c.2 then (cK.f k x.1.f0 x.1.f1 x.1.f2).bind fun y => some (ab.mk25 y) else none
set_option maxHeartbeats 4000000 in
theorem ab.parseR {k n : Nat} {s : ByteArray} {x : S25} (h : ab.parseP k n s = some x) (w : World) :
  Calls Tryz.prog 26 #[.string s] w fun ee w' => ∃ v, ee = .returned (.tuple #[v, .agg #[.int .i64 0, .int .i64 0]]) ∧ ab.TV w.heap.size w' v x ∧ Below w.heap.size w w' := by
 unfold ab.parseP at h
 obtain ⟨⟨⟨x0, x1, x2⟩, a2, e2⟩, hx, h⟩ := Option.bind_eq_some_iff.mp h
 obtain ⟨⟨c, a3⟩, hp, h⟩ := Option.bind_eq_some_iff.mp h
 dsimp only at h hp hx
 obtain ⟨hend, h⟩ := ab.ite_some h
 obtain ⟨⟨y0, y1, y2⟩, hy, h⟩ := Option.bind_eq_some_iff.mp h
 obtain rfl := Option.some.inj h
 dsimp only [ab.mk25]
 have HX := gz hx
 have HP := gz hp
 have HY := gz hy
 clear hx hp hy h
 have d1 : decide (a3 < (s.size : Int)) = false := decide_eq_false Z8
 replace hend := gz hend
 have K1 := a8 w (.cells #[.int .i64 0, .slice none 0 0, .slice none 0 0] 25)
 have L1 : Below w.heap.size w (w.alloc (.cells #[.int .i64 0, .slice none 0 0, .slice none 0 0] 25)) := ak (Below.refl _ _) _
 have z1 : (w.alloc (.cells #[.int .i64 0, .slice none 0 0, .slice none 0 0] 25)).heap.size = w.heap.size + 1 := bL _ _
 have hu42 := Tryz.underlying42
 go_enter Tryz.func26, Tryz.ntmps26
 go_upto_region 1 with (fail)
 generalize (w.alloc (.cells #[.int .i64 0, .slice none 0 0, .slice none 0 0] 25)) = W1 at *
 have K2 := a8 W1 (.cells #[.int .i64 0, .int .i64 0] 42)
 have L2 : Below W1.heap.size W1 (W1.alloc (.cells #[.int .i64 0, .int .i64 0] 42)) := ak (Below.refl _ _) _
 have z2 : (W1.alloc (.cells #[.int .i64 0, .int .i64 0] 42)).heap.size = w.heap.size + 1 + 1 := (bL _ _).trans (by rw [z1])
 rw [z1] at K2
 have M1 := gz (ao K1 L2)
 have M2 := gz K2
 have LL := gz (ai L1 L2)
 have Z2 := gz z2
 clear K1 K2 L1 L2 z1 z2
 generalize (W1.alloc (.cells #[.int .i64 0, .int .i64 0] 42)) = W2 at *
 go_wp2_with fail
 refine (ab.readC HX.out W2).mono ?_
 rintro ee w3 ⟨g, v, rfl, ⟨B1, b1, B2, b2, rfl, hf⟩, hgl, hr, hb⟩
 have N1 := gz (ao M1.out hb)
 have N2 := gz (ao M2.out hb)
 have L3 := gz (ai LL.out hb)
 have Z3 := gz (show w.heap.size + 1 + 1 ≤ w3.heap.size from by have := hb.size; have := Z2.out; omega)
 have R3 := gz hr
 have F3 := gz hf
 clear M1 M2 LL hb hr hf HX
 have HG1 := gz (show w.heap.size + 1 + 1 ≤ g from by have := Z2.out; omega)
 have HG2 := gz (bB R3.out)
 clear hgl
 have bx := ak (Below.refl w3.heap.size w3) (.cells #[.int .i64 x0, .slice B1 x1.length b1, .slice B2 x2.length b2] 25)
 have T4 := a8 w3 (.cells #[.int .i64 x0, .slice B1 x1.length b1, .slice B2 x2.length b2] 25)
 have z4 : (w3.alloc (.cells #[.int .i64 x0, .slice B1 x1.length b1, .slice B2 x2.length b2] 25)).heap.size = w3.heap.size + 1 := bL _ _
 have bx2 := ak (Below.refl (w3.alloc (.cells #[.int .i64 x0, .slice B1 x1.length b1, .slice B2 x2.length b2] 25)).heap.size _) (.cells #[.int .i64 0, .int .i64 0] 42)
 have T6' := a8 (w3.alloc (.cells #[.int .i64 x0, .slice B1 x1.length b1, .slice B2 x2.length b2] 25)) (.cells #[.int .i64 0, .int .i64 0] 42)
 rw [z4] at T6'
 have T6 := gz T6'
 have T5 := gz (ao T4 bx2)
 have BB := ai bx bx2
 have R5 := gz (ab.RS.below R3.out BB)
 have F5 := gz (Kd.FK_below F3.out BB)
 have N15 := gz (ao N1.out BB)
 have N25 := gz (ao N2.out BB)
 have L5 := gz (ai L3.out BB)
 clear bx bx2 T4 z4 T6' BB N1 N2 L3 R3 F3
 go_upto_region 2 with (fail)
 generalize ((w3.alloc (.cells #[.int .i64 x0, .slice B1 x1.length b1, .slice B2 x2.length b2] 25)).alloc (.cells #[.int .i64 0, .int .i64 0] 42)) = X5 at T6 T5 R5 F5 N15 N25 L5 ⊢
 obtain ⟨m, hm⟩ : ∃ m, w3.heap.size = m := ⟨_, rfl⟩
 rw [hm] at Z3 HG2 T5 T6
 rw [hm]
 clear hm
 have p0 := (ah T6.out 0).trans rfl
 have p1 := (ah T6.out 1).trans rfl
 go_wp2_with fail
 refine (ab.peekR HP.out g e2 0 X5 R5.out).mono ?_
 rintro ee w6 ⟨rfl, hr6, hg6⟩
 have R6 := gz hr6
 have T56 := gz ((hg6.block m (bB T5.out) (fun e => by have := Option.some.inj e; have := HG2.out; omega)).trans T5.out)
 have T66 := gz ((hg6.block (m + 1) (bB T6.out) (fun e => by have := Option.some.inj e; have := HG2.out; omega)).trans T6.out)
 have N16 := gz ((hg6.block w.heap.size (bB N15.out) (fun e => by have := Option.some.inj e; have := HG1.out; omega)).trans N15.out)
 have N26 := gz ((hg6.block (w.heap.size + 1) (bB N25.out) (fun e => by have := Option.some.inj e; have := HG1.out; omega)).trans N25.out)
 have F6 := gz (Kd.FK_step F5.out (fun k hk hlt => hg6.block k hlt (fun e => by have := Option.some.inj e; omega)))
 have L6 := gz (show Below w.heap.size w w6 from ⟨hg6.os.trans L5.out.os, hg6.tape.trans L5.out.tape, hg6.output.trans L5.out.output, Nat.le_trans L5.out.size hg6.size, fun i hi => (hg6.block i (Nat.lt_of_lt_of_le hi L5.out.size) (fun e => by have := Option.some.inj e; have := HG1.out; omega)).trans (L5.out.block i hi)⟩)
 clear hr6 hg6 R5 T5 T6 N15 N25 F5 L5 p0 p1 HP
 have p0 := (ah T66.out 0).trans rfl
 have p1 := (ah T66.out 1).trans rfl
 have c1 := R6.out.c1
 have c4 : w6.cell? ⟨g, 4, none⟩ = some (.int .i64 0) := (ah R6.out 4).trans rfl
 have q0 := (ah T56.out 0).trans rfl
 have q1 := (ah T56.out 1).trans rfl
 have q2 := (ah T56.out 2).trans rfl
 have s0 := (ah N16.out 0).trans rfl
 have s1 := (ah N16.out 1).trans rfl
 have s2 := (ah N16.out 2).trans rfl
 have f0 := ag N16.out 0
 have f1 := ag N16.out 1
 have f2 := ag N16.out 2
 have t0 := (ah N26.out 0).trans rfl
 have t1 := (ah N26.out 1).trans rfl
 have g0 := ag N26.out 0
 have g1 := ag N26.out 1
 have CF := gz (ab.FK.reads F6.out)
 have hn1 : m ≠ w.heap.size := by have := Z3.out; omega
 have hn2 : m ≠ w.heap.size + 1 := by have := Z3.out; omega
 have hn3 : m + 1 ≠ w.heap.size := by have := Z3.out; omega
 have hn4 : m + 1 ≠ w.heap.size + 1 := by have := Z3.out; omega
 have hn1' := hn1.symm
 have hn2' := hn2.symm
 have hn3' := hn3.symm
 have hn4' := hn4.symm
 have Q9 := gz (show Below w6.heap.size w6 w6.drew from aX (Below.refl _ _))
 go_wp2_with fail
 go_region_held3 (fun w' => w'.cell? ⟨m, 0, none⟩ = some (.int .i64 x0) ∧ w'.cell? ⟨m, 1, none⟩ = some (.slice B1 x1.length b1) ∧ w'.cell? ⟨m, 2, none⟩ = some (.slice B2 x2.length b2) ∧ w'.cell? ⟨m + 1, 0, none⟩ = some (.int .i64 0) ∧ w'.cell? ⟨m + 1, 1, none⟩ = some (.int .i64 0)) (go_keep) ((go_at_call 50; refine (cK.calls k x0 B1 b1 x1 B2 b2 x2 y0 y1 y2 _ (Kd.C_below CF.out.1 Q9.out) CF.out.2.1 (Kd.C_below CF.out.2.2.1 Q9.out) CF.out.2.2.2 HY.out).mono ?_; rintro ee w7 ⟨v1, v2, rfl, h1, h2, hb⟩; have e0 := (hb.cell (World.block_lt_of_cell? _ _ q0)).trans q0; have e1 := (hb.cell (World.block_lt_of_cell? _ _ q1)).trans q1; have e2' := (hb.cell (World.block_lt_of_cell? _ _ q2)).trans q2; have e3 := (hb.cell (World.block_lt_of_cell? _ _ p0)).trans p0; have e4 := (hb.cell (World.block_lt_of_cell? _ _ p1)).trans p1; have N17 := ao (w := w6.drew) N16.out hb; have N27 := ao (w := w6.drew) N26.out hb; have j0 := (ah N17 0).trans rfl; have j1 := (ah N17 1).trans rfl; have j2 := (ah N17 2).trans rfl; have k0 := ag N17 0; have k1 := ag N17 1; have k2 := ag N17 2; have l0 := (ah N27 0).trans rfl; have l1 := (ah N27 1).trans rfl; have m0 := ag N27 0; have m1 := ag N27 1; obtain ⟨C1, u1, rfl⟩ := Kd.R_slice h1; obtain ⟨C2, u2, rfl⟩ := Kd.R_slice h2))
 have FX := bP w7 (fun k => w6.heap.size ≤ k) ⟨y0, y1, y2⟩ (Kd.R_reads' h1).2.1 (Kd.R_F (Kd.R_mono (Kd.R_bound h1) (fun k hk => hk.2.1))) (Kd.R_reads' h2).2.1 (Kd.R_F (Kd.R_mono (Kd.R_bound h2) (fun k hk => hk.2.1)))
 have hw6 := gz (show w.heap.size + 1 + 1 ≤ w6.heap.size from by have := Z3.out; have := bB T56.out; omega)
 have F7 := gz (Kd.FK_mono FX (ok' := fun k => w.heap.size + 1 + 1 ≤ k) (fun k hk => Nat.le_trans hw6.out hk))
 have L7 := gz (show Below w.heap.size w w7 from ai L6.out (ai Q9.out hb))
 have M17 := gz N17
 have M27 := gz N27
 clear FX h1 h2 hb N17 N27
 go_wp2
 have Q6 := gz ((Below.heap_setCell (ae.set3 w7 w.heap.size (.int .i64 y0) (.slice C1 y1.length u1) (.slice C2 y2.length u2)) ⟨w.heap.size + 1, 0, none⟩ (.int .i64 0) w.heap.size (by show w.heap.size ≠ w.heap.size + 1; omega)).trans (ae.set3_at (.int .i64 y0) (.slice C1 y1.length u1) (.slice C2 y2.length u2) M17.out))
 have Q7 := gz ((Below.heap_setCell _ ⟨w.heap.size + 1, 1, none⟩ (.int .i64 0) w.heap.size (by show w.heap.size ≠ w.heap.size + 1; omega)).trans Q6.out)
 have N6 := gz ((ae.set3_far w7 w.heap.size (.int .i64 y0) (.slice C1 y1.length u1) (.slice C2 y2.length u2) (w.heap.size + 1) Z8).trans M27.out)
 have N7 := gz (bG (cs := #[.int .i64 0, .int .i64 0]) (bG (cs := #[.int .i64 0, .int .i64 0]) N6.out 0 (.int .i64 0) rfl) 1 (.int .i64 0) rfl)
 have L8 := gz (((ae.set3_below L7.out (Nat.le_refl _) (.int .i64 y0) (.slice C1 y1.length u1) (.slice C2 y2.length u2)).setCell (p := ⟨w.heap.size + 1, 0, none⟩) (Nat.le_succ _) (.int .i64 0)).setCell (p := ⟨w.heap.size + 1, 1, none⟩) (Nat.le_succ _) (.int .i64 0))
 have F8 := Kd.FK_step F7.out (W1 := ae.set3 w7 w.heap.size (.int .i64 y0) (.slice C1 y1.length u1) (.slice C2 y2.length u2)) (fun k hk _ => ae.set3_far w7 w.heap.size _ _ _ k Z8)
 have F9 := Kd.FK_step F8 (W1 := (ae.set3 w7 w.heap.size (.int .i64 y0) (.slice C1 y1.length u1) (.slice C2 y2.length u2)).setCell ⟨w.heap.size + 1, 0, none⟩ (.int .i64 0)) (fun k hk _ => Below.heap_setCell _ ⟨w.heap.size + 1, 0, none⟩ _ k (by show k ≠ w.heap.size + 1; omega))
 have F10 := gz (Kd.FK_step F9 (W1 := ((ae.set3 w7 w.heap.size (.int .i64 y0) (.slice C1 y1.length u1) (.slice C2 y2.length u2)).setCell ⟨w.heap.size + 1, 0, none⟩ (.int .i64 0)).setCell ⟨w.heap.size + 1, 1, none⟩ (.int .i64 0)) (fun k hk _ => Below.heap_setCell _ ⟨w.heap.size + 1, 1, none⟩ _ k (by show k ≠ w.heap.size + 1; omega)))
 refine bodyPost_ret (results_cc rfl _ _ w.heap.size (w.heap.size + 1) 25 42 _ _ (0, 0) (0, 0) _ _ rfl Q7.out Tryz.underlying25 rfl Z5 rfl N7.out Tryz.underlying42 rfl Z5) rfl ?_
 exact ⟨_, rfl, ⟨C1, u1, C2, u2, rfl, Kd.FK_mono F10.out (fun k hk => by omega)⟩, L8.out⟩
end Go.Proofs.YtaccleilcdfapaaGreat.G
