import Derived.Test.YtaccleilcdfapaaGreatPPre
import Derived.Test.YtaccleilcdfapaaGreatPax11
import Derived.Test.YtaccleilcdfapaaGreatPax12
import Derived.Test.YtaccleilcdfapaaGreatPax4
import Derived.Test.YtaccleilcdfapaaGreatPax5
import Derived.Test.YtaccleilcdfapaaGreatPax9
namespace Go.Proofs.YtaccleilcdfapaaGreat.G
open Go.RowKit Go.Proofs.YtaccleilcdfapaaGreatW.PrintWords Go.Proofs.YtaccleilcdfapaaGreatW.PrintLast Go.Proofs.YtaccleilcdfapaaGreatW.PrintMore
attribute [local go_sem] dJ dH dT dS da cZ dI dG
set_option linter.unusedVariables false
set_option maxHeartbeats 8000000
set_option maxRecDepth 100000
set_option linter.unusedSimpArgs false
def ay.txA : ByteArray := ⟨#[91, 97, 45, 99, 93, 42, 32, 38, 32, 33, 34, 98, 34]⟩
def ay.trA : S25 := ⟨5, [], [⟨6, [], [⟨2, [⟨98, 98⟩], []⟩]⟩, ⟨7, [], [⟨2, [⟨97, 99⟩], []⟩]⟩]⟩
theorem ay.awP : ab.parseP 30 3 ay.txA = some ay.trA := by kernel_rfl
theorem ay.awR : bj.f 30 ay.trA.f0 ay.trA.f1 ay.trA.f2 = some true := by kernel_rfl
theorem ay.small_mk {j : Nat} {x : S25} (h : x.f1.length + x.f2.length ≤ 1000000) (hk : ∀ y ∈ x.f2, af.Small j y) : af.Small (j + 1) x := ⟨h, fun i y hi => hk y (List.mem_of_getElem? hi)⟩
theorem ay.awS : af.Small 5 ay.trA := by
 refine ay.small_mk Z22 (fun y hy => ?_)
 simp only [ay.trA, List.mem_cons, List.not_mem_nil, or_false] at hy
 rcases hy with rfl | rfl
 all_goals
  refine ay.small_mk Z22 (fun y hy => ?_)
  simp only [List.mem_cons, List.not_mem_nil, or_false] at hy
  subst hy
  exact ay.small_mk Z22 (fun y hy => by simp at hy)
theorem ay.aw1 : ((af.TK [97, 98] 30 ay.trA 0 0 2 []).map (·.1)) = some true := by kernel_rfl
theorem ay.aw2 : ((af.TK [98] 30 ay.trA 0 0 1 []).map (·.1)) = some false := by kernel_rfl
theorem ay.aw3 : ((af.TK [100] 30 ay.trA 0 0 1 []).map (·.1)) = some false := by kernel_rfl
theorem ay.awZ : af.sizeT ay.trA ≤ 1000000 := by
 have h : af.sizeT ay.trA = 5 := by kernel_rfl
 omega
theorem ay.rowA {w : World} {g : Nat} {cs : Array Value} {row : List Int} (h : w.heap[g]? = some (.cells cs 21 (0, 0))) (hc : cs = (row.map (Value.int .i32)).toArray) : ∀ (i : Nat) (v : Int), row[i]? = some v → w.cell? ⟨g, i, none⟩ = some (.int .i32 v) := fun i v hi => by
 subst hc
 rw [ah h]
 simp [hi]
theorem ay.awakeR (w : World) : Calls Tryz.prog 9 #[] w fun e w' => e = .returned (.bool true) ∧ Below w.heap.size w w' := by
 obtain ⟨tx, htx⟩ : ∃ tx, ay.txA = tx := ⟨_, rfl⟩
 obtain ⟨x, hx⟩ : ∃ x, ay.trA = x := ⟨_, rfl⟩
 have HP := gz ay.awP
 have HR := gz ay.awR
 have HS := gz ay.awS
 have HZ := gz ay.awZ
 have H1 := gz ay.aw1
 have H2 := gz ay.aw2
 have H3 := gz ay.aw3
 rw [hx] at HP HR HS HZ H1 H2 H3
 clear hx
 go_enter Tryz.func9, Tryz.ntmps9
 go_wp2_with fail
 refine (ab.parseR HP.out w).mono ?_
 rintro ee w1 ⟨v, rfl, ⟨A1, c1, A2, c2, rfl, hf⟩, hb⟩
 have B1 := gz hb
 obtain ⟨A1', c1', A2', c2', hcs, l1, f1, l2, f2⟩ := d8 hf
 simp only [List.cons.injEq, Value.slice.injEq, true_and, and_true] at hcs
 obtain ⟨⟨rfl, rfl⟩, ⟨rfl, rfl⟩⟩ := hcs
 have C1 := gz (Kd.F_now f1)
 have C2 := gz (Kd.F_now f2)
 clear hf f1 f2 hb
 go_upto_region 2 with (fail)
 have B3 := gz (aj (aj (Below.refl w1.heap.size w1) (.cells #[.int .i64 x.f0, .slice A1 x.f1.length c1, .slice A2 x.f2.length c2] 25)) (.cells #[.int .i64 0, .int .i64 0] 42))
 have S1 := World.size_alloc w1 (.cells #[.int .i64 x.f0, .slice A1 x.f1.length c1, .slice A2 x.f2.length c2] 25)
 have D3 := gz (ax (bh w1 (.cells #[.int .i64 x.f0, .slice A1 x.f1.length c1, .slice A2 x.f2.length c2] 25)) (.cells #[.int .i64 0, .int .i64 0] 42))
 have N3 := bh (w1.alloc (.cells #[.int .i64 x.f0, .slice A1 x.f1.length c1, .slice A2 x.f2.length c2] 25)) (.cells #[.int .i64 0, .int .i64 0] 42)
 rw [S1] at N3
 replace N3 := gz N3
 clear S1
 generalize (w1.alloc (.cells #[.int .i64 x.f0, .slice A1 x.f1.length c1, .slice A2 x.f2.length c2] 25)).alloc (.cells #[.int .i64 0, .int .i64 0] 42) = w3 at B3 D3 N3 ⊢
 have p0 := (ah D3.out 0).trans rfl
 have p1 := (ah D3.out 1).trans rfl
 have p2 := (ah D3.out 2).trans rfl
 have p3 := (ah N3.out 0).trans rfl
 have p4 := (ah N3.out 1).trans rfl
 go_wp2_with fail
 refine (bj.calls 30 x.f0 A1 c1 x.f1 A2 c2 x.f2 true w3 (Kd.C_below C1.out B3.out) l1 (Kd.C_below C2.out B3.out) l2 HR.out).mono ?_
 rintro ee w4 ⟨rfl, hb3⟩
 have B4 := gz (B3.out.trans (hb3.mono B3.out.size))
 have D4 := gz (aq D3.out hb3)
 clear hb3 p0 p1 p2 p3 p4 B3 D3 N3
 have p0 := (ah D4.out 0).trans rfl
 have p1 := (ah D4.out 1).trans rfl
 have p2 := (ah D4.out 2).trans rfl
 obtain ⟨⟨r4, M4⟩, hM4, hr4⟩ := Option.map_eq_some_iff.mp H1.out
 dsimp only at hr4
 subst hr4
 have HM4 := gz hM4
 have af.E4 := gz (aj B4.out (.cells #[.int .i32 97, .int .i32 98] 21))
 have F4 := gz (ax D4.out (.cells #[.int .i32 97, .int .i32 98] 21))
 have G4 := gz (bh w4 (.cells #[.int .i32 97, .int .i32 98] 21))
 clear hM4
 go_wp2_with fail
 refine (af.matchR 30 5 x A1 c1 A2 c2 w4.heap.size [97, 98] true M4 (w4.alloc (.cells #[.int .i32 97, .int .i32 98] 21)) (Kd.C_below C1.out af.E4.out) l1 (Kd.C_below C2.out af.E4.out) l2 HR.out HS.out HZ.out (ay.rowA G4.out rfl) Z22 Z22 HM4.out).mono ?_
 rintro ee w5 ⟨rfl, hb4⟩
 have B5 := gz (af.E4.out.trans (hb4.mono af.E4.out.size))
 have D5 := gz (aq F4.out hb4)
 clear hb4 p0 p1 p2 af.E4 F4 G4 HM4
 have p0 := (ah D5.out 0).trans rfl
 have p1 := (ah D5.out 1).trans rfl
 have p2 := (ah D5.out 2).trans rfl
 obtain ⟨⟨r5, M5⟩, hM5, hr5⟩ := Option.map_eq_some_iff.mp H2.out
 dsimp only at hr5
 subst hr5
 have HM5 := gz hM5
 have E5 := gz (aj B5.out (.cells #[.int .i32 98] 21))
 have F5 := gz (ax D5.out (.cells #[.int .i32 98] 21))
 have G5 := gz (bh w5 (.cells #[.int .i32 98] 21))
 clear hM5
 go_wp2_with fail
 refine (af.matchR 30 5 x A1 c1 A2 c2 w5.heap.size [98] false M5 (w5.alloc (.cells #[.int .i32 98] 21)) (Kd.C_below C1.out E5.out) l1 (Kd.C_below C2.out E5.out) l2 HR.out HS.out HZ.out (ay.rowA G5.out rfl) Z22 Z22 HM5.out).mono ?_
 rintro ee w6 ⟨rfl, hb5⟩
 have B6 := gz (E5.out.trans (hb5.mono E5.out.size))
 have D6 := gz (aq F5.out hb5)
 clear hb5 p0 p1 p2 E5 F5 G5 HM5
 have p0 := (ah D6.out 0).trans rfl
 have p1 := (ah D6.out 1).trans rfl
 have p2 := (ah D6.out 2).trans rfl
 obtain ⟨⟨r6, M6⟩, hM6, hr6⟩ := Option.map_eq_some_iff.mp H3.out
 dsimp only at hr6
 subst hr6
 have HM6 := gz hM6
 have E6 := gz (aj B6.out (.cells #[.int .i32 100] 21))
 have F6 := gz (ax D6.out (.cells #[.int .i32 100] 21))
 have G6 := gz (bh w6 (.cells #[.int .i32 100] 21))
 clear hM6
 go_wp2_with fail
 refine (af.matchR 30 5 x A1 c1 A2 c2 w6.heap.size [100] false M6 (w6.alloc (.cells #[.int .i32 100] 21)) (Kd.C_below C1.out E6.out) l1 (Kd.C_below C2.out E6.out) l2 HR.out HS.out HZ.out (ay.rowA G6.out rfl) Z22 Z22 HM6.out).mono ?_
 rintro ee w7 ⟨rfl, hb6⟩
 have B7 := gz (E6.out.trans (hb6.mono E6.out.size))
 have D7 := gz (aq F6.out hb6)
 clear hb6 p0 p1 p2 E6 F6 G6 HM6
 have p0 := (ah D7.out 0).trans rfl
 have p1 := (ah D7.out 1).trans rfl
 have p2 := (ah D7.out 2).trans rfl
 go_wp2
 go_ret
 exact ⟨rfl, B1.out.trans (B7.out.mono B1.out.size)⟩
def ay.f (_ : Nat) : Option Bool := some true
theorem ay.calls {k : Nat} {r : Bool} {w : World} (h : ay.f k = some r) :
  Calls Tryz.prog 9 #[] w fun e w' => e = .returned (.bool r) ∧ Below w.heap.size w w' := by
 obtain rfl := Option.some.inj h
 exact ay.awakeR w
mutual
def aA.j0 : Nat → Int → Bool → Int → List (S51) → List (S25) → Option (Bool)
 | 0, _, _, _, _, _ => none
 | k + 1, x6, x7, x975000, x975001, x975002 => if x7 = true then (some true) else (if x6 = 6 then (if 0 < (x975002.length : Int) then ((aA.f k ((ao x975002 0).f0) ((ao x975002 0).f1) ((ao x975002 0).f2)).bind fun t976 => (some (!t976))) else (none)) else (if x6 = 0 then (some false) else (if x6 = 2 then (some false) else (aA.l0 k 0 0 x975000 x975001 x975002))))
def aA.l0 : Nat → Int → Int → Int → List (S51) → List (S25) → Option (Bool)
 | 0, _, _, _, _, _ => none
 | k + 1, x3, x4, x975000, x975001, x975002 => if x4 < (x975002.length : Int) then (if 0 ≤ x4 then ((aA.f k ((ao x975002 x4).f0) ((ao x975002 x4).f1) ((ao x975002 x4).f2)).bind fun t978 => (if t978 = true then (aA.l0 k (wrap64 (x3 + 1)) (wrap64 (x4 + 1)) x975000 x975001 x975002) else (aA.l0 k x3 (wrap64 (x4 + 1)) x975000 x975001 x975002))) else (none)) else (if x975000 = 4 then (some (decide (x3 > 0))) else (some (x3 == (x975002.length : Int))))
def aA.f : Nat → Int → List (S51) → List (S25) → Option (Bool)
 | 0, _, _, _ => none
 | k + 1, a0_0, l0_1, l0_2 => if a0_0 = 1 then (aA.j0 k a0_0 (a0_0 == 1) a0_0 l0_1 l0_2) else (aA.j0 k a0_0 (a0_0 == 7) a0_0 l0_1 l0_2)
end
theorem aA.calls (k : Nat) : ∀ (a0_0 : Int) (A0_1 : Option Addr) (c0_1 : Nat) (l0_1 : List (S51)) (A0_2 : Option Addr) (c0_2 : Nat) (l0_2 : List (S25)) (r : Bool) (w : World) (hr0_1 : Kd.C k51 w A0_1 l0_1.length l0_1) (hc0_1 : l0_1.length ≤ c0_1) (hr0_2 : Kd.C k25 w A0_2 l0_2.length l0_2) (hc0_2 : l0_2.length ≤ c0_2) (h : aA.f k a0_0 l0_1 l0_2 = some r),
  Calls Tryz.prog 11 #[.agg #[.int .i64 a0_0, .slice A0_1 l0_1.length c0_1, .slice A0_2 l0_2.length c0_2]] w fun e w' => e = .returned (.bool r) ∧ Below w.heap.size w w' := by
 induction k using Nat.strongRecOn with
 | _ k ih =>
 intro a0_0 A0_1 c0_1 l0_1 A0_2 c0_2 l0_2 r w hr0_1 hc0_1 hr0_2 hc0_2 h
 cases k with
 | zero => exact absurd h (by simp [aA.f])
 | succ k =>
 simp only [aA.f] at h
 have hu25 := Tryz.underlying25
 have HR2 := gz hr0_2
 have B0 : aa ((w.alloc (bx a0_0 A0_1 l0_1 c0_1 A0_2 l0_2 c0_2)).heap[w.heap.size]? = some (bx a0_0 A0_1 l0_1 c0_1 A0_2 l0_2 c0_2)) := ⟨bN⟩
 have HB : aa (Below w.heap.size w (w.alloc (bx a0_0 A0_1 l0_1 c0_1 A0_2 l0_2 c0_2))) := ⟨zb⟩
 clear hr0_1 hc0_1 hr0_2 hc0_2
 obtain ⟨k, rfl⟩ : ∃ n, k = n + 1 := by
  cases k with
  | zero => simp [aA.j0] at h
  | succ n => exact ⟨n, rfl⟩
 simp only [aA.j0] at h
 go_enter Tryz.func11, Tryz.ntmps11
 by_cases k0 : a0_0 = 1 ∨ a0_0 = 7
 ·have hh : some true = some r := by rcases k0 with rfl | rfl <;> simpa using h
  obtain rfl := Option.some.inj hh
  clear h hh
  rcases k0 with rfl | rfl
  all_goals (go_wp2; go_ret; exact ⟨rfl, HB.out⟩)
 rw [if_neg (show ¬ a0_0 = 1 by omega), if_neg (show ¬ (a0_0 == 7) = true by simp; omega)] at h
 have q1 := e3 (show ¬ a0_0 = 1 by omega)
 have q7 := e3 (show ¬ a0_0 = 7 by omega)
 clear k0
 by_cases k6 : a0_0 = 6
 ·rw [if_pos k6] at h
  subst k6
  by_cases cl : 0 < (l0_2.length : Int)
  case neg => rw [if_neg cl] at h; cases h
  rw [if_pos cl] at h
  obtain ⟨t, A, h⟩ := cC h
  obtain rfl := Option.some.inj h
  go_upto_region 6 with (fail)
  obtain ⟨ad, X1, x1, X2, x2, e0, g0, g1, g2, n1, f1, n2, f2⟩ := dY (Kd.C_below HR2.out HB.out) 0 (Int.le_refl _) cl
  cases e0
  have ez : ad.add (Int.toNat 0 * 3) = ad := by cases ad; simp [Addr.add]
  rw [ez] at g0 g1 g2
  have F := gz (And.intro n1 (And.intro f1 (And.intro n2 f2)))
  have I := gz (ih k Z8)
  have A := gz A
  clear n1 f1 n2 f2 ez
  go_wp2_with fail
  refine (I.out _ _ _ _ _ _ _ t _ F.out.2.1 F.out.1 F.out.2.2.2 F.out.2.2.1 A.out).mono ?_
  rintro ee w1 ⟨rfl, hb⟩
  replace HB := dN HB hb
  clear hb
  go_wp2
  go_ret
  exact ⟨rfl, HB.out⟩
 rw [if_neg k6] at h
 have q6 := e3 k6
 clear k6
 by_cases k0 : a0_0 = 0 ∨ a0_0 = 2
 ·have hh : some false = some r := by rcases k0 with rfl | rfl <;> simpa using h
  obtain rfl := Option.some.inj hh
  clear h hh
  rcases k0 with rfl | rfl
  all_goals (go_wp2; go_ret; exact ⟨rfl, HB.out⟩)
 rw [if_neg (show ¬ a0_0 = 0 by omega), if_neg (show ¬ a0_0 = 2 by omega)] at h
 have q0 := e3 (show ¬ a0_0 = 0 by omega)
 have q2 := e3 (show ¬ a0_0 = 2 by omega)
 have H := gz h
 clear k0 h
 go_wp2_with fail
 go_loopg [3, 4] k (fun kq v3 v4 wr => ∃ (n i : Int), v3 = .int .i64 n ∧ v4 = .int .i64 i ∧ aa (aA.l0 kq n i a0_0 l0_1 l0_2 = some r) ∧ aa (kq ≤ k) ∧ aa (Below w.heap.size w wr) ∧ aa (wr.heap[w.heap.size]? = some (bx a0_0 A0_1 l0_1 c0_1 A0_2 l0_2 c0_2)))
 case atStart => exact ⟨0, 0, rfl, rfl, H, ⟨Nat.le_refl _⟩, HB, B0⟩
 case round =>
  clear H HB B0
  obtain ⟨n, i, rfl, rfl, HA, HK, HB, B0⟩ := hrel
  cases gk with
  | zero => exact absurd HA.out (by simp [aA.l0])
  | succ k1 =>
  have h := HA.out
  clear HA
  simp only [aA.l0] at h
  have p := b3 B0.out
  by_cases c : i < (l0_2.length : Int)
  ·rw [if_pos c] at h
   have d := decide_eq_true c
   by_cases hi0 : 0 ≤ i
   case neg => rw [if_neg hi0] at h; cases h
   rw [if_pos hi0] at h
   obtain ⟨t, A, h⟩ := cC h
   obtain ⟨ad, X1, x1, X2, x2, e0, g0, g1, g2, n1, f1, n2, f2⟩ := dY (Kd.C_below HR2.out HB.out) i hi0 c
   cases e0
   have F := gz (And.intro n1 (And.intro f1 (And.intro n2 f2)))
   have I := gz (ih k1 Z14)
   have A := gz A
   clear n1 f1 n2 f2
   replace h := gz h
   go_wp2_with fail
   refine (I.out _ _ _ _ _ _ _ t _ F.out.2.1 F.out.1 F.out.2.2.2 F.out.2.2.1 A.out).mono ?_
   rintro ee w1 ⟨rfl, hb⟩
   replace HB := dN HB hb
   replace B0 := dP B0 hb
   clear hb
   replace h := h.out
   cases t with
   | true =>
    rw [if_pos rfl] at h
    replace h := gz h
    go_wp2
    go_roundg k1
    case measure => have := HK.out; omega
    case rel => exact ⟨wrap64 (n + 1), wrap64 (i + 1), rfl, rfl, h, ⟨Z14⟩, HB, B0⟩
   | false =>
    rw [if_neg Z20] at h
    replace h := gz h
    go_wp2
    go_roundg k1
    case measure => have := HK.out; omega
    case rel => exact ⟨n, wrap64 (i + 1), rfl, rfl, h, ⟨Z14⟩, HB, B0⟩
  ·rw [if_neg c] at h
   have d := decide_eq_false c
   by_cases k4 : a0_0 = 4
   ·rw [if_pos k4] at h
    obtain rfl := Option.some.inj h
    subst k4
    go_wp2
    go_ret
    exact ⟨rfl, HB.out⟩
   ·rw [if_neg k4] at h
    obtain rfl := Option.some.inj h
    have q4 := e3 k4
    clear k4
    go_wp2
    go_ret
    exact ⟨rfl, HB.out⟩
def fh.f (k : Nat) (a0_0 : Int) (l0_1 : List (S51)) (l0_2 : List (S25)) : Option (Int) := (bj.f k a0_0 l0_1 l0_2).bind fun t980 => (if t980 = true then ((bQ.f k a0_0 l0_1 l0_2).bind fun t981 => (some t981)) else (some 0))
theorem fh.calls (k : Nat) (a0_0 : Int) (A0_1 : Option Addr) (c0_1 : Nat) (l0_1 : List (S51)) (A0_2 : Option Addr) (c0_2 : Nat) (l0_2 : List (S25)) (r : Int) (w : World) (hr0_1 : Kd.C k51 w A0_1 l0_1.length l0_1) (hc0_1 : l0_1.length ≤ c0_1) (hr0_2 : Kd.C k25 w A0_2 l0_2.length l0_2) (hc0_2 : l0_2.length ≤ c0_2) (h : fh.f k a0_0 l0_1 l0_2 = some r) :
  Calls Tryz.prog 13 #[.agg #[.int .i64 a0_0, .slice A0_1 l0_1.length c0_1, .slice A0_2 l0_2.length c0_2]] w fun e w' => e = .returned (.int .i64 r) ∧ Below w.heap.size w w' := by
 have hu25 := Tryz.underlying25
 have HR0_1 := gz hr0_1
 have HC0_1 := gz hc0_1
 clear hr0_1 hc0_1
 have HR0_2 := gz hr0_2
 have HC0_2 := gz hc0_2
 clear hr0_2 hc0_2
 have HB := gz (Below.refl w.heap.size w)
 have H : ((bj.f k a0_0 l0_1 l0_2).bind fun t980 => (if t980 = true then ((bQ.f k a0_0 l0_1 l0_2).bind fun t981 => (some t981)) else (some 0))) = some r := h
 clear h
 replace H := bS H
 obtain ⟨t980, A2, H⟩ := H
 try dsimp only at H
 by_cases c3 : t980 = true
 ·subst c3
  have H1 : ((bQ.f k a0_0 l0_1 l0_2).bind fun t981 => (some t981)) = some r := by rw [if_pos rfl] at H; exact H
  clear H
  have H := H1
  clear H1
  replace H := bS H
  obtain ⟨t981, A4, H⟩ := H
  try dsimp only at H
  obtain rfl := Option.some.inj H
  go_enter Tryz.func13, Tryz.ntmps13
  go_wp2_with (first | ((with_reducible refine bT (N := 1) rfl ?_); refine cA ?hg (N := 1) ?hd (cs := #[.int .i64 a0_0, .slice A0_1 l0_1.length c0_1, .slice A0_2 l0_2.length c0_2]) (t := 25) ?hr ?_; (case hd => rfl); (case hg => rfl); (case hr => first | (go_simp; done) | (go_simp; rfl)); intro gb979 hg w5 hbox hb; have BK979 := gz (hbox); have GW979 := gE hg zB; have GE979 := gE hg zB; replace HB := gz (ai zB hb); clear hb hbox hg; have hcz6_0 := bC BK979 0 (.int .i64 a0_0); have hcz6_1 := bC BK979 1 (.slice A0_1 l0_1.length c0_1); have hcz6_2 := bC BK979 2 (.slice A0_2 l0_2.length c0_2); have hfz6_0 := ag BK979.out 0; have hfz6_1 := ag BK979.out 1; have hfz6_2 := ag BK979.out 2) | ((with_reducible refine gC 12 rfl ?_); refine bA (some 4) rfl rfl Tryz.func12 Z5 rfl #[.agg #[.int .i64 a0_0, .slice A0_1 l0_1.length c0_1, .slice A0_2 l0_2.length c0_2]] rfl Z1 ?_; (with_reducible refine (bj.calls k a0_0 _ _ l0_1 _ _ l0_2 true _ ?side1 ?side2 ?side3 ?side4 A2.out).mono ?_); (case side1 => repeat (first | exact (Kd.C_below HR0_1.out HB.out) | (with_reducible refine Kd.C_alloc ?_ _) | (with_reducible refine Kd.C_drewN ?_ _) | (with_reducible refine Kd.C_drew ?_))); (case side2 => exact HC0_1.out); (case side3 => repeat (first | exact (Kd.C_below HR0_2.out HB.out) | (with_reducible refine Kd.C_alloc ?_ _) | (with_reducible refine Kd.C_drewN ?_ _) | (with_reducible refine Kd.C_drew ?_))); (case side4 => exact HC0_2.out); rintro e w7 ⟨rfl, hb⟩; refine ⟨_, rfl, ?_⟩; replace BK979 := gz (aq (g := gb979) (o := .cells #[.int .i64 a0_0, .slice A0_1 l0_1.length c0_1, .slice A0_2 l0_2.length c0_2] 25 (0, 0)) (bK BK979) hb); replace HB := gz (ai zB hb); (try clear hb); (try clear hb2); (try clear hk); (try clear hi); have hcz8_0 := bC BK979 0 (.int .i64 a0_0); have hcz8_1 := bC BK979 1 (.slice A0_1 l0_1.length c0_1); have hcz8_2 := bC BK979 2 (.slice A0_2 l0_2.length c0_2); have hfz8_0 := ag BK979.out 0; have hfz8_1 := ag BK979.out 1; have hfz8_2 := ag BK979.out 2) | ((with_reducible refine gC 32 rfl ?_); refine bA (some 7) rfl rfl Tryz.func32 Z5 rfl #[.agg #[.int .i64 a0_0, .slice A0_1 l0_1.length c0_1, .slice A0_2 l0_2.length c0_2]] rfl Z1 ?_; (with_reducible refine (bQ.calls k a0_0 _ _ l0_1 _ _ l0_2 t981 _ ?side1 ?side2 ?side3 ?side4 A4.out).mono ?_); (case side1 => repeat (first | exact (Kd.C_below HR0_1.out HB.out) | (with_reducible refine Kd.C_alloc ?_ _) | (with_reducible refine Kd.C_drewN ?_ _) | (with_reducible refine Kd.C_drew ?_))); (case side2 => exact HC0_1.out); (case side3 => repeat (first | exact (Kd.C_below HR0_2.out HB.out) | (with_reducible refine Kd.C_alloc ?_ _) | (with_reducible refine Kd.C_drewN ?_ _) | (with_reducible refine Kd.C_drew ?_))); (case side4 => exact HC0_2.out); rintro e w9 ⟨rfl, hb⟩; refine ⟨_, rfl, ?_⟩; replace BK979 := gz (aq (g := gb979) (o := .cells #[.int .i64 a0_0, .slice A0_1 l0_1.length c0_1, .slice A0_2 l0_2.length c0_2] 25 (0, 0)) (bK BK979) hb); replace HB := gz (ai zB hb); (try clear hb); (try clear hb2); (try clear hk); (try clear hi)))
  go_ret
  exact ⟨Z3, Z0⟩
 ·replace c3 := Bool.eq_false_iff.mpr c3
  subst c3
  have H1 : (some 0) = some r := by rw [if_neg (show ¬ (false = true) by decide)] at H; exact H
  clear H
  have H := H1
  clear H1
  obtain rfl := Option.some.inj H
  go_enter Tryz.func13, Tryz.ntmps13
  go_wp2_with (first | ((with_reducible refine bT (N := 1) rfl ?_); refine cA ?hg (N := 1) ?hd (cs := #[.int .i64 a0_0, .slice A0_1 l0_1.length c0_1, .slice A0_2 l0_2.length c0_2]) (t := 25) ?hr ?_; (case hd => rfl); (case hg => rfl); (case hr => first | (go_simp; done) | (go_simp; rfl)); intro gb979 hg w10 hbox hb; have BK979 := gz (hbox); have GW979 := gE hg zB; have GE979 := gE hg zB; replace HB := gz (ai zB hb); clear hb hbox hg; have hcz11_0 := bC BK979 0 (.int .i64 a0_0); have hcz11_1 := bC BK979 1 (.slice A0_1 l0_1.length c0_1); have hcz11_2 := bC BK979 2 (.slice A0_2 l0_2.length c0_2); have hfz11_0 := ag BK979.out 0; have hfz11_1 := ag BK979.out 1; have hfz11_2 := ag BK979.out 2) | ((with_reducible refine gC 12 rfl ?_); refine bA (some 4) rfl rfl Tryz.func12 Z5 rfl #[.agg #[.int .i64 a0_0, .slice A0_1 l0_1.length c0_1, .slice A0_2 l0_2.length c0_2]] rfl Z1 ?_; (with_reducible refine (bj.calls k a0_0 _ _ l0_1 _ _ l0_2 false _ ?side1 ?side2 ?side3 ?side4 A2.out).mono ?_); (case side1 => repeat (first | exact (Kd.C_below HR0_1.out HB.out) | (with_reducible refine Kd.C_alloc ?_ _) | (with_reducible refine Kd.C_drewN ?_ _) | (with_reducible refine Kd.C_drew ?_))); (case side2 => exact HC0_1.out); (case side3 => repeat (first | exact (Kd.C_below HR0_2.out HB.out) | (with_reducible refine Kd.C_alloc ?_ _) | (with_reducible refine Kd.C_drewN ?_ _) | (with_reducible refine Kd.C_drew ?_))); (case side4 => exact HC0_2.out); rintro e w12 ⟨rfl, hb⟩; refine ⟨_, rfl, ?_⟩; replace BK979 := gz (aq (g := gb979) (o := .cells #[.int .i64 a0_0, .slice A0_1 l0_1.length c0_1, .slice A0_2 l0_2.length c0_2] 25 (0, 0)) (bK BK979) hb); replace HB := gz (ai zB hb); (try clear hb); (try clear hb2); (try clear hk); (try clear hi)))
  go_ret
  exact ⟨Z3, Z0⟩
def ak.allN (g : S25 → Option Bool) : List S25 → Option Bool
 | [] => some true
 | x :: l => (g x).bind fun b => if b = true then ak.allN g l else some false
def ak.anyN (g : S25 → Option Bool) : List S25 → Option Bool
 | [] => some false
 | x :: l => (g x).bind fun b => if b = true then some true else ak.anyN g l
def ak.notN (g : S25 → Option Bool) : List S25 → Option Bool
 | [] => none
 | x :: _ => (g x).bind fun b => some (!b)
def ak.f : Nat → Int → List S51 → List S25 → Option Bool
 | 0, _, _, _ => none
 | k + 1, a, s, l => if a = 1 then some true else if a = 7 then some true else if a = 3 then ak.allN (fun x => ak.f k x.f0 x.f1 x.f2) l else if a = 5 then ak.allN (fun x => ak.f k x.f0 x.f1 x.f2) l else if a = 4 then ak.anyN (fun x => ak.f k x.f0 x.f1 x.f2) l else if a = 6 then ak.notN (fun x => ak.f k x.f0 x.f1 x.f2) l else some false
theorem ak.allN_mono {g h : S25 → Option Bool} (H : ∀ x, LeO (g x) (h x)) : ∀ l, LeO (ak.allN g l) (ak.allN h l)
 | [] => LeO.refl _
 | x :: l => LeO.bind (H x) (fun b => LeO.ite (ak.allN_mono H l) (LeO.refl _))
theorem ak.anyN_mono {g h : S25 → Option Bool} (H : ∀ x, LeO (g x) (h x)) : ∀ l, LeO (ak.anyN g l) (ak.anyN h l)
 | [] => LeO.refl _
 | x :: l => LeO.bind (H x) (fun b => LeO.ite (LeO.refl _) (ak.anyN_mono H l))
theorem ak.notN_mono {g h : S25 → Option Bool} (H : ∀ x, LeO (g x) (h x)) : ∀ l, LeO (ak.notN g l) (ak.notN h l)
 | [] => LeO.refl _
 | x :: l => LeO.bind (H x) (fun b => LeO.refl _)
theorem ak.mono_f : ∀ k a0 a1 a2, LeO (ak.f k a0 a1 a2) (ak.f (k + 1) a0 a1 a2)
 | 0, _, _, _ => fun r hr => by simp [ak.f] at hr
 | k + 1, a, s, l => by
  have H : ∀ x : S25, LeO (ak.f k x.f0 x.f1 x.f2) (ak.f (k + 1) x.f0 x.f1 x.f2) := fun x => ak.mono_f k _ _ _
  rw [ak.f, ak.f]
  exact LeO.ite (LeO.refl _) (LeO.ite (LeO.refl _) (LeO.ite (ak.allN_mono H l) (LeO.ite (ak.allN_mono H l) (LeO.ite (ak.anyN_mono H l) (LeO.ite (ak.notN_mono H l) (LeO.refl _))))))
theorem ak.C_at3 {W : World} {A : Option Addr} {n : Nat} {xs : List S25} (h : Kd.C k25 W A n xs) (i : Nat) (h1 : i < n) :
  ∃ ad A1 c1 A2 c2, A = some ad ∧ W.cell? (ad.add (i * 3)) = some (.int .i64 (xs.getD i z25).f0) ∧ W.cell? ⟨(ad.add (i * 3)).block, (ad.add (i * 3)).off + 1, none⟩ = some (.slice A1 (xs.getD i z25).f1.length c1) ∧ W.cell? ⟨(ad.add (i * 3)).block, (ad.add (i * 3)).off + 2, none⟩ = some (.slice A2 (xs.getD i z25).f2.length c2) ∧ (xs.getD i z25).f1.length ≤ c1 ∧ Kd.C k51 W A1 (xs.getD i z25).f1.length (xs.getD i z25).f1 ∧ (xs.getD i z25).f2.length ≤ c2 ∧ Kd.C k25 W A2 (xs.getD i z25).f2.length (xs.getD i z25).f2 :=
 dY h (i : Int) Z8 Z8
def ak.NullC (k : Nat) : Prop := ∀ (a : Int) (A1 : Option Addr) (c1 : Nat) (s : List S51) (A2 : Option Addr) (c2 : Nat) (l : List S25) (r : Bool) (w : World) (_ : Kd.C k51 w A1 s.length s) (_ : s.length ≤ c1) (_ : Kd.C k25 w A2 l.length l) (_ : l.length ≤ c2) (_ : ak.f k a s l = some r),
  Calls Tryz.prog 33 #[.agg #[.int .i64 a, .slice A1 s.length c1, .slice A2 l.length c2]] w fun e w' => e = .returned (.bool r) ∧ Below w.heap.size w w'
theorem ak.nullIndex (k : Nat) (IH : ak.NullC k) (A : Option Addr) (c : Nat) (l : List S25) (r : Bool) (w : World) (hm : (l.length : Int) ≤ 9223372036854775807) (hC : Kd.C k25 w A l.length l) (h : ak.anyN (fun x => ak.f k x.f0 x.f1 x.f2) l = some r) :
  Calls Tryz.prog 81 #[.slice A l.length c, .func (.func 33) #[] #[]] w fun e w' => (∃ n : Int, e = .returned (.int .i64 n) ∧ decide (n ≥ 0) = r) ∧ Below w.heap.size w w' := by
 have HC := gz hC
 have HF := gz h
 have HM := gz hm
 clear hC h hm
 go_enter Tryz.func81, Tryz.ntmps81
 go_wp2
 go_loopg [5, 8] l.length (fun gk v5 v8 wr => ∃ (i : Nat), i ≤ l.length ∧ l.length - i ≤ gk ∧ v8 = .int .i64 (i : Int) ∧ aa (Below w.heap.size w wr) ∧ aa (ak.anyN (fun x => ak.f k x.f0 x.f1 x.f2) (l.drop i) = some r))
 case atStart => exact ⟨0, Nat.zero_le _, Z8, rfl, ⟨Below.refl _ _⟩, HF⟩
 case round =>
  clear HF
  obtain ⟨i, hi, hgk, rfl, HW, HF⟩ := hrel
  by_cases hlt : i < l.length
  ·have d1 : decide ((i : Int) < (l.length : Int)) = true := decide_eq_true Z8
   obtain ⟨ad, X1, x1, X2, x2, hA, p0, p1, p2, n1, f1, n2, f2⟩ := ak.C_at3 (Kd.C_below HC.out HW.out) i hlt
   subst hA
   have HFx := HF.out
   rw [ae.drop_at l i hlt, ak.anyN] at HFx
   obtain ⟨⟨t0, t1, t2⟩, ht⟩ : ∃ t, l.getD i z25 = t := ⟨_, rfl⟩
   rw [ht] at p0 p1 p2 n1 f1 n2 f2 HFx
   dsimp only at p0 p1 p2 n1 f1 n2 f2 HFx
   obtain ⟨b, hb, hF2⟩ := Option.bind_eq_some_iff.mp HFx
   have HN := gz hb
   have HF2 := gz hF2
   have F1 := gz f1
   have F2 := gz f2
   have N1 := gz n1
   have N2 := gz n2
   clear hb hF2 f1 f2 n1 n2 HFx HF ht
   have z0 : (0 : Int) ≤ (i : Int) := by omega
   have z1 : (i : Int) < (l.length : Int) := by omega
   have hw1 := gz (show wrap64 ((i : Int) + 1) = ((i + 1 : Nat) : Int) from by unfold wrap64; have := HM.out; omega)
   go_wp2_with fail
   refine (IH t0 X1 x1 t1 X2 x2 t2 b _ F1.out N1.out F2.out N2.out HN.out).mono ?_
   rintro e w2 ⟨rfl, hb2⟩
   have HW2 := gz (ai HW.out hb2)
   clear hb2
   cases b with
   | true =>
    have hf := HF2.out
    rw [if_pos rfl] at hf
    obtain rfl : true = r := Option.some.inj hf
    go_wp2
    go_ret
    exact ⟨⟨_, rfl, decide_eq_true Z8⟩, HW2.out⟩
   | false =>
    have hf := HF2.out
    rw [if_neg Z22] at hf
    go_wp2
    go_roundg (l.length - (i + 1))
    case measure => omega
    case rel => exact ⟨i + 1, Z8, Nat.le_refl _, by rw [hw1.out], HW2, ⟨hf⟩⟩
  ·have d1 : decide ((i : Int) < (l.length : Int)) = false := decide_eq_false Z8
   have hf := HF.out
   rw [List.drop_eq_nil_of_le Z8, ak.anyN] at hf
   obtain rfl : false = r := Option.some.inj hf
   go_wp2
   go_ret
   exact ⟨⟨_, rfl, Z22⟩, HW.out⟩
theorem ak.nullAny (k : Nat) (IH : ak.NullC k) (A : Option Addr) (c : Nat) (l : List S25) (r : Bool) (w : World) (hm : (l.length : Int) ≤ 9223372036854775807) (hC : Kd.C k25 w A l.length l) (h : ak.anyN (fun x => ak.f k x.f0 x.f1 x.f2) l = some r) :
  Calls Tryz.prog 56 #[.slice A l.length c, .func (.func 33) #[] #[]] w fun e w' => e = .returned (.bool r) ∧ Below w.heap.size w w' := by
 have HC := gz hC
 have HF := gz h
 have HM := gz hm
 clear hC h hm
 go_enter Tryz.func56, Tryz.ntmps56
 go_wp2_with fail
 refine (ak.nullIndex k IH A c l r w HM.out HC.out HF.out).mono ?_
 rintro e w2 ⟨⟨n, rfl, hn⟩, hb⟩
 have HB := gz hb
 clear hb
 go_wp2
 go_ret
 exact ⟨by rw [← hn]; rfl, HB.out⟩
theorem ak.nullStep (k : Nat) (IH : ak.NullC k) : ak.NullC (k + 1) := by
 intro a A1 c1 s A2 c2 l r w hC1 hl1 hC2 hl2 h
 have F1 := gz hC1
 have N1 := gz hl1
 have F2 := gz hC2
 have N2 := gz hl2
 have HM := gz (show (l.length : Int) ≤ 9223372036854775807 from by have := hC2.2.1; omega)
 rw [ak.f] at h
 clear hC1 hl1 hC2 hl2
 by_cases k1 : a = 1
 ·have b1 : (a == 1) = true := beq_iff_eq.mpr k1
  rw [if_pos k1] at h
  obtain rfl : true = r := Option.some.inj h
  replace k1 := gz k1
  go_enter Tryz.func33, Tryz.ntmps33
  go_wp2
  go_ret
  exact ⟨rfl, aj (Below.refl _ _) _⟩
 ·have b1 : (a == 1) = false := beq_eq_false_iff_ne.mpr k1
  rw [if_neg k1] at h
  replace k1 := gz k1
  by_cases k7 : a = 7
  ·have b7 : (a == 7) = true := beq_iff_eq.mpr k7
   rw [if_pos k7] at h
   obtain rfl : true = r := Option.some.inj h
   replace k7 := gz k7
   go_enter Tryz.func33, Tryz.ntmps33
   go_wp2
   go_ret
   exact ⟨rfl, aj (Below.refl _ _) _⟩
  ·have b7 : (a == 7) = false := beq_eq_false_iff_ne.mpr k7
   rw [if_neg k7] at h
   replace k7 := gz k7
   by_cases k3 : a = 3
   ·have b3 : (a == 3) = true := beq_iff_eq.mpr k3
    rw [if_pos k3] at h
    have HF := gz h
    replace k3 := gz k3
    clear h
    go_enter Tryz.func33, Tryz.ntmps33
    go_wp2
    go_loopg [4, 16] l.length (fun gk v4 v16 wr => ∃ (i : Nat), i ≤ l.length ∧ l.length - i ≤ gk ∧ v16 = .int .i64 (i : Int) ∧ aa (Below w.heap.size w wr) ∧ aa (ak.allN (fun x => ak.f k x.f0 x.f1 x.f2) (l.drop i) = some r))
    case atStart => exact ⟨0, Nat.zero_le _, Z8, rfl, ⟨aj (Below.refl _ _) _⟩, HF⟩
    case round =>
     clear HF
     obtain ⟨i, hi, hgk, rfl, HW, HF⟩ := hrel
     by_cases hlt : i < l.length
     ·have d1 : decide ((i : Int) < (l.length : Int)) = true := decide_eq_true Z8
      obtain ⟨ad, X1, x1, X2, x2, hA, p0, p1, p2, n1, f1, n2, f2⟩ := ak.C_at3 (Kd.C_below F2.out HW.out) i hlt
      subst hA
      have HFx := HF.out
      rw [ae.drop_at l i hlt, ak.allN] at HFx
      obtain ⟨⟨t0, t1, t2⟩, ht⟩ : ∃ t, l.getD i z25 = t := ⟨_, rfl⟩
      rw [ht] at p0 p1 p2 n1 f1 n2 f2 HFx
      dsimp only at p0 p1 p2 n1 f1 n2 f2 HFx
      obtain ⟨b, hb, hF2⟩ := Option.bind_eq_some_iff.mp HFx
      have HN := gz hb
      have HF2 := gz hF2
      have bx := aj (Below.refl wr.heap.size wr) (.cells #[.int .i64 t0, .slice X1 t1.length x1, .slice X2 t2.length x2] 25)
      have G1 := gz (Kd.C_below f1 bx)
      have G2 := gz (Kd.C_below f2 bx)
      have M1 := gz n1
      have M2 := gz n2
      have BX := gz (ai HW.out bx)
      clear hb hF2 f1 f2 n1 n2 HFx HF ht bx
      have z0 : (0 : Int) ≤ (i : Int) := by omega
      have z1 : (i : Int) < (l.length : Int) := by omega
      have hw1 := gz (show wrap64 ((i : Int) + 1) = ((i + 1 : Nat) : Int) from by unfold wrap64; have := HM.out; omega)
      go_wp2_with fail
      refine (IH t0 X1 x1 t1 X2 x2 t2 b _ G1.out M1.out G2.out M2.out HN.out).mono ?_
      rintro e w2 ⟨rfl, hb2⟩
      have HW2 := gz (ai BX.out hb2)
      clear hb2
      cases b with
      | true =>
       have hf := HF2.out
       rw [if_pos rfl] at hf
       go_wp2
       go_roundg (l.length - (i + 1))
       case measure => omega
       case rel => exact ⟨i + 1, Z8, Nat.le_refl _, by rw [hw1.out], HW2, ⟨hf⟩⟩
      | false =>
       have hf := HF2.out
       rw [if_neg Z22] at hf
       obtain rfl : false = r := Option.some.inj hf
       go_wp2
       go_ret
       exact ⟨rfl, HW2.out⟩
     ·have d1 : decide ((i : Int) < (l.length : Int)) = false := decide_eq_false Z8
      have hf := HF.out
      rw [List.drop_eq_nil_of_le Z8, ak.allN] at hf
      obtain rfl : true = r := Option.some.inj hf
      go_wp2
      go_ret
      exact ⟨rfl, HW.out⟩
   ·have b3 : (a == 3) = false := beq_eq_false_iff_ne.mpr k3
    rw [if_neg k3] at h
    replace k3 := gz k3
    by_cases k5 : a = 5
    ·have b5 : (a == 5) = true := beq_iff_eq.mpr k5
     rw [if_pos k5] at h
     have HF := gz h
     replace k5 := gz k5
     clear h
     go_enter Tryz.func33, Tryz.ntmps33
     go_wp2
     go_loopg [4, 16] l.length (fun gk v4 v16 wr => ∃ (i : Nat), i ≤ l.length ∧ l.length - i ≤ gk ∧ v16 = .int .i64 (i : Int) ∧ aa (Below w.heap.size w wr) ∧ aa (ak.allN (fun x => ak.f k x.f0 x.f1 x.f2) (l.drop i) = some r))
     case atStart => exact ⟨0, Nat.zero_le _, Z8, rfl, ⟨aj (Below.refl _ _) _⟩, HF⟩
     case round =>
      clear HF
      obtain ⟨i, hi, hgk, rfl, HW, HF⟩ := hrel
      by_cases hlt : i < l.length
      ·have d1 : decide ((i : Int) < (l.length : Int)) = true := decide_eq_true Z8
       obtain ⟨ad, X1, x1, X2, x2, hA, p0, p1, p2, n1, f1, n2, f2⟩ := ak.C_at3 (Kd.C_below F2.out HW.out) i hlt
       subst hA
       have HFx := HF.out
       rw [ae.drop_at l i hlt, ak.allN] at HFx
       obtain ⟨⟨t0, t1, t2⟩, ht⟩ : ∃ t, l.getD i z25 = t := ⟨_, rfl⟩
       rw [ht] at p0 p1 p2 n1 f1 n2 f2 HFx
       dsimp only at p0 p1 p2 n1 f1 n2 f2 HFx
       obtain ⟨b, hb, hF2⟩ := Option.bind_eq_some_iff.mp HFx
       have HN := gz hb
       have HF2 := gz hF2
       have bx := aj (Below.refl wr.heap.size wr) (.cells #[.int .i64 t0, .slice X1 t1.length x1, .slice X2 t2.length x2] 25)
       have G1 := gz (Kd.C_below f1 bx)
       have G2 := gz (Kd.C_below f2 bx)
       have M1 := gz n1
       have M2 := gz n2
       have BX := gz (ai HW.out bx)
       clear hb hF2 f1 f2 n1 n2 HFx HF ht bx
       have z0 : (0 : Int) ≤ (i : Int) := by omega
       have z1 : (i : Int) < (l.length : Int) := by omega
       have hw1 := gz (show wrap64 ((i : Int) + 1) = ((i + 1 : Nat) : Int) from by unfold wrap64; have := HM.out; omega)
       go_wp2_with fail
       refine (IH t0 X1 x1 t1 X2 x2 t2 b _ G1.out M1.out G2.out M2.out HN.out).mono ?_
       rintro e w2 ⟨rfl, hb2⟩
       have HW2 := gz (ai BX.out hb2)
       clear hb2
       cases b with
       | true =>
        have hf := HF2.out
        rw [if_pos rfl] at hf
        go_wp2
        go_roundg (l.length - (i + 1))
        case measure => omega
        case rel => exact ⟨i + 1, Z8, Nat.le_refl _, by rw [hw1.out], HW2, ⟨hf⟩⟩
       | false =>
        have hf := HF2.out
        rw [if_neg Z22] at hf
        obtain rfl : false = r := Option.some.inj hf
        go_wp2
        go_ret
        exact ⟨rfl, HW2.out⟩
      ·have d1 : decide ((i : Int) < (l.length : Int)) = false := decide_eq_false Z8
       have hf := HF.out
       rw [List.drop_eq_nil_of_le Z8, ak.allN] at hf
       obtain rfl : true = r := Option.some.inj hf
       go_wp2
       go_ret
       exact ⟨rfl, HW.out⟩
    ·have b5 : (a == 5) = false := beq_eq_false_iff_ne.mpr k5
     rw [if_neg k5] at h
     replace k5 := gz k5
     by_cases k4 : a = 4
     ·have b4 : (a == 4) = true := beq_iff_eq.mpr k4
      rw [if_pos k4] at h
      have HF := gz h
      replace k4 := gz k4
      clear h
      go_enter Tryz.func33, Tryz.ntmps33
      go_wp2_with fail
      refine (ak.nullAny k IH A2 c2 l r _ HM.out (Kd.C_below F2.out (aj (Below.refl _ _) _)) HF.out).mono ?_
      rintro e w2 ⟨rfl, hb2⟩
      have HW2 := gz (ai (aj (Below.refl w.heap.size w) _) hb2)
      clear hb2
      go_wp2
      go_ret
      exact ⟨rfl, HW2.out⟩
     ·have b4 : (a == 4) = false := beq_eq_false_iff_ne.mpr k4
      rw [if_neg k4] at h
      replace k4 := gz k4
      by_cases k6 : a = 6
      ·have b6 : (a == 6) = true := beq_iff_eq.mpr k6
       rw [if_pos k6] at h
       replace k6 := gz k6
       rcases l with _ | ⟨⟨t0, t1, t2⟩, l⟩
       ·cases h
       ·rw [ak.notN] at h
        obtain ⟨b, hb, hF2⟩ := Option.bind_eq_some_iff.mp h
        obtain rfl : (!b) = r := Option.some.inj hF2
        obtain ⟨nn, hn⟩ : ∃ n, ((⟨t0, t1, t2⟩ : S25) :: l).length = n := ⟨_, rfl⟩
        have hnp : 0 < nn := by rw [← hn]; simp
        have zz : (0 : Int) < (nn : Int) := by omega
        rw [hn] at F2 N2 HM ⊢
        have bx := aj (Below.refl w.heap.size w) (.cells #[.int .i64 a, .slice A1 s.length c1, .slice A2 nn c2] 25)
        obtain ⟨ad, X1, x1, X2, x2, hA, p0, p1, p2, n1, f1, n2, f2⟩ := ak.C_at3 F2.out 0 hnp
        subst hA
        simp only [List.getD_cons_zero] at p0 p1 p2 n1 f1 n2 f2
        have p0 : w.cell? ad = some (.int .i64 t0) := p0
        have p1 : w.cell? ⟨ad.block, ad.off + 1, none⟩ = some (.slice X1 t1.length x1) := p1
        have p2 : w.cell? ⟨ad.block, ad.off + 2, none⟩ = some (.slice X2 t2.length x2) := p2
        replace p0 := (bx.cell (World.block_lt_of_cell? w _ p0)).trans p0
        replace p1 := (bx.cell (World.block_lt_of_cell? w _ p1)).trans p1
        replace p2 := (bx.cell (World.block_lt_of_cell? w _ p2)).trans p2
        have G1 := gz (Kd.C_below f1 bx)
        have G2 := gz (Kd.C_below f2 bx)
        have M1 := gz n1
        have M2 := gz n2
        have BX := gz bx
        have HN := gz hb
        clear hb hF2 f1 f2 n1 n2 h bx
        go_enter Tryz.func33, Tryz.ntmps33
        go_upto_if 7 with fail
        have B1 := bh w (.cells #[.int .i64 a, .slice A1 s.length c1, .slice (some ad) nn c2] 25)
        generalize (w.alloc (.cells #[.int .i64 a, .slice A1 s.length c1, .slice (some ad) nn c2] 25)) = wx at *
        have s0 := (ah B1 0).trans rfl
        have s1 := (ah B1 1).trans rfl
        have s2 := (ah B1 2).trans rfl
        go_wp2_with fail
        refine (IH t0 X1 x1 t1 X2 x2 t2 b _ G1.out M1.out G2.out M2.out HN.out).mono ?_
        rintro e w2 ⟨rfl, hb2⟩
        have HW2 := gz (ai BX.out hb2)
        clear hb2
        go_wp2
        go_ret
        exact ⟨rfl, HW2.out⟩
      ·have b6 : (a == 6) = false := beq_eq_false_iff_ne.mpr k6
       rw [if_neg k6] at h
       replace k6 := gz k6
       obtain rfl : false = r := Option.some.inj h
       go_enter Tryz.func33, Tryz.ntmps33
       go_wp2
       go_ret
       exact ⟨rfl, aj (Below.refl _ _) _⟩
theorem ak.calls (k : Nat) : ∀ (a0_0 : Int) (A0_1 : Option Addr) (c0_1 : Nat) (l0_1 : List S51) (A0_2 : Option Addr) (c0_2 : Nat) (l0_2 : List S25) (r : Bool) (w : World) (hr0_1 : Kd.C k51 w A0_1 l0_1.length l0_1) (hc0_1 : l0_1.length ≤ c0_1) (hr0_2 : Kd.C k25 w A0_2 l0_2.length l0_2) (hc0_2 : l0_2.length ≤ c0_2) (h : ak.f k a0_0 l0_1 l0_2 = some r),
  Calls Tryz.prog 33 #[.agg #[.int .i64 a0_0, .slice A0_1 l0_1.length c0_1, .slice A0_2 l0_2.length c0_2]] w fun e w' => e = .returned (.bool r) ∧ Below w.heap.size w w' := by
 have H : ak.NullC k := by
  induction k with
  | zero => intro a A1 c1 s A2 c2 l r w _ _ _ _ h; simp [ak.f] at h
  | succ k ih => exact ak.nullStep k ih
 exact H
def dK.f (k : Nat) (a0_0 : Int) (l0_1 : List (S51)) (l0_2 : List (S25)) : Option (Bool) := (bj.f k a0_0 l0_1 l0_2).bind fun t983 => (if t983 = true then ((ak.f k a0_0 l0_1 l0_2).bind fun t984 => (some t984)) else (some false))
theorem dK.calls (k : Nat) (a0_0 : Int) (A0_1 : Option Addr) (c0_1 : Nat) (l0_1 : List (S51)) (A0_2 : Option Addr) (c0_2 : Nat) (l0_2 : List (S25)) (r : Bool) (w : World) (hr0_1 : Kd.C k51 w A0_1 l0_1.length l0_1) (hc0_1 : l0_1.length ≤ c0_1) (hr0_2 : Kd.C k25 w A0_2 l0_2.length l0_2) (hc0_2 : l0_2.length ≤ c0_2) (h : dK.f k a0_0 l0_1 l0_2 = some r) :
  Calls Tryz.prog 14 #[.agg #[.int .i64 a0_0, .slice A0_1 l0_1.length c0_1, .slice A0_2 l0_2.length c0_2]] w fun e w' => e = .returned (.bool r) ∧ Below w.heap.size w w' := by
 have hu25 := Tryz.underlying25
 have HR0_1 := gz hr0_1
 have HC0_1 := gz hc0_1
 clear hr0_1 hc0_1
 have HR0_2 := gz hr0_2
 have HC0_2 := gz hc0_2
 clear hr0_2 hc0_2
 have HB := gz (Below.refl w.heap.size w)
 have H : ((bj.f k a0_0 l0_1 l0_2).bind fun t983 => (if t983 = true then ((ak.f k a0_0 l0_1 l0_2).bind fun t984 => (some t984)) else (some false))) = some r := h
 clear h
 replace H := bS H
 obtain ⟨t983, A2, H⟩ := H
 try dsimp only at H
 by_cases c3 : t983 = true
 ·subst c3
  have H1 : ((ak.f k a0_0 l0_1 l0_2).bind fun t984 => (some t984)) = some r := by rw [if_pos rfl] at H; exact H
  clear H
  have H := H1
  clear H1
  replace H := bS H
  obtain ⟨t984, A4, H⟩ := H
  try dsimp only at H
  obtain rfl := Option.some.inj H
  go_enter Tryz.func14, Tryz.ntmps14
  go_wp2_with (first | ((with_reducible refine bT (N := 1) rfl ?_); refine cA ?hg (N := 1) ?hd (cs := #[.int .i64 a0_0, .slice A0_1 l0_1.length c0_1, .slice A0_2 l0_2.length c0_2]) (t := 25) ?hr ?_; (case hd => rfl); (case hg => rfl); (case hr => first | (go_simp; done) | (go_simp; rfl)); intro gb982 hg w5 hbox hb; have BK982 := gz (hbox); have GW982 := gE hg zB; have GE982 := gE hg zB; replace HB := gz (ai zB hb); clear hb hbox hg; have hcz6_0 := bC BK982 0 (.int .i64 a0_0); have hcz6_1 := bC BK982 1 (.slice A0_1 l0_1.length c0_1); have hcz6_2 := bC BK982 2 (.slice A0_2 l0_2.length c0_2); have hfz6_0 := ag BK982.out 0; have hfz6_1 := ag BK982.out 1; have hfz6_2 := ag BK982.out 2) | ((with_reducible refine gC 12 rfl ?_); refine bA (some 4) rfl rfl Tryz.func12 Z5 rfl #[.agg #[.int .i64 a0_0, .slice A0_1 l0_1.length c0_1, .slice A0_2 l0_2.length c0_2]] rfl Z1 ?_; (with_reducible refine (bj.calls k a0_0 _ _ l0_1 _ _ l0_2 true _ ?side1 ?side2 ?side3 ?side4 A2.out).mono ?_); (case side1 => repeat (first | exact (Kd.C_below HR0_1.out HB.out) | (with_reducible refine Kd.C_alloc ?_ _) | (with_reducible refine Kd.C_drewN ?_ _) | (with_reducible refine Kd.C_drew ?_))); (case side2 => exact HC0_1.out); (case side3 => repeat (first | exact (Kd.C_below HR0_2.out HB.out) | (with_reducible refine Kd.C_alloc ?_ _) | (with_reducible refine Kd.C_drewN ?_ _) | (with_reducible refine Kd.C_drew ?_))); (case side4 => exact HC0_2.out); rintro e w7 ⟨rfl, hb⟩; refine ⟨_, rfl, ?_⟩; replace BK982 := gz (aq (g := gb982) (o := .cells #[.int .i64 a0_0, .slice A0_1 l0_1.length c0_1, .slice A0_2 l0_2.length c0_2] 25 (0, 0)) (bK BK982) hb); replace HB := gz (ai zB hb); (try clear hb); (try clear hb2); (try clear hk); (try clear hi); have hcz8_0 := bC BK982 0 (.int .i64 a0_0); have hcz8_1 := bC BK982 1 (.slice A0_1 l0_1.length c0_1); have hcz8_2 := bC BK982 2 (.slice A0_2 l0_2.length c0_2); have hfz8_0 := ag BK982.out 0; have hfz8_1 := ag BK982.out 1; have hfz8_2 := ag BK982.out 2) | (go_at_call 33; (with_reducible refine (ak.calls k a0_0 _ _ l0_1 _ _ l0_2 t984 _ ?side1 ?side2 ?side3 ?side4 A4.out).mono ?_); (case side1 => repeat (first | exact (Kd.C_below HR0_1.out HB.out) | (with_reducible refine Kd.C_alloc ?_ _) | (with_reducible refine Kd.C_drewN ?_ _) | (with_reducible refine Kd.C_drew ?_))); (case side2 => exact HC0_1.out); (case side3 => repeat (first | exact (Kd.C_below HR0_2.out HB.out) | (with_reducible refine Kd.C_alloc ?_ _) | (with_reducible refine Kd.C_drewN ?_ _) | (with_reducible refine Kd.C_drew ?_))); (case side4 => exact HC0_2.out); rintro e w9 ⟨rfl, hb⟩; replace BK982 := gz (aq (g := gb982) (o := .cells #[.int .i64 a0_0, .slice A0_1 l0_1.length c0_1, .slice A0_2 l0_2.length c0_2] 25 (0, 0)) (bK BK982) hb); replace HB := gz (ai zB hb); (try clear hb); (try clear hb2); (try clear hk); (try clear hi)))
  go_ret
  exact ⟨Z3, Z0⟩
 ·replace c3 := Bool.eq_false_iff.mpr c3
  subst c3
  have H1 : (some false) = some r := by rw [if_neg (show ¬ (false = true) by decide)] at H; exact H
  clear H
  have H := H1
  clear H1
  obtain rfl := Option.some.inj H
  go_enter Tryz.func14, Tryz.ntmps14
  go_wp2_with (first | ((with_reducible refine bT (N := 1) rfl ?_); refine cA ?hg (N := 1) ?hd (cs := #[.int .i64 a0_0, .slice A0_1 l0_1.length c0_1, .slice A0_2 l0_2.length c0_2]) (t := 25) ?hr ?_; (case hd => rfl); (case hg => rfl); (case hr => first | (go_simp; done) | (go_simp; rfl)); intro gb982 hg w10 hbox hb; have BK982 := gz (hbox); have GW982 := gE hg zB; have GE982 := gE hg zB; replace HB := gz (ai zB hb); clear hb hbox hg; have hcz11_0 := bC BK982 0 (.int .i64 a0_0); have hcz11_1 := bC BK982 1 (.slice A0_1 l0_1.length c0_1); have hcz11_2 := bC BK982 2 (.slice A0_2 l0_2.length c0_2); have hfz11_0 := ag BK982.out 0; have hfz11_1 := ag BK982.out 1; have hfz11_2 := ag BK982.out 2) | ((with_reducible refine gC 12 rfl ?_); refine bA (some 4) rfl rfl Tryz.func12 Z5 rfl #[.agg #[.int .i64 a0_0, .slice A0_1 l0_1.length c0_1, .slice A0_2 l0_2.length c0_2]] rfl Z1 ?_; (with_reducible refine (bj.calls k a0_0 _ _ l0_1 _ _ l0_2 false _ ?side1 ?side2 ?side3 ?side4 A2.out).mono ?_); (case side1 => repeat (first | exact (Kd.C_below HR0_1.out HB.out) | (with_reducible refine Kd.C_alloc ?_ _) | (with_reducible refine Kd.C_drewN ?_ _) | (with_reducible refine Kd.C_drew ?_))); (case side2 => exact HC0_1.out); (case side3 => repeat (first | exact (Kd.C_below HR0_2.out HB.out) | (with_reducible refine Kd.C_alloc ?_ _) | (with_reducible refine Kd.C_drewN ?_ _) | (with_reducible refine Kd.C_drew ?_))); (case side4 => exact HC0_2.out); rintro e w12 ⟨rfl, hb⟩; refine ⟨_, rfl, ?_⟩; replace BK982 := gz (aq (g := gb982) (o := .cells #[.int .i64 a0_0, .slice A0_1 l0_1.length c0_1, .slice A0_2 l0_2.length c0_2] 25 (0, 0)) (bK BK982) hb); replace HB := gz (ai zB hb); (try clear hb); (try clear hb2); (try clear hk); (try clear hi)))
  go_ret
  exact ⟨Z3, Z0⟩
end Go.Proofs.YtaccleilcdfapaaGreat.G
