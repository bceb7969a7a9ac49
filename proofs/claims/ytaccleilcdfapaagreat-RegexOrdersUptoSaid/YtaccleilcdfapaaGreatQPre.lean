import Derived.ArgAppend
import Derived.Below
import Derived.BigQuiet
import Derived.Deep.AppendLies
import Derived.Deep.CutBlock
import Derived.Deep.DeepCutAuto
import Derived.Deep.Draws
import Derived.Deep.LoopGhost
import Derived.Deep.OwnRows
import Derived.Deep.QuietTactic
import Derived.Deep.RegionHeld3
import Derived.Deep.WholeRow
import Derived.Defers
import Derived.KernelRfl
import Derived.Laws.Bits64b
import Derived.Laws.BitsLemmas
import Derived.Laws.BytesArg
import Derived.Laws.EntriesVeiled
import Derived.Laws.IdiomCopy
import Derived.Laws.MakeOwn
import Derived.Laws.OwnMore
import Derived.Laws.Pointers
import Derived.Laws.RangeAny
import Derived.Laws.RangeString
import Derived.Laws.Rows
import Derived.Laws.Slices
import Derived.Laws.Tables
import Derived.Lib.AppendStr
import Derived.Lib.Bytealg
import Derived.Lib.ConvBytes
import Derived.MapKept
import Derived.Maps.AppendAt
import Derived.Maps.OwnOps
import Derived.Maps.OwnSet
import Derived.Maps.Views
import Derived.OrdersHeld
import Derived.OwnWalk
import Derived.Recover
import Derived.RowKit
import Derived.RowKit3
import Derived.Scope
import Derived.Shelf.Spec.SlicesGrow
import Derived.StillTailTactics
import Derived.Tactics
import Derived.Tactics2
import Derived.Test.YtaccleilcdfapaaGreatLays
import Derived.Test.YtaccleilcdfapaaGreatProg
import Derived.Test.YtaccleilcdfapaaGreatQV0
import Derived.WalkKit
import Derived.WideLaws

namespace Go.Proofs.YtaccleilcdfapaaGreat.G
open Go.RowKit Go.Proofs.YtaccleilcdfapaaGreatW.PrintWords Go.Proofs.YtaccleilcdfapaaGreatW.PrintLast Go.Proofs.YtaccleilcdfapaaGreatW.PrintMore
attribute [local go_sem] dH dF dR dQ da cZ dG dE
set_option linter.unusedVariables false
set_option linter.unusedSimpArgs false
def errW : Option Int → Value
 | none => .nilIface
 | some c => .iface 0 (.int .i64 c)
theorem errW_none : errW none = .nilIface := rfl
theorem errW_some (c : Int) : errW (some c) = .iface 0 (.int .i64 c) := rfl
theorem info21 : (Tryz.prog.info? 21).map (fun i => (i.zero, i.size, i.bytes)) = some (some (.int .i32 0), 1, 4) := by kernel_rfl
theorem info22 : (Tryz.prog.info? 22).map (fun i => (i.zero, i.size, i.bytes)) = some (some (.slice none 0 0), 1, 24) := by kernel_rfl
theorem fw : (Tryz.prog.info? 25).map (fun i => (i.zero, i.size, i.bytes)) = some (some (.agg #[(.int .i64 0), (.slice none 0 0), (.slice none 0 0)]), 3, 56) := by kernel_rfl
theorem info51 : (Tryz.prog.info? 51).map (fun i => (i.zero, i.size, i.bytes)) = some (some (.agg #[(.int .i32 0), (.int .i32 0)]), 2, 8) := by kernel_rfl
structure S51 where
 f0 : Int
 f1 : Int
def z51 : S51 := ⟨(0 : Int), (0 : Int)⟩
def k51 : Kd S51 := Kd.iso (Kd.pair (Kd.int .i32) (Kd.int .i32)) (fun x : S51 => (x.f0, x.f1))
theorem fl : Kd.Heap k51 := Kd.heap_iso _ (Kd.heap_pair (Kd.heap_int .i32) (Kd.heap_int .i32))
theorem k51_open {w : World} {x : S51} {cs : List Value} (h : k51.K w x cs) : cs = [.int .i32 x.f0, .int .i32 x.f1] := by
 obtain ⟨_, _, rfl, rfl, rfl⟩ := h
 exact rfl
theorem k51_openM {w : World} {base : Nat} {ok : Nat → Prop} {x : S51} {cs : List Value} (h : k51.M w base ok x cs) : cs = [.int .i32 x.f0, .int .i32 x.f1] := by
 obtain ⟨_, _, rfl, rfl, rfl⟩ := h
 exact rfl
theorem k51_mk (w : World) (x : S51)  : k51.K w x [.int .i32 x.f0, .int .i32 x.f1] := ⟨[.int .i32 x.f0], [.int .i32 x.f1], rfl, rfl, rfl⟩
theorem k51_mkM (w : World) (base : Nat) (ok : Nat → Prop) (x : S51)  : k51.M w base ok x [.int .i32 x.f0, .int .i32 x.f1] := ⟨[.int .i32 x.f0], [.int .i32 x.f1], rfl, rfl, rfl⟩
theorem k51_mkF (W : World) (ok : Nat → Prop) (x : S51) : Kd.FK k51 W ok x [.int .i32 x.f0, .int .i32 x.f1] := fun W2 _ => k51_mk W2 x
def aA (xs : List S51) (i : Int) : S51 := xs.getD i.toNat z51
theorem cI {w : World} {A : Option Addr} {n : Nat} {xs : List S51} (h : Kd.C k51 w A n xs) (i : Int) (h0 : 0 ≤ i) (h1 : i < n) : ∃ ad , A = some ad ∧ w.cell? (ad.add (i.toNat * 2)) = some (.int .i32 (aA xs i).f0) ∧ w.cell? ⟨(ad.add (i.toNat * 2)).block, (ad.add (i.toNat * 2)).off + 1, none⟩ = some (.int .i32 (aA xs i).f1) := by
 obtain ⟨ad, c, e, _, hK, hc0⟩ := Kd.C_get h z51 i h0 h1
 have hc : ∀ j u, c[j]? = some u → w.cell? (ad.add (i.toNat * 2 + j)) = some u := hc0
 obtain rfl := k51_open hK
 exact ⟨ad, e, hc 0 _ rfl, by rw [← dB _ _ 1 (by omega)]; exact hc 1 _ rfl⟩
def cP (xs : List (List S51)) (i : Int) : (List S51) := xs.getD i.toNat ([] : List S51)
theorem fV {w : World} {A : Option Addr} {n : Nat} {xs : List (List S51)} (h : Kd.C (Kd.slice 51 k51) w A n xs) (i : Int) (h0 : 0 ≤ i) (h1 : i < n) : ∃ ad A0 c0, A = some ad ∧ w.cell? (ad.add i.toNat) = some (.slice A0 (cP xs i).length c0) ∧ (cP xs i).length ≤ c0 ∧ k51.C w A0 (cP xs i).length (cP xs i) := by
 obtain ⟨ad, c, e, _, hK, hc0⟩ := Kd.C_get h ([] : List S51) i h0 h1
 have hc : ∀ j u, c[j]? = some u → w.cell? (ad.add (i.toNat * 1 + j)) = some u := hc0
 obtain ⟨A0, c0, rfl, l0, g0⟩ := hK
 exact ⟨ad, A0, c0, e, by have hq := hc 0 _ rfl; rwa [Nat.mul_one, Nat.add_zero] at hq, l0, g0⟩
structure S25 where
 f0 : Int
 f1 : (List S51)
 f2 : (List S25)
def z25 : S25 := ⟨(0 : Int), ([] : List S51), ([] : List S25)⟩
def F25 (d : Kd S25) : Kd S25 := Kd.iso (Kd.pair (Kd.int .i64) (Kd.pair (Kd.slice 51 k51) (Kd.slice 25 d))) (fun x : S25 => (x.f0, x.f1, x.f2))
theorem mono25 : Kd.Mono F25 := Kd.mono_iso _ (Kd.mono_pair (Kd.mono_const _) (Kd.mono_pair (Kd.mono_const _) (Kd.mono_slice 25 Kd.mono_id)))
theorem sub25 : Kd.Sub F25 [25, 51] := Kd.sub_iso _ (Kd.sub_pair (Kd.sub_const _ (by decide)) (Kd.sub_pair (Kd.sub_const _ (by decide)) (Kd.sub_slice 25 (by decide) Kd.sub_id)))
theorem sz25 : ∀ n, (Kd.upto F25 3 [25, 51] n).sz = 3 := Kd.upto_sz (fun _ => rfl)
def k25 : Kd S25 := Kd.fix F25 3 [25, 51] sz25 (Kd.upto_E sub25)
theorem fv : Kd.Heap k25 := Kd.heap_fix (fun _ h_ => Kd.heap_iso _ (Kd.heap_pair (Kd.heap_int .i64) (Kd.heap_pair (Kd.heap_slice 51 fl) (Kd.heap_slice 25 h_))))
theorem fm {w : World} {x : S25} {cs : List Value} (h : k25.K w x cs) : ∃ A1 c1 A2 c2, cs = [.int .i64 x.f0, .slice A1 x.f1.length c1, .slice A2 x.f2.length c2] ∧ x.f1.length ≤ c1 ∧ k51.C w A1 x.f1.length x.f1 ∧ x.f2.length ≤ c2 ∧ k25.C w A2 x.f2.length x.f2 := by
 obtain ⟨n, h⟩ := h
 cases n with
 | zero => exact h.elim
 | succ n =>
  obtain ⟨_, _, rfl, rfl, ⟨_, _, rfl, ⟨A1, c1, rfl, l1, g1⟩, ⟨A2, c2, rfl, l2, g2⟩⟩⟩ := h
  exact ⟨A1, c1, A2, c2, rfl, l1, g1, l2, Kd.fix_C g2⟩
theorem k25_openM {w : World} {base : Nat} {ok : Nat → Prop} {x : S25} {cs : List Value} (h : k25.M w base ok x cs) : ∃ v1 v2, cs = [.int .i64 x.f0, v1, v2] ∧ k51.R 51 w base ok v1 x.f1 ∧ k25.R 25 w base ok v2 x.f2 := by
 obtain ⟨n, h⟩ := h
 cases n with
 | zero => exact h.elim
 | succ n =>
  obtain ⟨_, _, rfl, rfl, ⟨_, _, rfl, ⟨v1, rfl, g1⟩, ⟨v2, rfl, g2⟩⟩⟩ := h
  exact ⟨v1, v2, rfl, g1, Kd.fix_R g2⟩
theorem k25_mk (w : World) (x : S25) {A1 : Option Addr} {c1 : Nat} (l1 : x.f1.length ≤ c1) (g1 : k51.C w A1 x.f1.length x.f1) {A2 : Option Addr} {c2 : Nat} (l2 : x.f2.length ≤ c2) (g2 : k25.C w A2 x.f2.length x.f2) : k25.K w x [.int .i64 x.f0, .slice A1 x.f1.length c1, .slice A2 x.f2.length c2] := by
 obtain ⟨n2, q2⟩ := Kd.fix_C_back mono25 g2
 have r2 := Kd.upto_C_le mono25 sz25 (show n2 ≤ n2 by omega) q2
 exact ⟨n2 + 1, ⟨[.int .i64 x.f0], [.slice A1 x.f1.length c1, .slice A2 x.f2.length c2], rfl, rfl, ⟨[.slice A1 x.f1.length c1], [.slice A2 x.f2.length c2], rfl, ⟨A1, c1, rfl, l1, g1⟩, ⟨A2, c2, rfl, l2, r2⟩⟩⟩⟩
theorem k25_mkM (w : World) (base : Nat) (ok : Nat → Prop) (x : S25) {v1 : Value} (g1 : k51.R 51 w base ok v1 x.f1) {v2 : Value} (g2 : k25.R 25 w base ok v2 x.f2) : k25.M w base ok x [.int .i64 x.f0, v1, v2] := by
 obtain ⟨n2, q2⟩ := Kd.fix_R_back mono25 g2
 have r2 := Kd.upto_R_le mono25 sz25 (show n2 ≤ n2 by omega) q2
 exact ⟨n2 + 1, ⟨[.int .i64 x.f0], [v1, v2], rfl, rfl, ⟨[v1], [v2], rfl, ⟨v1, rfl, g1⟩, ⟨v2, rfl, r2⟩⟩⟩⟩
theorem dZ {W : World} {ok : Nat → Prop} {x : S25} {cs : List Value} (h : Kd.FK k25 W ok x cs) : ∃ A1 c1 A2 c2, cs = [.int .i64 x.f0, .slice A1 x.f1.length c1, .slice A2 x.f2.length c2] ∧ x.f1.length ≤ c1 ∧ Kd.F k51 W ok A1 x.f1.length x.f1 ∧ x.f2.length ≤ c2 ∧ Kd.F k25 W ok A2 x.f2.length x.f2 := by
 obtain ⟨A1, c1, A2, c2, rfl, l1, _, l2, _⟩ := fm (Kd.FK_now h)
 exact ⟨A1, c1, A2, c2, rfl, l1, (fun W' hW => by obtain ⟨A1_, c1_, A2_, c2_, he, l1_, g1_, l2_, g2_⟩ := fm (h W' hW); injection (Option.some.inj (show some (Value.slice A1 x.f1.length c1) = some (Value.slice A1_ x.f1.length c1_) from congrArg (fun l => l[1]?) he)) with ha_ _ _; rw [ha_]; exact g1_), l2, (fun W' hW => by obtain ⟨A1_, c1_, A2_, c2_, he, l1_, g1_, l2_, g2_⟩ := fm (h W' hW); injection (Option.some.inj (show some (Value.slice A2 x.f2.length c2) = some (Value.slice A2_ x.f2.length c2_) from congrArg (fun l => l[2]?) he)) with ha_ _ _; rw [ha_]; exact g2_)⟩
theorem bP (W : World) (ok : Nat → Prop) (x : S25) {A1 : Option Addr} {c1 : Nat} (l1 : x.f1.length ≤ c1) (g1 : Kd.F k51 W ok A1 x.f1.length x.f1) {A2 : Option Addr} {c2 : Nat} (l2 : x.f2.length ≤ c2) (g2 : Kd.F k25 W ok A2 x.f2.length x.f2) : Kd.FK k25 W ok x [.int .i64 x.f0, .slice A1 x.f1.length c1, .slice A2 x.f2.length c2] := fun W2 hW => k25_mk W2 x l1 (g1 W2 hW) l2 (g2 W2 hW)
def an (xs : List S25) (i : Int) : S25 := xs.getD i.toNat z25
theorem d8 {w : World} {A : Option Addr} {n : Nat} {xs : List S25} (h : Kd.C k25 w A n xs) (i : Int) (h0 : 0 ≤ i) (h1 : i < n) : ∃ ad A1 c1 A2 c2, A = some ad ∧ w.cell? (ad.add (i.toNat * 3)) = some (.int .i64 (an xs i).f0) ∧ w.cell? ⟨(ad.add (i.toNat * 3)).block, (ad.add (i.toNat * 3)).off + 1, none⟩ = some (.slice A1 (an xs i).f1.length c1) ∧ w.cell? ⟨(ad.add (i.toNat * 3)).block, (ad.add (i.toNat * 3)).off + 2, none⟩ = some (.slice A2 (an xs i).f2.length c2) ∧ (an xs i).f1.length ≤ c1 ∧ k51.C w A1 (an xs i).f1.length (an xs i).f1 ∧ (an xs i).f2.length ≤ c2 ∧ k25.C w A2 (an xs i).f2.length (an xs i).f2 := by
 obtain ⟨ad, c, e, _, hK, hc0⟩ := Kd.C_get h z25 i h0 h1
 have hc : ∀ j u, c[j]? = some u → w.cell? (ad.add (i.toNat * 3 + j)) = some u := hc0
 obtain ⟨A1, c1, A2, c2, rfl, l1, g1, l2, g2⟩ := fm hK
 exact ⟨ad, A1, c1, A2, c2, e, hc 0 _ rfl, by rw [← dB _ _ 1 (by omega)]; exact hc 1 _ rfl, by rw [← dB _ _ 2 (by omega)]; exact hc 2 _ rfl, l1, g1, l2, g2⟩
def rd_L5 (xs : List (List (List S51))) (i : Int) : (List (List S51)) := xs.getD i.toNat ([] : List (List S51))
theorem at_L5 {w : World} {A : Option Addr} {n : Nat} {xs : List (List (List S51))} (h : Kd.C (Kd.slice 22 (Kd.slice 51 k51)) w A n xs) (i : Int) (h0 : 0 ≤ i) (h1 : i < n) : ∃ ad A0 c0, A = some ad ∧ w.cell? (ad.add i.toNat) = some (.slice A0 (rd_L5 xs i).length c0) ∧ (rd_L5 xs i).length ≤ c0 ∧ (Kd.slice 51 k51).C w A0 (rd_L5 xs i).length (rd_L5 xs i) := by
 obtain ⟨ad, c, e, _, hK, hc0⟩ := Kd.C_get h ([] : List (List S51)) i h0 h1
 have hc : ∀ j u, c[j]? = some u → w.cell? (ad.add (i.toNat * 1 + j)) = some u := hc0
 obtain ⟨A0, c0, rfl, l0, g0⟩ := hK
 exact ⟨ad, A0, c0, e, by have hq := hc 0 _ rfl; rwa [Nat.mul_one, Nat.add_zero] at hq, l0, g0⟩
structure S42 where
 f0 : Int
 f1 : Int
def z42 : S42 := ⟨(0 : Int), (0 : Int)⟩
def k42 : Kd S42 := Kd.iso (Kd.pair (Kd.int .i64) (Kd.int .i64)) (fun x : S42 => (x.f0, x.f1))
theorem k42_heap : Kd.Heap k42 := Kd.heap_iso _ (Kd.heap_pair (Kd.heap_int .i64) (Kd.heap_int .i64))
theorem k42_open {w : World} {x : S42} {cs : List Value} (h : k42.K w x cs) : cs = [.int .i64 x.f0, .int .i64 x.f1] := by
 obtain ⟨_, _, rfl, rfl, rfl⟩ := h
 exact rfl
theorem k42_openM {w : World} {base : Nat} {ok : Nat → Prop} {x : S42} {cs : List Value} (h : k42.M w base ok x cs) : cs = [.int .i64 x.f0, .int .i64 x.f1] := by
 obtain ⟨_, _, rfl, rfl, rfl⟩ := h
 exact rfl
theorem k42_mk (w : World) (x : S42)  : k42.K w x [.int .i64 x.f0, .int .i64 x.f1] := ⟨[.int .i64 x.f0], [.int .i64 x.f1], rfl, rfl, rfl⟩
theorem k42_mkM (w : World) (base : Nat) (ok : Nat → Prop) (x : S42)  : k42.M w base ok x [.int .i64 x.f0, .int .i64 x.f1] := ⟨[.int .i64 x.f0], [.int .i64 x.f1], rfl, rfl, rfl⟩
theorem k42_mkF (W : World) (ok : Nat → Prop) (x : S42) : Kd.FK k42 W ok x [.int .i64 x.f0, .int .i64 x.f1] := fun W2 _ => k42_mk W2 x
def rd_T42 (xs : List S42) (i : Int) : S42 := xs.getD i.toNat z42
theorem at_T42 {w : World} {A : Option Addr} {n : Nat} {xs : List S42} (h : Kd.C k42 w A n xs) (i : Int) (h0 : 0 ≤ i) (h1 : i < n) : ∃ ad , A = some ad ∧ w.cell? (ad.add (i.toNat * 2)) = some (.int .i64 (rd_T42 xs i).f0) ∧ w.cell? ⟨(ad.add (i.toNat * 2)).block, (ad.add (i.toNat * 2)).off + 1, none⟩ = some (.int .i64 (rd_T42 xs i).f1) := by
 obtain ⟨ad, c, e, _, hK, hc0⟩ := Kd.C_get h z42 i h0 h1
 have hc : ∀ j u, c[j]? = some u → w.cell? (ad.add (i.toNat * 2 + j)) = some u := hc0
 obtain rfl := k42_open hK
 exact ⟨ad, e, hc 0 _ rfl, by rw [← dB _ _ 1 (by omega)]; exact hc 1 _ rfl⟩
def rd_L10 (xs : List (List Int)) (i : Int) : (List Int) := xs.getD i.toNat ([] : List Int)
theorem at_L10 {w : World} {A : Option Addr} {n : Nat} {xs : List (List Int)} (h : Kd.C (Kd.slice 21 (Kd.int .i32)) w A n xs) (i : Int) (h0 : 0 ≤ i) (h1 : i < n) : ∃ ad A0 c0, A = some ad ∧ w.cell? (ad.add i.toNat) = some (.slice A0 (rd_L10 xs i).length c0) ∧ (rd_L10 xs i).length ≤ c0 ∧ (Kd.int .i32).C w A0 (rd_L10 xs i).length (rd_L10 xs i) := by
 obtain ⟨ad, c, e, _, hK, hc0⟩ := Kd.C_get h ([] : List Int) i h0 h1
 have hc : ∀ j u, c[j]? = some u → w.cell? (ad.add (i.toNat * 1 + j)) = some u := hc0
 obtain ⟨A0, c0, rfl, l0, g0⟩ := hK
 exact ⟨ad, A0, c0, e, by have hq := hc 0 _ rfl; rwa [Nat.mul_one, Nat.add_zero] at hq, l0, g0⟩
mutual
def bk25 : S25 → Nat
 | ⟨_, s, l⟩ => 3 * s.length + bkL25 l + 4
def bkL25 : List S25 → Nat
 | [] => 0
 | x :: l => bk25 x + bkL25 l
end
mutual
def wf25 : S25 → Prop
 | ⟨_, s, l⟩ => (s.length ≤ 9223372036854775807 ∧ ∀ y ∈ s, (Lit.int .i32 y.f0).wf = true ∧ (Lit.int .i32 y.f1).wf = true) ∧ wfL25 l
def wfL25 : List S25 → Prop
 | [] => True
 | x :: l => wf25 x ∧ wfL25 l
end
theorem reps_strings (w : World) (base : Nat) (ok : Nat → Prop) (l : List ByteArray) : Reps (Kd.string.M w base ok) Kd.string.sz l (l.map Value.string) := by
 refine ⟨by simp [Kd.string, Kd.scalar], ?_⟩
 intro j p hj
 obtain ⟨hjl, hp⟩ := List.getElem?_eq_some_iff.1 hj
 show _ = [Value.string p]
 subst hp
 show List.take 1 (List.drop (j * 1) (l.map Value.string)) = [Value.string l[j]]
 rw [Nat.mul_one, List.drop_eq_getElem_cons (by simpa using hjl)]
 simp
theorem bL (w : World) (o : Obj) : (w.alloc o).heap.size = w.heap.size + 1 := Array.size_push ..
theorem oldCells {W w1 : World} (hb : Below W.heap.size W w1) : (∀ b o, b < W.heap.size → w1.cell? ⟨b, o, none⟩ = W.cell? ⟨b, o, none⟩) ∧ (∀ b o, b < W.heap.size → w1.frozen? ⟨b, o, none⟩ = W.frozen? ⟨b, o, none⟩) :=
 ⟨fun b o h => hb.cell (p := ⟨b, o, none⟩) h, fun b o h => hb.frozen (p := ⟨b, o, none⟩) h⟩
theorem u32_mod (x : Int) : IntKind.u32.wrap x = x % 4294967296 := by simp [IntKind.wrap, IntKind.signed, IntKind.bits]
theorem fN (x y : Int) : (IntKind.u32.wrap x).tmod y = x % 4294967296 % y := by
 rw [u32_mod, Int.tmod_eq_emod_of_nonneg (Int.emod_nonneg _ (by decide))]
theorem u32_joined (x y : Int) : x * 64 % 4294967296 + y % 64 = (x * 64 + y % 64) % 4294967296 := by omega
theorem cC {α β : Type} {o : Option α} {f : α → Option β} {b : β} (h : o.bind f = some b) : ∃ a, o = some a ∧ f a = some b := Option.bind_eq_some_iff.mp h
abbrev st3 (W : World) (g : Nat) (x y z : Value) : World := ((W.setCell ⟨g, 0, none⟩ x).setCell ⟨g, 1, none⟩ y).setCell ⟨g, 2, none⟩ z
theorem dT {W : World} {m : Nat} {a b c x y z : Value} (h : W.heap[m]? = some (.cells #[a, b, c] 25 (0, 0))) : (st3 W m x y z).heap[m]? = some (.cells #[x, y, z] 25 (0, 0)) :=
 bG (cs := #[x, y, c]) (bG (cs := #[x, b, c]) (bG (cs := #[a, b, c]) h 0 _ rfl) 1 _ rfl) 2 _ rfl
theorem st3_far (W : World) (m : Nat) (x y z : Value) (k : Nat) (h : k ≠ m) : (st3 W m x y z).heap[k]? = W.heap[k]? := by
 unfold st3
 rw [Below.heap_setCell _ _ _ k h, Below.heap_setCell _ _ _ k h, Below.heap_setCell _ _ _ k h]
theorem st3_below {B m : Nat} {w W : World} {x y z : Value} (h : Below B w W) (hm : B ≤ m) : Below B w (st3 W m x y z) := ((h.setCell hm _).setCell hm _).setCell hm _
theorem b3 {W : World} {g : Nat} {t : TypeId} {a b c : Value} (h : W.heap[g]? = some (.cells #[a, b, c] t (0, 0))) : W.cell? ⟨g, 0, none⟩ = some a ∧ W.cell? ⟨g, 1, none⟩ = some b ∧ W.cell? ⟨g, 2, none⟩ = some c ∧ W.frozen? ⟨g, 0, none⟩ = false ∧ W.frozen? ⟨g, 1, none⟩ = false ∧ W.frozen? ⟨g, 2, none⟩ = false :=
 ⟨(ah h 0).trans rfl, (ah h 1).trans rfl, (ah h 2).trans rfl, ag h 0, ag h 1, ag h 2⟩
theorem bN {W : World} {o : Obj} {n : Nat} (h : W.heap.size = n := by first | rfl | assumption | (simp only [bL]; done) | (simp only [bL]; omega)) : (W.alloc o).heap[n]? = some o := by subst h; exact a8 W o
theorem V_cap {α : Type} {d : Kd α} {e base : Nat} {W : World} {ok : Nat → Prop} {v : Value} {xs : List α} (h : Kd.V d e W base ok v xs) : Kd.V d e W base (fun k => ok k ∧ k < W.heap.size) v xs := Kd.V_map h (fun _ hf => Kd.F_bound hf)
theorem V_W {α : Type} {d : Kd α} {e base base' : Nat} {W W' : World} {ok ok' : Nat → Prop} {v : Value} {xs : List α} (h : Kd.V d e W base ok v xs) (hb : Below W.heap.size W W') (ho : ∀ k, ok k → ok' k) : Kd.V d e W' base' ok' v xs := Kd.V_mono (Kd.V_below h hb) ho
theorem V_st {α : Type} {d : Kd α} {e base base' : Nat} {W : World} {ok ok' : Nat → Prop} {v x y z : Value} {xs : List α} {g : Nat} (h : Kd.V d e W base ok v xs) (ho : ∀ k, ok k → ok' k ∧ k ≠ g) : Kd.V d e (st3 W g x y z) base' ok' v xs :=
 Kd.V_map h (fun _ hf => Kd.F_mono (Foot.step (Kd.F_bound hf) (fun k hk _ => st3_far W g x y z k (ho k hk.1).2)) (fun k hk => (ho k hk.1).1))
theorem dA {α : Type} (d : Kd α) (e : Nat) (W : World) (base : Nat) (ok : Nat → Prop) (A : Option Addr) (c : Nat) : Kd.V d e W base ok (.slice A ([] : List α).length c) [] := ⟨A, c, rfl, Nat.zero_le _, Kd.F_mono (fun W' _ => ⟨rfl, by simp, fun hp => absurd hp (by simp)⟩ : Kd.F d W (fun _ => False) A ([] : List α).length []) (fun _ h => h.elim)⟩
theorem zb {P : Prop} (h : P := by repeat (first | (with_reducible exact Below.refl _ _) | (with_reducible exact aa.out (by assumption)) | (with_reducible apply ak) | (with_reducible apply aC) | (with_reducible apply aX) | (with_reducible refine cx ?_ (by first | omega | exact aa.out (by assumption) | (simp only [bL]; omega))))) : P := h
theorem vW {α : Type} {d : Kd α} {e base base' : Nat} {W W' : World} {ok ok' : Nat → Prop} {v : Value} {xs : List α} (h : aa (Kd.V d e W base ok v xs)) (hb : Below W.heap.size W W' := by exact zb) (ho : ∀ k, ok k → ok' k := by intro k hk; first | exact hk | exact .inl (.inl hk) | exact .inl (.inr hk) | grind | (simp only [bL] at hk; grind)) : Kd.V d e W' base' ok' v xs := V_W h.out hb ho
theorem vS {α : Type} {d : Kd α} {e base base' : Nat} {W : World} {ok ok' : Nat → Prop} {v x y z : Value} {xs : List α} {g : Nat} (h : aa (Kd.V d e W base ok v xs)) (ho : ∀ k, ok k → ok' k ∧ k ≠ g := by intro k hk; first | grind | (simp only [bL] at hk; grind)) : Kd.V d e (st3 W g x y z) base' ok' v xs := V_st h.out ho
theorem vO {α : Type} {d : Kd α} {e base : Nat} {W W' : World} {ok : Nat → Prop} {v : Value} {xs : List α} (h : aa (Kd.V d e W base ok v xs)) (hb : Below W.heap.size W W' := by exact zb) : aa (Kd.V d e W' base (fun k => ok k ∧ k < W.heap.size) v xs) := ⟨Kd.V_below (V_cap h.out) hb⟩
theorem V_one {W : World} {g b : Nat} {x : S25} {A1 A2 : Option Addr} {c1 c2 : Nat} {ok : Nat → Prop} (hg : W.heap[g]? = some (.cells #[.int .i64 x.f0, .slice A1 x.f1.length c1, .slice A2 x.f2.length c2] 25 (0, 0)))
  (h1 : Kd.V k51 51 W b ok (.slice A1 x.f1.length c1) x.f1) (h2 : Kd.V k25 25 W b ok (.slice A2 x.f2.length c2) x.f2) (hok : ok g) : Kd.V k25 25 W b ok (.slice (some ⟨g, 0, none⟩) 1 1) [x] := by
 refine ⟨some ⟨g, 0, none⟩, 1, rfl, Nat.le_refl _, fun W' hW => ⟨rfl, by simp, fun _ => ⟨⟨g, 0, none⟩, rfl, fun j p hj => ?_⟩⟩⟩
 cases j with
 | succ j => simp at hj
 | zero =>
  have hx : x = p := by simpa using hj
  subst hx
  have hg' := (hW g hok (bB hg)).trans hg
  refine ⟨_, rfl, k25_mk W' x (Kd.V_at h1).2.1 (Kd.V_F h1 W' hW) (Kd.V_at h2).2.1 (Kd.V_F h2 W' hW), fun i u hi => ?_⟩
  have hc := ah hg' i
  match i with
  | 0 => exact hc.trans hi
  | 1 => exact hc.trans hi
  | 2 => exact hc.trans hi
  | i + 3 => simp at hi
abbrev Ret (w : World) (E : Nat → Prop) (r1 : Int) (r2 : List S51) (r3 : List S25) : Ending → World → Prop := fun e w' => ∃ v1_ v2_ : Value, e = .returned (.agg #[.int .i64 r1, v1_, v2_]) ∧ Kd.V k51 51 w' w.heap.size E v1_ r2 ∧ Kd.V k25 25 w' w.heap.size E v2_ r3 ∧ Below w.heap.size w w'
abbrev RetE (w : World) (E : Nat → Prop) (r1 : Int) (r2 : List S51) (r3 : List S25) (r4 : Int) : Ending → World → Prop := fun e w' => ∃ v1_ v2_ : Value, e = .returned (.tuple #[.agg #[.int .i64 r1, v1_, v2_], .int .i64 r4]) ∧ Kd.V k51 51 w' w.heap.size E v1_ r2 ∧ Kd.V k25 25 w' w.heap.size E v2_ r3 ∧ Below w.heap.size w w'
theorem fin1 {fn : Func} {p : Tmp} {tmps : Array Value} {w W : World} {g : Nat} {E : Nat → Prop} {r1 : Int} {r2 : List S51} {r3 : List S25} {v1 v2 : Value} (hg : W.heap[g]? = some (.cells #[.int .i64 r1, v1, v2] 25 (0, 0))) (h1 : Kd.V k51 51 W w.heap.size E v1 r2) (h2 : Kd.V k25 25 W w.heap.size E v2 r3) (hb : Below w.heap.size w W) (hr : fn.results = #[.cell p 25] := by rfl) (hp : tmps.getD p undef = .pointer (some ⟨g, 0, none⟩) := by rfl) :
  bodyPost Tryz.prog fn (Ret w E r1 r2 r3) .ret ⟨tmps, []⟩ W :=
 bodyPost_ret (results_cell_row hr tmps W g 25 _ (0, 0) _ hp hg Tryz.underlying25 rfl (by kernel_rfl)) rfl ⟨_, _, rfl, h1, h2, hb⟩
theorem fin2 {fn : Func} {p u : Tmp} {tmps : Array Value} {w W : World} {g : Nat} {E : Nat → Prop} {r1 r4 : Int} {r2 : List S51} {r3 : List S25} {v1 v2 : Value} (hg : W.heap[g]? = some (.cells #[.int .i64 r1, v1, v2] 25 (0, 0))) (h1 : Kd.V k51 51 W w.heap.size E v1 r2) (h2 : Kd.V k25 25 W w.heap.size E v2 r3) (hb : Below w.heap.size w W) (hr : fn.results = #[.cell p 25, .tmp u] := by rfl) (hp : tmps.getD p undef = .pointer (some ⟨g, 0, none⟩) := by rfl) (hu : tmps.getD u undef = .int .i64 r4 := by rfl) :
  bodyPost Tryz.prog fn (RetE w E r1 r2 r3 r4) .ret ⟨tmps, []⟩ W :=
 bodyPost_ret (cM hr tmps W g 25 _ (0, 0) _ hp hg Tryz.underlying25 rfl (by kernel_rfl)) rfl ⟨_, _, by rw [hu], h1, h2, hb⟩
abbrev Zer (r : Int) (w : World) : Ending → World → Prop := fun e w' => ∃ A1 c1 A2 c2, e = .returned (.agg #[.int .i64 r, .slice A1 ([] : List S51).length c1, .slice A2 ([] : List S25).length c2]) ∧ Below w.heap.size w w'
theorem V_el {W : World} {b : Nat} {ok : Nat → Prop} {A : Option Addr} {n c : Nat} {xs : List S25} (h : aa (Kd.V k25 25 W b ok (.slice A n c) xs)) (i : Int) (h0 : 0 ≤ i) (h1 : i < n) :
  ∃ ad A1 c1 A2 c2, A = some ad ∧ W.cell? (ad.add (i.toNat * 3)) = some (.int .i64 (an xs i).f0) ∧ W.cell? ⟨(ad.add (i.toNat * 3)).block, (ad.add (i.toNat * 3)).off + 1, none⟩ = some (.slice A1 (an xs i).f1.length c1) ∧ W.cell? ⟨(ad.add (i.toNat * 3)).block, (ad.add (i.toNat * 3)).off + 2, none⟩ = some (.slice A2 (an xs i).f2.length c2) ∧
   aa (Kd.V k51 51 W b ok (.slice A1 (an xs i).f1.length c1) (an xs i).f1) ∧ aa (Kd.V k25 25 W b ok (.slice A2 (an xs i).f2.length c2) (an xs i).f2) := by
 obtain ⟨hn, _, _⟩ := Kd.V_reads' h.out
 obtain ⟨ad, A1, c1, A2, c2, rfl, x0, x1, x2, _, _, _, _⟩ := d8 (Kd.V_reads' h.out).2.2 i h0 (by omega)
 obtain ⟨ce, _, hM, hc⟩ := Kd.V_get h.out z25 i h0 h1
 obtain ⟨B1, d1, B2, d2, rfl, l1, f1, l2, f2⟩ := dZ hM
 have y1 := hc 1 _ rfl
 have y2 := hc 2 _ rfl
 rw [dB _ _ 1 (by decide)] at y1
 rw [dB _ _ 2 (by decide)] at y2
 replace y1 := Option.some.inj (y1.symm.trans x1)
 replace y2 := Option.some.inj (y2.symm.trans x2)
 injection y1 with e1 _ e2
 injection y2 with e3 _ e4
 subst e1 e2 e3 e4
 exact ⟨ad, _, _, _, _, rfl, x0, x1, x2, ⟨Kd.V_mk l1 f1⟩, ⟨Kd.V_mk l2 f2⟩⟩
abbrev bx (a : Int) (A1 : Option Addr) (l1 : List S51) (c1 : Nat) (A2 : Option Addr) (l2 : List S25) (c2 : Nat) : Obj := .cells #[.int .i64 a, .slice A1 l1.length c1, .slice A2 l2.length c2] 25
abbrev zx : Obj := .cells #[.int .i64 0, .slice none 0 0, .slice none 0 0] 25
theorem hd (w : World) (o1 o2 : Obj) : aa (Below w.heap.size w ((w.alloc o1).alloc o2)) ∧ aa (((w.alloc o1).alloc o2).heap[w.heap.size]? = some o1) ∧ aa (((w.alloc o1).alloc o2).heap[w.heap.size + 1]? = some o2) ∧ aa (((w.alloc o1).alloc o2).heap.size = w.heap.size + 1 + 1) :=
 ⟨⟨zb⟩, ⟨au (a8 w o1) o2⟩, ⟨bN⟩, ⟨by simp only [bL]⟩⟩
theorem V_el0 {W : World} {b : Nat} {ok : Nat → Prop} {A : Option Addr} {n c : Nat} {xs : List S25} (h : aa (Kd.V k25 25 W b ok (.slice A n c) xs)) (h1 : 0 < (n : Int)) :
  ∃ ad A1 c1 A2 c2, A = some ad ∧ W.cell? ad = some (.int .i64 (an xs 0).f0) ∧ W.cell? ⟨ad.block, ad.off + 1, none⟩ = some (.slice A1 (an xs 0).f1.length c1) ∧ W.cell? ⟨ad.block, ad.off + 2, none⟩ = some (.slice A2 (an xs 0).f2.length c2) ∧
   aa (Kd.V k51 51 W b ok (.slice A1 (an xs 0).f1.length c1) (an xs 0).f1) ∧ aa (Kd.V k25 25 W b ok (.slice A2 (an xs 0).f2.length c2) (an xs 0).f2) := by
 obtain ⟨ad, A1, c1, A2, c2, rfl, x0, x1, x2, F⟩ := V_el h 0 (Int.le_refl _) h1
 have e : ad.add (Int.toNat 0 * 3) = ad := by cases ad; simp [Addr.add]
 rw [e] at x0 x1 x2
 exact ⟨ad, A1, c1, A2, c2, rfl, x0, x1, x2, F⟩
theorem apN {ops : Array Oper} {rest : List Oper} {o : Oper} {a : Act} {Q : Exit → Act → World → Prop} {w0 W : World} {base : Nat} {v : Value} {xs : List S25} {x : S25} {A1 A2 : Option Addr} {c1 c2 : Nat} {ok okp : Nat → Prop} (si xi : Operand) (HO : Kd.N k25 25 W base ok v xs)
  (h1 : Kd.V k51 51 W base okp (.slice A1 x.f1.length c1) x.f1) (h2 : Kd.V k25 25 W base okp (.slice A2 x.f2.length c2) x.f2) (hokp : ∀ k, okp k → ok k ∧ some k ≠ v.ownBlock) (hfresh : ∀ k, W.heap.size ≤ k → ok k) (HB : Below base w0 W) (hbase : base ≤ W.heap.size) (hl : xs.length < 2513169434916)
  (h : ∀ v1 w1, Kd.N k25 25 w1 base ok v1 (xs ++ [x]) → Below base w0 w1 → W.grownBy w1 v.ownBlock → wpList Tryz.prog ops Q rest (a.put o.dst v1) w1)
  (hgd : o.guard = none := by rfl) (ho : o.op = .call { callee := .builtin .append, args := #[si, xi], argTypes := #[23, 23] } := by rfl) (hs : a.eval si = v := by rfl) (hx : a.eval xi = .slice (some ⟨W.heap.size, 0, none⟩) 1 1 := by first | rfl | (rw [bL]; rfl)) :
  wpList Tryz.prog ops Q (o :: rest) a (W.alloc (.cells #[.int .i64 x.f0, .slice A1 x.f1.length c1, .slice A2 x.f2.length c2] 25)) :=
 Kd.N_append k25 (w0 := w0) base hgd si xi 23 25 (.agg #[(.int .i64 0), (.slice none 0 0), (.slice none 0 0)]) 56 ho Tryz.underlying23 fw rfl (by decide) (by omega) v xs x [.int .i64 x.f0, .slice A1 x.f1.length c1, .slice A2 x.f2.length c2] ok okp hs hx
  (bP _ _ x (Kd.V_at h1).2.1 (Kd.V_F h1) (Kd.V_at h2).2.1 (Kd.V_F h2)) hokp hfresh HO HB hbase (by omega) (fun v1 w1 n1 b1 g1 _ => h v1 w1 n1 b1 g1)
theorem bkG {W W' : World} {row : Option Nat} {g : Nat} {o : Obj} (h : aa (W.heap[g]? = some o)) (hg : W.grownBy W' row) (hr : some g ≠ row) : aa (W'.heap[g]? = some o) := ⟨(hg.block g (bB h.out) hr).trans h.out⟩
def GG (P1 P2 : Nat → Prop) (n k : Nat) : Prop := ((P1 k ∨ P2 k) ∧ k < n) ∨ n + 2 ≤ k
theorem own_no {d : Kd S25} {e base : Nat} {w : World} {P1 P2 : Nat → Prop} {v : Value} {xs : List S25} (h : Kd.N d e w base (GG P1 P2 base) v xs) (k : Nat) (hk : k < base + 2 ∨ w.heap.size ≤ k) : some k ≠ v.ownBlock := fun q => by
 have h1 := Kd.N_lt h k q.symm
 have h2 := Kd.N_base h k q.symm
 rcases h.1 k q.symm with h3 | h3 <;> omega
theorem okM {P1 P2 : Nat → Prop} {n m k : Nat} (hm : n + 1 < m) (hk : ((P1 k ∧ k < n) ∨ GG P1 P2 n k) ∨ m ≤ k) : ((P1 k ∨ P2 k) ∨ n ≤ k) ∧ k ≠ n + 1 := by
 unfold GG at hk
 rcases hk with (h | h | h) | h
 ·exact ⟨.inl (.inl h.1), by omega⟩
 ·exact ⟨.inl h.1, by omega⟩
 ·exact ⟨.inr (by omega), by omega⟩
 ·exact ⟨.inr (by omega), by omega⟩
theorem GGq {P1 P2 : Nat → Prop} {n k : Nat} (h : GG P1 P2 n k) : ((P1 k ∨ P2 k) ∨ n ≤ k) ∧ k ≠ n + 1 := by
 rcases h with h | h
 ·exact ⟨.inl h.1, by omega⟩
 ·exact ⟨.inr (by omega), by omega⟩
theorem GG2 {P1 P2 : Nat → Prop} {n k : Nat} (h : GG P1 P2 n k ∨ GG P1 P2 n k) : ((P1 k ∨ P2 k) ∨ n ≤ k) ∧ k ≠ n + 1 := GGq (Or.elim h id id)
theorem tl0 {w0 w w' : World} {g : Nat} {Q E : Nat → Prop} {r2 : List S51} {r3 : List S25} {v1 v2 : Value} (hz : aa (w.heap[g]? = some zx)) (HB : aa (Below w0.heap.size w0 w)) (hQ : ∀ k, Q k → (E k ∨ w0.heap.size ≤ k) ∧ k ≠ g)
  (h1 : Kd.V k51 51 w' w.heap.size (fun k => Q k ∨ w.heap.size ≤ k) v1 r2) (h2 : Kd.V k25 25 w' w.heap.size (fun k => Q k ∨ w.heap.size ≤ k) v2 r3) (hb : Below w.heap.size w w') :
  ∃ D1 d1 D2 d2, v1 = .slice D1 r2.length d1 ∧ v2 = .slice D2 r3.length d2 ∧ aa (Kd.V k51 51 w' w0.heap.size (fun k => (E k ∨ w0.heap.size ≤ k) ∧ k ≠ g) (.slice D1 r2.length d1) r2) ∧ aa (Kd.V k25 25 w' w0.heap.size (fun k => (E k ∨ w0.heap.size ≤ k) ∧ k ≠ g) (.slice D2 r3.length d2) r3) ∧ aa (Below w0.heap.size w0 w') ∧ aa (w'.heap[g]? = some zx) ∧
   (w'.cell? ⟨g, 0, none⟩ = some (.int .i64 0) ∧ w'.cell? ⟨g, 1, none⟩ = some (.slice none 0 0) ∧ w'.cell? ⟨g, 2, none⟩ = some (.slice none 0 0) ∧ w'.frozen? ⟨g, 0, none⟩ = false ∧ w'.frozen? ⟨g, 1, none⟩ = false ∧ w'.frozen? ⟨g, 2, none⟩ = false) := by
 obtain ⟨D1, d1, rfl⟩ := Kd.V_slice h1
 obtain ⟨D2, d2, rfl⟩ := Kd.V_slice h2
 have hb0 := HB.out.size
 have hg := bB hz.out
 have ho : ∀ k, Q k ∨ w.heap.size ≤ k → (E k ∨ w0.heap.size ≤ k) ∧ k ≠ g := fun k hk => Or.elim hk (hQ k) (fun hk => ⟨.inr (by omega), by omega⟩)
 exact ⟨D1, d1, D2, d2, rfl, rfl, ⟨Kd.V_mono h1 ho⟩, ⟨Kd.V_mono h2 ho⟩, ⟨ai HB.out hb⟩, ⟨ao hz.out hb⟩, b3 (ao hz.out hb)⟩
abbrev Tl (w0 w' : World) (g : Nat) (E : Nat → Prop) (r2 : List S51) (r3 : List S25) (D1 D2 : Option Addr) (d1 d2 : Nat) : Prop := aa (Kd.V k51 51 w' w0.heap.size (fun k => (E k ∨ w0.heap.size ≤ k) ∧ k ≠ g) (.slice D1 r2.length d1) r2) ∧ aa (Kd.V k25 25 w' w0.heap.size (fun k => (E k ∨ w0.heap.size ≤ k) ∧ k ≠ g) (.slice D2 r3.length d2) r3) ∧ aa (Below w0.heap.size w0 w') ∧ aa (w'.heap[g]? = some zx) ∧
   (w'.cell? ⟨g, 0, none⟩ = some (.int .i64 0) ∧ w'.cell? ⟨g, 1, none⟩ = some (.slice none 0 0) ∧ w'.cell? ⟨g, 2, none⟩ = some (.slice none 0 0) ∧ w'.frozen? ⟨g, 0, none⟩ = false ∧ w'.frozen? ⟨g, 1, none⟩ = false ∧ w'.frozen? ⟨g, 2, none⟩ = false)
theorem tl1 {w0 w w' : World} {e : Ending} {g : Nat} {Q E : Nat → Prop} {r1 : Int} {r2 : List S51} {r3 : List S25} (hz : aa (w.heap[g]? = some zx)) (HB : aa (Below w0.heap.size w0 w)) (hQ : ∀ k, Q k → (E k ∨ w0.heap.size ≤ k) ∧ k ≠ g)
  (h : Ret w (fun k => Q k ∨ w.heap.size ≤ k) r1 r2 r3 e w') : ∃ D1 d1 D2 d2, e = .returned (.agg #[.int .i64 r1, .slice D1 r2.length d1, .slice D2 r3.length d2]) ∧ Tl w0 w' g E r2 r3 D1 D2 d1 d2 := by
 obtain ⟨v1, v2, rfl, h1, h2, hb⟩ := h
 obtain ⟨D1, d1, D2, d2, rfl, rfl, h⟩ := tl0 (E := E) hz HB hQ h1 h2 hb
 exact ⟨D1, d1, D2, d2, rfl, h⟩
theorem tl2 {w0 w w' : World} {e : Ending} {g : Nat} {Q E : Nat → Prop} {r1 r4 : Int} {r2 : List S51} {r3 : List S25} (hz : aa (w.heap[g]? = some zx)) (HB : aa (Below w0.heap.size w0 w)) (hQ : ∀ k, Q k → (E k ∨ w0.heap.size ≤ k) ∧ k ≠ g)
  (h : RetE w (fun k => Q k ∨ w.heap.size ≤ k) r1 r2 r3 r4 e w') : ∃ D1 d1 D2 d2, e = .returned (.tuple #[.agg #[.int .i64 r1, .slice D1 r2.length d1, .slice D2 r3.length d2], .int .i64 r4]) ∧ Tl w0 w' g E r2 r3 D1 D2 d1 d2 := by
 obtain ⟨v1, v2, rfl, h1, h2, hb⟩ := h
 obtain ⟨D1, d1, D2, d2, rfl, rfl, h⟩ := tl0 (E := E) hz HB hQ h1 h2 hb
 exact ⟨D1, d1, D2, d2, rfl, h⟩
theorem end2 {fn : Func} {p u : Tmp} {tmps : Array Value} {w W : World} {g : Nat} {E : Nat → Prop} {r1 r4 : Int} {r2 : List S51} {r3 : List S25} {D1 D2 : Option Addr} {d1 d2 : Nat} (h : Tl w W g E r2 r3 D1 D2 d1 d2) (hl : w.heap.size ≤ g) (hr : fn.results = #[.cell p 25, .tmp u] := by rfl) (hp : tmps.getD p undef = .pointer (some ⟨g, 0, none⟩) := by rfl) (hu : tmps.getD u undef = .int .i64 r4 := by rfl) :
  bodyPost Tryz.prog fn (RetE w (fun k => E k ∨ w.heap.size ≤ k) r1 r2 r3 r4) .ret ⟨tmps, []⟩ (st3 W g (.int .i64 r1) (.slice D1 r2.length d1) (.slice D2 r3.length d2)) :=
 fin2 (dT h.2.2.2.1.out) (V_st h.1.out (fun k hk => hk)) (V_st h.2.1.out (fun k hk => hk)) (st3_below h.2.2.1.out hl) hr hp hu
theorem end1 {fn : Func} {p : Tmp} {tmps : Array Value} {w W : World} {g : Nat} {E : Nat → Prop} {r1 : Int} {r2 : List S51} {r3 : List S25} {D1 D2 : Option Addr} {d1 d2 : Nat} (h : Tl w W g E r2 r3 D1 D2 d1 d2) (hl : w.heap.size ≤ g) (hr : fn.results = #[.cell p 25] := by rfl) (hp : tmps.getD p undef = .pointer (some ⟨g, 0, none⟩) := by rfl) :
  bodyPost Tryz.prog fn (Ret w (fun k => E k ∨ w.heap.size ≤ k) r1 r2 r3) .ret ⟨tmps, []⟩ (st3 W g (.int .i64 r1) (.slice D1 r2.length d1) (.slice D2 r3.length d2)) :=
 fin1 (dT h.2.2.2.1.out) (V_st h.1.out (fun k hk => hk)) (V_st h.2.1.out (fun k hk => hk)) (st3_below h.2.2.1.out hl) hr hp
theorem okR {P1 P2 : Nat → Prop} {n m k : Nat} (hm : n + 1 < m) (hk : ((P1 k ∨ P2 k) ∧ k < n) ∨ m ≤ k) : ((P1 k ∨ P2 k) ∨ n ≤ k) ∧ k ≠ n + 1 := by
 rcases hk with h | h
 ·exact ⟨.inl h.1, by omega⟩
 ·exact ⟨.inr (by omega), by omega⟩
theorem tlz {w0 w w' : World} {e : Ending} {g : Nat} {E : Nat → Prop} {r : Int} (hz : aa (w.heap[g]? = some zx)) (HB : aa (Below w0.heap.size w0 w)) (h : Zer r w e w') :
  ∃ D1 d1 D2 d2, e = .returned (.agg #[.int .i64 r, .slice D1 ([] : List S51).length d1, .slice D2 ([] : List S25).length d2]) ∧ Tl w0 w' g E [] [] D1 D2 d1 d2 := by
 obtain ⟨D1, d1, D2, d2, rfl, hb⟩ := h
 exact ⟨D1, d1, D2, d2, rfl, ⟨dA _ _ _ _ _ _ _⟩, ⟨dA _ _ _ _ _ _ _⟩, ⟨ai HB.out hb⟩, ⟨ao hz.out hb⟩, b3 (ao hz.out hb)⟩
theorem vC {α : Type} {d : Kd α} {e b : Nat} {W W' : World} {ok : Nat → Prop} {A : Option Addr} {c : Nat} {xs : List α} (h : aa (Kd.V d e W b ok (.slice A xs.length c) xs)) (hb : Below W.heap.size W W' := by exact zb) : Kd.C d W' A xs.length xs := Kd.C_below (Kd.V_reads' h.out).2.2 hb
theorem vL {α : Type} {d : Kd α} {e b : Nat} {W : World} {ok : Nat → Prop} {A : Option Addr} {c : Nat} {xs : List α} (h : aa (Kd.V d e W b ok (.slice A xs.length c) xs)) : xs.length ≤ c := (Kd.V_reads' h.out).2.1
theorem dP {w W W' : World} (h : aa (Below w.heap.size w W)) (hb : Below W.heap.size W W') : aa (Below w.heap.size w W') := ⟨ai h.out hb⟩
theorem dO {W W' : World} {g : Nat} {o : Obj} (h : aa (W.heap[g]? = some o)) (hb : Below W.heap.size W W') : aa (W'.heap[g]? = some o) := ⟨ao h.out hb⟩
theorem fC {α : Type} {d : Kd α} {e b b' : Nat} {W : World} {ok ok' : Nat → Prop} {v : Value} {xs : List α} (h : aa (Kd.V d e W b ok v xs)) (ho : ∀ k, ok k → ok' k) : Kd.V d e W b' ok' v xs := Kd.V_mono h.out ho
theorem Tl.st {w0 w w' : World} {g : Nat} {E : Nat → Prop} {r2 : List S51} {r3 : List S25} {D1 D2 : Option Addr} {d1 d2 : Nat} (h : Tl w0 w g E r2 r3 D1 D2 d1 d2) (hb : Below w.heap.size w w') : Tl w0 w' g E r2 r3 D1 D2 d1 d2 :=
 ⟨⟨Kd.V_below h.1.out hb⟩, ⟨Kd.V_below h.2.1.out hb⟩, dP h.2.2.1 hb, dO h.2.2.2.1 hb, b3 (ao h.2.2.2.1.out hb)⟩
theorem Tl.al {w0 w : World} {g : Nat} {E : Nat → Prop} {r2 : List S51} {r3 : List S25} {D1 D2 : Option Addr} {d1 d2 : Nat} (h : Tl w0 w g E r2 r3 D1 D2 d1 d2) (o : Obj) : Tl w0 (w.alloc o) g E r2 r3 D1 D2 d1 d2 := Tl.st h (ak (Below.refl _ _) o)
theorem apR {ops : Array Oper} {rest : List Oper} {o : Oper} {a : Act} {Q : Exit → Act → World → Prop} {w0 W : World} {base : Nat} {v : Value} {xs ys : List S25} {A : Option Addr} {c : Nat} {ok okp : Nat → Prop} (si xi : Operand) (HO : Kd.N k25 25 W base ok v xs)
  (h1 : Kd.V k25 25 W base okp (.slice A ys.length c) ys) (hokp : ∀ k, okp k → ok k ∧ some k ≠ v.ownBlock) (hfresh : ∀ k, W.heap.size ≤ k → ok k) (HB : Below base w0 W) (hbase : base ≤ W.heap.size) (hl : xs.length + ys.length < 2513169434916)
  (h : ∀ v1 w1, Kd.N k25 25 w1 base ok v1 (xs ++ ys) → Below base w0 w1 → W.grownBy w1 v.ownBlock → wpList Tryz.prog ops Q rest (a.put o.dst v1) w1)
  (hgd : o.guard = none := by rfl) (ho : o.op = .call { callee := .builtin .append, args := #[si, xi], argTypes := #[23, 23] } := by rfl) (hs : a.eval si = v := by rfl) (hx : a.eval xi = .slice A ys.length c := by rfl) :
  wpList Tryz.prog ops Q (o :: rest) a W :=
 Kd.N_append_rows k25 (w0 := w0) base hgd si xi 23 25 (.agg #[(.int .i64 0), (.slice none 0 0), (.slice none 0 0)]) 56 ho Tryz.underlying23 fw rfl (by decide) (by omega) v xs ys A ys.length c ok okp hs hx HO (Kd.V_F h1) hokp hfresh HB hbase (by omega) (fun v1 w1 n1 b1 g1 _ => h v1 w1 n1 b1 g1)
def G1 (P : Nat → Prop) (n k : Nat) : Prop := (P k ∧ k < n) ∨ n + 1 ≤ k
theorem dK {d : Kd S25} {e base : Nat} {w : World} {P : Nat → Prop} {v : Value} {xs : List S25} (h : aa (Kd.N d e w base (G1 P base) v xs)) {k : Nat} (hk : k < base + 1 ∨ w.heap.size ≤ k) : some k ≠ v.ownBlock := fun q => by
 have h1 := Kd.N_lt h.out k q.symm
 have h2 := Kd.N_base h.out k q.symm
 rcases h.out.1 k q.symm with h3 | h3 <;> omega
theorem G1q {P : Nat → Prop} {n k : Nat} (h : G1 P n k) : (P k ∨ n ≤ k) ∧ k ≠ n := by
 rcases h with h | h
 ·exact ⟨.inl h.1, by omega⟩
 ·exact ⟨.inr (by omega), by omega⟩
theorem stepN {W W' : World} {base : Nat} {ok : Nat → Prop} {v : Value} {xs : List S25} (h : aa (Kd.N k25 25 W base ok v xs)) (hb : Below W.heap.size W W') : aa (Kd.N k25 25 W' base ok v xs) := ⟨Kd.N_below h.out hb⟩
theorem cV51 {w : World} {A : Option Addr} {c : Nat} {l : List S51} (hr : Kd.C k51 w A l.length l) (hc : l.length ≤ c) : aa (Kd.V k51 51 w 0 (fun k => k < w.heap.size) (.slice A l.length c) l) := ⟨Kd.V_mk hc (Kd.C_F fl hr)⟩
theorem cV25 {w : World} {A : Option Addr} {c : Nat} {l : List S25} (hr : Kd.C k25 w A l.length l) (hc : l.length ≤ c) : aa (Kd.V k25 25 w 0 (fun k => k < w.heap.size) (.slice A l.length c) l) := ⟨Kd.V_mk hc (Kd.C_F fv hr)⟩
theorem below_a {w w' : World} {o : Obj} (hb : Below (w.alloc o).heap.size (w.alloc o) w') : aa (Below w.heap.size w w') := ⟨ai zb hb⟩
theorem blk_a {w w' : World} {o : Obj} (hb : Below (w.alloc o).heap.size (w.alloc o) w') : aa (w'.heap[w.heap.size]? = some o) := ⟨ao bN hb⟩
theorem apF {ops : Array Oper} {rest : List Oper} {o : Oper} {a : Act} {Q : Exit → Act → World → Prop} {w0 W : World} {base : Nat} {v : Value} {xs ys : List S25} {A : Option Addr} {c : Nat} {ok okp : Nat → Prop} (si xi : Operand) (m : Nat) (HO : Kd.N k25 25 W base ok v xs)
  (h1 : Kd.F k25 W okp A ys.length ys) (hm : ys.length = m) (hokp : ∀ k, okp k → ok k ∧ some k ≠ v.ownBlock) (hfresh : ∀ k, W.heap.size ≤ k → ok k) (HB : Below base w0 W) (hbase : base ≤ W.heap.size) (hl : xs.length + ys.length < 2513169434916)
  (h : ∀ v1 w1, Kd.N k25 25 w1 base ok v1 (xs ++ ys) → Below base w0 w1 → W.grownBy w1 v.ownBlock → wpList Tryz.prog ops Q rest (a.put o.dst v1) w1)
  (hgd : o.guard = none := by rfl) (ho : o.op = .call { callee := .builtin .append, args := #[si, xi], argTypes := #[23, 23] } := by rfl) (hs : a.eval si = v := by rfl) (hx : a.eval xi = .slice A m c := by rfl) :
  wpList Tryz.prog ops Q (o :: rest) a W := by
 subst hm
 exact Kd.N_append_rows k25 (w0 := w0) base hgd si xi 23 25 (.agg #[(.int .i64 0), (.slice none 0 0), (.slice none 0 0)]) 56 ho Tryz.underlying23 fw rfl (by decide) (by omega) v xs ys A ys.length c ok okp hs hx HO h1 hokp hfresh HB hbase (by omega) (fun v1 w1 n1 b1 g1 _ => h v1 w1 n1 b1 g1)
theorem cutT (A : Option Addr) (n c : Nat) (j : Int) (h0 : 0 ≤ j) (hm : j ≤ n) (hc : n ≤ c) : ∀ W : World, (Instr.slice 23 (.slice A n c) none (some (.int .i64 j)) none).run Tryz.prog W = .ok (.slice A j.toNat c) W := by
 obtain ⟨i, hi, _, _, _⟩ := info_parts fw
 exact cut_to (P := Tryz.prog) 23 25 .i64 Tryz.underlying23 hi A n c j h0 hm hc
theorem cutF (A : Option Addr) (n c : Nat) (j : Int) (h0 : 0 ≤ j) (hm : j ≤ n) : ∀ W : World, (Instr.slice 23 (.slice A n c) (some (.int .i64 j)) none none).run Tryz.prog W = .ok (.slice (if c = j.toNat then A else A.map (·.add (j.toNat * 3))) (n - j.toNat) (c - j.toNat)) W := by
 obtain ⟨i, hi, _, hs, _⟩ := info_parts fw
 exact cut_from (P := Tryz.prog) 23 25 .i64 Tryz.underlying23 hi 3 hs A n c j h0 hm
theorem R51 {W : World} {base n c : Nat} {A : Option Addr} {xs : List S51} (h : aa (Kd.R k51 51 W base (fun _ => True) (.slice A n c) xs)) (i : Int) (h0 : 0 ≤ i) (h1 : i < n) :
  ∃ g, A = some ⟨g, 0, none⟩ ∧ W.cell? ⟨g, i.toNat * 2, none⟩ = some (.int .i32 (aA xs i).f0) ∧ W.cell? ⟨g, i.toNat * 2 + 1, none⟩ = some (.int .i32 (aA xs i).f1) ∧ W.frozen? ⟨g, i.toNat * 2 + 1, none⟩ = false ∧ aa (base ≤ g) ∧
   aa (∀ y, Kd.R k51 51 (W.setCell ⟨g, i.toNat * 2 + 1, none⟩ (.int .i32 y)) base (fun _ => True) (.slice (some ⟨g, 0, none⟩) n c) (xs.set i.toNat ⟨(aA xs i).f0, y⟩) ∧ W.grownBy (W.setCell ⟨g, i.toNat * 2 + 1, none⟩ (.int .i32 y)) (some g)) := by
 have hn := (Kd.R_reads' h.out).1
 obtain ⟨g, cp, e, hb, hl, hc⟩ := Kd.R_form h.out (by omega)
 injection e with e1 e2 e3
 subst e1 e3
 obtain ⟨cs, hcl, hM, hcc, hfr⟩ := Kd.R_elem h.out z51 i h0 h1
 obtain rfl := k51_openM hM
 have hx := hcc 0 _ rfl
 have hy := hcc 1 _ rfl
 have hf := hfr 1
 simp only [show (k51).sz = 2 from rfl, Nat.add_zero] at hx hy hf
 exact ⟨g, rfl, hx, hy, hf, ⟨hb⟩, ⟨fun y => Kd.R_seg h.out i h0 h1 (seg := [.int .i32 y]) (j := 1) hcl hcc (show 2 ≤ 2 from by decide) (k51_mkM _ _ _ ⟨_, y⟩) (fun _ hk => hk)⟩⟩
theorem ap51 {ops : Array Oper} {rest : List Oper} {o : Oper} {a : Act} {Q : Exit → Act → World → Prop} {w0 W : World} {base : Nat} {v : Value} {xs : List S51} {x : S51} (si xi : Operand) (HO : aa (Kd.R k51 51 W base (fun _ => True) v xs)) (HB : aa (Below base w0 W)) (hbase : base ≤ W.heap.size) (hl : xs.length < 17592186044416)
  (h : ∀ v1 w1, Kd.R k51 51 w1 base (fun _ => True) v1 (xs ++ [x]) → Below base w0 w1 → W.grownBy w1 v.ownBlock → wpList Tryz.prog ops Q rest (a.put o.dst v1) w1)
  (hgd : o.guard = none := by rfl) (ho : o.op = .call { callee := .builtin .append, args := #[si, xi], argTypes := #[22, 22] } := by rfl) (hs : a.eval si = v := by rfl) (hx : a.eval xi = .slice (some ⟨W.heap.size, 0, none⟩) 1 1 := by first | rfl | (rw [bL]; rfl)) :
  wpList Tryz.prog ops Q (o :: rest) a (W.alloc (.cells #[.int .i32 x.f0, .int .i32 x.f1] 51)) :=
 Kd.R_append k51 (w0 := w0) base hgd si xi 22 51 (.agg #[(.int .i32 0), (.int .i32 0)]) 8 ho Tryz.underlying22 info51 rfl (by decide) (by omega) v xs x [.int .i32 x.f0, .int .i32 x.f1] (fun _ => True) (fun _ => False) hs hx (k51_mkM _ _ _ x) (fun _ hk => hk.elim) (fun _ _ => trivial) HO.out HB.out hbase (by omega) (fun v1 w1 n1 b1 g1 _ => h v1 w1 n1 b1 g1)
theorem apI {ops : Array Oper} {rest : List Oper} {o : Oper} {a : Act} {Q : Exit → Act → World → Prop} {w0 W : World} {base : Nat} {v : Value} {xs : List Int} {x : Int} (si xi : Operand) (HO : aa (Kd.R (Kd.int .i32) 21 W base (fun _ => True) v xs)) (HB : aa (Below base w0 W)) (hbase : base ≤ W.heap.size) (hl : xs.length < 35184372088832)
  (h : ∀ v1 w1, Kd.R (Kd.int .i32) 21 w1 base (fun _ => True) v1 (xs ++ [x]) → Below base w0 w1 → wpList Tryz.prog ops Q rest (a.put o.dst v1) w1)
  (hgd : o.guard = none := by rfl) (ho : o.op = .call { callee := .builtin .append, args := #[si, xi], argTypes := #[65, 65] } := by rfl) (hs : a.eval si = v := by rfl) (hx : a.eval xi = .slice (some ⟨W.heap.size, 0, none⟩) 1 1 := by first | rfl | (rw [bL]; rfl)) :
  wpList Tryz.prog ops Q (o :: rest) a (W.alloc (.cells #[.int .i32 x] 21)) :=
 Kd.R_append (Kd.int .i32) (w0 := w0) base hgd si xi 65 21 (.int .i32 0) 4 ho Tryz.underlying65 info21 rfl (by decide) (by omega) v xs x [.int .i32 x] (fun _ => True) (fun _ => False) hs hx rfl (fun _ hk => hk.elim) (fun _ _ => trivial) HO.out HB.out hbase (by omega) (fun v1 w1 n1 b1 _ _ => h v1 w1 n1 b1)
theorem apIr {ops : Array Oper} {rest : List Oper} {o : Oper} {a : Act} {Q : Exit → Act → World → Prop} {w0 W : World} {base : Nat} {v : Value} {xs ys : List Int} {A : Option Addr} {m c : Nat} (si xi : Operand) (HO : aa (Kd.R (Kd.int .i32) 21 W base (fun _ => True) v xs)) (HR : Kd.C (Kd.int .i32) W A ys.length ys) (hm : ys.length = m) (HB : aa (Below base w0 W)) (hbase : base ≤ W.heap.size) (hl : xs.length + m < 35184372088832)
  (h : ∀ v1 w1, Kd.R (Kd.int .i32) 21 w1 base (fun _ => True) v1 (xs ++ ys) → Below base w0 w1 → wpList Tryz.prog ops Q rest (a.put o.dst v1) w1)
  (hgd : o.guard = none := by rfl) (ho : o.op = .call { callee := .builtin .append, args := #[si, xi], argTypes := #[65, 65] } := by rfl) (hs : a.eval si = v := by rfl) (hx : a.eval xi = .slice A m c := by rfl) :
  wpList Tryz.prog ops Q (o :: rest) a W := by
 subst hm
 exact Kd.R_append_rows (Kd.int .i32) (w0 := w0) base hgd si xi 65 21 (.int .i32 0) 4 ho Tryz.underlying65 info21 rfl (by decide) (by omega) v xs ys A _ c (fun _ => True) (fun _ => False) hs hx HO.out HR (fun _ _ h => h) (fun _ h => h.elim) (fun _ _ => trivial) HB.out hbase (by omega) (fun v1 w1 n1 b1 _ _ => h v1 w1 n1 b1)
theorem cutTi (A : Option Addr) (n c : Nat) (j : Int) (h0 : 0 ≤ j) (hm : j ≤ n) (hc : n ≤ c) : ∀ W : World, (Instr.slice 65 (.slice A n c) none (some (.int .i64 j)) none).run Tryz.prog W = .ok (.slice A j.toNat c) W := by
 obtain ⟨i, hi, _, _, _⟩ := info_parts info21
 exact cut_to (P := Tryz.prog) 65 21 .i64 Tryz.underlying65 hi A n c j h0 hm hc
theorem cutFi (A : Option Addr) (n c : Nat) (j : Int) (h0 : 0 ≤ j) (hm : j ≤ n) : ∀ W : World, (Instr.slice 65 (.slice A n c) (some (.int .i64 j)) none none).run Tryz.prog W = .ok (.slice (if c = j.toNat then A else A.map (·.add (j.toNat * 1))) (n - j.toNat) (c - j.toNat)) W := by
 obtain ⟨i, hi, _, hs, _⟩ := info_parts info21
 exact cut_from (P := Tryz.prog) 65 21 .i64 Tryz.underlying65 hi 1 hs A n c j h0 hm
theorem b2 {W : World} {g : Nat} {t : TypeId} {a b : Value} (h : aa (W.heap[g]? = some (.cells #[a, b] t (0, 0)))) : W.cell? ⟨g, 0, none⟩ = some a ∧ W.cell? ⟨g, 1, none⟩ = some b := ⟨(ah h.out 0).trans rfl, (ah h.out 1).trans rfl⟩
theorem apM {ops : Array Oper} {rest : List Oper} {o : Oper} {a : Act} {Q : Exit → Act → World → Prop} {w0 W : World} {base m : Nat} {v v1 v2 : Value} {xs : List S25} {x : S25} (si xi : Operand) (HO : aa (Kd.R k25 25 W base (fun _ => True) v xs)) (h1 : Kd.R k51 51 W base (fun k => m ≤ k) v1 x.f1) (h2 : Kd.R k25 25 W base (fun k => m ≤ k) v2 x.f2) (hm : ∀ k, v.ownBlock = some k → k < m) (HB : aa (Below base w0 W)) (hbase : base ≤ W.heap.size) (hl : xs.length < 2513169434916)
  (h : ∀ v1 w1, Kd.R k25 25 w1 base (fun _ => True) v1 (xs ++ [x]) → Below base w0 w1 → W.grownBy w1 v.ownBlock → wpList Tryz.prog ops Q rest (a.put o.dst v1) w1)
  (hgd : o.guard = none := by rfl) (ho : o.op = .call { callee := .builtin .append, args := #[si, xi], argTypes := #[23, 23] } := by rfl) (hs : a.eval si = v := by rfl) (hx : a.eval xi = .slice (some ⟨W.heap.size, 0, none⟩) 1 1 := by first | rfl | (rw [bL]; rfl)) :
  wpList Tryz.prog ops Q (o :: rest) a (W.alloc (.cells #[.int .i64 x.f0, v1, v2] 25)) :=
 Kd.R_append k25 (w0 := w0) base hgd si xi 23 25 (.agg #[(.int .i64 0), (.slice none 0 0), (.slice none 0 0)]) 56 ho Tryz.underlying23 fw rfl (by decide) (by omega) v xs x [.int .i64 x.f0, v1, v2] (fun _ => True) (fun k => m ≤ k) hs hx (k25_mkM _ _ _ x h1 h2) (fun k hk => ⟨trivial, fun e => by have := hm k e.symm; omega⟩) (fun _ _ => trivial) HO.out HB.out hbase (by omega) (fun v1 w1 n1 b1 g1 _ => h v1 w1 n1 b1 g1)
theorem finC {fn : Func} {p : Tmp} {tmps : Array Value} {W : World} {g : Nat} {r1 : Int} {v1 v2 : Value} {Q : Ending → World → Prop} (hg : W.heap[g]? = some (.cells #[.int .i64 r1, v1, v2] 25 (0, 0))) (hQ : Q (.returned (.agg #[.int .i64 r1, v1, v2])) W) (hr : fn.results = #[.cell p 25] := by rfl) (hp : tmps.getD p undef = .pointer (some ⟨g, 0, none⟩) := by rfl) : bodyPost Tryz.prog fn Q .ret ⟨tmps, []⟩ W :=
 bodyPost_ret (results_cell_row hr tmps W g 25 _ (0, 0) _ hp hg Tryz.underlying25 rfl (by kernel_rfl)) rfl hQ
theorem R_st {α : Type} {d : Kd α} {e base : Nat} {W : World} {ok : Nat → Prop} {v x y z : Value} {xs : List α} {g : Nat} (h : Kd.R d e W base ok v xs) (ho : ∀ k, ok k → k ≠ g) : Kd.R d e (st3 W g x y z) base ok v xs := Kd.R_far (Kd.R_far (Kd.R_far h ho _) ho _) ho _
theorem vO' {α : Type} {d : Kd α} {e b : Nat} {W W' : World} {ok : Nat → Prop} {v : Value} {xs : List α} (h : aa (Kd.V d e W b ok v xs)) (hb : Below W.heap.size W W') : aa (Kd.V d e W' b ok v xs) := ⟨Kd.V_below h.out hb⟩
theorem zB {P : Prop} (h : P := by repeat (first | (with_reducible first | exact HB.out | apply ak | apply aC | apply aX | refine cx ?_ (aa.out (by assumption))) | exact HB.out)) : P := h
theorem bS {α β : Type} {o : Option α} {f : α → Option β} {b : β} (h : o.bind f = some b) : ∃ a, aa (o = some a) ∧ f a = some b := by
 obtain ⟨a, h1, h2⟩ := Option.bind_eq_some_iff.mp h
 exact ⟨a, ⟨h1⟩, h2⟩
theorem e1 {α : Type} [BEq α] [LawfulBEq α] {a b : α} (h : a = b) : (a == b) = true := beq_iff_eq.mpr h
theorem e2 {α : Type} [BEq α] [LawfulBEq α] {a b : α} (h : a = b) : (a != b) = false := bne_eq_false_iff_eq.mpr h
theorem e3 {α : Type} [BEq α] [LawfulBEq α] {a b : α} (h : ¬ a = b) : (a == b) = false := beq_eq_false_iff_ne.mpr h
theorem e4 {α : Type} [BEq α] [LawfulBEq α] {a b : α} (h : ¬ a = b) : (a != b) = true := bne_iff_ne.mpr h
theorem kK {P Q : Prop} (h : aa P) (k : P → Q := by intro h_; (with_reducible repeat (first | apply Kd.R_alloc | apply Kd.R_drewN | apply Kd.R_drew)); exact h_) : Q := k h.out
theorem bK {P Q : Prop} (h : aa P) (k : P → Q := by intro h_; (with_reducible repeat (first | refine az ?_ _ | refine aI ?_ | refine au ?_ _)); exact h_) : Q := k h.out
theorem bC {w : World} {g : Nat} {t : TypeId} {cs : Array Value} (h : aa (w.heap[g]? = some (.cells cs t (0, 0)))) (i : Nat) (v : Value) (e : cs[i]? = some v := by exact rfl) : w.cell? ⟨g, i, none⟩ = some v := (ah h.out i).trans e
theorem gE {w W : World} {g : Nat} (hg : g = W.heap.size) (h : Below w.heap.size w W) : aa (w.heap.size ≤ g) := ⟨by rw [hg]; exact aU h⟩
theorem fZ {w : World} {g : Nat} {t : TypeId} {cs : Array Value} (h : aa (w.heap[g]? = some (.cells cs t (0, 0)))) (i : Nat) : w.frozen? ⟨g, i, none⟩ = false := ag h.out i
theorem mO {P : Prop} (h : P := by repeat' first | (with_reducible apply ih0) | (with_reducible apply ih1) | (with_reducible apply ih2) | (with_reducible apply ih3) | (with_reducible apply ih4) | (with_reducible apply ih5) | (with_reducible apply ih6) | (with_reducible apply ih7) | (with_reducible apply ih8) | (with_reducible apply ih9) | (with_reducible apply m0) | (with_reducible apply m1) | (with_reducible apply m2) | (with_reducible apply m3) | (with_reducible apply m4) | (with_reducible apply m5) | (with_reducible apply m6) | (with_reducible apply m7) | (with_reducible apply m8) | (with_reducible apply m9) | (with_reducible apply m10) | (with_reducible apply m11) | (with_reducible apply m12) | (with_reducible apply m13) | (with_reducible apply m14) | (with_reducible apply m15) | (with_reducible exact LeO.refl _) | (with_reducible exact LeO.none _) | (with_reducible refine LeO.ite ?_ ?_) | (with_reducible refine LeO.bind ?_ (fun _ => ?_)) | exact LeO.none _ | refine LeO.ite ?_ ?_ | refine LeO.bind ?_ (fun _ => ?_)) : P := h
section
variable {P : Program} {ops : Array Oper} {Q : Exit → Act → World → Prop} {md : Region.Mode} {S : World → Prop} {ds : List Nat} {fuel : Nat} {l l' : Array Bool} {a a' : Act} {w : World} {oi : Oper} {v : Value}
theorem pU (i : Nat) (N : Tmp) (hi : ops[i]? = some oi := by exact rfl) (hN : oi.dst = some N := by exact rfl) (hl : l.setIfInBounds i true = l' := by simp only [List.setIfInBounds_toArray, List.set_cons_zero, List.set_cons_succ]; rfl) (hc : anyB md ops l l' i = true)
  (hQ : ∀ c a w, Q (.panic c) (a.put oi.dst v) w → Q (.panic c) a w := by exact fun _ _ _ h => h) (hw : Region.wanted oi (yielded ops a.tmps) = true := by rfl) (hy : ∀ w, (execOp a.eval oi).run P w = .ok (.value v) w := by (intro w'; go_simp; with_reducible rfl)) (ha : a.put (some N) v = a' := by (simp only [Act.put, List.setIfInBounds_toArray, List.set_cons_zero, List.set_cons_succ, dq, dJ]; rfl))
  (h : bu P md ops Q S ds fuel l' a' w) : bu P md ops Q S ds (fuel + 1) l a w := pure_ l' hi hN hc hQ (.inl ⟨hw, hy⟩) ha h
theorem pV (i : Nat) (N : Tmp) (hi : ops[i]? = some oi := by exact rfl) (hN : oi.dst = some N := by exact rfl) (hl : l.setIfInBounds i true = l' := by simp only [List.setIfInBounds_toArray, List.set_cons_zero, List.set_cons_succ]; rfl) (hc : anyB md ops l l' i = true)
  (hQ : ∀ c a w, Q (.panic c) (a.put oi.dst undef) w → Q (.panic c) a w := by exact fun _ _ _ h => h) (hw : Region.wanted oi (yielded ops a.tmps) = false := by rfl) (ha : a.put (some N) undef = a' := by (simp only [Act.put, List.setIfInBounds_toArray, List.set_cons_zero, List.set_cons_succ, dq, dJ]; rfl))
  (h : bu P md ops Q S ds fuel l' a' w) : bu P md ops Q S ds (fuel + 1) l a w := pure_ l' hi hN hc hQ (.inr ⟨hw, rfl⟩) ha h
theorem nO (N : Tmp) (ha : a = a' := by (show Act.put _ (some _) _ = _; simp only [Act.put, List.setIfInBounds_toArray, List.set_cons_zero, List.set_cons_succ, dq, dJ]; rfl)) (h : bu P md ops Q S ds fuel l a' w) : bu P md ops Q S ds fuel l a w := norm_ ha h
theorem oN (i : Nat) (N : Option Tmp) (hi : ops[i]? = some oi := by exact rfl) (hN : oi.dst = N := by exact rfl) (hl : l.setIfInBounds i true = l' := by simp only [List.setIfInBounds_toArray, List.set_cons_zero, List.set_cons_succ]; rfl) (hc : readyB md ops l l' i = true) (hd : i ∉ ds := by decide)
  (h : ∀ K : Act → World → Prop, Shut (∀ a' w', S w' → (S w' → bu P md ops Q S ds fuel l' a' w') → K a' w') → if Region.wanted oi (yielded ops a.tmps) = true then Oper.wp P oi a w K Q else K (a.put N undef) w) :
  bu P md ops Q S ds (fuel + 1) l a w := one_ l' hi hN hc hd h
theorem gO {K : Act → World → Prop} {N : Option Tmp} {f : FuncId} {fn : Func} {as_ : Array Operand} {ts : Array TypeId} (hf : P.funcs[f]? = some fn) (args : Array Value) (hname : (fn.name == "runtime.NumGoroutine") = false := by kernel_rfl) (hb : fn.body.isSome = true := by exact rfl)
  (hw : Region.wanted oi (yielded ops a.tmps) = true := by rfl) (hN : oi.dst = N := by exact rfl) (hop : oi.op = .call { callee := .value (.func f), args := as_, argTypes := ts } := by exact rfl) (hargs : as_.map a.eval = args := by (try simp only [List.map_toArray, List.map_cons, List.map_nil]); first | done | rfl | (simp only [List.length_drop, List.length_take]; rfl))
  (h : Calls P f args w fun e w' => ∃ v, e = .returned v ∧ K (a.put N v) w') : if Region.wanted oi (yielded ops a.tmps) = true then Oper.wp P oi a w K Q else K (a.put N undef) w := goes_ hf hname hb args hw hN hop hargs h
theorem gL {rest : List Oper} (N : Option Tmp) {f : FuncId} {fn : Func} {as_ : Array Operand} {ts : Array TypeId} (hf : P.funcs[f]? = some fn) (args : Array Value) (hd : oi.dst = N := by exact rfl) (hg : oi.guard = none := by exact rfl) (hname : (fn.name == "runtime.NumGoroutine") = false := by kernel_rfl) (hb : fn.body.isSome = true := by exact rfl)
  (hop : oi.op = .call { callee := .value (.func f), args := as_, argTypes := ts } := by exact rfl) (hargs : as_.map a.eval = args := by (try simp only [List.map_toArray, List.map_cons, List.map_nil]); first | done | rfl | (simp only [List.length_drop, List.length_take]; rfl))
  (h : Calls P f args w fun e w' => ∃ v, e = .returned v ∧ wpList P ops Q rest (a.put N v) w') : wpList P ops Q (oi :: rest) a w := bl N hd hg hf hname hb args hop hargs h
theorem gR {rest : List Oper} (N : Option Tmp) {f : FuncId} {fn : Func} {as_ : Array Operand} {ts : Array TypeId} {args : Array Value} {R : World → Prop} (hf : P.funcs[f]? = some fn) (hc : Calls P f args w fun e w' => e = .returned v ∧ R w') (hd : oi.dst = N := by exact rfl) (hg : oi.guard = none := by exact rfl) (hname : (fn.name == "runtime.NumGoroutine") = false := by kernel_rfl) (hb : fn.body.isSome = true := by exact rfl)
  (hop : oi.op = .call { callee := .value (.func f), args := as_, argTypes := ts } := by exact rfl) (hargs : as_.map a.eval = args := by (try simp only [List.map_toArray, List.map_cons, List.map_nil]); first | done | rfl | (simp only [List.length_drop, List.length_take]; rfl))
  (h : ∀ w', R w' → wpList P ops Q rest (a.put N v) w') : wpList P ops Q (oi :: rest) a w := bl N hd hg hf hname hb args hop hargs (hc.mono (fun e w' h1 => ⟨v, h1.1, h w' h1.2⟩))
theorem gQ {rest : List Oper} (N : Option Tmp) {f : FuncId} {fn : Func} {as_ : Array Operand} {ts : Array TypeId} {args : Array Value} {F : Value → Value} {R : Value → World → Prop} (hf : P.funcs[f]? = some fn) (hc : Calls P f args w fun e w' => ∃ v, e = .returned (F v) ∧ R v w') (hd : oi.dst = N := by exact rfl) (hg : oi.guard = none := by exact rfl) (hname : (fn.name == "runtime.NumGoroutine") = false := by kernel_rfl) (hb : fn.body.isSome = true := by exact rfl)
  (hop : oi.op = .call { callee := .value (.func f), args := as_, argTypes := ts } := by exact rfl) (hargs : as_.map a.eval = args := by (try simp only [List.map_toArray, List.map_cons, List.map_nil]); first | done | rfl | (simp only [List.length_drop, List.length_take]; rfl))
  (h : ∀ v w', R v w' → wpList P ops Q rest (a.put N (F v)) w') : wpList P ops Q (oi :: rest) a w := bl N hd hg hf hname hb args hop hargs (hc.mono (fun e w' ⟨v, h1, h2⟩ => ⟨F v, h1, h v w' h2⟩))
theorem gS {K : Act → World → Prop} {N : Option Tmp} {f : FuncId} {fn : Func} {as_ : Array Operand} {ts : Array TypeId} {args : Array Value} {R : World → Prop} (hf : P.funcs[f]? = some fn) (hc : Calls P f args w fun e w' => e = .returned v ∧ R w') (hname : (fn.name == "runtime.NumGoroutine") = false := by kernel_rfl) (hb : fn.body.isSome = true := by exact rfl)
  (hw : Region.wanted oi (yielded ops a.tmps) = true := by rfl) (hN : oi.dst = N := by exact rfl) (hop : oi.op = .call { callee := .value (.func f), args := as_, argTypes := ts } := by exact rfl) (hargs : as_.map a.eval = args := by (try simp only [List.map_toArray, List.map_cons, List.map_nil]); first | done | rfl | (simp only [List.length_drop, List.length_take]; rfl))
  (h : ∀ w', R w' → K (a.put N v) w') : if Region.wanted oi (yielded ops a.tmps) = true then Oper.wp P oi a w K Q else K (a.put N undef) w := goes_ hf hname hb args hw hN hop hargs (hc.mono (fun e w' h1 => ⟨v, h1.1, h w' h1.2⟩))
theorem gT {K : Act → World → Prop} {N : Option Tmp} {f : FuncId} {fn : Func} {as_ : Array Operand} {ts : Array TypeId} {args : Array Value} {F : Value → Value} {R : Value → World → Prop} (hf : P.funcs[f]? = some fn) (hc : Calls P f args w fun e w' => ∃ v, e = .returned (F v) ∧ R v w') (hname : (fn.name == "runtime.NumGoroutine") = false := by kernel_rfl) (hb : fn.body.isSome = true := by exact rfl)
  (hw : Region.wanted oi (yielded ops a.tmps) = true := by rfl) (hN : oi.dst = N := by exact rfl) (hop : oi.op = .call { callee := .value (.func f), args := as_, argTypes := ts } := by exact rfl) (hargs : as_.map a.eval = args := by (try simp only [List.map_toArray, List.map_cons, List.map_nil]); first | done | rfl | (simp only [List.length_drop, List.length_take]; rfl))
  (h : ∀ v w', R v w' → K (a.put N (F v)) w') : if Region.wanted oi (yielded ops a.tmps) = true then Oper.wp P oi a w K Q else K (a.put N undef) w := goes_ hf hname hb args hw hN hop hargs (hc.mono (fun e w' ⟨v, h1, h2⟩ => ⟨F v, h1, h v w' h2⟩))
theorem gC {rest : List Oper} (f : FuncId) {as_ : Array Operand} {ts : Array TypeId} (_ho : oi.op = .call { callee := .value (.func f), args := as_, argTypes := ts }) (h : wpList P ops Q (oi :: rest) a w) : wpList P ops Q (oi :: rest) a w := h
end
theorem Z0 {P : Prop} (h : P := by repeat (first | (with_reducible first | exact HB.out | apply ak | apply aC | apply aX | refine cx ?_ (aa.out (by assumption))) | exact HB.out)) : P := h
theorem Z1 {P : Prop} (h : P := by (try simp only [List.map_toArray, List.map_cons, List.map_nil]); first | done | rfl | (simp only [List.length_drop, List.length_take]; rfl)) : P := h
theorem Z2 {P : Prop} (h : P := by first | rfl | (simp; done) | (simp [*]; done) | (simp <;> omega) | rw [fN]) : P := h
theorem Z3 {P : Prop} (h : P := by first | rfl | (simp [errW_none, errW_some] <;> rfl) | (simp [*, errW_none, errW_some] <;> rfl)) : P := h
theorem Z4 {P : Prop} (h : P := by first | (with_reducible assumption) | assumption) : P := h
theorem Z5 {P : Prop} (h : P := by kernel_rfl) : P := h
theorem Z6 {P : Prop} (h : P := by repeat (first | exact Drawn0.refl _ | apply Drawn0.step)) : P := h
theorem Z7 {P : Prop} (h : P := by first | exact Kd.R_nil _ _ _ _ _ | exact Kd.N_nil _ _ _ _ _ | exact Kd.V_nil _ _ _ _ _ | exact Kd.Q_nil _ _ _ _ _ | exact Kd.S_nil _ _ _ _ _) : P := h
theorem Z8 {P : Prop} (h : P := by omega) : P := h
theorem Z9 {P : Prop} (h : P := by repeat (first | (with_reducible first | exact HK.out | apply KeepBut.set_ | apply fP | apply keep_drew | apply keep_alloc) | exact HK.out)) : P := h
theorem Z10 {P : Prop} (h : P := by repeat (first | (with_reducible first | exact HI0.out | apply IsS64.alloc | apply IsS64.drewN | apply IsS64.drew | apply IsS64.set_0 | apply IsS64.set_1 | apply IsS64.set_2 | apply IsS64.set_3 | apply IsS64.set_4) | exact HI0.out)) : P := h
theorem Z11 {P : Prop} (h : P := by have := hgw.out; omega) : P := h
theorem Z12 {P : Prop} (h : P := by repeat (first | (with_reducible first | exact HB.out | apply ak | apply aC | apply aX | refine cx ?_ (IsS64.ge HI0.out)) | exact HB.out)) : P := h
theorem Z13 {P : Prop} (h : P := by (with_reducible repeat (first | apply Kd.V_alloc | apply Kd.V_drewN | apply Kd.V_drew)); exact HO1_2.out) : P := h
theorem Z14 {P : Prop} (h : P := by (with_reducible repeat (first | apply Kd.V_alloc | apply Kd.V_drewN | apply Kd.V_drew)); exact HO1_1.out) : P := h
theorem Z15 {P : Prop} (h : P := by (with_reducible repeat (first | apply Kd.V_alloc | apply Kd.V_drewN | apply Kd.V_drew)); exact HO0_2.out) : P := h
theorem Z16 {P : Prop} (h : P := by (with_reducible repeat (first | apply Kd.V_alloc | apply Kd.V_drewN | apply Kd.V_drew)); exact HO0_1.out) : P := h
theorem Z17 {P : Prop} (h : P := by repeat (first | (with_reducible first | exact HI0.out | apply IsS164.alloc | apply IsS164.drewN | apply IsS164.drew | apply IsS164.set_0 | apply IsS164.set_1 | apply IsS164.set_2 | apply IsS164.set_3) | exact HI0.out)) : P := h
theorem Z18 {P : Prop} (h : P := by assumption) : P := h
theorem Z19 {P : Prop} (h : P := by (with_reducible repeat (first | refine az ?_ _ | refine aI ?_ | refine au ?_ _)); exact BK121.out) : P := h
theorem Z20 {P : Prop} (h : P := by have := HK.out; omega) : P := h
theorem Z21 {P : Prop} (h : P := by repeat (first | (with_reducible first | exact HB.out | apply ak | apply aC | apply aX | refine cx ?_ (IsS164.ge HI0.out)) | exact HB.out)) : P := h
theorem Z22 {P : Prop} (h : P := by have := HK1.out; omega) : P := h
theorem Z23 {P : Prop} (h : P := by rw [show s0_1 + 2 = s0_1 + 1 + 1 by omega]; exact I2.out.set_1 _) : P := h
theorem Z24 {P : Prop} (h : P := by simp) : P := h
theorem Z25 {P : Prop} (h : P := by repeat (first | exact HBX.out | apply aC | apply aX)) : P := h
theorem Z26 {P : Prop} (h : P := by repeat (first | exact HB.out | apply am.BG.alloc | apply am.BG.drewN | apply am.BG.drew)) : P := h
theorem Z27 {P : Prop} (h : P := by decide) : P := h
theorem Z28 {P : Prop} (h : P := by (with_reducible repeat (first | apply Kd.N_alloc | apply Kd.N_drewN | apply Kd.N_drew)); exact HO1000.out) : P := h
theorem Z29 {P : Prop} (h : P := by have := hk.2; omega) : P := h
end Go.Proofs.YtaccleilcdfapaaGreat.G
