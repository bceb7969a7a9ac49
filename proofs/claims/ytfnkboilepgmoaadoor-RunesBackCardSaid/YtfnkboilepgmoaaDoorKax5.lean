import Derived.Test.YtfnkboilepgmoaaDoorKPre
import Derived.Test.YtfnkboilepgmoaaDoorKax0
import Derived.Test.YtfnkboilepgmoaaDoorKax1
import Derived.Test.YtfnkboilepgmoaaDoorKax2
import Derived.Test.YtfnkboilepgmoaaDoorKax4
namespace Go.Proofs.YtfnkboilepgmoaaDoor.R
open Go.RowKit Go.Proofs.YtfnkboilepgmoaaDoorW.PrintWords Go.Proofs.YtfnkboilepgmoaaDoorW.PrintLast Go.Proofs.YtfnkboilepgmoaaDoorW.PrintMore
attribute [local go_sem] max2_int min2_int max_two min_two max_three min_three max_four min_four
set_option linter.unusedVariables false
set_option linter.unusedSimpArgs false
set_option maxRecDepth 100000 in
set_option maxHeartbeats 4000000 in
theorem bk_valid (r : Int) (w : World) (h0 : 0 ≤ r) (h1 : r ≤ 1114111) : Calls Tryd.prog 97 #[.int .i32 r] w fun e w' => e = .returned (.bool (decide (r < 55296 ∨ 57343 < r))) ∧ Drawn0 w w' := by
 by_cases c2 : r < 55296
 ·go_enter Tryd.func97, Tryd.ntmps97
  go_wp2
  go_ret
  exact ⟨by simp [c2], Drawn0.refl _⟩
 ·by_cases c3 : 57343 < r
  ·go_enter Tryd.func97, Tryd.ntmps97
   go_wp2
   go_ret
   exact ⟨by simp [c2, c3], Drawn0.refl _⟩
  ·go_enter Tryd.func97, Tryd.ntmps97
   go_wp2
   go_ret
   exact ⟨by simp [c2, c3], Drawn0.refl _⟩
theorem bk_ixb (s : ByteArray) (c : Int) (w : World) : Calls Tryd.prog 96 #[.string s, .int .u8 c] w fun e w' => e = .returned (.int .i64 (Lib.indexByte s.data.toList c.toNat.toUInt8)) ∧ w' = w :=
 Any.strings_IndexByte ({ Tryd.lays151 with } : Go.Proofs.Lays.n137 Tryd.prog Tryd.lays151_ren) s c w
theorem bk_nof (b : UInt8) (hb : 128 ≤ b.toNat) : ∀ l : List UInt8, (∀ x ∈ l, x.toNat < 128) → Lib.indexByte l b = -1
 | [], _ => rfl
 | x :: l, h => by
  have h1 := h x List.mem_cons_self
  have h2 := bk_nof b hb l (fun y hy => h y (List.mem_cons_of_mem _ hy))
  have h3 : (x == b) = false := by
   rw [beq_eq_false_iff_ne]
   intro e
   subst e
   omega
  simp [Lib.indexByte, h2, h3]
theorem bk_ixn (s : ByteArray) (b : UInt8) (w : World) (hb : 128 ≤ b.toNat) (hs : ∀ x ∈ s.data.toList, x.toNat < 128) : Calls Tryd.prog 96 #[.string s, .int .u8 (b.toNat : Int)] w fun e w' => e = .returned (.int .i64 (-1)) ∧ w' = w := by
 refine (bk_ixb s (b.toNat : Int) w).mono ?_
 rintro e w' ⟨rfl, rfl⟩
 have e1 : ((b.toNat : Int).toNat).toUInt8 = b := by rw [Int.toNat_natCast]; exact UInt8.ofNat_toNat
 rw [e1, bk_nof b hb _ hs]
 exact ⟨rfl, rfl⟩
theorem bk_enc (r : Int) (z : ByteArray) (hz : Utf8.encode r = z) (h0 : 128 ≤ r) (h1 : r ≤ 1114111) (hv : r < 55296 ∨ 57343 < r) : ∃ (n : Nat) (h : z.size = n + 1), (n = 1 ∨ n = 2 ∨ n = 3) ∧ 128 ≤ (z[n]'Z16).toNat := by
 have hval : Utf8.valid r = true := by unfold Utf8.valid; simp; omega
 have hc : ¬ r.toNat < 128 := by omega
 have e : Utf8.encode r = if r.toNat < 0x800 then ⟨#[UInt8.ofNat (0xC0 + r.toNat / 64), UInt8.ofNat (0x80 + r.toNat % 64)]⟩ else if r.toNat < 0x10000 then ⟨#[UInt8.ofNat (0xE0 + r.toNat / 4096), UInt8.ofNat (0x80 + r.toNat / 64 % 64), UInt8.ofNat (0x80 + r.toNat % 64)]⟩ else ⟨#[UInt8.ofNat (0xF0 + r.toNat / 262144), UInt8.ofNat (0x80 + r.toNat / 4096 % 64), UInt8.ofNat (0x80 + r.toNat / 64 % 64), UInt8.ofNat (0x80 + r.toNat % 64)]⟩ := by
  unfold Utf8.encode
  simp only [hval, if_true, if_neg hc]
 have hb : 128 ≤ (UInt8.ofNat (0x80 + r.toNat % 64)).toNat := by rw [UInt8.toNat_ofNat']; omega
 rw [hz] at e
 clear hz
 by_cases c1 : r.toNat < 0x800
 ·rw [if_pos c1] at e; subst e; exact ⟨1, rfl, .inl rfl, hb⟩
 ·rw [if_neg c1] at e
  by_cases c2 : r.toNat < 0x10000
  ·rw [if_pos c2] at e; subst e; exact ⟨2, rfl, .inr (.inl rfl), hb⟩
  ·rw [if_neg c2] at e; subst e; exact ⟨3, rfl, .inr (.inr rfl), hb⟩
theorem bk_small6 : ∀ (pos : Nat) (h : pos < 6), ((({ data := #[91, 93, 45, 94, 92, 34] } : ByteArray)[pos]'h).toNat) < 128
 | 0, _ => (show (({ data := #[91, 93, 45, 94, 92, 34] } : ByteArray)[0]'Z15).toNat < 128 by decide)
 | 1, _ => (show (({ data := #[91, 93, 45, 94, 92, 34] } : ByteArray)[1]'Z15).toNat < 128 by decide)
 | 2, _ => (show (({ data := #[91, 93, 45, 94, 92, 34] } : ByteArray)[2]'Z15).toNat < 128 by decide)
 | 3, _ => (show (({ data := #[91, 93, 45, 94, 92, 34] } : ByteArray)[3]'Z15).toNat < 128 by decide)
 | 4, _ => (show (({ data := #[91, 93, 45, 94, 92, 34] } : ByteArray)[4]'Z15).toNat < 128 by decide)
 | 5, _ => (show (({ data := #[91, 93, 45, 94, 92, 34] } : ByteArray)[5]'Z15).toNat < 128 by decide)
 | n + 6, h => absurd h Z16
theorem bk_small4 : ∀ (pos : Nat) (h : pos < 4), ((({ data := #[91, 93, 45, 34] } : ByteArray)[pos]'h).toNat) < 128
 | 0, _ => (show (({ data := #[91, 93, 45, 34] } : ByteArray)[0]'Z15).toNat < 128 by decide)
 | 1, _ => (show (({ data := #[91, 93, 45, 34] } : ByteArray)[1]'Z15).toNat < 128 by decide)
 | 2, _ => (show (({ data := #[91, 93, 45, 34] } : ByteArray)[2]'Z15).toNat < 128 by decide)
 | 3, _ => (show (({ data := #[91, 93, 45, 34] } : ByteArray)[3]'Z15).toNat < 128 by decide)
 | n + 4, h => absurd h Z16
set_option maxRecDepth 100000 in
set_option maxHeartbeats 4000000 in
theorem bk_idx6 (r : Int) (w : World) (h0 : 128 ≤ r) (h1 : r ≤ 1114111) : Calls Tryd.prog 79 #[.string ⟨#[91, 93, 45, 94, 92, 34]⟩, .int .i32 r] w fun e w' => e = .returned (.int .i64 (-1)) ∧ Below w.heap.size w w' := by
 have c128 : ¬ r < 128 := by omega
 by_cases c1 : r = 65533
 ·subst c1
  go_enter Tryd.func79, Tryd.ntmps79
  go_wp2
  go_loopg [] 6 (fun kq wr => ∃ pos : Nat, pos + kq = 6 ∧ wr = w.iter ⟨#[91, 93, 45, 94, 92, 34]⟩ pos)
  case atStart => exact ⟨0, rfl, rfl⟩
  case round =>
   obtain ⟨pos, hp, rfl⟩ := hrel
   by_cases c : pos < 6
   ·have hnx : ∀ ty, (Instr.next (.pointer (some ⟨w.heap.size, 0, none⟩)) true ty).run Tryd.prog (w.iter ⟨#[91, 93, 45, 94, 92, 34]⟩ pos) = .ok (.tuple #[.bool true, .int .i64 pos, .int .i32 ((({ data := #[91, 93, 45, 94, 92, 34] } : ByteArray)[pos]'c).toNat : Int)]) (w.iter ⟨#[91, 93, 45, 94, 92, 34]⟩ (pos + 1)) := fun ty => run_next_ascii w ⟨#[91, 93, 45, 94, 92, 34]⟩ pos ty c (bk_small6 pos c)
    have hne : (((({ data := #[91, 93, 45, 94, 92, 34] } : ByteArray)[pos]'c).toNat : Int) == 65533) = false := by have := bk_small6 pos c; rw [beq_eq_false_iff_ne]; omega
    obtain ⟨x, hx⟩ : ∃ x : Int, ((({ data := #[91, 93, 45, 94, 92, 34] } : ByteArray)[pos]'c).toNat : Int) = x := ⟨_, rfl⟩
    rw [hx] at hne
    simp only [hx] at hnx
    clear hx
    go_wp2
    go_roundg (gk - 1)
    case measure => omega
    case rel => exact ⟨pos + 1, Z16, rfl⟩
   ·have hnx : ∀ ty, (Instr.next (.pointer (some ⟨w.heap.size, 0, none⟩)) true ty).run Tryd.prog (w.iter ⟨#[91, 93, 45, 94, 92, 34]⟩ pos) = .ok (.tuple #[.bool false]) (w.iter ⟨#[91, 93, 45, 94, 92, 34]⟩ pos) := fun ty => run_next_end w ⟨#[91, 93, 45, 94, 92, 34]⟩ pos ty c
    go_wp2
    refine bodyPost_ret (results_tmp rfl _ _ _) rfl ?_
    exact ⟨rfl, (Below.refl _ w).alloc (Nat.le_refl _) _⟩
 ·by_cases c2 : r < 55296 ∨ 57343 < r
  ·obtain ⟨z, hz⟩ : ∃ z, Utf8.encode r = z := ⟨_, rfl⟩
   obtain ⟨n, hn, hn3, hzb⟩ := bk_enc r z hz h0 h1 c2
   rcases hn3 with rfl | rfl | rfl
   ·have hn : z.size = 2 := hn
    go_enter Tryd.func79, Tryd.ntmps79
    go_wp2_with (first | (refine wp_scope_straight ?_) | (go_at_call 97; refine (bk_valid r _ Z16 h1).mono ?_; rintro e1 w1 ⟨rfl, hd1⟩; rw [decide_eq_true c2]))
    (try rw [hz]); (try rw [hn])
    go_loopg [9] 0 (fun kq v w' => v = .int .i64 1 ∧ Drawn0 w w')
    case atStart => exact ⟨by first | rfl | decide, hd1⟩
    case round =>
     obtain ⟨rfl, hd2⟩ := hrel
     go_wp2_with (refine wp_scope_straight ?_)
     repeat (go_quiet (first | (go_at_call 96; refine (bk_ixn _ _ _ hzb Z15).mono ?_; rintro e3 w3 ⟨rfl, rfl⟩; exact ⟨rfl, _, rfl⟩)); try go_wp2_with (refine wp_scope_straight ?_))
     ·change bodyPost Tryd.prog Tryd.f79 (fun e w' => e = Ending.returned (Value.int .i64 (-1)) ∧ Below w.heap.size w w') Exit.ret _ _
      refine bodyPost_ret (results_tmp rfl _ _ _) rfl ?_
      exact ⟨rfl, Drawn0.below Z23⟩
     ·exfalso
      have hq : (((({ data := #[91, 93, 45, 94, 92, 34] } : ByteArray)[1]'Z15).toNat : Int) != ((z[1]'Z16).toNat : Int)) = false := by assumption
      have h1 := bne_eq_false_iff_eq.1 hq
      have h9 : (({ data := #[91, 93, 45, 94, 92, 34] } : ByteArray)[1]'Z15).toNat = 93 := by decide
      omega
   ·have hn : z.size = 3 := hn
    go_enter Tryd.func79, Tryd.ntmps79
    go_wp2_with (first | (refine wp_scope_straight ?_) | (go_at_call 97; refine (bk_valid r _ Z16 h1).mono ?_; rintro e1 w1 ⟨rfl, hd1⟩; rw [decide_eq_true c2]))
    (try rw [hz]); (try rw [hn])
    go_loopg [9] 0 (fun kq v w' => v = .int .i64 2 ∧ Drawn0 w w')
    case atStart => exact ⟨by first | rfl | decide, hd1⟩
    case round =>
     obtain ⟨rfl, hd2⟩ := hrel
     go_wp2_with (refine wp_scope_straight ?_)
     repeat (go_quiet (first | (go_at_call 96; refine (bk_ixn _ _ _ hzb Z15).mono ?_; rintro e3 w3 ⟨rfl, rfl⟩; exact ⟨rfl, _, rfl⟩)); try go_wp2_with (refine wp_scope_straight ?_))
     ·change bodyPost Tryd.prog Tryd.f79 (fun e w' => e = Ending.returned (Value.int .i64 (-1)) ∧ Below w.heap.size w w') Exit.ret _ _
      refine bodyPost_ret (results_tmp rfl _ _ _) rfl ?_
      exact ⟨rfl, Drawn0.below Z23⟩
     ·exfalso
      have hq : (((({ data := #[91, 93, 45, 94, 92, 34] } : ByteArray)[2]'Z15).toNat : Int) != ((z[2]'Z16).toNat : Int)) = false := by assumption
      have h1 := bne_eq_false_iff_eq.1 hq
      have h9 : (({ data := #[91, 93, 45, 94, 92, 34] } : ByteArray)[2]'Z15).toNat = 45 := by decide
      omega
   ·have hn : z.size = 4 := hn
    go_enter Tryd.func79, Tryd.ntmps79
    go_wp2_with (first | (refine wp_scope_straight ?_) | (go_at_call 97; refine (bk_valid r _ Z16 h1).mono ?_; rintro e1 w1 ⟨rfl, hd1⟩; rw [decide_eq_true c2]))
    (try rw [hz]); (try rw [hn])
    go_loopg [9] 0 (fun kq v w' => v = .int .i64 3 ∧ Drawn0 w w')
    case atStart => exact ⟨by first | rfl | decide, hd1⟩
    case round =>
     obtain ⟨rfl, hd2⟩ := hrel
     go_wp2_with (refine wp_scope_straight ?_)
     repeat (go_quiet (first | (go_at_call 96; refine (bk_ixn _ _ _ hzb Z15).mono ?_; rintro e3 w3 ⟨rfl, rfl⟩; exact ⟨rfl, _, rfl⟩)); try go_wp2_with (refine wp_scope_straight ?_))
     ·change bodyPost Tryd.prog Tryd.f79 (fun e w' => e = Ending.returned (Value.int .i64 (-1)) ∧ Below w.heap.size w w') Exit.ret _ _
      refine bodyPost_ret (results_tmp rfl _ _ _) rfl ?_
      exact ⟨rfl, Drawn0.below Z23⟩
     ·exfalso
      have hq : (((({ data := #[91, 93, 45, 94, 92, 34] } : ByteArray)[3]'Z15).toNat : Int) != ((z[3]'Z16).toNat : Int)) = false := by assumption
      have h1 := bne_eq_false_iff_eq.1 hq
      have h9 : (({ data := #[91, 93, 45, 94, 92, 34] } : ByteArray)[3]'Z15).toNat = 94 := by decide
      omega
  ·go_enter Tryd.func79, Tryd.ntmps79
   go_wp2_with (go_at_call 97; refine (bk_valid r _ Z16 h1).mono ?_; rintro e1 w1 ⟨rfl, hd1⟩; rw [decide_eq_false c2])
   go_ret
   exact ⟨rfl, hd1.below⟩
set_option maxRecDepth 100000 in
set_option maxHeartbeats 4000000 in
theorem bk_idx4 (r : Int) (w : World) (h0 : 128 ≤ r) (h1 : r ≤ 1114111) : Calls Tryd.prog 79 #[.string ⟨#[91, 93, 45, 34]⟩, .int .i32 r] w fun e w' => e = .returned (.int .i64 (-1)) ∧ Below w.heap.size w w' := by
 have c128 : ¬ r < 128 := by omega
 by_cases c1 : r = 65533
 ·subst c1
  go_enter Tryd.func79, Tryd.ntmps79
  go_wp2
  go_loopg [] 4 (fun kq wr => ∃ pos : Nat, pos + kq = 4 ∧ wr = w.iter ⟨#[91, 93, 45, 34]⟩ pos)
  case atStart => exact ⟨0, rfl, rfl⟩
  case round =>
   obtain ⟨pos, hp, rfl⟩ := hrel
   by_cases c : pos < 4
   ·have hnx : ∀ ty, (Instr.next (.pointer (some ⟨w.heap.size, 0, none⟩)) true ty).run Tryd.prog (w.iter ⟨#[91, 93, 45, 34]⟩ pos) = .ok (.tuple #[.bool true, .int .i64 pos, .int .i32 ((({ data := #[91, 93, 45, 34] } : ByteArray)[pos]'c).toNat : Int)]) (w.iter ⟨#[91, 93, 45, 34]⟩ (pos + 1)) := fun ty => run_next_ascii w ⟨#[91, 93, 45, 34]⟩ pos ty c (bk_small4 pos c)
    have hne : (((({ data := #[91, 93, 45, 34] } : ByteArray)[pos]'c).toNat : Int) == 65533) = false := by have := bk_small4 pos c; rw [beq_eq_false_iff_ne]; omega
    obtain ⟨x, hx⟩ : ∃ x : Int, ((({ data := #[91, 93, 45, 34] } : ByteArray)[pos]'c).toNat : Int) = x := ⟨_, rfl⟩
    rw [hx] at hne
    simp only [hx] at hnx
    clear hx
    go_wp2
    go_roundg (gk - 1)
    case measure => omega
    case rel => exact ⟨pos + 1, Z16, rfl⟩
   ·have hnx : ∀ ty, (Instr.next (.pointer (some ⟨w.heap.size, 0, none⟩)) true ty).run Tryd.prog (w.iter ⟨#[91, 93, 45, 34]⟩ pos) = .ok (.tuple #[.bool false]) (w.iter ⟨#[91, 93, 45, 34]⟩ pos) := fun ty => run_next_end w ⟨#[91, 93, 45, 34]⟩ pos ty c
    go_wp2
    refine bodyPost_ret (results_tmp rfl _ _ _) rfl ?_
    exact ⟨rfl, (Below.refl _ w).alloc (Nat.le_refl _) _⟩
 ·by_cases c2 : r < 55296 ∨ 57343 < r
  ·obtain ⟨z, hz⟩ : ∃ z, Utf8.encode r = z := ⟨_, rfl⟩
   obtain ⟨n, hn, hn3, hzb⟩ := bk_enc r z hz h0 h1 c2
   rcases hn3 with rfl | rfl | rfl
   ·have hn : z.size = 2 := hn
    go_enter Tryd.func79, Tryd.ntmps79
    go_wp2_with (first | (refine wp_scope_straight ?_) | (go_at_call 97; refine (bk_valid r _ Z16 h1).mono ?_; rintro e1 w1 ⟨rfl, hd1⟩; rw [decide_eq_true c2]))
    (try rw [hz]); (try rw [hn])
    go_loopg [9] 0 (fun kq v w' => v = .int .i64 1 ∧ Drawn0 w w')
    case atStart => exact ⟨by first | rfl | decide, hd1⟩
    case round =>
     obtain ⟨rfl, hd2⟩ := hrel
     go_wp2_with (refine wp_scope_straight ?_)
     repeat (go_quiet (first | (go_at_call 96; refine (bk_ixn _ _ _ hzb Z15).mono ?_; rintro e3 w3 ⟨rfl, rfl⟩; exact ⟨rfl, _, rfl⟩)); try go_wp2_with (refine wp_scope_straight ?_))
     ·change bodyPost Tryd.prog Tryd.f79 (fun e w' => e = Ending.returned (Value.int .i64 (-1)) ∧ Below w.heap.size w w') Exit.ret _ _
      refine bodyPost_ret (results_tmp rfl _ _ _) rfl ?_
      exact ⟨rfl, Drawn0.below Z23⟩
     ·exfalso
      have hq : (((({ data := #[91, 93, 45, 34] } : ByteArray)[1]'Z15).toNat : Int) != ((z[1]'Z16).toNat : Int)) = false := by assumption
      have h1 := bne_eq_false_iff_eq.1 hq
      have h9 : (({ data := #[91, 93, 45, 34] } : ByteArray)[1]'Z15).toNat = 93 := by decide
      omega
   ·have hn : z.size = 3 := hn
    go_enter Tryd.func79, Tryd.ntmps79
    go_wp2_with (first | (refine wp_scope_straight ?_) | (go_at_call 97; refine (bk_valid r _ Z16 h1).mono ?_; rintro e1 w1 ⟨rfl, hd1⟩; rw [decide_eq_true c2]))
    (try rw [hz]); (try rw [hn])
    go_loopg [9] 0 (fun kq v w' => v = .int .i64 2 ∧ Drawn0 w w')
    case atStart => exact ⟨by first | rfl | decide, hd1⟩
    case round =>
     obtain ⟨rfl, hd2⟩ := hrel
     go_wp2_with (refine wp_scope_straight ?_)
     repeat (go_quiet (first | (go_at_call 96; refine (bk_ixn _ _ _ hzb Z15).mono ?_; rintro e3 w3 ⟨rfl, rfl⟩; exact ⟨rfl, _, rfl⟩)); try go_wp2_with (refine wp_scope_straight ?_))
     ·change bodyPost Tryd.prog Tryd.f79 (fun e w' => e = Ending.returned (Value.int .i64 (-1)) ∧ Below w.heap.size w w') Exit.ret _ _
      refine bodyPost_ret (results_tmp rfl _ _ _) rfl ?_
      exact ⟨rfl, Drawn0.below Z23⟩
     ·exfalso
      have hq : (((({ data := #[91, 93, 45, 34] } : ByteArray)[2]'Z15).toNat : Int) != ((z[2]'Z16).toNat : Int)) = false := by assumption
      have h1 := bne_eq_false_iff_eq.1 hq
      have h9 : (({ data := #[91, 93, 45, 34] } : ByteArray)[2]'Z15).toNat = 45 := by decide
      omega
   ·have hn : z.size = 4 := hn
    go_enter Tryd.func79, Tryd.ntmps79
    go_wp2_with (first | (refine wp_scope_straight ?_) | (go_at_call 97; refine (bk_valid r _ Z16 h1).mono ?_; rintro e1 w1 ⟨rfl, hd1⟩; rw [decide_eq_true c2]))
    (try rw [hz]); (try rw [hn])
    go_loopg [9] 0 (fun kq v w' => v = .int .i64 3 ∧ Drawn0 w w')
    case atStart => exact ⟨by first | rfl | decide, hd1⟩
    case round =>
     obtain ⟨rfl, hd2⟩ := hrel
     go_wp2_with (refine wp_scope_straight ?_)
     repeat (go_quiet (first | (go_at_call 96; refine (bk_ixn _ _ _ hzb Z15).mono ?_; rintro e3 w3 ⟨rfl, rfl⟩; exact ⟨rfl, _, rfl⟩)); try go_wp2_with (refine wp_scope_straight ?_))
     ·change bodyPost Tryd.prog Tryd.f79 (fun e w' => e = Ending.returned (Value.int .i64 (-1)) ∧ Below w.heap.size w w') Exit.ret _ _
      refine bodyPost_ret (results_tmp rfl _ _ _) rfl ?_
      exact ⟨rfl, Drawn0.below Z23⟩
     ·exfalso
      have hq : (((({ data := #[91, 93, 45, 34] } : ByteArray)[3]'Z15).toNat : Int) != ((z[3]'Z16).toNat : Int)) = false := by assumption
      have h1 := bne_eq_false_iff_eq.1 hq
      have h9 : (({ data := #[91, 93, 45, 34] } : ByteArray)[3]'Z15).toNat = 34 := by decide
      omega
  ·go_enter Tryd.func79, Tryd.ntmps79
   go_wp2_with (go_at_call 97; refine (bk_valid r _ Z16 h1).mono ?_; rintro e1 w1 ⟨rfl, hd1⟩; rw [decide_eq_false c2])
   go_ret
   exact ⟨rfl, hd1.below⟩
set_option maxRecDepth 100000 in
theorem bk_cr6 (r : Int) (w : World) (h0 : 128 ≤ r) (h1 : r ≤ 1114111) : Calls Tryd.prog 69 #[.string ⟨#[91, 93, 45, 94, 92, 34]⟩, .int .i32 r] w fun e w' => e = .returned (.bool false) ∧ Below w.heap.size w w' := by
 go_enter Tryd.func69, Tryd.ntmps69
 go_wp2_with (go_at_call 79; refine (bk_idx6 r _ h0 h1).mono ?_; rintro e1 w1 ⟨rfl, hd1⟩)
 go_ret
 exact ⟨rfl, hd1⟩
set_option maxRecDepth 100000 in
theorem bk_cr4 (r : Int) (w : World) (h0 : 128 ≤ r) (h1 : r ≤ 1114111) : Calls Tryd.prog 69 #[.string ⟨#[91, 93, 45, 34]⟩, .int .i32 r] w fun e w' => e = .returned (.bool false) ∧ Below w.heap.size w w' := by
 go_enter Tryd.func69, Tryd.ntmps69
 go_wp2_with (go_at_call 79; refine (bk_idx4 r _ h0 h1).mono ?_; rintro e1 w1 ⟨rfl, hd1⟩)
 go_ret
 exact ⟨rfl, hd1⟩
def bk_hexC (n : Nat) : UInt8 := if n < 10 then (48 + n).toUInt8 else (87 + n).toUInt8
def bk_hexD (n : Nat) : List UInt8 := if h : n < 16 then [bk_hexC n] else bk_hexD (n / 16) ++ [bk_hexC (n % 16)]
termination_by n
decreasing_by omega
theorem bk_dig : ∀ (m : Nat) (h : m < 36), m < 16 → (({ data := #[48, 49, 50, 51, 52, 53, 54, 55, 56, 57, 97, 98, 99, 100, 101, 102, 103, 104, 105, 106, 107, 108, 109, 110, 111, 112, 113, 114, 115, 116, 117, 118, 119, 120, 121, 122] } : ByteArray)[m]'h) = bk_hexC m
 | 0, _, _ => (show (({ data := #[48, 49, 50, 51, 52, 53, 54, 55, 56, 57, 97, 98, 99, 100, 101, 102, 103, 104, 105, 106, 107, 108, 109, 110, 111, 112, 113, 114, 115, 116, 117, 118, 119, 120, 121, 122] } : ByteArray)[0]'Z15) = bk_hexC 0 by decide)
 | 1, _, _ => (show (({ data := #[48, 49, 50, 51, 52, 53, 54, 55, 56, 57, 97, 98, 99, 100, 101, 102, 103, 104, 105, 106, 107, 108, 109, 110, 111, 112, 113, 114, 115, 116, 117, 118, 119, 120, 121, 122] } : ByteArray)[1]'Z15) = bk_hexC 1 by decide)
 | 2, _, _ => (show (({ data := #[48, 49, 50, 51, 52, 53, 54, 55, 56, 57, 97, 98, 99, 100, 101, 102, 103, 104, 105, 106, 107, 108, 109, 110, 111, 112, 113, 114, 115, 116, 117, 118, 119, 120, 121, 122] } : ByteArray)[2]'Z15) = bk_hexC 2 by decide)
 | 3, _, _ => (show (({ data := #[48, 49, 50, 51, 52, 53, 54, 55, 56, 57, 97, 98, 99, 100, 101, 102, 103, 104, 105, 106, 107, 108, 109, 110, 111, 112, 113, 114, 115, 116, 117, 118, 119, 120, 121, 122] } : ByteArray)[3]'Z15) = bk_hexC 3 by decide)
 | 4, _, _ => (show (({ data := #[48, 49, 50, 51, 52, 53, 54, 55, 56, 57, 97, 98, 99, 100, 101, 102, 103, 104, 105, 106, 107, 108, 109, 110, 111, 112, 113, 114, 115, 116, 117, 118, 119, 120, 121, 122] } : ByteArray)[4]'Z15) = bk_hexC 4 by decide)
 | 5, _, _ => (show (({ data := #[48, 49, 50, 51, 52, 53, 54, 55, 56, 57, 97, 98, 99, 100, 101, 102, 103, 104, 105, 106, 107, 108, 109, 110, 111, 112, 113, 114, 115, 116, 117, 118, 119, 120, 121, 122] } : ByteArray)[5]'Z15) = bk_hexC 5 by decide)
 | 6, _, _ => (show (({ data := #[48, 49, 50, 51, 52, 53, 54, 55, 56, 57, 97, 98, 99, 100, 101, 102, 103, 104, 105, 106, 107, 108, 109, 110, 111, 112, 113, 114, 115, 116, 117, 118, 119, 120, 121, 122] } : ByteArray)[6]'Z15) = bk_hexC 6 by decide)
 | 7, _, _ => (show (({ data := #[48, 49, 50, 51, 52, 53, 54, 55, 56, 57, 97, 98, 99, 100, 101, 102, 103, 104, 105, 106, 107, 108, 109, 110, 111, 112, 113, 114, 115, 116, 117, 118, 119, 120, 121, 122] } : ByteArray)[7]'Z15) = bk_hexC 7 by decide)
 | 8, _, _ => (show (({ data := #[48, 49, 50, 51, 52, 53, 54, 55, 56, 57, 97, 98, 99, 100, 101, 102, 103, 104, 105, 106, 107, 108, 109, 110, 111, 112, 113, 114, 115, 116, 117, 118, 119, 120, 121, 122] } : ByteArray)[8]'Z15) = bk_hexC 8 by decide)
 | 9, _, _ => (show (({ data := #[48, 49, 50, 51, 52, 53, 54, 55, 56, 57, 97, 98, 99, 100, 101, 102, 103, 104, 105, 106, 107, 108, 109, 110, 111, 112, 113, 114, 115, 116, 117, 118, 119, 120, 121, 122] } : ByteArray)[9]'Z15) = bk_hexC 9 by decide)
 | 10, _, _ => (show (({ data := #[48, 49, 50, 51, 52, 53, 54, 55, 56, 57, 97, 98, 99, 100, 101, 102, 103, 104, 105, 106, 107, 108, 109, 110, 111, 112, 113, 114, 115, 116, 117, 118, 119, 120, 121, 122] } : ByteArray)[10]'Z15) = bk_hexC 10 by decide)
 | 11, _, _ => (show (({ data := #[48, 49, 50, 51, 52, 53, 54, 55, 56, 57, 97, 98, 99, 100, 101, 102, 103, 104, 105, 106, 107, 108, 109, 110, 111, 112, 113, 114, 115, 116, 117, 118, 119, 120, 121, 122] } : ByteArray)[11]'Z15) = bk_hexC 11 by decide)
 | 12, _, _ => (show (({ data := #[48, 49, 50, 51, 52, 53, 54, 55, 56, 57, 97, 98, 99, 100, 101, 102, 103, 104, 105, 106, 107, 108, 109, 110, 111, 112, 113, 114, 115, 116, 117, 118, 119, 120, 121, 122] } : ByteArray)[12]'Z15) = bk_hexC 12 by decide)
 | 13, _, _ => (show (({ data := #[48, 49, 50, 51, 52, 53, 54, 55, 56, 57, 97, 98, 99, 100, 101, 102, 103, 104, 105, 106, 107, 108, 109, 110, 111, 112, 113, 114, 115, 116, 117, 118, 119, 120, 121, 122] } : ByteArray)[13]'Z15) = bk_hexC 13 by decide)
 | 14, _, _ => (show (({ data := #[48, 49, 50, 51, 52, 53, 54, 55, 56, 57, 97, 98, 99, 100, 101, 102, 103, 104, 105, 106, 107, 108, 109, 110, 111, 112, 113, 114, 115, 116, 117, 118, 119, 120, 121, 122] } : ByteArray)[14]'Z15) = bk_hexC 14 by decide)
 | 15, _, _ => (show (({ data := #[48, 49, 50, 51, 52, 53, 54, 55, 56, 57, 97, 98, 99, 100, 101, 102, 103, 104, 105, 106, 107, 108, 109, 110, 111, 112, 113, 114, 115, 116, 117, 118, 119, 120, 121, 122] } : ByteArray)[15]'Z15) = bk_hexC 15 by decide)
 | n + 16, _, h => absurd h Z16
theorem bk_arr152 : Tryd.prog.arrayLen 152 = 65 := by kernel_rfl
theorem bk_k16 : IntKind.u64.wrap (bits BinOp.and IntKind.u64 16 (IntKind.u64.wrap (-16)) * 285870213051353865) / 288230376151711744 = 15 := by decide +kernel
set_option maxRecDepth 100000 in
set_option maxHeartbeats 4000000 in
theorem bk_tz64 (w : World) (h : w.cell? ⟨3, 15, none⟩ = some (.int .u8 4)) : Calls Tryd.prog 130 #[.int .u64 16] w fun e w' => e = .returned (.int .i64 4) ∧ w' = w := by
 go_enter Tryd.func130, Tryd.ntmps130
 go_wp2_with (simp only [bk_k16])
 go_ret
 exact ⟨rfl, rfl⟩
set_option maxRecDepth 100000 in
theorem bk_tz16 (w : World) (h : w.cell? ⟨3, 15, none⟩ = some (.int .u8 4)) : Calls Tryd.prog 123 #[.int .u64 16] w fun e w' => e = .returned (.int .i64 4) ∧ w' = w := by
 go_enter Tryd.func123, Tryd.ntmps123
 go_wp2_with (go_at_call 130; refine (bk_tz64 w h).mono ?_; rintro e w' ⟨rfl, rfl⟩)
 go_ret
 exact ⟨rfl, rfl⟩
theorem bk_b16 : bits BinOp.and IntKind.i64 16 15 = 0 := by decide +kernel
set_option maxRecDepth 100000 in
theorem bk_ip16 (w : World) : Calls Tryd.prog 122 #[.int .i64 16] w fun e w' => e = .returned (.bool true) ∧ w' = w := by
 go_enter Tryd.func122, Tryd.ntmps122
 go_wp2_with (simp only [bk_b16])
 go_ret
 exact ⟨rfl, rfl⟩
theorem bk_putOne (cur : Array Value) (j : Nat) (d : UInt8) (tail : List UInt8) (x : UInt8) (hj : j < cur.size) (hx : x = d) (hct : ∀ t (ht : t < tail.length), cur[j + 1 + t]? = some (Value.int .u8 (tail[t].toNat : Int))) (t : Nat) (ht : t < (d :: tail).length) : (cur.setIfInBounds j (Value.int .u8 (x.toNat : Int)))[j + t]? = some (Value.int .u8 ((d :: tail)[t].toNat : Int)) := by
 subst hx
 cases t with
 | zero => simp [hj]
 | succ t =>
  rw [Array.getElem?_setIfInBounds_ne Z16]
  have := hct t (by simpa using ht)
  rw [show j + (t + 1) = j + 1 + t by omega, this]
  rfl
theorem bk_setAt (W : World) (g o : Nat) (v : Value) (cur : Array Value) (t : TypeId) (fz : Nat × Nat) (h : W.heap[g]? = some (.cells cur t fz)) : ∃ cur' : Array Value, (W.setCell ⟨g, o, none⟩ v).heap[g]? = some (.cells cur' t fz) ∧ cur'.size = cur.size ∧ cur' = cur.setIfInBounds o v := by
 simp only [World.setCell]
 rw [Array.getElem?_modify, if_pos rfl, h]
 exact ⟨_, rfl, Z21, Z21⟩
set_option maxRecDepth 100000 in
set_option maxHeartbeats 4000000 in
theorem bk_fb16 (u : Nat) (hu : u < 2097152) (w : World) (h : w.cell? ⟨3, 15, none⟩ = some (.int .u8 4)) : Calls Tryd.prog 103 #[.slice none 0 0, .int .u64 u, .int .i64 16, .bool false, .bool false] w fun e w' => e = .returned (.tuple #[.slice none 0 0, .string ⟨(bk_hexD u).toArray⟩]) ∧ Below w.heap.size w w' := by
 go_enter Tryd.func103, Tryd.ntmps103
 have hg : 3 < w.heap.size := by
  rcases Nat.lt_or_ge 3 w.heap.size with h1 | h1
  ·exact h1
  ·simp [World.cell?, Array.getElem?_eq_none h1] at h
 have h2 : (w.alloc (.cells Tryd.zeroCells152 152)).cell? ⟨3, 15, none⟩ = some (.int .u8 4) := by
  have e := Below.heap_alloc w (.cells Tryd.zeroCells152 152) 3 hg
  simp only [World.cell?, e]
  exact h
 go_wp2_with (first | (go_at_call 123; refine (bk_tz16 _ h2).mono ?_; rintro e1 w1 ⟨rfl, rfl⟩) | (go_at_call 122; refine (bk_ip16 _).mono ?_; rintro e1 w1 ⟨rfl, rfl⟩))
 obtain ⟨A, hA⟩ : ∃ A, w.heap.size = A := ⟨_, rfl⟩
 have hB0 : Below A w (w.alloc (.cells Tryd.zeroCells152 152)) := (Below.refl A w).alloc Z16 _
 have hc0 : (w.alloc (.cells Tryd.zeroCells152 152)).heap[A]? = some (.cells Tryd.zeroCells152 152) := by rw [← hA]; exact blk_new w _
 have hz0 : Tryd.zeroCells152.size = 65 := by kernel_rfl
 obtain ⟨w0, hw0⟩ : ∃ w0, w.alloc (.cells Tryd.zeroCells152 152) = w0 := ⟨_, rfl⟩
 rw [hA]
 rw [hw0] at hB0 hc0 ⊢
 clear hw0 h2
 go_loopg [1, 13] u (fun kq p1 p13 wr => ∃ (v j : Nat) (tail : List UInt8) (cur : Array Value), kq = v ∧ p1 = .int .u64 v ∧ p13 = .int .i64 j ∧ j + tail.length = 65 ∧ tail.length ≤ 5 ∧ v * 16 ^ tail.length ≤ u ∧ bk_hexD v ++ tail = bk_hexD u ∧ wr.heap[A]? = some (.cells cur 152 (0, 0)) ∧ cur.size = 65 ∧ (∀ t (ht : t < tail.length), cur[j + t]? = some (Value.int .u8 (tail[t].toNat : Int))) ∧ Below A w wr)
 case atStart => exact ⟨u, 65, [], _, rfl, rfl, rfl, rfl, Z21, Z21, Z21, hc0, hz0, fun t ht => absurd ht Z21, hB0⟩
 case round =>
  obtain ⟨v, j, tail, cur, rfl, rfl, rfl, hj, hl5, hv, hd, hh, hcs, hct, hB⟩ := hrel
  obtain ⟨j, rfl⟩ : ∃ j', j = j' + 1 := ⟨j - 1, Z16⟩
  have hjs : j < cur.size := by omega
  have d0 : wr.cell? ⟨A, j, none⟩ = some cur[j] := by simp [World.cell?, hh, hjs]
  have f0 : wr.frozen? ⟨A, j, none⟩ = false := by simp [World.frozen?, hh]
  have hjj : ((j + 1 : Nat) : Int) - 1 = (j : Int) := by omega
  by_cases c : 16 ≤ gk
  ·have hl : tail.length < 5 := by
    rcases Nat.lt_or_ge tail.length 5 with h1 | h1
    ·exact h1
    ·have h2 : 16 ^ 5 ≤ 16 ^ tail.length := Nat.pow_le_pow_right Z15 h1
     have h3 : 16 * 16 ^ 5 ≤ gk * 16 ^ tail.length := Nat.mul_le_mul c h2
     omega
   have hand : bits BinOp.and IntKind.u64 (gk : Int) 15 = ((gk % 16 : Nat) : Int) := by
    have hgu : gk ≤ u := Nat.le_trans (Nat.le_mul_of_pos_right _ (Nat.pow_pos Z15)) hv
    have h1 := bits_and_u64_nat gk 15 Z16 Z16
    rw [Nat.and_two_pow_sub_one_eq_mod gk 4] at h1
    exact h1
   go_wp2
   go_roundg (gk / 16)
   case measure => omega
   case rel =>
    obtain ⟨cur', e1, e2, e3⟩ := bk_setAt wr A j (Value.int .u8 ((({ data := #[48, 49, 50, 51, 52, 53, 54, 55, 56, 57, 97, 98, 99, 100, 101, 102, 103, 104, 105, 106, 107, 108, 109, 110, 111, 112, 113, 114, 115, 116, 117, 118, 119, 120, 121, 122] } : ByteArray)[gk % 16]'(by have : gk % 16 < 16 := Nat.mod_lt _ Z15; show gk % 16 < 36; omega)).toNat : Int)) cur 152 (0, 0) hh
    refine ⟨gk / 16, j, bk_hexC (gk % 16) :: tail, cur', rfl, Z21, rfl, by simp; omega, by simp; omega, ?_, ?_, e1, by rw [e2]; exact hcs, ?_, ?_⟩
    ·rw [List.length_cons, Nat.pow_succ, Nat.mul_comm (16 ^ tail.length), ← Nat.mul_assoc]
     exact Nat.le_trans (Nat.mul_le_mul_right _ (Nat.div_mul_le_self gk 16)) hv
    ·rw [← hd]
     conv => rhs; rw [bk_hexD, dif_neg Z16]
     simp
    ·intro t ht
     rw [e3]
     exact bk_putOne cur j (bk_hexC (gk % 16)) tail _ hjs (bk_dig (gk % 16) (by have : gk % 16 < 16 := Nat.mod_lt _ Z15; omega) (Nat.mod_lt _ Z15)) hct t ht
    ·exact hB.setCell (p := ⟨A, j, none⟩) (Nat.le_refl _) _
  ·have hgk : gk < 16 := by omega
   have hlen : (bk_hexC gk :: tail).length = 65 - j := by simp; omega
   have hsl : ∀ W : World, (Instr.sliceAt 152 (.pointer (some ⟨A, 0, none⟩)) (some (.int .i64 (j : Int))) none none).run Tryd.prog W = .ok (.slice (some ⟨A, j, none⟩) (bk_hexC gk :: tail).length (bk_hexC gk :: tail).length) W := fun W => by
    have h1 := run_sliceAt_array_l (P := Tryd.prog) W 152 ⟨A, 0, none⟩ Z14 .i64 (j : Int) Z16 (by rw [bk_arr152]; omega)
    rw [h1, show Tryd.prog.elem 152 = 5 by kernel_rfl, Tryd.sizeOf5, bk_arr152, hlen]
    have hne : ¬ 65 = j := by omega
    have hj0 : ¬ j = 0 := by omega
    simp [Result.andThen, slicedAt, hne, hj0, Addr.add]
   have hcv : (convert 76 9 (.slice (some ⟨A, j, none⟩) (bk_hexC gk :: tail).length (bk_hexC gk :: tail).length)).run Tryd.prog (wr.setCell ⟨A, j, none⟩ (Value.int .u8 ((({ data := #[48, 49, 50, 51, 52, 53, 54, 55, 56, 57, 97, 98, 99, 100, 101, 102, 103, 104, 105, 106, 107, 108, 109, 110, 111, 112, 113, 114, 115, 116, 117, 118, 119, 120, 121, 122] } : ByteArray)[gk]'(by show gk < 36; omega)).toNat : Int))) = .ok (.string ⟨(bk_hexC gk :: tail).toArray⟩) (wr.setCell ⟨A, j, none⟩ (Value.int .u8 ((({ data := #[48, 49, 50, 51, 52, 53, 54, 55, 56, 57, 97, 98, 99, 100, 101, 102, 103, 104, 105, 106, 107, 108, 109, 110, 111, 112, 113, 114, 115, 116, 117, 118, 119, 120, 121, 122] } : ByteArray)[gk]'(by show gk < 36; omega)).toNat : Int))) := by
    obtain ⟨cur', e1, e2, e3⟩ := bk_setAt wr A j (Value.int .u8 ((({ data := #[48, 49, 50, 51, 52, 53, 54, 55, 56, 57, 97, 98, 99, 100, 101, 102, 103, 104, 105, 106, 107, 108, 109, 110, 111, 112, 113, 114, 115, 116, 117, 118, 119, 120, 121, 122] } : ByteArray)[gk]'(by show gk < 36; omega)).toNat : Int)) cur 152 (0, 0) hh
    refine run_convert_bytes_back _ 76 9 5 ⟨A, j, none⟩ _ (bk_hexC gk :: tail) Z14 Z14 Z14 (fun t ht => ?_)
    have h1 := bk_putOne cur j (bk_hexC gk) tail _ hjs (bk_dig gk Z16 hgk) hct t ht
    rw [← e3] at h1
    have e4 : (wr.setCell ⟨A, j, none⟩ (Value.int .u8 ((({ data := #[48, 49, 50, 51, 52, 53, 54, 55, 56, 57, 97, 98, 99, 100, 101, 102, 103, 104, 105, 106, 107, 108, 109, 110, 111, 112, 113, 114, 115, 116, 117, 118, 119, 120, 121, 122] } : ByteArray)[gk]'(by show gk < 36; omega)).toNat : Int))).cell? ⟨A, j + t, none⟩ = cur'[j + t]? := by simp [World.cell?, e1]
    show World.cell? _ ((⟨A, j, none⟩ : Addr).add t) = _
    rw [show ((⟨A, j, none⟩ : Addr).add t) = ⟨A, j + t, none⟩ by cases t <;> simp [Addr.add]]
    exact e4.trans h1
   obtain ⟨L, hL⟩ : ∃ L, (bk_hexC gk :: tail).length = L := ⟨_, rfl⟩
   rw [hL] at hcv
   simp only [hL] at hsl
   go_wp2
   refine bodyPost_ret (results_tmp2 rfl _ _ _) rfl ?_
   have hf : bk_hexC gk :: tail = bk_hexD u := by
    rw [← hd]
    conv => rhs; rw [bk_hexD, dif_pos hgk]
    rfl
   refine ⟨?_, hA ▸ hB.setCell (p := ⟨A, j, none⟩) (Nat.le_refl _) _⟩
   rw [← hf]
   rfl
set_option maxRecDepth 100000 in
theorem bk_fi80 (u : Nat) (hu : u < 2097152) (w : World) (h : w.cell? ⟨3, 15, none⟩ = some (.int .u8 4)) : Calls Tryd.prog 80 #[.int .i64 u, .int .i64 16] w fun e w' => e = .returned (.string ⟨(bk_hexD u).toArray⟩) ∧ Below w.heap.size w w' := by
 have hlt : decide ((u : Int) < 0) = false := decide_eq_false Z16
 go_enter Tryd.func80, Tryd.ntmps80
 go_wp2_with (go_at_call 103; refine (bk_fb16 u hu _ h).mono ?_; rintro e1 w1 ⟨rfl, hd1⟩)
 refine bodyPost_ret (results_tmp rfl _ _ _) rfl ?_
 exact ⟨rfl, hd1⟩
set_option maxRecDepth 100000 in
theorem bk_fi70 (u : Nat) (hu : u < 2097152) (w : World) (h : w.cell? ⟨3, 15, none⟩ = some (.int .u8 4)) : Calls Tryd.prog 70 #[.int .i64 u, .int .i64 16] w fun e w' => e = .returned (.string ⟨(bk_hexD u).toArray⟩) ∧ Below w.heap.size w w' := by
 go_enter Tryd.func70, Tryd.ntmps70
 go_wp2_with (go_at_call 80; refine (bk_fi80 u hu _ h).mono ?_; rintro e1 w1 ⟨rfl, hd1⟩)
 refine bodyPost_ret (results_tmp rfl _ _ _) rfl ?_
 exact ⟨rfl, hd1⟩
def bk_far (r : Nat) : Prop := (r < 33 ∨ 126 < r) ∧ r ≠ 9 ∧ r ≠ 10 ∧ r ≠ 13
set_option maxRecDepth 100000 in
theorem bk_crFar (r : Nat) (w : World) (h : bk_far r) (h1 : r ≤ 1114111) : Calls Tryd.prog 69 #[.string ⟨#[91, 93, 45, 94, 92, 34]⟩, .int .i32 (r : Int)] w fun e w' => e = .returned (.bool false) ∧ Below w.heap.size w w' := by
 by_cases c : 128 ≤ r
 ·exact bk_cr6 (r : Int) w Z16 Z16
 ·refine (Tryd.strings_ContainsRune_ascii _ (r : Int) w Z16 Z16).mono ?_
  rintro e w' ⟨rfl, rfl⟩
  refine ⟨?_, Below.refl _ _⟩
  have : ∀ r : Nat, r < 128 → bk_far r → decide (0 ≤ Lib.indexByte [91, 93, 45, 94, 92, 34] ((r : Int).toNat).toUInt8) = false := by unfold bk_far; decide +kernel
  exact congrArg (fun b => Ending.returned (.bool b)) (this r Z16 h)
theorem bk_hexD_len : ∀ (k n : Nat), n < 16 ^ (k + 1) → (bk_hexD n).length ≤ k + 1
 | 0, n, h => by
  rw [bk_hexD, dif_pos (by simpa using h)]
  simp
 | k + 1, n, h => by
  rw [bk_hexD]
  split
  ·simp
  ·have h2 : n / 16 < 16 ^ (k + 1) := by
    rw [Nat.div_lt_iff_lt_mul Z15, ← Nat.pow_succ]
    exact h
   have := bk_hexD_len k (n / 16) h2
   rw [List.length_append, List.length_singleton]
   omega
set_option maxRecDepth 100000 in
set_option maxHeartbeats 4000000 in
theorem bk_oneFar (r : Nat) (h : bk_far r) (h1 : r ≤ 1114111) (w : World) (hT : w.cell? ⟨3, 15, none⟩ = some (.int .u8 4)) : Calls Tryd.prog 56 #[.int .i32 (r : Int)] w fun e w' => e = .returned (.string ⟨([92, 117, 123] ++ bk_hexD r ++ [125]).toArray⟩) ∧ Below w.heap.size w w' := by
 have hg : 3 < w.heap.size := by
  rcases Nat.lt_or_ge 3 w.heap.size with h1 | h1
  ·exact h1
  ·simp [World.cell?, Array.getElem?_eq_none h1] at hT
 have hT2 : ∀ w1, Below w.heap.size w w1 → w1.cell? ⟨3, 15, none⟩ = some (.int .u8 4) := fun w1 hb => (hb.cell (p := ⟨3, 15, none⟩) hg).trans hT
 have d1 : ((r : Int) == 10) = false := beq_eq_false_iff_ne.2 (by unfold bk_far at h; omega)
 have d2 : ((r : Int) == 9) = false := beq_eq_false_iff_ne.2 (by unfold bk_far at h; omega)
 have d3 : ((r : Int) == 13) = false := beq_eq_false_iff_ne.2 (by unfold bk_far at h; omega)
 have hr : ¬ (33 ≤ (r : Int) ∧ (r : Int) ≤ 126) := by unfold bk_far at h; omega
 obtain ⟨S, hS⟩ : ∃ S : ByteArray, (⟨(bk_hexD r).toArray⟩ : ByteArray) = S := ⟨_, rfl⟩
 have hS6 : S.size ≤ 6 := by rw [← hS]; show (bk_hexD r).toArray.size ≤ 6; rw [List.size_toArray]; exact bk_hexD_len 5 r Z16
 have s3 : (({ data := #[92, 117, 123] } : ByteArray)).size = 3 := rfl
 have s1 : (({ data := #[125] } : ByteArray)).size = 1 := rfl
 by_cases c : 33 ≤ (r : Int)
 ·have c2 : ¬ (r : Int) ≤ 126 := by omega
  go_enter Tryd.func56, Tryd.ntmps56
  go_wp2_with (first | (go_at_call 69; refine (bk_crFar r _ h h1).mono ?_; rintro e1 w1 ⟨rfl, hd1⟩) | (go_at_call 70; refine (bk_fi70 r Z16 _ (hT2 _ hd1)).mono ?_; rintro e2 w2 ⟨rfl, hd2⟩; rw [hS]))
  all_goals first
   | (refine bodyPost_ret (results_tmp rfl _ _ _) rfl ?_; exact ⟨by rw [← hS]; rfl, hd1.trans (hd2.mono hd1.size)⟩)
   | (exfalso; rename_i hx; simp [ByteArray.size_append] at hx; omega)
 ·have c0 : (r : Int) < 33 := by omega
  go_enter Tryd.func56, Tryd.ntmps56
  go_wp2_with (first | (go_at_call 69; refine (bk_crFar r _ h h1).mono ?_; rintro e1 w1 ⟨rfl, hd1⟩) | (go_at_call 70; refine (bk_fi70 r Z16 _ (hT2 _ hd1)).mono ?_; rintro e2 w2 ⟨rfl, hd2⟩; rw [hS]))
  all_goals first
   | (refine bodyPost_ret (results_tmp rfl _ _ _) rfl ?_; exact ⟨by rw [← hS]; rfl, hd1.trans (hd2.mono hd1.size)⟩)
   | (exfalso; rename_i hx; simp [ByteArray.size_append] at hx; omega)
def bk_oneT (r : Nat) : List UInt8 := if r = 10 then [92, 110] else if r = 9 then [92, 116] else if r = 13 then [92, 114] else if r = 91 ∨ r = 93 ∨ r = 45 ∨ r = 94 ∨ r = 92 ∨ r = 34 then [92, r.toUInt8] else if 33 ≤ r ∧ r ≤ 126 then [r.toUInt8] else [92, 117, 123] ++ bk_hexD r ++ [125]
def bk_oneB (a : Int) : Option ByteArray := if 0 ≤ a ∧ a ≤ 1114111 then some ⟨(bk_oneT a.toNat).toArray⟩ else none
theorem bk_near_one : ∀ r : Nat, r < 128 → (33 ≤ r ∧ r ≤ 126 ∨ r = 9 ∨ r = 10 ∨ r = 13) → runes_one.f (r : Int) = some ⟨(bk_oneT r).toArray⟩ := by decide +kernel
theorem bk_oneB_calls (a : Int) (r : ByteArray) (w : World) (h : bk_oneB a = some r) (hT : w.cell? ⟨3, 15, none⟩ = some (.int .u8 4)) : Calls Tryd.prog 56 #[.int .i32 a] w fun e w' => e = .returned (.string r) ∧ Below w.heap.size w w' := by
 unfold bk_oneB at h
 by_cases c : 0 ≤ a ∧ a ≤ 1114111
 ·rw [if_pos c] at h
  obtain rfl := Option.some.inj h
  obtain ⟨n, rfl⟩ : ∃ n : Nat, a = n := ⟨a.toNat, Z16⟩
  by_cases c2 : bk_far n
  ·have c3 := c2
   unfold bk_far at c2
   have e : bk_oneT n = [92, 117, 123] ++ bk_hexD n ++ [125] := by
    unfold bk_oneT
    rw [if_neg Z16, if_neg Z16, if_neg Z16, if_neg Z16, if_neg Z16]
   rw [Int.toNat_natCast, e]
   exact bk_oneFar n c3 Z16 w hT
  ·unfold bk_far at c2
   rw [Int.toNat_natCast]
   refine (runes_one.calls (bk_near_one n Z16 Z16)).mono ?_
   rintro e w' ⟨rfl, hd⟩
   exact ⟨rfl, hd.below⟩
 ·rw [if_neg c] at h; exact absurd h Z21
def bk_tl : List S36 → List UInt8 → Option (List UInt8)
 | [], s => some s
 | t :: l, s => if s.length ≤ 1000000000 then (bk_oneB t.f0).bind fun a => (if a.size ≤ 1000 then (if t.f1 = t.f0 then bk_tl l (s ++ a.data.toList) else (bk_oneB t.f1).bind fun b => (if b.size ≤ 1000 then bk_tl l (s ++ a.data.toList ++ (⟨#[45]⟩ ++ b).data.toList) else none)) else none) else none
set_option maxHeartbeats 8000000 in
set_option maxRecDepth 100000 in
theorem bk_text_calls (k : Nat) (A0 : Option Addr) (c0 : Nat) (l0 : List S36) (S : List UInt8) (w : World) (hr0 : Kd.C k36 w A0 l0.length l0) (hc0 : l0.length ≤ c0) (Q1 : runes_Check.f k l0 = some 0) (L1 : bk_tl l0 [91] = some S) (c2 : S.length ≤ 1000000000) (hT : w.cell? ⟨3, 15, none⟩ = some (.int .u8 4)) :
  Calls Tryd.prog 34 #[.slice A0 l0.length c0] w fun e w' => e = .returned (.tuple #[.string ⟨(S ++ [93]).toArray⟩, .int .i64 0]) ∧ Below w.heap.size w w' := by
 have hg3 : 3 < w.heap.size := by
  rcases Nat.lt_or_ge 3 w.heap.size with h1 | h1
  ·exact h1
  ·simp [World.cell?, Array.getElem?_eq_none h1] at hT
 have hT2 : ∀ w1, Below w.heap.size w w1 → w1.cell? ⟨3, 15, none⟩ = some (.int .u8 4) := fun w1 hb => (hb.cell (p := ⟨3, 15, none⟩) hg3).trans hT
 have hT2 := fun w1 hb => (Aside0.mk hT2).out w1 hb
 have HR0 := Aside0.mk hr0
 have HC0 := Aside0.mk hc0
 clear hr0 hc0
 replace Q1 := Aside0.mk Q1
 replace L1 := Aside0.mk L1
 replace c2 := Aside0.mk c2
 go_enter Tryd.func34, Tryd.ntmps34
 go_upto_region 5 with (go_at_call 17; refine (runes_Check.calls k _ _ _ _ _ HR0.out HC0.out Q1.out).mono ?_; rintro e W1 ⟨rfl, hb⟩; have B1 := Aside0.mk hb; clear hb)
 have hg : w.heap.size ≤ W1.heap.size := B1.out.size
 have I2 := Aside0.mk (runes_Text.fresh hg)
 have B2 := Aside0.mk (B1.out.alloc hg (.cells #[.pointer none, .slice none 0 0] 78 (0, 0)))
 generalize W1.alloc (.cells #[.pointer none, .slice none 0 0] 78 (0, 0)) = W2 at I2 B2 ⊢
 generalize hgg : W1.heap.size = g at I2 hg ⊢
 clear hgg B1
 go_wp2_with (go_at_call 55; refine (Tryd.Builder_WriteString w.heap.size g [] ⟨#[91]⟩ W2 I2.out (by simp [ByteArray.size]) B2.out.size).mono ?_; rintro e W3 ⟨rfl, hi, hb, -⟩; have I3 := Aside0.mk (show Lib.IsBuilderF 78 5 w.heap.size g (Lib.byteCells [91]) W3 from .inr hi); have B3 := Aside0.mk (B2.out.trans hb); clear hi hb)
 go_loopw [16] (fun i wr => ∃ (x : Int) (s : List UInt8), 0 ≤ x ∧ x ≤ (l0.length : Int) ∧ i = .int .i64 x ∧ Aside0 (Lib.IsBuilderF 78 5 w.heap.size g (Lib.byteCells s) wr) ∧ Aside0 (Below w.heap.size w wr) ∧ Aside0 (bk_tl (l0.drop x.toNat) s = some S)) (fun i _ => l0.length - (intOf i).toNat)
 case atStart => exact ⟨0, _, Z16, Z16, rfl, I3, B3, L1⟩
 case round =>
  clear I2 B2 I3 B3 L1
  obtain ⟨x, s, hx0, hx1, rfl, HI, HB, HL⟩ := hrel
  by_cases hlt : x < (l0.length : Int)
  ·obtain ⟨ad, e0, h0, h1⟩ := at_T36 (Kd.C_below HR0.out HB.out) x hx0 hlt
   obtain rfl := e0
   have hd : l0.drop x.toNat = rd_T36 l0 x :: l0.drop (x + 1).toNat := by
    have hl : x.toNat < l0.length := by omega
    rw [List.drop_eq_getElem_cons hl, show (x + 1).toNat = x.toNat + 1 from by omega]
    congr 1
    unfold rd_T36
    rw [List.getD_eq_getElem?_getD, List.getElem?_eq_getElem hl]
    rfl
   have hl := HL.out
   clear HL
   rw [hd] at hl
   clear hd
   obtain ⟨⟨t0, t1⟩, ht⟩ : ∃ t, rd_T36 l0 x = t := ⟨_, rfl⟩
   rw [ht] at hl h0 h1
   clear ht
   unfold bk_tl at hl
   dsimp only at hl h0 h1
   have hw : wrap64 (x + 1) = x + 1 := by unfold wrap64; have := HR0.out.2.1; omega
   have hw := Aside0.mk hw
   have hlb : decide (x < (l0.length : Int)) = true := decide_eq_true hlt
   by_cases d1 : s.length ≤ 1000000000
   rotate_left
   ·rw [if_neg d1] at hl; exact absurd hl Z21
   rw [if_pos d1] at hl
   obtain ⟨a, E1, hl⟩ := Option.bind_eq_some_iff.mp hl
   replace E1 := Aside0.mk E1
   by_cases d2 : a.size ≤ 1000
   rotate_left
   ·rw [if_neg d2] at hl; exact absurd hl Z21
   rw [if_pos d2] at hl
   have hl := Aside0.mk hl
   have d1 := Aside0.mk d1
   have d2 := Aside0.mk d2
   have hbx := (Below.refl wr.heap.size wr).alloc (Nat.le_refl _) (.cells #[.int .i32 t0, .int .i32 t1] 36)
   have HIX := Aside0.mk (runes_Text.kept HI.out hbx)
   have HBX := Aside0.mk (HB.out.trans (hbx.mono HB.out.size))
   have hgq : g < wr.heap.size := HI.out.elim (·.lt) (·.lt)
   clear hbx HI
   have BT := Aside0.mk (blk_new wr (.cells #[.int .i32 t0, .int .i32 t1] 36))
   go_upto_region 9 with (fail)
   generalize wr.alloc (.cells #[.int .i32 t0, .int .i32 t1] 36) = wx at HIX HBX BT ⊢
   generalize hq : wr.heap.size = q at BT hgq ⊢
   have ct0 := (blk_cell BT.out 0).trans rfl
   have ct1 := (blk_cell BT.out 1).trans rfl
   clear h0 h1
   have OK4 : ∀ {w1 w2 : World}, w1.heap[q]? = some (.cells #[.int .i32 t0, .int .i32 t1] 36 (0, 0)) → Lib.OthersKept 5 (some g) w1 w2 → w2.heap[q]? = some (.cells #[.int .i32 t0, .int .i32 t1] 36 (0, 0)) := fun h1 h2 => h2 q _ h1 (by simp; omega) (by rintro c fz h; simp at h)
   go_upto_region 10 with (first | (go_at_call 56; refine (bk_oneB_calls _ _ wx E1.out (hT2 _ HBX.out)).mono ?_; rintro e wy ⟨rfl, hbq⟩; have HIY := Aside0.mk (runes_Text.kept HIX.out hbq); have HBY := Aside0.mk (HBX.out.trans (hbq.mono HBX.out.size)); have BTY := Aside0.mk (blk_below BT.out hbq); clear hbq) | (go_at_call 55; refine (Tryd.Builder_WriteString w.heap.size g _ a wy HIY.out (by rw [Lib.byteCells_length]; have := d1.out; have := d2.out; omega) HBY.out.size).mono ?_; rintro e W4 ⟨rfl, hi, hb, hk⟩; have I4 := Aside0.mk (show Lib.IsBuilderF 78 5 w.heap.size g (Lib.byteCells (s ++ a.data.toList)) W4 from .inr (by rw [← runes_Text.bcat]; exact hi)); have B4 := Aside0.mk (HBY.out.trans hb); have BT4 := Aside0.mk (OK4 BTY.out hk); clear hi hb hk))
   have cu0 := (blk_cell BT4.out 0).trans rfl
   have cu1 := (blk_cell BT4.out 1).trans rfl
   clear HIX HBX BT ct0 ct1 HIY HBY BTY
   by_cases d3 : t1 = t0
   ·have hl' := hl.out
    rw [if_pos d3] at hl'
    have hl := Aside0.mk hl'
    clear hl'
    have d3b : (t1 != t0) = false := bne_eq_false_iff_eq.mpr d3
    clear d3
    go_wp2
    go_roundw
    case rel => exact ⟨x + 1, _, Z16, Z16, by rw [hw.out], I4, B4, hl⟩
    case measure => simp [intOf]; omega
   ·have hl' := hl.out
    rw [if_neg d3] at hl'
    obtain ⟨b, E2, hl'⟩ := Option.bind_eq_some_iff.mp hl'
    replace E2 := Aside0.mk E2
    by_cases d4 : b.size ≤ 1000
    rotate_left
    ·rw [if_neg d4] at hl'; exact absurd hl' Z21
    rw [if_pos d4] at hl'
    have hl := Aside0.mk hl'
    clear hl'
    have d3b : (t1 != t0) = true := bne_iff_ne.mpr d3
    clear d3
    go_wp2_with (first | (go_at_call 56; refine (bk_oneB_calls _ _ W4 E2.out (hT2 _ B4.out)).mono ?_; rintro e wz ⟨rfl, hbq⟩; have I4z := Aside0.mk (runes_Text.kept I4.out hbq); have B4z := Aside0.mk (B4.out.trans (hbq.mono B4.out.size)); clear hbq) | (go_at_call 55; refine Calls.mono (Tryd.Builder_WriteString w.heap.size g _ _ wz I4z.out ?hz B4z.out.size) ?_; (case hz => rw [Lib.byteCells_length, List.length_append, ByteArray.size_append]; have e1 : a.data.toList.length = a.size := rfl; have e2 : (⟨#[45]⟩ : ByteArray).size = 1 := rfl; have := d1.out; have := d2.out; omega); rintro e W5 ⟨rfl, hi, hb, -⟩; have I5 := Aside0.mk (runes_Text.step hi); have B5 := Aside0.mk (B4z.out.trans hb); clear hi hb))
    go_roundw
    case rel => exact ⟨x + 1, _, Z16, Z16, by rw [hw.out], I5, B5, hl⟩
    case measure => simp [intOf]; omega
  ·have hlb : decide (x < (l0.length : Int)) = false := decide_eq_false hlt
   have hx : x = l0.length := by omega
   have hl := HL.out
   rw [List.drop_eq_nil_of_le Z16] at hl
   obtain rfl := Option.some.inj hl
   clear hl HL
   go_wp2_with (first | (go_at_call 55; refine (Tryd.Builder_WriteString w.heap.size g _ ⟨#[93]⟩ wr HI.out (by rw [Lib.byteCells_length]; have := c2.out; simp [ByteArray.size]; omega) HB.out.size).mono ?_; rintro e W3 ⟨rfl, hi, hb, -⟩; have I3 := Aside0.mk (show Lib.IsBuilderF 78 5 w.heap.size g (Lib.byteCells (s ++ (⟨#[93]⟩ : ByteArray).data.toList)) W3 from .inr (by rw [← runes_Text.bcat]; exact hi)); have B3 := Aside0.mk (HB.out.trans hb); clear hi hb) | (go_at_call 57; refine (Tryd.Builder_String_any w.heap.size g _ W3 I3.out B3.out.size).mono ?_; rintro e W4 ⟨rfl, hb⟩; have B4 := Aside0.mk (B3.out.trans hb); clear hb))
   go_ret2
   exact ⟨rfl, B4.out⟩
set_option maxRecDepth 100000 in
set_option maxHeartbeats 4000000 in
theorem bk_opened (k : Nat) (s : ByteArray) (l : List S36) (n f2 f3 : Int) (h1 : 1 ≤ (s.size : Int)) (p0 : strings_HasPrefix.f s ⟨#[91]⟩ = some true) (p1 : strings_HasPrefix.f (s.extract 1 s.size) ⟨#[94]⟩ = some false) (hr : runes_reader_ranges.f k s 1 0 0 = some (l, s, n, f2, f3)) (w : World) :
  Calls Tryd.prog 58 #[.string s, .int .i64 0] w fun e w' => ∃ (g : Nat) (v : Value), e = .returned (.tuple #[.pointer (some ⟨g, 0, none⟩), v, .bool false]) ∧ Kd.R k36 36 w' w.heap.size (fun _ => True) v l ∧ IsS89 w w' g s n f2 f3 ∧ Below w.heap.size w w' := by
 have P0 := Aside0.mk p0
 have P1 := Aside0.mk p1
 have HR := Aside0.mk hr
 clear p0 p1 hr
 have h0 : (0 : Int) ≤ (s.size : Int) := by omega
 go_enter Tryd.func58, Tryd.ntmps58
 have I1 := Aside0.mk (IsS89.new w w s 0 0 0 (Below.refl _ _))
 have B1 := Aside0.mk (below_alloc (Below.refl w.heap.size w) (.cells #[.string s, .int .i64 0, .int .i64 0, .int .i64 0] 89))
 go_upto_region 2 with (fail)
 generalize w.alloc (.cells #[.string s, .int .i64 0, .int .i64 0, .int .i64 0] 89) = w1 at I1 B1 ⊢
 have hx1 := cellS89_1 I1.out.1
 have hf1 := blk_frozen I1.out.1 1
 have I2 := Aside0.mk (I1.out.set_1 1)
 have B2 := Aside0.mk (below_set (j := 1) (v := Value.int IntKind.i64 1) B1.out (Nat.le_refl _))
 go_wp2_with (first | (go_at_call 71; with_reducible refine (strings_HasPrefix.calls P0.out).mono ?_; rintro e2 w2 ⟨rfl, ⟨nd, rfl⟩⟩) | (go_at_call 71; with_reducible refine (strings_HasPrefix.calls P1.out).mono ?_; rintro e2 w2 ⟨rfl, ⟨ne, rfl⟩⟩) | (go_at_call 72; refine (runes_reader_ranges.calls k w.heap.size s 1 0 0 l s n f2 f3 w _ ?hI ?hB HR.out).mono ?_; (case hI => exact ((I1.out.drewN nd).set_1 1).drewN ne); (case hB => exact pw_below_drewN (below_set (pw_below_drewN B1.out nd) (Nat.le_refl _)) ne); rintro e3 w3 ⟨v, rfl, hR3, hI3, hB3, hK3⟩))
 go_ret3
 refine ⟨w.heap.size, v, rfl, ?_, hI3, hB3⟩
 exact Kd.R_lower hR3 (pw_below_drewN (below_set (pw_below_drewN B1.out nd) (Nat.le_refl _)) ne).size
set_option maxRecDepth 100000 in
set_option maxHeartbeats 4000000 in
theorem bk_parse (k : Nat) (s : ByteArray) (l out : List S36) (h1 : 1 ≤ (s.size : Int)) (p0 : strings_HasPrefix.f s ⟨#[91]⟩ = some true) (p1 : strings_HasPrefix.f (s.extract 1 s.size) ⟨#[94]⟩ = some false) (hr : runes_reader_ranges.f k s 1 0 0 = some (l, s, (s.size : Int), 0, 0)) (hm : runes_meant.f k l false = some (out, 0)) (w : World) :
  Calls Tryd.prog 35 #[.string s] w fun e w' => ∃ (v : Value), e = .returned (.tuple #[v, .agg #[.int .i64 0, .int .i64 0]]) ∧ Kd.R k36 36 w' w.heap.size (fun _ => True) v out ∧ Below w.heap.size w w' := by
 have hu50 := Tryd.underlying50
 have HM := Aside0.mk hm
 have HO := Aside0.mk (bk_opened k s l s.size 0 0 h1 p0 p1 hr)
 clear p0 p1 hr hm
 go_enter Tryd.func35, Tryd.ntmps35
 have B0 := Aside0.mk (below_alloc (Below.refl w.heap.size w) (.cells #[.int .i64 0, .int .i64 0] 50))
 have K0 := Aside0.mk (blk_new w (.cells #[.int .i64 0, .int .i64 0] 50))
 go_upto_region 1 with (fail)
 generalize w.alloc (.cells #[.int .i64 0, .int .i64 0] 50) = w1 at B0 K0 ⊢
 have hz1 := Aside0.mk (blk_lt K0.out)
 go_upto_region 2 with (go_at_call 58; refine (HO.out _).mono ?_; rintro e2 w2 ⟨g, v, rfl, hR2, hI2, hB2⟩)
 have hx1 := cellS89_1 hI2.1
 have hx2 := cellS89_2 hI2.1
 have hx3 := cellS89_3 hI2.1
 have K2 := Aside0.mk (blk_below K0.out hB2)
 have B2 := Aside0.mk (below_weaken B0.out B0.out.size hB2)
 have hR := Aside0.mk (Kd.R_lower hR2 (Nat.le_of_lt hz1.out))
 have I2 := Aside0.mk hI2
 clear hR2 hB2 hI2
 obtain ⟨A, c, rfl⟩ := Kd.R_slice hR.out
 have hlt : decide ((s.size : Int) < (s.size : Int)) = false := decide_eq_false Z16
 go_wp2_with (go_at_call 60; refine (runes_meant.calls k A c l false out 0 _ (Kd.R_reads' hR.out).2.2 (Kd.R_reads' hR.out).2.1 HM.out).mono ?_; rintro e3 w3 ⟨v3, rfl, hR3, hB3⟩; have K3 := Aside0.mk (blk_below K2.out hB3); have c30 := (blk_cell K3.out 0).trans rfl; have c31 := (blk_cell K3.out 1).trans rfl; have f30 := blk_frozen K3.out 0; have f31 := blk_frozen K3.out 1)
 have B3 := Aside0.mk (below_weaken B2.out B2.out.size hB3)
 have hR4 := Aside0.mk (Kd.R_lower hR3 B2.out.size)
 clear hR3 hB3
 have hne := IsS89.ne_blk I2.out K2.out Z15
 have hE : ∀ q, q ∈ 36 :: k36.E → q ≠ 50 := by decide
 exact bodyPost_ret (v := .tuple #[v3, .agg #[.int .i64 0, .int .i64 0]]) (by simp [results, Tryd.results35, go_sem, c30, c31]) rfl ⟨_, rfl, Kd.R_set (Kd.R_set hR4.out K3.out hE 0 _) (blk_set K3.out 0 _) hE 1 _, ((B3.out.setCell (Nat.le_refl _) _).setCell (Nat.le_refl _) _)⟩
set_option maxRecDepth 100000 in
set_option maxHeartbeats 4000000 in
theorem bk_from0 (k : Nat) (s : ByteArray) (l out : List S36) (n : Int) (h1 : 1 ≤ (s.size : Int)) (p0 : strings_HasPrefix.f s ⟨#[91]⟩ = some true) (p1 : strings_HasPrefix.f (s.extract 1 s.size) ⟨#[94]⟩ = some false) (hr : runes_reader_ranges.f k s 1 0 0 = some (l, s, n, 0, 0)) (hm : runes_meant.f k l false = some (out, 0)) (w : World) :
  Calls Tryd.prog 36 #[.string s, .int .i64 0] w fun e w' => ∃ (v : Value), e = .returned (.tuple #[v, .int .i64 n, .agg #[.int .i64 0, .int .i64 0]]) ∧ Kd.R k36 36 w' w.heap.size (fun _ => True) v out ∧ Below w.heap.size w w' := by
 have hu50 := Tryd.underlying50
 have HM := Aside0.mk hm
 have HO := Aside0.mk (bk_opened k s l n 0 0 h1 p0 p1 hr)
 clear p0 p1 hr hm
 have hz0 : decide ((s.size : Int) < 0) = false := decide_eq_false Z16
 go_enter Tryd.func36, Tryd.ntmps36
 have B0 := Aside0.mk (below_alloc (Below.refl w.heap.size w) (.cells #[.int .i64 0, .int .i64 0] 50))
 have K0 := Aside0.mk (blk_new w (.cells #[.int .i64 0, .int .i64 0] 50))
 go_upto_region 1 with (fail)
 generalize w.alloc (.cells #[.int .i64 0, .int .i64 0] 50) = w1 at B0 K0 ⊢
 have hz1 := Aside0.mk (blk_lt K0.out)
 go_upto_region 4 with (go_at_call 58; refine (HO.out _).mono ?_; rintro e2 w2 ⟨g, v, rfl, hR2, hI2, hB2⟩)
 have hx1 := cellS89_1 hI2.1
 have hx2 := cellS89_2 hI2.1
 have hx3 := cellS89_3 hI2.1
 have K2 := Aside0.mk (blk_below K0.out hB2)
 have B2 := Aside0.mk (below_weaken B0.out B0.out.size hB2)
 have hR := Aside0.mk (Kd.R_lower hR2 (Nat.le_of_lt hz1.out))
 have I2 := Aside0.mk hI2
 clear hR2 hB2 hI2
 obtain ⟨A, c, rfl⟩ := Kd.R_slice hR.out
 go_wp2_with (go_at_call 60; refine (runes_meant.calls k A c l false out 0 _ (Kd.R_reads' hR.out).2.2 (Kd.R_reads' hR.out).2.1 HM.out).mono ?_; rintro e3 w3 ⟨v3, rfl, hR3, hB3⟩; have K3 := Aside0.mk (blk_below K2.out hB3); have I3 := Aside0.mk (I2.out.below hB3); have B3 := Aside0.mk (below_weaken B2.out B2.out.size hB3); have hR4 := Aside0.mk (Kd.R_lower hR3 B2.out.size); clear hR3 hB3 hx1 hx2 hx3)
 have hne := IsS89.ne_blk I3.out K3.out Z15
 have hE : ∀ q, q ∈ 36 :: k36.E → q ≠ 50 := by decide
 have c30 := (blk_cell K3.out 0).trans rfl
 have c31 := (blk_cell K3.out 1).trans rfl
 have f30 := blk_frozen K3.out 0
 have f31 := blk_frozen K3.out 1
 have hx1 := cellS89_1 I3.out.1
 have hne' := hne.symm
 go_region_held3 (fun w' => w'.cell? ⟨g, 1, none⟩ = some (.int .i64 n)) (go_keep) (fail)
 go_wp2
 exact bodyPost_ret (v := .tuple #[v3, .int .i64 n, .agg #[.int .i64 0, .int .i64 0]]) (by simp [results, Tryd.results36, go_sem, c30, c31]) rfl ⟨_, rfl, Kd.R_drew (Kd.R_set (Kd.R_set hR4.out K3.out hE 0 _) (blk_set K3.out 0 _) hE 1 _), ((B3.out.setCell (Nat.le_refl _) _).setCell (Nat.le_refl _) _).drew⟩
set_option maxRecDepth 100000 in
set_option maxHeartbeats 8000000 in
theorem bk_back0 (k : Nat) (A0 : Option Addr) (c0 : Nat) (l0 : List S36) (b : ByteArray) (e : Int) (w : World) (hr0 : Kd.C k36 w A0 l0.length l0) (hc0 : l0.length ≤ c0) (he : e ≠ 0) (Q1 : runes_Check.f k l0 = some e) (ha : quoinlaw02_awake.f k = some true) :
  Calls Tryd.prog 9 #[.slice A0 l0.length c0, .string b] w fun e w' => e = .returned (.bool true) ∧ Below w.heap.size w w' := by
 have q : runes_Text.f k l0 = some (⟨#[]⟩, e) := by unfold runes_Text.f; rw [Q1]; exact if_neg he
 have q := Aside0.mk q
 have ha := Aside0.mk ha
 have HR0 := Aside0.mk hr0
 have HC0 := Aside0.mk hc0
 have d1 : (e != 0) = true := bne_iff_ne.2 he
 clear hr0 hc0 he Q1
 go_enter Tryd.func9, Tryd.ntmps9
 go_wp2_with (first | (go_at_call 34; with_reducible refine (runes_Text.calls k _ _ _ _ _ w HR0.out HC0.out q.out).mono ?_; rintro e w2 ⟨rfl, hb2⟩) | (go_at_call 16; with_reducible refine (quoinlaw02_awake.calls ha.out).mono ?_; rintro e w3 ⟨rfl, hb3⟩))
 go_ret
 exact ⟨rfl, hb2.trans (hb3.mono hb2.size)⟩
set_option maxRecDepth 100000 in
set_option maxHeartbeats 8000000 in
theorem bk_back1 (k : Nat) (A0 : Option Addr) (c0 : Nat) (l0 : List S36) (b T : ByteArray) (S : List UInt8) (w : World) (hr0 : Kd.C k36 w A0 l0.length l0) (hc0 : l0.length ≤ c0) (Q1 : runes_Check.f k l0 = some 0) (L1 : bk_tl l0 [91] = some S) (c2 : S.length ≤ 1000000000) (hT : w.cell? ⟨3, 15, none⟩ = some (.int .u8 4)) (eT : (⟨(S ++ [93]).toArray⟩ : ByteArray) = T)
  (g1 : 1 ≤ (T.size : Int)) (g2 : (b.size : Int) ≤ 1125899906842624)
  (p0 : strings_HasPrefix.f T ⟨#[91]⟩ = some true) (p1 : strings_HasPrefix.f (T.extract 1 T.size) ⟨#[94]⟩ = some false) (hr : runes_reader_ranges.f k T 1 0 0 = some (l0, T, (T.size : Int), 0, 0))
  (p2 : strings_HasPrefix.f (T ++ b) ⟨#[91]⟩ = some true) (p3 : strings_HasPrefix.f ((T ++ b).extract 1 (T ++ b).size) ⟨#[94]⟩ = some false) (hr2 : runes_reader_ranges.f k (T ++ b) 1 0 0 = some (l0, T ++ b, (T.size : Int), 0, 0))
  (hm : runes_meant.f k l0 false = some (l0, 0)) (hs : quoinref02_Same.f l0 l0 = some true) (ha : quoinlaw02_awake.f k = some true) :
  Calls Tryd.prog 9 #[.slice A0 l0.length c0, .string b] w fun e w' => e = .returned (.bool true) ∧ Below w.heap.size w w' := by
 have hu50 := Tryd.underlying50
 have gT : (T.size : Int) ≤ 1000000001 := by rw [← eT]; show ((S ++ [93]).toArray.size : Int) ≤ _; simp; omega
 have g3 : 1 ≤ ((T ++ b).size : Int) := by rw [ByteArray.size_append]; omega
 have P := Aside0.mk (fun w => bk_parse k T l0 l0 g1 p0 p1 hr hm w)
 have F := Aside0.mk (fun w => bk_from0 k (T ++ b) l0 l0 T.size g3 p2 p3 hr2 hm w)
 have X := Aside0.mk (bk_text_calls k A0 c0 l0 S w hr0 hc0 Q1 L1 c2 hT)
 rw [eT] at X
 have hs := Aside0.mk hs
 have ha := Aside0.mk ha
 have HR0 := Aside0.mk hr0
 have HC0 := Aside0.mk hc0
 clear hr0 hc0 Q1 L1 c2 hT eT p0 p1 p2 p3 hr hr2 hm g3
 go_enter Tryd.func9, Tryd.ntmps9
 go_upto_region 5 with (first | (go_at_call 34; with_reducible refine X.out.mono ?_; rintro e w2 ⟨rfl, hb2⟩) | (go_at_call 35; with_reducible refine (P.out _).mono ?_; rintro e w3 ⟨v3, rfl, hR3, hb3⟩))
 obtain ⟨A3, c3, rfl⟩ := Kd.R_slice hR3
 have K3 := Aside0.mk (blk_new w3 (.cells #[.int .i64 0, .int .i64 0] 50))
 have B3 := Aside0.mk (below_alloc (below_step hb2 hb3) (.cells #[.int .i64 0, .int .i64 0] 50))
 have R3 := Aside0.mk (Kd.R_lower (Kd.R_alloc hR3 (.cells #[.int .i64 0, .int .i64 0] 50)) hb2.size)
 clear hb2 hb3 hR3
 generalize w3.alloc (.cells #[.int .i64 0, .int .i64 0] 50) = w4 at K3 B3 R3 ⊢
 generalize w3.heap.size = q at K3 ⊢
 go_upto_region 6 with (go_at_call 36; with_reducible refine (F.out _).mono ?_; rintro e w5 ⟨v5, rfl, hR5, hb5⟩)
 obtain ⟨A5, c5, rfl⟩ := Kd.R_slice hR5
 have K5 := Aside0.mk (blk_new w5 (.cells #[.int .i64 0, .int .i64 0] 50))
 have K4 := Aside0.mk (blk_alloc (blk_below K3.out hb5) (.cells #[.int .i64 0, .int .i64 0] 50))
 have B5 := Aside0.mk (below_alloc (below_step B3.out hb5) (.cells #[.int .i64 0, .int .i64 0] 50))
 have C3 := Aside0.mk (Kd.C_below (Kd.C_below (Kd.R_reads' R3.out).2.2 hb5) (below_alloc (Below.refl _ _) (.cells #[.int .i64 0, .int .i64 0] 50)))
 have C5 := Aside0.mk (Kd.C_below (Kd.R_reads' hR5).2.2 (below_alloc (Below.refl _ _) (.cells #[.int .i64 0, .int .i64 0] 50)))
 have n3 := Aside0.mk (Kd.R_reads' R3.out).2.1
 have n5 := Aside0.mk (Kd.R_reads' hR5).2.1
 clear hb5 hR5 B3 K3 R3
 generalize w5.alloc (.cells #[.int .i64 0, .int .i64 0] 50) = w6 at K4 K5 B5 C3 C5 ⊢
 generalize w5.heap.size = q2 at K5 ⊢
 have c40 := (blk_cell K4.out 0).trans rfl
 have c41 := (blk_cell K4.out 1).trans rfl
 have C0 := Aside0.mk (Kd.C_below HR0.out B5.out)
 have hTT : ((T.size : Int) == (T.size : Int)) = true := beq_self_eq_true _
 go_wp2_with (first | (go_at_call 15; with_reducible refine (quoinref02_Same.calls A3 c3 l0 A0 c0 l0 true w6 C3.out n3.out C0.out HC0.out hs.out).mono ?_; rintro e w7 ⟨rfl, hb7⟩; have K7 := Aside0.mk (blk_below K5.out hb7); have B7 := Aside0.mk (below_step B5.out hb7); have C7 := Aside0.mk (Kd.C_below C5.out hb7); have C8 := Aside0.mk (Kd.C_below C0.out hb7); clear hb7 c40 c41; have c50 := (blk_cell K7.out 0).trans rfl; have c51 := (blk_cell K7.out 1).trans rfl) | (go_at_call 15; with_reducible refine (quoinref02_Same.calls A5 c5 l0 A0 c0 l0 true w7 C7.out n5.out C8.out HC0.out hs.out).mono ?_; rintro e w8 ⟨rfl, hb8⟩; have B8 := Aside0.mk (below_step B7.out hb8); clear hb8) | (go_at_call 16; with_reducible refine (quoinlaw02_awake.calls ha.out).mono ?_; rintro e w9 ⟨rfl, hb9⟩))
 go_ret
 exact ⟨rfl, below_step B8.out hb9⟩
def quoinlaw02_RunesBack.Facts (k : Nat) (l0 : List S36) (a1 : ByteArray) : Prop := quoinlaw02_awake.f k = some true ∧ (a1.size : Int) ≤ 1125899906842624 ∧ ∃ e, runes_Check.f k l0 = some e ∧ (e ≠ 0 ∨ e = 0 ∧ ∃ (S : List UInt8) (T : ByteArray), bk_tl l0 [91] = some S ∧ S.length ≤ 1000000000 ∧ (⟨(S ++ [93]).toArray⟩ : ByteArray) = T ∧ 1 ≤ (T.size : Int) ∧ strings_HasPrefix.f T ⟨#[91]⟩ = some true ∧ strings_HasPrefix.f (T.extract 1 T.size) ⟨#[94]⟩ = some false ∧ runes_reader_ranges.f k T 1 0 0 = some (l0, T, (T.size : Int), 0, 0) ∧ strings_HasPrefix.f (T ++ a1) ⟨#[91]⟩ = some true ∧ strings_HasPrefix.f ((T ++ a1).extract 1 (T ++ a1).size) ⟨#[94]⟩ = some false ∧ runes_reader_ranges.f k (T ++ a1) 1 0 0 = some (l0, T ++ a1, (T.size : Int), 0, 0) ∧ runes_meant.f k l0 false = some (l0, 0) ∧ quoinref02_Same.f l0 l0 = some true)
open Classical in
noncomputable def quoinlaw02_RunesBack.f (k : Nat) (l0 : List S36) (a1 : ByteArray) : Option Bool := if quoinlaw02_RunesBack.Facts k l0 a1 then some true else none
theorem quoinlaw02_RunesBack.calls (k : Nat) (A0 : Option Addr) (c0 : Nat) (l0 : List S36) (a1 : ByteArray) (r : Bool) (w : World) (hn_ : w.cell? ⟨3, 15, none⟩ = some (.int .u8 4)) (hr0 : Kd.C k36 w A0 l0.length l0) (hc0 : l0.length ≤ c0) (h : quoinlaw02_RunesBack.f k l0 a1 = some r) :
  Calls Tryd.prog 9 #[.slice A0 l0.length c0, .string a1] w fun e w' => e = .returned (.bool r) ∧ Below w.heap.size w w' := by
 unfold quoinlaw02_RunesBack.f at h
 by_cases c : quoinlaw02_RunesBack.Facts k l0 a1
 ·rw [if_pos c] at h
  obtain rfl := Option.some.inj h
  obtain ⟨ha, h2, e, b1, he | ⟨rfl, S, T, q1, q2, q3, q4, q5, q6, q7, q8, q9, q10, q11, q12⟩⟩ := c
  ·exact bk_back0 k A0 c0 l0 a1 e w hr0 hc0 he b1 ha
  ·exact bk_back1 k A0 c0 l0 a1 T S w hr0 hc0 b1 q1 q2 hn_ q3 q4 h2 q5 q6 q7 q8 q9 q10 q11 q12 ha
 ·rw [if_neg c] at h
  exact absurd h Z21
def quoinlaw02_RunesBack.Pure : Prop := ∀ (l0 : List (S36)) (a1 : ByteArray), l0.length ≤ 9223372036854775807 → l0.length * 8 ≤ 140737488351232 → (∀ x ∈ l0, (Lit.int .i32 x.f0).wf = true ∧ (Lit.int .i32 x.f1).wf = true) → a1.size ≤ 140737488351232 → ∃ k, quoinlaw02_RunesBack.f k l0 a1 = some true
theorem quoinlaw02_RunesBack.walk (P : quoinlaw02_RunesBack.Pure) (A0 : Option Addr) (c0 : Nat) (l0 : List (S36)) (a1 : ByteArray) (w : World) (hr0 : Kd.C k36 w A0 l0.length l0) (hc0 : l0.length ≤ c0) (w0_0 : l0.length ≤ 9223372036854775807) (w0_1 : l0.length * 8 ≤ 140737488351232) (w0_2 : (∀ x ∈ l0, (Lit.int .i32 x.f0).wf = true ∧ (Lit.int .i32 x.f1).wf = true)) (w1_0 : a1.size ≤ 140737488351232) (hn_ : w.cell? ⟨3, 15, none⟩ = some (.int .u8 4)) :
  Calls Tryd.prog 9 #[.slice A0 l0.length c0, .string a1] w fun e w' => e = .returned (.bool true) ∧ Below w.heap.size w w' := by
 obtain ⟨k, h⟩ := P l0 a1 w0_0 w0_1 w0_2 w1_0
 refine (quoinlaw02_RunesBack.calls k _ _ l0 a1 true w hn_ hr0 hc0 h).mono ?_
 rintro e w' ⟨rfl, hd⟩
 exact ⟨rfl, hd⟩
end Go.Proofs.YtfnkboilepgmoaaDoor.R
