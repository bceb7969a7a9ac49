import Derived.Test.YtfnkboilepgmoaaDoorKPre
import Derived.Test.YtfnkboilepgmoaaDoorKax1
import Derived.Test.YtfnkboilepgmoaaDoorKax2
namespace Go.Proofs.YtfnkboilepgmoaaDoor.R
open Go.RowKit Go.Proofs.YtfnkboilepgmoaaDoorW.PrintWords Go.Proofs.YtfnkboilepgmoaaDoorW.PrintLast Go.Proofs.YtfnkboilepgmoaaDoorW.PrintMore
attribute [local go_sem] max2_int min2_int max_two min_two max_three min_three max_four min_four
set_option linter.unusedVariables false
set_option linter.unusedSimpArgs false
mutual
def runes_reader_number.j2 : Nat → Int → Int → Int → ByteArray → Int → Int → Int → Option (Int × Bool × ByteArray × Int × Int × Int)
 | 0, _, _, _, _, _, _, _ => none
 | k + 1, x1, x6, x7, x1000, x1001, x1002, x1003 => if x7 = 0 then (runes_reader_number.j3 k x1 x6 true x1000 x1001 x1002 x1003) else (if 0 ≤ x1001 then (if x1001 ≤ (x1000.size : Int) then ((strings_HasPrefix.f (x1000.extract (x1001 : Int).toNat x1000.size) (⟨#[125]⟩ : ByteArray)).bind fun t180 => (runes_reader_number.j3 k x1 x6 (!t180) x1000 x1001 x1002 x1003)) else (none)) else (none))
def runes_reader_number.j3 : Nat → Int → Int → Bool → ByteArray → Int → Int → Int → Option (Int × Bool × ByteArray × Int × Int × Int)
 | 0, _, _, _, _, _, _, _ => none
 | k + 1, x1, x6, x101, x1000, x1001, x1002, x1003 => if x101 = true then ((runes_reader_fail.f x1000 x1001 x1002 x1003 5 x1001).bind fun bt181 => (some (bt181.1, bt181.2.1, bt181.2.2.1, bt181.2.2.2.1, bt181.2.2.2.2.1, bt181.2.2.2.2.2))) else (if x6 > 1114111 then ((runes_reader_fail.f x1000 (wrap64 (x1001 + 1)) x1002 x1003 11 x1).bind fun bt187 => (some (bt187.1, bt187.2.1, bt187.2.2.1, bt187.2.2.2.1, bt187.2.2.2.2.1, bt187.2.2.2.2.2))) else (some (wrap32 (x6), true, x1000, wrap64 (x1001 + 1), x1002, x1003)))
def runes_reader_number.l0 : Nat → Int → Int → Int → ByteArray → Int → Int → Int → Option (Int × Bool × ByteArray × Int × Int × Int)
 | 0, _, _, _, _, _, _, _ => none
 | k + 1, x1, x6, x7, x1000, x1001, x1002, x1003 => if x1001 < (x1000.size : Int) then (runes_reader_number.j1 k x1 x6 x7 (decide (x7 < 6)) x1000 x1001 x1002 x1003) else (runes_reader_number.j1 k x1 x6 x7 false x1000 x1001 x1002 x1003)
def runes_reader_number.j1 : Nat → Int → Int → Int → Bool → ByteArray → Int → Int → Int → Option (Int × Bool × ByteArray × Int × Int × Int)
 | 0, _, _, _, _, _, _, _, _ => none
 | k + 1, x1, x6, x7, x48, x1000, x1001, x1002, x1003 => if x48 = true then (if 0 ≤ x1001 then (if x1001 < (x1000.size : Int) then ((strings_IndexByte.f (⟨#[48, 49, 50, 51, 52, 53, 54, 55, 56, 57, 97, 98, 99, 100, 101, 102]⟩ : ByteArray) (Go.bits .or .u8 (bt x1000 x1001) 32)).bind fun t179 => (if t179 < 0 then (runes_reader_number.j2 k x1 x6 x7 x1000 x1001 x1002 x1003) else (if (bt x1000 x1001) < 48 then (runes_reader_number.j2 k x1 x6 x7 x1000 x1001 x1002 x1003) else (runes_reader_number.l0 k x1 (wrap64 ((wrap64 (16 * x6)) + t179)) (wrap64 (x7 + 1)) x1000 (wrap64 (x1001 + 1)) x1002 x1003)))) else (none)) else (none)) else (runes_reader_number.j2 k x1 x6 x7 x1000 x1001 x1002 x1003)
end
def runes_reader_number.f (k : Nat) (s0_0 : ByteArray) (s0_1 : Int) (s0_2 : Int) (s0_3 : Int) (a1 : Int) : Option (Int × Bool × ByteArray × Int × Int × Int) := if 0 ≤ s0_1 then (if s0_1 ≤ (s0_0.size : Int) then ((strings_HasPrefix.f (s0_0.extract (s0_1 : Int).toNat s0_0.size) (⟨#[123]⟩ : ByteArray)).bind fun t172 => (if t172 = true then (runes_reader_number.l0 k a1 0 0 s0_0 (wrap64 (s0_1 + 1)) s0_2 s0_3) else ((runes_reader_fail.f s0_0 s0_1 s0_2 s0_3 5 s0_1).bind fun bt173 => (some (bt173.1, bt173.2.1, bt173.2.2.1, bt173.2.2.2.1, bt173.2.2.2.2.1, bt173.2.2.2.2.2))))) else (none)) else (none)
set_option maxHeartbeats 8000000 in
set_option maxRecDepth 100000 in
theorem runes_reader_number.calls (k : Nat) (g : Nat) (s0_0 : ByteArray) (s0_1 : Int) (s0_2 : Int) (s0_3 : Int) (a1 : Int) (r1 : Int) (r2 : Bool) (r3 : ByteArray) (r4 : Int) (r5 : Int) (r6 : Int) (w0 w : World) (hI : IsS89 w0 w g s0_0 s0_1 s0_2 s0_3) (hB : Below w0.heap.size w0 w) (h : runes_reader_number.f k s0_0 s0_1 s0_2 s0_3 a1 = some (r1, r2, r3, r4, r5, r6)) :
  Calls Tryd.prog 105 #[.pointer (some ⟨g, 0, none⟩), .int .i64 a1] w fun e w' => e = .returned (.tuple #[.int .i32 r1, .bool r2]) ∧ IsS89 w0 w' g r3 r4 r5 r6 ∧ Below w0.heap.size w0 w' ∧ KeepBut w w' g none := by
 have HI0 := Aside0.mk hI
 have HK := Aside0.mk (KeepBut.refl w g none)
 have HL := Aside0.mk hB.size
 clear hI
 have HW0 := Aside0.mk hB.size
 have HB := Aside0.mk hB
 clear hB
 have H : (if 0 ≤ s0_1 then (if s0_1 ≤ (s0_0.size : Int) then ((strings_HasPrefix.f (s0_0.extract (s0_1 : Int).toNat s0_0.size) (⟨#[123]⟩ : ByteArray)).bind fun t172 => (if t172 = true then (runes_reader_number.l0 k a1 0 0 s0_0 (wrap64 (s0_1 + 1)) s0_2 s0_3) else ((runes_reader_fail.f s0_0 s0_1 s0_2 s0_3 5 s0_1).bind fun bt173 => (some (bt173.1, bt173.2.1, bt173.2.2.1, bt173.2.2.2.1, bt173.2.2.2.2.1, bt173.2.2.2.2.2))))) else (none)) else (none)) = some (r1, r2, r3, r4, r5, r6) := h
 clear h
 by_cases c3 : 0 ≤ s0_1
 ·rw [if_pos c3] at H
  have c3b0 := eq_true c3
  have c3b1 := decide_eq_true c3
  clear c3
  by_cases c4 : s0_1 ≤ (s0_0.size : Int)
  ·rw [if_pos c4] at H
   have c4b0 := eq_true c4
   have c4b1 := decide_eq_true c4
   clear c4
   replace H := bS H
   obtain ⟨t172, A5, H⟩ := H
   try dsimp only at H
   by_cases c6 : t172 = true
   ·subst c6
    have H1 : (runes_reader_number.l0 k a1 0 0 s0_0 (wrap64 (s0_1 + 1)) s0_2 s0_3) = some (r1, r2, r3, r4, r5, r6) := by rw [if_pos rfl] at H; exact H
    clear H
    have H := H1
    clear H1
    have HC7 := Aside0.mk H
    clear H
    obtain ⟨HGz8, hgz8⟩ := HI0.out
    have hcz8_0 := cellS89_0 HGz8
    have hcz8_1 := cellS89_1 HGz8
    have hcz8_2 := cellS89_2 HGz8
    have hcz8_3 := cellS89_3 HGz8
    have hfz8_0 := blk_frozen HGz8 0
    have hfz8_1 := blk_frozen HGz8 1
    have hfz8_2 := blk_frozen HGz8 2
    have hfz8_3 := blk_frozen HGz8 3
    clear HGz8 hgz8
    go_enter Tryd.func105, Tryd.ntmps105
    go_upto_block 0 with (first | (go_at_call 71; (with_reducible refine (strings_HasPrefix.calls A5.out).mono ?_); rintro e w' ⟨rfl, ⟨nd, rfl⟩⟩; (try first | exact ⟨rfl, _, World.drewN_drewN _ _ _⟩ | exact ⟨rfl, _, Eq.trans (World.drewN_drewN _ _ _) (congrArg (World.drewN _) (Nat.add_assoc _ _ _))⟩)))
    repeat (go_quiet (first | (go_at_call 71; (with_reducible refine (strings_HasPrefix.calls A5.out).mono ?_); rintro e w' ⟨rfl, ⟨nd, rfl⟩⟩; (try first | exact ⟨rfl, _, World.drewN_drewN _ _ _⟩ | exact ⟨rfl, _, Eq.trans (World.drewN_drewN _ _ _) (congrArg (World.drewN _) (Nat.add_assoc _ _ _))⟩))); go_upto_block 0 with (first | (go_at_call 71; (with_reducible refine (strings_HasPrefix.calls A5.out).mono ?_); rintro e w' ⟨rfl, ⟨nd, rfl⟩⟩; (try first | exact ⟨rfl, _, World.drewN_drewN _ _ _⟩ | exact ⟨rfl, _, Eq.trans (World.drewN_drewN _ _ _) (congrArg (World.drewN _) (Nat.add_assoc _ _ _))⟩))))
    (try simp only [Act.put, List.setIfInBounds_toArray, List.set_cons_zero, List.set_cons_succ])
    go_cut [6, 7] (fun v6 v7 wc => ∃ (kq : Nat) (x6_6 : Int) (x7_6 : Int) (x1001_6 : Int), v6 = .int .i64 x6_6 ∧ v7 = .int .i64 x7_6 ∧ Aside0 (runes_reader_number.j2 kq a1 x6_6 x7_6 s0_0 x1001_6 s0_2 s0_3 = some (r1, r2, r3, r4, r5, r6)) ∧ Aside0 (kq ≤ k) ∧ Aside0 (IsS89 w0 wc g s0_0 x1001_6 s0_2 s0_3) ∧ Aside0 (KeepBut w wc g none) ∧ Aside0 (Below w0.heap.size w0 wc))
    case first =>
     have H := HC7.out
     clear HC7
     have H' := Aside0.mk H
     clear H
     go_wp2
     repeat (go_quiet (fail); try go_wp2)
     go_loopg [6, 7] k (fun kq v6 v7 w' => ∃ (x6_1 : Int) (x7_1 : Int) (x1001_1 : Int), v6 = .int .i64 x6_1 ∧ v7 = .int .i64 x7_1 ∧ Aside0 (runes_reader_number.l0 kq a1 x6_1 x7_1 s0_0 x1001_1 s0_2 s0_3 = some (r1, r2, r3, r4, r5, r6)) ∧ Aside0 (kq ≤ k) ∧ Aside0 (IsS89 w0 w' g s0_0 x1001_1 s0_2 s0_3) ∧ Aside0 (KeepBut w w' g none) ∧ Aside0 (Below w0.heap.size w0 w'))
     case atStart => exact ⟨(0), (0), (wrap64 (s0_1 + 1)), Z7, Z7, H', ⟨Nat.le_refl _⟩, ⟨Z2⟩, ⟨Z0⟩, ⟨Z3⟩⟩
     case round =>
      clear H'
      try clear c1
      try clear p2
      try clear c3
      try clear c3b0
      try clear c3b1
      try clear c4
      try clear c4b0
      try clear c4b1
      try clear c6
      try clear p6
      try clear hcz8_0
      try clear hcz8_1
      try clear hcz8_2
      try clear hcz8_3
      try clear hfz8_0
      try clear hfz8_1
      try clear hfz8_2
      try clear hfz8_3
      obtain ⟨x6_1, x7_1, x1001_1, rfl, rfl, HA, HK1, HI0, HK, HB⟩ := hrel
      cases gk with
      | zero => exact absurd HA.out (by simp [runes_reader_number.l0])
      | succ k1 =>
       have H := HA.out
       clear HA
       simp only [runes_reader_number.l0] at H
       have HC9 := Aside0.mk H
       clear H
       go_upto_region 5 with (fail)
       repeat (go_quiet (fail); go_upto_region 5 with (fail))
       go_cut [48] (fun v48 wc => ∃ (kq : Nat) (x48_8 : Bool), v48 = .bool x48_8 ∧ Aside0 (runes_reader_number.j1 kq a1 x6_1 x7_1 x48_8 s0_0 x1001_1 s0_2 s0_3 = some (r1, r2, r3, r4, r5, r6)) ∧ Aside0 (kq ≤ k1) ∧ Aside0 (IsS89 w0 wc g s0_0 x1001_1 s0_2 s0_3) ∧ Aside0 (KeepBut w wc g none) ∧ Aside0 (Below w0.heap.size w0 wc))
       case first =>
        have H := HC9.out
        clear HC9
        by_cases c10 : x1001_1 < (s0_0.size : Int)
        ·rw [if_pos c10] at H
         have c10b0 := decide_eq_true c10
         clear c10
         (first | rw [c10b0] | (simp only [i64_w, i32_w]; rw [c10b0]) | skip)
         have H' := Aside0.mk H
         clear H
         obtain ⟨HGz11, hgz11⟩ := HI0.out
         have hcz11_0 := cellS89_0 HGz11
         have hcz11_1 := cellS89_1 HGz11
         have hcz11_2 := cellS89_2 HGz11
         have hcz11_3 := cellS89_3 HGz11
         have hfz11_0 := blk_frozen HGz11 0
         have hfz11_1 := blk_frozen HGz11 1
         have hfz11_2 := blk_frozen HGz11 2
         have hfz11_3 := blk_frozen HGz11 3
         clear HGz11 hgz11
         go_wp2
         repeat (go_quiet (fail); try go_wp2)
         go_meet
         case rel => exact ⟨_, (decide (x7_1 < 6)), Z7, H', ⟨by have := HK1.out; first | omega | exact Nat.le_refl _⟩, ⟨Z2⟩, ⟨Z0⟩, ⟨Z3⟩⟩
        ·rw [if_neg c10] at H
         have c10b0 := decide_eq_false c10
         clear c10
         (first | rw [c10b0] | (simp only [i64_w, i32_w]; rw [c10b0]) | skip)
         have H' := Aside0.mk H
         clear H
         obtain ⟨HGz12, hgz12⟩ := HI0.out
         have hcz12_0 := cellS89_0 HGz12
         have hcz12_1 := cellS89_1 HGz12
         have hcz12_2 := cellS89_2 HGz12
         have hcz12_3 := cellS89_3 HGz12
         have hfz12_0 := blk_frozen HGz12 0
         have hfz12_1 := blk_frozen HGz12 1
         have hfz12_2 := blk_frozen HGz12 2
         have hfz12_3 := blk_frozen HGz12 3
         clear HGz12 hgz12
         go_wp2
         repeat (go_quiet (fail); try go_wp2)
         go_meet
         case rel => exact ⟨_, (false), Z7, H', ⟨by have := HK1.out; first | omega | exact Nat.le_refl _⟩, ⟨Z2⟩, ⟨Z0⟩, ⟨Z3⟩⟩
       case rest =>
        clear HC9
        try clear c1
        try clear p2
        try clear c3
        try clear c3b0
        try clear c3b1
        try clear c4
        try clear c4b0
        try clear c4b1
        try clear c6
        try clear p6
        try clear c10
        try clear c10b0
        try clear hcz11_0
        try clear hcz11_1
        try clear hcz11_2
        try clear hcz11_3
        try clear hcz12_0
        try clear hcz12_1
        try clear hcz12_2
        try clear hcz12_3
        try clear hcz8_0
        try clear hcz8_1
        try clear hcz8_2
        try clear hcz8_3
        try clear hfz11_0
        try clear hfz11_1
        try clear hfz11_2
        try clear hfz11_3
        try clear hfz12_0
        try clear hfz12_1
        try clear hfz12_2
        try clear hfz12_3
        try clear hfz8_0
        try clear hfz8_1
        try clear hfz8_2
        try clear hfz8_3
        try clear p2
        try clear p6
        obtain ⟨kq, x48_8, rfl, HA, HJ8, HI0, HK, HB⟩ := hcut
        cases kq with
        | zero => exact absurd HA.out (by simp [runes_reader_number.j1])
        | succ kj8 =>
         have H := HA.out
         clear HA
         simp only [runes_reader_number.j1] at H
         by_cases c13 : x48_8 = true
         ·subst c13
          have H1 : (if 0 ≤ x1001_1 then (if x1001_1 < (s0_0.size : Int) then ((strings_IndexByte.f (⟨#[48, 49, 50, 51, 52, 53, 54, 55, 56, 57, 97, 98, 99, 100, 101, 102]⟩ : ByteArray) (Go.bits .or .u8 (bt s0_0 x1001_1) 32)).bind fun t179 => (if t179 < 0 then (runes_reader_number.j2 kj8 a1 x6_1 x7_1 s0_0 x1001_1 s0_2 s0_3) else (if (bt s0_0 x1001_1) < 48 then (runes_reader_number.j2 kj8 a1 x6_1 x7_1 s0_0 x1001_1 s0_2 s0_3) else (runes_reader_number.l0 kj8 a1 (wrap64 ((wrap64 (16 * x6_1)) + t179)) (wrap64 (x7_1 + 1)) s0_0 (wrap64 (x1001_1 + 1)) s0_2 s0_3)))) else (none)) else (none)) = some (r1, r2, r3, r4, r5, r6) := by rw [if_pos rfl] at H; exact H
          clear H
          have H := H1
          clear H1
          by_cases c14 : 0 ≤ x1001_1
          ·rw [if_pos c14] at H
           have c14b0 := decide_eq_true c14
           clear c14
           by_cases c15 : x1001_1 < (s0_0.size : Int)
           ·rw [if_pos c15] at H
            have c15b0 := decide_eq_true c15
            clear c15
            replace H := bS H
            obtain ⟨t179, A17, H⟩ := H
            try dsimp only at H
            by_cases c18 : t179 < 0
            ·rw [if_pos c18] at H
             have c18b0 := decide_eq_true c18
             clear c18
             have H' := Aside0.mk H
             clear H
             obtain ⟨HGz19, hgz19⟩ := HI0.out
             have hcz19_0 := cellS89_0 HGz19
             have hcz19_1 := cellS89_1 HGz19
             have hcz19_2 := cellS89_2 HGz19
             have hcz19_3 := cellS89_3 HGz19
             have hfz19_0 := blk_frozen HGz19 0
             have hfz19_1 := blk_frozen HGz19 1
             have hfz19_2 := blk_frozen HGz19 2
             have hfz19_3 := blk_frozen HGz19 3
             clear HGz19 hgz19
             have p16 : 0 ≤ (x1001_1 : Int) := of_decide_eq_true Z4
             have q16 : x1001_1 < (s0_0.size : Int) := of_decide_eq_true Z4
             have hx16 := bt_at s0_0 x1001_1
             replace p16 := eq_true p16
             replace q16 := eq_true q16
             go_wp2_with (first | (go_at_call 96; (with_reducible refine (strings_IndexByte.calls A17.out).mono ?_); rintro e w' ⟨rfl, ⟨nd, rfl⟩⟩; (try first | exact ⟨rfl, _, World.drewN_drewN _ _ _⟩ | exact ⟨rfl, _, Eq.trans (World.drewN_drewN _ _ _) (congrArg (World.drewN _) (Nat.add_assoc _ _ _))⟩)))
             repeat (go_quiet (first | (go_at_call 96; (with_reducible refine (strings_IndexByte.calls A17.out).mono ?_); rintro e w' ⟨rfl, ⟨nd, rfl⟩⟩; (try first | exact ⟨rfl, _, World.drewN_drewN _ _ _⟩ | exact ⟨rfl, _, Eq.trans (World.drewN_drewN _ _ _) (congrArg (World.drewN _) (Nat.add_assoc _ _ _))⟩))); try go_wp2_with (first | (go_at_call 96; (with_reducible refine (strings_IndexByte.calls A17.out).mono ?_); rintro e w' ⟨rfl, ⟨nd, rfl⟩⟩; (try first | exact ⟨rfl, _, World.drewN_drewN _ _ _⟩ | exact ⟨rfl, _, Eq.trans (World.drewN_drewN _ _ _) (congrArg (World.drewN _) (Nat.add_assoc _ _ _))⟩))))
             go_meet
             case rel => exact ⟨_, (x6_1), (x7_1), (x1001_1), Z7, Z7, H', ⟨by have := HK1.out; have := HJ8.out; first | omega | exact Nat.le_refl _⟩, ⟨Z2⟩, ⟨Z0⟩, ⟨Z3⟩⟩
            ·rw [if_neg c18] at H
             have c18b0 := decide_eq_false c18
             clear c18
             by_cases c21 : (bt s0_0 x1001_1) < 48
             ·rw [if_pos c21] at H
              have c21b0 := decide_eq_true c21
              clear c21
              have H' := Aside0.mk H
              clear H
              obtain ⟨HGz22, hgz22⟩ := HI0.out
              have hcz22_0 := cellS89_0 HGz22
              have hcz22_1 := cellS89_1 HGz22
              have hcz22_2 := cellS89_2 HGz22
              have hcz22_3 := cellS89_3 HGz22
              have hfz22_0 := blk_frozen HGz22 0
              have hfz22_1 := blk_frozen HGz22 1
              have hfz22_2 := blk_frozen HGz22 2
              have hfz22_3 := blk_frozen HGz22 3
              clear HGz22 hgz22
              have p16 : 0 ≤ (x1001_1 : Int) := of_decide_eq_true Z4
              have q16 : x1001_1 < (s0_0.size : Int) := of_decide_eq_true Z4
              have hx16 := bt_at s0_0 x1001_1
              replace p16 := eq_true p16
              replace q16 := eq_true q16
              go_wp2_with (first | (go_at_call 96; (with_reducible refine (strings_IndexByte.calls A17.out).mono ?_); rintro e w' ⟨rfl, ⟨nd, rfl⟩⟩; (try first | exact ⟨rfl, _, World.drewN_drewN _ _ _⟩ | exact ⟨rfl, _, Eq.trans (World.drewN_drewN _ _ _) (congrArg (World.drewN _) (Nat.add_assoc _ _ _))⟩); have p20 : 0 ≤ (x1001_1 : Int) := of_decide_eq_true Z4; have q20 : x1001_1 < (s0_0.size : Int) := of_decide_eq_true Z4; have hx20 := bt_at s0_0 x1001_1; replace p20 := eq_true p20; replace q20 := eq_true q20))
              repeat (go_quiet (first | (go_at_call 96; (with_reducible refine (strings_IndexByte.calls A17.out).mono ?_); rintro e w' ⟨rfl, ⟨nd, rfl⟩⟩; (try first | exact ⟨rfl, _, World.drewN_drewN _ _ _⟩ | exact ⟨rfl, _, Eq.trans (World.drewN_drewN _ _ _) (congrArg (World.drewN _) (Nat.add_assoc _ _ _))⟩); have p20 : 0 ≤ (x1001_1 : Int) := of_decide_eq_true Z4; have q20 : x1001_1 < (s0_0.size : Int) := of_decide_eq_true Z4; have hx20 := bt_at s0_0 x1001_1; replace p20 := eq_true p20; replace q20 := eq_true q20)); try go_wp2_with (first | (go_at_call 96; (with_reducible refine (strings_IndexByte.calls A17.out).mono ?_); rintro e w' ⟨rfl, ⟨nd, rfl⟩⟩; (try first | exact ⟨rfl, _, World.drewN_drewN _ _ _⟩ | exact ⟨rfl, _, Eq.trans (World.drewN_drewN _ _ _) (congrArg (World.drewN _) (Nat.add_assoc _ _ _))⟩); have p20 : 0 ≤ (x1001_1 : Int) := of_decide_eq_true Z4; have q20 : x1001_1 < (s0_0.size : Int) := of_decide_eq_true Z4; have hx20 := bt_at s0_0 x1001_1; replace p20 := eq_true p20; replace q20 := eq_true q20)))
              go_meet
              case rel => exact ⟨_, (x6_1), (x7_1), (x1001_1), Z7, Z7, H', ⟨by have := HK1.out; have := HJ8.out; first | omega | exact Nat.le_refl _⟩, ⟨Z2⟩, ⟨Z0⟩, ⟨Z3⟩⟩
             ·rw [if_neg c21] at H
              have c21b0 := decide_eq_false c21
              clear c21
              have H' := Aside0.mk H
              clear H
              obtain ⟨HGz23, hgz23⟩ := HI0.out
              have hcz23_0 := cellS89_0 HGz23
              have hcz23_1 := cellS89_1 HGz23
              have hcz23_2 := cellS89_2 HGz23
              have hcz23_3 := cellS89_3 HGz23
              have hfz23_0 := blk_frozen HGz23 0
              have hfz23_1 := blk_frozen HGz23 1
              have hfz23_2 := blk_frozen HGz23 2
              have hfz23_3 := blk_frozen HGz23 3
              clear HGz23 hgz23
              have p16 : 0 ≤ (x1001_1 : Int) := of_decide_eq_true Z4
              have q16 : x1001_1 < (s0_0.size : Int) := of_decide_eq_true Z4
              have hx16 := bt_at s0_0 x1001_1
              replace p16 := eq_true p16
              replace q16 := eq_true q16
              go_wp2_with (first | (go_at_call 96; (with_reducible refine (strings_IndexByte.calls A17.out).mono ?_); rintro e w' ⟨rfl, ⟨nd, rfl⟩⟩; (try first | exact ⟨rfl, _, World.drewN_drewN _ _ _⟩ | exact ⟨rfl, _, Eq.trans (World.drewN_drewN _ _ _) (congrArg (World.drewN _) (Nat.add_assoc _ _ _))⟩); have p20 : 0 ≤ (x1001_1 : Int) := of_decide_eq_true Z4; have q20 : x1001_1 < (s0_0.size : Int) := of_decide_eq_true Z4; have hx20 := bt_at s0_0 x1001_1; replace p20 := eq_true p20; replace q20 := eq_true q20))
              repeat (go_quiet (first | (go_at_call 96; (with_reducible refine (strings_IndexByte.calls A17.out).mono ?_); rintro e w' ⟨rfl, ⟨nd, rfl⟩⟩; (try first | exact ⟨rfl, _, World.drewN_drewN _ _ _⟩ | exact ⟨rfl, _, Eq.trans (World.drewN_drewN _ _ _) (congrArg (World.drewN _) (Nat.add_assoc _ _ _))⟩); have p20 : 0 ≤ (x1001_1 : Int) := of_decide_eq_true Z4; have q20 : x1001_1 < (s0_0.size : Int) := of_decide_eq_true Z4; have hx20 := bt_at s0_0 x1001_1; replace p20 := eq_true p20; replace q20 := eq_true q20)); try go_wp2_with (first | (go_at_call 96; (with_reducible refine (strings_IndexByte.calls A17.out).mono ?_); rintro e w' ⟨rfl, ⟨nd, rfl⟩⟩; (try first | exact ⟨rfl, _, World.drewN_drewN _ _ _⟩ | exact ⟨rfl, _, Eq.trans (World.drewN_drewN _ _ _) (congrArg (World.drewN _) (Nat.add_assoc _ _ _))⟩); have p20 : 0 ≤ (x1001_1 : Int) := of_decide_eq_true Z4; have q20 : x1001_1 < (s0_0.size : Int) := of_decide_eq_true Z4; have hx20 := bt_at s0_0 x1001_1; replace p20 := eq_true p20; replace q20 := eq_true q20)))
              go_roundg kj8
              case measure => have := HK1.out; have := HJ8.out; omega
              case rel => exact ⟨(wrap64 ((wrap64 (16 * x6_1)) + t179)), (wrap64 (x7_1 + 1)), (wrap64 (x1001_1 + 1)), Z7, Z7, H', ⟨by have := HK1.out; have := HJ8.out; omega⟩, ⟨Z2⟩, ⟨Z0⟩, ⟨Z3⟩⟩
           ·rw [if_neg c15] at H
            exact absurd H Z21
          ·rw [if_neg c14] at H
           exact absurd H Z21
         ·replace c13 := Bool.eq_false_iff.mpr c13
          subst c13
          have H1 : (runes_reader_number.j2 kj8 a1 x6_1 x7_1 s0_0 x1001_1 s0_2 s0_3) = some (r1, r2, r3, r4, r5, r6) := by rw [if_neg (show ¬ (false = true) by decide)] at H; exact H
          clear H
          have H := H1
          clear H1
          have H' := Aside0.mk H
          clear H
          go_wp2
          repeat (go_quiet (fail); try go_wp2)
          go_meet
          case rel => exact ⟨_, (x6_1), (x7_1), (x1001_1), Z7, Z7, H', ⟨by have := HK1.out; have := HJ8.out; first | omega | exact Nat.le_refl _⟩, ⟨Z2⟩, ⟨Z0⟩, ⟨Z3⟩⟩
    case rest =>
     clear HC7
     try clear c1
     try clear p1
     try clear q1
     try clear hx1
     try clear c2
     try clear p2
     try clear q2
     try clear hx2
     try clear c3
     try clear c3b0
     try clear c3b1
     try clear c4
     try clear c4b0
     try clear c4b1
     try clear c6
     try clear p6
     try clear c10
     try clear c10b0
     try clear c13
     try clear c14
     try clear c14b0
     try clear c15
     try clear c15b0
     try clear p16
     try clear q16
     try clear hx16
     try clear c18
     try clear c18b0
     try clear p20
     try clear q20
     try clear hx20
     try clear c21
     try clear c21b0
     try clear hcz11_0
     try clear hcz11_1
     try clear hcz11_2
     try clear hcz11_3
     try clear hcz12_0
     try clear hcz12_1
     try clear hcz12_2
     try clear hcz12_3
     try clear hcz19_0
     try clear hcz19_1
     try clear hcz19_2
     try clear hcz19_3
     try clear hcz22_0
     try clear hcz22_1
     try clear hcz22_2
     try clear hcz22_3
     try clear hcz23_0
     try clear hcz23_1
     try clear hcz23_2
     try clear hcz23_3
     try clear hcz8_0
     try clear hcz8_1
     try clear hcz8_2
     try clear hcz8_3
     try clear hfz11_0
     try clear hfz11_1
     try clear hfz11_2
     try clear hfz11_3
     try clear hfz12_0
     try clear hfz12_1
     try clear hfz12_2
     try clear hfz12_3
     try clear hfz19_0
     try clear hfz19_1
     try clear hfz19_2
     try clear hfz19_3
     try clear hfz22_0
     try clear hfz22_1
     try clear hfz22_2
     try clear hfz22_3
     try clear hfz23_0
     try clear hfz23_1
     try clear hfz23_2
     try clear hfz23_3
     try clear hfz8_0
     try clear hfz8_1
     try clear hfz8_2
     try clear hfz8_3
     try clear p16
     try clear p2
     try clear p20
     try clear p6
     try clear q16
     try clear q20
     obtain ⟨kq, x6_6, x7_6, x1001_6, rfl, rfl, HA, HJ6, HI0, HK, HB⟩ := hcut
     cases kq with
     | zero => exact absurd HA.out (by simp [runes_reader_number.j2])
     | succ kj6 =>
      have H := HA.out
      clear HA
      simp only [runes_reader_number.j2] at H
      have HC24 := Aside0.mk H
      clear H
      go_upto_region 11 with (fail)
      repeat (go_quiet (fail); go_upto_region 11 with (fail))
      go_cut [101] (fun v101 wc => ∃ (kq : Nat) (x101_23 : Bool), v101 = .bool x101_23 ∧ Aside0 (runes_reader_number.j3 kq a1 x6_6 x101_23 s0_0 x1001_6 s0_2 s0_3 = some (r1, r2, r3, r4, r5, r6)) ∧ Aside0 (kq ≤ kj6) ∧ Aside0 (IsS89 w0 wc g s0_0 x1001_6 s0_2 s0_3) ∧ Aside0 (KeepBut w wc g none) ∧ Aside0 (Below w0.heap.size w0 wc))
      case first =>
       have H := HC24.out
       clear HC24
       by_cases c25 : x7_6 = 0
       ·rw [if_pos c25] at H
        have c25b0 := e1 c25
        have c25b1 := e2 c25
        clear c25
        (first | rw [c25b0] | (simp only [i64_w, i32_w]; rw [c25b0]) | skip)
        have H' := Aside0.mk H
        clear H
        go_wp2
        repeat (go_quiet (fail); try go_wp2)
        go_meet
        case rel => exact ⟨_, (true), Z7, H', ⟨by have := HJ6.out; first | omega | exact Nat.le_refl _⟩, ⟨Z2⟩, ⟨Z0⟩, ⟨Z3⟩⟩
       ·rw [if_neg c25] at H
        have c25b0 := e3 c25
        have c25b1 := e4 c25
        (first | rw [c25b0] | (simp only [i64_w, i32_w]; rw [c25b0]) | skip)
        by_cases c26 : 0 ≤ x1001_6
        ·rw [if_pos c26] at H
         have c26b0 := eq_true c26
         have c26b1 := decide_eq_true c26
         clear c26
         by_cases c27 : x1001_6 ≤ (s0_0.size : Int)
         ·rw [if_pos c27] at H
          have c27b0 := eq_true c27
          have c27b1 := decide_eq_true c27
          clear c27
          replace H := bS H
          obtain ⟨t180, A28, H⟩ := H
          try dsimp only at H
          have H' := Aside0.mk H
          clear H
          obtain ⟨HGz29, hgz29⟩ := HI0.out
          have hcz29_0 := cellS89_0 HGz29
          have hcz29_1 := cellS89_1 HGz29
          have hcz29_2 := cellS89_2 HGz29
          have hcz29_3 := cellS89_3 HGz29
          have hfz29_0 := blk_frozen HGz29 0
          have hfz29_1 := blk_frozen HGz29 1
          have hfz29_2 := blk_frozen HGz29 2
          have hfz29_3 := blk_frozen HGz29 3
          clear HGz29 hgz29
          go_wp2_with (first | (go_at_call 71; (with_reducible refine (strings_HasPrefix.calls A28.out).mono ?_); rintro e w' ⟨rfl, ⟨nd, rfl⟩⟩; (try first | exact ⟨rfl, _, World.drewN_drewN _ _ _⟩ | exact ⟨rfl, _, Eq.trans (World.drewN_drewN _ _ _) (congrArg (World.drewN _) (Nat.add_assoc _ _ _))⟩)))
          repeat (go_quiet (first | (go_at_call 71; (with_reducible refine (strings_HasPrefix.calls A28.out).mono ?_); rintro e w' ⟨rfl, ⟨nd, rfl⟩⟩; (try first | exact ⟨rfl, _, World.drewN_drewN _ _ _⟩ | exact ⟨rfl, _, Eq.trans (World.drewN_drewN _ _ _) (congrArg (World.drewN _) (Nat.add_assoc _ _ _))⟩))); try go_wp2_with (first | (go_at_call 71; (with_reducible refine (strings_HasPrefix.calls A28.out).mono ?_); rintro e w' ⟨rfl, ⟨nd, rfl⟩⟩; (try first | exact ⟨rfl, _, World.drewN_drewN _ _ _⟩ | exact ⟨rfl, _, Eq.trans (World.drewN_drewN _ _ _) (congrArg (World.drewN _) (Nat.add_assoc _ _ _))⟩))))
          go_meet
          case rel => exact ⟨_, (!t180), Z7, H', ⟨by have := HJ6.out; first | omega | exact Nat.le_refl _⟩, ⟨Z2⟩, ⟨Z0⟩, ⟨Z3⟩⟩
         ·rw [if_neg c27] at H
          exact absurd H Z21
        ·rw [if_neg c26] at H
         exact absurd H Z21
      case rest =>
       clear HC24
       try clear c1
       try clear p1
       try clear q1
       try clear hx1
       try clear c2
       try clear p2
       try clear q2
       try clear hx2
       try clear c3
       try clear c3b0
       try clear c3b1
       try clear c4
       try clear c4b0
       try clear c4b1
       try clear c6
       try clear p6
       try clear c10
       try clear c10b0
       try clear c13
       try clear c14
       try clear c14b0
       try clear c15
       try clear c15b0
       try clear p16
       try clear q16
       try clear hx16
       try clear c18
       try clear c18b0
       try clear p20
       try clear q20
       try clear hx20
       try clear c21
       try clear c21b0
       try clear c25
       try clear c25b0
       try clear c25b1
       try clear c26
       try clear c26b0
       try clear c26b1
       try clear c27
       try clear c27b0
       try clear c27b1
       try clear hcz11_0
       try clear hcz11_1
       try clear hcz11_2
       try clear hcz11_3
       try clear hcz12_0
       try clear hcz12_1
       try clear hcz12_2
       try clear hcz12_3
       try clear hcz19_0
       try clear hcz19_1
       try clear hcz19_2
       try clear hcz19_3
       try clear hcz22_0
       try clear hcz22_1
       try clear hcz22_2
       try clear hcz22_3
       try clear hcz23_0
       try clear hcz23_1
       try clear hcz23_2
       try clear hcz23_3
       try clear hcz29_0
       try clear hcz29_1
       try clear hcz29_2
       try clear hcz29_3
       try clear hcz8_0
       try clear hcz8_1
       try clear hcz8_2
       try clear hcz8_3
       try clear hfz11_0
       try clear hfz11_1
       try clear hfz11_2
       try clear hfz11_3
       try clear hfz12_0
       try clear hfz12_1
       try clear hfz12_2
       try clear hfz12_3
       try clear hfz19_0
       try clear hfz19_1
       try clear hfz19_2
       try clear hfz19_3
       try clear hfz22_0
       try clear hfz22_1
       try clear hfz22_2
       try clear hfz22_3
       try clear hfz23_0
       try clear hfz23_1
       try clear hfz23_2
       try clear hfz23_3
       try clear hfz29_0
       try clear hfz29_1
       try clear hfz29_2
       try clear hfz29_3
       try clear hfz8_0
       try clear hfz8_1
       try clear hfz8_2
       try clear hfz8_3
       try clear p1
       try clear p16
       try clear p2
       try clear p20
       try clear p6
       try clear q1
       try clear q16
       try clear q2
       try clear q20
       obtain ⟨kq, x101_23, rfl, HA, HJ23, HI0, HK, HB⟩ := hcut
       cases kq with
       | zero => exact absurd HA.out (by simp [runes_reader_number.j3])
       | succ kj23 =>
        have H := HA.out
        clear HA
        simp only [runes_reader_number.j3] at H
        by_cases c30 : x101_23 = true
        ·subst c30
         have H1 : ((runes_reader_fail.f s0_0 x1001_6 s0_2 s0_3 5 x1001_6).bind fun bt181 => (some (bt181.1, bt181.2.1, bt181.2.2.1, bt181.2.2.2.1, bt181.2.2.2.2.1, bt181.2.2.2.2.2))) = some (r1, r2, r3, r4, r5, r6) := by rw [if_pos rfl] at H; exact H
         clear H
         have H := H1
         clear H1
         replace H := bS H
         obtain ⟨⟨t181, t182, t183, t184, t185, t186⟩, A31, H⟩ := H
         try dsimp only at H
         simp only [Option.some.injEq, Prod.mk.injEq] at H
         obtain ⟨rfl, rfl, rfl, rfl, rfl, rfl⟩ := H
         obtain ⟨HGz32, hgz32⟩ := HI0.out
         have hcz32_0 := cellS89_0 HGz32
         have hcz32_1 := cellS89_1 HGz32
         have hcz32_2 := cellS89_2 HGz32
         have hcz32_3 := cellS89_3 HGz32
         have hfz32_0 := blk_frozen HGz32 0
         have hfz32_1 := blk_frozen HGz32 1
         have hfz32_2 := blk_frozen HGz32 2
         have hfz32_3 := blk_frozen HGz32 3
         clear HGz32 hgz32
         go_wp2_with (first | (go_at_call 59; (with_reducible refine (runes_reader_fail.calls g s0_0 x1001_6 s0_2 s0_3 5 x1001_6 t181 t182 t183 t184 t185 t186 w0 _ ?side1 ?side2 A31.out).mono ?_); (case side1 => repeat (first | (with_reducible first | exact HI0.out | apply IsS89.alloc | apply IsS89.drewN | apply IsS89.drew | apply IsS89.set_0 | apply IsS89.set_1 | apply IsS89.set_2 | apply IsS89.set_3) | exact HI0.out)); (case side2 => repeat (first | (with_reducible first | exact HB.out | apply below_alloc | apply pw_below_drewN | apply below_drew1 | refine below_set ?_ (IsS89.ge HI0.out)) | exact HB.out)); rintro e w33 ⟨rfl, hi, hb, hk⟩; replace HK := Aside0.mk (KeepBut.trans Z0 hk (.inl rfl)); replace HB := Aside0.mk (hb); replace HI0 := Aside0.mk (hi); (try clear hb); (try clear hb2); (try clear hk); (try clear hi)))
         repeat (go_quiet (first | (go_at_call 59; (with_reducible refine (runes_reader_fail.calls g s0_0 x1001_6 s0_2 s0_3 5 x1001_6 t181 t182 t183 t184 t185 t186 w0 _ ?side1 ?side2 A31.out).mono ?_); (case side1 => repeat (first | (with_reducible first | exact HI0.out | apply IsS89.alloc | apply IsS89.drewN | apply IsS89.drew | apply IsS89.set_0 | apply IsS89.set_1 | apply IsS89.set_2 | apply IsS89.set_3) | exact HI0.out)); (case side2 => repeat (first | (with_reducible first | exact HB.out | apply below_alloc | apply pw_below_drewN | apply below_drew1 | refine below_set ?_ (IsS89.ge HI0.out)) | exact HB.out)); rintro e w33 ⟨rfl, hi, hb, hk⟩; replace HK := Aside0.mk (KeepBut.trans Z0 hk (.inl rfl)); replace HB := Aside0.mk (hb); replace HI0 := Aside0.mk (hi); (try clear hb); (try clear hb2); (try clear hk); (try clear hi))); try go_wp2_with (first | (go_at_call 59; (with_reducible refine (runes_reader_fail.calls g s0_0 x1001_6 s0_2 s0_3 5 x1001_6 t181 t182 t183 t184 t185 t186 w0 _ ?side1 ?side2 A31.out).mono ?_); (case side1 => repeat (first | (with_reducible first | exact HI0.out | apply IsS89.alloc | apply IsS89.drewN | apply IsS89.drew | apply IsS89.set_0 | apply IsS89.set_1 | apply IsS89.set_2 | apply IsS89.set_3) | exact HI0.out)); (case side2 => repeat (first | (with_reducible first | exact HB.out | apply below_alloc | apply pw_below_drewN | apply below_drew1 | refine below_set ?_ (IsS89.ge HI0.out)) | exact HB.out)); rintro e w33 ⟨rfl, hi, hb, hk⟩; replace HK := Aside0.mk (KeepBut.trans Z0 hk (.inl rfl)); replace HB := Aside0.mk (hb); replace HI0 := Aside0.mk (hi); (try clear hb); (try clear hb2); (try clear hk); (try clear hi))))
         go_ret2
         exact ⟨Z5, Z2, Z3, Z0⟩
        ·replace c30 := Bool.eq_false_iff.mpr c30
         subst c30
         have H1 : (if x6_6 > 1114111 then ((runes_reader_fail.f s0_0 (wrap64 (x1001_6 + 1)) s0_2 s0_3 11 a1).bind fun bt187 => (some (bt187.1, bt187.2.1, bt187.2.2.1, bt187.2.2.2.1, bt187.2.2.2.2.1, bt187.2.2.2.2.2))) else (some (wrap32 (x6_6), true, s0_0, wrap64 (x1001_6 + 1), s0_2, s0_3))) = some (r1, r2, r3, r4, r5, r6) := by rw [if_neg (show ¬ (false = true) by decide)] at H; exact H
         clear H
         have H := H1
         clear H1
         by_cases c34 : x6_6 > 1114111
         ·rw [if_pos c34] at H
          have c34b0 : decide (1114111 < x6_6) = true := decide_eq_true c34
          clear c34
          replace H := bS H
          obtain ⟨⟨t187, t188, t189, t190, t191, t192⟩, A35, H⟩ := H
          try dsimp only at H
          simp only [Option.some.injEq, Prod.mk.injEq] at H
          obtain ⟨rfl, rfl, rfl, rfl, rfl, rfl⟩ := H
          obtain ⟨HGz36, hgz36⟩ := HI0.out
          have hcz36_0 := cellS89_0 HGz36
          have hcz36_1 := cellS89_1 HGz36
          have hcz36_2 := cellS89_2 HGz36
          have hcz36_3 := cellS89_3 HGz36
          have hfz36_0 := blk_frozen HGz36 0
          have hfz36_1 := blk_frozen HGz36 1
          have hfz36_2 := blk_frozen HGz36 2
          have hfz36_3 := blk_frozen HGz36 3
          clear HGz36 hgz36
          go_wp2_with (first | (go_at_call 59; (with_reducible refine (runes_reader_fail.calls g s0_0 (wrap64 (x1001_6 + 1)) s0_2 s0_3 11 a1 t187 t188 t189 t190 t191 t192 w0 _ ?side1 ?side2 A35.out).mono ?_); (case side1 => repeat (first | (with_reducible first | exact HI0.out | apply IsS89.alloc | apply IsS89.drewN | apply IsS89.drew | apply IsS89.set_0 | apply IsS89.set_1 | apply IsS89.set_2 | apply IsS89.set_3) | exact HI0.out)); (case side2 => repeat (first | (with_reducible first | exact HB.out | apply below_alloc | apply pw_below_drewN | apply below_drew1 | refine below_set ?_ (IsS89.ge HI0.out)) | exact HB.out)); rintro e w37 ⟨rfl, hi, hb, hk⟩; replace HK := Aside0.mk (KeepBut.trans Z0 hk (.inl rfl)); replace HB := Aside0.mk (hb); replace HI0 := Aside0.mk (hi); (try clear hb); (try clear hb2); (try clear hk); (try clear hi)))
          repeat (go_quiet (first | (go_at_call 59; (with_reducible refine (runes_reader_fail.calls g s0_0 (wrap64 (x1001_6 + 1)) s0_2 s0_3 11 a1 t187 t188 t189 t190 t191 t192 w0 _ ?side1 ?side2 A35.out).mono ?_); (case side1 => repeat (first | (with_reducible first | exact HI0.out | apply IsS89.alloc | apply IsS89.drewN | apply IsS89.drew | apply IsS89.set_0 | apply IsS89.set_1 | apply IsS89.set_2 | apply IsS89.set_3) | exact HI0.out)); (case side2 => repeat (first | (with_reducible first | exact HB.out | apply below_alloc | apply pw_below_drewN | apply below_drew1 | refine below_set ?_ (IsS89.ge HI0.out)) | exact HB.out)); rintro e w37 ⟨rfl, hi, hb, hk⟩; replace HK := Aside0.mk (KeepBut.trans Z0 hk (.inl rfl)); replace HB := Aside0.mk (hb); replace HI0 := Aside0.mk (hi); (try clear hb); (try clear hb2); (try clear hk); (try clear hi))); try go_wp2_with (first | (go_at_call 59; (with_reducible refine (runes_reader_fail.calls g s0_0 (wrap64 (x1001_6 + 1)) s0_2 s0_3 11 a1 t187 t188 t189 t190 t191 t192 w0 _ ?side1 ?side2 A35.out).mono ?_); (case side1 => repeat (first | (with_reducible first | exact HI0.out | apply IsS89.alloc | apply IsS89.drewN | apply IsS89.drew | apply IsS89.set_0 | apply IsS89.set_1 | apply IsS89.set_2 | apply IsS89.set_3) | exact HI0.out)); (case side2 => repeat (first | (with_reducible first | exact HB.out | apply below_alloc | apply pw_below_drewN | apply below_drew1 | refine below_set ?_ (IsS89.ge HI0.out)) | exact HB.out)); rintro e w37 ⟨rfl, hi, hb, hk⟩; replace HK := Aside0.mk (KeepBut.trans Z0 hk (.inl rfl)); replace HB := Aside0.mk (hb); replace HI0 := Aside0.mk (hi); (try clear hb); (try clear hb2); (try clear hk); (try clear hi))))
          go_ret2
          exact ⟨Z5, Z2, Z3, Z0⟩
         ·rw [if_neg c34] at H
          have c34b0 : decide (1114111 < x6_6) = false := decide_eq_false c34
          clear c34
          simp only [Option.some.injEq, Prod.mk.injEq] at H
          obtain ⟨rfl, rfl, rfl, rfl, rfl, rfl⟩ := H
          obtain ⟨HGz38, hgz38⟩ := HI0.out
          have hcz38_0 := cellS89_0 HGz38
          have hcz38_1 := cellS89_1 HGz38
          have hcz38_2 := cellS89_2 HGz38
          have hcz38_3 := cellS89_3 HGz38
          have hfz38_0 := blk_frozen HGz38 0
          have hfz38_1 := blk_frozen HGz38 1
          have hfz38_2 := blk_frozen HGz38 2
          have hfz38_3 := blk_frozen HGz38 3
          clear HGz38 hgz38
          go_wp2
          repeat (go_quiet (fail); try go_wp2)
          go_ret2
          exact ⟨Z5, Z2, Z3, Z0⟩
   ·replace c6 := Bool.eq_false_iff.mpr c6
    subst c6
    have H1 : ((runes_reader_fail.f s0_0 s0_1 s0_2 s0_3 5 s0_1).bind fun bt173 => (some (bt173.1, bt173.2.1, bt173.2.2.1, bt173.2.2.2.1, bt173.2.2.2.2.1, bt173.2.2.2.2.2))) = some (r1, r2, r3, r4, r5, r6) := by rw [if_neg (show ¬ (false = true) by decide)] at H; exact H
    clear H
    have H := H1
    clear H1
    replace H := bS H
    obtain ⟨⟨t173, t174, t175, t176, t177, t178⟩, A39, H⟩ := H
    try dsimp only at H
    simp only [Option.some.injEq, Prod.mk.injEq] at H
    obtain ⟨rfl, rfl, rfl, rfl, rfl, rfl⟩ := H
    obtain ⟨HGz40, hgz40⟩ := HI0.out
    have hcz40_0 := cellS89_0 HGz40
    have hcz40_1 := cellS89_1 HGz40
    have hcz40_2 := cellS89_2 HGz40
    have hcz40_3 := cellS89_3 HGz40
    have hfz40_0 := blk_frozen HGz40 0
    have hfz40_1 := blk_frozen HGz40 1
    have hfz40_2 := blk_frozen HGz40 2
    have hfz40_3 := blk_frozen HGz40 3
    clear HGz40 hgz40
    go_enter Tryd.func105, Tryd.ntmps105
    go_wp2_with (first | (go_at_call 71; (with_reducible refine (strings_HasPrefix.calls A5.out).mono ?_); rintro e w' ⟨rfl, ⟨nd, rfl⟩⟩; (try first | exact ⟨rfl, _, World.drewN_drewN _ _ _⟩ | exact ⟨rfl, _, Eq.trans (World.drewN_drewN _ _ _) (congrArg (World.drewN _) (Nat.add_assoc _ _ _))⟩)) | (go_at_call 59; (with_reducible refine (runes_reader_fail.calls g s0_0 s0_1 s0_2 s0_3 5 s0_1 t173 t174 t175 t176 t177 t178 w0 _ ?side1 ?side2 A39.out).mono ?_); (case side1 => repeat (first | (with_reducible first | exact HI0.out | apply IsS89.alloc | apply IsS89.drewN | apply IsS89.drew | apply IsS89.set_0 | apply IsS89.set_1 | apply IsS89.set_2 | apply IsS89.set_3) | exact HI0.out)); (case side2 => repeat (first | (with_reducible first | exact HB.out | apply below_alloc | apply pw_below_drewN | apply below_drew1 | refine below_set ?_ (IsS89.ge HI0.out)) | exact HB.out)); rintro e w41 ⟨rfl, hi, hb, hk⟩; replace HK := Aside0.mk (KeepBut.trans Z0 hk (.inl rfl)); replace HB := Aside0.mk (hb); replace HI0 := Aside0.mk (hi); (try clear hb); (try clear hb2); (try clear hk); (try clear hi)))
    repeat (go_quiet (first | (go_at_call 71; (with_reducible refine (strings_HasPrefix.calls A5.out).mono ?_); rintro e w' ⟨rfl, ⟨nd, rfl⟩⟩; (try first | exact ⟨rfl, _, World.drewN_drewN _ _ _⟩ | exact ⟨rfl, _, Eq.trans (World.drewN_drewN _ _ _) (congrArg (World.drewN _) (Nat.add_assoc _ _ _))⟩)) | (go_at_call 59; (with_reducible refine (runes_reader_fail.calls g s0_0 s0_1 s0_2 s0_3 5 s0_1 t173 t174 t175 t176 t177 t178 w0 _ ?side1 ?side2 A39.out).mono ?_); (case side1 => repeat (first | (with_reducible first | exact HI0.out | apply IsS89.alloc | apply IsS89.drewN | apply IsS89.drew | apply IsS89.set_0 | apply IsS89.set_1 | apply IsS89.set_2 | apply IsS89.set_3) | exact HI0.out)); (case side2 => repeat (first | (with_reducible first | exact HB.out | apply below_alloc | apply pw_below_drewN | apply below_drew1 | refine below_set ?_ (IsS89.ge HI0.out)) | exact HB.out)); rintro e w41 ⟨rfl, hi, hb, hk⟩; replace HK := Aside0.mk (KeepBut.trans Z0 hk (.inl rfl)); replace HB := Aside0.mk (hb); replace HI0 := Aside0.mk (hi); (try clear hb); (try clear hb2); (try clear hk); (try clear hi))); try go_wp2_with (first | (go_at_call 71; (with_reducible refine (strings_HasPrefix.calls A5.out).mono ?_); rintro e w' ⟨rfl, ⟨nd, rfl⟩⟩; (try first | exact ⟨rfl, _, World.drewN_drewN _ _ _⟩ | exact ⟨rfl, _, Eq.trans (World.drewN_drewN _ _ _) (congrArg (World.drewN _) (Nat.add_assoc _ _ _))⟩)) | (go_at_call 59; (with_reducible refine (runes_reader_fail.calls g s0_0 s0_1 s0_2 s0_3 5 s0_1 t173 t174 t175 t176 t177 t178 w0 _ ?side1 ?side2 A39.out).mono ?_); (case side1 => repeat (first | (with_reducible first | exact HI0.out | apply IsS89.alloc | apply IsS89.drewN | apply IsS89.drew | apply IsS89.set_0 | apply IsS89.set_1 | apply IsS89.set_2 | apply IsS89.set_3) | exact HI0.out)); (case side2 => repeat (first | (with_reducible first | exact HB.out | apply below_alloc | apply pw_below_drewN | apply below_drew1 | refine below_set ?_ (IsS89.ge HI0.out)) | exact HB.out)); rintro e w41 ⟨rfl, hi, hb, hk⟩; replace HK := Aside0.mk (KeepBut.trans Z0 hk (.inl rfl)); replace HB := Aside0.mk (hb); replace HI0 := Aside0.mk (hi); (try clear hb); (try clear hb2); (try clear hk); (try clear hi))))
    go_ret2
    exact ⟨Z5, Z2, Z3, Z0⟩
  ·rw [if_neg c4] at H
   exact absurd H Z21
 ·rw [if_neg c3] at H
  exact absurd H Z21
theorem runes_reader_rune.bt_eq (s : ByteArray) (i : Int) (h : i.toNat < s.size) : bt s i = ((s[i.toNat]'h).toNat : Int) := by simp [bt, h]
theorem runes_reader_rune.next_ascii (s : ByteArray) (a : Int) (h0 : 0 ≤ a) (h1 : a < (s.size : Int)) (h2 : bt s a < 128) : text_Next.f s a = some (bt s a, 1, true) := by
 have hn : a.toNat < s.size := by omega
 have hz : 0 < (s.extract a.toNat s.size).size := by simp; omega
 have hg : ((s.extract a.toNat s.size)[0]'hz) = s[a.toNat]'hn := by
  rw [ByteArray.getElem_extract]; simp
 have hb := runes_reader_rune.bt_eq s a hn
 have hd : Utf8.decode (s.extract a.toNat s.size) 0 = ((s[a.toNat]'hn).toNat, 1) := by
  rw [decode_ascii _ 0 hz (by rw [hg]; omega), hg]
 have he : (Utf8.encode (((s[a.toNat]'hn).toNat : Nat) : Int)).size = 1 := by
  obtain ⟨n, hn'⟩ : ∃ n, (s[a.toNat]'hn).toNat = n := ⟨_, rfl⟩
  rw [hn'] at hb ⊢
  have hlt : n < 128 := by omega
  have : ∀ n : Nat, n < 128 → (Utf8.encode ((n : Nat) : Int)).size = 1 := by decide +kernel
  exact this n hlt
 unfold text_Next.f
 rw [if_neg Z16, if_neg Z16, hd]
 dsimp only
 rw [if_neg Z16, he, ← hb]
 rfl
def runes_reader_rune.f (k : Nat) (s : ByteArray) (a : Int) (f2 f3 : Int) : Option (Int × Bool × ByteArray × Int × Int × Int) :=
 if 0 ≤ a then (if a < (s.size : Int) then (if (s.size : Int) < 4611686018427387904 then
  (if 33 ≤ bt s a ∧ bt s a ≤ 126 ∧ bt s a ≠ 91 ∧ bt s a ≠ 93 ∧ bt s a ≠ 45 ∧ bt s a ≠ 34 then
   (if bt s a = 92 then (if a + 1 < (s.size : Int) then
    (if bt s (a + 1) = 91 ∨ bt s (a + 1) = 93 ∨ bt s (a + 1) = 45 ∨ bt s (a + 1) = 94 ∨ bt s (a + 1) = 34 ∨ bt s (a + 1) = 92 then some (bt s (a + 1), true, s, a + 2, f2, f3)
    else if bt s (a + 1) = 110 then some (10, true, s, a + 2, f2, f3)
    else if bt s (a + 1) = 116 then some (9, true, s, a + 2, f2, f3)
    else if bt s (a + 1) = 114 then some (13, true, s, a + 2, f2, f3)
    else if bt s (a + 1) = 117 then runes_reader_number.f k s (a + 2) f2 f3 a else none) else none)
   else some (bt s a, true, s, a + 1, f2, f3)) else none) else none) else none) else none
theorem runes_reader_rune.cr_no (c : Int) (w : World) (h0 : 33 ≤ c) (h1 : c ≤ 126) (h : c ≠ 91 ∧ c ≠ 93 ∧ c ≠ 45 ∧ c ≠ 34) : Calls Tryd.prog 69 #[.string ⟨#[91, 93, 45, 34]⟩, .int .i32 c] w fun e w' => e = .returned (.bool false) ∧ Drawn0 w w' := by
 refine strings_ContainsRune.calls ?_
 unfold strings_ContainsRune.f
 rw [if_pos Z16, if_pos Z16]
 obtain ⟨n, rfl⟩ : ∃ n : Nat, c = n := ⟨c.toNat, Z16⟩
 have : ∀ n : Nat, n < 127 → n ≠ 91 ∧ n ≠ 93 ∧ n ≠ 45 ∧ n ≠ 34 → decide (0 ≤ Lib.indexByte [91, 93, 45, 34] n.toUInt8) = false := by decide +kernel
 exact congrArg some (this n Z16 Z16)
set_option maxRecDepth 100000 in
set_option maxHeartbeats 4000000 in
theorem runes_reader_rune.calls (k : Nat) (g : Nat) (s0_0 : ByteArray) (s0_1 : Int) (s0_2 : Int) (s0_3 : Int) (r1 : Int) (r2 : Bool) (r3 : ByteArray) (r4 : Int) (r5 : Int) (r6 : Int) (w0 w : World) (hI : IsS89 w0 w g s0_0 s0_1 s0_2 s0_3) (hB : Below w0.heap.size w0 w) (h : runes_reader_rune.f k s0_0 s0_1 s0_2 s0_3 = some (r1, r2, r3, r4, r5, r6)) :
  Calls Tryd.prog 83 #[.pointer (some ⟨g, 0, none⟩)] w fun e w' => e = .returned (.tuple #[.int .i32 r1, .bool r2]) ∧ IsS89 w0 w' g r3 r4 r5 r6 ∧ Below w0.heap.size w0 w' ∧ KeepBut w w' g none := by
 unfold runes_reader_rune.f at h
 by_cases c0 : 0 ≤ s0_1
 rotate_left
 ·rw [if_neg c0] at h; exact absurd h Z21
 rw [if_pos c0] at h
 by_cases c1 : s0_1 < (s0_0.size : Int)
 rotate_left
 ·rw [if_neg c1] at h; exact absurd h Z21
 rw [if_pos c1] at h
 by_cases c2 : (s0_0.size : Int) < 4611686018427387904
 rotate_left
 ·rw [if_neg c2] at h; exact absurd h Z21
 rw [if_pos c2] at h
 obtain ⟨c, hc⟩ : ∃ c, bt s0_0 s0_1 = c := ⟨_, rfl⟩
 rw [hc] at h
 by_cases c3 : 33 ≤ c ∧ c ≤ 126 ∧ c ≠ 91 ∧ c ≠ 93 ∧ c ≠ 45 ∧ c ≠ 34
 rotate_left
 ·rw [if_neg c3] at h; exact absurd h Z21
 rw [if_pos c3] at h
 have A1 := Aside0.mk (runes_reader_rune.next_ascii s0_0 s0_1 c0 c1 Z16)
 rw [hc] at A1
 have A2 := Aside0.mk (fun w => runes_reader_rune.cr_no c w c3.1 c3.2.1 c3.2.2)
 have d1 : decide (c ≤ 32) = false := decide_eq_false Z16
 have d2 : (c == 127) = false := beq_eq_false_iff_ne.2 Z16
 have HI0 := Aside0.mk hI
 have HB := Aside0.mk hB
 obtain ⟨HG, hg⟩ := hI
 have hc0 := cellS89_0 HG
 have hc1 := cellS89_1 HG
 have hgw : g < w.heap.size := blk_lt HG
 clear hB HG
 have c3 := Aside0.mk c3
 go_enter Tryd.func83, Tryd.ntmps83
 go_wp2
 go_region_held3 (fun w' => w'.cell? ⟨g, 0, none⟩ = some (.string s0_0) ∧ w'.cell? ⟨g, 1, none⟩ = some (.int .i64 s0_1)) (go_keep) ((go_at_call 104; refine (text_Next.calls A1.out).mono ?_; rintro e1 w1 ⟨rfl, hd1⟩; have q0 := hd1.cell (p := ⟨g, 0, none⟩) (by simpa using hgw); have q1 := hd1.cell (p := ⟨g, 1, none⟩) (by simpa using hgw)))
 clear q0 q1
 replace hd1 : Below w.heap.size w w1 := ⟨hd1.os, hd1.tape, hd1.output, hd1.size, hd1.block⟩
 have I1 := Aside0.mk (HI0.out.below hd1)
 have K1 := Aside0.mk (KeepBut.of_below hd1 g none)
 have B1 := Aside0.mk (below_weaken HB.out HB.out.size hd1)
 clear hd1 hc0 hc1 HI0 HB A1 hgw
 have hx0 := cellS89_0 I1.out.1
 have hx1 := cellS89_1 I1.out.1
 have hf0 := blk_frozen I1.out.1 0
 have hf1 := blk_frozen I1.out.1 1
 by_cases c4 : c = 92
 ·subst c4
  rw [if_pos rfl] at h
  by_cases c5 : s0_1 + 1 < (s0_0.size : Int)
  rotate_left
  ·rw [if_neg c5] at h; exact absurd h Z21
  rw [if_pos c5] at h
  have e1 : decide ((s0_0.size : Int) ≤ s0_1 + 1) = false := decide_eq_false Z16
  obtain ⟨d, hd⟩ : ∃ d, bt s0_0 (s0_1 + 1) = d := ⟨_, rfl⟩
  have hdr := bt_range s0_0 (s0_1 + 1)
  have hbe := runes_reader_rune.bt_eq s0_0 (s0_1 + 1) Z16
  rw [hd] at h hdr hbe
  go_wp2_with (go_at_call 69; refine (A2.out _).mono ?_; rintro e2 w2 ⟨rfl, ⟨nd, rfl⟩⟩)
  go_quiet (fail)
  generalize nq = nq1
  go_wp2
  have e2 : (0 : Int) ≤ s0_1 + 1 := by omega
  go_quiet (fail)
  simp only [← hbe]
  have hw := Aside0.mk (show wrap32 d = d by unfold wrap32; omega)
  clear hbe hdr hd
  have I2 : IsS89 w0 ((((w1.drewN nd).setCell { block := g, off := 1 } (Value.int IntKind.i64 (s0_1 + 1))).drewN nq1).drewN nq) g s0_0 (s0_1 + 1) s0_2 s0_3 := (((I1.out.drewN nd).set_1 _).drewN _).drewN _
  have B2 : Below w0.heap.size w0 ((((w1.drewN nd).setCell { block := g, off := 1 } (Value.int IntKind.i64 (s0_1 + 1))).drewN nq1).drewN nq) := pw_below_drewN (pw_below_drewN (below_set (pw_below_drewN B1.out nd) I1.out.2) _) _
  have K2 : KeepBut w ((((w1.drewN nd).setCell { block := g, off := 1 } (Value.int IntKind.i64 (s0_1 + 1))).drewN nq1).drewN nq) g none := keep_drewN (keep_drewN ((keep_drewN K1.out nd).set_ _ _) _) _
  clear hx0 hx1 hf0 hf1 I1 B1 K1
  generalize ((((w1.drewN nd).setCell { block := g, off := 1 } (Value.int IntKind.i64 (s0_1 + 1))).drewN nq1).drewN nq) = W2 at I2 B2 K2 ⊢
  have hx0 := cellS89_0 I2.1
  have hx1 := cellS89_1 I2.1
  have hf1 := blk_frozen I2.1 1
  replace I2 := Aside0.mk I2
  replace B2 := Aside0.mk B2
  replace K2 := Aside0.mk K2
  by_cases k1 : d = 91 ∨ d = 93 ∨ d = 45 ∨ d = 94 ∨ d = 34 ∨ d = 92
  ·rw [if_pos k1] at h
   simp only [Option.some.injEq, Prod.mk.injEq] at h
   obtain ⟨rfl, rfl, rfl, rfl, rfl, rfl⟩ := h
   rcases k1 with k1 | k1 | k1 | k1 | k1 | k1
   ·have q91 : (d == 91) = true := beq_iff_eq.2 Z16
    clear k1
    go_wp2
    go_ret2
    exact ⟨congrArg (fun x => Ending.returned (.tuple #[.int .i32 x, .bool true])) hw.out, Z18, below_set B2.out I2.out.2, K2.out.set_ _ _⟩
   ·have q91 : (d == 91) = false := beq_eq_false_iff_ne.2 Z16
    have q93 : (d == 93) = true := beq_iff_eq.2 Z16
    clear k1
    go_wp2
    go_ret2
    exact ⟨congrArg (fun x => Ending.returned (.tuple #[.int .i32 x, .bool true])) hw.out, Z18, below_set B2.out I2.out.2, K2.out.set_ _ _⟩
   ·have q91 : (d == 91) = false := beq_eq_false_iff_ne.2 Z16
    have q93 : (d == 93) = false := beq_eq_false_iff_ne.2 Z16
    have q45 : (d == 45) = true := beq_iff_eq.2 Z16
    clear k1
    go_wp2
    go_ret2
    exact ⟨congrArg (fun x => Ending.returned (.tuple #[.int .i32 x, .bool true])) hw.out, Z18, below_set B2.out I2.out.2, K2.out.set_ _ _⟩
   ·have q91 : (d == 91) = false := beq_eq_false_iff_ne.2 Z16
    have q93 : (d == 93) = false := beq_eq_false_iff_ne.2 Z16
    have q45 : (d == 45) = false := beq_eq_false_iff_ne.2 Z16
    have q94 : (d == 94) = true := beq_iff_eq.2 Z16
    clear k1
    go_wp2
    go_ret2
    exact ⟨congrArg (fun x => Ending.returned (.tuple #[.int .i32 x, .bool true])) hw.out, Z18, below_set B2.out I2.out.2, K2.out.set_ _ _⟩
   ·have q91 : (d == 91) = false := beq_eq_false_iff_ne.2 Z16
    have q93 : (d == 93) = false := beq_eq_false_iff_ne.2 Z16
    have q45 : (d == 45) = false := beq_eq_false_iff_ne.2 Z16
    have q94 : (d == 94) = false := beq_eq_false_iff_ne.2 Z16
    have q34 : (d == 34) = true := beq_iff_eq.2 Z16
    clear k1
    go_wp2
    go_ret2
    exact ⟨congrArg (fun x => Ending.returned (.tuple #[.int .i32 x, .bool true])) hw.out, Z18, below_set B2.out I2.out.2, K2.out.set_ _ _⟩
   ·have q91 : (d == 91) = false := beq_eq_false_iff_ne.2 Z16
    have q93 : (d == 93) = false := beq_eq_false_iff_ne.2 Z16
    have q45 : (d == 45) = false := beq_eq_false_iff_ne.2 Z16
    have q94 : (d == 94) = false := beq_eq_false_iff_ne.2 Z16
    have q34 : (d == 34) = false := beq_eq_false_iff_ne.2 Z16
    have q92 : (d == 92) = true := beq_iff_eq.2 Z16
    clear k1
    go_wp2
    go_ret2
    exact ⟨congrArg (fun x => Ending.returned (.tuple #[.int .i32 x, .bool true])) hw.out, Z18, below_set B2.out I2.out.2, K2.out.set_ _ _⟩
  rw [if_neg k1] at h
  have q91 : (d == 91) = false := beq_eq_false_iff_ne.2 Z16
  have q93 : (d == 93) = false := beq_eq_false_iff_ne.2 Z16
  have q45 : (d == 45) = false := beq_eq_false_iff_ne.2 Z16
  have q94 : (d == 94) = false := beq_eq_false_iff_ne.2 Z16
  have q34 : (d == 34) = false := beq_eq_false_iff_ne.2 Z16
  have q92 : (d == 92) = false := beq_eq_false_iff_ne.2 Z16
  clear k1
  by_cases k2 : d = 110
  ·rw [if_pos k2] at h
   simp only [Option.some.injEq, Prod.mk.injEq] at h
   obtain ⟨rfl, rfl, rfl, rfl, rfl, rfl⟩ := h
   have q110 : (d == 110) = true := beq_iff_eq.2 Z16
   clear k2
   go_wp2
   go_ret2
   exact ⟨rfl, Z18, below_set B2.out I2.out.2, K2.out.set_ _ _⟩
  rw [if_neg k2] at h
  have q110 : (d == 110) = false := beq_eq_false_iff_ne.2 Z16
  clear k2
  by_cases k2 : d = 116
  ·rw [if_pos k2] at h
   simp only [Option.some.injEq, Prod.mk.injEq] at h
   obtain ⟨rfl, rfl, rfl, rfl, rfl, rfl⟩ := h
   have q116 : (d == 116) = true := beq_iff_eq.2 Z16
   clear k2
   go_wp2
   go_ret2
   exact ⟨rfl, Z18, below_set B2.out I2.out.2, K2.out.set_ _ _⟩
  rw [if_neg k2] at h
  have q116 : (d == 116) = false := beq_eq_false_iff_ne.2 Z16
  clear k2
  by_cases k2 : d = 114
  ·rw [if_pos k2] at h
   simp only [Option.some.injEq, Prod.mk.injEq] at h
   obtain ⟨rfl, rfl, rfl, rfl, rfl, rfl⟩ := h
   have q114 : (d == 114) = true := beq_iff_eq.2 Z16
   clear k2
   go_wp2
   go_ret2
   exact ⟨rfl, Z18, below_set B2.out I2.out.2, K2.out.set_ _ _⟩
  rw [if_neg k2] at h
  have q114 : (d == 114) = false := beq_eq_false_iff_ne.2 Z16
  clear k2
  by_cases k2 : d = 117
  ·rw [if_pos k2] at h
   have q117 : (d == 117) = true := beq_iff_eq.2 Z16
   clear k2
   have I3 := Aside0.mk (show IsS89 w0 (W2.setCell { block := g, off := 1 } (Value.int IntKind.i64 (s0_1 + 1 + 1))) g s0_0 (s0_1 + 2) s0_2 s0_3 from by rw [show s0_1 + 2 = s0_1 + 1 + 1 by omega]; exact I2.out.set_1 _)
   have B3 := Aside0.mk (below_set (j := 1) (v := Value.int IntKind.i64 (s0_1 + 1 + 1)) B2.out I2.out.2)
   have h := Aside0.mk h
   go_wp2_with (go_at_call 105; refine (runes_reader_number.calls k g s0_0 (s0_1 + 2) s0_2 s0_3 s0_1 r1 r2 r3 r4 r5 r6 w0 _ I3.out B3.out h.out).mono ?_; rintro e3 w3 ⟨rfl, hI3, hB3, hK3⟩)
   go_ret2
   exact ⟨rfl, hI3, hB3, (K2.out.set_ _ _).trans hK3 (.inl rfl)⟩
  ·rw [if_neg k2] at h
   exact absurd h Z21
 ·rw [if_neg c4] at h
  simp only [Option.some.injEq, Prod.mk.injEq] at h
  obtain ⟨rfl, rfl, rfl, rfl, rfl, rfl⟩ := h
  have c4b : (c != 92) = true := bne_iff_ne.2 c4
  go_wp2_with (go_at_call 69; refine (A2.out _).mono ?_; rintro e2 w2 ⟨rfl, ⟨nd, rfl⟩⟩)
  go_ret2
  exact ⟨rfl, (I1.out.drewN nd).set_1 _, below_set (pw_below_drewN B1.out nd) I1.out.2, (keep_drewN K1.out nd).set_ _ _⟩
end Go.Proofs.YtfnkboilepgmoaaDoor.R
