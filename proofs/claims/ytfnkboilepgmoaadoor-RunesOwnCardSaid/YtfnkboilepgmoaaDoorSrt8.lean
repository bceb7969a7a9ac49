import Derived.Test.YtfnkboilepgmoaaDoorSrt2
import Derived.Test.YtfnkboilepgmoaaDoorSrt3
import Derived.Test.YtfnkboilepgmoaaDoorSrt4
import Derived.Test.YtfnkboilepgmoaaDoorSrt5
import Derived.Test.YtfnkboilepgmoaaDoorSrt6
import Derived.Test.YtfnkboilepgmoaaDoorSrt7
/- slices.Sort at []rune: the whole. -/
namespace Go.Proofs.YtfnkboilepgmoaaDoor.Srt
open Go Go.Sort Go.RowKit
set_option linter.unusedVariables false
set_option linter.unusedSimpArgs false
theorem insertionLe {w wr : World} {blk cap : Nat} {d dk : Array Int} {a b : Nat} (hH : Holds enc w blk 0 d) (hB : blk < w.heap.size) (hA : At w blk dk wr) (hs : dk.size = d.size) (hsz : d.size < 2305843009213693952) (hab : a ≤ b) (hb : b ≤ d.size) : Calls Tryd.prog 84 #[.slice (some ⟨blk, 0, none⟩) d.size cap, .int .i64 a, .int .i64 b] wr fun e w' => e = .returned (.tuple #[]) ∧ ∃ R, PermIn a b dk R ∧ SortedIn lt a b R ∧ At w blk R w' := by
  have h := insertionSort_holds (lt := lt) swo dk a b (by omega) (by omega)
  rw [← hs]
  exact (insertion blk cap dk a b wr (hA.holds hB hH hs) (hA.lt hB) (by omega) (by omega) (by omega)).mono fun e w' ⟨he, hw⟩ => ⟨he, _, h.1, h.2, hA.trans hw hB h.1.1⟩
theorem heap' {w wr : World} {blk cap : Nat} {d dk : Array Int} {a b : Nat} (hH : Holds enc w blk 0 d) (hB : blk < w.heap.size) (hA : At w blk dk wr) (hs : dk.size = d.size) (hsz : d.size < 2305843009213693952) (hab : a < b) (hb : b ≤ d.size) : Calls Tryd.prog 85 #[.slice (some ⟨blk, 0, none⟩) d.size cap, .int .i64 a, .int .i64 b] wr fun e w' => e = .returned (.tuple #[]) ∧ ∃ R, PermIn a b dk R ∧ SortedIn lt a b R ∧ At w blk R w' := by
  have h := heapSort_holds (lt := lt) swo dk a b (by omega) (by omega)
  rw [← hs]
  exact (heap blk cap dk a b wr (hA.holds hB hH hs) (hA.lt hB) (by omega) (by omega) (by omega)).mono fun e w' ⟨he, hw⟩ => ⟨he, _, h.1, h.2, hA.trans hw hB h.1.1⟩
theorem reversal' {w wr : World} {blk cap : Nat} {d dk : Array Int} {a b : Nat} (hH : Holds enc w blk 0 d) (hB : blk < w.heap.size) (hA : At w blk dk wr) (hs : dk.size = d.size) (hsz : d.size < 2305843009213693952) (hab : a < b) (hb : b ≤ d.size) : Calls Tryd.prog 88 #[.slice (some ⟨blk, 0, none⟩) d.size cap, .int .i64 a, .int .i64 b] wr fun e w' => e = .returned (.tuple #[]) ∧ ∃ R, PermIn a b dk R ∧ At w blk R w' := by
  rw [← hs]
  exact (reversal blk cap dk a b wr (hA.holds hB hH hs) (hA.lt hB) (by omega) (by omega) (by omega)).mono fun e w' ⟨he, R, hp, hw⟩ => ⟨he, R, hp, hA.trans hw hB hp.1⟩
theorem breaks' {w wr : World} {blk cap : Nat} {d dk : Array Int} {a b : Nat} (hH : Holds enc w blk 0 d) (hB : blk < w.heap.size) (hA : At w blk dk wr) (hs : dk.size = d.size) (hsz : d.size < 2305843009213693952) (hab : a < b) (hb : b ≤ d.size) : Calls Tryd.prog 86 #[.slice (some ⟨blk, 0, none⟩) d.size cap, .int .i64 a, .int .i64 b] wr fun e w' => e = .returned (.tuple #[]) ∧ ∃ R, PermIn a b dk R ∧ At w blk R w' := by
  rw [← hs]
  exact (breaks blk cap dk a b wr (hA.holds hB hH hs) (hA.lt hB) (by omega) (by omega) (by omega)).mono fun e w' ⟨he, R, hp, hw⟩ => ⟨he, R, hp, hA.trans hw hB hp.1⟩
theorem choose' {w wr : World} {blk cap : Nat} {d dk : Array Int} {a b : Nat} (hH : Holds enc w blk 0 d) (hB : blk < w.heap.size) (hA : At w blk dk wr) (hs : dk.size = d.size) (hsz : d.size < 2305843009213693952) (hab : a < b) (hb : b ≤ d.size) : Calls Tryd.prog 87 #[.slice (some ⟨blk, 0, none⟩) d.size cap, .int .i64 a, .int .i64 b] wr fun e w' => (∃ (x : Nat) (h : Int), e = .returned (.tuple #[.int .i64 x, .int .i64 h]) ∧ a ≤ x ∧ x < b) ∧ At w blk dk w' := by
  rw [← hs]
  exact (choose blk cap dk a b wr (hA.holds hB hH hs) (hA.lt hB) hab (by omega) (by omega)).mono fun e w' ⟨he, hw⟩ => ⟨he, hA.trans hw hB rfl⟩
theorem partial' {w wr : World} {blk cap : Nat} {d dk : Array Int} {a b : Nat} (hH : Holds enc w blk 0 d) (hB : blk < w.heap.size) (hA : At w blk dk wr) (hs : dk.size = d.size) (hsz : d.size < 2305843009213693952) (hab : a < b) (hb : b ≤ d.size) (hBl : Sort.Below lt a b dk) : Calls Tryd.prog 89 #[.slice (some ⟨blk, 0, none⟩) d.size cap, .int .i64 a, .int .i64 b] wr fun e w' => ∃ r R, e = .returned (.bool r) ∧ PermIn a b dk R ∧ (r = true → SortedIn lt a b R) ∧ At w blk R w' := by
  have h := partialInsertionSort_holds (lt := lt) swo dk a b hab (by omega) hBl
  rw [← hs]
  exact (partialS blk cap dk a b wr (hA.holds hB hH hs) (hA.lt hB) hab (by omega) (by omega)).mono fun e w' ⟨he, hw⟩ => ⟨_, _, he, h.1, h.2, hA.trans hw hB h.1.1⟩
theorem partEqual' {w wr : World} {blk cap : Nat} {d dk : Array Int} {a b : Nat} (hH : Holds enc w blk 0 d) (hB : blk < w.heap.size) (hA : At w blk dk wr) (hs : dk.size = d.size) (hsz : d.size < 2305843009213693952) (hb : b ≤ d.size) {p : Nat} (hp : a ≤ p) (hp2 : p < b) (ha : 0 < a) (hBl : Sort.Below lt a b dk) (hnl : lt dk[a - 1]! dk[p]! = false) : Calls Tryd.prog 91 #[.slice (some ⟨blk, 0, none⟩) d.size cap, .int .i64 a, .int .i64 b, .int .i64 p] wr fun e w' => ∃ (m : Nat) (D : Array Int), e = .returned (.int .i64 m) ∧ At w blk D w' ∧ a < m ∧ m ≤ b ∧ D.size = dk.size ∧ Sort.Below lt m b D ∧ ∀ R, PermIn m b D R → SortedIn lt m b R → PermIn a b dk R ∧ SortedIn lt a b R := by
  have h := round_eq (lt := lt) swo (partitionEqual_holds lt) ha hp hp2 (by omega) hBl hnl rfl
  rw [← hs]
  exact (partEqual blk cap dk a b p wr (hA.holds hB hH hs) (hA.lt hB) hp hp2 (by omega) (by omega)).mono fun e w' ⟨he, hw⟩ => ⟨_, _, he, hA.trans hw hB h.2.2.1, h⟩
theorem part' {w wr : World} {blk cap : Nat} {d dk : Array Int} {a b : Nat} (hH : Holds enc w blk 0 d) (hB : blk < w.heap.size) (hA : At w blk dk wr) (hs : dk.size = d.size) (hsz : d.size < 2305843009213693952) (hb : b ≤ d.size) {p : Nat} (hp : a ≤ p) (hp2 : p < b) (hBl : Sort.Below lt a b dk) : Calls Tryd.prog 92 #[.slice (some ⟨blk, 0, none⟩) d.size cap, .int .i64 a, .int .i64 b, .int .i64 p] wr fun e w' => ∃ (m : Nat) (r : Bool) (D : Array Int), e = .returned (.tuple #[.int .i64 m, .bool r]) ∧ At w blk D w' ∧ a ≤ m ∧ m < b ∧ D.size = dk.size ∧ Sort.Below lt a m D ∧ Sort.Below lt (m + 1) b D ∧
    (∀ L, PermIn a m D L → SortedIn lt a m L → Sort.Below lt (m + 1) b L ∧ ∀ R, PermIn (m + 1) b L R → SortedIn lt (m + 1) b R → PermIn a b dk R ∧ SortedIn lt a b R) ∧
    (∀ L, PermIn (m + 1) b D L → SortedIn lt (m + 1) b L → Sort.Below lt a m L ∧ ∀ R, PermIn a m L R → SortedIn lt a m R → PermIn a b dk R ∧ SortedIn lt a b R) := by
  have h := round_part (lt := lt) swo (partition_holds lt) hp hp2 (by omega) hBl rfl
  rw [← hs]
  exact (part blk cap dk a b p wr (hA.holds hB hH hs) (hA.lt hB) hp hp2 (by omega) (by omega)).mono fun e w' ⟨he, hw⟩ => ⟨_, _, _, he, hA.trans hw hB h.2.2.1, h⟩
set_option maxHeartbeats 8000000 in
set_option maxRecDepth 100000 in
theorem pdqW (blk cap : Nat) : ∀ (n : Nat) (d : Array Int) (a b : Nat) (lim : Int) (w : World), b - a ≤ n → Holds enc w blk 0 d → blk < w.heap.size → a ≤ b → b ≤ d.size → d.size < 2305843009213693952 → Sort.Below lt a b d →
    Calls Tryd.prog 73 #[.slice (some ⟨blk, 0, none⟩) d.size cap, .int .i64 a, .int .i64 b, .int .i64 lim] w fun e w' => e = .returned (.tuple #[]) ∧ ∃ R, PermIn a b d R ∧ SortedIn lt a b R ∧ At w blk R w' := by
  intro n
  induction n with
  | zero =>
    intro d a b lim w hn hH hB hab hb hsz hBl
    have hds0 : d.size = d.size := rfl
    have HA := Aside0.mk (At.start hH)
    obtain rfl : a = b := by omega
    have E0 : IntKind.i64.wrap ((a : Int) - (a : Int)) = 0 := wi (by omega) (by omega) (by omega)
    go_enter Tryd.func73, Tryd.ntmps73
    go_wp2
    refine wp_loop_once ?_
    go_wp2_with (go_at_call 84; refine (insertion blk cap d a a w hH hB hb (by omega) hb).mono ?_; rintro e W1 ⟨rfl, hR⟩)
    refine bodyPost_ret (results_none rfl _ _ _) rfl ?_
    have h := insertionSort_holds (lt := lt) swo d a a (Nat.le_refl _) hb
    exact ⟨rfl, _, h.1, h.2, hR⟩
  | succ n ih =>
    intro d a b lim w hn hH hB hab hb hsz hBl
    have HA := Aside0.mk (At.start hH)
    have hBl := Aside0.mk hBl
    go_enter Tryd.func73, Tryd.ntmps73
    go_wp2
    have rec1 : ∀ (D : Array Int) (x y : Nat) (li : Int) (W : World), y - x ≤ n → x ≤ y → y ≤ d.size → D.size = d.size → At w blk D W → Sort.Below lt x y D → Calls Tryd.prog 73 #[.slice (some ⟨blk, 0, none⟩) d.size cap, .int .i64 x, .int .i64 y, .int .i64 li] W fun e w' => e = .returned (.tuple #[]) ∧ ∃ R, PermIn x y D R ∧ SortedIn lt x y R ∧ At w blk R w' := by
      intro D x y li W h1 h2 h3 h4 h5 h6
      have := ih D x y li W h1 (h5.holds hB hH h4) (h5.lt hB) h2 (by omega) (by omega) h6
      rw [h4] at this
      exact this.mono fun e w' ⟨he, R, hp, hq, hR⟩ => ⟨he, R, hp, hq, h5.trans hR hB hp.1⟩
    go_loopw [1, 2, 3, 8, 9] (fun s1 s2 s3 s8 s9 wr => ∃ (i j : Nat) (li : Int) (bal par : Bool) (dk : Array Int), s1 = .int .i64 i ∧ s2 = .int .i64 j ∧ s3 = .int .i64 li ∧ s8 = .bool bal ∧ s9 = .bool par ∧ a ≤ i ∧ i ≤ j ∧ j ≤ b ∧ dk.size = d.size ∧ Aside0 (At w blk dk wr) ∧ Aside0 (Sort.Below lt i j dk) ∧ Aside0 (∀ R, PermIn i j dk R → SortedIn lt i j R → PermIn a b d R ∧ SortedIn lt a b R)) (fun s1 s2 _ _ _ _ => (intOf s2 - intOf s1).toNat)
    case atStart => exact ⟨a, b, lim, true, true, d, rfl, rfl, rfl, rfl, rfl, Nat.le_refl _, hab, Nat.le_refl _, rfl, HA, hBl, ⟨fun R h1 h2 => ⟨h1, h2⟩⟩⟩
    case round =>
      clear HA hBl
      obtain ⟨i, j, li, bal, par, dk, rfl, rfl, rfl, rfl, rfl, hi, hij, hj, hds, HA, HBl, HK⟩ := hrel
      obtain ⟨l, hl⟩ : ∃ l, j - i = l := ⟨_, rfl⟩
      have E0 : IntKind.i64.wrap ((j : Int) - (i : Int)) = (l : Int) := wi (by omega) (by omega) (by omega)
      by_cases c12 : l ≤ 12
      · have d2 : decide (l ≤ 12) = true := decide_eq_true c12
        have d3 : decide ((l : Int) ≤ 12) = true := decide_eq_true (by omega)
        have hA := HA.out
        go_wp2_with (go_at_call 84; refine (insertionLe hH hB hA hds hsz hij (by omega)).mono ?_; rintro e W1 ⟨rfl, R, hR1, hR2, hR⟩)
        refine bodyPost_ret (results_none rfl _ _ _) rfl ?_
        exact ⟨rfl, R, (HK.out R hR1 hR2).1, (HK.out R hR1 hR2).2, hR⟩
      · have d2 : decide (l ≤ 12) = false := decide_eq_false c12
        have d3 : decide ((l : Int) ≤ 12) = false := decide_eq_false (by omega)
        have hij2 : i < j := by omega
        have hj2 : j ≤ d.size := by omega
        by_cases c0 : li = 0
        · subst c0
          have hA := HA.out
          go_wp2_with (go_at_call 85; refine (heap' hH hB hA hds hsz hij2 hj2).mono ?_; rintro e W1 ⟨rfl, R, hR1, hR2, hR⟩)
          refine bodyPost_ret (results_none rfl _ _ _) rfl ?_
          exact ⟨rfl, R, (HK.out R hR1 hR2).1, (HK.out R hR1 hR2).2, hR⟩
        · have b0 : (li == 0) = false := beq_eq_false_iff_ne.mpr c0
          go_upto_if 35 with (fail)
          go_cut [3] (fun s wc => ∃ (l2 : Int) (d1 : Array Int), s = .int .i64 l2 ∧ Aside0 (PermIn i j dk d1) ∧ Aside0 (At w blk d1 wc))
          case first =>
            cases bal
            · have hA := HA.out
              go_wp2_with (go_at_call 86; refine (breaks' hH hB hA hds hsz hij2 hj2).mono ?_; rintro e W1 ⟨rfl, R, hR1, hR⟩)
              go_meet
              case rel => exact ⟨_, R, rfl, ⟨hR1⟩, ⟨hR⟩⟩
            · go_wp2
              go_meet
              case rel => exact ⟨_, dk, rfl, ⟨permIn_refl _ _ _⟩, HA⟩
          case rest =>
            clear HA
            obtain ⟨l2, d1, rfl, HP1, HA⟩ := hcut
            have hs1 : d1.size = d.size := HP1.out.1.trans hds
            have hA := HA.out
            clear HA
            go_upto_if 50 with (go_at_call 87; refine (choose' hH hB hA hs1 hsz hij2 hj2).mono ?_; rintro e W1 ⟨⟨x, h, rfl, hx1, hx2⟩, hR⟩)
            clear hA
            have HA := Aside0.mk hR
            clear hR
            go_cut [11, 12] (fun s t wc => ∃ (x2 : Nat) (h2 : Int) (d2 : Array Int), s = .int .i64 x2 ∧ t = .int .i64 h2 ∧ i ≤ x2 ∧ x2 < j ∧ Aside0 (PermIn i j d1 d2) ∧ Aside0 (At w blk d2 wc))
            case first =>
              by_cases c2 : h = 2
              · subst c2
                have hA := HA.out
                have W1 : IntKind.i64.wrap ((x : Int) - (i : Int)) = ((x - i : Nat) : Int) := wi (by omega) (by omega) (by omega)
                obtain ⟨y, hy⟩ : ∃ y, x - i = y := ⟨_, rfl⟩
                rw [hy] at W1
                obtain ⟨z, hz⟩ : ∃ z, j - 1 - y = z := ⟨_, rfl⟩
                have W2 : IntKind.i64.wrap ((j : Int) - 1 - (y : Int)) = (z : Int) := wi (by omega) (by omega) (by omega)
                go_wp2_with (go_at_call 88; refine (reversal' hH hB hA hs1 hsz hij2 hj2).mono ?_; rintro e W1 ⟨rfl, R, hR1, hR⟩)
                go_meet
                case rel => exact ⟨z, 1, R, rfl, rfl, by omega, by omega, ⟨hR1⟩, ⟨hR⟩⟩
              · have b2 : (h == 2) = false := beq_eq_false_iff_ne.mpr c2
                go_wp2
                go_meet
                case rel => exact ⟨x, h, d1, rfl, rfl, hx1, hx2, ⟨permIn_refl _ _ _⟩, HA⟩
            case rest =>
              clear HA hx1 hx2
              obtain ⟨p, h2, d2, rfl, rfl, hp1, hp2, HP2, HA⟩ := hcut
              have hs2 : d2.size = d.size := HP2.out.1.trans hs1
              have HP3 := permIn_trans _ _ _ _ _ HP1.out HP2.out
              have hB2 := HBl.out.perm (by omega) HP3
              clear HP1 HP2
              replace HP3 := Aside0.mk HP3
              replace hB2 := Aside0.mk hB2
              go_upto_region 15 with (fail)
              go_cut [68] (fun s wc => ∃ B : Bool, s = .bool B ∧ Aside0 (At w blk d2 wc))
              case first =>
                cases bal
                · go_wp2
                  go_meet
                  case rel => exact ⟨false, rfl, HA⟩
                · cases par
                  · go_wp2
                    go_meet
                    case rel => exact ⟨false, rfl, HA⟩
                  · by_cases c1 : h2 = 1
                    · subst c1
                      go_wp2
                      go_meet
                      case rel => exact ⟨true, rfl, HA⟩
                    · have b1 : (h2 == 1) = false := beq_eq_false_iff_ne.mpr c1
                      go_wp2
                      go_meet
                      case rel => exact ⟨false, rfl, HA⟩
              case rest =>
                clear HA
                obtain ⟨B, rfl, HA⟩ := hcut
                go_upto_if 68 with (fail)
                go_cut [] (fun wc => ∃ (d3 : Array Int), Aside0 (PermIn i j d2 d3) ∧ Aside0 (At w blk d3 wc))
                case first =>
                  cases B
                  · go_wp2
                    go_meet
                    case rel => exact ⟨d2, ⟨permIn_refl _ _ _⟩, HA⟩
                  · have hA := HA.out
                    have hB3 := hB2.out
                    go_upto_if 72 with (go_at_call 89; refine (partial' hH hB hA hs2 hsz hij2 hj2 hB3).mono ?_; rintro e W1 ⟨r, R, rfl, hR1, hR2, hR⟩)
                    cases r
                    · go_wp2
                      go_meet
                      case rel => exact ⟨R, ⟨hR1⟩, ⟨hR⟩⟩
                    · go_wp2
                      refine bodyPost_ret (results_none rfl _ _ _) rfl ?_
                      have h9 := HK.out R (permIn_trans _ _ _ _ _ HP3.out hR1) (by first | exact hR2 rfl | exact hR2 trivial)
                      exact ⟨rfl, R, h9.1, h9.2, hR⟩
                case rest =>
                  clear HA
                  obtain ⟨d3, HP4, HA⟩ := hcut
                  have hs3 : d3.size = d.size := HP4.out.1.trans hs2
                  have HP5 := permIn_trans _ _ _ _ _ HP3.out HP4.out
                  have hB3 := HBl.out.perm (by omega) HP5
                  have HK3 : ∀ R, PermIn i j d3 R → SortedIn lt i j R → PermIn a b d R ∧ SortedIn lt a b R := fun R h1 h2 => HK.out R (permIn_trans _ _ _ _ _ HP5 h1) h2
                  clear HP3 HP4 hB2 HBl HK HP5
                  replace hB3 := Aside0.mk hB3
                  replace HK3 := Aside0.mk HK3
                  go_upto_region 17 with (fail)
                  go_cut [87] (fun s wc => ∃ C : Bool, s = .bool C ∧ Aside0 (C = true → 0 < i ∧ lt d3[i - 1]! d3[p]! = false) ∧ Aside0 (At w blk d3 wc))
                  case first =>
                    by_cases ci : 0 < i
                    · have d4 : decide (0 < i) = true := decide_eq_true ci
                      have d5 : decide ((0 : Int) < (i : Int)) = true := decide_eq_true (by omega)
                      obtain ⟨m, hm⟩ : ∃ m, m + 1 = i := ⟨i - 1, by omega⟩
                      have e2 : (i : Int) - 1 = (m : Int) := by omega
                      have hh := HA.out.holds hB hH hs3
                      obtain ⟨ci, fi⟩ := at_cell hh (i := m) (by omega)
                      obtain ⟨cj, fj⟩ := at_cell hh (i := p) (by omega)
                      clear hh
                      obtain ⟨X, hX⟩ : ∃ X, d3[m]! = X := ⟨_, rfl⟩
                      rw [hX] at ci
                      obtain ⟨Y, hY⟩ : ∃ Y, d3[p]! = Y := ⟨_, rfl⟩
                      rw [hY] at cj
                      have v0_ := eq_true (show (0 : Int) ≤ (m : Int) by omega)
                      have v1_ := eq_true (show (m : Int) < (d.size : Int) by omega)
                      have v2_ := eq_true (show (0 : Int) ≤ (p : Int) by omega)
                      have v3_ := eq_true (show (p : Int) < (d.size : Int) by omega)
                      obtain ⟨L, hL⟩ : ∃ L, lt X Y = L := ⟨_, rfl⟩
                      have hC : (!L) = true → 0 < i ∧ lt d3[i - 1]! d3[p]! = false := fun h => ⟨by omega, by rw [show i - 1 = m by omega, hX, hY, hL]; simpa using h⟩
                      replace hC := Aside0.mk hC
                      replace hL := Aside0.mk hL
                      clear hX hY hm
                      go_quiet ((go_at_call 90; refine Calls.quiet_of (less _ _ L hL.out _)))
                      have HA2 := Aside0.mk (HA.out.drewN nq)
                      go_wp2
                      go_meet
                      case rel => exact ⟨!L, by first | rfl | simp, hC, HA2⟩
                    · have d4 : decide (0 < i) = false := decide_eq_false ci
                      have d5 : decide ((0 : Int) < (i : Int)) = false := decide_eq_false (by omega)
                      go_quiet (fail)
                      have HA2 := Aside0.mk (HA.out.drewN nq)
                      go_wp2
                      go_meet
                      case rel => exact ⟨false, rfl, ⟨fun h => by simp at h⟩, HA2⟩
                  case rest =>
                    clear HA
                    obtain ⟨C, rfl, HC, HA⟩ := hcut
                    have hA := HA.out
                    have hB3 := hB3.out
                    have hK := HK3.out
                    cases C
                    · clear HC
                      obtain ⟨q8, hq8⟩ : ∃ q8, l / 8 = q8 := ⟨_, rfl⟩
                      have E8 : (l : Int).tdiv 8 = (q8 : Int) := by rw [Int.tdiv_eq_ediv_of_nonneg (by omega)]; omega
                      go_upto_if 113 with (go_at_call 92; refine (part' hH hB hA hs3 hsz hj2 hp1 hp2 hB3).mono ?_; rintro e W1 ⟨m, r, D, rfl, hR, hm1, hm2, hm3, hm4, hm5, hm6, hm7⟩; obtain ⟨ll, hll⟩ : ∃ ll, m - i = ll := ⟨_, rfl⟩; obtain ⟨rr, hrr⟩ : ∃ rr, j - m = rr := ⟨_, rfl⟩; have W1 : IntKind.i64.wrap ((m : Int) - (i : Int)) = (ll : Int) := wi (by omega) (by omega) (by omega); have W2 : IntKind.i64.wrap ((j : Int) - (m : Int)) = (rr : Int) := wi (by omega) (by omega) (by omega))
                      have hsD : D.size = d.size := hm3.trans hs3
                      clear hq8
                      by_cases cc : ll < rr
                      · have d4 : decide (ll < rr) = true := decide_eq_true cc
                        have d5 : decide ((ll : Int) < (rr : Int)) = true := decide_eq_true (by omega)
                        have hn1 : m - i ≤ n := by omega
                        clear hll hrr
                        go_wp2_with (go_at_call 73; refine (rec1 D i m l2 _ hn1 hm1 (by omega) hsD hR hm4).mono ?_; rintro e W2 ⟨rfl, R, hR1, hR2, hR3⟩)
                        have h6 := hm6 R hR1 hR2
                        go_roundw
                        case rel => exact ⟨m + 1, j, l2, _, r, R, by simp, rfl, rfl, rfl, rfl, by omega, by omega, hj, hR1.1.trans hsD, ⟨hR3⟩, ⟨h6.1⟩, ⟨fun S h1 h2 => hK S (h6.2 S h1 h2).1 (h6.2 S h1 h2).2⟩⟩
                        case measure => simp [intOf] <;> omega
                      · have d4 : decide (ll < rr) = false := decide_eq_false cc
                        have d5 : decide ((ll : Int) < (rr : Int)) = false := decide_eq_false (by omega)
                        have hn1 : j - (m + 1) ≤ n := by omega
                        obtain ⟨m1, hm9⟩ : ∃ m1, m + 1 = m1 := ⟨_, rfl⟩
                        have e3 : (m : Int) + 1 = (m1 : Int) := by omega
                        rw [hm9] at hm5 hm7 hn1
                        clear hll hrr
                        go_wp2_with (go_at_call 73; refine (rec1 D m1 j l2 _ hn1 (by omega) hj2 hsD hR hm5).mono ?_; rintro e W2 ⟨rfl, R, hR1, hR2, hR3⟩)
                        have h6 := hm7 R hR1 hR2
                        go_roundw
                        case rel => exact ⟨i, m, l2, _, r, R, rfl, rfl, rfl, rfl, rfl, by omega, by omega, by omega, hR1.1.trans hsD, ⟨hR3⟩, ⟨h6.1⟩, ⟨fun S h1 h2 => hK S (h6.2 S h1 h2).1 (h6.2 S h1 h2).2⟩⟩
                        case measure => simp [intOf] <;> omega
                    · obtain ⟨hc1, hc2⟩ := HC.out rfl
                      go_wp2_with (go_at_call 91; refine (partEqual' hH hB hA hs3 hsz hj2 hp1 hp2 hc1 hB3 hc2).mono ?_; rintro e W1 ⟨m, D, rfl, hR, hm1, hm2, hm3, hm4, hm5⟩)
                      go_roundw
                      case rel => exact ⟨m, j, l2, bal, par, D, rfl, rfl, rfl, rfl, rfl, by omega, by omega, hj, hm3.trans hs3, ⟨hR⟩, ⟨hm4⟩, ⟨fun R h1 h2 => hK R (hm5 R h1 h2).1 (hm5 R h1 h2).2⟩⟩
                      case measure => simp [intOf] <;> omega
set_option maxHeartbeats 8000000 in
set_option maxRecDepth 100000 in
/-- slices.Sort: the row is sorted. -/
theorem sorts (blk cap : Nat) (d : Array Int) (w : World) (hH : Holds enc w blk 0 d) (hB : blk < w.heap.size) (hsz : d.size < 2305843009213693952) :
    Calls Tryd.prog 61 #[.slice (some ⟨blk, 0, none⟩) d.size cap] w fun e w' => e = .returned (.tuple #[]) ∧ ∃ R, PermIn 0 d.size d R ∧ SortedIn lt 0 d.size R ∧ At w blk R w' := by
  have hcv : IntKind.u64.wrap (d.size : Int) = (d.size : Int) := by rw [IntKind.wrap_u64]; omega
  have hp := pdqW blk cap (d.size - 0) d 0 d.size
  go_enter Tryd.func61, Tryd.ntmps61
  go_wp2_with (first | (go_at_call 74; refine (bitsLen _ _ (by omega) (by omega)).mono ?_; rintro e w1 ⟨rfl, rfl⟩) | (go_at_call 73; refine (hp _ _ (Nat.le_refl _) hH hB (Nat.zero_le _) (Nat.le_refl _) hsz (.inl rfl)).mono ?_; rintro e w2 ⟨rfl, R, h1, h2, h3⟩))
  go_end0
  exact ⟨rfl, R, h1, h2, h3⟩
end Go.Proofs.YtfnkboilepgmoaaDoor.Srt
