/- The tied card of the law RunesWalks: its row (proved in YtfnkboilepgmoaaDoorYRowRunesWalks) closed by the given tie. No condition beyond the card's own. -/
import Derived.Test.YtfnkboilepgmoaaDoorYRowRunesWalks
import Derived.Test.YtfnkboilepgmoaaDoorTie
import Derived.Test.YtfnkboilepgmoaaDoorCards
import Derived.SevenTiedAt
namespace Go.Proofs.YtfnkboilepgmoaaDoor
open Go
set_option maxRecDepth 100000
theorem runesWalks_card : Rows.RunesWalksCardSaid :=
  Claim7.holds_tied_plain_at .later [] [.data, .data, .data] true (true, "858eae38c36fa535bc4adc20a6247c5c884fba3955728c3765da815b7ba146a1") false
    runesWalks_holds (fun _ h => by cases h) (by kernel_rfl) (fun _ h => by cases h) runesWalks_row_tie rfl ⟨rfl, rfl⟩ (by kernel_rfl) rfl
    (fun f fn hf hfn => by
      obtain rfl : f = 5 := Option.some.inj ((show Tryd.prog.funcNamed Rows.runesWalksRow.func = some 5 by kernel_rfl).symm.trans hf) |>.symm
      obtain rfl : fn = Tryd.f5 := (Option.some.inj (Tryd.func5.symm.trans hfn)).symm
      exact ⟨by kernel_rfl, fun j t ht => by
        rw [Tryd.params5] at ht
        have h3 : t = 5 ∨ t = 22 := by
          rcases j with _ | j
          · have : t = 22 := by simpa using ht.symm
            simp [this]
          · rcases j with _ | j
            · have : t = 5 := by simpa using ht.symm
              simp [this]
            · simp at ht
        rcases h3 with rfl | rfl
        · exact (show Tryd.prog.wantsStandIn 5 = false by kernel_rfl)
        · exact (show Tryd.prog.wantsStandIn 22 = false by kernel_rfl)⟩)
    (by kernel_rfl)
end Go.Proofs.YtfnkboilepgmoaaDoor
