/- The tied card of the law RunesBack: its row (proved in YtfnkboilepgmoaaDoorKRowRunesBack) closed by the given tie. No condition beyond the card's own. -/
import Derived.Test.YtfnkboilepgmoaaDoorKRowRunesBack
import Derived.Test.YtfnkboilepgmoaaDoorTie
import Derived.Test.YtfnkboilepgmoaaDoorCards
import Derived.SevenTiedAt
namespace Go.Proofs.YtfnkboilepgmoaaDoor
open Go
set_option maxRecDepth 100000
theorem runesBack_card : Rows.RunesBackCardSaid :=
  Claim7.holds_tied_plain_at .later [] [.data, .data, .data] true (true, "858eae38c36fa535bc4adc20a6247c5c884fba3955728c3765da815b7ba146a1") false
    runesBack_holds (fun _ h => by cases h) (by kernel_rfl) (fun _ h => by cases h) runesBack_row_tie rfl ⟨rfl, rfl⟩ (by kernel_rfl) rfl
    (fun f fn hf hfn => by
      obtain rfl : f = 9 := Option.some.inj ((show Tryd.prog.funcNamed Rows.runesBackRow.func = some 9 by kernel_rfl).symm.trans hf) |>.symm
      obtain rfl : fn = Tryd.f9 := (Option.some.inj (Tryd.func9.symm.trans hfn)).symm
      exact ⟨by kernel_rfl, fun j t ht => by
        rw [Tryd.params9] at ht
        have h3 : t = 9 ∨ t = 22 := by
          rcases j with _ | j
          · have : t = 22 := by simpa using ht.symm
            simp [this]
          · rcases j with _ | j
            · have : t = 9 := by simpa using ht.symm
              simp [this]
            · simp at ht
        rcases h3 with rfl | rfl
        · exact (show Tryd.prog.wantsStandIn 9 = false by kernel_rfl)
        · exact (show Tryd.prog.wantsStandIn 22 = false by kernel_rfl)⟩)
    (by kernel_rfl)
end Go.Proofs.YtfnkboilepgmoaaDoor
