/- The tied card of the law RunesAlgebra: its row (proved in YtfnkboilepgmoaaDoorIRowRunesAlgebra) closed by the given tie. No condition beyond the card's own. -/
import Derived.Test.YtfnkboilepgmoaaDoorIRowRunesAlgebra
import Derived.Test.YtfnkboilepgmoaaDoorTie
import Derived.Test.YtfnkboilepgmoaaDoorCards
import Derived.SevenTiedAt
namespace Go.Proofs.YtfnkboilepgmoaaDoor
open Go
set_option maxRecDepth 100000
theorem runesAlgebra_card : Rows.RunesAlgebraCardSaid :=
  Claim7.holds_tied_plain_at .later [] [.data, .data, .data] true (true, "858eae38c36fa535bc4adc20a6247c5c884fba3955728c3765da815b7ba146a1") false
    runesAlgebra_holds (fun _ h => by cases h) (by kernel_rfl) (fun _ h => by cases h) runesAlgebra_row_tie rfl ⟨rfl, rfl⟩ (by kernel_rfl) rfl
    (fun f fn hf hfn => by
      obtain rfl : f = 8 := Option.some.inj ((show Tryd.prog.funcNamed Rows.runesAlgebraRow.func = some 8 by kernel_rfl).symm.trans hf) |>.symm
      obtain rfl : fn = Tryd.f8 := (Option.some.inj (Tryd.func8.symm.trans hfn)).symm
      exact ⟨by kernel_rfl, fun j t ht => by
        rw [Tryd.params8] at ht
        have h3 : t = 21 ∨ t = 22 := by
          rcases j with _ | j
          · have : t = 22 := by simpa using ht.symm
            simp [this]
          · rcases j with _ | j
            · have : t = 22 := by simpa using ht.symm
              simp [this]
            · rcases j with _ | j
              · have : t = 21 := by simpa using ht.symm
                simp [this]
              · simp at ht
        rcases h3 with rfl | rfl
        · exact (show Tryd.prog.wantsStandIn 21 = false by kernel_rfl)
        · exact (show Tryd.prog.wantsStandIn 22 = false by kernel_rfl)⟩)
    (by kernel_rfl)
end Go.Proofs.YtfnkboilepgmoaaDoor
