/- The tied card of the law RunesOf: its row (proved in YtfnkboilepgmoaaDoorDRowRunesOf) closed by the given tie. No condition beyond the card's own. -/
import Derived.Test.YtfnkboilepgmoaaDoorDRowRunesOf
import Derived.Test.YtfnkboilepgmoaaDoorTie
import Derived.Test.YtfnkboilepgmoaaDoorCards
import Derived.SevenTiedAt
namespace Go.Proofs.YtfnkboilepgmoaaDoor
open Go
set_option maxRecDepth 100000
theorem runesOf_card : Rows.RunesOfCardSaid :=
  Claim7.holds_tied_plain_at .later [] [.data, .data, .data] true (true, "858eae38c36fa535bc4adc20a6247c5c884fba3955728c3765da815b7ba146a1") false
    runesOf_holds (fun _ h => by cases h) (by kernel_rfl) (fun _ h => by cases h) runesOf_row_tie rfl ⟨rfl, rfl⟩ (by kernel_rfl) rfl
    (fun f fn hf hfn => by
      obtain rfl : f = 3 := Option.some.inj ((show Tryd.prog.funcNamed Rows.runesOfRow.func = some 3 by kernel_rfl).symm.trans hf) |>.symm
      obtain rfl : fn = Tryd.f3 := (Option.some.inj (Tryd.func3.symm.trans hfn)).symm
      exact ⟨by kernel_rfl, fun j t ht => by
        rw [Tryd.params3] at ht
        have h3 : t = 22 := by
          rcases j with _ | j
          · have : t = 22 := by simpa using ht.symm
            simp [this]
          · simp at ht
        rcases h3 with rfl
        · exact (show Tryd.prog.wantsStandIn 22 = false by kernel_rfl)⟩)
    (by kernel_rfl)
end Go.Proofs.YtfnkboilepgmoaaDoor
