/- The tied card of the law RunesSplits: its row (proved in YtfnkboilepgmoaaDoorURowRunesSplits) closed by the given tie. No condition beyond the card's own. -/
import Derived.Test.YtfnkboilepgmoaaDoorURowRunesSplits
import Derived.Test.YtfnkboilepgmoaaDoorTie
import Derived.Test.YtfnkboilepgmoaaDoorCards
import Derived.SevenTiedAt
namespace Go.Proofs.YtfnkboilepgmoaaDoor
open Go
set_option maxRecDepth 100000
theorem runesSplits_card : Rows.RunesSplitsUptoCardSaid :=
  Claim7.holds_tied_plain_at .later [] [.data, .data, .data] true (true, "858eae38c36fa535bc4adc20a6247c5c884fba3955728c3765da815b7ba146a1") false
    runesSplits_holds (fun _ h => by cases h) (by kernel_rfl) (fun _ h => by cases h) runesSplitsUpto_row_tie rfl ⟨rfl, rfl⟩ (by kernel_rfl) rfl
    (fun f fn hf hfn => by
      obtain rfl : f = 11 := Option.some.inj ((show Tryd.prog.funcNamed Rows.runesSplitsRow.func = some 11 by kernel_rfl).symm.trans hf) |>.symm
      obtain rfl : fn = Tryd.f11 := (Option.some.inj (Tryd.func11.symm.trans hfn)).symm
      exact ⟨by kernel_rfl, fun j t ht => by
        rw [Tryd.params11] at ht
        have h3 : t = 21 ∨ t = 39 := by
          rcases j with _ | j
          · have : t = 39 := by simpa using ht.symm
            simp [this]
          · rcases j with _ | j
            · have : t = 21 := by simpa using ht.symm
              simp [this]
            · rcases j with _ | j
              · have : t = 21 := by simpa using ht.symm
                simp [this]
              · simp at ht
        rcases h3 with rfl | rfl
        · exact (show Tryd.prog.wantsStandIn 21 = false by kernel_rfl)
        · exact (show Tryd.prog.wantsStandIn 39 = false by kernel_rfl)⟩)
    (by kernel_rfl)
end Go.Proofs.YtfnkboilepgmoaaDoor
