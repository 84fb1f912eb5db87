import Derived.Test.YtmcajoiembfjiaaDoorRow4
import Derived.Test.YtmcajoiembfjiaaDoorTie
import Derived.Test.YtmcajoiembfjiaaDoorCards
import Derived.SevenTiedAt
namespace Go.Proofs.YtmcajoiembfjiaaDoor
open Go
theorem tokenRises_card : Rows.TokenRisesCardSaid :=
  Claim7.holds_tied_plain_at .later [] [.listed, .data] true (true, "4d41360e6970d9a975161b0d21f2a03cf6720ea4204e92fa180e7650a9b7b946") false
    tokenRises_holds (fun _ h => by cases h) (by kernel_rfl) (fun _ h => by cases h) tokenRises_row_tie rfl ⟨rfl, rfl⟩ (by kernel_rfl) rfl
    (fun f fn hf hfn => by
      obtain rfl : f = 5 := Option.some.inj ((show Tryd.prog.funcNamed "stepstone/stepstonelaw11.TokenRises" = some 5 by kernel_rfl).symm.trans hf) |>.symm
      obtain rfl : fn = Tryd.f5 := (Option.some.inj (Tryd.func5.symm.trans hfn)).symm
      exact ⟨by kernel_rfl, fun j t ht => by
        rw [Tryd.params5] at ht
        have ht3 : t = 9 := by
          rcases j with _ | j
          · simpa using ht.symm
          · simp at ht
        subst ht3
        exact (show Tryd.prog.wantsStandIn 9 = false by kernel_rfl)⟩)
    (by kernel_rfl)
end Go.Proofs.YtmcajoiembfjiaaDoor
