import Derived.Test.YtmcajoiembfjiaaDoorRow3
import Derived.Test.YtmcajoiembfjiaaDoorTie
import Derived.Test.YtmcajoiembfjiaaDoorCards
import Derived.SevenTiedAt
namespace Go.Proofs.YtmcajoiembfjiaaDoor
open Go
theorem tokenJoins_card : Rows.TokenJoinsCardSaid :=
  Claim7.holds_tied_plain_at .later [] [.listed, .data] true (true, "4d41360e6970d9a975161b0d21f2a03cf6720ea4204e92fa180e7650a9b7b946") false
    tokenJoins_holds (fun _ h => by cases h) (by kernel_rfl) (fun _ h => by cases h) tokenJoins_row_tie rfl ⟨rfl, rfl⟩ (by kernel_rfl) rfl
    (fun f fn hf hfn => by
      obtain rfl : f = 7 := Option.some.inj ((show Tryd.prog.funcNamed "stepstone/stepstonelaw11.TokenJoins" = some 7 by kernel_rfl).symm.trans hf) |>.symm
      obtain rfl : fn = Tryd.f7 := (Option.some.inj (Tryd.func7.symm.trans hfn)).symm
      exact ⟨by kernel_rfl, fun j t ht => by
        rw [Tryd.params7] at ht
        rcases j with _ | _ | j
        · obtain rfl : t = 9 := by simpa using ht.symm
          exact (show Tryd.prog.wantsStandIn 9 = false by kernel_rfl)
        · obtain rfl : t = 9 := by simpa using ht.symm
          exact (show Tryd.prog.wantsStandIn 9 = false by kernel_rfl)
        · simp at ht⟩)
    (by kernel_rfl)
end Go.Proofs.YtmcajoiembfjiaaDoor
