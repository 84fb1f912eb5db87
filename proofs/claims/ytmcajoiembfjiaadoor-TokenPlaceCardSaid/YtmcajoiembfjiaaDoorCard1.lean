import Derived.Test.YtmcajoiembfjiaaDoorRow1
import Derived.Test.YtmcajoiembfjiaaDoorTie
import Derived.Test.YtmcajoiembfjiaaDoorCards
import Derived.SevenTiedAt
namespace Go.Proofs.YtmcajoiembfjiaaDoor
open Go
theorem tokenReads_card : Rows.TokenReadsCardSaid :=
  Claim7.holds_tied_plain_at .later [] [.listed, .data] true (true, "4d41360e6970d9a975161b0d21f2a03cf6720ea4204e92fa180e7650a9b7b946") false
    tokenReads_holds (fun _ h => by cases h) (by kernel_rfl) (fun _ h => by cases h) tokenReads_row_tie rfl ⟨rfl, rfl⟩ (by kernel_rfl) rfl
    (fun f fn hf hfn => by
      obtain rfl : f = 3 := Option.some.inj ((show Tryd.prog.funcNamed "stepstone/stepstonelaw11.TokenReads" = some 3 by kernel_rfl).symm.trans hf) |>.symm
      obtain rfl : fn = Tryd.f3 := (Option.some.inj (Tryd.func3.symm.trans hfn)).symm
      exact ⟨by kernel_rfl, fun j t ht => by
        rw [Tryd.params3] at ht
        have ht3 : t = 9 := by
          rcases j with _ | j
          · simpa using ht.symm
          · simp at ht
        subst ht3
        exact (show Tryd.prog.wantsStandIn 9 = false by kernel_rfl)⟩)
    (by kernel_rfl)
theorem tokenPlace_card : Rows.TokenPlaceCardSaid :=
  Claim7.holds_tied_plain_at .later [] [.listed, .data] true (true, "4d41360e6970d9a975161b0d21f2a03cf6720ea4204e92fa180e7650a9b7b946") false
    tokenPlace_holds (fun _ h => by cases h) (by kernel_rfl) (fun _ h => by cases h) tokenPlace_row_tie rfl ⟨rfl, rfl⟩ (by kernel_rfl) rfl
    (fun f fn hf hfn => by
      obtain rfl : f = 4 := Option.some.inj ((show Tryd.prog.funcNamed "stepstone/stepstonelaw11.TokenPlace" = some 4 by kernel_rfl).symm.trans hf) |>.symm
      obtain rfl : fn = Tryd.f4 := (Option.some.inj (Tryd.func4.symm.trans hfn)).symm
      exact ⟨by kernel_rfl, fun j t ht => by
        rw [Tryd.params4] at ht
        rcases j with _ | _ | j
        · obtain rfl : t = 9 := by simpa using ht.symm
          exact (show Tryd.prog.wantsStandIn 9 = false by kernel_rfl)
        · obtain rfl : t = 3 := by simpa using ht.symm
          exact (show Tryd.prog.wantsStandIn 3 = false by kernel_rfl)
        · simp at ht⟩)
    (by kernel_rfl)
end Go.Proofs.YtmcajoiembfjiaaDoor
