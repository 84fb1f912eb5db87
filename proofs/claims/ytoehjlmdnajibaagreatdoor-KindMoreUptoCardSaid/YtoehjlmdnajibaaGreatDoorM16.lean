/- Layer 15, KindMore: an expression's kind does not hang on a variable whose name does not stand in it, nor on the places, but for that of a fault; in the Upto form. Part 16 of 16. -/
import Derived.Test.YtoehjlmdnajibaaGreatDoorRows
import Derived.Test.YtoehjlmdnajibaaGreatDoorM15
import Derived.Deep.DeepHandedRow
import Derived.ProofKit
import Derived.LaidMore
import Derived.OpenShut
import Derived.Shelf.Vars
import Derived.Carry
import Derived.JoinedCond
import Derived.Deep.DeepWitnessRowRef
import Derived.Stop.Joined
import Derived.Test.YtoehjlmdnajibaaGreatDoorTie
import Derived.Test.YtoehjlmdnajibaaGreatDoorCards
import Derived.SevenTiedAt
set_option maxRecDepth 100000
set_option maxHeartbeats 16000000
section
namespace Go.Proofs.YtoehjlmdnajibaaGreatDoor
open Go.ChangeShapes Go.WideShapes Go.ChangeAt Go.RowKit Go.Sx
open Go.ChangeMaps (open_string)
theorem own : ownKnob Tryz.prog.godebug = none := by kernel_rfl
theorem below_ext {w w' : World} (h : Ext w w') : Below w.heap.size w w' := ⟨h.os, h.tape, h.output, h.size, fun k hk => h.blk k hk (fun x => x)⟩
section
variable {H : Type} {enc : TypeId × Value → H} {P : Program}
theorem post_ext2 {f : Func} {s : ChangeSpec} {apart fresh handsOn : Bool} {W W' : World} {args : Array Value} {v : Value} {ds gs : List (DataW H)} {before pa pv : List MemPlace}
    (hW : DataW.Whole enc P f.params.toList s.vars apart W args.toList ds gs before)
    (hres : ∀ (b : Nat) (sp : Nat → Bool) (hd : Bool), DataW.TrodAll enc P W' b sp hd f.resultTypes.toList (v.resultList f.resultTypes.size) (s.fn H (ds ++ gs)).results [])
    (hargs : DataW.TrodAll enc P W' 0 (fun b => decide (b < W.heap.size)) true f.params.toList args.toList (s.fn H (ds ++ gs)).args pa)
    (hvars : ∀ sp : Nat → Bool, (∀ p ∈ before, sp p.block = true) → DataW.TrodVars enc P W' sp s.vars (s.fn H (ds ++ gs)).vars pv)
    (hps : before = pa ++ pv) (hb : Below W.heap.size W W') : s.post enc P f apart fresh handsOn false W args v W' := by
  have hold : ∀ p ∈ before, (fun b => decide (b < W.heap.size)) p.block = true := fun p hp => by simpa using hW.lt p hp
  exact ⟨ds, gs, before, [], pa, pv, hW, hres _ _ _, hargs, hvars _ hold, hb.frame _, fun h => by cases h⟩
end
theorem agg_of {v : Value} {n : Nat} (h : v.cells.toList.length = n + 2) : v = .agg v.cells.toList.toArray := by
  cases v <;> first | rfl | (simp [Value.cells] at h)
theorem laidB : laidOutB Tryz.prog = true := by kernel_rfl
theorem door_met (os : Os) (args : Array Value) : laidMetH Tryz.prog Rows.kindMoreUptoRow.laid ((World.doorLaid Tryz.prog 400 os).forCall (fun _ _ => 0) ⟨#[], args, []⟩).memory :=
  laidMetH_of_parts3 (fuel := 8) (laidMet_of_run' 8 (by kernel_rfl) (by kernel_rfl)) (by kernel_rfl) (by kernel_rfl)
theorem tb_of_laid {W : World} (h : laidMetH Tryz.prog Rows.kindMoreUptoRow.laid W) : Tb W := by
  rw [MakeChecks.laidMetH_plain _ _ _ (by kernel_rfl)] at h
  obtain ⟨ps, ⟨g0, t0, cs0, f0, p0, q0, hg0, ht0, hv0, hd0, ⟨g1, t1, cs1, f1, p1, q1, hg1, ht1, hv1, hd1, hr1, hq0⟩, hps⟩, hn, hm⟩ := h
  refine Tb.of (Lib.tabIs_of_head (g := 1) (t := 195) (e := 5) (n := 256) (rest := []) (by kernel_rfl) (by kernel_rfl) Tryz.underlying195 Tryz.underlying5 (by kernel_rfl) (by kernel_rfl) (W := W) ⟨q0, ⟨g1, t1, cs1, f1, p1, q1, hg1, ht1, hv1, hd1, hr1, hq0⟩, ?_, ?_⟩)
  · rw [hps] at hn; exact (List.nodup_append.1 hn).2.1
  · exact fun b off hx => hm b off (by rw [hps]; exact List.mem_append.2 (.inr hx))
theorem size_of_shaped {P : Program} {w : World} {g : Nat} (h : w.ShapedOpen P) (hg : g < P.globals.size) (h0 : (((begin P (fun _ _ => 0) default).world.heap[g]?).bind Obj.row?).isSome = true) : g < w.heap.size := by
  obtain ⟨⟨zero, t⟩, h1⟩ := Option.isSome_iff_exists.1 h0
  obtain ⟨cs, hh, _⟩ := h.1 g zero t hg h1
  exact (Array.getElem?_eq_some_iff.1 hh).1

theorem kindMore_reads (os : Os) {H : Type} (enc : TypeId × Value → H) : DataW.whole enc Tryz.prog ((World.doorLaid Tryz.prog 400 os).forCall (fun _ _ => 0) ⟨#[], #[(.agg #[.int .u8 0, .int .i64 0, .string ⟨#[]⟩, .slice none 0 0]), .slice none 0 0, (.agg #[.string ⟨#[]⟩, .int .u8 0, .int .i64 0, .bool false])], []⟩).memory Tryz.f8.params.toList Rows.kindMoreSpec.vars false #[(.agg #[.int .u8 0, .int .i64 0, .string ⟨#[]⟩, .slice none 0 0]), .slice none 0 0, (.agg #[.string ⟨#[]⟩, .int .u8 0, .int .i64 0, .bool false])].toList 8 = some ([.agg [.lit (.int .u8 0), .lit (.int .i64 0), .lit (.string []), .nil], .nil, .agg [.lit (.string []), .lit (.int .u8 0), .lit (.int .i64 0), .lit (.bool false)]], [], []) := by kernel_rfl
theorem kindMore_lifted (os : Os) (started : os.Started) (H : Type) (enc : TypeId × Value → H) (F : Stop.Interp) :
    ReturnsInHanded {} Tryz.checked os 8 .any ((Rows.OpenSpec.upto Rows.kindMoreSpec).preRow enc Tryz.prog Tryz.f8 Rows.kindMoreUptoRow.domain false Rows.kindMoreUptoRow.laid) (((Rows.OpenSpec.upto Rows.kindMoreSpec).at F).post enc Tryz.prog Tryz.f8 false true false false) := by
  refine returnsInHanded_of_row (C := Tryz.checked) (s := Rows.OpenSpec.upto Rows.kindMoreSpec) own started (by kernel_rfl) Tryz.func8
    (witness_row_atRef (enc := enc) (C := Tryz.checked) false (World.doorLaid Tryz.prog 400 os) #[(.agg #[.int .u8 0, .int .i64 0, .string ⟨#[]⟩, .slice none 0 0]), .slice none 0 0, (.agg #[.string ⟨#[]⟩, .int .u8 0, .int .i64 0, .bool false])] rfl (by kernel_rfl) (by kernel_rfl) (by kernel_rfl)
      (OpenSpec.preRow_of_cond 8 (kindMore_reads os enc) (by rfl) (fun k hkk => by cases hkk; kernel_rfl) (by kernel_rfl) (door_met os _))) ?_
  intro W base args ds gs before hval0 hW _ hcond _ hL hsh _
  have hval : ∀ (j : Nat) t v, Tryz.f8.params[j]? = some t → args[j]? = some v → Value.okWide Tryz.prog W .any base t v := hval0
  have hW' := hW
  have hlt : ∀ y ∈ before, y.block < W.heap.size := fun y hy => by simpa using hW'.lt y hy
  obtain ⟨p, q, hA0, hV, rfl, _, _⟩ := hW
  have hA : DataW.TrodAll enc Tryz.prog W 0 (fun _ => true) true Tryz.f8.params.toList args.toList ds p := hA0
  rw [Tryz.params8] at hA hval
  obtain ⟨v0, v1, v2, d0, d1, d2, p0, p1, p2, rfl, rfl, rfl, h0, h1, h2⟩ := trodAll_three hA
  obtain ⟨rfl, rfl⟩ := trodVars_none hV
  have hk0 := h0
  obtain ⟨f0, ht0⟩ := h0
  obtain ⟨x0, hm0, hb0⟩ := open_ex f0 _ _ ht0
  have ha0 := agg_of (n := 2) (exM_len hm0)
  obtain ⟨cs0, hcs0⟩ : ∃ cs, cs = v0.cells.toList := ⟨_, rfl⟩
  rw [← hcs0] at ha0 hm0
  dsimp only at hb0
  have hk1 := h1
  obtain ⟨f1, ht1⟩ := h1
  obtain ⟨x1, a1, c1, e1, hc1, hb1, hl1⟩ := open_vrs f1 ht1
  obtain ⟨va1, vn1, vm1, ha1⟩ := Go.WideShapes.okWide_slice Tryz.underlying34 (hval 1 34 v1 rfl rfl)
  have ev1 : v1 = .slice a1 x1.length c1 := by rw [ha1] at e1 ⊢; simpa [Value.cells] using e1
  clear ha1
  dsimp only at hb1
  have hv1 : vrsV W (fun _ => True) x1 (a1, c1) := ⟨hc1, fun k v hk => by obtain ⟨cs', hA, rfl, _⟩ := hl1 k v hk; exact hA⟩
  have hn1 : ∀ v ∈ x1, v.nm.length ≤ 9223372036854775807 := fun v hv => by obtain ⟨k, hk⟩ := List.getElem?_of_mem hv; obtain ⟨_, _, _, h⟩ := hl1 k v hk; exact h
  have hk2 := h2
  obtain ⟨f2, ht2⟩ := h2
  obtain ⟨x2, hm2, hb2⟩ := open_var f2 _ _ ht2
  obtain ⟨hcs2, hn2⟩ := hm2
  have ha2 := agg_of (n := 2) (v := v2) (by rw [hcs2]; rfl)
  rw [hcs2] at ha2
  dsimp only at hb2
  have hbk := of_decide_eq_true (hcond _ rfl)
  simp only [Rows.uptoBulkAll, List.cons_append, List.nil_append] at hbk
  have ht := tb_of_laid hL
  have hml := cell_of_shapedOpen_int hsh (zero := #[.int .i64 0]) (g := 0) (t := 3) (by decide) (by kernel_rfl) rfl (by kernel_rfl) (by kernel_rfl) Tryz.underlying3
  clear hA0 hval0
  simp only [List.append_nil] at hW' hlt
  subst ha0; subst ev1; subst ha2
  refine Calls.mono (more15_walk x0 cs0 x1 a1 c1 x2 W ⟨ht, ht.lt, hml⟩ (size_of_shaped hsh (g := 3) (by decide) (by kernel_rfl)) (by omega) hm0 hv1 (by omega) hn1 hn2) fun e W' ⟨v, he, hv, hx⟩ => ?_
  subst he; subst hv
  exact ⟨_, rfl, post_ext2 (pv := []) hW' (fun _ _ _ => trodAll_mk1 (shut_bool Tryz.underlying4 _)) (trodAll_mk3 (Below.trod laidB (by kernel_rfl) (of_decide_eq_true (by kernel_rfl)) hk0 (below_ext hx) (fun y hy => hlt y (by simp [hy]))) (Below.trod laidB (by kernel_rfl) (of_decide_eq_true (by kernel_rfl)) hk1 (below_ext hx) (fun y hy => hlt y (by simp [hy]))) (Below.trod laidB (by kernel_rfl) (of_decide_eq_true (by kernel_rfl)) hk2 (below_ext hx) (fun y hy => hlt y (by simp [hy])))) (fun _ _ => rfl) (by simp) (below_ext hx)⟩
theorem kindMoreUpto_holds : Rows.KindMoreUptoSaid :=
  OpenClaim.holds_of_cond 8 Tryz.f8 rfl rfl rfl rfl rfl rfl rfl ⟨rfl, rfl, rfl, rfl, rfl⟩ rfl rfl rfl rfl rfl (by kernel_rfl) Tryz.func8 (by kernel_rfl)
    (of_decide_eq_true (by kernel_rfl)) (by unfold Func.isWrapper; (rw [if_neg (by decide +kernel)]; exact ⟨rfl, rfl⟩))
    (fun os started H enc _ F => by rw [OpenClaim.pre_eq_preRow]; exact kindMore_lifted os started H enc F)
end Go.Proofs.YtoehjlmdnajibaaGreatDoor
end

section
namespace Go.Proofs.YtoehjlmdnajibaaGreatDoor
open Go
theorem kindMoreUpto_card : Rows.KindMoreUptoCardSaid :=
  Claim7.holds_tied_plain_at .later [] [.listed, .data] true (true, "65e2bdec9cfab438602a072c417bd6688cb10ffb3f463ce8d6a4e5789ff575b6") true
    kindMoreUpto_holds (fun _ h => by cases h) (by kernel_rfl) (fun _ h => by cases h) kindMoreUpto_row_tie rfl ⟨rfl, rfl⟩ (by kernel_rfl) rfl
    (fun f fn hf hfn => by
      obtain rfl : f = 8 := Option.some.inj ((show Tryz.prog.funcNamed "stepstone/stepstonelaw15.KindMore" = some 8 by kernel_rfl).symm.trans hf) |>.symm
      obtain rfl : fn = Tryz.f8 := (Option.some.inj (Tryz.func8.symm.trans hfn)).symm
      exact ⟨by kernel_rfl, fun j t ht => by
        rw [Tryz.params8] at ht
        rcases j with _ | _ | _ | j
        · obtain rfl : t = 52 := by simpa using ht.symm
          exact (show Tryz.prog.wantsStandIn 52 = false by kernel_rfl)
        · obtain rfl : t = 34 := by simpa using ht.symm
          exact (show Tryz.prog.wantsStandIn 34 = false by kernel_rfl)
        · obtain rfl : t = 54 := by simpa using ht.symm
          exact (show Tryz.prog.wantsStandIn 54 = false by kernel_rfl)
        · simp at ht⟩)
    (by kernel_rfl)
end Go.Proofs.YtoehjlmdnajibaaGreatDoor
end
