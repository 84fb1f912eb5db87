/- Layer 13, ParseWrites. Part 15 of 15. -/
import Derived.Test.YtaniogadknakoaaGreatDoorW14
import Derived.Test.YtaniogadknakoaaGreatDoorRows
import Derived.Deep.DeepHandedRow
import Derived.ProofKit
import Derived.LaidMore
import Derived.OpenShut
import Derived.Shelf.Vars
import Derived.Carry
import Derived.JoinedCond
import Derived.Deep.DeepWitnessRowRef
import Derived.Stop.Joined
import Derived.Test.YtaniogadknakoaaGreatDoorTie
import Derived.Test.YtaniogadknakoaaGreatDoorCards
import Derived.SevenTiedAt
set_option maxRecDepth 100000
set_option maxHeartbeats 16000000
section
namespace Go.Proofs.YtaniogadknakoaaGreatDoor
open Go.RowKit Go.Sx
open Go.Tok Go.Tree

theorem cel5 : Tryz.prog.cellsOf 5 = 1 := by kernel_rfl
theorem cel3 : Tryz.prog.cellsOf 3 = 1 := by kernel_rfl
theorem cel9 : Tryz.prog.cellsOf 9 = 1 := by kernel_rfl
theorem cel4 : Tryz.prog.cellsOf 4 = 1 := by kernel_rfl
theorem cel37 : Tryz.prog.cellsOf 37 = 1 := by kernel_rfl
theorem cel24 : Tryz.prog.cellsOf 24 = 1 := by kernel_rfl
theorem cel23 : Tryz.prog.cellsOf 23 = 1 := by kernel_rfl
theorem cel39 : Tryz.prog.cellsOf 39 = 4 := by kernel_rfl
theorem cel76 : Tryz.prog.cellsOf 76 = 6 := by kernel_rfl
theorem cel46 : Tryz.prog.cellsOf 46 = 7 := by kernel_rfl
theorem cel26 : Tryz.prog.cellsOf 26 = 3 := by kernel_rfl
theorem cel27 : Tryz.prog.cellsOf 27 = 18 := by kernel_rfl
theorem cel29 : Tryz.prog.cellsOf 29 = 18 := by kernel_rfl

section
variable {H : Type} {enc : TypeId × Value → H} {W : World} {sp : Nat → Bool} {hd : Bool}

theorem le_sum_mem {a : Nat} : ∀ {l : List Nat}, a ∈ l → a ≤ l.sum
  | x :: l, h => by
    rw [List.sum_cons]
    rcases List.mem_cons.1 h with rfl | h
    · omega
    · have := le_sum_mem h; omega
theorem bulkAll_sum : ∀ l : List (DataW H), Rows.uptoBulkAll l = (l.map Rows.uptoBulk).sum
  | [] => by simp [Rows.uptoBulkAll]
  | d :: l => by rw [Rows.uptoBulkAll, bulkAll_sum l]; simp
theorem bulk_slice (es rs : List (DataW H)) : (es.map Rows.uptoBulk).sum ≤ Rows.uptoBulk (.slice es rs) := by rw [Rows.uptoBulk, bulkAll_sum]; omega
theorem open_ex : ∀ (fuel : Nat) (cs : List Value) (x : DataW H × List MemPlace), DataW.trod enc Tryz.prog W 0 sp hd fuel 39 cs = some x → ∃ z : Ex, exM W (fun _ => True) z cs ∧ exW z + 1 ≤ Rows.uptoBulk x.1 := by
  intro fuel
  induction fuel using Nat.strongRecOn with | _ fuel ih => ?_
  intro cs x h
  obtain ⟨xs, n, rfl, rfl, hl, hxl, hf⟩ := DataW.trod_struct Tryz.underlying39 h
  have hl := hl.trans cel39
  obtain ⟨c0, c1, c2, c3, rfl⟩ := len4 hl
  obtain ⟨y0, y1, y2, y3, rfl⟩ := len4 (hxl.trans rfl)
  have h0 : DataW.trod enc Tryz.prog W 0 sp hd n 5 (([c0, c1, c2, c3].drop 0).take (Tryz.prog.cellsOf 5)) = some y0 := hf 0 _ rfl
  rw [cel5] at h0
  obtain ⟨n0, e0, rfl, wf0⟩ := DataW.trod_int Tryz.underlying5 h0; obtain rfl : _ = _ := (List.cons.inj e0).1
  have h1 : DataW.trod enc Tryz.prog W 0 sp hd n 3 (([_, c1, c2, c3].drop 1).take (Tryz.prog.cellsOf 3)) = some y1 := hf 1 _ rfl
  rw [cel3] at h1
  obtain ⟨n1, e1, rfl, wf1⟩ := DataW.trod_int Tryz.underlying3 h1; obtain rfl : _ = _ := (List.cons.inj e1).1
  have h2 : DataW.trod enc Tryz.prog W 0 sp hd n 9 (([_, _, c2, c3].drop 2).take (Tryz.prog.cellsOf 9)) = some y2 := hf 2 _ rfl
  rw [cel9] at h2
  obtain ⟨s2, e2, rfl, wf2⟩ := DataW.trod_string Tryz.underlying9 h2; obtain rfl : _ = _ := (List.cons.inj e2).1
  have h3 : DataW.trod enc Tryz.prog W 0 sp hd n 37 (([_, _, _, c3].drop 3).take (Tryz.prog.cellsOf 37)) = some y3 := hf 3 _ rfl
  rw [cel37] at h3
  obtain ⟨l3, a3, k3, e3, hk3, hb3, hl3⟩ := open_list (R := exM W (fun _ => True)) (wt := exW) bulk_slice Tryz.underlying37 cel39 (by decide) h3 (fun m cs y hm hy => ih m (by omega) cs y hy); obtain rfl : _ = _ := (List.cons.inj e3).1
  have w0 := bounds_u8 wf0; obtain ⟨m0, rfl⟩ : ∃ m : Nat, n0 = m := ⟨n0.toNat, by omega⟩
  refine ⟨.mk m0 n1 s2.data.toList l3, ?_, ?_⟩
  · unfold exM; exact ⟨a3, k3, by simp [str], hk3, exsM_of _ 0 (fun i z hz => by rw [Nat.zero_add]; exact hl3 i z hz)⟩
  · unfold exW; rw [exsW_sum]
    simp only [List.map_cons, List.map_nil, Rows.uptoBulk, Rows.uptoBulkAll]
    omega

theorem open_exs (fuel : Nat) {cs : List Value} {x : DataW H × List MemPlace} (h : DataW.trod enc Tryz.prog W 0 sp hd fuel 37 cs = some x) : ∃ (l : List Ex) (a : Option Addr) (c : Nat), cs = [.slice a l.length c] ∧ l.length ≤ c ∧ l.length + (l.map exW).sum ≤ Rows.uptoBulk x.1 ∧ ∀ i z, l[i]? = some z → ∃ cs', At W (fun _ => True) a (i * 4) cs' ∧ exM W (fun _ => True) z cs' :=
  open_list bulk_slice Tryz.underlying37 cel39 (by decide) h (fun m cs y _ hy => open_ex m cs y hy)

theorem open_sm : ∀ (fuel : Nat) (cs : List Value) (x : DataW H × List MemPlace), DataW.trod enc Tryz.prog W 0 sp hd fuel 76 cs = some x → ∃ z : Sm, smM W (fun _ => True) z cs ∧ smW z + 1 ≤ Rows.uptoBulk x.1 := by
  intro fuel
  induction fuel using Nat.strongRecOn with | _ fuel ih => ?_
  intro cs x h
  obtain ⟨xs, n, rfl, rfl, hl, hxl, hf⟩ := DataW.trod_struct Tryz.underlying76 h
  have hl := hl.trans cel76
  obtain ⟨c0, c1, c2, c3, c4, c5, rfl⟩ := len6 hl
  obtain ⟨y0, y1, y2, y3, y4, y5, rfl⟩ := len6 (hxl.trans rfl)
  have h0 : DataW.trod enc Tryz.prog W 0 sp hd n 5 (([c0, c1, c2, c3, c4, c5].drop 0).take (Tryz.prog.cellsOf 5)) = some y0 := hf 0 _ rfl
  rw [cel5] at h0
  obtain ⟨n0, e0, rfl, wf0⟩ := DataW.trod_int Tryz.underlying5 h0; obtain rfl : _ = _ := (List.cons.inj e0).1
  have h1 : DataW.trod enc Tryz.prog W 0 sp hd n 3 (([_, c1, c2, c3, c4, c5].drop 1).take (Tryz.prog.cellsOf 3)) = some y1 := hf 1 _ rfl
  rw [cel3] at h1
  obtain ⟨n1, e1, rfl, wf1⟩ := DataW.trod_int Tryz.underlying3 h1; obtain rfl : _ = _ := (List.cons.inj e1).1
  have h2 : DataW.trod enc Tryz.prog W 0 sp hd n 9 (([_, _, c2, c3, c4, c5].drop 2).take (Tryz.prog.cellsOf 9)) = some y2 := hf 2 _ rfl
  rw [cel9] at h2
  obtain ⟨s2, e2, rfl, wf2⟩ := DataW.trod_string Tryz.underlying9 h2; obtain rfl : _ = _ := (List.cons.inj e2).1
  have h3 : DataW.trod enc Tryz.prog W 0 sp hd n 37 (([_, _, _, c3, c4, c5].drop 3).take (Tryz.prog.cellsOf 37)) = some y3 := hf 3 _ rfl
  rw [cel37] at h3
  obtain ⟨l3, a3, k3, e3, hk3, hb3, hl3⟩ := open_exs n h3; obtain rfl : _ = _ := (List.cons.inj e3).1
  have h4 : DataW.trod enc Tryz.prog W 0 sp hd n 24 (([_, _, _, _, c4, c5].drop 4).take (Tryz.prog.cellsOf 24)) = some y4 := hf 4 _ rfl
  rw [cel24] at h4
  obtain ⟨l4, a4, k4, e4, hk4, hb4, hl4⟩ := open_list (R := smM W (fun _ => True)) (wt := smW) bulk_slice Tryz.underlying24 cel76 (by decide) h4 (fun m cs y hm hy => ih m (by omega) cs y hy); obtain rfl : _ = _ := (List.cons.inj e4).1
  have h5 : DataW.trod enc Tryz.prog W 0 sp hd n 24 (([_, _, _, _, _, c5].drop 5).take (Tryz.prog.cellsOf 24)) = some y5 := hf 5 _ rfl
  rw [cel24] at h5
  obtain ⟨l5, a5, k5, e5, hk5, hb5, hl5⟩ := open_list (R := smM W (fun _ => True)) (wt := smW) bulk_slice Tryz.underlying24 cel76 (by decide) h5 (fun m cs y hm hy => ih m (by omega) cs y hy); obtain rfl : _ = _ := (List.cons.inj e5).1
  have w0 := bounds_u8 wf0; obtain ⟨m0, rfl⟩ : ∃ m : Nat, n0 = m := ⟨n0.toNat, by omega⟩
  refine ⟨.mk m0 n1 s2.data.toList l3 l4 l5, ?_, ?_⟩
  · unfold smM; exact ⟨a3, k3, a4, k4, a5, k5, by simp [str], hk3, exsM_of _ 0 (fun i z hz => by rw [Nat.zero_add]; exact hl3 i z hz), smsM_of _ 0 (fun i z hz => by rw [Nat.zero_add]; exact hl4 i z hz), smsM_of _ 0 (fun i z hz => by rw [Nat.zero_add]; exact hl5 i z hz)⟩
  · unfold smW; rw [exsW_sum, smsW_sum, smsW_sum]
    simp only [List.map_cons, List.map_nil, Rows.uptoBulk, Rows.uptoBulkAll]
    omega

theorem open_sms (fuel : Nat) {cs : List Value} {x : DataW H × List MemPlace} (h : DataW.trod enc Tryz.prog W 0 sp hd fuel 24 cs = some x) : ∃ (l : List Sm) (a : Option Addr) (c : Nat), cs = [.slice a l.length c] ∧ l.length ≤ c ∧ l.length + (l.map smW).sum ≤ Rows.uptoBulk x.1 ∧ ∀ i z, l[i]? = some z → ∃ cs', At W (fun _ => True) a (i * 6) cs' ∧ smM W (fun _ => True) z cs' :=
  open_list bulk_slice Tryz.underlying24 cel76 (by decide) h (fun m cs y _ hy => open_sm m cs y hy)

theorem open_dc : ∀ (fuel : Nat) (cs : List Value) (x : DataW H × List MemPlace), DataW.trod enc Tryz.prog W 0 sp hd fuel 46 cs = some x → ∃ z : Dc, dcM W (fun _ => True) z cs ∧ dcW z + 1 ≤ Rows.uptoBulk x.1 := by
  intro fuel
  induction fuel using Nat.strongRecOn with | _ fuel ih => ?_
  intro cs x h
  obtain ⟨xs, n, rfl, rfl, hl, hxl, hf⟩ := DataW.trod_struct Tryz.underlying46 h
  have hl := hl.trans cel46
  obtain ⟨c0, c1, c2, c3, c4, c5, c6, rfl⟩ := len7 hl
  obtain ⟨y0, y1, y2, y3, y4, y5, y6, rfl⟩ := len7 (hxl.trans rfl)
  have h0 : DataW.trod enc Tryz.prog W 0 sp hd n 5 (([c0, c1, c2, c3, c4, c5, c6].drop 0).take (Tryz.prog.cellsOf 5)) = some y0 := hf 0 _ rfl
  rw [cel5] at h0
  obtain ⟨n0, e0, rfl, wf0⟩ := DataW.trod_int Tryz.underlying5 h0; obtain rfl : _ = _ := (List.cons.inj e0).1
  have h1 : DataW.trod enc Tryz.prog W 0 sp hd n 3 (([_, c1, c2, c3, c4, c5, c6].drop 1).take (Tryz.prog.cellsOf 3)) = some y1 := hf 1 _ rfl
  rw [cel3] at h1
  obtain ⟨n1, e1, rfl, wf1⟩ := DataW.trod_int Tryz.underlying3 h1; obtain rfl : _ = _ := (List.cons.inj e1).1
  have h2 : DataW.trod enc Tryz.prog W 0 sp hd n 9 (([_, _, c2, c3, c4, c5, c6].drop 2).take (Tryz.prog.cellsOf 9)) = some y2 := hf 2 _ rfl
  rw [cel9] at h2
  obtain ⟨s2, e2, rfl, wf2⟩ := DataW.trod_string Tryz.underlying9 h2; obtain rfl : _ = _ := (List.cons.inj e2).1
  have h3 : DataW.trod enc Tryz.prog W 0 sp hd n 37 (([_, _, _, c3, c4, c5, c6].drop 3).take (Tryz.prog.cellsOf 37)) = some y3 := hf 3 _ rfl
  rw [cel37] at h3
  obtain ⟨l3, a3, k3, e3, hk3, hb3, hl3⟩ := open_exs n h3; obtain rfl : _ = _ := (List.cons.inj e3).1
  have h4 : DataW.trod enc Tryz.prog W 0 sp hd n 37 (([_, _, _, _, c4, c5, c6].drop 4).take (Tryz.prog.cellsOf 37)) = some y4 := hf 4 _ rfl
  rw [cel37] at h4
  obtain ⟨l4, a4, k4, e4, hk4, hb4, hl4⟩ := open_exs n h4; obtain rfl : _ = _ := (List.cons.inj e4).1
  have h5 : DataW.trod enc Tryz.prog W 0 sp hd n 37 (([_, _, _, _, _, c5, c6].drop 5).take (Tryz.prog.cellsOf 37)) = some y5 := hf 5 _ rfl
  rw [cel37] at h5
  obtain ⟨l5, a5, k5, e5, hk5, hb5, hl5⟩ := open_exs n h5; obtain rfl : _ = _ := (List.cons.inj e5).1
  have h6 : DataW.trod enc Tryz.prog W 0 sp hd n 37 (([_, _, _, _, _, _, c6].drop 6).take (Tryz.prog.cellsOf 37)) = some y6 := hf 6 _ rfl
  rw [cel37] at h6
  obtain ⟨l6, a6, k6, e6, hk6, hb6, hl6⟩ := open_exs n h6; obtain rfl : _ = _ := (List.cons.inj e6).1
  have w0 := bounds_u8 wf0; obtain ⟨m0, rfl⟩ : ∃ m : Nat, n0 = m := ⟨n0.toNat, by omega⟩
  refine ⟨⟨m0, n1, s2.data.toList, l3, l4, l5, l6⟩, ?_, ?_⟩
  · unfold dcM; exact ⟨a3, k3, a4, k4, a5, k5, a6, k6, by simp [str], exsM_of _ 0 (fun i z hz => by rw [Nat.zero_add]; exact hl3 i z hz), exsM_of _ 0 (fun i z hz => by rw [Nat.zero_add]; exact hl4 i z hz), exsM_of _ 0 (fun i z hz => by rw [Nat.zero_add]; exact hl5 i z hz), exsM_of _ 0 (fun i z hz => by rw [Nat.zero_add]; exact hl6 i z hz)⟩
  · unfold dcW; rw [exsW_sum, exsW_sum, exsW_sum, exsW_sum]
    simp only [List.map_cons, List.map_nil, Rows.uptoBulk, Rows.uptoBulkAll]
    omega

theorem open_dcs (fuel : Nat) {cs : List Value} {x : DataW H × List MemPlace} (h : DataW.trod enc Tryz.prog W 0 sp hd fuel 23 cs = some x) : ∃ (l : List Dc) (a : Option Addr) (c : Nat), cs = [.slice a l.length c] ∧ l.length ≤ c ∧ l.length + (l.map dcW).sum ≤ Rows.uptoBulk x.1 ∧ ∀ i z, l[i]? = some z → ∃ cs', At W (fun _ => True) a (i * 7) cs' ∧ dcM W (fun _ => True) z cs' :=
  open_list bulk_slice Tryz.underlying23 cel46 (by decide) h (fun m cs y _ hy => open_dc m cs y hy)

theorem open_bk : ∀ (fuel : Nat) (cs : List Value) (x : DataW H × List MemPlace), DataW.trod enc Tryz.prog W 0 sp hd fuel 26 cs = some x → ∃ z : Bk, bkM W (fun _ => True) z cs ∧ bkW z + 1 ≤ Rows.uptoBulk x.1 := by
  intro fuel
  induction fuel using Nat.strongRecOn with | _ fuel ih => ?_
  intro cs x h
  obtain ⟨xs, n, rfl, rfl, hl, hxl, hf⟩ := DataW.trod_struct Tryz.underlying26 h
  have hl := hl.trans cel26
  obtain ⟨c0, c1, c2, rfl⟩ := len3 hl
  obtain ⟨y0, y1, y2, rfl⟩ := len3 (hxl.trans rfl)
  have h0 : DataW.trod enc Tryz.prog W 0 sp hd n 4 (([c0, c1, c2].drop 0).take (Tryz.prog.cellsOf 4)) = some y0 := hf 0 _ rfl
  rw [cel4] at h0
  obtain ⟨q0, e0, rfl⟩ := DataW.trod_bool Tryz.underlying4 h0; obtain rfl : _ = _ := (List.cons.inj e0).1
  have h1 : DataW.trod enc Tryz.prog W 0 sp hd n 23 (([_, c1, c2].drop 1).take (Tryz.prog.cellsOf 23)) = some y1 := hf 1 _ rfl
  rw [cel23] at h1
  obtain ⟨l1, a1, k1, e1, hk1, hb1, hl1⟩ := open_dcs n h1; obtain rfl : _ = _ := (List.cons.inj e1).1
  have h2 : DataW.trod enc Tryz.prog W 0 sp hd n 24 (([_, _, c2].drop 2).take (Tryz.prog.cellsOf 24)) = some y2 := hf 2 _ rfl
  rw [cel24] at h2
  obtain ⟨l2, a2, k2, e2, hk2, hb2, hl2⟩ := open_sms n h2; obtain rfl : _ = _ := (List.cons.inj e2).1
  skip
  refine ⟨⟨q0, l1, l2⟩, ?_, ?_⟩
  · unfold bkM; exact ⟨a1, k1, a2, k2, rfl, hl1, smsM_of _ 0 (fun i z hz => by rw [Nat.zero_add]; exact hl2 i z hz)⟩
  · unfold bkW; rw [dcsW_sum, smsW_sum]
    simp only [List.map_cons, List.map_nil, Rows.uptoBulk, Rows.uptoBulkAll]
    omega

theorem open_pg (fuel : Nat) (cs : List Value) (x : DataW H × List MemPlace) (h : DataW.trod enc Tryz.prog W 0 sp hd fuel 29 cs = some x) : ∃ p : List Bk, pgM W (fun _ => True) p cs ∧ ∀ b ∈ p, bkW b ≤ Rows.uptoBulk x.1 := by
  obtain ⟨xs, n, rfl, rfl, hl, hxl, hf⟩ := DataW.trod_struct Tryz.underlying29 h
  have hl := hl.trans cel29
  obtain ⟨y, rfl⟩ := List.length_eq_one_iff.1 (hxl.trans rfl)
  have h0 : DataW.trod enc Tryz.prog W 0 sp hd n 27 ((cs.drop 0).take (Tryz.prog.cellsOf 27)) = some y := hf 0 _ rfl
  rw [cel27, List.drop_zero] at h0
  rw [show cs.take 18 = cs from List.take_of_length_le (by omega)] at h0
  obtain ⟨zs, m, rfl, hy, hl2, hzl, hg⟩ := DataW.trod_array Tryz.underlying27 h0
  obtain rfl : y = _ := hy
  obtain ⟨l, hll, hq⟩ := list_of (n := 6) (Q := fun i z => bkM W (fun _ => True) z ((cs.drop (i * 3)).take 3) ∧ ∃ y, zs[i]? = some y ∧ bkW z + 1 ≤ Rows.uptoBulk y.1) (fun i hi => by
    have h1 := hg i hi
    rw [cel26] at h1
    rw [List.getElem?_eq_getElem (by omega)] at h1
    obtain ⟨z, h4, h5⟩ := open_bk m _ _ h1
    exact ⟨z, h4, _, List.getElem?_eq_getElem (by omega), h5⟩)
  refine ⟨l, ⟨hll, hl, fun i b hb => (hq i b hb).1⟩, fun b hb => ?_⟩
  obtain ⟨i, hi⟩ := List.getElem?_of_mem hb
  obtain ⟨_, y, h1, h2⟩ := hq i b hi
  have h3 : Rows.uptoBulk y.1 ≤ ((zs.map (·.1)).map Rows.uptoBulk).sum := le_sum_mem (List.mem_map_of_mem (List.mem_map_of_mem (List.mem_of_getElem? h1)))
  simp only [List.map_cons, List.map_nil, Rows.uptoBulk, Rows.uptoBulkAll, bulkAll_sum, List.sum_cons, List.sum_nil]
  omega
end
end Go.Proofs.YtaniogadknakoaaGreatDoor
end

section
namespace Go.Proofs.YtaniogadknakoaaGreatDoor
open Go.ChangeShapes Go.WideShapes Go.ChangeAt Go.RowKit Go.Sx
open Go.ChangeMaps (open_string)
theorem own : ownKnob Tryz.prog.godebug = none := by kernel_rfl
theorem below_ext {w w' : World} (h : Ext w w') : Below w.heap.size w w' := ⟨h.os, h.tape, h.output, h.size, fun k hk => h.blk k hk (fun x => x)⟩
section
variable {H : Type} {enc : TypeId × Value → H} {P : Program}
theorem post_ext2 {f : Func} {s : ChangeSpec} {apart fresh handsOn : Bool} {W W' : World} {args : Array Value} {v : Value} {ds gs : List (DataW H)} {before pa pv : List MemPlace}
    (hW : DataW.Whole enc P f.params.toList s.vars apart W args.toList ds gs before)
    (hres : ∀ (b : Nat) (sp : Nat → Bool) (hd : Bool), DataW.TrodAll enc P W' b sp hd f.resultTypes.toList (v.resultList f.resultTypes.size) (s.fn H (ds ++ gs)).results [])
    (hargs : DataW.TrodAll enc P W' 0 (fun b => decide (b < W.heap.size)) true f.params.toList args.toList (s.fn H (ds ++ gs)).args pa)
    (hvars : ∀ sp : Nat → Bool, (∀ p ∈ before, sp p.block = true) → DataW.TrodVars enc P W' sp s.vars (s.fn H (ds ++ gs)).vars pv)
    (hps : before = pa ++ pv) (hb : Below W.heap.size W W') : s.post enc P f apart fresh handsOn false W args v W' := by
  have hold : ∀ p ∈ before, (fun b => decide (b < W.heap.size)) p.block = true := fun p hp => by simpa using hW.lt p hp
  exact ⟨ds, gs, before, [], pa, pv, hW, hres _ _ _, hargs, hvars _ hold, hb.frame _, fun h => by cases h⟩
end
theorem agg_of {v : Value} {n : Nat} (h : v.cells.toList.length = n + 2) : v = .agg v.cells.toList.toArray := by
  cases v <;> first | rfl | (simp [Value.cells] at h)
theorem laidB : laidOutB Tryz.prog = true := by kernel_rfl
theorem door_met (os : Os) (args : Array Value) : laidMetH Tryz.prog Rows.parseWritesUptoRow.laid ((World.doorLaid Tryz.prog 400 os).forCall (fun _ _ => 0) ⟨#[], args, []⟩).memory :=
  laidMetH_of_parts3 (fuel := 8) (laidMet_of_run' 8 (by kernel_rfl) (by kernel_rfl)) (by kernel_rfl) (by kernel_rfl)
theorem tb_of_laid {W : World} (h : laidMetH Tryz.prog Rows.parseWritesUptoRow.laid W) : Tb W := by
  rw [MakeChecks.laidMetH_plain _ _ _ (by kernel_rfl)] at h
  obtain ⟨ps, ⟨g0, t0, cs0, f0, p0, q0, hg0, ht0, hv0, hd0, ⟨g1, t1, cs1, f1, p1, q1, hg1, ht1, hv1, hd1, hr1, hq0⟩, hps⟩, hn, hm⟩ := h
  refine Tb.of (Lib.tabIs_of_head (g := 0) (t := 115) (e := 5) (n := 256) (rest := []) (by kernel_rfl) (by kernel_rfl) Tryz.underlying115 Tryz.underlying5 (by kernel_rfl) (by kernel_rfl) (W := W) ⟨q0, ⟨g1, t1, cs1, f1, p1, q1, hg1, ht1, hv1, hd1, hr1, hq0⟩, ?_, ?_⟩)
  · rw [hps] at hn; exact (List.nodup_append.1 hn).2.1
  · exact fun b off hx => hm b off (by rw [hps]; exact List.mem_append.2 (.inr hx))
theorem size_of_shaped {P : Program} {w : World} {g : Nat} (h : w.ShapedOpen P) (hg : g < P.globals.size) (h0 : (((begin P (fun _ _ => 0) default).world.heap[g]?).bind Obj.row?).isSome = true) : g < w.heap.size := by
  obtain ⟨⟨zero, t⟩, h1⟩ := Option.isSome_iff_exists.1 h0
  obtain ⟨cs, hh, _⟩ := h.1 g zero t hg h1
  exact (Array.getElem?_eq_some_iff.1 hh).1

theorem parseWrites_reads (os : Os) {H : Type} (enc : TypeId × Value → H) : DataW.whole enc Tryz.prog ((World.doorLaid Tryz.prog 400 os).forCall (fun _ _ => 0) ⟨#[], #[(.agg #[.bool false, .slice none 0 0, .slice none 0 0, .bool false, .slice none 0 0, .slice none 0 0, .bool false, .slice none 0 0, .slice none 0 0, .bool false, .slice none 0 0, .slice none 0 0, .bool false, .slice none 0 0, .slice none 0 0, .bool false, .slice none 0 0, .slice none 0 0])], []⟩).memory Tryz.f5.params.toList Rows.parseWritesSpec.vars false #[(.agg #[.bool false, .slice none 0 0, .slice none 0 0, .bool false, .slice none 0 0, .slice none 0 0, .bool false, .slice none 0 0, .slice none 0 0, .bool false, .slice none 0 0, .slice none 0 0, .bool false, .slice none 0 0, .slice none 0 0, .bool false, .slice none 0 0, .slice none 0 0])].toList 8 = some ([.agg [.agg [.agg [.lit (.bool false), .nil, .nil], .agg [.lit (.bool false), .nil, .nil], .agg [.lit (.bool false), .nil, .nil], .agg [.lit (.bool false), .nil, .nil], .agg [.lit (.bool false), .nil, .nil], .agg [.lit (.bool false), .nil, .nil]]]], [], []) := by kernel_rfl
theorem parseWrites_lifted (os : Os) (started : os.Started) (H : Type) (enc : TypeId × Value → H) (F : Stop.Interp) :
    ReturnsInHanded {} Tryz.checked os 5 .any ((Rows.OpenSpec.upto Rows.parseWritesSpec).preRow enc Tryz.prog Tryz.f5 Rows.parseWritesUptoRow.domain false Rows.parseWritesUptoRow.laid) (((Rows.OpenSpec.upto Rows.parseWritesSpec).at F).post enc Tryz.prog Tryz.f5 false true false false) := by
  refine returnsInHanded_of_row (C := Tryz.checked) (s := Rows.OpenSpec.upto Rows.parseWritesSpec) own started (by kernel_rfl) Tryz.func5
    (witness_row_atRef (enc := enc) (C := Tryz.checked) false (World.doorLaid Tryz.prog 400 os) #[(.agg #[.bool false, .slice none 0 0, .slice none 0 0, .bool false, .slice none 0 0, .slice none 0 0, .bool false, .slice none 0 0, .slice none 0 0, .bool false, .slice none 0 0, .slice none 0 0, .bool false, .slice none 0 0, .slice none 0 0, .bool false, .slice none 0 0, .slice none 0 0])] rfl (by kernel_rfl) (by kernel_rfl) (by kernel_rfl)
      (OpenSpec.preRow_of_cond 8 (parseWrites_reads os enc) (by rfl) (fun k hkk => by cases hkk; kernel_rfl) (by kernel_rfl) (door_met os _))) ?_
  intro W base args ds gs before hval0 hW _ hcond _ hL hsh _
  have hval : ∀ (j : Nat) t v, Tryz.f5.params[j]? = some t → args[j]? = some v → Value.okWide Tryz.prog W .any base t v := hval0
  have hW' := hW
  have hlt : ∀ y ∈ before, y.block < W.heap.size := fun y hy => by simpa using hW'.lt y hy
  obtain ⟨p, q, hA0, hV, rfl, _, _⟩ := hW
  have hA : DataW.TrodAll enc Tryz.prog W 0 (fun _ => true) true Tryz.f5.params.toList args.toList ds p := hA0
  rw [Tryz.params5] at hA hval
  obtain ⟨v0, d0, rfl, rfl, h0⟩ := trodAll_one hA
  obtain ⟨rfl, rfl⟩ := trodVars_none hV
  have hk0 := h0
  obtain ⟨f0, ht0⟩ := h0
  obtain ⟨x0, hm0, hb0⟩ := open_pg f0 _ _ ht0
  have ha0 := agg_of (n := 16) (hm0.len)
  obtain ⟨cs0, hcs0⟩ : ∃ cs, cs = v0.cells.toList := ⟨_, rfl⟩
  rw [← hcs0] at ha0 hm0
  dsimp only at hb0
  have hbk := of_decide_eq_true (hcond _ rfl)
  simp only [Rows.uptoBulkAll, List.cons_append, List.nil_append] at hbk
  have ht := tb_of_laid hL
  have hml := cell_of_shapedOpen_int hsh (zero := #[.int .i64 0]) (g := 2) (t := 3) (by decide) (by kernel_rfl) rfl (by kernel_rfl) (by kernel_rfl) Tryz.underlying3
  clear hA0 hval0
  simp only [List.append_nil] at hW' hlt
  subst ha0
  refine Calls.mono (writes13_walk x0 cs0 _ W ⟨ht, ht.lt, hml⟩ (size_of_shaped hsh (g := 3) (by decide) (by kernel_rfl)) (fun b hb => by have := hb0 b hb; omega) hm0) fun e W' ⟨v, he, hv, hx⟩ => ?_
  subst he; subst hv
  exact ⟨_, rfl, post_ext2 (pv := []) hW' (fun _ _ _ => trodAll_mk1 (shut_bool Tryz.underlying4 _)) (trodAll_mk1 (Below.trod laidB (by kernel_rfl) (of_decide_eq_true (by kernel_rfl)) hk0 (below_ext hx) (fun y hy => hlt y (by simp [hy])))) (fun _ _ => rfl) (by simp) (below_ext hx)⟩
theorem parseWritesUpto_holds : Rows.ParseWritesUptoSaid :=
  OpenClaim.holds_of_cond 5 Tryz.f5 rfl rfl rfl rfl rfl rfl rfl ⟨rfl, rfl, rfl, rfl, rfl⟩ rfl rfl rfl rfl rfl (by kernel_rfl) Tryz.func5 (by kernel_rfl)
    (of_decide_eq_true (by kernel_rfl)) (by unfold Func.isWrapper; first | (rw [if_pos (by decide +kernel)]; kernel_rfl) | (rw [if_neg (by decide +kernel)]; exact ⟨rfl, rfl⟩))
    (fun os started H enc _ F => by rw [OpenClaim.pre_eq_preRow]; exact parseWrites_lifted os started H enc F)
end Go.Proofs.YtaniogadknakoaaGreatDoor
end

section
namespace Go.Proofs.YtaniogadknakoaaGreatDoor
open Go
theorem parseWritesUpto_card : Rows.ParseWritesUptoCardSaid :=
  Claim7.holds_tied_plain_at .later [] [.listed, .data] true (true, "a9064e2a442c3b536780d827cf246cb9ffd59ece4e9a70045f3d8d8099ffcaba") true
    parseWritesUpto_holds (fun _ h => by cases h) (by kernel_rfl) (fun _ h => by cases h) parseWritesUpto_row_tie rfl ⟨rfl, rfl⟩ (by kernel_rfl) rfl
    (fun f fn hf hfn => by
      obtain rfl : f = 5 := Option.some.inj ((show Tryz.prog.funcNamed "stepstone/stepstonelaw13.ParseWrites" = some 5 by kernel_rfl).symm.trans hf) |>.symm
      obtain rfl : fn = Tryz.f5 := (Option.some.inj (Tryz.func5.symm.trans hfn)).symm
      exact ⟨by kernel_rfl, fun j t ht => by
        rw [Tryz.params5] at ht
        have ht3 : t = 29 := by
          rcases j with _ | j
          · simpa using ht.symm
          · simp at ht
        subst ht3
        exact (show Tryz.prog.wantsStandIn 29 = false by kernel_rfl)⟩)
    (by kernel_rfl)
end Go.Proofs.YtaniogadknakoaaGreatDoor
end
