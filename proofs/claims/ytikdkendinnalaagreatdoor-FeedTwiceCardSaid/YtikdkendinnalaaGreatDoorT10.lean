/- Layer 14, FeedTwice: that Find tells the datum of its name, that Write tells the same twice, and another text where one sign is turned. Part 10 of 12. -/
import Derived.Test.YtikdkendinnalaaGreatDoorT09
import Derived.Lib.UnsafeStr
import Derived.Lib.Builder
import Derived.Laws.Externs
import Derived.Shelf.Strings.OnBuilder
import Derived.Test.YtikdkendinnalaaGreatDoorProg
section
namespace Go.Proofs.YtikdkendinnalaaGreatDoor
open Go.RowKit Go.Sx
open Go.Tok Go.Tree Go.Prs Go.Feed Go.Num
theorem _root_.Go.Sx.Kn.kt {x : Bw} {s0 : Nat} {a : Option Addr} {k c n : Nat} {B : Base} {L : Heap} {w : World} (h : Kn x a k c n) (hx : x ∈ B) (hw : St B L w) (f : Fsh s0 a k) : NmN w (Nb s0 (w, inL L)) a k c n := by
  have hT : TL (fun (w : World) (N : Nat → Prop) (_ _ : Unit) => NmN w N a k c n) := ⟨fun h hf hn => h.fr hf hn, fun h hn => h.mono hn⟩
  exact (show Kt x s0 (fun (w : World) (N : Nat → Prop) (_ _ : Unit) => NmN w N a k c n) () () from h.toN f).now hT hx hw
/-- data that may be looked at: how large they are -/
def DisB (l : List Di) : Prop := l.length ≤ 100000 ∧ ∀ d ∈ l, d.nums.length ≤ 100000 ∧ d.nm.length ≤ 30000 ∧ ∀ x ∈ d.nums, x.p ≤ 900000 ∧ x.q ≤ 900000
theorem findD_take {l : List Di} {nm : Str} {i : Nat} {d : Di} (hd : l[i]? = some d) (h : findD (l.take i) nm = none) : findD (l.take (i + 1)) nm = (if d.nm = nm then some d else none) := by
  obtain ⟨hi, rfl⟩ := List.getElem?_eq_some_iff.1 hd
  unfold findD at *
  rw [List.take_succ_eq_append_getElem hi, List.find?_append, h]
  by_cases hc : l[i].nm = nm
  · rw [if_pos hc]; simp [hc]
  · rw [if_neg hc]; simp [hc]
theorem findD_hit {l : List Di} {nm : Str} {i : Nat} {d : Di} (hd : l[i]? = some d) (h : findD (l.take i) nm = none) (hc : d.nm = nm) : findD l nm = some d := by
  have h1 := findD_take hd h
  rw [if_pos hc] at h1
  unfold findD at *
  rw [← List.take_append_drop (i + 1) l, List.find?_append, h1]; rfl
/-- what Find tells -/
def FindF (X : Option Di) (w : World) : Value → World → Prop := fun v w' =>
  (match X with
  | some d => ∃ b : Option Addr × Nat, v = .tuple #[.agg (diE d b).toArray, .bool true] ∧ diT w' (Nn w w') d b
  | none => v = .tuple #[.agg #[str [], .int .i64 0, .bool false, .bool false, .slice none 0 0], .bool false]) ∧ Ext w w'
set_option maxRecDepth 100000 in
set_option maxHeartbeats 4000000 in
theorem Find_ok (l : List Di) (nm : Str) (va : Option Addr) (vc : Nat) (w : World) (hD : disV w (fun _ => True) l (va, vc)) (hB : DisB l) :
    Ret Tryz.prog 12 #[.slice va l.length vc, str nm] w (FindF (findD l nm) w) := by
  have hlB := hB.1
  refine enter (S := No) (l := [_, _]) (L := []) 48 Tryz.func12 rfl rfl rfl (St.start w No) ?_; refine yA ?_; refine w_alloc zr33 (fun t4b gt4b ut4b => ?_)
  refine aB rfl ?_; refine yB ?_; refine zq ?_; refine yA ?_; refine mS rfl ?_; refine w_r (fun _ => R_len sl24 rfl) rfl rfl ?_; refine mI rfl ?_; refine yB ?_; refine zB ?_; refine c_loop (fun m9 e B L => ∃ (i : Nat), e 4 = .pointer (some ⟨t4b, 0, none⟩) ∧ e 11 = .slice va l.length vc ∧ e 12 = .int .i64 (l.length : Nat) ∧ e 13 = .int .i64 (i : Nat) ∧ e 1 = str nm ∧ B = [(w, No)] ∧ L = [(t4b, cel [str [], .int .i64 0, .bool false, .bool false, .slice none 0 0] 33)] ∧ i ≤ l.length ∧ findD (l.take i) nm = none ∧ m9 = l.length - i) _ ⟨0, rfl, rfl, rfl, rfl, rfl, rfl, rfl, Nat.zero_le _, rfl, rfl⟩ ?_
  rintro m9 e B L ⟨i, e4_1, e11_1, e12_1, e13_1, e1_1, rfl, rfl, hi, hf, rfl⟩
  refine yA ?_; refine w_r (fun _ => R_ltN (a := i) (b := (l.length)) e13_1 e12_1) rfl rfl ?_; refine yB ?_; refine zq ?_; refine zD rfl (fun h2 => ?_) (fun h2 => ?_)
  · have hi2 : i < l.length := (by omega); obtain ⟨d7, hd7⟩ : ∃ d, l[i]? = some d := ⟨_, List.getElem?_eq_getElem hi2⟩; obtain ⟨cs7, hA7, ⟨an7, cn7⟩, rfl, hT7⟩ := hD.2 i d7 hd7; obtain ⟨q7, o7, rfl, hne7, hc7⟩ := hA7; obtain ⟨hB7, hBn7, hBx7⟩ := hB.2 d7 (List.mem_of_getElem? hd7)
    refine zi ?_; refine zk ?_; refine zq ?_; refine zB ?_; refine yA ?_; refine w_r (fun _ => R_iaN (i := i) sl24 e11_1 e13_1 (by first | omega | decide | exact Nat.succ_pos _ | exact Nat.succ_lt_succ (Nat.succ_pos _))) rfl rfl ?_; refine w_loadC (l := diE d7 (an7, cn7)) z33 rfl rfl (fun w h j v hj => cel_old (.head _) (hc7 j v hj) (fun x => x) h) ?_; refine w_alloc zr33 (fun t7b gt7b ut7b => ?_)
    refine w_store 0 rfl z33 rfl rfl rfl rfl rfl rfl rfl ?_; refine yC ?_; refine zf fa33_0 rfl ?_; refine zl z9 rfl (fun _ h => zc 0 rfl rfl h) ?_; refine zm (v := str _) e1_1 ?_; refine w_r (fun _ => R_seq rfl rfl) rfl rfl ?_; refine yB ?_; refine zD rfl (fun h4 => ?_) (fun h4 => ?_)
    · have heq : d7.nm = nm := (by simpa using h4)
      refine yA ?_; refine za (v := .slice _ _ _) rfl ?_; refine yB ?_; refine zq ?_; refine yA ?_; refine zf fa33_4 rfl ?_; refine zl z31 rfl (fun _ h => zc 0 rfl rfl h) ?_; refine w_r (fun _ => R_len sl31 rfl) rfl rfl ?_; refine mI rfl ?_; refine yB ?_; refine zB ?_; refine c_base (fun w1 hw1 => ?_)
      refine c_st (B' := _) (L' := [(t7b, cel (diE d7 (an7, cn7)) 33), (t4b, cel [str [], .int .i64 0, .bool false, .bool false, .slice none 0 0] 33)] ++ []) (fun w h => h) ?_; refine c_loop (fun m9 e B L => ∃ (k8 : Nat) (va8 : Option Addr) (vc8 : Nat) (ys : List Value) (W : Heap) (x : Bw), e 4 = .pointer (some ⟨t4b, 0, none⟩) ∧ e 7 = .pointer (some ⟨t7b, 0, none⟩) ∧ e 8 = .slice va8 k8 vc8 ∧ e 22 = .slice an7 d7.nums.length cn7 ∧ e 23 = .int .i64 (d7.nums.length : Nat) ∧ e 24 = .int .i64 (k8 : Nat) ∧ B = [x, (w, No)] ∧ L = [(t7b, cel (diE d7 (an7, cn7)) 33), (t4b, cel [str [], .int .i64 0, .bool false, .bool false, .slice none 0 0] 33)] ++ W ∧ k8 ≤ d7.nums.length ∧ Own 46 3 (.slice va8 k8 vc8) ys k8 W ∧ Kt x w.heap.size (Mc 3 rwC) (d7.nums.take k8) ys ∧ m9 = d7.nums.length - k8) _ ⟨0, none, 0, [], [], _, e4_1, rfl, rfl, rfl, rfl, rfl, rfl, rfl, Nat.zero_le _, Own.nil _ _, Mc.nil, rfl⟩ ?_
      rintro m9 e B L ⟨k8, va8, vc8, ys, W, x, e4_2, e7_2, e8_2, e22_2, e23_2, e24_2, rfl, rfl, hk8, hO, hKl, rfl⟩
      refine yA ?_; refine w_r (fun _ => R_ltN (a := k8) (b := (d7.nums.length)) e24_2 e23_2) rfl rfl ?_; refine yB ?_; refine zq ?_; refine zD rfl (fun h5 => ?_) (fun h5 => ?_)
      · have hk2 : k8 < d7.nums.length := (by omega); obtain ⟨xr, hxr⟩ : ∃ x, d7.nums[k8]? = some x := ⟨_, List.getElem?_eq_getElem hk2⟩; obtain ⟨cs8, hA8, br, rfl, hTr⟩ := hT7.2 k8 xr hxr; obtain ⟨q8, o8, hq8, hne8, hc8⟩ := hA8; dsimp only at hq8; have hBxr := hBx7 xr (List.mem_of_getElem? hxr)
        refine zi ?_; refine zk ?_; refine zq ?_; refine zB ?_; refine yA ?_; refine w_r (fun _ => R_iaN (i := k8) sl31 (e22_2.trans (congrArg (fun z => Value.slice z _ _) hq8)) e24_2 hk2) rfl rfl ?_; refine w_loadC (l := rwE xr br) z46 rfl rfl (fun w h j v hj => cel_old (.tail _ (.head _)) (hc8 j v hj) (fun x => x) h) ?_; refine w_alloc zr46 (fun t10b gt10b ut10b => ?_)
        refine w_store 0 rfl z46 rfl rfl rfl rfl rfl rfl rfl ?_; refine yB ?_; refine zq ?_; refine c_heldI [1, 2] mixed ?_; refine zh 0 rfl (by kernel_rfl) rfl rfl (fun w h => (h).pick [1, 2] (by decide)) (fun w h => R_fa fa46_0 rfl) ?_; refine zh 1 rfl (by kernel_rfl) rfl rfl (fun w h => (h).pick [1, 2] (by decide)) (fun w h => R_fa fa44_1 rfl) ?_; refine zh 4 rfl (by kernel_rfl) rfl rfl (fun w h => (h).pick [1, 2] (by decide)) (fun w h => R_fa fa46_1 rfl) ?_; refine h_two 2 5 (by kernel_rfl) (fun w h => (h).pick [1, 2] (by decide)) ?_ ?_
        · refine o_run (v := .slice _ _ _) rfl rfl rfl (fun w h => R_ld1 z42 rfl (zc 0 rfl rfl h)) ?_; refine h_two 3 5 (by kernel_rfl) (fun w h => (h).pick [1, 2] (by decide)) ?_ ?_
          · refine o_tel rfl (wn_none rfl) rfl (fun w => zR Tryz.func34 rfl rfl rfl) (fun w h => Clone_ok w ((Kn.old hTr.n.nm).at_ 1 rfl h) (by omega)) (fun x7 a7 c7 hK7 hN7 => ?_)
            refine h_one 5 (by kernel_rfl) (fun w h => (h.unbase (fun x hx => .tail _ (hx))).pick [1, 2] (by decide)) ?_; refine o_run (v := .slice _ _ _) rfl rfl rfl (fun w h => R_ld1 z42 rfl (zc 0 rfl rfl h)) ?_; refine zh 7 rfl (by kernel_rfl) rfl rfl (fun w h => (h.unbase (fun x hx => .tail _ (hx))).pick [1, 2] (by decide)) (fun w h => R_fa fa46_0 rfl) ?_; refine zh 8 rfl (by kernel_rfl) rfl rfl (fun w h => (h.unbase (fun x hx => .tail _ (hx))).pick [1, 2] (by decide)) (fun w h => R_fa fa44_1 rfl) ?_; refine h_one 6 (by kernel_rfl) (fun w h => (h.unbase (fun x hx => .tail _ (hx))).pick [1, 2] (by decide)) ?_; refine o_tel rfl (wn_none rfl) rfl (fun w => zR Tryz.func34 rfl rfl rfl) (fun w h => Clone_ok w ((Kn.old hTr.d.nm).at_ 2 rfl h) (by omega)) (fun x8 a8 c8 hK8 hN8 => ?_)
            refine h_one 9 (by kernel_rfl) (fun w h => (h.unbase (fun x hx => .tail _ (.tail _ (hx)))).pick [1, 2] (by decide)) ?_; refine o_store 0 rfl rfl z42 rfl rfl rfl rfl rfl rfl rfl ?_; refine zh 10 rfl (by kernel_rfl) rfl rfl (fun w h => (h.unbase (fun x hx => .tail _ (.tail _ (hx)))).pick [1, 2] (by decide)) (fun w h => R_fa fa46_1 rfl) ?_; refine h_one 11 (by kernel_rfl) (fun w h => (h.unbase (fun x hx => .tail _ (.tail _ (hx)))).pick [1, 2] (by decide)) ?_; refine o_store 0 rfl rfl z42 rfl rfl rfl rfl rfl rfl rfl ?_; refine h_done (by kernel_rfl) (fun w h => (h.unbase (fun x hx => .tail _ (.tail _ (hx)))).pick [1, 2] (by decide)) ?_; refine zk ?_; refine zr ?_; refine mS e8_2 ?_; refine w_loadA z46 rfl (fun _ h => h.at_ 0 rfl) rfl ?_; refine zS slt31 (by decide) rfl rfl (fun sb gsb usb => ?_)
            refine w_st (B' := _) (L' := [_, _, _, _] ++ (W ++ [])) (fun w h => by rw [List.append_nil]; exact h) ?_; refine w_app (L := []) (W := W) (news := rwE xr ((a7, c7), (a8, c8))) [_, _, _, _] slt31 (by decide) rfl hO rfl rfl (row_own 0 rfl (fun j u h => h)) rfl (by decide) (by omega) (by omega) (fun v2 W2 hO2 => ?_)
            obtain ⟨a2, c2, rfl⟩ := hO2.slice
            refine za (v := .slice a2 (k8 + 1) c2) rfl ?_; refine zn ?_; refine b_on (zk ?_); refine zr ?_; refine w_r (fun _ => R_addN (n := k8) (b := 1) e24_2 rfl (by omega)) rfl rfl ?_; refine mI rfl ?_; refine zn ?_; refine k_st (B' := _) (L' := [_, _] ++ ([(t7b, cel (diE d7 (an7, cn7)) 33), (t4b, cel [str [], .int .i64 0, .bool false, .bool false, .slice none 0 0] 33)] ++ W2)) (fun w h => by simp only [List.append_nil] at h; exact h) ?_; refine k_join (L' := [(t7b, cel (diE d7 (an7, cn7)) 33), (t4b, cel [str [], .int .i64 0, .bool false, .bool false, .slice none 0 0] 33)] ++ W2) (B0 := [(w, No)]) (.cons _ (.cons _ (List.Sublist.refl _))) (fun x hx => by rcases List.mem_cons.1 hx with rfl | hx; (exact (.tail _ (.tail _ (.tail _ (.head _))))); (exact absurd hx (by simp))) (fun w5 hw5 => ?_)
            have hA5 : Kt (w5, inL ([(t7b, cel (diE d7 (an7, cn7)) 33), (t4b, cel [str [], .int .i64 0, .bool false, .bool false, .slice none 0 0] 33)] ++ W2)) w.heap.size (Mc 3 rwC) (d7.nums.take k8) ys := (hKl.now (TL.cells TL.rwc) (.tail _ (.tail _ (.head _))) hw5).sub (TL.cells TL.rwc) (.cons _ (.cons _ (List.Sublist.refl _)))
            have hR5 : Kt (w5, inL ([(t7b, cel (diE d7 (an7, cn7)) 33), (t4b, cel [str [], .int .i64 0, .bool false, .bool false, .slice none 0 0] 33)] ++ W2)) w.heap.size rwT xr ((a7, c7), (a8, c8)) := Kt.sub (show Kt (w5, inL _) w.heap.size rwT xr _ from ⟨(hK7.kt (.tail _ (.head _)) hw5 (hN7 _ (.tail _ (.head _)))), (hK8.kt (.head _) hw5 (hN8 _ (.tail _ (.tail _ (.head _)))))⟩) TL.rwt (.cons _ (.cons _ (List.Sublist.refl _)))
            exact k_again _ (by omega) ⟨k8 + 1, a2, c2, _, W2, (w5, inL _), e4_2, e7_2, rfl, e22_2, e23_2, rfl, rfl, rfl, by omega, hO2, (by rw [List.take_succ_eq_append_getElem hk2, (List.getElem?_eq_some_iff.1 hxr).2]; exact hA5.snocW hR5 (by rw [List.length_take, Nat.min_eq_left (by omega)]; exact hO.1)), rfl⟩
          · refine o_run (v := .slice _ _ _) rfl rfl rfl (fun w h => R_ld1 z42 rfl (zc 0 rfl rfl h)) ?_; refine h_one 3 (by kernel_rfl) (fun w h => (h).pick [1, 2] (by decide)) ?_; refine o_tel rfl (wn_none rfl) rfl (fun w => zR Tryz.func34 rfl rfl rfl) (fun w h => Clone_ok w ((Kn.old hTr.n.nm).at_ 1 rfl h) (by omega)) (fun x9 a9 c9 hK9 hN9 => ?_)
            refine zh 7 rfl (by kernel_rfl) rfl rfl (fun w h => (h.unbase (fun x hx => .tail _ (hx))).pick [1, 2] (by decide)) (fun w h => R_fa fa46_0 rfl) ?_; refine zh 8 rfl (by kernel_rfl) rfl rfl (fun w h => (h.unbase (fun x hx => .tail _ (hx))).pick [1, 2] (by decide)) (fun w h => R_fa fa44_1 rfl) ?_; refine h_one 6 (by kernel_rfl) (fun w h => (h.unbase (fun x hx => .tail _ (hx))).pick [1, 2] (by decide)) ?_; refine o_tel rfl (wn_none rfl) rfl (fun w => zR Tryz.func34 rfl rfl rfl) (fun w h => Clone_ok w ((Kn.old hTr.d.nm).at_ 2 rfl h) (by omega)) (fun x10 a10 c10 hK10 hN10 => ?_)
            refine h_one 9 (by kernel_rfl) (fun w h => (h.unbase (fun x hx => .tail _ (.tail _ (hx)))).pick [1, 2] (by decide)) ?_; refine o_store 0 rfl rfl z42 rfl rfl rfl rfl rfl rfl rfl ?_; refine zh 10 rfl (by kernel_rfl) rfl rfl (fun w h => (h.unbase (fun x hx => .tail _ (.tail _ (hx)))).pick [1, 2] (by decide)) (fun w h => R_fa fa46_1 rfl) ?_; refine h_one 11 (by kernel_rfl) (fun w h => (h.unbase (fun x hx => .tail _ (.tail _ (hx)))).pick [1, 2] (by decide)) ?_; refine o_store 0 rfl rfl z42 rfl rfl rfl rfl rfl rfl rfl ?_; refine h_done (by kernel_rfl) (fun w h => (h.unbase (fun x hx => .tail _ (.tail _ (hx)))).pick [1, 2] (by decide)) ?_; refine zk ?_; refine zr ?_; refine mS e8_2 ?_; refine w_loadA z46 rfl (fun _ h => h.at_ 0 rfl) rfl ?_; refine zS slt31 (by decide) rfl rfl (fun sb gsb usb => ?_)
            refine w_st (B' := _) (L' := [_, _, _, _] ++ (W ++ [])) (fun w h => by rw [List.append_nil]; exact h) ?_; refine w_app (L := []) (W := W) (news := rwE xr ((a9, c9), (a10, c10))) [_, _, _, _] slt31 (by decide) rfl hO rfl rfl (row_own 0 rfl (fun j u h => h)) rfl (by decide) (by omega) (by omega) (fun v2 W2 hO2 => ?_)
            obtain ⟨a2, c2, rfl⟩ := hO2.slice
            refine za (v := .slice a2 (k8 + 1) c2) rfl ?_; refine zn ?_; refine b_on (zk ?_); refine zr ?_; refine w_r (fun _ => R_addN (n := k8) (b := 1) e24_2 rfl (by omega)) rfl rfl ?_; refine mI rfl ?_; refine zn ?_; refine k_st (B' := _) (L' := [_, _] ++ ([(t7b, cel (diE d7 (an7, cn7)) 33), (t4b, cel [str [], .int .i64 0, .bool false, .bool false, .slice none 0 0] 33)] ++ W2)) (fun w h => by simp only [List.append_nil] at h; exact h) ?_; refine k_join (L' := [(t7b, cel (diE d7 (an7, cn7)) 33), (t4b, cel [str [], .int .i64 0, .bool false, .bool false, .slice none 0 0] 33)] ++ W2) (B0 := [(w, No)]) (.cons _ (.cons _ (List.Sublist.refl _))) (fun x hx => by rcases List.mem_cons.1 hx with rfl | hx; (exact (.tail _ (.tail _ (.tail _ (.head _))))); (exact absurd hx (by simp))) (fun w5 hw5 => ?_)
            have hA5 : Kt (w5, inL ([(t7b, cel (diE d7 (an7, cn7)) 33), (t4b, cel [str [], .int .i64 0, .bool false, .bool false, .slice none 0 0] 33)] ++ W2)) w.heap.size (Mc 3 rwC) (d7.nums.take k8) ys := (hKl.now (TL.cells TL.rwc) (.tail _ (.tail _ (.head _))) hw5).sub (TL.cells TL.rwc) (.cons _ (.cons _ (List.Sublist.refl _)))
            have hR5 : Kt (w5, inL ([(t7b, cel (diE d7 (an7, cn7)) 33), (t4b, cel [str [], .int .i64 0, .bool false, .bool false, .slice none 0 0] 33)] ++ W2)) w.heap.size rwT xr ((a9, c9), (a10, c10)) := Kt.sub (show Kt (w5, inL _) w.heap.size rwT xr _ from ⟨(hK9.kt (.tail _ (.head _)) hw5 (hN9 _ (.tail _ (.head _)))), (hK10.kt (.head _) hw5 (hN10 _ (.tail _ (.tail _ (.head _)))))⟩) TL.rwt (.cons _ (.cons _ (List.Sublist.refl _)))
            exact k_again _ (by omega) ⟨k8 + 1, a2, c2, _, W2, (w5, inL _), e4_2, e7_2, rfl, e22_2, e23_2, rfl, rfl, rfl, by omega, hO2, (by rw [List.take_succ_eq_append_getElem hk2, (List.getElem?_eq_some_iff.1 hxr).2]; exact hA5.snocW hR5 (by rw [List.length_take, Nat.min_eq_left (by omega)]; exact hO.1)), rfl⟩
        · refine o_run (v := .slice _ _ _) rfl rfl rfl (fun w h => R_ld1 z42 rfl (zc 0 rfl rfl h)) ?_; refine h_one 2 (by kernel_rfl) (fun w h => (h).pick [1, 2] (by decide)) ?_; refine o_run (v := .slice _ _ _) rfl rfl rfl (fun w h => R_ld1 z42 rfl (zc 0 rfl rfl h)) ?_; refine h_one 3 (by kernel_rfl) (fun w h => (h).pick [1, 2] (by decide)) ?_; refine o_tel rfl (wn_none rfl) rfl (fun w => zR Tryz.func34 rfl rfl rfl) (fun w h => Clone_ok w ((Kn.old hTr.n.nm).at_ 1 rfl h) (by omega)) (fun x11 a11 c11 hK11 hN11 => ?_)
          refine zh 7 rfl (by kernel_rfl) rfl rfl (fun w h => (h.unbase (fun x hx => .tail _ (hx))).pick [1, 2] (by decide)) (fun w h => R_fa fa46_0 rfl) ?_; refine zh 8 rfl (by kernel_rfl) rfl rfl (fun w h => (h.unbase (fun x hx => .tail _ (hx))).pick [1, 2] (by decide)) (fun w h => R_fa fa44_1 rfl) ?_; refine h_one 6 (by kernel_rfl) (fun w h => (h.unbase (fun x hx => .tail _ (hx))).pick [1, 2] (by decide)) ?_; refine o_tel rfl (wn_none rfl) rfl (fun w => zR Tryz.func34 rfl rfl rfl) (fun w h => Clone_ok w ((Kn.old hTr.d.nm).at_ 2 rfl h) (by omega)) (fun x12 a12 c12 hK12 hN12 => ?_)
          refine h_one 9 (by kernel_rfl) (fun w h => (h.unbase (fun x hx => .tail _ (.tail _ (hx)))).pick [1, 2] (by decide)) ?_; refine o_store 0 rfl rfl z42 rfl rfl rfl rfl rfl rfl rfl ?_; refine zh 10 rfl (by kernel_rfl) rfl rfl (fun w h => (h.unbase (fun x hx => .tail _ (.tail _ (hx)))).pick [1, 2] (by decide)) (fun w h => R_fa fa46_1 rfl) ?_; refine h_one 11 (by kernel_rfl) (fun w h => (h.unbase (fun x hx => .tail _ (.tail _ (hx)))).pick [1, 2] (by decide)) ?_; refine o_store 0 rfl rfl z42 rfl rfl rfl rfl rfl rfl rfl ?_; refine h_done (by kernel_rfl) (fun w h => (h.unbase (fun x hx => .tail _ (.tail _ (hx)))).pick [1, 2] (by decide)) ?_; refine zk ?_; refine zr ?_; refine mS e8_2 ?_; refine w_loadA z46 rfl (fun _ h => h.at_ 0 rfl) rfl ?_; refine zS slt31 (by decide) rfl rfl (fun sb gsb usb => ?_)
          refine w_st (B' := _) (L' := [_, _, _, _] ++ (W ++ [])) (fun w h => by rw [List.append_nil]; exact h) ?_; refine w_app (L := []) (W := W) (news := rwE xr ((a11, c11), (a12, c12))) [_, _, _, _] slt31 (by decide) rfl hO rfl rfl (row_own 0 rfl (fun j u h => h)) rfl (by decide) (by omega) (by omega) (fun v2 W2 hO2 => ?_)
          obtain ⟨a2, c2, rfl⟩ := hO2.slice
          refine za (v := .slice a2 (k8 + 1) c2) rfl ?_; refine zn ?_; refine b_on (zk ?_); refine zr ?_; refine w_r (fun _ => R_addN (n := k8) (b := 1) e24_2 rfl (by omega)) rfl rfl ?_; refine mI rfl ?_; refine zn ?_; refine k_st (B' := _) (L' := [_, _] ++ ([(t7b, cel (diE d7 (an7, cn7)) 33), (t4b, cel [str [], .int .i64 0, .bool false, .bool false, .slice none 0 0] 33)] ++ W2)) (fun w h => by simp only [List.append_nil] at h; exact h) ?_; refine k_join (L' := [(t7b, cel (diE d7 (an7, cn7)) 33), (t4b, cel [str [], .int .i64 0, .bool false, .bool false, .slice none 0 0] 33)] ++ W2) (B0 := [(w, No)]) (.cons _ (.cons _ (List.Sublist.refl _))) (fun x hx => by rcases List.mem_cons.1 hx with rfl | hx; (exact (.tail _ (.tail _ (.tail _ (.head _))))); (exact absurd hx (by simp))) (fun w5 hw5 => ?_)
          have hA5 : Kt (w5, inL ([(t7b, cel (diE d7 (an7, cn7)) 33), (t4b, cel [str [], .int .i64 0, .bool false, .bool false, .slice none 0 0] 33)] ++ W2)) w.heap.size (Mc 3 rwC) (d7.nums.take k8) ys := (hKl.now (TL.cells TL.rwc) (.tail _ (.tail _ (.head _))) hw5).sub (TL.cells TL.rwc) (.cons _ (.cons _ (List.Sublist.refl _)))
          have hR5 : Kt (w5, inL ([(t7b, cel (diE d7 (an7, cn7)) 33), (t4b, cel [str [], .int .i64 0, .bool false, .bool false, .slice none 0 0] 33)] ++ W2)) w.heap.size rwT xr ((a11, c11), (a12, c12)) := Kt.sub (show Kt (w5, inL _) w.heap.size rwT xr _ from ⟨(hK11.kt (.tail _ (.head _)) hw5 (hN11 _ (.tail _ (.head _)))), (hK12.kt (.head _) hw5 (hN12 _ (.tail _ (.tail _ (.head _)))))⟩) TL.rwt (.cons _ (.cons _ (List.Sublist.refl _)))
          exact k_again _ (by omega) ⟨k8 + 1, a2, c2, _, W2, (w5, inL _), e4_2, e7_2, rfl, e22_2, e23_2, rfl, rfl, rfl, by omega, hO2, (by rw [List.take_succ_eq_append_getElem hk2, (List.getElem?_eq_some_iff.1 hxr).2]; exact hA5.snocW hR5 (by rw [List.length_take, Nat.min_eq_left (by omega)]; exact hO.1)), rfl⟩
      · refine c_exit ?_; refine zx (zx (b_here rfl (zk ?_))); refine yA ?_; refine mS e8_2 ?_; refine zf fa33_4 e7_2 ?_; refine w_store 0 rfl z31 rfl rfl rfl rfl rfl rfl rfl ?_; refine yC ?_; refine w_loadA z33 e7_2 (fun _ h => h.at_ 0 rfl) rfl ?_; refine w_store 1 rfl z33 e4_2 rfl rfl rfl rfl rfl rfl ?_; refine aB rfl ?_; refine yB ?_; refine ze ?_; refine zb (zt (zt (zb (zt (?_)))))
        obtain rfl : k8 = d7.nums.length := (by omega)
        rw [List.take_length] at hKl
        rw [findD_hit hd7 hf heq]
        refine k_st (B' := _) (L' := [_, _] ++ W) (fun w h => h) ?_; refine r_fin (.inl rfl) rfl (.agg rfl e4_2 z33 (fun _ h => h.at_ 1 rfl) rfl (.tmp rfl rfl .nil)) ?_; exact fun w' hw => ⟨⟨(va8, vc8), rfl, by obtain ⟨b, hb, hr⟩ := own_row hO (fun p hp => hw.own p (List.mem_append_right _ hp)) (N := Nn w w') (fun p hp => ⟨(hw.ok p (List.mem_append_right _ hp) (w, No) (.tail _ (.head _))).elim (fun h => h.elim) (fun h => h), lt_of_blk (hw.own p (List.mem_append_right _ hp))⟩) (hKl.fin (TL.cells TL.rwc) (.head _) hw); simp only [Value.slice.injEq] at hb; obtain ⟨h1, _, h2⟩ := hb; have h3 : b = (va8, vc8) := Prod.ext h1.symm h2.symm; rw [h3] at hr; exact hr⟩, hw.fr (w, No) (.tail _ (.head _))⟩
    · refine zi ?_; refine b_on (zk ?_); refine zr ?_; refine w_r (fun _ => R_addN (n := i) (b := 1) e13_1 rfl (by omega)) rfl rfl ?_; refine mI rfl ?_; refine zn ?_; refine k_st (B' := _) (L' := [(t4b, cel [str [], .int .i64 0, .bool false, .bool false, .slice none 0 0] 33)]) (fun w h => h.drop (.cons _ (List.Sublist.refl _))) ?_; exact k_again _ (by omega) ⟨i + 1, e4_1, e11_1, e12_1, rfl, e1_1, rfl, rfl, by omega, by rw [findD_take hd7 hf, if_neg (by simpa using h4)], rfl⟩
  · refine c_exit ?_; refine zx (zx (b_here rfl (zk ?_))); refine yA ?_; refine w_r (fun _ => R_build bt33 rfl) rfl rfl ?_; refine w_store 0 rfl z33 e4_1 rfl rfl rfl rfl rfl rfl ?_; refine aB rfl ?_; refine yB ?_; refine ze ?_
    have hF : findD l nm = none := by rw [← hf, List.take_of_length_le (by omega)]
    rw [hF]
    refine r_fin (.inl rfl) rfl (.agg rfl e4_1 z33 (fun _ h => h.at_ 0 rfl) rfl (.tmp rfl rfl .nil)) ?_; exact fun w' hw => ⟨rfl, hw.fr _ (.head _)⟩
end Go.Proofs.YtikdkendinnalaaGreatDoor
end
section
namespace Go.Proofs.YtikdkendinnalaaGreatDoor
open Go.RowKit Go.Sx
open Go.Tok Go.Tree Go.Prs Go.Feed Go.Num
theorem cmpN_one_ (n : Nat) : decide (cmpN n 1 = 0) = decide (n = 1) := decide_eq_decide.2 cmpN_eq
set_option maxRecDepth 100000 in
set_option maxHeartbeats 2000000 in
theorem fwhole_ok (s : Bool) {a : Option Addr} {k c n : Nat} {a8 : Option Addr} {k8 c8 m : Nat} (w : World) (hA : Nm w a k c n) (hA8 : Nm w a8 k8 c8 m) (hs : k ≤ 1000000 ∧ k8 ≤ 1000000 ∧ sz n ≤ 2000 ∧ sz m ≤ 2000 ∧ m ≠ 0) :
  Ret Tryz.prog 36 #[.agg #[.bool s, .slice a k c, .slice a8 k8 c8]] w (fun v w' => v = .bool (decide ((mkR s n m).2 = 1)) ∧ Ext w w') := by
 have hxs := mkR_sz s n m
 have hs1 : sz 1 = 1 := rfl
 refine enter (S := No) (l := [_]) (L := []) 19 Tryz.func36 rfl rfl rfl (St.start w No) ?_; refine yA ?_; refine w_boxA rfl (fun p gp up => ?_)
 refine aB rfl ?_; refine yC ?_; refine w_loadA z46 rfl (fun _ h => h.at_ 0 rfl) rfl ?_; refine w_tel2 (fun w => zR Tryz.func37 rfl rfl rfl) rfl rfl (fun w h => fNorm_ok s w ((Kn.old hA).at_ 0 rfl h) ((Kn.old hA8).at_ 0 rfl h) hs) (fun x2 a2 c2 a2' c2' hK2 hN2 hK2' hN2' => ?_)
 refine zm rfl ?_; refine w_r (fun _ => R_extract rfl rfl) rfl rfl ?_; refine w_r (fun _ => R_extract rfl rfl) rfl rfl ?_; refine w_alloc zr46 (fun t3b gt3b ut3b => ?_)
 refine w_store 0 rfl z46 rfl rfl rfl rfl rfl rfl rfl ?_; refine aI rfl ?_; refine yB ?_; refine zq ?_; refine c_heldS mixed ?_; refine zh (v := .int _ _) 0 rfl (by kernel_rfl) rfl rfl (fun w h => h) (fun w h => R_move rfl) ?_; refine zh 1 rfl (by kernel_rfl) rfl rfl (fun w h => h) (fun w h => R_eq rfl rfl) ?_; refine zh (v := .bool _) 2 rfl (by kernel_rfl) rfl rfl (fun w h => h) (fun w h => R_move rfl) ?_; refine h_takeG 3 rfl (by kernel_rfl) rfl rfl rfl (congrArg Value.bool (decide_eq_true (by decide))) rfl (fun w h => h) (fun w h => R_fa fa46_1 rfl) ?_; refine h_takeG (v := .slice _ _ _) 4 rfl (by kernel_rfl) rfl rfl rfl (congrArg Value.bool (decide_eq_true (by decide))) rfl (fun w h => h) (fun w h => R_ld1 z42 rfl (zc 0 rfl rfl h)) ?_; refine h_one 5 (by kernel_rfl) (fun w h => h) ?_
 refine o_tel rfl (wn_yes rfl rfl rfl (congrArg Value.bool (decide_eq_true (by decide)))) rfl (fun w => zR Tryz.func56 rfl rfl rfl) (fun w h => Of_ok (s := 1) w (by decide)) (fun x4 a4 c4 hK4 hN4 => ?_)
 refine h_one 6 (by kernel_rfl) (fun w h => h.unbase (fun x hx => .tail _ (hx))) ?_; refine o_pureW rfl (wn_yes rfl rfl rfl (congrArg Value.bool (decide_eq_true (by decide)))) rfl (fun w => zR Tryz.func55 rfl rfl rfl) (fun w h => Cmp_ok w (hK2'.at_ 1 rfl h) (hK4.at_ 0 rfl h) ⟨by omega, by omega⟩) ?_; refine h_takeG 7 rfl (by kernel_rfl) rfl rfl rfl (congrArg Value.bool (decide_eq_true (by decide))) rfl (fun w h => h.unbase (fun x hx => .tail _ (hx))) (fun w h => R_eq rfl rfl) ?_; refine zh (v := .bool _) 8 rfl (by kernel_rfl) rfl rfl (fun w h => h.unbase (fun x hx => .tail _ (hx))) (fun w h => zT (congrArg Value.bool (decide_eq_true (by decide))) rfl) ?_; refine zh (v := .bool _) 9 rfl (by kernel_rfl) rfl rfl (fun w h => h.unbase (fun x hx => .tail _ (hx))) (fun w h => R_assign rfl) ?_; refine h_done (by kernel_rfl) (fun w h => h.unbase (fun x hx => .tail _ (hx))) ?_
 refine zk ?_; refine ze ?_; refine zo (v := .bool _) rfl rfl rfl ?_; exact fun w' hw => ⟨by rw [← cmpN_one_], hw.fr (w, No) (.tail _ (.tail _ (.head _)))⟩
set_option maxRecDepth 100000 in
set_option maxHeartbeats 2000000 in
theorem fwhole_no (s : Bool) {a : Option Addr} {k c n : Nat} {a8 : Option Addr} {k8 c8 m : Nat} (w : World) (hA : Nm w a k c n) (hA8 : Nm w a8 k8 c8 m) (hs : k ≤ 1000000 ∧ k8 ≤ 1000000 ∧ sz n ≤ 2000 ∧ m = 0) :
  Ret Tryz.prog 36 #[.agg #[.bool s, .slice a k c, .slice a8 k8 c8]] w (fun v w' => v = .bool false ∧ Ext w w') := by
 refine enter (S := No) (l := [_]) (L := []) 19 Tryz.func36 rfl rfl rfl (St.start w No) ?_; refine yA ?_; refine w_boxA rfl (fun p gp up => ?_)
 refine aB rfl ?_; refine yC ?_; refine w_loadA z46 rfl (fun _ h => h.at_ 0 rfl) rfl ?_; refine zC (fun w => zR Tryz.func37 rfl rfl rfl) rfl rfl (fun w h => fNorm_no s w ((Kn.old hA).at_ 0 rfl h) ((Kn.old hA8).at_ 0 rfl h) hs) ?_; refine zm rfl ?_; refine w_r (fun _ => R_extract rfl rfl) rfl rfl ?_; refine w_r (fun _ => R_extract rfl rfl) rfl rfl ?_; refine w_alloc zr46 (fun t3b gt3b ut3b => ?_)
 refine w_store 0 rfl z46 rfl rfl rfl rfl rfl rfl rfl ?_; refine aI rfl ?_; refine yB ?_; refine zq ?_; refine c_heldS mixed ?_; refine zh (v := .int _ _) 0 rfl (by kernel_rfl) rfl rfl (fun w h => h) (fun w h => R_move rfl) ?_; refine zh 1 rfl (by kernel_rfl) rfl rfl (fun w h => h) (fun w h => R_eq rfl rfl) ?_; refine zh (v := .bool _) 2 rfl (by kernel_rfl) rfl rfl (fun w h => h) (fun w h => R_move rfl) ?_; refine h_skip 3 rfl (by kernel_rfl) rfl rfl rfl (congrArg Value.bool (decide_eq_false (by decide))) rfl (fun w h => h) ?_; refine h_skip 4 rfl (by kernel_rfl) rfl rfl rfl (congrArg Value.bool (decide_eq_false (by decide))) rfl (fun w h => h) ?_; refine h_skip 5 rfl (by kernel_rfl) rfl rfl rfl (congrArg Value.bool (decide_eq_false (by decide))) rfl (fun w h => h) ?_
 refine h_skip 6 rfl (by kernel_rfl) rfl rfl rfl (congrArg Value.bool (decide_eq_false (by decide))) rfl (fun w h => h) ?_; refine h_skip 7 rfl (by kernel_rfl) rfl rfl rfl (congrArg Value.bool (decide_eq_false (by decide))) rfl (fun w h => h) ?_; refine zh (v := .bool _) 8 rfl (by kernel_rfl) rfl rfl (fun w h => h) (fun w h => zF (congrArg Value.bool (decide_eq_false (by decide))) rfl) ?_; refine zh (v := .bool _) 9 rfl (by kernel_rfl) rfl rfl (fun w h => h) (fun w h => R_assign rfl) ?_; refine h_done (by kernel_rfl) (fun w h => h) ?_; refine zk ?_; refine ze ?_; refine zo (v := .bool _) rfl rfl rfl ?_; exact fun w' hw => ⟨rfl, hw.fr (w, No) (.head _)⟩
theorem whole_rw {x : Rw} {b : A2} {w : World} {N : Nat → Prop} (h : rwT w N x b) (hp : x.p ≤ 900000 ∧ x.q ≤ 900000) (hs : sz x.n ≤ 2000 ∧ sz x.d ≤ 2000) : Ret Tryz.prog 36 #[.agg (rwE x b).toArray] w fun v w' => v = .bool x.ok ∧ Ext w w' := by
 by_cases hd : x.d = 0
 ·have h1 : x.ok = false := by unfold Rw.ok; simp [hd]
  rw [h1]; exact fwhole_no x.s w h.n.nm h.d.nm ⟨by omega, by omega, hs.1, hd⟩
 ·have h1 : x.ok = decide ((mkR x.s x.n x.d).2 = 1) := by unfold Rw.ok Rw.r; simp [hd]
  rw [h1]; exact fwhole_ok x.s w h.n.nm h.d.nm ⟨by omega, by omega, hs.1, hs.2, hd⟩
end Go.Proofs.YtikdkendinnalaaGreatDoor
end
section
/- A strings.Builder in a block of its own (SxB without what SxNy has too). -/
namespace Go.Sx
open Go.RowKit Go.Tree
section
variable {P : Program} {ops : Array Oper} {Q : Exit → Act → World → Prop} {c : Cf} {e : Env} {B : Base} {L : Heap} {rest : List Oper} {d : Nat}
theorem strC (s : List UInt8) : Lib.strCells ⟨s.toArray⟩ = Lib.byteCells s := rfl
theorem strZ (s : List UInt8) : (ByteArray.mk s.toArray).size = s.length := by simp [ByteArray.size]
/-- no slice of room none at a place -/
def NZ (v : Value) : Prop := ∀ a n, v ≠ .slice (some a) n 0
theorem Own.nz {T : TypeId} {k : Nat} {v : Value} {xs : List Value} {n : Nat} {W : Heap} (h : Own T k v xs n W) (hn : 0 < n) : NZ v := by
  intro a m hv
  rcases h.2 with ⟨h1, h2, _⟩ | ⟨b, c, sp, h1, h2, _⟩
  · omega
  · rw [h1] at hv; injection hv with _ _ h3; omega
/-- append of a string's bytes onto a slice of the call's own -/
theorem w_appS {W : Heap} {x y : Operand} {T : TypeId} {p : String} {ed : Array Edge} {t u el : Nat} {v : Value} {xs : List Value} {n : Nat} {s : List UInt8} (A : Heap) (hT : slT P t el 1 1 (.int .u8 0)) (hu : P.underlying u = some .string) (hx : ev c.n e x = v) (hown : Own el 1 v xs n W) (hy : ev c.n e y = str s) (hnz : NZ v)
    (hb : n + s.length ≤ 1000000000)
    (h : ∀ v' W', Own el 1 v' (xs ++ Lib.byteCells s) (n + s.length) W' → NZ v' → WX .sq P ops c Q rest (upd e d v') B (A ++ (W' ++ L))) : WX .sq P ops c Q (⟨some d, .call ⟨.builtin .append, #[x, y], #[t, u]⟩, T, p, ed, none⟩ :: rest) e B (A ++ (W ++ L)) := by
  obtain ⟨i, ht, hi, hsz, hby, hz, hzs⟩ := slT_spec hT
  have hrun : ∀ {w : World} {r : Value} {w' : World}, (Builtin.append_ #[t, u] T #[v, str s]).run P w = .ok r w' → Run P ⟨some d, .call ⟨.builtin .append, #[x, y], #[t, u]⟩, T, p, ed, none⟩ (ev c.n e) w r w' := fun hr => by
    unfold Run
    simp only [execOp, resolve, Sem.run_bind, pure_run, Result.andThen_ok, invoke, builtin, List.map_toArray, List.map_cons, List.map_nil, hx, hy, hr]
  have hs0 : str s = .string ⟨s.toArray⟩ := rfl
  unfold WX at *
  intro w hw
  have hxl := hown.1
  have hlen : (xs ++ Lib.byteCells s).length = (n + s.length) * 1 := by rw [List.length_append, Lib.byteCells_length]; omega
  rcases hown.2 with ⟨rfl, rfl, rfl⟩ | ⟨b, cp, sp, rfl, hc, hs', rfl⟩
  · have hx0 : xs = [] := by simpa using hxl
    subst hx0
    by_cases hm : s.length = 0
    · have hs1 : s = [] := by simpa using hm
      subst hs1
      have hf := Lib.run_firstCells_string (P := P) w 1 ⟨#[]⟩
      have hr : (Builtin.append_ #[t, u] T #[.slice none 0 0, str []]).run P w = .ok (.slice none 0 0) w := by
        have hz0 : (ByteArray.mk (#[] : Array UInt8)).size = 0 := rfl
        rw [hz0] at hf
        simp [Builtin.append_, run_underlying ht, run_underlying hu, sizeOf, typeInfo, hi, hsz, Builtin.lenOf, hz0, hf, str]
      exact s_run (hrun hr) rfl rfl (h _ [] (by simpa [Lib.byteCells] using Own.nil el 1) hnz w hw)
    · have hr := run_append_nil_string (P := P) w t u T el i (.int .u8 0) ht hu hi hz ⟨s.toArray⟩ (by rw [strZ]; omega) (by rw [strZ]; omega) (by rw [strZ, hby]; omega)
      rw [strZ] at hr
      have hge := grownCap_ge w s.length 0 el
      have hs := (hw.drawn (w.drawn + 1)).new (o := cel ([] ++ Lib.byteCells s ++ (Builtin.zeroCells (Value.cells (.int .u8 0)) (grownCap w s.length 0 el - s.length)).toList) el)
      refine s_run (hrun hr) rfl rfl (h _ [(w.heap.size, cel ([] ++ Lib.byteCells s ++ (Builtin.zeroCells (Value.cells (.int .u8 0)) (grownCap w s.length 0 el - s.length)).toList) el)] ⟨hlen, .inr ⟨w.heap.size, grownCap w s.length 0 el, _, by rw [Nat.zero_add], by rw [Nat.zero_add]; exact hge, ?_, rfl⟩⟩ (fun a m hv => by injection hv with _ _ h3; omega) _ ?_)
      · rw [Array.length_toList, size_zeroCells, hzs, Nat.zero_add]
      · have := hs.perm (List.perm_middle.symm)
        have e1 : ((s.toArray.map fun b => Value.int .u8 b.toNat) ++ Builtin.zeroCells (Value.cells (.int .u8 0)) (grownCap w s.length 0 el - s.length) : Array Value) = ([] ++ Lib.byteCells s ++ (Builtin.zeroCells (Value.cells (.int .u8 0)) (grownCap w s.length 0 el - s.length)).toList).toArray := by
          apply Array.ext'
          simp [Lib.byteCells]
        rw [e1]
        exact this
  · have hb' := hw.own (b, cel (xs ++ sp) el) (by simp)
    by_cases hroom : n + s.length ≤ cp
    · have hr := Lib.run_append_room_string (P := P) w t u T el i ht hu hi hsz b n cp (xs ++ sp).toArray hb' ⟨s.toArray⟩ (by rw [strZ]; exact hroom) (by rw [strZ]; simp; omega)
      rw [strZ, strC] at hr
      have hs := hw.put A.length (l' := xs ++ Lib.byteCells s ++ sp.drop (Lib.byteCells s).length) (b := b) (l := xs ++ sp) (T := el) (by simp)
      have hset : (A ++ ([(b, cel (xs ++ sp) el)] ++ L)).set A.length (b, cel (xs ++ Lib.byteCells s ++ sp.drop (Lib.byteCells s).length) el) = A ++ ([(b, cel (xs ++ Lib.byteCells s ++ sp.drop (Lib.byteCells s).length) el)] ++ L) := by simp
      rw [hset] at hs
      have e1 : ((xs ++ sp).toArray.toList.take n ++ Lib.byteCells s ++ (xs ++ sp).toArray.toList.drop (n + s.length)) = xs ++ Lib.byteCells s ++ sp.drop (Lib.byteCells s).length := by
        simp only [Lib.byteCells_length]
        rw [show n = xs.length by omega, List.take_left', List.drop_append]
        · simp [List.drop_eq_nil_of_le]
        · rfl
      rw [e1] at hr
      refine s_run (hrun hr) rfl rfl (h _ [_] ⟨hlen, .inr ⟨b, cp, sp.drop (Lib.byteCells s).length, rfl, hroom, ?_, rfl⟩⟩ (fun a m hv => by injection hv with _ _ h3; subst h3; exact hnz _ _ rfl) _ hs)
      rw [List.length_drop, hs', Lib.byteCells_length]; omega
    · have hge := grownCap_ge w (n + s.length) cp el
      have hr := Lib.run_append_grow_string (P := P) w t u T el i (.int .u8 0) ht hu hi hz ⟨b, 0, none⟩ n cp xs (by rw [hsz]; exact hxl) (fun j u hu => by
          have hj := (List.getElem?_eq_some_iff.1 hu).1
          have : w.cell? ⟨b, 0 + j, none⟩ = some u := by
            simp only [World.cell?, hb']
            simp [List.getElem?_append_left hj, hu]
          simp only [Addr.add]; split <;> simp_all) ⟨s.toArray⟩ (by rw [strZ]; omega) (by rw [strZ]; omega) (by rw [strZ, hby]; exact growslice_fits (by omega) (by omega))
      rw [strZ] at hr
      have hs := (hw.drawn (w.drawn + 1)).new (o := cel (xs ++ Lib.byteCells s ++ (Builtin.zeroCells (Value.cells (.int .u8 0)) (grownCap w (n + s.length) cp el - (n + s.length))).toList) el)
      refine s_run (hrun hr) rfl rfl (h _ [(w.heap.size, cel (xs ++ Lib.byteCells s ++ (Builtin.zeroCells (Value.cells (.int .u8 0)) (grownCap w (n + s.length) cp el - (n + s.length))).toList) el)] ⟨hlen, .inr ⟨w.heap.size, grownCap w (n + s.length) cp el, _, rfl, hge, ?_, rfl⟩⟩ (fun a m hv => by injection hv with _ _ h3; omega) _ ?_)
      · rw [Array.length_toList, size_zeroCells, hzs]
      · have h2 := hs.drop (L' := (w.heap.size, cel (xs ++ Lib.byteCells s ++ (Builtin.zeroCells (Value.cells (.int .u8 0)) (grownCap w (n + s.length) cp el - (n + s.length))).toList) el) :: (A ++ L)) (by
          refine List.Sublist.cons_cons _ ?_
          exact List.Sublist.append (List.Sublist.refl _) (List.sublist_cons_self _ _))
        have := h2.perm (List.perm_middle.symm)
        have e1 : (xs.toArray ++ (Lib.strCells ⟨s.toArray⟩).toArray ++ Builtin.zeroCells (Value.cells (.int .u8 0)) (grownCap w (n + s.length) cp el - (n + s.length)) : Array Value) = (xs ++ Lib.byteCells s ++ (Builtin.zeroCells (Value.cells (.int .u8 0)) (grownCap w (n + s.length) cp el - (n + s.length))).toList).toArray := by rw [strC]; simp
        rw [e1]
        exact this
end
section
variable {P : Program} {ρ : Operand → Value} {w : World} {D : Option Tmp} {ty t yt : TypeId} {pos : String} {aft : Array Edge} {g : Option (Nat × Bool)} {x y : Operand}
theorem R_peqN {te : TypeId} (hu : P.underlying t = some (.pointer te)) (hx : ρ x = .pointer none) (hy : ρ y = .pointer none) : Run P ⟨D, .binOp .eql t x y yt, ty, pos, aft, g⟩ ρ w (.bool true) w := by
  have h : ∀ d : Nat, (Op.equalIn (d + 1) t (.pointer none) (.pointer none)).run P w = .ok true w := fun d => by
    simp [Op.equalIn, run_underlying hu, go_sem]
  have h2 := h 9999
  unfold Run
  simp [execOp, hx, hy, eqGuard, binOp, Op.equal, Op.maxDepth, h2, go_sem]
theorem R_peqS {te : TypeId} {a : Addr} (hu : P.underlying t = some (.pointer te)) (hx : ρ x = .pointer (some a)) (hy : ρ y = .pointer none) : Run P ⟨D, .binOp .eql t x y yt, ty, pos, aft, g⟩ ρ w (.bool false) w := by
  have h : ∀ d : Nat, (Op.equalIn (d + 1) t (.pointer (some a)) (.pointer none)).run P w = .ok false w := fun d => by
    simp [Op.equalIn, run_underlying hu, go_sem]
  have h2 := h 9999
  unfold Run
  simp [execOp, hx, hy, eqGuard, binOp, Op.equal, Op.maxDepth, h2, go_sem]
theorem R_pneS {te : TypeId} {a : Addr} (hu : P.underlying t = some (.pointer te)) (hi : (P.info? te).isSome = true) (hx : ρ x = .pointer (some a)) (hy : ρ y = .pointer (some a)) : Run P ⟨D, .binOp .neq t x y yt, ty, pos, aft, g⟩ ρ w (.bool false) w := by
  obtain ⟨j, hj⟩ := Option.isSome_iff_exists.1 hi
  have h2 := Lib.run_neq_ptr_same (P := P) w a hu hj
  unfold Run
  simp [execOp, hx, hy, eqGuard, go_sem] at h2 ⊢
  simp [h2]
theorem R_noEsc {f : FuncId} {fn : Func} {tys : Array TypeId} {v : Value} (hf : P.funcs[f]? = some fn) (hname : (fn.name == "runtime.NumGoroutine") = false) (hb : fn.body.isNone = true) (hn : Extern.findNext fn = none) (he : Extern.find fn = some Extern.AbiNoEscape.same) (hx : ρ x = .func (.func f) #[] #[]) (hy : ρ y = v) :
    Run P ⟨D, .call ⟨.value x, #[y], tys⟩, ty, pos, aft, g⟩ ρ w v w := by
  have h := run_callFunc_extern (P := P) hf hname hb hn he #[v] w
  rw [Lib.run_noEscape] at h
  simp [Run, execOp, hx, hy, go_sem, resolve, invoke, h, Result.andThen]
end
section
variable {P : Program} {ops : Array Oper} {Q : Exit → Act → World → Prop} {c : Cf} {e : Env} {B : Base} {L : Heap} {rest : List Oper} {d : Nat} {q : Md} {x : Operand} {ty src dst : TypeId} {pp : String} {ed : Array Edge}
theorem w_toU {t n : Nat} {b : Nat} {cs : List Value} {T : TypeId} (i : Nat) (hi : L[i]? = some (b, cel cs T)) (hc : 0 < cs.length) (hs : P.underlying src = some (.pointer t)) (hd : P.underlying dst = some .unsafePointer) (ht : (P.info? t).map (·.size) = some (n + 1)) (hx : ev c.n e x = .pointer (some ⟨b, 0, none⟩))
    (h : WX q P ops c Q rest (upd e d (.pointer (some ⟨b, 0, none⟩))) B L) : WX q P ops c Q (⟨some d, .convert src dst x, ty, pp, ed, none⟩ :: rest) e B L := by
  obtain ⟨j, hj, hj2⟩ := Option.map_eq_some_iff.1 ht
  refine w_run (fun w hw => ?_) rfl rfl h
  have h1 := hw.at_ i hi
  have hr := Lib.run_to_unsafe (P := P) w (⟨b, 0, none⟩ : Addr) hs hd hj (by rw [hj2]; omega) (e := T) (cells := cs.length) (by simp [World.shape?, h1, cel]) hc
  unfold Run
  simp only [execOp, hx, Sem.run_bind, hr, Result.andThen_ok]
  rfl
theorem w_fromU {t : Nat} {b : Nat} {cs : List Value} {T : TypeId} (i : Nat) (hi : L[i]? = some (b, cel cs T)) (hs : P.underlying src = some .unsafePointer) (hd : P.underlying dst = some (.pointer t)) (ht : (P.info? t).isSome = true) (hl : liesAt P P.depth T (cs.length / P.cellsOf T) 0 t 1 = true) (hx : ev c.n e x = .pointer (some ⟨b, 0, none⟩))
    (h : WX q P ops c Q rest (upd e d (.pointer (some ⟨b, 0, none⟩))) B L) : WX q P ops c Q (⟨some d, .convert src dst x, ty, pp, ed, none⟩ :: rest) e B L := by
  obtain ⟨j, hj⟩ := Option.isSome_iff_exists.1 ht
  refine w_run (fun w hw => ?_) rfl rfl h
  have h1 := hw.at_ i hi
  have hr := Lib.run_from_unsafe (P := P) w (⟨b, 0, none⟩ : Addr) hs hd hj (e := T) (cells := cs.length) (by simp [World.shape?, h1, cel]) hl
  unfold Run
  simp only [execOp, hx, Sem.run_bind, hr, Result.andThen_ok]
  rfl
end
theorem St.frz {B : Base} {L : Heap} {w : World} (h : St B L w) (i : Nat) {b : Nat} {cs : List Value} {T : TypeId} (hi : L[i]? = some (b, cel cs T)) (n : Nat) : ∃ o', St B (L.set i (b, o')) (w.freeze ⟨b, 0, none⟩ n) := by
  have hb := h.at_ i hi
  have hlt := lt_of_blk hb
  have hs : (w.freeze ⟨b, 0, none⟩ n).heap.size = w.heap.size := by unfold World.freeze; split <;> simp
  obtain ⟨o', ho⟩ : ∃ o', (w.freeze ⟨b, 0, none⟩ n).heap[b]? = some o' := ⟨_, Array.getElem?_eq_getElem (by omega)⟩
  refine ⟨o', h.mod i hi ?_ ho⟩
  unfold World.freeze
  split
  · exact Fr.refl _ _
  · exact ⟨rfl, rfl, rfl, by simp, fun k _ hk => by
      simp only [Array.getElem?_modify]
      rw [if_neg (fun e => hk e.symm)]⟩
section
variable {P : Program} {ρ : Operand → Value} {w : World} {D : Option Tmp} {ty t yt : TypeId} {pos : String} {aft : Array Edge} {g : Option (Nat × Bool)} {x y : Operand}
theorem R_sliceData {tys : Array TypeId} {a : Option Addr} {n m : Nat} (hx : ρ x = .slice a n m) (hz : NZ (.slice a n m)) : Run P ⟨D, .call ⟨.builtin .unsafeSliceData, #[x], tys⟩, ty, pos, aft, g⟩ ρ w (.pointer a) w := by
  cases a with
  | none =>
    have h := Lib.run_unsafeSliceData_nil (P := P) w tys ty n m
    simp [Run, execOp, hx, go_sem, resolve, invoke, builtin, h, Result.andThen]
  | some a =>
    have hm : m ≠ 0 := fun h => hz a n (by rw [h])
    have h := Lib.run_unsafeSliceData_row (P := P) w tys ty a n m hm
    simp [Run, execOp, hx, go_sem, resolve, invoke, builtin, h, Result.andThen]
end
section
variable {P : Program} {ops : Array Oper} {Q : Exit → Act → World → Prop} {c : Cf} {e : Env} {B : Base} {L : Heap} {d fuel : Nat} {S : World → Prop} {listed : Array Bool} {x y : Operand} {ty : TypeId} {pp : String} {ed : Array Edge}
theorem h_sliceData {tys : Array TypeId} {a : Option Addr} {n m : Nat} (i : Nat) (hi : ops[i]? = some ⟨some d, .call ⟨.builtin .unsafeSliceData, #[x], tys⟩, ty, pp, ed, none⟩) (hr : Region.ready .any ops listed = [i]) (hs : ∀ w, St B L w → S w) (hx : ev c.n e x = .slice a n m) (hz : NZ (.slice a n m))
    (h : WH P ops c Q S fuel (listed.setIfInBounds i true) (upd e d (.pointer a)) B L) : WH P ops c Q S (fuel + 1) listed e B L :=
  h_val i hi hr rfl rfl hs (fun w hw => ⟨_, w, B, L, R_sliceData hx hz, hw, h⟩)
/-- the bytes of a row, as a string: the row is let go -/
theorem h_unsafeStr {W : Heap} {pt it el : TypeId} {a : Option Addr} {m : Nat} {s : List UInt8} (A : Heap) (i : Nat) (hi : ops[i]? = some ⟨some d, .call ⟨.builtin .unsafeString, #[x, y], #[pt, it]⟩, ty, pp, ed, none⟩) (hr : Region.ready .any ops listed = [i]) (hs : ∀ w, St B (A ++ (W ++ L)) w → S w)
    (hp : P.underlying pt = some (.pointer el)) (hc : P.cellsOf el = 1) (hown : Own el 1 (.slice a s.length m) (Lib.byteCells s) s.length W) (hb : s.length ≤ 1000000000) (hx : ev c.n e x = .pointer a) (hy : ev c.n e y = .int .i64 (s.length : Nat))
    (h : WH P ops c Q S fuel (listed.setIfInBounds i true) (upd e d (str s)) B (A ++ L)) : WH P ops c Q S (fuel + 1) listed e B (A ++ (W ++ L)) := by
  refine h_val i hi hr rfl rfl hs (fun w hw => ?_)
  by_cases h0 : s = []
  · subst h0
    refine ⟨str [], w, B, A ++ L, ?_, hw.drop ((List.Sublist.refl A).append (List.sublist_append_right _ _)), h⟩
    have hr := Lib.run_unsafeString_none (P := P) w pt it ty a
    simp only [List.length_nil] at hy
    unfold Run
    simp only [execOp, resolve, Sem.run_bind, pure_run, Result.andThen_ok, invoke, builtin, List.map_toArray, List.map_cons, List.map_nil, hx, hy]
    simp only [Int.ofNat_zero, Int.natCast_zero] at hr ⊢
    rw [hr]
    rfl
  · have hl : 0 < s.length := List.length_pos_iff.2 h0
    rcases hown.2 with ⟨_, h2, _⟩ | ⟨b, cp, sp, hv, hcp, hsp, rfl⟩
    · omega
    · injection hv with hv1 hv2 hv3
      subst hv1; subst hv3
      have hm := hw.own (b, cel (Lib.byteCells s ++ sp) el) (by simp)
      obtain ⟨o', ho⟩ := hw.frz A.length (b := b) (cs := Lib.byteCells s ++ sp) (T := el) (by simp) s.length
      refine ⟨str s, _, B, A ++ L, ?_, ho.drop (by simp), h⟩
      have hr := Lib.run_unsafeString_row (P := P) w pt it ty el hp hc b (Lib.byteCells s ++ sp).length (by simp [World.shape?, hm, cel]) s h0 (by simp [Lib.byteCells_length]) (by omega) (fun j u hu => by
        have hj := (List.getElem?_eq_some_iff.1 hu).1
        have e1 : (⟨b, 0, none⟩ : Addr).add j = ⟨b, j, none⟩ := by simp [Addr.add]; omega
        rw [e1]
        have e2 : (Lib.byteCells s ++ sp)[j]? = some (.int .u8 (u.toNat : Nat)) := by
          rw [List.getElem?_append_left (by rw [Lib.byteCells_length]; exact hj)]
          simp [Lib.byteCells, hu]
        exact zc A.length (b := b) (cs := Lib.byteCells s ++ sp) (T := el) (by simp) e2 hw)
      unfold Run
      simp only [execOp, resolve, Sem.run_bind, pure_run, Result.andThen_ok, invoke, builtin, List.map_toArray, List.map_cons, List.map_nil, hx, hy, hr]
end
structure BldO (te : TypeId) (p : Nat) (a : Option Addr) (v : Value) (s : List UInt8) (W : Heap) : Prop where
  ad : a = none ∨ a = some (⟨p, 0, none⟩ : Addr)
  own : Own te 1 v (Lib.byteCells s) s.length W
  nz : NZ v
theorem BldO.eq {te : TypeId} {p : Nat} {a : Option Addr} {v : Value} {s t : List UInt8} {W : Heap} (h : BldO te p a v s W) (he : s = t) : BldO te p a v t W := he ▸ h
theorem BldO.nil (te : TypeId) (p : Nat) : BldO te p none (.slice none 0 0) [] [] := ⟨.inl rfl, Own.nil te 1, fun a n h => by cases h⟩
/-- a builder at the block p, of what is written -/
def BldAt (te T : TypeId) (p : Nat) (s : List UInt8) (B : Base) (Lr : Heap) (w : World) : Prop := ∃ a v W, BldO te p a v s W ∧ St B ((p, cel [.pointer a, v] T) :: (W ++ Lr)) w
section
variable {P : Program} {ops : Array Oper} {Q : Exit → Act → World → Prop} {c : Cf} {e : Env} {B : Base} {rest : List Oper} {o : Oper} {d : Nat} {te T : TypeId} {p : Nat} {L Lr W : Heap} {a : Option Addr} {v : Value} {s : List UInt8} {f : FuncId} {args : Array Value}
theorem w_ck (hr : ∀ w, RunE P o (ev c.n e) w f args) (hg : plainB o = true) (hd : o.dst = some d)
    (hc : ∀ w, St B ((p, cel [.pointer a, v] T) :: L) w → Ret P f args w fun u w' => u = .tuple #[] ∧ St B ((p, cel [.pointer (some ⟨p, 0, none⟩), v] T) :: L) w')
    (h : WX .sq P ops c Q rest (upd e d (.tuple #[])) B ((p, cel [.pointer (some ⟨p, 0, none⟩), v] T) :: L)) : WX .sq P ops c Q (o :: rest) e B ((p, cel [.pointer a, v] T) :: L) :=
  w_callR (R := fun _ u w' => u = .tuple #[] ∧ St B ((p, cel [.pointer (some ⟨p, 0, none⟩), v] T) :: L) w') hr hg hd hc (fun w hw u w' ⟨hu, hs⟩ => ⟨B, _, hs, by subst hu; exact h⟩)
theorem RunE.to {ρ : Operand → Value} {w : World} {args' : Array Value} (h : RunE P o ρ w f args) (he : args = args') : RunE P o ρ w f args' := he ▸ h
/-- a call that lets blocks go -/
theorem w_lets {L' : Heap} (r : Value) (hr : ∀ w, RunE P o (ev c.n e) w f args) (hg : plainB o = true) (hd : o.dst = some d) (hc : ∀ w, St B L w → Ret P f args w fun u w' => u = r ∧ St B L' w')
    (h : WX .sq P ops c Q rest (upd e d r) B L') : WX .sq P ops c Q (o :: rest) e B L :=
  w_callR (R := fun _ u w' => u = r ∧ St B L' w') hr hg hd hc (fun w hw u w' ⟨hu, hs⟩ => ⟨B, _, hs, by subst hu; exact h⟩)
/-- a call that writes on a builder -/
theorem w_bld (s' : List UInt8) (r : Value) (hr : ∀ w, RunE P o (ev c.n e) w f args) (hg : plainB o = true) (hd : o.dst = some d) (hO : BldO te p a v s W)
    (hc : ∀ w, BldAt te T p s B Lr w → Ret P f args w fun u w' => u = r ∧ BldAt te T p s' B Lr w')
    (h : ∀ a' v' W', BldO te p a' v' s' W' → WX .sq P ops c Q rest (upd e d r) B ((p, cel [.pointer a', v'] T) :: (W' ++ Lr))) : WX .sq P ops c Q (o :: rest) e B ((p, cel [.pointer a, v] T) :: (W ++ Lr)) :=
  w_callR (R := fun _ u w' => u = r ∧ BldAt te T p s' B Lr w') hr hg hd (fun w hw => hc w ⟨a, v, W, hO, hw⟩)
    (fun w hw u w' ⟨hu, a', v', W', hO', hs⟩ => ⟨B, _, hs, by subst hu; exact h a' v' W' hO'⟩)
end
theorem OwnS.row {te : TypeId} {a : Option Addr} {n c : Nat} {xs : List (List UInt8)} {W : Heap} (h : OwnS te (.slice a n c) xs W) (hn : 0 < xs.length) : ∃ b sp, a = some ⟨b, 0, none⟩ ∧ n = xs.length ∧ W = [(b, cel (xs.map str ++ sp) te)] := by
  rcases h.2 with ⟨_, h2, _⟩ | ⟨b, cp, sp, hv, _, _, hW⟩
  · omega
  · injection hv with h1 h2 h3
    exact ⟨b, sp, h1, h2, hW⟩
end Go.Sx
end
section
/-
  DERIVED: THE SHELF's CONTRACTS AT THIS DUMP, IN PLAIN WORDS (tools/lay-plain.mjs out of 'YtikdkendinnalaaGreatDoorShelfJ.lean', which tools/lay-shelf.mjs wrote): THE SAME DECLARATIONS UNDER THE SAME NAMES: 'import', 'namespace', 'open', 'def', 'theorem' AND NOTHING ELSE: no command of the shelf's: FOR A HAND-IN. Each laying: the table of numbers ('.._ren') and one theorem, a field a fact of the dump's own or the kernel's comparison; each contract: ONE APPLICATION.
-/
namespace Go.Proofs
open Go.Shelf
def Tryz.lays156_ren : Go.Shelf.Ren := ⟨fun | 156 => 39 | 165 => 74 | 166 => 40 | 169 => 41 | 240 => 75 | 241 => 118 | 276 => 119 | 277 => 156 | n => n, fun | 31 => 81 | 9 => 9 | 3 => 3 | 4 => 4 | 0 => 0 | 20 => 20 | 72 => 80 | 76 => 88 | 70 => 77 | 37 => 78 | 75 => 87 | 127 => 123 | 164 => 161 | 5 => 5 | 80 => 90 | n => n, fun | n => n⟩
theorem Tryz.lays156 : Go.Proofs.Lays.n156 Tryz.prog Tryz.lays156_ren := {
  mixed := by kernel_rfl
  f156 := Tryz.func39.trans (congrArg some (by kernel_rfl))
  f165 := Tryz.func74.trans (congrArg some (by kernel_rfl))
  f166 := Tryz.func40.trans (congrArg some (by kernel_rfl))
  f169 := Tryz.func41.trans (congrArg some (by kernel_rfl))
  f240 := Tryz.func75.trans (congrArg some (by kernel_rfl))
  f241 := Tryz.func118.trans (congrArg some (by kernel_rfl))
  f276 := Tryz.func119.trans (congrArg some (by kernel_rfl))
  f277 := Tryz.func156.trans (congrArg some (by kernel_rfl))
  t0 := Tryz.underlying0
  a0 := Tryz.isAgg0
  z0 := Tryz.sizeOf0
  v0 := Tryz.zeroValue0
  t3 := Tryz.underlying3
  a3 := Tryz.isAgg3
  z3 := Tryz.sizeOf3
  v3 := Tryz.zeroValue3
  t4 := Tryz.underlying4
  a4 := Tryz.isAgg4
  z4 := Tryz.sizeOf4
  v4 := Tryz.zeroValue4
  t9 := Tryz.underlying9
  a9 := Tryz.isAgg9
  z9 := Tryz.sizeOf9
  v9 := Tryz.zeroValue9
  t20 := Tryz.underlying20
  a20 := Tryz.isAgg20
  z20 := Tryz.sizeOf20
  v20 := Tryz.zeroValue20
  t31 := Tryz.underlying81
  a31 := Tryz.isAgg81
  z31 := Tryz.sizeOf81
  v31 := Tryz.zeroValue81
  t37 := Tryz.underlying78
  a37 := Tryz.isAgg78
  z37 := Tryz.sizeOf78
  v37 := Tryz.zeroValue78
  t70 := Tryz.underlying77
  a70 := Tryz.isAgg77
  z70 := Tryz.sizeOf77
  v70 := Tryz.zeroValue77
  t72 := Tryz.underlying80
  a72 := Tryz.isAgg80
  z72 := Tryz.sizeOf80
  v72 := Tryz.zeroValue80
  t75 := Tryz.underlying87
  a75 := Tryz.isAgg87
  z75 := Tryz.sizeOf87
  v75 := Tryz.zeroValue87
  t76 := Tryz.underlying88
  a76 := Tryz.isAgg88
  z76 := Tryz.sizeOf88
  v76 := Tryz.zeroValue88
  t127 := Tryz.underlying123
  a127 := Tryz.isAgg123
  z127 := Tryz.sizeOf123
  v127 := Tryz.zeroValue123
  t164 := Tryz.underlying161
  a164 := Tryz.isAgg161
  z164 := Tryz.sizeOf161
  v164 := Tryz.zeroValue161 }
theorem Tryz.Builder_Extra_156 : Builder.Extra Tryz.prog Tryz.lays156_ren := {
  sizeBuilder := by kernel_rfl
  liesBuilder := by kernel_rfl
  t5 := Tryz.underlying5
  a5 := Tryz.isAgg5
  z5 := Tryz.sizeOf5
  v5 := Tryz.zeroValue5
  infoByte := by kernel_rfl
  cellsByte := by kernel_rfl
  sizeByte := by kernel_rfl
  neB5 := by decide }
open Go.RowKit in
/-- strings.Join, however many elements. -/
theorem Tryz.strings_Join (bk o c : Nat) (xs : List ByteArray) (sep : ByteArray) (w : World) (hcells : ∀ (j : Nat) x, xs[j]? = some x → w.cell? ⟨bk, o + j, none⟩ = some (.string x)) (hbk : bk < w.heap.size) (hN : xs.length ≤ 140737488355328) (hcap : xs.length ≤ c) (hlen : (Lib.join (xs.map (·.data.toList)) sep.data.toList).length ≤ 140737488355328) :
    Calls Tryz.prog 39 #[.slice (some ⟨bk, o, none⟩) xs.length c, .string sep] w fun e w' => e = .returned (.string ⟨(Lib.join (xs.map (·.data.toList)) sep.data.toList).toArray⟩) ∧ Below w.heap.size w w' := Any.strings_Join Tryz.lays156 Tryz.Builder_Extra_156 bk o c xs sep w hcells hbk hN hcap hlen
open Go.RowKit in
/-- No element. -/
theorem Tryz.strings_Join_none (a : Option Addr) (c : Nat) (sep : ByteArray) (w : World) :
    Calls Tryz.prog 39 #[.slice a 0 c, .string sep] w fun e w' => e = .returned (.string ⟨#[]⟩) ∧ w' = w := Any.strings_Join_none Tryz.lays156 Tryz.Builder_Extra_156 a c sep w
end Go.Proofs
end
section
namespace Go.Proofs.YtikdkendinnalaaGreatDoor
open Go.RowKit Go.Sx
open Go.Feed
open Go.Tok Go.Tree
abbrev Bld := BldAt 5 80
abbrev BldT := BldO 5
set_option maxRecDepth 100000 in
set_option maxHeartbeats 400000 in
theorem copyN_spec (p : Nat) (Bs : Base) (Lr : Heap) (w : World) (v : Value) (hs : St Bs ((p, cel [.pointer none, v] 80) :: Lr) w) :
    Ret Tryz.prog 75 #[.pointer (some ⟨p, 0, none⟩)] w (fun u w' => u = .tuple #[] ∧ St Bs ((p, cel [.pointer (some ⟨p, 0, none⟩), v] 80) :: Lr) w') := by
  refine enterB (l := [_]) 20 Tryz.func75 rfl rfl rfl (hs) ?_; refine yA ?_; refine mP rfl ?_; refine w_nilc rfl ?_; refine zf fa80_0 rfl ?_; refine zl z77 rfl (fun _ h => zc 0 rfl rfl h) ?_; refine w_r (fun _ => R_peqN up77 rfl rfl) rfl rfl ?_; refine yB ?_; refine zE rfl ?_; refine zr ?_; refine mP rfl ?_; refine mP rfl ?_; refine w_toU 0 rfl (Nat.succ_pos _) up77 up161 ibz80 rfl ?_; refine w_r (fun _ => R_noEsc (fn := Tryz.f119) rfl (by kernel_rfl) (by kernel_rfl) (by kernel_rfl) (by kernel_rfl) rfl rfl) rfl rfl ?_; refine w_fromU 0 rfl up161 up77 isz80 lie80 rfl ?_; refine w_nilc rfl ?_; refine zf fa80_0 rfl ?_; refine w_store 0 rfl z77 rfl rfl rfl rfl rfl rfl rfl ?_; refine zn ?_; refine r_none (.inr rfl) rfl ?_; exact fun w' hw => ⟨rfl, hw⟩
set_option maxRecDepth 100000 in
set_option maxHeartbeats 400000 in
theorem copyS_spec (p : Nat) (Bs : Base) (Lr : Heap) (w : World) (v : Value) (hs : St Bs ((p, cel [.pointer (some ⟨p, 0, none⟩), v] 80) :: Lr) w) :
    Ret Tryz.prog 75 #[.pointer (some ⟨p, 0, none⟩)] w (fun u w' => u = .tuple #[] ∧ St Bs ((p, cel [.pointer (some ⟨p, 0, none⟩), v] 80) :: Lr) w') := by
  refine enterB (l := [_]) 20 Tryz.func75 rfl rfl rfl (hs) ?_; refine yA ?_; refine mP rfl ?_; refine w_nilc rfl ?_; refine zf fa80_0 rfl ?_; refine zl z77 rfl (fun _ h => zc 0 rfl rfl h) ?_; refine w_r (fun _ => R_peqS up77 rfl rfl) rfl rfl ?_; refine yB ?_; refine c_condF rfl ?_; refine yA ?_; refine mP rfl ?_; refine w_nilc rfl ?_; refine zf fa80_0 rfl ?_; refine zl z77 rfl (fun _ h => zc 0 rfl rfl h) ?_; refine mP rfl ?_; refine w_r (fun _ => R_pneS up77 isz80 rfl rfl) rfl rfl ?_; refine yB ?_; refine c_condF rfl ?_; refine zi ?_; refine r_none (.inr rfl) rfl ?_; exact fun w' hw => ⟨rfl, hw⟩
theorem copy_spec (p : Nat) (Bs : Base) (Lr : Heap) (w : World) (a : Option Addr) (v : Value) (ha : a = none ∨ a = some (⟨p, 0, none⟩ : Addr)) (hs : St Bs ((p, cel [.pointer a, v] 80) :: Lr) w) : Ret Tryz.prog 75 #[.pointer (some ⟨p, 0, none⟩)] w fun u w' => u = .tuple #[] ∧ St Bs ((p, cel [.pointer (some ⟨p, 0, none⟩), v] 80) :: Lr) w' := by
  rcases ha with rfl | rfl
  · exact copyN_spec p Bs Lr w v hs
  · exact copyS_spec p Bs Lr w v hs
set_option maxRecDepth 100000 in
set_option maxHeartbeats 400000 in
theorem writeS_spec (p : Nat) (Bs : Base) (Lr : Heap) (w : World) (s : Str) (t : Str) (hb : s.length + t.length ≤ 1000000000) (hP : Bld p s Bs Lr w) :
    Ret Tryz.prog 40 #[.pointer (some ⟨p, 0, none⟩), str t] w (fun u w' => u = .tuple #[.int .i64 (t.length : Nat), .nilIface] ∧ Bld p (s ++ t) Bs Lr w') := by
  obtain ⟨a, v, W, hO, hs⟩ := hP
  refine enterB (l := [_, _]) 19 Tryz.func40 rfl rfl rfl (hs) ?_; refine yA ?_; refine aI rfl ?_; refine za rfl ?_; refine yC ?_; refine mP rfl ?_; refine w_ck (fun w => zR Tryz.func75 rfl rfl rfl) rfl rfl (fun w h => copy_spec p Bs _ w a v hO.ad h) ?_; refine yC ?_; refine mP rfl ?_; refine mP rfl ?_; refine w_nilc rfl ?_; refine zf fa80_1 rfl ?_; refine zl z78 rfl (fun _ h => zc 0 rfl rfl h) ?_; refine zm (v := str _) rfl ?_; refine w_appS [(p, _)] (L := Lr) slt78 unS9 rfl hO.own rfl hO.nz hb (fun v2 W2 hO2 hz2 => ?_)
  obtain ⟨a2, c2, rfl⟩ := hO2.slice
  refine w_nilc rfl ?_; refine zf fa80_1 rfl ?_; refine w_store 0 rfl z78 rfl rfl rfl rfl rfl rfl rfl ?_; refine yC ?_; refine zm (v := str _) rfl ?_; refine w_r (fun _ => R_slen st9 rfl (by omega)) rfl rfl ?_; refine aI rfl ?_; refine za rfl ?_; refine yB ?_; refine ze ?_; refine r_two (v := .int _ _) rfl rfl rfl rfl rfl ?_; exact fun w' hw => ⟨rfl, _, _, W2, ⟨.inr rfl, by rw [Lib.byteCells_append, List.length_append]; exact hO2, hz2⟩, hw⟩
set_option maxRecDepth 100000 in
set_option maxHeartbeats 400000 in
theorem string_spec (p : Nat) (Bs : Base) (Lr : Heap) (w : World) (s : Str) (hb : s.length ≤ 1000000000) (hP : Bld p s Bs Lr w) :
    Ret Tryz.prog 41 #[.pointer (some ⟨p, 0, none⟩)] w (fun u w' => u = str s ∧ St Bs Lr w') := by
  obtain ⟨a, v, W, hO, hs⟩ := hP
  obtain ⟨va, vc, rfl⟩ := hO.own.slice
  refine enterB (l := [_]) 14 Tryz.func41 rfl rfl rfl (hs) ?_; refine yA ?_; refine za (v := str _) rfl ?_; refine yB ?_; refine zq ?_; refine c_held (St Bs [(p, cel [.pointer a, .slice va s.length vc] 80)]) mixed ?_; refine zh 0 rfl (by kernel_rfl) rfl rfl (fun w h => h.drop (.cons_cons _ (List.nil_sublist _))) (fun w h => R_move rfl) ?_; refine zh 1 rfl (by kernel_rfl) rfl rfl (fun w h => h.drop (.cons_cons _ (List.nil_sublist _))) (fun w h => R_nil rfl) ?_; refine zh 2 rfl (by kernel_rfl) rfl rfl (fun w h => h.drop (.cons_cons _ (List.nil_sublist _))) (fun w h => R_fa fa80_1 rfl) ?_; refine zh 3 rfl (by kernel_rfl) rfl rfl (fun w h => h.drop (.cons_cons _ (List.nil_sublist _))) (fun w h => R_ld1 z78 rfl (zc 0 rfl rfl h)) ?_
  refine zh 5 rfl (by kernel_rfl) rfl rfl (fun w h => h.drop (.cons_cons _ (List.nil_sublist _))) (fun w h => R_move rfl) ?_; refine zh 6 rfl (by kernel_rfl) rfl rfl (fun w h => h.drop (.cons_cons _ (List.nil_sublist _))) (fun w h => R_nil rfl) ?_; refine zh 7 rfl (by kernel_rfl) rfl rfl (fun w h => h.drop (.cons_cons _ (List.nil_sublist _))) (fun w h => R_fa fa80_1 rfl) ?_; refine zh 8 rfl (by kernel_rfl) rfl rfl (fun w h => h.drop (.cons_cons _ (List.nil_sublist _))) (fun w h => R_ld1 z78 rfl (zc 0 rfl rfl h)) ?_; refine zh 9 rfl (by kernel_rfl) rfl rfl (fun w h => h.drop (.cons_cons _ (List.nil_sublist _))) (fun w h => R_len sl78 rfl) ?_; refine h_sliceData 4 rfl (by kernel_rfl) (fun w h => h.drop (.cons_cons _ (List.nil_sublist _))) rfl hO.nz ?_
  refine h_unsafeStr (A := [(p, _)]) (W := W) (L := Lr) 10 rfl (by kernel_rfl) (fun w h => h.drop (.cons_cons _ (List.nil_sublist _))) up123 co5 hO.own hb rfl rfl ?_; refine zh 11 rfl (by kernel_rfl) rfl rfl (fun w h => h.drop (.cons_cons _ (List.nil_sublist _))) (fun w h => R_assign rfl) ?_; refine h_done (by kernel_rfl) (fun w h => h.drop (.cons_cons _ (List.nil_sublist _))) ?_; refine zk ?_; refine ze ?_; refine zo (v := str _) rfl rfl rfl ?_; exact fun w' hw => ⟨rfl, hw.drop (List.sublist_cons_self _ _)⟩
theorem joinC_join : ∀ l : List Str, Lib.join l [44] = joinC l
  | [] => rfl
  | [x] => by rw [Lib.join_one]; rfl
  | x :: y :: l => by
    have := joinC_join (y :: l)
    rw [Lib.join_cons] at this ⊢
    rw [joinC, ← this]
    simp [Lib.joinTail]
theorem joinS_ok {te : TypeId} {v : Value} {xs : List Str} {W : Heap} {w : World} (hO : Own te 1 v (xs.map str) xs.length W) (hW : ∀ p ∈ W, w.heap[p.1]? = some p.2) (hn : xs.length ≤ 1000000) (hl : (joinC xs).length ≤ 1000000000) : Ret Tryz.prog 39 #[v, str [44]] w fun u w' => u = str (joinC xs) ∧ Ext w w' := by
  obtain ⟨ho, ⟨rfl, h0, rfl⟩ | ⟨q, cc, sp, rfl, hc, hsp, rfl⟩⟩ := hO
  · have : xs = [] := List.length_eq_zero_iff.1 h0
    subst this
    refine Calls.mono (Tryz.strings_Join_none none 0 ⟨#[44]⟩ w) fun e w' ⟨h1, h2⟩ => ⟨_, h1, rfl, by rw [h2]; exact Fr.refl _ _⟩
  · have hb := hW _ (List.mem_singleton.2 rfl)
    have hm : (xs.map fun s => (⟨s.toArray⟩ : ByteArray)).map (·.data.toList) = xs := by
      rw [List.map_map]; exact List.map_id xs
    have hj := Tryz.strings_Join q 0 cc (xs.map fun s => ⟨s.toArray⟩) ⟨#[44]⟩ w (fun j x hx => by
      rw [List.getElem?_map, Option.map_eq_some_iff] at hx
      obtain ⟨s, hs, rfl⟩ := hx
      refine cell_of hb ?_
      rw [Nat.zero_add, List.getElem?_append_left (by rw [List.length_map]; exact (List.getElem?_eq_some_iff.1 hs).1), List.getElem?_map, hs]; rfl) (lt_of_blk hb) (by rw [List.length_map]; omega) (by rw [List.length_map]; omega) (by rw [hm]; show (Lib.join xs [44]).length ≤ _; rw [joinC_join]; omega)
    rw [List.length_map, hm] at hj
    refine Calls.mono hj fun e w' ⟨h1, h2⟩ => ⟨_, h1, ?_, ext_below h2⟩
    show str (Lib.join xs [44]) = _
    rw [joinC_join]
end Go.Proofs.YtikdkendinnalaaGreatDoor
end
section
namespace Go.Proofs.YtikdkendinnalaaGreatDoor
open Go.RowKit Go.Sx
open Go.Tok Go.Tree Go.Prs Go.Feed Go.Num
abbrev seenN (ns : List Str) : List (List UInt8 × Value) := ns.map fun n => (n, Value.int .i64 1)
theorem seenN_look (ns : List Str) (s : Str) : ((seenN ns).lookup s).getD (.int .i64 0) = .int .i64 (if ns.contains s = true then 1 else 0) := by
  induction ns with
  | nil => rfl
  | cons n ns ih =>
    show (List.lookup s ((n, Value.int .i64 1) :: seenN ns)).getD (.int .i64 0) = _
    rw [List.lookup_cons, List.contains_cons]
    by_cases h : s = n
    · rw [beq_iff_eq.2 h]; rfl
    · rw [beq_false_of_ne h, Bool.false_or]; exact ih
theorem seenN_none {ns : List Str} {s : Str} (h : ns.contains s = false) : ((seenN ns).lookup s).isNone = true := by
  induction ns with
  | nil => rfl
  | cons n ns ih =>
    rw [List.contains_cons, Bool.or_eq_false_iff] at h
    show (List.lookup s ((n, Value.int .i64 1) :: seenN ns)).isNone = true
    rw [List.lookup_cons, h.1]
    exact ih h.2
def longT (l : List Di) (i : Nat) : Bool := decide (1000 < l.length) || (l.take i).any fun d => decide (1000 < d.nums.length)
theorem longT_succ {l : List Di} {i : Nat} {d : Di} (hd : l[i]? = some d) : longT l (i + 1) = (longT l i || decide (1000 < d.nums.length)) := by
  obtain ⟨hi, rfl⟩ := List.getElem?_eq_some_iff.1 hd
  unfold longT
  rw [List.take_succ_eq_append_getElem hi, List.any_append, List.any_cons, List.any_nil, Bool.or_false, Bool.or_assoc]
theorem longT_all (l : List Di) : longT l l.length = longW l := by unfold longT longW; rw [List.take_length]
theorem okN_take {d : Di} {k : Nat} {x : Rw} (hx : d.nums[k]? = some x) : (d.nums.take (k + 1)).all Rw.ok = ((d.nums.take k).all Rw.ok && x.ok) := by
  obtain ⟨hi, rfl⟩ := List.getElem?_eq_some_iff.1 hx
  rw [List.take_succ_eq_append_getElem hi, List.all_append, List.all_cons, List.all_nil, Bool.and_true]
theorem dataT_take {l : List Di} {i : Nat} {d : Di} (hd : l[i]? = some d) : dataT (l.take (i + 1)) = dataT (l.take i) ++ datT d := by
  obtain ⟨hi, rfl⟩ := List.getElem?_eq_some_iff.1 hd
  unfold dataT
  rw [List.take_succ_eq_append_getElem hi, List.flatMap_append, List.flatMap_cons, List.flatMap_nil, List.append_nil]
theorem dataT_le (l : List Di) (i : Nat) : (dataT (l.take i)).length ≤ (dataT l).length := by
  have h := congrArg (fun z => (dataT z).length) (List.take_append_drop i l)
  unfold dataT at *
  rw [List.flatMap_append, List.length_append] at h
  omega
theorem datT_len (d : Di) : (datT d).length = d.nm.length + (valT d).length + 3 := by
  unfold datT; simp only [List.length_append, List.length_cons, List.length_nil]; omega
theorem valT_len (d : Di) : (joinC (d.nums.map fun x => Lib.itoa x.r.1)).length ≤ (valT d).length := by
  unfold valT; split
  · simp only [List.length_append, List.length_cons, List.length_nil]; omega
  · exact Nat.le_refl _
theorem writeP_ok {l : List Di} (h : okW [] l = true) (h2 : longW l = false) : writeP l = (dataT l, 0) := by unfold writeP; rw [if_pos h, if_neg (by rw [h2]; decide)]
theorem writeP_long {l : List Di} (h : okW [] l = true) (h2 : longW l = true) : writeP l = ([], 6) := by unfold writeP; rw [if_pos h, if_pos h2]
theorem okN_bad {d : Di} {x : Rw} (hx : x ∈ d.nums) (h : x.ok = false) : okN d = false := by
  unfold okN
  rw [Bool.eq_false_iff]
  intro h8
  have := List.all_eq_true.1 h8 x hx
  rw [h] at this; cases this
theorem okN_mem {l : List Di} (h : okW [] l = true) {d : Di} (hd : d ∈ l) {x : Rw} (hx : x ∈ d.nums) : x.d ≠ 0 := by
  have h1 := ((okW_mem l [] h).1 d hd).2.1
  have h2 := List.all_eq_true.1 h1 x hx
  unfold Rw.ok at h2
  simp only [Bool.and_eq_true, decide_eq_true_eq] at h2
  exact h2.1
theorem _root_.Go.Sx.rwT.ext_ {w w' : World} {x : Rw} {b : A2} (h : rwT w (fun _ => True) x b) (hf : Fr No w w') : rwT w' (fun _ => True) x b := TL.rwt.fr h hf (fun _ _ h => h)
set_option maxRecDepth 100000 in
set_option maxHeartbeats 8000000 in
theorem Write_ok (l : List Di) (va : Option Addr) (vc : Nat) (w : World) (hD : disV w (fun _ => True) l (va, vc)) (hB : DisB l) (hS : ∀ d ∈ l, ∀ x ∈ d.nums, sz x.n ≤ 2000 ∧ sz x.d ≤ 2000) (hL : (dataT l).length ≤ 1000000000) (hW : Wd w) (hng : 11 ≤ w.heap.size) :
    Ret Tryz.prog 14 #[.slice va l.length vc] w (fun v w' => v = .tuple #[str (writeP l).1, .int .i64 ((writeP l).2 : Nat)] ∧ Ext w w') := by
  have hlB := hB.1
  refine enter (S := No) (l := [_]) (L := []) 115 Tryz.func14 rfl rfl rfl (St.start w No) ?_; refine yA ?_; refine za (v := str _) rfl ?_; refine aI rfl ?_; refine yC ?_; refine w_makeMapS (fun mb gmb umb => ?_)
  refine za rfl ?_; refine yC ?_; refine mS rfl ?_; refine w_r (fun _ => R_len sl24 rfl) rfl rfl ?_; refine w_r (fun _ => R_gt rfl rfl) rfl rfl ?_; refine aB rfl ?_; refine yB ?_; refine zq ?_; refine yA ?_; refine mS rfl ?_; refine w_r (fun _ => R_len sl24 rfl) rfl rfl ?_; refine mI rfl ?_; refine yB ?_; refine zB ?_
  refine c_loop (fun m9 e B L => ∃ (i : Nat), e 4 = .map (some mb) ∧ e 5 = .bool (longT l i) ∧ e 0 = .slice va l.length vc ∧ e 23 = .slice va l.length vc ∧ e 24 = .int .i64 (l.length : Nat) ∧ e 25 = .int .i64 (i : Nat) ∧ B = [(w, No)] ∧ L = [(mb, mpS (seenN ((l.take i).map Di.nm)))] ∧ i ≤ l.length ∧ okW [] (l.take i) = true ∧ m9 = l.length - i) _ ⟨0, rfl, (congrArg Value.bool (by unfold longT; simp; omega)), rfl, rfl, rfl, rfl, rfl, rfl, Nat.zero_le _, rfl, rfl⟩ ?_
  rintro m9 e B L ⟨i, e4_1, e5_1, e0_1, e23_1, e24_1, e25_1, rfl, rfl, hi, hokl, rfl⟩
  refine yA ?_; refine w_r (fun _ => R_ltN (a := i) (b := (l.length)) e25_1 e24_1) rfl rfl ?_; refine yB ?_; refine zq ?_; refine zD rfl (fun h1 => ?_) (fun h1 => ?_)
  · have hi2 : i < l.length := (by omega); obtain ⟨d7, hd7⟩ : ∃ d, l[i]? = some d := ⟨_, List.getElem?_eq_getElem hi2⟩; obtain ⟨cs7, hA7, ⟨an7, cn7⟩, rfl, hT7⟩ := hD.2 i d7 hd7; obtain ⟨q7, o7, hq7, hne7, hc7⟩ := hA7; dsimp only at hq7; obtain ⟨hB7, hBn7, hBx7⟩ := hB.2 d7 (List.mem_of_getElem? hd7)
    refine zi ?_; refine zk ?_; refine zq ?_; refine zB ?_; refine yA ?_; refine w_r (fun _ => R_iaN (i := i) sl24 (e23_1.trans (congrArg (fun z => Value.slice z _ _) hq7)) e25_1 hi2) rfl rfl ?_; refine w_loadC (l := diE d7 (an7, cn7)) z33 rfl rfl (fun w h j v hj => cel_old (.head _) (hc7 j v hj) (fun x => x) h) ?_; refine w_alloc zr33 (fun t7b gt7b ut7b => ?_)
    refine w_store 0 rfl z33 rfl rfl rfl rfl rfl rfl rfl ?_; refine yB ?_; refine c_cut (fun e B L => e 4 = .map (some mb) ∧ e 5 = .bool (longT l i) ∧ e 7 = .pointer (some ⟨t7b, 0, none⟩) ∧ e 0 = .slice va l.length vc ∧ e 23 = .slice va l.length vc ∧ e 24 = .int .i64 (l.length : Nat) ∧ e 25 = .int .i64 (i : Nat) ∧ B = [(w, No)] ∧ L = [(t7b, cel (diE d7 (an7, cn7)) 33), (mb, mpS (seenN ((l.take i).map Di.nm)))] ∧ okD d7 = true ∧ ((l.take i).map Di.nm).contains d7.nm = false) ?_ ?_
    · refine yA ?_; refine zf fa33_0 rfl ?_; refine zl z9 rfl (fun _ h => zc 0 rfl rfl h) ?_
      cases hnm : nameOk d7.nm
      · refine zC (fun w => zR Tryz.func23 rfl rfl rfl) rfl rfl (fun w h => by have h9 := Name_spec d7.nm (by omega) w (hW.now (.head _) h); rw [hnm] at h9; exact h9) ?_; refine w_r (fun _ => R_not rfl) rfl rfl ?_; refine mB rfl ?_; refine zs rfl rfl rfl ?_; refine zs rfl rfl rfl ?_; refine zs rfl rfl rfl ?_; refine zs rfl rfl rfl ?_; refine zs rfl rfl rfl ?_; refine w_r (v := .bool _) (fun _ => zT rfl rfl) rfl rfl ?_; refine mB rfl ?_; refine zs rfl rfl rfl ?_; refine zs rfl rfl rfl ?_; refine zs rfl rfl rfl ?_; refine zs rfl rfl rfl ?_; refine zU rfl rfl rfl ?_; refine zU rfl rfl rfl ?_; refine zU rfl rfl rfl ?_; refine zU rfl rfl rfl ?_; refine zs rfl rfl rfl ?_; refine w_r (v := .bool _) (fun _ => zT rfl rfl) rfl rfl ?_; refine zn ?_
        refine zk ?_; refine zE rfl ?_; refine yA ?_; refine za (v := str _) rfl ?_; refine aI rfl ?_; refine yB ?_; refine ze ?_; refine zt (zb (zt (zt (zb (zt (?_))))))
        rw [okW_bad hd7 (by first | (simp [okD, hnm]; done) | (simp only [hse]; simp; done) | (simp [okD, hli]; omega) | (simp [okD, hli]; done))]
        refine r_two (v := str _) (v2 := .int _ _) rfl rfl rfl rfl rfl ?_; exact fun w' hw => ⟨rfl, hw.fr (w, No) (.head _)⟩
      · refine zC (fun w => zR Tryz.func23 rfl rfl rfl) rfl rfl (fun w h => by have h9 := Name_spec d7.nm (by omega) w (hW.now (.head _) h); rw [hnm] at h9; exact h9) ?_; refine w_r (fun _ => R_not rfl) rfl rfl ?_; refine mB rfl ?_; refine zw rfl rfl rfl ?_; refine zm e4_1 ?_; refine zw rfl rfl rfl ?_; refine zf fa33_0 rfl ?_; refine zw rfl rfl rfl ?_; refine zl z9 rfl (fun _ h => zc 0 rfl rfl h) ?_; refine zw rfl rfl rfl ?_
        cases hse : ((l.take i).map Di.nm).contains d7.nm
        · refine w_lookS (v := .int .i64 0) 1 rfl unm62 unk9 zr3 rfl rfl (by rw [seenN_look, hse]; rfl) ?_; refine zw rfl rfl rfl ?_; refine w_r (fun _ => R_gt rfl rfl) rfl rfl ?_; refine w_r (v := .bool _) (fun _ => zF rfl rfl) rfl rfl ?_; refine mB rfl ?_; refine zw rfl rfl (congrArg Value.bool (decide_eq_false (by decide))) ?_; refine zf fa33_2 rfl ?_; refine zw rfl rfl (congrArg Value.bool (decide_eq_false (by decide))) ?_
          cases hli : d7.list
          · refine zl (v := .bool false) z4 rfl (fun _ h => (zc 0 rfl (v := .bool false) (congrArg (fun z => some (Value.bool z)) hli) h)) ?_; refine zw rfl rfl (congrArg Value.bool (decide_eq_false (by decide))) ?_; refine w_r (fun _ => R_not rfl) rfl rfl ?_; refine zw rfl rfl (congrArg Value.bool (decide_eq_false (by decide))) ?_; refine mB rfl ?_; refine zw rfl rfl rfl ?_; refine zf fa33_4 rfl ?_; refine zw rfl rfl rfl ?_; refine zl z31 rfl (fun _ h => zc 0 rfl rfl h) ?_; refine zw rfl rfl rfl ?_; refine w_r (fun _ => R_len sl31 rfl) rfl rfl ?_; refine zw rfl rfl rfl ?_; refine w_r (fun _ => R_ne rfl rfl) rfl rfl ?_; refine zw rfl rfl (congrArg Value.bool (decide_eq_false (by decide))) ?_
            refine w_r (v := .bool _) (fun _ => zT rfl rfl) rfl rfl ?_; refine w_r (v := .bool _) (fun _ => zF (congrArg Value.bool (decide_eq_false (by decide))) rfl) rfl rfl ?_; refine yB ?_; refine zD rfl (fun h3 => ?_) (fun h3 => ?_)
            · refine yA ?_; refine za (v := str _) rfl ?_; refine aI rfl ?_; refine yB ?_; refine ze ?_; refine zt (zb (zt (zt (zb (zt (?_))))))
              rw [okW_bad hd7 (by first | (simp [okD, hnm]; done) | (simp only [hse]; simp; done) | (simp [okD, hli]; omega) | (simp [okD, hli]; done))]
              refine r_two (v := str _) (v2 := .int _ _) rfl rfl rfl rfl rfl ?_; exact fun w' hw => ⟨rfl, hw.fr (w, No) (.head _)⟩
            · refine zi ?_; exact k_mid ⟨e4_1, e5_1, rfl, e0_1, e23_1, e24_1, e25_1, rfl, rfl, (by unfold okD; rw [hnm, hli]; first | rfl | (simp; omega)), (by first | rfl | exact hse)⟩
          · refine zl (v := .bool true) z4 rfl (fun _ h => (zc 0 rfl (v := .bool true) (congrArg (fun z => some (Value.bool z)) hli) h)) ?_; refine zw rfl rfl (congrArg Value.bool (decide_eq_false (by decide))) ?_; refine w_r (fun _ => R_not rfl) rfl rfl ?_; refine zw rfl rfl (congrArg Value.bool (decide_eq_false (by decide))) ?_; refine mB rfl ?_; refine zs rfl rfl rfl ?_; refine zs rfl rfl rfl ?_; refine zs rfl rfl rfl ?_; refine zs rfl rfl rfl ?_; refine zw rfl rfl (congrArg Value.bool (decide_eq_false (by decide))) ?_; refine w_r (v := .bool _) (fun _ => zF rfl rfl) rfl rfl ?_; refine w_r (v := .bool _) (fun _ => zF (congrArg Value.bool (decide_eq_false (by decide))) rfl) rfl rfl ?_; refine yB ?_; refine c_condF rfl ?_; refine zi ?_
            exact k_mid ⟨e4_1, e5_1, rfl, e0_1, e23_1, e24_1, e25_1, rfl, rfl, (by unfold okD; rw [hnm, hli]; first | rfl | (simp; omega)), (by first | rfl | exact hse)⟩
        · refine w_lookS (v := .int .i64 1) 1 rfl unm62 unk9 zr3 rfl rfl (by rw [seenN_look, hse]; rfl) ?_; refine zw rfl rfl rfl ?_; refine w_r (fun _ => R_gt rfl rfl) rfl rfl ?_; refine w_r (v := .bool _) (fun _ => zF rfl rfl) rfl rfl ?_; refine mB rfl ?_; refine zs rfl rfl (congrArg Value.bool (decide_eq_true (by decide))) ?_; refine zs rfl rfl (congrArg Value.bool (decide_eq_true (by decide))) ?_; refine zs rfl rfl (congrArg Value.bool (decide_eq_true (by decide))) ?_; refine zs rfl rfl (congrArg Value.bool (decide_eq_true (by decide))) ?_; refine zU rfl rfl rfl ?_; refine zU rfl rfl rfl ?_; refine zU rfl rfl rfl ?_
          refine zU rfl rfl rfl ?_; refine zs rfl rfl (congrArg Value.bool (decide_eq_true (by decide))) ?_; refine w_r (v := .bool _) (fun _ => zT (congrArg Value.bool (decide_eq_true (by decide))) rfl) rfl rfl ?_; refine yB ?_; refine zE rfl ?_; refine yA ?_; refine za (v := str _) rfl ?_; refine aI rfl ?_; refine yB ?_; refine ze ?_; refine zt (zb (zt (zt (zb (zt (?_))))))
          rw [okW_bad hd7 (by first | (simp [okD, hnm]; done) | (simp only [hse]; simp; done) | (simp [okD, hli]; omega) | (simp [okD, hli]; done))]
          refine r_two (v := str _) (v2 := .int _ _) rfl rfl rfl rfl rfl ?_; exact fun w' hw => ⟨rfl, hw.fr (w, No) (.head _)⟩
    rintro e B L ⟨e4_2, e5_2, e7_2, e0_2, e23_2, e24_2, e25_2, rfl, rfl, hkd, hse⟩
    refine yA ?_; refine zm e4_2 ?_; refine zf fa33_0 e7_2 ?_; refine zl z9 rfl (fun _ h => zc 0 rfl rfl h) ?_; refine w_updS 1 rfl unm62 unk9 rfl rfl rfl (seenN_none hse) ?_; refine yB ?_; refine c_cut (fun e B L => e 4 = .map (some mb) ∧ e 5 = .bool (longT l (i + 1)) ∧ e 7 = .pointer (some ⟨t7b, 0, none⟩) ∧ e 0 = .slice va l.length vc ∧ e 23 = .slice va l.length vc ∧ e 24 = .int .i64 (l.length : Nat) ∧ e 25 = .int .i64 (i : Nat) ∧ B = [(w, No)] ∧ L = [(t7b, cel (diE d7 (an7, cn7)) 33), (mb, mpS (seenN ((l.take (i + 1)).map Di.nm)))]) ?_ ?_
    · refine zr ?_
      cases hlg : longT l i
      · refine zm (v := .bool false) (e5_2.trans (congrArg Value.bool hlg)) ?_; refine mB rfl ?_; refine zw rfl rfl rfl ?_; refine zf fa33_4 e7_2 ?_; refine zw rfl rfl rfl ?_; refine zl z31 rfl (fun _ h => zc 0 rfl rfl h) ?_; refine zw rfl rfl rfl ?_; refine w_r (fun _ => R_len sl31 rfl) rfl rfl ?_; refine zw rfl rfl rfl ?_; refine w_r (fun _ => R_gt rfl rfl) rfl rfl ?_; refine w_r (v := .bool _) (fun _ => zF rfl rfl) rfl rfl ?_; refine aB rfl ?_; refine zn ?_
        have hlg2 : longT l (i + 1) = (longT l i || decide (1000 < d7.nums.length)) := longT_succ hd7
        refine k_st (B' := _) (L' := [(t7b, cel (diE d7 (an7, cn7)) 33), (mb, mpS (seenN ((l.take (i + 1)).map Di.nm)))]) (fun w h => by rw [show seenN ((l.take (i + 1)).map Di.nm) = seenN ((l.take i).map Di.nm) ++ [(d7.nm, Value.int .i64 1)] from by rw [List.take_succ_eq_append_getElem hi2, (List.getElem?_eq_some_iff.1 hd7).2, List.map_append]; simp [seenN]]; exact h) ?_; exact k_mid ⟨e4_2, (congrArg Value.bool (by rw [hlg2, hlg]; first | exact (Bool.true_or _).symm | (rw [Bool.false_or]; exact decide_eq_decide.2 (by omega)))), e7_2, e0_2, e23_2, e24_2, e25_2, rfl, rfl⟩
      · refine zm (v := .bool true) (e5_2.trans (congrArg Value.bool hlg)) ?_; refine mB rfl ?_; refine zs rfl rfl rfl ?_; refine zs rfl rfl rfl ?_; refine zs rfl rfl rfl ?_; refine zs rfl rfl rfl ?_; refine w_r (v := .bool _) (fun _ => zT rfl rfl) rfl rfl ?_; refine aB rfl ?_; refine zn ?_
        have hlg2 : longT l (i + 1) = (longT l i || decide (1000 < d7.nums.length)) := longT_succ hd7
        refine k_st (B' := _) (L' := [(t7b, cel (diE d7 (an7, cn7)) 33), (mb, mpS (seenN ((l.take (i + 1)).map Di.nm)))]) (fun w h => by rw [show seenN ((l.take (i + 1)).map Di.nm) = seenN ((l.take i).map Di.nm) ++ [(d7.nm, Value.int .i64 1)] from by rw [List.take_succ_eq_append_getElem hi2, (List.getElem?_eq_some_iff.1 hd7).2, List.map_append]; simp [seenN]]; exact h) ?_; exact k_mid ⟨e4_2, (congrArg Value.bool (by rw [hlg2, hlg]; first | exact (Bool.true_or _).symm | (rw [Bool.false_or]; exact decide_eq_decide.2 (by omega)))), e7_2, e0_2, e23_2, e24_2, e25_2, rfl, rfl⟩
    rintro e B L ⟨e4_3, e5_3, e7_3, e0_3, e23_3, e24_3, e25_3, rfl, rfl⟩
    refine yA ?_; refine zf fa33_4 e7_3 ?_; refine zl z31 rfl (fun _ h => zc 0 rfl rfl h) ?_; refine w_r (fun _ => R_len sl31 rfl) rfl rfl ?_; refine mI rfl ?_; refine yB ?_; refine zB ?_
    refine c_loop (fun m9 e B L => ∃ (k8 : Nat), e 4 = .map (some mb) ∧ e 5 = .bool (longT l (i + 1)) ∧ e 7 = .pointer (some ⟨t7b, 0, none⟩) ∧ e 0 = .slice va l.length vc ∧ e 23 = .slice va l.length vc ∧ e 24 = .int .i64 (l.length : Nat) ∧ e 25 = .int .i64 (i : Nat) ∧ e 62 = .slice an7 d7.nums.length cn7 ∧ e 63 = .int .i64 (d7.nums.length : Nat) ∧ e 64 = .int .i64 (k8 : Nat) ∧ B = [(w, No)] ∧ L = [(t7b, cel (diE d7 (an7, cn7)) 33), (mb, mpS (seenN ((l.take (i + 1)).map Di.nm)))] ∧ k8 ≤ d7.nums.length ∧ (d7.nums.take k8).all Rw.ok = true ∧ m9 = d7.nums.length - k8) _ ⟨0, e4_3, e5_3, e7_3, e0_3, e23_3, e24_3, e25_3, rfl, rfl, rfl, rfl, rfl, Nat.zero_le _, rfl, rfl⟩ ?_
    rintro m9 e B L ⟨k8, e4_4, e5_4, e7_4, e0_4, e23_4, e24_4, e25_4, e62_4, e63_4, e64_4, rfl, rfl, hk8, hall, rfl⟩
    refine yA ?_; refine w_r (fun _ => R_ltN (a := k8) (b := (d7.nums.length)) e64_4 e63_4) rfl rfl ?_; refine yB ?_; refine zq ?_; refine zD rfl (fun h4 => ?_) (fun h4 => ?_)
    · have hk2 : k8 < d7.nums.length := (by omega); obtain ⟨xr, hxr⟩ : ∃ x, d7.nums[k8]? = some x := ⟨_, List.getElem?_eq_getElem hk2⟩; obtain ⟨cs8, hA8, br, rfl, hTr⟩ := hT7.2 k8 xr hxr; obtain ⟨q8, o8, hq8, hne8, hc8⟩ := hA8; dsimp only at hq8; have hBxr := hBx7 xr (List.mem_of_getElem? hxr); have hSxr := hS d7 (List.mem_of_getElem? hd7) xr (List.mem_of_getElem? hxr)
      refine zi ?_; refine zk ?_; refine zq ?_; refine zB ?_; refine yA ?_; refine w_r (fun _ => R_iaN (i := k8) sl31 (e62_4.trans (congrArg (fun z => Value.slice z _ _) hq8)) e64_4 hk2) rfl rfl ?_; refine w_loadC (l := rwE xr br) z46 rfl rfl (fun w h j v hj => cel_old (.head _) (hc8 j v hj) (fun x => x) h) ?_; refine w_alloc zr46 (fun t9b gt9b ut9b => ?_)
      refine w_store 0 rfl z46 rfl rfl rfl rfl rfl rfl rfl ?_; refine yC ?_; refine w_loadA z46 rfl (fun _ h => h.at_ 0 rfl) rfl ?_
      cases hok : xr.ok
      · refine zC (fun w => zR Tryz.func36 rfl rfl rfl) rfl rfl (fun w h => by have h9 := whole_rw (hTr.ext_ (h.fr (_, No) (.head _))) hBxr hSxr; rw [hok] at h9; exact h9) ?_; refine w_r (fun _ => R_not rfl) rfl rfl ?_; refine yB ?_; refine zE rfl ?_; refine yA ?_; refine za (v := str _) rfl ?_; refine aI rfl ?_; refine yB ?_; refine ze ?_; refine zb (zt (zt (zb (zb (zt (zt (zb (zt (?_)))))))))
        rw [okW_bad hd7 (by rw [okN_bad (List.mem_of_getElem? hxr) hok, Bool.and_false])]
        refine r_two (v := str _) (v2 := .int _ _) rfl rfl rfl rfl rfl ?_; exact fun w' hw => ⟨rfl, hw.fr (w, No) (.head _)⟩
      · refine zC (fun w => zR Tryz.func36 rfl rfl rfl) rfl rfl (fun w h => by have h9 := whole_rw (hTr.ext_ (h.fr (_, No) (.head _))) hBxr hSxr; rw [hok] at h9; exact h9) ?_; refine w_r (fun _ => R_not rfl) rfl rfl ?_; refine yB ?_; refine c_condF rfl ?_; refine zi ?_; refine b_on (zk ?_); refine zr ?_; refine w_r (fun _ => R_addN (n := k8) (b := 1) e64_4 rfl (by omega)) rfl rfl ?_; refine mI rfl ?_; refine zn ?_; refine k_st (B' := _) (L' := [_, _]) (fun w h => h.drop (.cons _ (List.Sublist.refl _))) ?_; exact k_again _ (by omega) ⟨k8 + 1, e4_4, e5_4, e7_4, e0_4, e23_4, e24_4, e25_4, e62_4, e63_4, rfl, rfl, rfl, by omega, by rw [okN_take hxr, hall, hok]; rfl, rfl⟩
    · refine c_exit ?_; refine zx (zx (b_here rfl (b_on (zk ?_)))); refine zr ?_; refine w_r (fun _ => R_addN (n := i) (b := 1) e25_4 rfl (by omega)) rfl rfl ?_; refine mI rfl ?_; refine zn ?_; refine k_st (B' := _) (L' := [_]) (fun w h => h.drop (.cons _ (List.Sublist.refl _))) ?_; exact k_again _ (by omega) ⟨i + 1, e4_4, e5_4, e0_4, e23_4, e24_4, rfl, rfl, rfl, by omega, (by rw [okW_take hd7, hokl, Bool.true_and, hkd, Bool.true_and, hse]; unfold okN; rw [show d7.nums.all Rw.ok = true from by rw [← List.take_length (l := d7.nums), show d7.nums.length = k8 by omega]; exact hall]; rfl), rfl⟩
  · obtain rfl : i = l.length := (by omega); rw [List.take_length] at hokl
    refine c_exit ?_; refine zx (zx (b_here rfl (zk ?_))); refine zq ?_; refine yA ?_
    cases hlg : longT l l.length
    · refine zm (v := .bool false) (e5_1.trans (congrArg Value.bool hlg)) ?_; refine yB ?_; refine c_condF rfl ?_; refine zi ?_; refine zk ?_; refine yA ?_; refine w_alloc zr80 (fun t10b gt10b ut10b => ?_)
      refine yB ?_; refine zq ?_; refine yA ?_; refine mS e0_1 ?_; refine w_r (fun _ => R_len sl24 rfl) rfl rfl ?_; refine mI rfl ?_; refine yB ?_; refine zB ?_; refine c_st (B' := _) (L' := [_] ++ ([] ++ [])) (fun w h => h.drop (.cons_cons _ (List.nil_sublist _))) ?_; refine c_loop (fun m9 e B L => ∃ (i : Nat) (a : Option Addr) (v : Value) (W2 : Heap), e 10 = .pointer (some ⟨t10b, 0, none⟩) ∧ e 74 = .slice va l.length vc ∧ e 75 = .int .i64 (l.length : Nat) ∧ e 76 = .int .i64 (i : Nat) ∧ B = [(w, No)] ∧ L = (t10b, cel [.pointer a, v] 80) :: (W2 ++ []) ∧ i ≤ l.length ∧ BldT t10b a v (dataT (l.take i)) W2 ∧ m9 = l.length - i) _ ⟨0, none, _, [], rfl, rfl, rfl, rfl, rfl, rfl, Nat.zero_le _, BldO.nil _ _, rfl⟩ ?_
      rintro m9 e B L ⟨i, a, v, W2, e10_5, e74_5, e75_5, e76_5, rfl, rfl, hi, hOb, rfl⟩
      refine yA ?_; refine w_r (fun _ => R_ltN (a := i) (b := (l.length)) e76_5 e75_5) rfl rfl ?_; refine yB ?_; refine zq ?_; refine zD rfl (fun h7 => ?_) (fun h7 => ?_)
      · have hi2 : i < l.length := (by omega); obtain ⟨d7, hd7⟩ : ∃ d, l[i]? = some d := ⟨_, List.getElem?_eq_getElem hi2⟩; obtain ⟨cs7, hA7, ⟨an7, cn7⟩, rfl, hT7⟩ := hD.2 i d7 hd7; obtain ⟨q7, o7, hq7, hne7, hc7⟩ := hA7; dsimp only at hq7; obtain ⟨hB7, hBn7, hBx7⟩ := hB.2 d7 (List.mem_of_getElem? hd7); have hdt := dataT_take hd7; have hle7 := dataT_le l (i + 1); have hdl := datT_len d7; have hvl := valT_len d7; rw [hdt, List.length_append] at hle7
        refine zi ?_; refine zk ?_; refine zq ?_; refine zB ?_; refine yA ?_; refine w_r (fun _ => R_iaN (i := i) sl24 (e74_5.trans (congrArg (fun z => Value.slice z _ _) hq7)) e76_5 hi2) rfl rfl ?_; refine w_loadC (l := diE d7 (an7, cn7)) z33 rfl rfl (fun w h j v hj => cel_old (.head _) (hc7 j v hj) (fun x => x) h) ?_; refine w_alloc zr33 (fun t12b gt12b ut12b => ?_)
        refine w_store 0 rfl z33 rfl rfl rfl rfl rfl rfl rfl ?_; refine yC ?_; refine za (v := .slice _ _ _) rfl ?_; refine yB ?_; refine zq ?_; refine yA ?_; refine zf fa33_4 rfl ?_; refine zl z31 rfl (fun _ h => zc 0 rfl rfl h) ?_; refine w_r (fun _ => R_len sl31 rfl) rfl rfl ?_; refine mI rfl ?_; refine yB ?_; refine zB ?_; refine c_st (B' := _) (L' := [_, _] ++ ([] ++ W2)) (fun w h => by rw [List.append_nil] at h; exact h) ?_
        refine c_loop (fun m9 e B L => ∃ (k8 : Nat) (pa : Option Addr) (pc : Nat) (W : Heap), e 10 = .pointer (some ⟨t10b, 0, none⟩) ∧ e 74 = .slice va l.length vc ∧ e 75 = .int .i64 (l.length : Nat) ∧ e 76 = .int .i64 (i : Nat) ∧ e 12 = .pointer (some ⟨t12b, 0, none⟩) ∧ e 13 = .slice pa k8 pc ∧ e 81 = .slice an7 d7.nums.length cn7 ∧ e 82 = .int .i64 (d7.nums.length : Nat) ∧ e 83 = .int .i64 (k8 : Nat) ∧ B = [(w, No)] ∧ L = [(t12b, cel (diE d7 (an7, cn7)) 33), (t10b, cel [.pointer a, v] 80)] ++ (W ++ W2) ∧ k8 ≤ d7.nums.length ∧ Own 9 1 (.slice pa k8 pc) (((d7.nums.take k8).map fun x => Lib.itoa x.r.1).map str) k8 W ∧ m9 = d7.nums.length - k8) _ ⟨0, none, 0, [], e10_5, e74_5, e75_5, e76_5, rfl, rfl, rfl, rfl, rfl, rfl, rfl, Nat.zero_le _, Own.nil _ _, rfl⟩ ?_
        rintro m9 e B L ⟨k8, pa, pc, W, e10_6, e74_6, e75_6, e76_6, e12_6, e13_6, e81_6, e82_6, e83_6, rfl, rfl, hk8, hO, rfl⟩
        refine yA ?_; refine w_r (fun _ => R_ltN (a := k8) (b := (d7.nums.length)) e83_6 e82_6) rfl rfl ?_; refine yB ?_; refine zq ?_; refine zD rfl (fun h9 => ?_) (fun h9 => ?_)
        · have hk2 : k8 < d7.nums.length := (by omega); obtain ⟨xr, hxr⟩ : ∃ x, d7.nums[k8]? = some x := ⟨_, List.getElem?_eq_getElem hk2⟩; obtain ⟨cs8, hA8, br, rfl, hTr⟩ := hT7.2 k8 xr hxr; obtain ⟨q8, o8, hq8, hne8, hc8⟩ := hA8; dsimp only at hq8; have hBxr := hBx7 xr (List.mem_of_getElem? hxr); have hSxr := hS d7 (List.mem_of_getElem? hd7) xr (List.mem_of_getElem? hxr)
          refine zi ?_; refine zk ?_; refine zq ?_; refine zB ?_; refine yA ?_; refine w_r (fun _ => R_iaN (i := k8) sl31 (e81_6.trans (congrArg (fun z => Value.slice z _ _) hq8)) e83_6 hk2) rfl rfl ?_; refine w_loadC (l := rwE xr br) z46 rfl rfl (fun w h j v hj => cel_old (.head _) (hc8 j v hj) (fun x => x) h) ?_; refine w_alloc zr46 (fun t15b gt15b ut15b => ?_)
          refine w_store 0 rfl z46 rfl rfl rfl rfl rfl rfl rfl ?_; refine yC ?_; refine w_loadA z46 rfl (fun _ h => h.at_ 0 rfl) rfl ?_; refine w_tel2 (fun w => zR Tryz.func37 rfl rfl rfl) rfl rfl (fun w h => fNorm_ok xr.s w ((Kn.old hTr.n.nm).at_ 0 rfl h) ((Kn.old hTr.d.nm).at_ 0 rfl h) ⟨by omega, by omega, hSxr.1, hSxr.2, okN_mem hokl (List.mem_of_getElem? hd7) (List.mem_of_getElem? hxr)⟩) (fun x11 a11 c11 a11' c11' hK11 hN11 hK11' hN11' => ?_)
          have hxs := mkR_sz xr.s xr.n xr.d
          refine zm rfl ?_; refine w_r (fun _ => R_extract rfl rfl) rfl rfl ?_; refine w_r (fun _ => R_extract rfl rfl) rfl rfl ?_; refine w_alloc zr46 (fun t16b gt16b ut16b => ?_)
          refine w_store 0 rfl z46 rfl rfl rfl rfl rfl rfl rfl ?_; refine aI rfl ?_; refine yB ?_; refine zr ?_; refine mS e13_6 ?_; refine zf fa46_0 rfl ?_; refine w_loadA z44 rfl (fun _ h => h.at_ 0 rfl) rfl ?_; refine zC (fun w => zR Tryz.func38 rfl rfl rfl) rfl rfl (fun w h => zTextI_ok xr.r.1 w (hK11.at_ 0 rfl h) (Nat.le_trans hxs.1 (by omega))) ?_; refine zS slt81 (by decide) rfl rfl (fun sb gsb usb => ?_)
          refine w_st (B' := _) (L' := [_, _, _, _, _] ++ (W ++ W2)) (fun w h => h) ?_; refine w_app (L := W2) (W := W) (news := [str (Lib.itoa xr.r.1)]) [_, _, _, _, _] slt81 (by decide) rfl hO rfl rfl (row_own 0 rfl (fun j u h => h)) rfl (by decide) (by omega) (by omega) (fun v3 W3 hO3 => ?_)
          obtain ⟨a3, c3, rfl⟩ := hO3.slice
          refine za (v := .slice a3 (k8 + 1) c3) rfl ?_; refine zn ?_; refine b_on (zk ?_); refine zr ?_; refine w_r (fun _ => R_addN (n := k8) (b := 1) e83_6 rfl (by omega)) rfl rfl ?_; refine mI rfl ?_; refine zn ?_; refine k_st (B' := [(w, No)]) (L' := [_, _] ++ (W3 ++ W2)) (fun w h => (h.drop (.cons _ (.cons _ (.cons _ (List.Sublist.refl _))))).unbase (fun x hx => .tail _ hx)) ?_; exact k_again _ (by omega) ⟨k8 + 1, a3, c3, W3, e10_6, e74_6, e75_6, e76_6, e12_6, rfl, e81_6, e82_6, rfl, rfl, rfl, by omega, (by rw [List.take_succ_eq_append_getElem hk2, (List.getElem?_eq_some_iff.1 hxr).2, List.map_append, List.map_append]; exact hO3), rfl⟩
        · obtain rfl : k8 = d7.nums.length := (by omega); rw [List.take_length] at hO
          refine c_exit ?_; refine zx (zx (b_here rfl (zk ?_))); refine yA ?_; refine mS e13_6 ?_
          have hO' : Own 9 1 (.slice pa d7.nums.length pc) ((d7.nums.map fun x => Lib.itoa x.r.1).map str) (d7.nums.map fun x => Lib.itoa x.r.1).length W := by rw [List.length_map]; exact hO
          refine zC (fun w => zR Tryz.func39 rfl rfl rfl) rfl rfl (fun w h => joinS_ok hO' (fun p hp => h.own p (List.mem_append_right _ (List.mem_append_left _ hp))) (by rw [List.length_map]; omega) (by omega)) ?_; refine za (v := str _) rfl ?_; refine yB ?_; refine zq ?_; refine yA ?_; refine zf fa33_2 e12_6 ?_
          cases hli2 : d7.list
          · refine zl (v := .bool false) z4 rfl (fun _ h => (zc 0 rfl (v := .bool false) (congrArg (fun z => some (Value.bool z)) hli2) h)) ?_; refine yB ?_; refine c_condF rfl ?_; refine zi ?_; refine zk ?_; refine zr ?_; refine zf fa33_0 e12_6 ?_; refine zl z9 rfl (fun _ h => zc 0 rfl rfl h) ?_; refine w_r (fun _ => R_cat rfl rfl (by (try simp only [List.length_append, List.length_cons, List.length_nil]); omega)) rfl rfl ?_; refine zm (v := str _) rfl ?_; refine w_r (fun _ => R_cat rfl rfl (by (try simp only [List.length_append, List.length_cons, List.length_nil]); omega)) rfl rfl ?_; refine w_r (fun _ => R_cat rfl rfl (by (try simp only [List.length_append, List.length_cons, List.length_nil]); omega)) rfl rfl ?_
            refine w_st (B' := _) (L' := (t10b, cel [.pointer a, v] 80) :: (W2 ++ [])) (fun w h => by rw [List.append_nil]; exact h.drop (.cons _ (.cons_cons _ (List.sublist_append_right _ _)))) ?_
            have hval : valT d7 = (joinC (d7.nums.map fun x => Lib.itoa x.r.1)) := by unfold valT; rw [if_neg (by rw [hli2]; decide)]
            have hdat : d7.nm ++ [61] ++ (joinC (d7.nums.map fun x => Lib.itoa x.r.1)) ++ [59, 10] = datT d7 := by unfold datT; rw [hval]; simp
            refine w_bld (dataT (l.take i) ++ datT d7) (.tuple #[.int .i64 ((datT d7).length : Nat), .nilIface]) (fun w => by rw [← hdat]; exact RunE.to (zR Tryz.func40 rfl rfl rfl) (congrArg (fun z => #[z, _]) e10_6)) rfl rfl hOb (fun w h => writeS_spec t10b _ _ w _ (datT d7) (by omega) h) (fun a4 v4 W4 hO4 => ?_)
            refine zn ?_; refine b_on (zk ?_); refine zr ?_; refine w_r (fun _ => R_addN (n := i) (b := 1) e76_6 rfl (by omega)) rfl rfl ?_; refine mI rfl ?_; refine zn ?_; exact k_again _ (by omega) ⟨i + 1, _, _, _, e10_6, e74_6, e75_6, rfl, rfl, rfl, by omega, BldO.eq hO4 hdt.symm, rfl⟩
          · refine zl (v := .bool true) z4 rfl (fun _ h => (zc 0 rfl (v := .bool true) (congrArg (fun z => some (Value.bool z)) hli2) h)) ?_; refine yB ?_; refine zE rfl ?_; refine zr ?_; refine zm (v := str _) rfl ?_; refine w_r (fun _ => R_cat rfl rfl (by (try simp only [List.length_append, List.length_cons, List.length_nil]); omega)) rfl rfl ?_; refine w_r (fun _ => R_cat rfl rfl (by (try simp only [List.length_append, List.length_cons, List.length_nil]); omega)) rfl rfl ?_; refine za (v := str _) rfl ?_; refine yB ?_; refine zr ?_; refine zf fa33_0 e12_6 ?_; refine zl z9 rfl (fun _ h => zc 0 rfl rfl h) ?_; refine w_r (fun _ => R_cat rfl rfl (by (try simp only [List.length_append, List.length_cons, List.length_nil]); omega)) rfl rfl ?_
            refine zm (v := str _) rfl ?_; refine w_r (fun _ => R_cat rfl rfl (by (try simp only [List.length_append, List.length_cons, List.length_nil]); omega)) rfl rfl ?_; refine w_r (fun _ => R_cat rfl rfl (by (try simp only [List.length_append, List.length_cons, List.length_nil]); omega)) rfl rfl ?_; refine w_st (B' := _) (L' := (t10b, cel [.pointer a, v] 80) :: (W2 ++ [])) (fun w h => by rw [List.append_nil]; exact h.drop (.cons _ (.cons_cons _ (List.sublist_append_right _ _)))) ?_
            have hval : valT d7 = 91 :: ((joinC (d7.nums.map fun x => Lib.itoa x.r.1)) ++ [93]) := by unfold valT; rw [if_pos hli2]
            have hdat : d7.nm ++ [61] ++ ([91] ++ (joinC (d7.nums.map fun x => Lib.itoa x.r.1)) ++ [93]) ++ [59, 10] = datT d7 := by unfold datT; rw [hval]; simp
            refine w_bld (dataT (l.take i) ++ datT d7) (.tuple #[.int .i64 ((datT d7).length : Nat), .nilIface]) (fun w => by rw [← hdat]; exact RunE.to (zR Tryz.func40 rfl rfl rfl) (congrArg (fun z => #[z, _]) e10_6)) rfl rfl hOb (fun w h => writeS_spec t10b _ _ w _ (datT d7) (by omega) h) (fun a4 v4 W4 hO4 => ?_)
            refine zn ?_; refine b_on (zk ?_); refine zr ?_; refine w_r (fun _ => R_addN (n := i) (b := 1) e76_6 rfl (by omega)) rfl rfl ?_; refine mI rfl ?_; refine zn ?_; exact k_again _ (by omega) ⟨i + 1, _, _, _, e10_6, e74_6, e75_6, rfl, rfl, rfl, by omega, BldO.eq hO4 hdt.symm, rfl⟩
      · obtain rfl : i = l.length := (by omega); rw [List.take_length] at hOb
        refine c_exit ?_; refine zx (zx (b_here rfl (zk ?_))); refine yA ?_; refine w_lets (L' := []) (str (dataT l)) (fun w => RunE.to (zR Tryz.func41 rfl rfl rfl) (congrArg (fun z => #[z]) e10_5)) rfl rfl (fun w h => string_spec t10b _ _ w (dataT l) (by omega) ⟨_, _, _, hOb, h⟩) ?_; refine za (v := str _) rfl ?_; refine aI rfl ?_; refine yB ?_; refine ze ?_
        rw [writeP_ok hokl (by rw [← longT_all]; exact hlg)]
        refine r_two (v := str _) (v2 := .int _ _) rfl rfl rfl rfl rfl ?_; exact fun w' hw => ⟨rfl, hw.fr (w, No) (.head _)⟩
    · refine zm (v := .bool true) (e5_1.trans (congrArg Value.bool hlg)) ?_; refine yB ?_; refine zE rfl ?_; refine yA ?_; refine za (v := str _) rfl ?_; refine aI rfl ?_; refine yB ?_; refine ze ?_; refine zt (?_)
      rw [writeP_long hokl (by rw [← longT_all]; exact hlg)]
      refine r_two (v := str _) (v2 := .int _ _) rfl rfl rfl rfl rfl ?_; exact fun w' hw => ⟨rfl, hw.fr (w, No) (.head _)⟩
end Go.Proofs.YtikdkendinnalaaGreatDoor
end
section
/- A call that tells data (trees, rows) on new blocks: they become a base; the head of a row. -/
namespace Go.Sx
open Go.RowKit
section
variable {P : Program} {ops : Array Oper} {Q : Exit → Act → World → Prop} {c : Cf} {e : Env} {B : Base} {L : Heap} {rest : List Oper} {d : Nat} {o : Oper}
theorem w_telK {α β : Type} {M : World → (Nat → Prop) → α → β → Prop} (hM : TL M) (a : α) (F : β → Value) {s0 : Nat} {f : FuncId} {args : Array Value} (hr : ∀ w, RunE P o (ev c.n e) w f args) (hg : plainB o = true) (hd : o.dst = some d)
    (hs : ∀ w, St B L w → s0 ≤ w.heap.size) (hc : ∀ w, St B L w → Ret P f args w fun v w' => (∃ b, v = F b ∧ M w' (Nn w w') a b) ∧ Ext w w')
    (h : ∀ (x : Bw) (b : β), Kt x s0 M a b → WX .sq P ops c Q rest (upd e d (F b)) (x :: B) L) : WX .sq P ops c Q (o :: rest) e B L := by
  refine w_callR (R := fun w u w' => (∃ b, u = F b ∧ M w' (Nn w w') a b) ∧ Ext w w') hr hg hd hc fun w hw v w' ⟨⟨b, hv, hm⟩, hx⟩ => ?_
  subst hv
  have h1 := hw.ext hx
  refine ⟨(w', inL L) :: B, L, ?_, h _ b (Kt.new hm hM hw (hs w hw))⟩
  refine ⟨?_, h1.own, h1.nd, ?_⟩
  · intro x hx
    rcases List.mem_cons.1 hx with rfl | hx
    · exact Fr.refl _ _
    · exact h1.fr x hx
  · intro p hp x hx
    rcases List.mem_cons.1 hx with rfl | hx
    · exact .inl (List.mem_map_of_mem hp)
    · exact h1.ok p hp x hx
/-- a call that tells one of some values -/
theorem w_callV {β : Type} (F : β → Value) {f : FuncId} {args : Array Value} (hr : ∀ w, RunE P o (ev c.n e) w f args) (hg : plainB o = true) (hd : o.dst = some d)
    (hc : ∀ w, St B L w → Ret P f args w fun v w' => (∃ b, v = F b) ∧ Ext w w') (h : ∀ b : β, WX .sq P ops c Q rest (upd e d (F b)) B L) : WX .sq P ops c Q (o :: rest) e B L :=
  w_callR (R := fun w u w' => (∃ b, u = F b) ∧ Ext w w') hr hg hd hc fun w hw v w' ⟨⟨b, hv⟩, hx⟩ => ⟨B, L, hw.ext hx, by subst hv; exact h b⟩
theorem Kt.any {α β : Type} {M : World → (Nat → Prop) → α → β → Prop} {x : Bw} {s0 : Nat} {a : α} {b : β} {w : World} (h : Kt x s0 M a b) (hM : TL M) (hx : x ∈ B) (hw : St B L w) : M w (fun _ => True) a b := hM.mono (h.at hM hx hw) fun _ _ => trivial
end
section
variable {P : Program} {ρ : Operand → Value} {w : World} {D : Option Tmp} {t ty yt : TypeId} {pos : String} {aft : Array Edge} {g : Option (Nat × Bool)} {x y : Operand} {a : Option Addr} {k c n i : Nat} {kk kl kh : IntKind}
theorem R_hiM {m : Nat} {hi : Operand} {q : Nat} (hu : slB P t m = true) (hx : ρ x = .slice a k c) (hh : ρ hi = .int kl (q : Nat)) (h2 : q ≤ c) :
    Run P ⟨D, .slice t x none (some hi) none, ty, pos, aft, g⟩ ρ w (.slice a q c) w := by
  obtain ⟨e, ti, h3, h4, h5⟩ := slB_spec hu
  have h6 : (q : Int) ≤ (c : Int) := by omega
  cases a <;> simp [Run, execOp, hx, hh, go_sem, Instr.sliceAt, Instr.slice, run_underlying h3, Instr.sliceBounds, Instr.sliceBound, asIntOf, h2, h6, sizeOf, typeInfo, h4, h5, add_zero_]
end
end Go.Sx
end
section
namespace Go.Proofs.YtikdkendinnalaaGreatDoor
open Go.RowKit Go.Sx
open Go.Tok Go.Tree Go.Prs Go.Feed Go.Num
abbrev hA : Str := [110, 32, 61, 32, 51, 59, 32, 121, 32, 61, 32, 91, 49, 46, 53, 44, 32, 45, 50, 93, 59]
abbrev hB : Str := [110, 32, 61, 32, 51, 59, 32, 110, 32, 61, 32, 52, 59]
abbrev hC : Str := [110, 32, 61, 32, 59]
abbrev d0A : Dt := ⟨[110], 0, false, true, [(3, 1)]⟩
abbrev d1A : Dt := ⟨[121], 7, true, false, [(3, 2), (-2, 1)]⟩
theorem hA_r : fRead hA = .ok [d0A, d1A] := by kernel_rfl
theorem hB_r : fRead hB = .error (8, 7) := by kernel_rfl
theorem hC_r : fRead hC = .error (130, 4) := by kernel_rfl
abbrev lA : List Di := [diD d0A, diD d1A]
theorem lA_w : writeP lA = ([], 2) := by kernel_rfl
theorem lA_w1 : writeP (lA.take 1) = ([110, 61, 51, 59, 10], 0) := by kernel_rfl
theorem lA_B : DisB lA := by
 refine ⟨by decide, fun d hd => ?_⟩
 rcases List.mem_cons.1 hd with rfl | hd
 ·exact ⟨by decide, by decide, by decide +kernel⟩
 ·obtain rfl := List.mem_singleton.1 hd
  exact ⟨by decide, by decide, by decide +kernel⟩
theorem DisB.take {l : List Di} (h : DisB l) (i : Nat) : DisB (l.take i) := ⟨Nat.le_trans (by rw [List.length_take]; exact Nat.min_le_right _ _) h.1, fun d hd => h.2 d (List.mem_of_mem_take hd)⟩
theorem lA_S : ∀ d ∈ lA, ∀ x ∈ d.nums, sz x.n ≤ 2000 ∧ sz x.d ≤ 2000 := by decide +kernel
theorem lA_S1 : ∀ d ∈ lA.take 1, ∀ x ∈ d.nums, sz x.n ≤ 2000 ∧ sz x.d ≤ 2000 := fun d hd => lA_S d (List.mem_of_mem_take hd)
theorem lA_L : (dataT lA).length ≤ 1000000000 := by decide +kernel
theorem lA_L1 : (dataT (lA.take 1)).length ≤ 1000000000 := by decide +kernel
set_option maxRecDepth 100000 in
set_option maxHeartbeats 8000000 in
theorem head_ok (w : World) (hW : Wd w) (hng : 11 ≤ w.heap.size) :
  Ret Tryz.prog 8 #[] w (fun v w' => v = .bool true ∧ Ext w w') := by
 refine enter (S := No) (l := []) (L := []) 174 Tryz.func8 rfl rfl rfl (St.start w No) ?_; refine yA ?_; refine aB rfl ?_; refine yC ?_; refine w_telK (TL.row TL.dic) lA (fun b => .tuple #[.slice b.1 2 b.2, .agg #[.int .i64 0, .int .i64 0]]) (s0 := w.heap.size) (fun w => zR Tryz.func9 rfl rfl rfl) rfl rfl (fun w1 h => (h.fr _ (.head _)).size) (fun w1 h => by have h9 := fRead_ok hA _ rfl w1 (by decide) (hW.now (.head _) h) (Nat.le_trans hng (h.fr _ (.head _)).size); rw [hA_r] at h9; exact h9) (fun x1 b1 hK1 => ?_)
 obtain ⟨va, vc⟩ := b1
 have hR1 : rowM 5 diC x1.1 (Nb w.heap.size x1) lA (va, vc) := hK1
 obtain ⟨cs0, hA0, ⟨an0, cn0⟩, rfl, hT0⟩ := hR1.2 0 _ rfl
 obtain ⟨q0, o0, hq0, hN0, hc0⟩ := hA0
 dsimp only at hq0
 subst hq0
 obtain ⟨cs1, hA1, ⟨an1, cn1⟩, rfl, hT1⟩ := hR1.2 1 _ rfl
 obtain ⟨q1, o1, hq1, hN1, hc1⟩ := hA1
 cases hq1
 obtain ⟨cr0, hB0, br0, rfl, hr0⟩ := hT0.2 0 _ rfl
 obtain ⟨p0, u0, hp0, hM0, hd0⟩ := hB0
 dsimp only at hp0
 subst hp0
 obtain ⟨cr1, hB1, br1, rfl, hr1⟩ := hT1.2 0 _ rfl
 obtain ⟨p1, u1, hp1, hM1, hd1⟩ := hB1
 dsimp only at hp1
 subst hp1
 obtain ⟨cr2, hB2, br2, rfl, hr2⟩ := hT1.2 1 _ rfl
 obtain ⟨p2, u2, hp2, hM2, hd2⟩ := hB2
 cases hp2
 refine zm rfl ?_; refine w_r (fun _ => R_extract rfl rfl) rfl rfl ?_; refine w_r (fun _ => R_extract rfl rfl) rfl rfl ?_; refine w_alloc zr27 (fun t2b gt2b ut2b => ?_)
 refine za (v := .slice _ _ _) rfl ?_; refine w_store 0 rfl z27 rfl rfl rfl rfl rfl rfl rfl ?_; refine yC ?_; refine zC (v := .tuple #[.slice none 0 0, .agg #[.int .i64 8, .int .i64 7]]) (fun w => zR Tryz.func9 rfl rfl rfl) rfl rfl (fun w1 h => by have h9 := fRead_ok hB _ rfl w1 (by decide) (hW.now (.tail _ (.head _)) h) (Nat.le_trans hng (h.fr _ (.tail _ (.head _))).size); rw [hB_r] at h9; exact h9) ?_; refine zm rfl ?_; refine w_r (fun _ => R_extract rfl rfl) rfl rfl ?_; refine w_r (fun _ => R_extract rfl rfl) rfl rfl ?_; refine w_alloc zr27 (fun t4b gt4b ut4b => ?_)
 refine za (v := .slice _ _ _) rfl ?_; refine w_store 0 rfl z27 rfl rfl rfl rfl rfl rfl rfl ?_; refine yC ?_; refine zC (v := .tuple #[.slice none 0 0, .agg #[.int .i64 130, .int .i64 4]]) (fun w => zR Tryz.func9 rfl rfl rfl) rfl rfl (fun w1 h => by have h9 := fRead_ok hC _ rfl w1 (by decide) (hW.now (.tail _ (.head _)) h) (Nat.le_trans hng (h.fr _ (.tail _ (.head _))).size); rw [hC_r] at h9; exact h9) ?_; refine zm rfl ?_; refine w_r (fun _ => R_extract rfl rfl) rfl rfl ?_; refine w_r (fun _ => R_extract rfl rfl) rfl rfl ?_; refine w_alloc zr27 (fun t6b gt6b ut6b => ?_)
 refine za (v := .slice _ _ _) rfl ?_; refine w_store 0 rfl z27 rfl rfl rfl rfl rfl rfl rfl ?_; refine yB ?_; refine zq ?_; refine yA ?_; refine zf fa27_0 rfl ?_; refine zl z25 rfl (fun _ h => zc 2 rfl rfl h) ?_; refine w_r (fun _ => R_ne rfl rfl) rfl rfl ?_; refine mB rfl ?_; refine zw rfl rfl (congrArg Value.bool (decide_eq_false (by decide))) ?_; refine mS rfl ?_; refine zw rfl rfl (congrArg Value.bool (decide_eq_false (by decide))) ?_; refine w_r (fun _ => R_len sl24 rfl) rfl rfl ?_; refine zw rfl rfl (congrArg Value.bool (decide_eq_false (by decide))) ?_; refine w_r (fun _ => R_ne rfl rfl) rfl rfl ?_
 refine w_r (v := .bool _) (fun _ => zF (congrArg Value.bool (decide_eq_false (by decide))) rfl) rfl rfl ?_; refine mB rfl ?_; refine zw rfl rfl (congrArg Value.bool (decide_eq_false (by decide))) ?_; refine mS rfl ?_; refine zw rfl rfl (congrArg Value.bool (decide_eq_false (by decide))) ?_; refine w_r (fun _ => R_iaN (i := 0) sl24 rfl rfl (by first | omega | decide | exact Nat.succ_pos _ | exact Nat.succ_lt_succ (Nat.succ_pos _))) rfl rfl ?_; refine zw rfl rfl (congrArg Value.bool (decide_eq_false (by decide))) ?_; refine zf fa33_4 rfl ?_; refine zw rfl rfl (congrArg Value.bool (decide_eq_false (by decide))) ?_; refine zl (v := .slice (some ⟨p0, u0, none⟩) 1 cn0) z31 rfl (fun w h => cel_old (.head _) (hc0 4 _ rfl) hN0.2.2 h) ?_
 refine zw rfl rfl (congrArg Value.bool (decide_eq_false (by decide))) ?_; refine w_r (fun _ => R_len sl31 rfl) rfl rfl ?_; refine zw rfl rfl (congrArg Value.bool (decide_eq_false (by decide))) ?_; refine w_r (fun _ => R_ne rfl rfl) rfl rfl ?_; refine w_r (v := .bool _) (fun _ => zF (congrArg Value.bool (decide_eq_false (by decide))) rfl) rfl rfl ?_; refine mB rfl ?_; refine zw rfl rfl (congrArg Value.bool (decide_eq_false (by decide))) ?_; refine mS rfl ?_; refine zw rfl rfl (congrArg Value.bool (decide_eq_false (by decide))) ?_; refine w_r (fun _ => R_iaN (i := 1) sl24 rfl rfl (by first | omega | decide | exact Nat.succ_pos _ | exact Nat.succ_lt_succ (Nat.succ_pos _))) rfl rfl ?_
 refine zw rfl rfl (congrArg Value.bool (decide_eq_false (by decide))) ?_; refine zf fa33_4 rfl ?_; refine zw rfl rfl (congrArg Value.bool (decide_eq_false (by decide))) ?_; refine zl (v := .slice (some ⟨p1, u1, none⟩) 2 cn1) z31 rfl (fun w h => cel_old (.head _) (hc1 4 _ rfl) hN1.2.2 h) ?_; refine zw rfl rfl (congrArg Value.bool (decide_eq_false (by decide))) ?_; refine w_r (fun _ => R_len sl31 rfl) rfl rfl ?_; refine zw rfl rfl (congrArg Value.bool (decide_eq_false (by decide))) ?_; refine w_r (fun _ => R_ne rfl rfl) rfl rfl ?_; refine w_r (v := .bool _) (fun _ => zF (congrArg Value.bool (decide_eq_false (by decide))) rfl) rfl rfl ?_; refine yB ?_; refine c_condF (congrArg Value.bool (decide_eq_false (by decide))) ?_; refine zi ?_; refine zk ?_; refine yA ?_; refine mS rfl ?_
 refine w_telK TL.dit (diD d1A) (fun b => .tuple #[.agg (diE (diD d1A) b).toArray, .bool true]) (s0 := w.heap.size) (fun w => zR Tryz.func12 rfl rfl rfl) rfl rfl (fun w1 h => (h.fr _ (.tail _ (.head _))).size) (fun w1 h => by have h9 := Find_ok lA [121] _ vc w1 (Kt.any (show Kt x1 w.heap.size (rowM 5 diC) lA _ from hK1) (TL.row TL.dic) (.head _) h) lA_B; rw [show findD lA [121] = some (diD d1A) from by kernel_rfl] at h9; exact h9) (fun x2 b2 hK2 => ?_)
 refine zm rfl ?_; refine w_r (fun _ => R_extract rfl rfl) rfl rfl ?_; refine w_r (fun _ => R_extract rfl rfl) rfl rfl ?_; refine w_alloc zr33 (fun t7b gt7b ut7b => ?_)
 refine w_store 0 rfl z33 rfl rfl rfl rfl rfl rfl rfl ?_; refine aB rfl ?_; refine yC ?_; refine mS rfl ?_; refine zC (v := .tuple #[.agg #[str [], .int .i64 0, .bool false, .bool false, .slice none 0 0], .bool false]) (fun w => zR Tryz.func12 rfl rfl rfl) rfl rfl (fun w1 h => by have h9 := Find_ok lA [120] _ vc w1 (Kt.any (show Kt x1 w.heap.size (rowM 5 diC) lA _ from hK1) (TL.row TL.dic) (.tail _ (.head _)) h) lA_B; rw [show findD lA [120] = none from by kernel_rfl] at h9; exact h9) ?_; refine zm rfl ?_; refine w_r (fun _ => R_extract rfl rfl) rfl rfl ?_; refine w_r (fun _ => R_extract rfl rfl) rfl rfl ?_; refine w_alloc zr33 (fun t9b gt9b ut9b => ?_)
 refine w_store 0 rfl z33 rfl rfl rfl rfl rfl rfl rfl ?_; refine aB rfl ?_; refine yC ?_; refine mS rfl ?_; refine w_r (fun _ => R_hiM (q := 1) sl24 rfl rfl (Nat.le_trans (by decide) hR1.1)) rfl rfl ?_; refine zC (v := .tuple #[str [110, 61, 51, 59, 10], .int .i64 0]) (fun w => zR Tryz.func14 rfl rfl rfl) rfl rfl (fun w1 h => by have h9 := Write_ok (lA.take 1) _ vc w1 (rowM.take (Kt.any (show Kt x1 w.heap.size (rowM 5 diC) lA _ from hK1) (TL.row TL.dic) (.tail _ (.head _)) h) 1) (lA_B.take 1) lA_S1 lA_L1 (hW.now (.tail _ (.tail _ (.head _))) h) (Nat.le_trans hng (h.fr _ (.tail _ (.tail _ (.head _)))).size); rw [lA_w1] at h9; exact h9) ?_
 refine zm rfl ?_; refine w_r (fun _ => R_extract rfl rfl) rfl rfl ?_; refine w_r (fun _ => R_extract rfl rfl) rfl rfl ?_; refine za (v := str _) rfl ?_; refine aI rfl ?_; refine yC ?_; refine mS rfl ?_; refine zC (v := .tuple #[str [], .int .i64 2]) (fun w => zR Tryz.func14 rfl rfl rfl) rfl rfl (fun w1 h => by have h9 := Write_ok lA _ vc w1 (Kt.any (show Kt x1 w.heap.size (rowM 5 diC) lA _ from hK1) (TL.row TL.dic) (.tail _ (.head _)) h) lA_B lA_S lA_L (hW.now (.tail _ (.tail _ (.head _))) h) (Nat.le_trans hng (h.fr _ (.tail _ (.tail _ (.head _)))).size); rw [lA_w] at h9; exact h9) ?_; refine zm rfl ?_; refine w_r (fun _ => R_extract rfl rfl) rfl rfl ?_; refine w_r (fun _ => R_extract rfl rfl) rfl rfl ?_; refine za (v := str _) rfl ?_
 refine aI rfl ?_; refine yC ?_; refine mS rfl ?_; refine w_r (fun _ => R_iaN (i := 0) sl24 rfl rfl (by first | omega | decide | exact Nat.succ_pos _ | exact Nat.succ_lt_succ (Nat.succ_pos _))) rfl rfl ?_; refine zf fa33_3 rfl ?_; refine zl (v := .bool true) z4 rfl (fun w h => cel_old (.tail _ (.head _)) (hc0 3 _ rfl) hN0.2.2 h) ?_; refine mB rfl ?_; refine zw rfl rfl rfl ?_; refine mS rfl ?_; refine zw rfl rfl rfl ?_; refine w_r (fun _ => R_iaN (i := 0) sl24 rfl rfl (by first | omega | decide | exact Nat.succ_pos _ | exact Nat.succ_lt_succ (Nat.succ_pos _))) rfl rfl ?_; refine zw rfl rfl rfl ?_; refine zf fa33_2 rfl ?_; refine zw rfl rfl rfl ?_
 refine zl (v := .bool false) z4 rfl (fun w h => cel_old (.tail _ (.head _)) (hc0 2 _ rfl) hN0.2.2 h) ?_; refine zw rfl rfl rfl ?_; refine w_r (fun _ => R_not rfl) rfl rfl ?_; refine w_r (v := .bool _) (fun _ => zT rfl rfl) rfl rfl ?_; refine mB rfl ?_; refine zw rfl rfl rfl ?_; refine mS rfl ?_; refine zw rfl rfl rfl ?_; refine w_r (fun _ => R_iaN (i := 0) sl24 rfl rfl (by first | omega | decide | exact Nat.succ_pos _ | exact Nat.succ_lt_succ (Nat.succ_pos _))) rfl rfl ?_; refine zw rfl rfl rfl ?_; refine zf fa33_0 rfl ?_; refine zw rfl rfl rfl ?_; refine zl (v := str [110]) z9 rfl (fun w h => cel_old (.tail _ (.head _)) (hc0 0 _ rfl) hN0.2.2 h) ?_
 refine zw rfl rfl rfl ?_; refine w_r (fun _ => R_seq rfl rfl) rfl rfl ?_; refine w_r (v := .bool _) (fun _ => zT rfl rfl) rfl rfl ?_; refine mB rfl ?_; refine zw rfl rfl (congrArg Value.bool (decide_eq_true (by decide))) ?_; refine mS rfl ?_; refine zw rfl rfl (congrArg Value.bool (decide_eq_true (by decide))) ?_; refine w_r (fun _ => R_iaN (i := 0) sl24 rfl rfl (by first | omega | decide | exact Nat.succ_pos _ | exact Nat.succ_lt_succ (Nat.succ_pos _))) rfl rfl ?_; refine zw rfl rfl (congrArg Value.bool (decide_eq_true (by decide))) ?_; refine zf fa33_4 rfl ?_; refine zw rfl rfl (congrArg Value.bool (decide_eq_true (by decide))) ?_; refine zl (v := .slice (some ⟨p0, u0, none⟩) 1 cn0) z31 rfl (fun w h => cel_old (.tail _ (.head _)) (hc0 4 _ rfl) hN0.2.2 h) ?_
 refine zw rfl rfl (congrArg Value.bool (decide_eq_true (by decide))) ?_; refine w_r (fun _ => R_iaN (i := 0) sl31 rfl rfl (by first | omega | decide | exact Nat.succ_pos _ | exact Nat.succ_lt_succ (Nat.succ_pos _))) rfl rfl ?_; refine zw rfl rfl (congrArg Value.bool (decide_eq_true (by decide))) ?_; refine w_loadC (l := rwE (rwR (3, 1)) br0) z46 rfl rfl (fun w h j v hj => cel_old (.tail _ (.head _)) (hd0 j v hj) hM0.2.2 h) ?_; refine zw rfl rfl (congrArg Value.bool (decide_eq_true (by decide))) ?_
 refine zC (v := str [51]) (fun w => zR Tryz.func20 rfl rfl rfl) rfl rfl (fun w9 h => by have h9 := fText_ok (rwR (3, 1)).s w9 (Kt.any (show Kt x1 w.heap.size rwT (rwR (3, 1)) br0 from hr0) TL.rwt (.tail _ (.head _)) h).n.nm (Kt.any (show Kt x1 w.heap.size rwT (rwR (3, 1)) br0 from hr0) TL.rwt (.tail _ (.head _)) h).d.nm (by decide +kernel); rw [show txtR (mkR (rwR (3, 1)).s (rwR (3, 1)).n (rwR (3, 1)).d) = [51] from by kernel_rfl] at h9; exact h9) ?_; refine zw rfl rfl (congrArg Value.bool (decide_eq_true (by decide))) ?_; refine w_r (fun _ => R_seq rfl rfl) rfl rfl ?_; refine w_r (v := .bool _) (fun _ => zT (congrArg Value.bool (decide_eq_true (by decide))) rfl) rfl rfl ?_
 refine mB rfl ?_; refine zw rfl rfl (congrArg Value.bool (decide_eq_true (by decide))) ?_; refine mS rfl ?_; refine zw rfl rfl (congrArg Value.bool (decide_eq_true (by decide))) ?_; refine w_r (fun _ => R_iaN (i := 1) sl24 rfl rfl (by first | omega | decide | exact Nat.succ_pos _ | exact Nat.succ_lt_succ (Nat.succ_pos _))) rfl rfl ?_; refine zw rfl rfl (congrArg Value.bool (decide_eq_true (by decide))) ?_; refine zf fa33_2 rfl ?_; refine zw rfl rfl (congrArg Value.bool (decide_eq_true (by decide))) ?_; refine zl (v := .bool true) z4 rfl (fun w h => cel_old (.tail _ (.head _)) (hc1 2 _ rfl) hN1.2.2 h) ?_; refine w_r (v := .bool _) (fun _ => zT (congrArg Value.bool (decide_eq_true (by decide))) rfl) rfl rfl ?_; refine mB rfl ?_; refine zw rfl rfl rfl ?_
 refine mS rfl ?_; refine zw rfl rfl rfl ?_; refine w_r (fun _ => R_iaN (i := 1) sl24 rfl rfl (by first | omega | decide | exact Nat.succ_pos _ | exact Nat.succ_lt_succ (Nat.succ_pos _))) rfl rfl ?_; refine zw rfl rfl rfl ?_; refine zf fa33_3 rfl ?_; refine zw rfl rfl rfl ?_; refine zl (v := .bool false) z4 rfl (fun w h => cel_old (.tail _ (.head _)) (hc1 3 _ rfl) hN1.2.2 h) ?_; refine zw rfl rfl rfl ?_; refine w_r (fun _ => R_not rfl) rfl rfl ?_; refine w_r (v := .bool _) (fun _ => zT rfl rfl) rfl rfl ?_; refine mB rfl ?_; refine zw rfl rfl rfl ?_; refine mS rfl ?_; refine zw rfl rfl rfl ?_; refine w_r (fun _ => R_iaN (i := 1) sl24 rfl rfl (by first | omega | decide | exact Nat.succ_pos _ | exact Nat.succ_lt_succ (Nat.succ_pos _))) rfl rfl ?_
 refine zw rfl rfl rfl ?_; refine zf fa33_1 rfl ?_; refine zw rfl rfl rfl ?_; refine zl (v := .int .i64 7) z3 rfl (fun w h => cel_old (.tail _ (.head _)) (hc1 1 _ rfl) hN1.2.2 h) ?_; refine zw rfl rfl rfl ?_; refine w_r (fun _ => R_eq rfl rfl) rfl rfl ?_; refine w_r (v := .bool _) (fun _ => zT rfl rfl) rfl rfl ?_; refine mB rfl ?_; refine zw rfl rfl (congrArg Value.bool (decide_eq_true (by decide))) ?_; refine mS rfl ?_; refine zw rfl rfl (congrArg Value.bool (decide_eq_true (by decide))) ?_; refine w_r (fun _ => R_iaN (i := 1) sl24 rfl rfl (by first | omega | decide | exact Nat.succ_pos _ | exact Nat.succ_lt_succ (Nat.succ_pos _))) rfl rfl ?_
 refine zw rfl rfl (congrArg Value.bool (decide_eq_true (by decide))) ?_; refine zf fa33_4 rfl ?_; refine zw rfl rfl (congrArg Value.bool (decide_eq_true (by decide))) ?_; refine zl (v := .slice (some ⟨p1, u1, none⟩) 2 cn1) z31 rfl (fun w h => cel_old (.tail _ (.head _)) (hc1 4 _ rfl) hN1.2.2 h) ?_; refine zw rfl rfl (congrArg Value.bool (decide_eq_true (by decide))) ?_; refine w_r (fun _ => R_iaN (i := 0) sl31 rfl rfl (by first | omega | decide | exact Nat.succ_pos _ | exact Nat.succ_lt_succ (Nat.succ_pos _))) rfl rfl ?_; refine zw rfl rfl (congrArg Value.bool (decide_eq_true (by decide))) ?_; refine w_loadC (l := rwE (rwR (3, 2)) br1) z46 rfl rfl (fun w h j v hj => cel_old (.tail _ (.head _)) (hd1 j v hj) hM1.2.2 h) ?_; refine zw rfl rfl (congrArg Value.bool (decide_eq_true (by decide))) ?_
 refine zC (v := str [51, 47, 50]) (fun w => zR Tryz.func20 rfl rfl rfl) rfl rfl (fun w9 h => by have h9 := fText_ok (rwR (3, 2)).s w9 (Kt.any (show Kt x1 w.heap.size rwT (rwR (3, 2)) br1 from hr1) TL.rwt (.tail _ (.head _)) h).n.nm (Kt.any (show Kt x1 w.heap.size rwT (rwR (3, 2)) br1 from hr1) TL.rwt (.tail _ (.head _)) h).d.nm (by decide +kernel); rw [show txtR (mkR (rwR (3, 2)).s (rwR (3, 2)).n (rwR (3, 2)).d) = [51, 47, 50] from by kernel_rfl] at h9; exact h9) ?_; refine zw rfl rfl (congrArg Value.bool (decide_eq_true (by decide))) ?_; refine w_r (fun _ => R_seq rfl rfl) rfl rfl ?_; refine w_r (v := .bool _) (fun _ => zT (congrArg Value.bool (decide_eq_true (by decide))) rfl) rfl rfl ?_
 refine mB rfl ?_; refine zw rfl rfl (congrArg Value.bool (decide_eq_true (by decide))) ?_; refine mS rfl ?_; refine zw rfl rfl (congrArg Value.bool (decide_eq_true (by decide))) ?_; refine w_r (fun _ => R_iaN (i := 1) sl24 rfl rfl (by first | omega | decide | exact Nat.succ_pos _ | exact Nat.succ_lt_succ (Nat.succ_pos _))) rfl rfl ?_; refine zw rfl rfl (congrArg Value.bool (decide_eq_true (by decide))) ?_; refine zf fa33_4 rfl ?_; refine zw rfl rfl (congrArg Value.bool (decide_eq_true (by decide))) ?_; refine zl (v := .slice (some ⟨p1, u1, none⟩) 2 cn1) z31 rfl (fun w h => cel_old (.tail _ (.head _)) (hc1 4 _ rfl) hN1.2.2 h) ?_
 refine zw rfl rfl (congrArg Value.bool (decide_eq_true (by decide))) ?_; refine w_r (fun _ => R_iaN (i := 1) sl31 rfl rfl (by first | omega | decide | exact Nat.succ_pos _ | exact Nat.succ_lt_succ (Nat.succ_pos _))) rfl rfl ?_; refine zw rfl rfl (congrArg Value.bool (decide_eq_true (by decide))) ?_; refine w_loadC (l := rwE (rwR (-2, 1)) br2) z46 rfl rfl (fun w h j v hj => cel_old (.tail _ (.head _)) (hd2 j v hj) hM2.2.2 h) ?_; refine zw rfl rfl (congrArg Value.bool (decide_eq_true (by decide))) ?_
 refine zC (v := str [45, 50]) (fun w => zR Tryz.func20 rfl rfl rfl) rfl rfl (fun w9 h => by have h9 := fText_ok (rwR (-2, 1)).s w9 (Kt.any (show Kt x1 w.heap.size rwT (rwR (-2, 1)) br2 from hr2) TL.rwt (.tail _ (.head _)) h).n.nm (Kt.any (show Kt x1 w.heap.size rwT (rwR (-2, 1)) br2 from hr2) TL.rwt (.tail _ (.head _)) h).d.nm (by decide +kernel); rw [show txtR (mkR (rwR (-2, 1)).s (rwR (-2, 1)).n (rwR (-2, 1)).d) = [45, 50] from by kernel_rfl] at h9; exact h9) ?_; refine zw rfl rfl (congrArg Value.bool (decide_eq_true (by decide))) ?_; refine w_r (fun _ => R_seq rfl rfl) rfl rfl ?_; refine w_r (v := .bool _) (fun _ => zT (congrArg Value.bool (decide_eq_true (by decide))) rfl) rfl rfl ?_; refine mB rfl ?_; refine zw rfl rfl (congrArg Value.bool (decide_eq_true (by decide))) ?_; refine w_loadA z27 rfl (fun _ h => h.at_ 3 rfl) rfl ?_
 refine zw rfl rfl (congrArg Value.bool (decide_eq_true (by decide))) ?_; refine w_r (fun _ => R_build bt27 rfl) rfl rfl ?_; refine zw rfl rfl (congrArg Value.bool (decide_eq_true (by decide))) ?_; refine w_r (fun _ => R_eqS fl27 rfl rfl (eq2_run (n := 9998) fl27 z25 z3 un25 un3)) rfl rfl ?_; refine w_r (v := .bool _) (fun _ => zT (congrArg Value.bool (decide_eq_true (by decide))) rfl) rfl rfl ?_; refine mB rfl ?_; refine zw rfl rfl (congrArg Value.bool (by decide)) ?_; refine w_loadA z27 rfl (fun _ h => h.at_ 2 rfl) rfl ?_; refine zw rfl rfl (congrArg Value.bool (by decide)) ?_; refine w_r (fun _ => R_build bt27 rfl) rfl rfl ?_; refine zw rfl rfl (congrArg Value.bool (by decide)) ?_; refine w_r (fun _ => R_eqS fl27 rfl rfl (eq2_run (n := 9998) fl27 z25 z3 un25 un3)) rfl rfl ?_
 refine w_r (v := .bool _) (fun _ => zT (congrArg Value.bool (by decide)) rfl) rfl rfl ?_; refine mB rfl ?_; refine zw rfl rfl (congrArg Value.bool (by decide)) ?_; refine mB rfl ?_; refine w_r (v := .bool _) (fun _ => zT (congrArg Value.bool (by decide)) rfl) rfl rfl ?_; refine mB rfl ?_; refine zw rfl rfl rfl ?_; refine zf fa33_1 rfl ?_; refine zw rfl rfl rfl ?_; refine zl z3 rfl (fun _ h => zc 1 rfl rfl h) ?_; refine zw rfl rfl rfl ?_; refine w_r (fun _ => R_eq rfl rfl) rfl rfl ?_; refine w_r (v := .bool _) (fun _ => zT rfl rfl) rfl rfl ?_; refine mB rfl ?_; refine zw rfl rfl (congrArg Value.bool (decide_eq_true (by decide))) ?_
 refine mB rfl ?_; refine zw rfl rfl (congrArg Value.bool (decide_eq_true (by decide))) ?_; refine w_r (fun _ => R_not rfl) rfl rfl ?_; refine w_r (v := .bool _) (fun _ => zT (congrArg Value.bool (decide_eq_true (by decide))) rfl) rfl rfl ?_; refine mB rfl ?_; refine zw rfl rfl rfl ?_; refine mI rfl ?_; refine zw rfl rfl rfl ?_; refine w_r (fun _ => R_eq rfl rfl) rfl rfl ?_; refine w_r (v := .bool _) (fun _ => zT rfl rfl) rfl rfl ?_; refine mB rfl ?_; refine zw rfl rfl (congrArg Value.bool (decide_eq_true (by decide))) ?_; refine zm (v := str _) rfl ?_; refine zw rfl rfl (congrArg Value.bool (decide_eq_true (by decide))) ?_
 refine w_r (fun _ => R_seq rfl rfl) rfl rfl ?_; refine w_r (v := .bool _) (fun _ => zT (congrArg Value.bool (decide_eq_true (by decide))) rfl) rfl rfl ?_; refine mB rfl ?_; refine zw rfl rfl (congrArg Value.bool (decide_eq_true (by decide))) ?_; refine mI rfl ?_; refine zw rfl rfl (congrArg Value.bool (decide_eq_true (by decide))) ?_; refine w_r (fun _ => R_eq rfl rfl) rfl rfl ?_; refine w_r (v := .bool _) (fun _ => zT (congrArg Value.bool (decide_eq_true (by decide))) rfl) rfl rfl ?_; refine aB rfl ?_; refine yB ?_; refine ze ?_; refine zo (v := .bool _) rfl rfl rfl ?_; exact fun w' hw => ⟨rfl, hw.fr (w, No) (.tail _ (.tail _ (.head _)))⟩
end Go.Proofs.YtikdkendinnalaaGreatDoor
end
section
/- The plain part of layer feed: how large data are that were read. -/
namespace Go.Feed
open Go.Tok Go.Tree Go.Prs Go.Num Go.Lib
def Rb (x : Rt) : Prop := sz x.1.natAbs ≤ 1000 ∧ sz x.2 ≤ 1000 ∧ x.2 ≠ 0
def NTs (L : Nat) (ts : List Tk) : Prop := ∀ t ∈ ts, (t.1 = 2 → NumT t.2.1) ∧ t.2.1.length ≤ L
def DB (L K : Nat) (d : Dt) : Prop := d.nm.length ≤ L ∧ d.nums.length ≤ K ∧ ∀ x ∈ d.nums, Rb x
theorem NTs.tail {L : Nat} {ts : List Tk} (h : NTs L ts) : NTs L ts.tail := fun t ht => h t (List.mem_of_mem_tail ht)
end Go.Feed
end
section
namespace Go.Proofs.YtikdkendinnalaaGreatDoor
open Go.RowKit Go.Sx
open Go.Tok Go.Tree Go.Prs Go.Feed Go.Num
def bothT (la lb : List Dt) (i : Nat) : Bool := (la.take i).any fun a => (findD (lb.map diD) a.nm).isSome
end Go.Proofs.YtikdkendinnalaaGreatDoor
end
