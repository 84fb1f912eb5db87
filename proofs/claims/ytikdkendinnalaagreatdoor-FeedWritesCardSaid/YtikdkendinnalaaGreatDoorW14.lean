/- Layer 14, FeedWrites: that Write and Find tell what the document says, and that what is written is read as the same data again. Part 14 of 14. -/
import Derived.Test.YtikdkendinnalaaGreatDoorW12
import Derived.Test.YtikdkendinnalaaGreatDoorW13
import Derived.ChangeArms
import Derived.OpenShut
import Derived.ChangeSlices
import Derived.Test.YtikdkendinnalaaGreatDoorRows
import Derived.HandedShaped
import Derived.Handed
import Derived.Deep.DeepHandedRow
import Derived.ProofKit
import Derived.LaidMore
import Derived.Stop.LaidErr
import Derived.Shelf.Vars
import Derived.Stop.Joined
import Derived.Test.YtikdkendinnalaaGreatDoorTie
import Derived.Test.YtikdkendinnalaaGreatDoorCards
import Derived.SevenTiedAt
set_option maxRecDepth 100000
set_option maxHeartbeats 16000000
section
namespace Go.Proofs.YtikdkendinnalaaGreatDoor
open Go.RowKit Go.Sx
open Go.Tok Go.Tree Go.Prs Go.Feed Go.Num
theorem backs_len {es : List Dt} {l : List Di} (h : Backs es l) : es.length = l.length := by
  induction h with
  | nil => rfl
  | cons _ _ ih => rw [List.length_cons, List.length_cons, ih]
theorem backs_get {es : List Dt} {l : List Di} (h : Backs es l) : ∀ {i : Nat} {d : Di}, l[i]? = some d → ∃ e, es[i]? = some e ∧ Back e d := by
  induction h with
  | nil => intro i d hd; simp at hd
  | @cons e d' es l hb _ ih =>
    intro i d hd
    cases i with
    | zero => exact ⟨e, rfl, (show d' = d by simpa using hd) ▸ hb⟩
    | succ i => rw [List.getElem?_cons_succ] at hd ⊢; exact ih hd
theorem cmp_rw {x : Rw} (hx : x.ok = true) (hp : x.p ≤ 3 ∧ x.q ≤ 3) {b9 b8 : A2} {w : World} (h9 : rwT w (fun _ => True) (rwR (x.r.1, 1)) b9) (h8 : rwT w (fun _ => True) x b8) : Ret Tryz.prog 19 #[.agg (rwE (rwR (x.r.1, 1)) b9).toArray, .agg (rwE x b8).toArray] w fun v w' => v = .tuple #[.int .i64 0, .int .i64 0] ∧ Ext w w' := by
  have hn := sz_iff.2 h8.n.nm.lt
  have hd := sz_iff.2 h8.d.nm.lt
  have hr : sz x.r.1.natAbs ≤ sz x.n := (mkR_sz x.s x.n x.d).1
  unfold Rw.ok at hx
  simp only [Bool.and_eq_true, decide_eq_true_eq] at hx
  obtain ⟨hd0, hr1⟩ := hx
  have hg : x.d / Nat.gcd x.n x.d = 1 := hr1
  have hgd : Nat.gcd x.n x.d = x.d := by
    have h1 := Nat.div_mul_cancel (Nat.gcd_dvd_right x.n x.d)
    rw [hg, Nat.one_mul] at h1; exact h1
  have ha : x.r.1.natAbs = x.n / x.d := by
    show (iv x.s (x.n / Nat.gcd x.n x.d)).natAbs = _
    rw [iv_abs, hgd]
  have hq : x.r.1.natAbs * x.d = x.n := by rw [ha]; exact Nat.div_mul_cancel (hgd ▸ Nat.gcd_dvd_left x.n x.d)
  have hs : ng x.r.1 = (x.s && decide (x.n / x.d ≠ 0)) := by
    show ng (iv x.s (x.n / Nat.gcd x.n x.d)) = _
    rw [ng_iv, hgd]
  have hz : x.n / x.d ≠ 0 ↔ x.n ≠ 0 := by
    rw [← ha]
    constructor
    · intro h h0; rw [h0] at hq
      rcases Nat.mul_eq_zero.1 hq with h1 | h1
      · exact h h1
      exact hd0 h1
    intro h h0; rw [h0, Nat.zero_mul] at hq; exact h hq.symm
  have h9n : Nm w b9.1.1 (sz x.r.1.natAbs) b9.1.2 x.r.1.natAbs := h9.n.nm
  have h9d : Nm w b9.2.1 (sz 1) b9.2.2 1 := h9.d.nm
  have hs1 : sz 1 = 1 := rfl
  refine fCmpE_ok (ng x.r.1) x.s w h9n h9d h8.n.nm h8.d.nm ⟨⟨(show sz x.r.1.natAbs ≤ 1000000 by omega), (show sz 1 ≤ 1000000 by decide), by omega, by omega⟩, ⟨by omega, by omega, by omega, by omega⟩, by decide, hd0⟩ ⟨by rw [hq, Nat.mul_one], ?_⟩
  rw [hq, Nat.mul_one, hs]
  by_cases h0 : x.n = 0
  · rw [decide_eq_false (p := x.n ≠ 0) (fun h => h h0), Bool.and_false, Bool.and_false]
  rw [decide_eq_true (hz.2 h0), decide_eq_true h0]; simp
theorem writeP_z {l : List Di} (h : (writeP l).2 = 0) : (writeP l).1 = dataT l := by
  unfold writeP at *
  split at h
  · split at h
    · cases h
    rename_i h1 h2; rw [if_pos h1, if_neg h2]
  cases h
theorem FB.len2 {l : List Di} (h : FB l) : (dataT l).length ≤ 20000 := by
  have h1 := flat_len datT 1405 l (fun d hd => (dat_small (h.small.2 d hd)).1)
  have h2 := h.sm.1
  have h3 : l.length * 1405 ≤ 12 * 1405 := Nat.mul_le_mul_right _ h2
  unfold dataT; omega
theorem FB.p9 {l : List Di} (h : FB l) : ∀ d ∈ l, ∀ x ∈ d.nums, x.p ≤ 900 ∧ x.q ≤ 900 := fun d hd x hx => by
  have := (h.sm.2 d hd).2.2 x hx
  omega
theorem writes14_walk (l : List Di) (nm : Str) (va : Option Addr) (vc : Nat) (w : World) (hD : disV w (fun _ => True) l (va, vc)) (hl : l.length ≤ 9223372036854775807) (hnl : ∀ d ∈ l, d.nums.length ≤ 9223372036854775807 ∧ d.nm.length ≤ 9223372036854775807) (hnm : nm.length ≤ 9223372036854775807) (hW : Wd w) (hng : 11 ≤ w.heap.size) :
    Ret Tryz.prog 6 #[.slice va l.length vc, str nm] w (fun v w' => v = .bool true ∧ Ext w w') := by
  refine enter (S := No) (l := [_, _]) (L := []) 193 Tryz.func6 rfl rfl rfl (St.start w No) ?_; refine yA ?_; refine aB rfl ?_; refine yB ?_; refine zq ?_; refine yA ?_; refine mS rfl ?_; refine w_callV (fun b : {b : Bool // b = false → SmB l} => .bool b.1) (fun w => zR Tryz.func13 rfl rfl rfl) rfl rfl (fun w9 h => Calls.mono (great_ok l va vc w9 ((TL.row TL.dic).fr hD (h.fr _ zm0) (fun _ _ hx => hx)) hl hnl) fun e w' ⟨v, hv, ⟨b, hb, hs⟩, hx⟩ => ⟨v, hv, ⟨⟨b, hs⟩, hb⟩, hx⟩) (fun b => ?_)
  obtain ⟨b, hb⟩ := b; cases b
  · have hFB := FB.of hD (hb rfl); have hl12 := hFB.sm.1
    refine mB rfl ?_; refine zw rfl rfl rfl ?_; refine zm (v := str _) rfl ?_; refine zw rfl rfl rfl ?_; refine zg (fun _ => R_slen st9 rfl (by omega)) ?_; refine zw rfl rfl rfl ?_; refine jg rfl rfl ?_; refine jF rfl rfl ?_; refine yB ?_; refine zD rfl (fun h1 => ?_) (fun h1 => ?_)
    · refine yA ?_; refine jD Tryz.func8 (fun w h => head_ok w (hW.now zm0 h) (Nat.le_trans hng (h.fr _ zm0).size)) ?_; refine aB rfl ?_; refine yB ?_; refine ze ?_; refine zt (?_)
      refine zo (v := .bool _) rfl rfl rfl ?_; exact fun w' hw => ⟨rfl, hw.fr (w, No) zm0⟩
    refine zi ?_; refine zk ?_; refine yA ?_; refine mS rfl ?_; refine jD (v := .tuple #[str (writeP l).1, .int .i64 ((writeP l).2 : Nat)]) Tryz.func14 (fun w9 h => Write_ok l _ vc w9 ((TL.row TL.dic).fr hD (h.fr _ zm0) (fun _ _ hx => hx)) hFB.dis hFB.sz hFB.len (hW.now zm0 h) (Nat.le_trans hng (h.fr _ zm0).size)) ?_; refine zm rfl ?_; refine jx rfl rfl ?_; refine jx rfl rfl ?_; refine za (v := str _) rfl ?_; refine aI rfl ?_; refine yC ?_; refine mS rfl ?_
    refine jD (v := .tuple #[str (writeP l).1, .int .i64 ((writeP l).2 : Nat)]) Tryz.func17 (fun w9 h => rWrite_ok l _ vc w9 ((TL.row TL.dic).fr hD (h.fr _ zm0) (fun _ _ hx => hx)) hFB.dis hFB.p9 hFB.len) ?_; refine zm rfl ?_; refine jx rfl rfl ?_; refine jx rfl rfl ?_; refine za (v := str _) rfl ?_; refine aI rfl ?_; refine yC ?_; refine mS rfl ?_; refine zm (v := str _) rfl ?_
    rcases hfd : findD l nm with _ | dd
    · refine jD (v := .tuple #[.agg #[str [], .int .i64 0, .bool false, .bool false, .slice none 0 0], .bool false]) Tryz.func12 (fun w1 h => by have h9 := Find_ok l nm _ vc w1 ((TL.row TL.dic).fr hD (h.fr _ zm0) (fun _ _ hx => hx)) hFB.dis; rw [hfd] at h9; exact h9) ?_; refine zm rfl ?_; refine jx rfl rfl ?_; refine jx rfl rfl ?_; refine zA zr33 (fun t9b gt9b ut9b => ?_)
      refine jv 0 z33 rfl ?_; refine aB rfl ?_; refine yC ?_; refine mS rfl ?_; refine zm (v := str _) rfl ?_; refine jD (v := .tuple #[.agg #[str [], .int .i64 0, .bool false, .bool false, .slice none 0 0], .bool false]) Tryz.func18 (fun w1 h => by have h9 := rFind_ok l nm _ vc w1 ((TL.row TL.dic).fr hD (h.fr _ zm0) (fun _ _ hx => hx)) hl; rw [hfd] at h9; exact h9) ?_; refine zm rfl ?_; refine jx rfl rfl ?_; refine jx rfl rfl ?_; refine zA zr33 (fun t11b gt11b ut11b => ?_)
      refine jv 0 z33 rfl ?_; refine aB rfl ?_; refine yB ?_; refine zq ?_; refine yA ?_; refine zm (v := str _) rfl ?_; refine zm (v := str _) rfl ?_; refine zg (fun _ => R_sne rfl rfl) ?_; refine mB rfl ?_; refine zw rfl rfl (congrArg Value.bool (decide_eq_false (fun h => h rfl))) ?_
      refine mI rfl ?_; refine zw rfl rfl (congrArg Value.bool (decide_eq_false (fun h => h rfl))) ?_; refine mI rfl ?_
      refine zw rfl rfl (congrArg Value.bool (decide_eq_false (fun h => h rfl))) ?_; refine zg (fun _ => R_neN (a := (writeP l).2) (b := (writeP l).2) rfl rfl) ?_; refine jF (congrArg Value.bool (decide_eq_false (fun h => h rfl))) rfl ?_; refine mB rfl ?_; refine zw rfl rfl (congrArg Value.bool (decide_eq_false (fun h => h rfl))) ?_; refine mB rfl ?_; refine zw rfl rfl (congrArg Value.bool (decide_eq_false (fun h => h rfl))) ?_
      refine mB rfl ?_; refine zw rfl rfl (congrArg Value.bool (decide_eq_false (fun h => h rfl))) ?_; refine zg (fun _ => R_bne unb4 rfl rfl) ?_; refine jF (congrArg Value.bool (decide_eq_false (fun h => h rfl))) rfl ?_; refine mB rfl ?_; refine zw rfl rfl (congrArg Value.bool (by rw [beq_self_eq_true]; rfl)) ?_; refine zf fa33_0 rfl ?_; refine zw rfl rfl (congrArg Value.bool (by rw [beq_self_eq_true]; rfl)) ?_; refine jM 1 z9 rfl ?_; refine zw rfl rfl (congrArg Value.bool (by rw [beq_self_eq_true]; rfl)) ?_; refine zf fa33_0 rfl ?_
      refine zw rfl rfl (congrArg Value.bool (by rw [beq_self_eq_true]; rfl)) ?_; refine jM 0 z9 rfl ?_; refine zw rfl rfl (congrArg Value.bool (by rw [beq_self_eq_true]; rfl)) ?_; refine zg (fun _ => R_sne rfl rfl) ?_; refine jF (congrArg Value.bool (by rw [beq_self_eq_true]; rfl)) rfl ?_; refine mB rfl ?_; refine zw rfl rfl (congrArg Value.bool (decide_eq_false (fun h => h rfl))) ?_; refine zf fa33_1 rfl ?_; refine zw rfl rfl (congrArg Value.bool (decide_eq_false (fun h => h rfl))) ?_
      refine jM 1 z3 rfl ?_; refine zw rfl rfl (congrArg Value.bool (decide_eq_false (fun h => h rfl))) ?_; refine zf fa33_1 rfl ?_
      refine zw rfl rfl (congrArg Value.bool (decide_eq_false (fun h => h rfl))) ?_; refine jM 0 z3 rfl ?_; refine zw rfl rfl (congrArg Value.bool (decide_eq_false (fun h => h rfl))) ?_
      refine jn rfl rfl ?_; refine jF (congrArg Value.bool (decide_eq_false (fun h => h rfl))) rfl ?_
      refine mB rfl ?_; refine zw rfl rfl (congrArg Value.bool (decide_eq_false (fun h => h rfl))) ?_; refine zf fa33_4 rfl ?_; refine zw rfl rfl (congrArg Value.bool (decide_eq_false (fun h => h rfl))) ?_
      refine jM 1 z31 rfl ?_; refine zw rfl rfl (congrArg Value.bool (decide_eq_false (fun h => h rfl))) ?_; refine jj sl31 rfl ?_; refine zw rfl rfl (congrArg Value.bool (decide_eq_false (fun h => h rfl))) ?_; refine zf fa33_4 rfl ?_; refine zw rfl rfl (congrArg Value.bool (decide_eq_false (fun h => h rfl))) ?_
      refine jM 0 z31 rfl ?_; refine zw rfl rfl (congrArg Value.bool (decide_eq_false (fun h => h rfl))) ?_; refine jj sl31 rfl ?_; refine zw rfl rfl (congrArg Value.bool (decide_eq_false (fun h => h rfl))) ?_; refine jn rfl rfl ?_; refine jF (congrArg Value.bool (decide_eq_false (fun h => h rfl))) rfl ?_
      refine yB ?_; refine zG (congrArg Value.bool (decide_eq_false (fun h => h rfl))) ?_; refine zi ?_; refine zk ?_; refine zq ?_; refine yA ?_; refine mI rfl ?_; refine zg (fun _ => R_neN (a := ((writeP l).2)) (b := 0) rfl rfl) ?_; refine yB ?_; refine zD rfl (fun h4 => ?_) (fun h4 => ?_)
      · refine yA ?_; refine jD Tryz.func8 (fun w h => head_ok w (hW.now zm0 h) (Nat.le_trans hng (h.fr _ zm0).size)) ?_; refine aB rfl ?_; refine yB ?_; refine ze ?_; refine zt (?_)
        refine zo (v := .bool _) rfl rfl rfl ?_; exact fun w' hw => ⟨rfl, hw.fr (w, No) zm0⟩
      have hz : (writeP l).2 = 0 := (by omega)
      refine zi ?_; refine zk ?_; refine yA ?_; refine zm (v := str _) rfl ?_
      have hok := ok_of hz; have he1 := writeP_z hz; have hd20 := hFB.len2; obtain ⟨es, hes, hBk⟩ := back_law hFB.small hok; have hel : (es.map diD).length = l.length := (by rw [List.length_map]; exact backs_len hBk)
      refine w_telK (TL.row TL.dic) (es.map diD) (fun b => .tuple #[.slice b.1 (es.map diD).length b.2, .agg #[.int .i64 0, .int .i64 0]]) (s0 := w.heap.size) (fun w => RunE.to (zR Tryz.func9 rfl rfl rfl) (congrArg (fun z => #[str z]) he1)) rfl rfl (fun w1 h => (h.fr _ zm0).size) (fun w1 h => by have h9 := fRead_ok (dataT l) _ rfl w1 (Nat.le_trans hd20 (by decide)) (hW.now zm0 h) (Nat.le_trans hng (h.fr _ zm0).size); rw [hes] at h9; rw [show (es.map diD).length = es.length from List.length_map _]; exact h9) (fun xr bxr hKxr => ?_)
      obtain ⟨vxr, cxr⟩ := bxr
      have hRxr : rowM 5 diC xr.1 (Nb w.heap.size xr) (es.map diD) (vxr, cxr) := hKxr
      refine zm rfl ?_; refine jx rfl rfl ?_; refine jx rfl rfl ?_; refine zA zr27 (fun t14b gt14b ut14b => ?_)
      refine za (v := .slice _ _ _) rfl ?_; refine jv 0 z27 rfl ?_; refine yB ?_; refine zq ?_; refine yA ?_; refine zf fa27_0 rfl ?_; refine jM 0 z25 rfl ?_; refine jn rfl rfl ?_; refine mB rfl ?_; refine zw rfl rfl bE ?_; refine mS rfl ?_; refine zw rfl rfl bE ?_; refine jj sl24 rfl ?_; refine zw rfl rfl bE ?_; refine mS rfl ?_
      refine zw rfl rfl bE ?_; refine jj sl24 rfl ?_; refine zw rfl rfl bE ?_; refine zg (fun _ => R_neN (a := ((es.map diD).length)) (b := (l.length)) rfl rfl) ?_; refine jF bE rfl ?_; refine yB ?_; refine zD rfl (fun h6 => ?_) (fun h6 => ?_)
      · omega
      refine zi ?_; refine zk ?_; refine zq ?_; refine yA ?_; refine aI rfl ?_; refine yB ?_; refine zB ?_; refine c_st (B' := _) (L' := []) (fun w h => h.drop (List.nil_sublist _)) ?_; refine c_loop (fun m9 e B L => ∃ (i : Nat), e 0 = .slice va l.length vc ∧ e 13 = .slice vxr (es.map diD).length cxr ∧ e 15 = .int .i64 (i : Nat) ∧ B = [xr, (w, No)] ∧ L = [] ∧ i ≤ l.length ∧ m9 = l.length - i) _ ⟨0, rfl, rfl, rfl, rfl, rfl, Nat.zero_le _, rfl⟩ ?_
      rintro m9 e B L ⟨i, e0_1, e13_1, e15_1, rfl, rfl, hi, rfl⟩
      refine zq ?_; refine yA ?_; refine mI e15_1 ?_; refine mS e13_1 ?_; refine jj sl24 rfl ?_; refine zg (fun _ => R_ltN (a := i) (b := ((es.map diD).length)) rfl rfl) ?_; refine yB ?_; refine zD rfl (fun h7 => ?_) (fun h7 => ?_)
      · have hi2 : i < l.length := (by omega); obtain ⟨d7, hd7⟩ : ∃ d, l[i]? = some d := ⟨_, List.getElem?_eq_getElem hi2⟩; obtain ⟨cs7, hA7, ⟨an7, cn7⟩, rfl, hT7⟩ := hD.2 i d7 hd7; obtain ⟨q7, o7, hq7, hne7, hc7⟩ := hA7; dsimp only at hq7; subst hq7; have hm7 := List.mem_of_getElem? hd7; have hok7 := List.all_eq_true.1 ((okW_mem l [] hok).1 d7 hm7).2.1; have hsm7 := (hFB.sm.2 d7 hm7).2.2; have hn20 := (hFB.sm.2 d7 hm7).2.1; obtain ⟨e7, he7, hb1, hb2, hb3, hb4⟩ : ∃ e, es[i]? = some e ∧ Back e d7 := (backs_get hBk hd7); obtain ⟨csE, hAE, ⟨anE, cnE⟩, rfl, hTE⟩ := hRxr.2 i (diD e7) (by rw [List.getElem?_map, he7]; rfl); obtain ⟨qE, oE, hqE, hNE, hcE⟩ := hAE; dsimp only at hqE; subst hqE; have hE4l : (diD e7).nums.length = d7.nums.length := (by show (e7.nums.map rwR).length = _; rw [hb4, List.length_map, List.length_map]); have hE0 := (hcE 0 _ rfl).trans (congrArg (fun z => some (str z)) (show (diD e7).nm = d7.nm from hb1)); have hE2 := (hcE 2 _ rfl).trans (congrArg (fun z => some (Value.bool z)) (show (diD e7).list = d7.list from hb2)); have hE3 := (hcE 3 _ rfl).trans (congrArg (fun z => some (Value.bool z)) (show (diD e7).whole = true from hb3)); have hE4 := (hcE 4 _ rfl).trans (congrArg (fun z => some (Value.slice anE z cnE)) hE4l)
        refine zi ?_; refine zk ?_; refine zq ?_; refine zB ?_; refine zq ?_; refine zq ?_; refine c_heldS mixed ?_; refine zh (v := .slice _ _ _) 0 rfl (by kernel_rfl) rfl rfl (fun w h => h) (fun w h => R_move e13_1) ?_; refine zh (v := .int _ _) 1 rfl (by kernel_rfl) rfl rfl (fun w h => h) (fun w h => R_move e15_1) ?_; refine zh2 2 rfl rfl (fun w h => h) (fun w h => R_iaN (i := i) sl24 rfl rfl (by first | omega | decide | exact Nat.succ_pos _ | exact Nat.succ_lt_succ (Nat.succ_pos _))) ?_; refine zh2 3 rfl rfl (fun w h => h) (fun w h => R_fa fa33_0 rfl) ?_; refine zh2 4 rfl rfl (fun w h => h) (fun w h => R_ld1 z9 rfl (cel_old zm0 hE0 hNE.2.2 h)) ?_; refine zh (v := .slice _ _ _) 5 rfl (by kernel_rfl) rfl rfl (fun w h => h) (fun w h => R_move e0_1) ?_
        refine zh (v := .int _ _) 6 rfl (by kernel_rfl) rfl rfl (fun w h => h) (fun w h => R_move e15_1) ?_; refine zh2 7 rfl rfl (fun w h => h) (fun w h => R_iaN (i := i) sl24 rfl rfl (by first | omega | decide | exact Nat.succ_pos _ | exact Nat.succ_lt_succ (Nat.succ_pos _))) ?_; refine zh2 8 rfl rfl (fun w h => h) (fun w h => R_fa fa33_0 rfl) ?_; refine zh2 9 rfl rfl (fun w h => h) (fun w h => R_ld1 z9 rfl (cel_old zm1 (hc7 0 _ rfl) (fun x => x) h)) ?_; refine zh2 10 rfl rfl (fun w h => h) (fun w h => R_sne rfl rfl) ?_; refine zh (v := .bool _) 11 rfl (by kernel_rfl) rfl rfl (fun w h => h) (fun w h => R_move rfl) ?_
        refine h_takeG (v := .slice _ _ _) 12 rfl (by kernel_rfl) rfl rfl rfl (congrArg Value.bool (decide_eq_false (fun h => h rfl))) rfl (fun w h => h) (fun w h => R_move e13_1) ?_; refine h_takeG (v := .int _ _) 13 rfl (by kernel_rfl) rfl rfl rfl (congrArg Value.bool (decide_eq_false (fun h => h rfl))) rfl (fun w h => h) (fun w h => R_move e15_1) ?_; refine h_takeG 14 rfl (by kernel_rfl) rfl rfl rfl (congrArg Value.bool (decide_eq_false (fun h => h rfl))) rfl (fun w h => h) (fun w h => R_iaN (i := i) sl24 rfl rfl (by first | omega | decide | exact Nat.succ_pos _ | exact Nat.succ_lt_succ (Nat.succ_pos _))) ?_; refine h_takeG 15 rfl (by kernel_rfl) rfl rfl rfl (congrArg Value.bool (decide_eq_false (fun h => h rfl))) rfl (fun w h => h) (fun w h => R_fa fa33_2 rfl) ?_
        refine h_takeG 16 rfl (by kernel_rfl) rfl rfl rfl (congrArg Value.bool (decide_eq_false (fun h => h rfl))) rfl (fun w h => h) (fun w h => R_ld1 z4 rfl (cel_old zm0 hE2 hNE.2.2 h)) ?_; refine h_takeG (v := .slice _ _ _) 17 rfl (by kernel_rfl) rfl rfl rfl (congrArg Value.bool (decide_eq_false (fun h => h rfl))) rfl (fun w h => h) (fun w h => R_move e0_1) ?_; refine h_takeG (v := .int _ _) 18 rfl (by kernel_rfl) rfl rfl rfl (congrArg Value.bool (decide_eq_false (fun h => h rfl))) rfl (fun w h => h) (fun w h => R_move e15_1) ?_; refine h_takeG 19 rfl (by kernel_rfl) rfl rfl rfl (congrArg Value.bool (decide_eq_false (fun h => h rfl))) rfl (fun w h => h) (fun w h => R_iaN (i := i) sl24 rfl rfl (by first | omega | decide | exact Nat.succ_pos _ | exact Nat.succ_lt_succ (Nat.succ_pos _))) ?_
        refine h_takeG 20 rfl (by kernel_rfl) rfl rfl rfl (congrArg Value.bool (decide_eq_false (fun h => h rfl))) rfl (fun w h => h) (fun w h => R_fa fa33_2 rfl) ?_; refine h_takeG 21 rfl (by kernel_rfl) rfl rfl rfl (congrArg Value.bool (decide_eq_false (fun h => h rfl))) rfl (fun w h => h) (fun w h => R_ld1 z4 rfl (cel_old zm1 (hc7 2 _ rfl) (fun x => x) h)) ?_; refine h_takeG 22 rfl (by kernel_rfl) rfl rfl rfl (congrArg Value.bool (decide_eq_false (fun h => h rfl))) rfl (fun w h => h) (fun w h => R_bne unb4 rfl rfl) ?_; refine zh (v := .bool _) 23 rfl (by kernel_rfl) rfl rfl (fun w h => h) (fun w h => zF (congrArg Value.bool (decide_eq_false (fun h => h rfl))) rfl) ?_
        refine zh (v := .bool _) 24 rfl (by kernel_rfl) rfl rfl (fun w h => h) (fun w h => R_move rfl) ?_; refine h_takeG (v := .slice _ _ _) 25 rfl (by kernel_rfl) rfl rfl rfl (congrArg Value.bool (by rw [beq_self_eq_true]; rfl)) rfl (fun w h => h) (fun w h => R_move e13_1) ?_; refine h_takeG (v := .int _ _) 26 rfl (by kernel_rfl) rfl rfl rfl (congrArg Value.bool (by rw [beq_self_eq_true]; rfl)) rfl (fun w h => h) (fun w h => R_move e15_1) ?_; refine h_takeG 27 rfl (by kernel_rfl) rfl rfl rfl (congrArg Value.bool (by rw [beq_self_eq_true]; rfl)) rfl (fun w h => h) (fun w h => R_iaN (i := i) sl24 rfl rfl (by first | omega | decide | exact Nat.succ_pos _ | exact Nat.succ_lt_succ (Nat.succ_pos _))) ?_; refine h_takeG 28 rfl (by kernel_rfl) rfl rfl rfl (congrArg Value.bool (by rw [beq_self_eq_true]; rfl)) rfl (fun w h => h) (fun w h => R_fa fa33_3 rfl) ?_
        refine h_takeG 29 rfl (by kernel_rfl) rfl rfl rfl (congrArg Value.bool (by rw [beq_self_eq_true]; rfl)) rfl (fun w h => h) (fun w h => R_ld1 z4 rfl (cel_old zm0 hE3 hNE.2.2 h)) ?_; refine h_takeG 30 rfl (by kernel_rfl) rfl rfl rfl (congrArg Value.bool (by rw [beq_self_eq_true]; rfl)) rfl (fun w h => h) (fun w h => R_not rfl) ?_; refine zh (v := .bool _) 31 rfl (by kernel_rfl) rfl rfl (fun w h => h) (fun w h => zF (congrArg Value.bool (by rw [beq_self_eq_true]; rfl)) rfl) ?_; refine zh (v := .bool _) 32 rfl (by kernel_rfl) rfl rfl (fun w h => h) (fun w h => R_move rfl) ?_; refine h_takeG (v := .slice _ _ _) 33 rfl (by kernel_rfl) rfl rfl rfl rfl rfl (fun w h => h) (fun w h => R_move e13_1) ?_; refine h_takeG (v := .int _ _) 34 rfl (by kernel_rfl) rfl rfl rfl rfl rfl (fun w h => h) (fun w h => R_move e15_1) ?_
        refine h_takeG 35 rfl (by kernel_rfl) rfl rfl rfl rfl rfl (fun w h => h) (fun w h => R_iaN (i := i) sl24 rfl rfl (by first | omega | decide | exact Nat.succ_pos _ | exact Nat.succ_lt_succ (Nat.succ_pos _))) ?_; refine h_takeG 36 rfl (by kernel_rfl) rfl rfl rfl rfl rfl (fun w h => h) (fun w h => R_fa fa33_4 rfl) ?_; refine h_takeG 37 rfl (by kernel_rfl) rfl rfl rfl rfl rfl (fun w h => h) (fun w h => R_ld1 z31 rfl (cel_old zm0 hE4 hNE.2.2 h)) ?_; refine h_takeG 38 rfl (by kernel_rfl) rfl rfl rfl rfl rfl (fun w h => h) (fun w h => R_len sl31 rfl) ?_; refine h_takeG (v := .slice _ _ _) 39 rfl (by kernel_rfl) rfl rfl rfl rfl rfl (fun w h => h) (fun w h => R_move e0_1) ?_; refine h_takeG (v := .int _ _) 40 rfl (by kernel_rfl) rfl rfl rfl rfl rfl (fun w h => h) (fun w h => R_move e15_1) ?_
        refine h_takeG 41 rfl (by kernel_rfl) rfl rfl rfl rfl rfl (fun w h => h) (fun w h => R_iaN (i := i) sl24 rfl rfl (by first | omega | decide | exact Nat.succ_pos _ | exact Nat.succ_lt_succ (Nat.succ_pos _))) ?_; refine h_takeG 42 rfl (by kernel_rfl) rfl rfl rfl rfl rfl (fun w h => h) (fun w h => R_fa fa33_4 rfl) ?_; refine h_takeG 43 rfl (by kernel_rfl) rfl rfl rfl rfl rfl (fun w h => h) (fun w h => R_ld1 z31 rfl (cel_old zm1 (hc7 4 _ rfl) (fun x => x) h)) ?_; refine h_takeG 44 rfl (by kernel_rfl) rfl rfl rfl rfl rfl (fun w h => h) (fun w h => R_len sl31 rfl) ?_; refine h_takeG 45 rfl (by kernel_rfl) rfl rfl rfl rfl rfl (fun w h => h) (fun w h => R_ne rfl rfl) ?_; refine zh (v := .bool _) 46 rfl (by kernel_rfl) rfl rfl (fun w h => h) (fun w h => zF rfl rfl) ?_; refine zN2 (fun w h => h) ?_
        refine zk ?_; refine zG (congrArg Value.bool (decide_eq_false (fun h => h rfl))) ?_; refine zi ?_; refine zk ?_; refine yA ?_; refine aI rfl ?_; refine yB ?_; refine zB ?_; refine c_loop (fun m9 e B L => ∃ (k : Nat), e 0 = .slice (some ⟨q7, o7, none⟩) l.length vc ∧ e 13 = .slice (some ⟨qE, oE, none⟩) (es.map diD).length cxr ∧ e 15 = .int .i64 (i : Nat) ∧ e 16 = .int .i64 (k : Nat) ∧ B = [xr, (w, No)] ∧ L = [] ∧ k ≤ d7.nums.length ∧ m9 = d7.nums.length - k) _ ⟨0, e0_1, e13_1, e15_1, rfl, rfl, rfl, Nat.zero_le _, rfl⟩ ?_
        rintro m9 e B L ⟨k, e0_2, e13_2, e15_2, e16_2, rfl, rfl, hk, rfl⟩
        refine zq ?_; refine yA ?_; refine mI e16_2 ?_; refine mS e13_2 ?_; refine mI e15_2 ?_; refine zg (fun _ => R_iaN (i := i) sl24 rfl rfl (by first | omega | decide | exact Nat.succ_pos _ | exact Nat.succ_lt_succ (Nat.succ_pos _))) ?_; refine zf fa33_4 rfl ?_; refine zl (v := .slice anE d7.nums.length cnE) z31 rfl (fun w h => cel_old zm0 hE4 hNE.2.2 h) ?_; refine jj sl31 rfl ?_; refine zg (fun _ => R_ltN (a := k) (b := (d7.nums.length)) rfl rfl) ?_; refine yB ?_; refine zD rfl (fun h8 => ?_) (fun h8 => ?_)
        · have hk2 : k < d7.nums.length := (by omega); obtain ⟨xk, hxk⟩ : ∃ x, d7.nums[k]? = some x := ⟨_, List.getElem?_eq_getElem hk2⟩; have hxm := List.mem_of_getElem? hxk; obtain ⟨cs8, hA8, b8, rfl, hT8⟩ := hT7.2 k xk hxk; obtain ⟨q8, o8, hq8, hne8, hc8⟩ := hA8; dsimp only at hq8; subst hq8; obtain ⟨cs9, hA9, b9, rfl, hT9⟩ := (show rowM 3 rwC xr.1 (Nb w.heap.size xr) (e7.nums.map rwR) (anE, cnE) from hTE).2 k (rwR (xk.r.1, 1)) (by rw [hb4, List.map_map, List.getElem?_map, hxk]; rfl); obtain ⟨q9, o9, hq9, hne9, hc9⟩ := hA9; dsimp only at hq9; subst hq9
          refine zi ?_; refine zk ?_; refine zq ?_; refine zB ?_; refine zq ?_; refine c_heldS mixed ?_; refine zh (v := .slice _ _ _) 0 rfl (by kernel_rfl) rfl rfl (fun w h => h) (fun w h => R_move e13_2) ?_; refine zh (v := .int _ _) 1 rfl (by kernel_rfl) rfl rfl (fun w h => h) (fun w h => R_move e15_2) ?_; refine zh2 2 rfl rfl (fun w h => h) (fun w h => R_iaN (i := i) sl24 rfl rfl (by first | omega | decide | exact Nat.succ_pos _ | exact Nat.succ_lt_succ (Nat.succ_pos _))) ?_; refine zh2 3 rfl rfl (fun w h => h) (fun w h => R_fa fa33_4 rfl) ?_; refine zh2 4 rfl rfl (fun w h => h) (fun w h => R_ld1 z31 rfl (cel_old zm0 hE4 hNE.2.2 h)) ?_; refine zh (v := .int _ _) 5 rfl (by kernel_rfl) rfl rfl (fun w h => h) (fun w h => R_move e16_2) ?_
          refine zh2 6 rfl rfl (fun w h => h) (fun w h => R_iaN (i := k) sl31 rfl rfl (by first | omega | decide | exact Nat.succ_pos _ | exact Nat.succ_lt_succ (Nat.succ_pos _))) ?_; refine zh2 7 rfl rfl (fun w h => h) (fun w h => R_ldA (l := rwE (rwR (xk.r.1, 1)) b9) z46 rfl rfl (fun j v hj => cel_old zm0 (hc9 j v hj) hne9.2.2 h)) ?_; refine zh (v := .slice _ _ _) 8 rfl (by kernel_rfl) rfl rfl (fun w h => h) (fun w h => R_move e0_2) ?_; refine zh (v := .int _ _) 9 rfl (by kernel_rfl) rfl rfl (fun w h => h) (fun w h => R_move e15_2) ?_; refine zh2 10 rfl rfl (fun w h => h) (fun w h => R_iaN (i := i) sl24 rfl rfl (by first | omega | decide | exact Nat.succ_pos _ | exact Nat.succ_lt_succ (Nat.succ_pos _))) ?_; refine zh2 11 rfl rfl (fun w h => h) (fun w h => R_fa fa33_4 rfl) ?_
          refine zh2 12 rfl rfl (fun w h => h) (fun w h => R_ld1 z31 rfl (cel_old zm1 (hc7 4 _ rfl) (fun x => x) h)) ?_; refine zh (v := .int _ _) 13 rfl (by kernel_rfl) rfl rfl (fun w h => h) (fun w h => R_move e16_2) ?_; refine zh2 14 rfl rfl (fun w h => h) (fun w h => R_iaN (i := k) sl31 rfl rfl (by first | omega | decide | exact Nat.succ_pos _ | exact Nat.succ_lt_succ (Nat.succ_pos _))) ?_; refine zh2 15 rfl rfl (fun w h => h) (fun w h => R_ldA (l := rwE xk b8) z46 rfl rfl (fun j v hj => cel_old zm1 (hc8 j v hj) (fun x => x) h)) ?_; refine zH2 16 (fun w h => h) ?_
          refine o_pureW rfl (wn_none rfl) rfl (fun w => zR Tryz.func19 rfl rfl rfl) (fun w h => cmp_rw (hok7 xk hxm) (hsm7 xk hxm) (Kt.any (show Kt xr _ rwT (rwR (xk.r.1, 1)) b9 from hT9) TL.rwt zm0 h) (TL.rwt.fr hT8 (h.fr _ zm1) (fun _ _ hx => hx))) ?_; refine zh2 17 rfl rfl (fun w h => h) (fun w h => R_move rfl) ?_; refine zh2 18 rfl rfl (fun w h => h) (fun w h => R_extract rfl rfl) ?_; refine zh2 19 rfl rfl (fun w h => h) (fun w h => R_extract rfl rfl) ?_; refine zh (v := .int _ _) 20 rfl (by kernel_rfl) rfl rfl (fun w h => h) (fun w h => R_assign rfl) ?_; refine zh (v := .int _ _) 21 rfl (by kernel_rfl) rfl rfl (fun w h => h) (fun w h => R_assign rfl) ?_; refine zN2 (fun w h => h) ?_
          refine zk ?_; refine yA ?_; refine mI rfl ?_; refine jn rfl rfl ?_; refine mB rfl ?_; refine zw rfl rfl bE ?_; refine mI rfl ?_; refine zw rfl rfl bE ?_; refine jn rfl rfl ?_; refine jF bE rfl ?_; refine yB ?_; refine zG bE ?_; refine zi ?_; refine zO (zk ?_); refine zr ?_; refine mI e16_2 ?_; refine zg (fun _ => R_addN (n := k) (b := 1) rfl rfl (by omega)) ?_; refine aI rfl ?_; refine zn ?_
          exact k_again _ (by omega) ⟨k + 1, e0_2, e13_2, e15_2, rfl, rfl, rfl, by omega, rfl⟩
        refine zX ?_; refine zx (zx (b_here rfl (zO (zk ?_)))); refine zr ?_; refine mI e15_2 ?_; refine zg (fun _ => R_addN (n := i) (b := 1) rfl rfl (by omega)) ?_; refine aI rfl ?_; refine zn ?_; exact k_again _ (by omega) ⟨i + 1, e0_2, e13_2, rfl, rfl, rfl, by omega, rfl⟩
      refine zX ?_; refine zx (zx (b_here rfl (zk ?_))); refine yA ?_; refine jD Tryz.func8 (fun w h => head_ok w (hW.now zm1 h) (Nat.le_trans hng (h.fr _ zm1).size)) ?_; refine aB rfl ?_; refine yB ?_; refine ze ?_; refine zo (v := .bool _) rfl rfl rfl ?_; exact fun w' hw => ⟨rfl, hw.fr (w, No) zm1⟩
    refine w_callV (fun b : Option Addr × Nat => .tuple #[.agg (diE dd b).toArray, .bool true]) (fun w => zR Tryz.func12 rfl rfl rfl) rfl rfl (fun w1 h => by have h9 := Find_ok l nm _ vc w1 ((TL.row TL.dic).fr hD (h.fr _ zm0) (fun _ _ hx => hx)) hFB.dis; rw [hfd] at h9; exact Calls.mono h9 fun e w' ⟨v, hv, ⟨b, hb, _⟩, hx⟩ => ⟨v, hv, ⟨b, hb⟩, hx⟩) (fun bp => ?_)
    obtain ⟨ap, cp⟩ := bp
    refine zm rfl ?_; refine jx rfl rfl ?_; refine jx rfl rfl ?_; refine zA zr33 (fun t9b gt9b ut9b => ?_)
    refine jv 0 z33 rfl ?_; refine aB rfl ?_; refine yC ?_; refine mS rfl ?_; refine zm (v := str _) rfl ?_; refine w_callV (fun b : Option Addr × Nat => .tuple #[.agg (diE dd b).toArray, .bool true]) (fun w => zR Tryz.func18 rfl rfl rfl) rfl rfl (fun w1 h => by have h9 := rFind_ok l nm _ vc w1 ((TL.row TL.dic).fr hD (h.fr _ zm0) (fun _ _ hx => hx)) hl; rw [hfd] at h9; exact Calls.mono h9 fun e w' ⟨v, hv, ⟨b, hb⟩, hx⟩ => ⟨v, hv, ⟨b, hb⟩, hx⟩) (fun br => ?_)
    obtain ⟨ar, cr⟩ := br
    refine zm rfl ?_; refine jx rfl rfl ?_; refine jx rfl rfl ?_; refine zA zr33 (fun t11b gt11b ut11b => ?_)
    refine jv 0 z33 rfl ?_; refine aB rfl ?_; refine yB ?_; refine zq ?_; refine yA ?_; refine zm (v := str _) rfl ?_; refine zm (v := str _) rfl ?_; refine zg (fun _ => R_sne rfl rfl) ?_; refine mB rfl ?_; refine zw rfl rfl (congrArg Value.bool (decide_eq_false (fun h => h rfl))) ?_
    refine mI rfl ?_; refine zw rfl rfl (congrArg Value.bool (decide_eq_false (fun h => h rfl))) ?_; refine mI rfl ?_
    refine zw rfl rfl (congrArg Value.bool (decide_eq_false (fun h => h rfl))) ?_; refine zg (fun _ => R_neN (a := (writeP l).2) (b := (writeP l).2) rfl rfl) ?_; refine jF (congrArg Value.bool (decide_eq_false (fun h => h rfl))) rfl ?_; refine mB rfl ?_; refine zw rfl rfl (congrArg Value.bool (decide_eq_false (fun h => h rfl))) ?_; refine mB rfl ?_; refine zw rfl rfl (congrArg Value.bool (decide_eq_false (fun h => h rfl))) ?_
    refine mB rfl ?_; refine zw rfl rfl (congrArg Value.bool (decide_eq_false (fun h => h rfl))) ?_; refine zg (fun _ => R_bne unb4 rfl rfl) ?_; refine jF (congrArg Value.bool (decide_eq_false (fun h => h rfl))) rfl ?_; refine mB rfl ?_; refine zw rfl rfl (congrArg Value.bool (by rw [beq_self_eq_true]; rfl)) ?_; refine zf fa33_0 rfl ?_; refine zw rfl rfl (congrArg Value.bool (by rw [beq_self_eq_true]; rfl)) ?_; refine jM 1 z9 rfl ?_; refine zw rfl rfl (congrArg Value.bool (by rw [beq_self_eq_true]; rfl)) ?_; refine zf fa33_0 rfl ?_
    refine zw rfl rfl (congrArg Value.bool (by rw [beq_self_eq_true]; rfl)) ?_; refine jM 0 z9 rfl ?_; refine zw rfl rfl (congrArg Value.bool (by rw [beq_self_eq_true]; rfl)) ?_; refine zg (fun _ => R_sne rfl rfl) ?_; refine jF (congrArg Value.bool (by rw [beq_self_eq_true]; rfl)) rfl ?_; refine mB rfl ?_; refine zw rfl rfl (congrArg Value.bool (decide_eq_false (fun h => h rfl))) ?_; refine zf fa33_1 rfl ?_; refine zw rfl rfl (congrArg Value.bool (decide_eq_false (fun h => h rfl))) ?_
    refine jM 1 z3 rfl ?_; refine zw rfl rfl (congrArg Value.bool (decide_eq_false (fun h => h rfl))) ?_; refine zf fa33_1 rfl ?_
    refine zw rfl rfl (congrArg Value.bool (decide_eq_false (fun h => h rfl))) ?_; refine jM 0 z3 rfl ?_; refine zw rfl rfl (congrArg Value.bool (decide_eq_false (fun h => h rfl))) ?_
    refine jn rfl rfl ?_; refine jF (congrArg Value.bool (decide_eq_false (fun h => h rfl))) rfl ?_
    refine mB rfl ?_; refine zw rfl rfl (congrArg Value.bool (decide_eq_false (fun h => h rfl))) ?_; refine zf fa33_4 rfl ?_; refine zw rfl rfl (congrArg Value.bool (decide_eq_false (fun h => h rfl))) ?_
    refine jM 1 z31 rfl ?_; refine zw rfl rfl (congrArg Value.bool (decide_eq_false (fun h => h rfl))) ?_; refine jj sl31 rfl ?_; refine zw rfl rfl (congrArg Value.bool (decide_eq_false (fun h => h rfl))) ?_; refine zf fa33_4 rfl ?_; refine zw rfl rfl (congrArg Value.bool (decide_eq_false (fun h => h rfl))) ?_
    refine jM 0 z31 rfl ?_; refine zw rfl rfl (congrArg Value.bool (decide_eq_false (fun h => h rfl))) ?_; refine jj sl31 rfl ?_; refine zw rfl rfl (congrArg Value.bool (decide_eq_false (fun h => h rfl))) ?_; refine jn rfl rfl ?_; refine jF (congrArg Value.bool (decide_eq_false (fun h => h rfl))) rfl ?_
    refine yB ?_; refine zG (congrArg Value.bool (decide_eq_false (fun h => h rfl))) ?_; refine zi ?_; refine zk ?_; refine zq ?_; refine yA ?_; refine mI rfl ?_; refine zg (fun _ => R_neN (a := ((writeP l).2)) (b := 0) rfl rfl) ?_; refine yB ?_; refine zD rfl (fun h11 => ?_) (fun h11 => ?_)
    · refine yA ?_; refine jD Tryz.func8 (fun w h => head_ok w (hW.now zm0 h) (Nat.le_trans hng (h.fr _ zm0).size)) ?_; refine aB rfl ?_; refine yB ?_; refine ze ?_; refine zt (?_)
      refine zo (v := .bool _) rfl rfl rfl ?_; exact fun w' hw => ⟨rfl, hw.fr (w, No) zm0⟩
    have hz : (writeP l).2 = 0 := (by omega)
    refine zi ?_; refine zk ?_; refine yA ?_; refine zm (v := str _) rfl ?_
    have hok := ok_of hz; have he1 := writeP_z hz; have hd20 := hFB.len2; obtain ⟨es, hes, hBk⟩ := back_law hFB.small hok; have hel : (es.map diD).length = l.length := (by rw [List.length_map]; exact backs_len hBk)
    refine w_telK (TL.row TL.dic) (es.map diD) (fun b => .tuple #[.slice b.1 (es.map diD).length b.2, .agg #[.int .i64 0, .int .i64 0]]) (s0 := w.heap.size) (fun w => RunE.to (zR Tryz.func9 rfl rfl rfl) (congrArg (fun z => #[str z]) he1)) rfl rfl (fun w1 h => (h.fr _ zm0).size) (fun w1 h => by have h9 := fRead_ok (dataT l) _ rfl w1 (Nat.le_trans hd20 (by decide)) (hW.now zm0 h) (Nat.le_trans hng (h.fr _ zm0).size); rw [hes] at h9; rw [show (es.map diD).length = es.length from List.length_map _]; exact h9) (fun xr bxr hKxr => ?_)
    obtain ⟨vxr, cxr⟩ := bxr
    have hRxr : rowM 5 diC xr.1 (Nb w.heap.size xr) (es.map diD) (vxr, cxr) := hKxr
    refine zm rfl ?_; refine jx rfl rfl ?_; refine jx rfl rfl ?_; refine zA zr27 (fun t14b gt14b ut14b => ?_)
    refine za (v := .slice _ _ _) rfl ?_; refine jv 0 z27 rfl ?_; refine yB ?_; refine zq ?_; refine yA ?_; refine zf fa27_0 rfl ?_; refine jM 0 z25 rfl ?_; refine jn rfl rfl ?_; refine mB rfl ?_; refine zw rfl rfl bE ?_; refine mS rfl ?_; refine zw rfl rfl bE ?_; refine jj sl24 rfl ?_; refine zw rfl rfl bE ?_; refine mS rfl ?_
    refine zw rfl rfl bE ?_; refine jj sl24 rfl ?_; refine zw rfl rfl bE ?_; refine zg (fun _ => R_neN (a := ((es.map diD).length)) (b := (l.length)) rfl rfl) ?_; refine jF bE rfl ?_; refine yB ?_; refine zD rfl (fun h13 => ?_) (fun h13 => ?_)
    · omega
    refine zi ?_; refine zk ?_; refine zq ?_; refine yA ?_; refine aI rfl ?_; refine yB ?_; refine zB ?_; refine c_st (B' := _) (L' := []) (fun w h => h.drop (List.nil_sublist _)) ?_; refine c_loop (fun m9 e B L => ∃ (i : Nat), e 0 = .slice va l.length vc ∧ e 13 = .slice vxr (es.map diD).length cxr ∧ e 15 = .int .i64 (i : Nat) ∧ B = [xr, (w, No)] ∧ L = [] ∧ i ≤ l.length ∧ m9 = l.length - i) _ ⟨0, rfl, rfl, rfl, rfl, rfl, Nat.zero_le _, rfl⟩ ?_
    rintro m9 e B L ⟨i, e0_3, e13_3, e15_3, rfl, rfl, hi, rfl⟩
    refine zq ?_; refine yA ?_; refine mI e15_3 ?_; refine mS e13_3 ?_; refine jj sl24 rfl ?_; refine zg (fun _ => R_ltN (a := i) (b := ((es.map diD).length)) rfl rfl) ?_; refine yB ?_; refine zD rfl (fun h14 => ?_) (fun h14 => ?_)
    · have hi2 : i < l.length := (by omega); obtain ⟨d7, hd7⟩ : ∃ d, l[i]? = some d := ⟨_, List.getElem?_eq_getElem hi2⟩; obtain ⟨cs7, hA7, ⟨an7, cn7⟩, rfl, hT7⟩ := hD.2 i d7 hd7; obtain ⟨q7, o7, hq7, hne7, hc7⟩ := hA7; dsimp only at hq7; subst hq7; have hm7 := List.mem_of_getElem? hd7; have hok7 := List.all_eq_true.1 ((okW_mem l [] hok).1 d7 hm7).2.1; have hsm7 := (hFB.sm.2 d7 hm7).2.2; have hn20 := (hFB.sm.2 d7 hm7).2.1; obtain ⟨e7, he7, hb1, hb2, hb3, hb4⟩ : ∃ e, es[i]? = some e ∧ Back e d7 := (backs_get hBk hd7); obtain ⟨csE, hAE, ⟨anE, cnE⟩, rfl, hTE⟩ := hRxr.2 i (diD e7) (by rw [List.getElem?_map, he7]; rfl); obtain ⟨qE, oE, hqE, hNE, hcE⟩ := hAE; dsimp only at hqE; subst hqE; have hE4l : (diD e7).nums.length = d7.nums.length := (by show (e7.nums.map rwR).length = _; rw [hb4, List.length_map, List.length_map]); have hE0 := (hcE 0 _ rfl).trans (congrArg (fun z => some (str z)) (show (diD e7).nm = d7.nm from hb1)); have hE2 := (hcE 2 _ rfl).trans (congrArg (fun z => some (Value.bool z)) (show (diD e7).list = d7.list from hb2)); have hE3 := (hcE 3 _ rfl).trans (congrArg (fun z => some (Value.bool z)) (show (diD e7).whole = true from hb3)); have hE4 := (hcE 4 _ rfl).trans (congrArg (fun z => some (Value.slice anE z cnE)) hE4l)
      refine zi ?_; refine zk ?_; refine zq ?_; refine zB ?_; refine zq ?_; refine zq ?_; refine c_heldS mixed ?_; refine zh (v := .slice _ _ _) 0 rfl (by kernel_rfl) rfl rfl (fun w h => h) (fun w h => R_move e13_3) ?_; refine zh (v := .int _ _) 1 rfl (by kernel_rfl) rfl rfl (fun w h => h) (fun w h => R_move e15_3) ?_; refine zh2 2 rfl rfl (fun w h => h) (fun w h => R_iaN (i := i) sl24 rfl rfl (by first | omega | decide | exact Nat.succ_pos _ | exact Nat.succ_lt_succ (Nat.succ_pos _))) ?_; refine zh2 3 rfl rfl (fun w h => h) (fun w h => R_fa fa33_0 rfl) ?_; refine zh2 4 rfl rfl (fun w h => h) (fun w h => R_ld1 z9 rfl (cel_old zm0 hE0 hNE.2.2 h)) ?_; refine zh (v := .slice _ _ _) 5 rfl (by kernel_rfl) rfl rfl (fun w h => h) (fun w h => R_move e0_3) ?_
      refine zh (v := .int _ _) 6 rfl (by kernel_rfl) rfl rfl (fun w h => h) (fun w h => R_move e15_3) ?_; refine zh2 7 rfl rfl (fun w h => h) (fun w h => R_iaN (i := i) sl24 rfl rfl (by first | omega | decide | exact Nat.succ_pos _ | exact Nat.succ_lt_succ (Nat.succ_pos _))) ?_; refine zh2 8 rfl rfl (fun w h => h) (fun w h => R_fa fa33_0 rfl) ?_; refine zh2 9 rfl rfl (fun w h => h) (fun w h => R_ld1 z9 rfl (cel_old zm1 (hc7 0 _ rfl) (fun x => x) h)) ?_; refine zh2 10 rfl rfl (fun w h => h) (fun w h => R_sne rfl rfl) ?_; refine zh (v := .bool _) 11 rfl (by kernel_rfl) rfl rfl (fun w h => h) (fun w h => R_move rfl) ?_
      refine h_takeG (v := .slice _ _ _) 12 rfl (by kernel_rfl) rfl rfl rfl (congrArg Value.bool (decide_eq_false (fun h => h rfl))) rfl (fun w h => h) (fun w h => R_move e13_3) ?_; refine h_takeG (v := .int _ _) 13 rfl (by kernel_rfl) rfl rfl rfl (congrArg Value.bool (decide_eq_false (fun h => h rfl))) rfl (fun w h => h) (fun w h => R_move e15_3) ?_; refine h_takeG 14 rfl (by kernel_rfl) rfl rfl rfl (congrArg Value.bool (decide_eq_false (fun h => h rfl))) rfl (fun w h => h) (fun w h => R_iaN (i := i) sl24 rfl rfl (by first | omega | decide | exact Nat.succ_pos _ | exact Nat.succ_lt_succ (Nat.succ_pos _))) ?_; refine h_takeG 15 rfl (by kernel_rfl) rfl rfl rfl (congrArg Value.bool (decide_eq_false (fun h => h rfl))) rfl (fun w h => h) (fun w h => R_fa fa33_2 rfl) ?_
      refine h_takeG 16 rfl (by kernel_rfl) rfl rfl rfl (congrArg Value.bool (decide_eq_false (fun h => h rfl))) rfl (fun w h => h) (fun w h => R_ld1 z4 rfl (cel_old zm0 hE2 hNE.2.2 h)) ?_; refine h_takeG (v := .slice _ _ _) 17 rfl (by kernel_rfl) rfl rfl rfl (congrArg Value.bool (decide_eq_false (fun h => h rfl))) rfl (fun w h => h) (fun w h => R_move e0_3) ?_; refine h_takeG (v := .int _ _) 18 rfl (by kernel_rfl) rfl rfl rfl (congrArg Value.bool (decide_eq_false (fun h => h rfl))) rfl (fun w h => h) (fun w h => R_move e15_3) ?_; refine h_takeG 19 rfl (by kernel_rfl) rfl rfl rfl (congrArg Value.bool (decide_eq_false (fun h => h rfl))) rfl (fun w h => h) (fun w h => R_iaN (i := i) sl24 rfl rfl (by first | omega | decide | exact Nat.succ_pos _ | exact Nat.succ_lt_succ (Nat.succ_pos _))) ?_
      refine h_takeG 20 rfl (by kernel_rfl) rfl rfl rfl (congrArg Value.bool (decide_eq_false (fun h => h rfl))) rfl (fun w h => h) (fun w h => R_fa fa33_2 rfl) ?_; refine h_takeG 21 rfl (by kernel_rfl) rfl rfl rfl (congrArg Value.bool (decide_eq_false (fun h => h rfl))) rfl (fun w h => h) (fun w h => R_ld1 z4 rfl (cel_old zm1 (hc7 2 _ rfl) (fun x => x) h)) ?_; refine h_takeG 22 rfl (by kernel_rfl) rfl rfl rfl (congrArg Value.bool (decide_eq_false (fun h => h rfl))) rfl (fun w h => h) (fun w h => R_bne unb4 rfl rfl) ?_; refine zh (v := .bool _) 23 rfl (by kernel_rfl) rfl rfl (fun w h => h) (fun w h => zF (congrArg Value.bool (decide_eq_false (fun h => h rfl))) rfl) ?_
      refine zh (v := .bool _) 24 rfl (by kernel_rfl) rfl rfl (fun w h => h) (fun w h => R_move rfl) ?_; refine h_takeG (v := .slice _ _ _) 25 rfl (by kernel_rfl) rfl rfl rfl (congrArg Value.bool (by rw [beq_self_eq_true]; rfl)) rfl (fun w h => h) (fun w h => R_move e13_3) ?_; refine h_takeG (v := .int _ _) 26 rfl (by kernel_rfl) rfl rfl rfl (congrArg Value.bool (by rw [beq_self_eq_true]; rfl)) rfl (fun w h => h) (fun w h => R_move e15_3) ?_; refine h_takeG 27 rfl (by kernel_rfl) rfl rfl rfl (congrArg Value.bool (by rw [beq_self_eq_true]; rfl)) rfl (fun w h => h) (fun w h => R_iaN (i := i) sl24 rfl rfl (by first | omega | decide | exact Nat.succ_pos _ | exact Nat.succ_lt_succ (Nat.succ_pos _))) ?_; refine h_takeG 28 rfl (by kernel_rfl) rfl rfl rfl (congrArg Value.bool (by rw [beq_self_eq_true]; rfl)) rfl (fun w h => h) (fun w h => R_fa fa33_3 rfl) ?_
      refine h_takeG 29 rfl (by kernel_rfl) rfl rfl rfl (congrArg Value.bool (by rw [beq_self_eq_true]; rfl)) rfl (fun w h => h) (fun w h => R_ld1 z4 rfl (cel_old zm0 hE3 hNE.2.2 h)) ?_; refine h_takeG 30 rfl (by kernel_rfl) rfl rfl rfl (congrArg Value.bool (by rw [beq_self_eq_true]; rfl)) rfl (fun w h => h) (fun w h => R_not rfl) ?_; refine zh (v := .bool _) 31 rfl (by kernel_rfl) rfl rfl (fun w h => h) (fun w h => zF (congrArg Value.bool (by rw [beq_self_eq_true]; rfl)) rfl) ?_; refine zh (v := .bool _) 32 rfl (by kernel_rfl) rfl rfl (fun w h => h) (fun w h => R_move rfl) ?_; refine h_takeG (v := .slice _ _ _) 33 rfl (by kernel_rfl) rfl rfl rfl rfl rfl (fun w h => h) (fun w h => R_move e13_3) ?_; refine h_takeG (v := .int _ _) 34 rfl (by kernel_rfl) rfl rfl rfl rfl rfl (fun w h => h) (fun w h => R_move e15_3) ?_
      refine h_takeG 35 rfl (by kernel_rfl) rfl rfl rfl rfl rfl (fun w h => h) (fun w h => R_iaN (i := i) sl24 rfl rfl (by first | omega | decide | exact Nat.succ_pos _ | exact Nat.succ_lt_succ (Nat.succ_pos _))) ?_; refine h_takeG 36 rfl (by kernel_rfl) rfl rfl rfl rfl rfl (fun w h => h) (fun w h => R_fa fa33_4 rfl) ?_; refine h_takeG 37 rfl (by kernel_rfl) rfl rfl rfl rfl rfl (fun w h => h) (fun w h => R_ld1 z31 rfl (cel_old zm0 hE4 hNE.2.2 h)) ?_; refine h_takeG 38 rfl (by kernel_rfl) rfl rfl rfl rfl rfl (fun w h => h) (fun w h => R_len sl31 rfl) ?_; refine h_takeG (v := .slice _ _ _) 39 rfl (by kernel_rfl) rfl rfl rfl rfl rfl (fun w h => h) (fun w h => R_move e0_3) ?_; refine h_takeG (v := .int _ _) 40 rfl (by kernel_rfl) rfl rfl rfl rfl rfl (fun w h => h) (fun w h => R_move e15_3) ?_
      refine h_takeG 41 rfl (by kernel_rfl) rfl rfl rfl rfl rfl (fun w h => h) (fun w h => R_iaN (i := i) sl24 rfl rfl (by first | omega | decide | exact Nat.succ_pos _ | exact Nat.succ_lt_succ (Nat.succ_pos _))) ?_; refine h_takeG 42 rfl (by kernel_rfl) rfl rfl rfl rfl rfl (fun w h => h) (fun w h => R_fa fa33_4 rfl) ?_; refine h_takeG 43 rfl (by kernel_rfl) rfl rfl rfl rfl rfl (fun w h => h) (fun w h => R_ld1 z31 rfl (cel_old zm1 (hc7 4 _ rfl) (fun x => x) h)) ?_; refine h_takeG 44 rfl (by kernel_rfl) rfl rfl rfl rfl rfl (fun w h => h) (fun w h => R_len sl31 rfl) ?_; refine h_takeG 45 rfl (by kernel_rfl) rfl rfl rfl rfl rfl (fun w h => h) (fun w h => R_ne rfl rfl) ?_; refine zh (v := .bool _) 46 rfl (by kernel_rfl) rfl rfl (fun w h => h) (fun w h => zF rfl rfl) ?_; refine zN2 (fun w h => h) ?_
      refine zk ?_; refine zG (congrArg Value.bool (decide_eq_false (fun h => h rfl))) ?_; refine zi ?_; refine zk ?_; refine yA ?_; refine aI rfl ?_; refine yB ?_; refine zB ?_; refine c_loop (fun m9 e B L => ∃ (k : Nat), e 0 = .slice (some ⟨q7, o7, none⟩) l.length vc ∧ e 13 = .slice (some ⟨qE, oE, none⟩) (es.map diD).length cxr ∧ e 15 = .int .i64 (i : Nat) ∧ e 16 = .int .i64 (k : Nat) ∧ B = [xr, (w, No)] ∧ L = [] ∧ k ≤ d7.nums.length ∧ m9 = d7.nums.length - k) _ ⟨0, e0_3, e13_3, e15_3, rfl, rfl, rfl, Nat.zero_le _, rfl⟩ ?_
      rintro m9 e B L ⟨k, e0_4, e13_4, e15_4, e16_4, rfl, rfl, hk, rfl⟩
      refine zq ?_; refine yA ?_; refine mI e16_4 ?_; refine mS e13_4 ?_; refine mI e15_4 ?_; refine zg (fun _ => R_iaN (i := i) sl24 rfl rfl (by first | omega | decide | exact Nat.succ_pos _ | exact Nat.succ_lt_succ (Nat.succ_pos _))) ?_; refine zf fa33_4 rfl ?_; refine zl (v := .slice anE d7.nums.length cnE) z31 rfl (fun w h => cel_old zm0 hE4 hNE.2.2 h) ?_; refine jj sl31 rfl ?_; refine zg (fun _ => R_ltN (a := k) (b := (d7.nums.length)) rfl rfl) ?_; refine yB ?_; refine zD rfl (fun h15 => ?_) (fun h15 => ?_)
      · have hk2 : k < d7.nums.length := (by omega); obtain ⟨xk, hxk⟩ : ∃ x, d7.nums[k]? = some x := ⟨_, List.getElem?_eq_getElem hk2⟩; have hxm := List.mem_of_getElem? hxk; obtain ⟨cs8, hA8, b8, rfl, hT8⟩ := hT7.2 k xk hxk; obtain ⟨q8, o8, hq8, hne8, hc8⟩ := hA8; dsimp only at hq8; subst hq8; obtain ⟨cs9, hA9, b9, rfl, hT9⟩ := (show rowM 3 rwC xr.1 (Nb w.heap.size xr) (e7.nums.map rwR) (anE, cnE) from hTE).2 k (rwR (xk.r.1, 1)) (by rw [hb4, List.map_map, List.getElem?_map, hxk]; rfl); obtain ⟨q9, o9, hq9, hne9, hc9⟩ := hA9; dsimp only at hq9; subst hq9
        refine zi ?_; refine zk ?_; refine zq ?_; refine zB ?_; refine zq ?_; refine c_heldS mixed ?_; refine zh (v := .slice _ _ _) 0 rfl (by kernel_rfl) rfl rfl (fun w h => h) (fun w h => R_move e13_4) ?_; refine zh (v := .int _ _) 1 rfl (by kernel_rfl) rfl rfl (fun w h => h) (fun w h => R_move e15_4) ?_; refine zh2 2 rfl rfl (fun w h => h) (fun w h => R_iaN (i := i) sl24 rfl rfl (by first | omega | decide | exact Nat.succ_pos _ | exact Nat.succ_lt_succ (Nat.succ_pos _))) ?_; refine zh2 3 rfl rfl (fun w h => h) (fun w h => R_fa fa33_4 rfl) ?_; refine zh2 4 rfl rfl (fun w h => h) (fun w h => R_ld1 z31 rfl (cel_old zm0 hE4 hNE.2.2 h)) ?_; refine zh (v := .int _ _) 5 rfl (by kernel_rfl) rfl rfl (fun w h => h) (fun w h => R_move e16_4) ?_
        refine zh2 6 rfl rfl (fun w h => h) (fun w h => R_iaN (i := k) sl31 rfl rfl (by first | omega | decide | exact Nat.succ_pos _ | exact Nat.succ_lt_succ (Nat.succ_pos _))) ?_; refine zh2 7 rfl rfl (fun w h => h) (fun w h => R_ldA (l := rwE (rwR (xk.r.1, 1)) b9) z46 rfl rfl (fun j v hj => cel_old zm0 (hc9 j v hj) hne9.2.2 h)) ?_; refine zh (v := .slice _ _ _) 8 rfl (by kernel_rfl) rfl rfl (fun w h => h) (fun w h => R_move e0_4) ?_; refine zh (v := .int _ _) 9 rfl (by kernel_rfl) rfl rfl (fun w h => h) (fun w h => R_move e15_4) ?_; refine zh2 10 rfl rfl (fun w h => h) (fun w h => R_iaN (i := i) sl24 rfl rfl (by first | omega | decide | exact Nat.succ_pos _ | exact Nat.succ_lt_succ (Nat.succ_pos _))) ?_; refine zh2 11 rfl rfl (fun w h => h) (fun w h => R_fa fa33_4 rfl) ?_
        refine zh2 12 rfl rfl (fun w h => h) (fun w h => R_ld1 z31 rfl (cel_old zm1 (hc7 4 _ rfl) (fun x => x) h)) ?_; refine zh (v := .int _ _) 13 rfl (by kernel_rfl) rfl rfl (fun w h => h) (fun w h => R_move e16_4) ?_; refine zh2 14 rfl rfl (fun w h => h) (fun w h => R_iaN (i := k) sl31 rfl rfl (by first | omega | decide | exact Nat.succ_pos _ | exact Nat.succ_lt_succ (Nat.succ_pos _))) ?_; refine zh2 15 rfl rfl (fun w h => h) (fun w h => R_ldA (l := rwE xk b8) z46 rfl rfl (fun j v hj => cel_old zm1 (hc8 j v hj) (fun x => x) h)) ?_; refine zH2 16 (fun w h => h) ?_
        refine o_pureW rfl (wn_none rfl) rfl (fun w => zR Tryz.func19 rfl rfl rfl) (fun w h => cmp_rw (hok7 xk hxm) (hsm7 xk hxm) (Kt.any (show Kt xr _ rwT (rwR (xk.r.1, 1)) b9 from hT9) TL.rwt zm0 h) (TL.rwt.fr hT8 (h.fr _ zm1) (fun _ _ hx => hx))) ?_; refine zh2 17 rfl rfl (fun w h => h) (fun w h => R_move rfl) ?_; refine zh2 18 rfl rfl (fun w h => h) (fun w h => R_extract rfl rfl) ?_; refine zh2 19 rfl rfl (fun w h => h) (fun w h => R_extract rfl rfl) ?_; refine zh (v := .int _ _) 20 rfl (by kernel_rfl) rfl rfl (fun w h => h) (fun w h => R_assign rfl) ?_; refine zh (v := .int _ _) 21 rfl (by kernel_rfl) rfl rfl (fun w h => h) (fun w h => R_assign rfl) ?_; refine zN2 (fun w h => h) ?_
        refine zk ?_; refine yA ?_; refine mI rfl ?_; refine jn rfl rfl ?_; refine mB rfl ?_; refine zw rfl rfl bE ?_; refine mI rfl ?_; refine zw rfl rfl bE ?_; refine jn rfl rfl ?_; refine jF bE rfl ?_; refine yB ?_; refine zG bE ?_; refine zi ?_; refine zO (zk ?_); refine zr ?_; refine mI e16_4 ?_; refine zg (fun _ => R_addN (n := k) (b := 1) rfl rfl (by omega)) ?_; refine aI rfl ?_; refine zn ?_
        exact k_again _ (by omega) ⟨k + 1, e0_4, e13_4, e15_4, rfl, rfl, rfl, by omega, rfl⟩
      refine zX ?_; refine zx (zx (b_here rfl (zO (zk ?_)))); refine zr ?_; refine mI e15_4 ?_; refine zg (fun _ => R_addN (n := i) (b := 1) rfl rfl (by omega)) ?_; refine aI rfl ?_; refine zn ?_; exact k_again _ (by omega) ⟨i + 1, e0_4, e13_4, rfl, rfl, rfl, by omega, rfl⟩
    refine zX ?_; refine zx (zx (b_here rfl (zk ?_))); refine yA ?_; refine jD Tryz.func8 (fun w h => head_ok w (hW.now zm1 h) (Nat.le_trans hng (h.fr _ zm1).size)) ?_; refine aB rfl ?_; refine yB ?_; refine ze ?_; refine zo (v := .bool _) rfl rfl rfl ?_; exact fun w' hw => ⟨rfl, hw.fr (w, No) zm1⟩
  refine mB rfl ?_; (iterate 3 refine zs rfl rfl rfl ?_); refine jT rfl rfl ?_; refine yB ?_; refine zE rfl ?_; refine yA ?_; refine jD Tryz.func8 (fun w h => head_ok w (hW.now zm0 h) (Nat.le_trans hng (h.fr _ zm0).size)) ?_; refine aB rfl ?_; refine yB ?_; refine ze ?_; refine zt (?_)
  refine zo (v := .bool _) rfl rfl rfl ?_; exact fun w' hw => ⟨rfl, hw.fr (w, No) zm0⟩
end Go.Proofs.YtikdkendinnalaaGreatDoor
end
section
namespace Go.Sx
open Go.RowKit Go.Tree
theorem at_of {w : World} {base b o n k : Nat} {cs : List Value} (h : w.cells? base ((⟨b, o, none⟩ : Addr).add n) k = some cs) : At w (fun _ => True) (some ⟨b, o, none⟩) n cs := by
  obtain ⟨_, hl, hc⟩ := World.cells?_some h
  refine ⟨b, o, rfl, trivial, fun j v hj => ?_⟩
  have hj2 := (List.getElem?_eq_some_iff.1 hj).1
  have := hc j (by omega)
  rw [hj] at this
  rw [← this]
  congr 1
  unfold Addr.add
  by_cases h1 : n = 0 <;> by_cases h2 : j = 0 <;> simp [h1, h2, Nat.add_assoc]
theorem spot_of {w : World} {base k : Nat} {a : Addr} {cs : List Value} (hk : 0 < k) (h : w.cells? base (a.add 0) k = some cs) : a.spot = none := by
  obtain ⟨_, hl, hc⟩ := World.cells?_some h
  have h0 := hc 0 hk
  rw [List.getElem?_eq_getElem (by omega)] at h0
  simpa [Addr.add] using World.cell?_spot h0
theorem list_of {α : Type} {Q : Nat → α → Prop} : ∀ {n : Nat}, (∀ i, i < n → ∃ z, Q i z) → ∃ l : List α, l.length = n ∧ ∀ i z, l[i]? = some z → Q i z
  | 0, _ => ⟨[], rfl, fun i z h => by simp at h⟩
  | n + 1, h => by
    obtain ⟨l, hl, hq⟩ := list_of (n := n) (fun i hi => h i (by omega))
    obtain ⟨z, hz⟩ := h n (by omega)
    refine ⟨l ++ [z], by simp [hl], fun i y hy => ?_⟩
    by_cases hi : i < l.length
    · rw [List.getElem?_append_left hi] at hy
      exact hq i y hy
    · rw [List.getElem?_append_right (by omega)] at hy
      have h1 := (List.getElem?_eq_some_iff.1 hy).1
      have h2 : i = n := by simp at h1; omega
      subst h2
      rw [hl, Nat.sub_self] at hy
      obtain rfl : z = y := by simpa using hy
      exact hz
theorem len3 {α : Type} {l : List α} (h : l.length = 3) : ∃ a b c, l = [a, b, c] := by
  match l, h with
  | [a, b, c], _ => exact ⟨a, b, c, rfl⟩
end Go.Sx
end
section
namespace Go.Sx
open Go.RowKit Go.Num Go.Feed
open Go.ChangeShapes
section
variable {H : Type} {enc : TypeId × Value → H} {P : Program} {w : World} {sp : Nat → Bool} {hd : Bool}
theorem open_rows {α : Type} {R : α → List Value → Prop} {t e k fuel : Nat} {cs : List Value} {x : DataW H × List MemPlace}
    (ht : P.underlying t = some (.slice e)) (hk : P.cellsOf e = k) (hk0 : 0 < k) (h : DataW.trod enc P w 0 sp hd fuel t cs = some x)
    (ih : ∀ n cs y, DataW.trod enc P w 0 sp hd n e cs = some y → ∃ z, R z cs) :
    ∃ (l : List α) (a : Option Addr) (c : Nat), cs = [.slice a l.length c] ∧ l.length ≤ c ∧ c ≤ maxLen ∧ ∀ (i : Nat) z, l[i]? = some z → ∃ cs', At w (fun _ => True) a (i * k) cs' ∧ R z cs' := by
  rcases DataW.trod_slice ht h with ⟨rfl, rfl⟩ | ⟨a, len, cap, elems, rest, n, rfl, rfl, rfl, hb, hl, hm, hlen, hel, _, _⟩
  · exact ⟨[], none, 0, rfl, Nat.zero_le _, Nat.zero_le _, fun i z hz => by simp at hz⟩
  rw [hk] at hel
  obtain ⟨l, hll, hq⟩ := list_of (n := len) (Q := fun i z => ∃ cs', w.cells? 0 (a.add (i * k)) k = some cs' ∧ R z cs') (fun i hi => by
    have h1 := hel i hi
    rw [List.getElem?_eq_getElem (by omega)] at h1
    obtain ⟨cs', h2, h3⟩ := Option.bind_eq_some_iff.1 h1
    obtain ⟨z, h4⟩ := ih n cs' _ h3
    exact ⟨z, cs', h2, h4⟩)
  refine ⟨l, some a, cap, by rw [hll], by omega, hm, fun i z hz => ?_⟩
  have hi := (List.getElem?_eq_some_iff.1 hz).1
  have hs : a.spot = none := by
    obtain ⟨z0, hz0⟩ : ∃ z, l[0]? = some z := ⟨_, List.getElem?_eq_getElem (by omega)⟩
    obtain ⟨cs', h1, _⟩ := hq 0 z0 hz0
    rw [Nat.zero_mul] at h1
    exact spot_of hk0 h1
  obtain ⟨b, o, s⟩ := a
  simp only at hs
  subst hs
  obtain ⟨cs', h1, h3⟩ := hq i z hz
  exact ⟨cs', at_of h1, h3⟩
theorem open_rowM {α : Type} {M : World → (Nat → Prop) → α → List Value → Prop} {Q : α → Prop} {t e k fuel : Nat} {cs : List Value} {x : DataW H × List MemPlace}
    (ht : P.underlying t = some (.slice e)) (hk : P.cellsOf e = k) (hk0 : 0 < k) (h : DataW.trod enc P w 0 sp hd fuel t cs = some x)
    (ih : ∀ n cs y, DataW.trod enc P w 0 sp hd n e cs = some y → ∃ z, M w (fun _ => True) z cs ∧ Q z) :
    ∃ (l : List α) (a : Option Addr) (c : Nat), cs = [.slice a l.length c] ∧ l.length ≤ maxLen ∧ rowM k M w (fun _ => True) l (a, c) ∧ ∀ z ∈ l, Q z := by
  obtain ⟨l, a, c, h1, h2, h3, h4⟩ := open_rows (R := fun z cs => M w (fun _ => True) z cs ∧ Q z) ht hk hk0 h ih
  refine ⟨l, a, c, h1, Nat.le_trans h2 h3, ⟨h2, fun j e he => ?_⟩, fun z hz => ?_⟩
  · obtain ⟨cs', h5, h6⟩ := h4 j e he
    exact ⟨cs', h5, h6.1⟩
  obtain ⟨j, hj⟩ := List.getElem?_of_mem hz
  obtain ⟨_, _, h6⟩ := h4 j z hj
  exact h6.2
theorem open_lmb {t e fuel : Nat} {cs : List Value} {x : DataW H × List MemPlace} (ht : P.underlying t = some (.slice e)) (he : P.underlying e = some (.int .u64)) (hc : P.cellsOf e = 1) (h : DataW.trod enc P w 0 sp hd fuel t cs = some x) : ∃ (a : Option Addr) (k c n : Nat), cs = [.slice a k c] ∧ Nm w a k c n := by
  rcases open_ints ht he hc h with ⟨rfl, _⟩ | ⟨a, len, cap, zs, rfl, hb, hl, hm, hz, _, hcell, hw⟩
  · exact ⟨none, 0, 0, 0, rfl, Nm.nil _⟩
  have hlz : len ≤ zs.length := by rw [hz]; split <;> omega
  rcases Nat.eq_zero_or_pos len with h0 | h0
  · subst h0
    exact ⟨some a, 0, cap, 0, rfl, by exact ⟨Nat.one_pos, Nat.zero_le _, .inr (.inr rfl), fun j hj => by omega⟩⟩
  have hsp : a.spot = none := by simpa [Addr.add] using World.cell?_spot (hcell 0 (by omega))
  obtain ⟨b, o, s⟩ := a
  simp only at hsp
  subst hsp
  have hdg : Dig Go.Num.B ((zs.take len).map Int.toNat) := fun y hy => by
    obtain ⟨z, hz1, rfl⟩ := List.mem_map.1 hy
    have hwf := hw z (List.mem_of_mem_take hz1)
    simp only [Lit.wf, Bool.and_eq_true, decide_eq_true_eq] at hwf
    have e1 : IntKind.u64.min = 0 := by decide
    have e2 : IntKind.u64.max = 18446744073709551615 := by decide
    have hBv : Go.Num.B = 18446744073709551616 := rfl
    omega
  have hlen : ((zs.take len).map Int.toNat).length = len := by rw [List.length_map, List.length_take, Nat.min_eq_left hlz]
  refine ⟨some ⟨b, o, none⟩, len, cap, vl ((zs.take len).map Int.toNat), rfl, ?_, hl, .inr (.inl ⟨b, o, rfl⟩), fun j hj => ⟨b, o, rfl, ?_⟩⟩
  · have := vlb_lt hdg
    rwa [hlen] at this
  have hzj : zs[j]? = some zs[j] := List.getElem?_eq_getElem (by omega)
  have hg : ((zs.take len).map Int.toNat)[j]? = some zs[j].toNat := by rw [List.getElem?_map, List.getElem?_take, if_pos hj, hzj]; rfl
  have hwf := hw zs[j] (List.getElem_mem _)
  simp only [Lit.wf, Bool.and_eq_true, decide_eq_true_eq] at hwf
  have e1 : IntKind.u64.min = 0 := by decide
  have hc2 := hcell j (by omega)
  rw [List.getD_eq_getElem?_getD, hzj] at hc2
  have e3 : (⟨b, o, none⟩ : Addr).add j = ⟨b, o + j, none⟩ := by unfold Addr.add; split <;> simp_all
  rw [← e3, hc2, dg_vlb B_pos hdg hg, Int.toNat_of_nonneg (by omega)]; rfl
theorem Nm.toT {a : Option Addr} {k c n : Nat} (h : Nm w a k c n) : NmN w (fun _ => True) a k c n := ⟨h, fun _ _ _ _ _ => trivial⟩
end
theorem len2D {α : Type} {l : List α} (h : l.length = 2) : ∃ a b, l = [a, b] := by
  match l, h with
  | [a, b], _ => exact ⟨a, b, rfl⟩
theorem len5 {α : Type} {l : List α} (h : l.length = 5) : ∃ a b c d e, l = [a, b, c, d, e] := by
  match l, h with
  | [a, b, c, d, e], _ => exact ⟨a, b, c, d, e, rfl⟩
end Go.Sx
end
section
namespace Go.Proofs.YtikdkendinnalaaGreatDoor
open Go.RowKit Go.Sx
open Go.Tok Go.Tree Go.Prs Go.Feed Go.Num Go.ChangeShapes
theorem cel46 : Tryz.prog.cellsOf 46 = 3 := by kernel_rfl
theorem cel44 : Tryz.prog.cellsOf 44 = 2 := by kernel_rfl
theorem cel42 : Tryz.prog.cellsOf 42 = 1 := by kernel_rfl
theorem cel75 : Tryz.prog.cellsOf 75 = 1 := by kernel_rfl
theorem cel4 : Tryz.prog.cellsOf 4 = 1 := by kernel_rfl
theorem cel9 : Tryz.prog.cellsOf 9 = 1 := by kernel_rfl
theorem cel3 : Tryz.prog.cellsOf 3 = 1 := by kernel_rfl
theorem cel33 : Tryz.prog.cellsOf 33 = 5 := by kernel_rfl
theorem cel31 : Tryz.prog.cellsOf 31 = 1 := by kernel_rfl
section
variable {H : Type} {enc : TypeId × Value → H} {W : World} {sp : Nat → Bool} {hd : Bool}
theorem open_fr {fuel : Nat} {cs : List Value} {x : DataW H × List MemPlace} (h : DataW.trod enc Tryz.prog W 0 sp hd fuel 46 cs = some x) : ∃ z : Rw, rwC W (fun _ => True) z cs := by
 obtain ⟨xs, n, rfl, rfl, hl, hxl, hf⟩ := DataW.trod_struct Tryz.underlying46 h
 obtain ⟨c0, c1, c2, rfl⟩ := len3 (hl.trans cel46)
 obtain ⟨y0, y1, rfl⟩ := len2D (hxl.trans rfl)
 have h0 : DataW.trod enc Tryz.prog W 0 sp hd n 44 (([c0, c1, c2].drop 0).take (Tryz.prog.cellsOf 44)) = some y0 := hf 0 _ rfl
 have h1 : DataW.trod enc Tryz.prog W 0 sp hd n 42 (([c0, c1, c2].drop 2).take (Tryz.prog.cellsOf 42)) = some y1 := hf 1 _ rfl
 rw [cel44] at h0
 rw [cel42] at h1
 obtain ⟨a2, k2, r2, n2, e1, hN2⟩ := open_lmb Tryz.underlying42 Tryz.underlying75 cel75 h1
 obtain rfl : _ = _ := (List.cons.inj e1).1
 obtain ⟨zs, n3, e0, _, hl2, hxl2, hf2⟩ := DataW.trod_struct Tryz.underlying44 h0
 subst e0
 obtain ⟨u0, u1, rfl⟩ := len2D (hxl2.trans rfl)
 have k0 : DataW.trod enc Tryz.prog W 0 sp hd n3 4 (([c0, c1].drop 0).take (Tryz.prog.cellsOf 4)) = some u0 := hf2 0 _ rfl
 have k1 : DataW.trod enc Tryz.prog W 0 sp hd n3 42 (([c0, c1].drop 1).take (Tryz.prog.cellsOf 42)) = some u1 := hf2 1 _ rfl
 rw [cel4] at k0
 rw [cel42] at k1
 obtain ⟨s, e2, _⟩ := DataW.trod_bool Tryz.underlying4 k0
 obtain rfl : _ = _ := (List.cons.inj e2).1
 obtain ⟨a, k, r, m, e3, hN⟩ := open_lmb Tryz.underlying42 Tryz.underlying75 cel75 k1
 obtain rfl : _ = _ := (List.cons.inj e3).1
 exact ⟨⟨s, m, n2, k, k2⟩, ((a, r), (a2, r2)), rfl, hN.toT, hN2.toT⟩
theorem open_di {fuel : Nat} {cs : List Value} {x : DataW H × List MemPlace} (h : DataW.trod enc Tryz.prog W 0 sp hd fuel 33 cs = some x) : ∃ z : Di, diC W (fun _ => True) z cs ∧ (z.nums.length ≤ 9223372036854775807 ∧ z.nm.length ≤ 9223372036854775807) := by
 obtain ⟨xs, n, rfl, rfl, hl, hxl, hf⟩ := DataW.trod_struct Tryz.underlying33 h
 obtain ⟨c0, c1, c2, c3, c4, rfl⟩ := len5 (hl.trans cel33)
 obtain ⟨y0, y1, y2, y3, y4, rfl⟩ := len5 (hxl.trans rfl)
 have h0 : DataW.trod enc Tryz.prog W 0 sp hd n 9 (([c0, c1, c2, c3, c4].drop 0).take (Tryz.prog.cellsOf 9)) = some y0 := hf 0 _ rfl
 have h1 : DataW.trod enc Tryz.prog W 0 sp hd n 3 (([c0, c1, c2, c3, c4].drop 1).take (Tryz.prog.cellsOf 3)) = some y1 := hf 1 _ rfl
 have h2 : DataW.trod enc Tryz.prog W 0 sp hd n 4 (([c0, c1, c2, c3, c4].drop 2).take (Tryz.prog.cellsOf 4)) = some y2 := hf 2 _ rfl
 have h3 : DataW.trod enc Tryz.prog W 0 sp hd n 4 (([c0, c1, c2, c3, c4].drop 3).take (Tryz.prog.cellsOf 4)) = some y3 := hf 3 _ rfl
 have h4 : DataW.trod enc Tryz.prog W 0 sp hd n 31 (([c0, c1, c2, c3, c4].drop 4).take (Tryz.prog.cellsOf 31)) = some y4 := hf 4 _ rfl
 rw [cel9] at h0; rw [cel3] at h1; rw [cel4] at h2 h3; rw [cel31] at h4
 obtain ⟨s0, e0, _, w0⟩ := DataW.trod_string Tryz.underlying9 h0
 obtain rfl : _ = _ := (List.cons.inj e0).1
 obtain ⟨m, e1, _, _⟩ := DataW.trod_int Tryz.underlying3 h1
 obtain rfl : _ = _ := (List.cons.inj e1).1
 obtain ⟨q2, e2, _⟩ := DataW.trod_bool Tryz.underlying4 h2
 obtain rfl : _ = _ := (List.cons.inj e2).1
 obtain ⟨q3, e3, _⟩ := DataW.trod_bool Tryz.underlying4 h3
 obtain rfl : _ = _ := (List.cons.inj e3).1
 obtain ⟨l, a, r, e4, hll, hR, _⟩ := open_rowM (M := rwC) (Q := fun _ => True) Tryz.underlying31 cel46 (by decide) h4 (fun n cs y hy => by obtain ⟨z, hz⟩ := open_fr hy; exact ⟨z, hz, trivial⟩)
 obtain rfl : _ = _ := (List.cons.inj e4).1
 refine ⟨⟨s0.data.toList, m, q2, q3, l⟩, ⟨(a, r), by simp [diE, str], hR⟩, hll, ?_⟩
 have := w0; unfold maxLen at this; simp; omega
theorem open_dis {fuel : Nat} {cs : List Value} {x : DataW H × List MemPlace} (h : DataW.trod enc Tryz.prog W 0 sp hd fuel 24 cs = some x) : ∃ (l : List Di) (a : Option Addr) (c : Nat), cs = [.slice a l.length c] ∧ l.length ≤ 9223372036854775807 ∧ disV W (fun _ => True) l (a, c) ∧ ∀ d ∈ l, d.nums.length ≤ 9223372036854775807 ∧ d.nm.length ≤ 9223372036854775807 :=
 open_rowM (M := diC) Tryz.underlying24 cel33 (by decide) h (fun _ _ _ hy => open_di hy)
end
end Go.Proofs.YtikdkendinnalaaGreatDoor
end
section
namespace Go.Sx
theorem handed_and_shaped {H : Type} {enc : TypeId × Value → H} {a : Assume} {C : Checked} {os : Os} {f : FuncId} {fn : Func} {s : ChangeSpec} {conds : List PathCond} {apart fresh handsOn again : Bool} {X : World → Array Value → Prop}
    (hX : ∀ (w w' : World) (args : Array Value), w.heap = w'.heap → X w args → X w' args)
    (own : ownKnob C.prog.godebug = none) (started : os.Started) (noInit : C.prog.inits.idxOf? f = none) (hfn : C.prog.funcs[f]? = some fn)
    (witness : ∃ (w : World) (tape : Tape) (i : Input), w.os = os ∧ (w.forCall tape i).Shaped C.prog ∧ i.vars = [] ∧ Input.okWide C.prog (w.forCall tape i) .any w.heap.size f i ∧
      ((s.pre enc C.prog fn conds apart (w.forCall tape i).memory i.args ∧ X (w.forCall tape i).memory i.args) ∧ sizedMet enc C.prog fn (OpenSpec.ofChange s) apart (w.forCall tape i).memory i.args) ∧ a.holds C.prog (lone (Frame.enter C.prog f i.args .normal) [] (w.forCall tape i)))
    (contract : ∀ (W : World) (base : Nat) (args : Array Value) (ds gs : List (DataW H)) (before : List MemPlace),
      (∀ (j : Nat) t v, fn.params[j]? = some t → args[j]? = some v → Value.okWide C.prog W .any base t v) →
      DataW.Whole enc C.prog fn.params.toList s.vars apart W args.toList ds gs before →
      X W args → W.ShapedOpen C.prog →
      Calls C.prog f args W fun e W' => ∃ v, e = .returned v ∧ s.post enc C.prog fn apart fresh handsOn again W args v W') :
    ReturnsInHanded a C os f .any (fun w args => (s.pre enc C.prog fn conds apart w args ∧ X w args) ∧ sizedMet enc C.prog fn (OpenSpec.ofChange s) apart w args) (s.post enc C.prog fn apart fresh handsOn again) := by
  refine returnsInHanded_of_calls own started noInit witness ?_
  intro w tape i _ hsh _ hok hpre hholds
  obtain ⟨_, _, _, fn', hfn', _, _, _, _, hval⟩ := hok
  have e : fn' = fn := Option.some.inj (hfn'.symm.trans hfn)
  subst e
  obtain ⟨⟨⟨ds, gs, before, hw, hc⟩, hx⟩, hz⟩ := hpre
  have hw' := DataW.Whole.of_heap (w' := w.forCall tape i) (by rfl) hw
  refine (contract (w.forCall tape i) w.heap.size i.args ds gs before hval hw' (hX _ _ _ (by rfl) hx) hsh).mono fun e W' ⟨v, he, hp⟩ => ?_
  subst he
  exact ChangeSpec.post_blind hp
end Go.Sx
end
section
namespace Go.Proofs.YtikdkendinnalaaGreatDoor
open Go.ChangeShapes Go.WideShapes Go.ChangeAt Go.RowKit Go.Sx
open Go.ChangeMaps (open_string)
theorem own : ownKnob Tryz.prog.godebug = none := by kernel_rfl
theorem below_ext {w w' : World} (h : Ext w w') : Below w.heap.size w w' := ⟨h.os, h.tape, h.output, h.size, fun k hk => h.blk k hk (fun x => x)⟩
section
variable {H : Type} {enc : TypeId × Value → H} {P : Program}
theorem post_ext2 {f : Func} {s : ChangeSpec} {apart fresh handsOn : Bool} {W W' : World} {args : Array Value} {v : Value} {ds gs : List (DataW H)} {before pa pv : List MemPlace}
    (hW : DataW.Whole enc P f.params.toList s.vars apart W args.toList ds gs before)
    (hres : ∀ (b : Nat) (sp : Nat → Bool) (hd : Bool), DataW.TrodAll enc P W' b sp hd f.resultTypes.toList (v.resultList f.resultTypes.size) (s.fn H (ds ++ gs)).results [])
    (hargs : DataW.TrodAll enc P W' 0 (fun b => decide (b < W.heap.size)) true f.params.toList args.toList (s.fn H (ds ++ gs)).args pa)
    (hvars : ∀ sp : Nat → Bool, (∀ p ∈ before, sp p.block = true) → DataW.TrodVars enc P W' sp s.vars (s.fn H (ds ++ gs)).vars pv)
    (hps : before = pa ++ pv) (hb : Below W.heap.size W W') : s.post enc P f apart fresh handsOn false W args v W' := by
  have hold : ∀ p ∈ before, (fun b => decide (b < W.heap.size)) p.block = true := fun p hp => by simpa using hW.lt p hp
  exact ⟨ds, gs, before, [], pa, pv, hW, hres _ _ _, hargs, hvars _ hold, hb.frame _, fun h => by cases h⟩
end
theorem laidB : laidOutB Tryz.prog = true := by kernel_rfl
theorem door_met (os : Os) (args : Array Value) : laidMetH Tryz.prog Rows.feedWritesRow.laid ((World.doorLaid Tryz.prog 400 os).forCall (fun _ _ => 0) ⟨#[], args, []⟩).memory :=
  laidMetH_of_parts3 (fuel := 8) (laidMet_of_run' 8 (by kernel_rfl) (by kernel_rfl)) (by kernel_rfl) (by kernel_rfl)
theorem tb_of_laid {W : World} (h : laidMetH Tryz.prog Rows.feedWritesRow.laid W) : Tb W := by
  rw [MakeChecks.laidMetH_plain _ _ _ (by kernel_rfl)] at h
  exact Tb.of (Lib.tabIs_of_head (g := 2) (t := 195) (e := 5) (n := 256) (rest := []) (by kernel_rfl) (by kernel_rfl) Tryz.underlying195 Tryz.underlying5 (by kernel_rfl) (by kernel_rfl) h.tail.tail.tail.tail.tail.tail)
theorem size_of_shaped {P : Program} {w : World} {g : Nat} (h : w.ShapedOpen P) (hg : g < P.globals.size) (h0 : (((begin P (fun _ _ => 0) default).world.heap[g]?).bind Obj.row?).isSome = true) : g < w.heap.size := by
  obtain ⟨⟨zero, t⟩, h1⟩ := Option.isSome_iff_exists.1 h0
  obtain ⟨cs, hh, _⟩ := h.1 g zero t hg h1
  exact (Array.getElem?_eq_some_iff.1 hh).1
theorem feedWrites_lifted (os : Os) (started : os.Started) (H : Type) (enc : TypeId × Value → H) :
    ReturnsInHanded {} Tryz.checked os 6 .any (fun w args => (Rows.feedWritesSpec.pre enc Tryz.prog Tryz.f6 [] false w args ∧ laidMetH Tryz.prog Rows.feedWritesRow.laid w) ∧ sizedMet enc Tryz.prog Tryz.f6 (OpenSpec.ofChange Rows.feedWritesSpec) false w args)
      (Rows.feedWritesSpec.post enc Tryz.prog Tryz.f6 false true false false) := by
  refine handed_and_shaped (C := Tryz.checked) (X := fun w _ => laidMetH Tryz.prog Rows.feedWritesRow.laid w) (fun _ _ _ hh h => h.of_heap hh) own started (by kernel_rfl) Tryz.func6
    (ChangeSpec.witness_shaped (enc := enc) (C := Tryz.checked) (os := os) (X := fun w _ => laidMetH Tryz.prog Rows.feedWritesRow.laid w) false (World.doorLaid Tryz.prog 400 os) #[.slice none 0 0, .string ⟨#[]⟩] 8 rfl (World.shaped_of_RefB (by kernel_rfl) (by kernel_rfl)) (by kernel_rfl) (by kernel_rfl) (by kernel_rfl) (door_met os _)) ?_
  intro W base args ds gs before hval0 hW hL hsh
  have hval : ∀ (j : Nat) t v, Tryz.f6.params[j]? = some t → args[j]? = some v → Value.okWide Tryz.prog W .any base t v := hval0
  have hW' := hW
  have hlt : ∀ y ∈ before, y.block < W.heap.size := fun y hy => by simpa using hW'.lt y hy
  obtain ⟨p, q, hA0, hV, rfl, _, _⟩ := hW
  have hA : DataW.TrodAll enc Tryz.prog W 0 (fun _ => true) true Tryz.f6.params.toList args.toList ds p := hA0
  rw [Tryz.params6] at hA hval
  obtain ⟨v0, v1, d0, d1, p0, p1, rfl, rfl, rfl, h0, h1⟩ := trodAll_two hA
  obtain ⟨rfl, rfl⟩ := trodVars_none hV
  have hk0 := h0
  obtain ⟨f0, ht0⟩ := h0
  obtain ⟨x0, a0, c0, e0, hl0, hD0, hn0⟩ := open_dis ht0
  obtain ⟨va0, vn0, vm0, ha0⟩ := Go.WideShapes.okWide_slice Tryz.underlying24 (hval 0 24 v0 rfl rfl)
  have ev0 : v0 = .slice a0 x0.length c0 := by rw [ha0] at e0 ⊢; simpa [Value.cells] using e0
  clear ha0
  subst ev0
  obtain ⟨x1, rfl, rfl, rfl, wx1⟩ := open_string Tryz.underlying9 (hval 1 9 v1 rfl rfl) h1
  have ht := tb_of_laid hL
  clear hA0 hval0
  simp only [List.append_nil] at hW' hlt
  refine Calls.mono (writes14_walk x0 x1.data.toList a0 c0 W hD0 hl0 hn0 (by have := wx1; unfold maxLen at this; simp; omega) ⟨ht, ht.lt, cell_of_shapedOpen_int hsh (zero := #[.int .i64 0]) (g := 3) (t := 3) (by decide) (by kernel_rfl) rfl (by kernel_rfl) (by kernel_rfl) Tryz.underlying3⟩ (size_of_shaped hsh (g := 10) (by decide) (by kernel_rfl))) fun e W' ⟨v, he, hv, hx⟩ => ?_
  subst he; subst hv
  exact ⟨_, rfl, post_ext2 (pv := []) hW' (fun _ _ _ => trodAll_mk1 (shut_bool Tryz.underlying4 _)) (trodAll_mk2 (Below.trod laidB (by kernel_rfl) (of_decide_eq_true (by kernel_rfl)) hk0 (below_ext hx) (fun y hy => hlt y (by simp [hy]))) (ChangeMaps.shut_string Tryz.underlying9 wx1)) (fun _ _ => rfl) (by simp) (below_ext hx)⟩
theorem feedWrites_holds : Rows.FeedWritesSaid :=
  OpenClaim.holds_of_wide 6 Tryz.f6 rfl rfl rfl rfl rfl rfl rfl ⟨rfl, rfl, rfl, rfl, rfl⟩ rfl rfl rfl rfl rfl (by kernel_rfl) Tryz.func6 (by kernel_rfl)
    (of_decide_eq_true (by kernel_rfl)) (by unfold Func.isWrapper; first | (rw [if_pos (by decide +kernel)]; kernel_rfl) | (rw [if_neg (by decide +kernel)]; exact ⟨rfl, rfl⟩))
    (fun os started H enc _ => feedWrites_lifted os started H enc)
end Go.Proofs.YtikdkendinnalaaGreatDoor
end
section
namespace Go.Proofs.YtikdkendinnalaaGreatDoor
open Go
theorem feedWrites_card : Rows.FeedWritesCardSaid :=
  Claim7.holds_tied_plain_at .later [] [.data, .data, .data, .sentinel, .sentinel, .listed, .data] true (true, "842466c98ea963c4a55eba32da679b0dc1f92c4c9876d2b292df2662035746fb") true
    feedWrites_holds (fun _ h => by cases h) (by kernel_rfl) (fun _ h => by cases h) feedWrites_row_tie rfl ⟨rfl, rfl⟩ (by kernel_rfl) rfl
    (fun f fn hf hfn => by
      obtain rfl : f = 6 := Option.some.inj ((show Tryz.prog.funcNamed "stepstone/stepstonelaw14.FeedWrites" = some 6 by kernel_rfl).symm.trans hf) |>.symm
      obtain rfl : fn = Tryz.f6 := (Option.some.inj (Tryz.func6.symm.trans hfn)).symm
      exact ⟨by kernel_rfl, fun j t ht => by
        rw [Tryz.params6] at ht
        rcases j with _ | _ | j
        · obtain rfl : t = 24 := by simpa using ht.symm
          exact (show Tryz.prog.wantsStandIn 24 = false by kernel_rfl)
        · obtain rfl : t = 9 := by simpa using ht.symm
          exact (show Tryz.prog.wantsStandIn 9 = false by kernel_rfl)
        simp at ht⟩)
    (by kernel_rfl)
end Go.Proofs.YtikdkendinnalaaGreatDoor
end
