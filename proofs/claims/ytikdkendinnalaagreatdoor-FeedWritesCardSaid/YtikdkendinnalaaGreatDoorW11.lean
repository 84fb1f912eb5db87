/- Layer 14, FeedWrites: that Write and Find tell what the document says, and that what is written is read as the same data again. Part 11 of 14. -/
import Derived.Test.YtikdkendinnalaaGreatDoorW10
set_option maxRecDepth 100000
set_option maxHeartbeats 16000000
section
namespace Go.Proofs.YtikdkendinnalaaGreatDoor
open Go.RowKit Go.Sx
open Go.Tok Go.Tree Go.Prs Go.Feed Go.Num
abbrev seenN (ns : List Str) : List (List UInt8 × Value) := ns.map fun n => (n, Value.int .i64 1)
theorem seenN_look (ns : List Str) (s : Str) : ((seenN ns).lookup s).getD (.int .i64 0) = .int .i64 (if ns.contains s = true then 1 else 0) := by
  induction ns with
  | nil => rfl
  | cons n ns ih =>
    show (List.lookup s ((n, Value.int .i64 1) :: seenN ns)).getD (.int .i64 0) = _
    rw [List.lookup_cons, List.contains_cons]
    by_cases h : s = n
    · rw [beq_iff_eq.2 h]; rfl
    · rw [beq_false_of_ne h, Bool.false_or]; exact ih
theorem seenN_none {ns : List Str} {s : Str} (h : ns.contains s = false) : ((seenN ns).lookup s).isNone = true := by
  induction ns with
  | nil => rfl
  | cons n ns ih =>
    rw [List.contains_cons, Bool.or_eq_false_iff] at h
    show (List.lookup s ((n, Value.int .i64 1) :: seenN ns)).isNone = true
    rw [List.lookup_cons, h.1]
    exact ih h.2
def longT (l : List Di) (i : Nat) : Bool := decide (1000 < l.length) || (l.take i).any fun d => decide (1000 < d.nums.length)
theorem longT_succ {l : List Di} {i : Nat} {d : Di} (hd : l[i]? = some d) : longT l (i + 1) = (longT l i || decide (1000 < d.nums.length)) := by
  obtain ⟨hi, rfl⟩ := List.getElem?_eq_some_iff.1 hd
  unfold longT
  rw [List.take_succ_eq_append_getElem hi, List.any_append, List.any_cons, List.any_nil, Bool.or_false, Bool.or_assoc]
theorem longT_all (l : List Di) : longT l l.length = longW l := by unfold longT longW; rw [List.take_length]
theorem okN_take {d : Di} {k : Nat} {x : Rw} (hx : d.nums[k]? = some x) : (d.nums.take (k + 1)).all Rw.ok = ((d.nums.take k).all Rw.ok && x.ok) := by
  obtain ⟨hi, rfl⟩ := List.getElem?_eq_some_iff.1 hx
  rw [List.take_succ_eq_append_getElem hi, List.all_append, List.all_cons, List.all_nil, Bool.and_true]
theorem dataT_take {l : List Di} {i : Nat} {d : Di} (hd : l[i]? = some d) : dataT (l.take (i + 1)) = dataT (l.take i) ++ datT d := by
  obtain ⟨hi, rfl⟩ := List.getElem?_eq_some_iff.1 hd
  unfold dataT
  rw [List.take_succ_eq_append_getElem hi, List.flatMap_append, List.flatMap_cons, List.flatMap_nil, List.append_nil]
theorem dataT_le (l : List Di) (i : Nat) : (dataT (l.take i)).length ≤ (dataT l).length := by
  have h := congrArg (fun z => (dataT z).length) (List.take_append_drop i l)
  unfold dataT at *
  rw [List.flatMap_append, List.length_append] at h
  omega
theorem datT_len (d : Di) : (datT d).length = d.nm.length + (valT d).length + 3 := by
  unfold datT; simp only [List.length_append, List.length_cons, List.length_nil]; omega
theorem valT_len (d : Di) : (joinC (d.nums.map fun x => Lib.itoa x.r.1)).length ≤ (valT d).length := by
  unfold valT; split
  · simp only [List.length_append, List.length_cons, List.length_nil]; omega
  exact Nat.le_refl _
theorem writeP_ok {l : List Di} (h : okW [] l = true) (h2 : longW l = false) : writeP l = (dataT l, 0) := by unfold writeP; rw [if_pos h, if_neg (by rw [h2]; decide)]
theorem writeP_long {l : List Di} (h : okW [] l = true) (h2 : longW l = true) : writeP l = ([], 6) := by unfold writeP; rw [if_pos h, if_pos h2]
theorem okN_bad {d : Di} {x : Rw} (hx : x ∈ d.nums) (h : x.ok = false) : okN d = false := by
  unfold okN
  rw [Bool.eq_false_iff]
  intro h8
  have := List.all_eq_true.1 h8 x hx
  rw [h] at this; cases this
theorem okN_mem {l : List Di} (h : okW [] l = true) {d : Di} (hd : d ∈ l) {x : Rw} (hx : x ∈ d.nums) : x.d ≠ 0 := by
  have h1 := ((okW_mem l [] h).1 d hd).2.1
  have h2 := List.all_eq_true.1 h1 x hx
  unfold Rw.ok at h2
  simp only [Bool.and_eq_true, decide_eq_true_eq] at h2
  exact h2.1
theorem _root_.Go.Sx.rwT.ext_ {w w' : World} {x : Rw} {b : A2} (h : rwT w (fun _ => True) x b) (hf : Fr No w w') : rwT w' (fun _ => True) x b := TL.rwt.fr h hf (fun _ _ h => h)
theorem Write_ok (l : List Di) (va : Option Addr) (vc : Nat) (w : World) (hD : disV w (fun _ => True) l (va, vc)) (hB : DisB l) (hS : ∀ d ∈ l, ∀ x ∈ d.nums, sz x.n ≤ 2000 ∧ sz x.d ≤ 2000) (hL : (dataT l).length ≤ 1000000000) (hW : Wd w) (hng : 11 ≤ w.heap.size) :
    Ret Tryz.prog 14 #[.slice va l.length vc] w (fun v w' => v = .tuple #[str (writeP l).1, .int .i64 ((writeP l).2 : Nat)] ∧ Ext w w') := by
  have hlB := hB.1
  refine enter (S := No) (l := [_]) (L := []) 115 Tryz.func14 rfl rfl rfl (St.start w No) ?_; refine yA ?_; refine za (v := str _) rfl ?_; refine aI rfl ?_; refine yC ?_; refine w_makeMapS (fun mb gmb umb => ?_)
  refine za rfl ?_; refine yC ?_; refine mS rfl ?_; refine jj sl24 rfl ?_; refine jg rfl rfl ?_; refine aB rfl ?_; refine yB ?_; refine zq ?_; refine yA ?_; refine mS rfl ?_; refine jj sl24 rfl ?_; refine mI rfl ?_; refine yB ?_; refine zB ?_
  refine c_loop (fun m9 e B L => ∃ (i : Nat), e 4 = .map (some mb) ∧ e 5 = .bool (longT l i) ∧ e 0 = .slice va l.length vc ∧ e 23 = .slice va l.length vc ∧ e 24 = .int .i64 (l.length : Nat) ∧ e 25 = .int .i64 (i : Nat) ∧ B = [(w, No)] ∧ L = [(mb, mpS (seenN ((l.take i).map Di.nm)))] ∧ i ≤ l.length ∧ okW [] (l.take i) = true ∧ m9 = l.length - i) _ ⟨0, rfl, (congrArg Value.bool (by unfold longT; simp; omega)), rfl, rfl, rfl, rfl, rfl, rfl, Nat.zero_le _, rfl, rfl⟩ ?_
  rintro m9 e B L ⟨i, e4_1, e5_1, e0_1, e23_1, e24_1, e25_1, rfl, rfl, hi, hokl, rfl⟩
  refine yA ?_; refine zg (fun _ => R_ltN (a := i) (b := (l.length)) e25_1 e24_1) ?_; refine yB ?_; refine zq ?_; refine zD rfl (fun h1 => ?_) (fun h1 => ?_)
  · have hi2 : i < l.length := (by omega); obtain ⟨d7, hd7⟩ : ∃ d, l[i]? = some d := ⟨_, List.getElem?_eq_getElem hi2⟩; obtain ⟨cs7, hA7, ⟨an7, cn7⟩, rfl, hT7⟩ := hD.2 i d7 hd7; obtain ⟨q7, o7, hq7, hne7, hc7⟩ := hA7; dsimp only at hq7; obtain ⟨hB7, hBn7, hBx7⟩ := hB.2 d7 (List.mem_of_getElem? hd7)
    refine zi ?_; refine zk ?_; refine zq ?_; refine zB ?_; refine yA ?_; refine zg (fun _ => R_iaN (i := i) sl24 (e23_1.trans (congrArg (fun z => Value.slice z _ _) hq7)) e25_1 hi2) ?_; refine w_loadC (l := diE d7 (an7, cn7)) z33 rfl rfl (fun w h j v hj => cel_old zm0 (hc7 j v hj) (fun x => x) h) ?_; refine zA zr33 (fun t7b gt7b ut7b => ?_)
    refine jv 0 z33 rfl ?_; refine yB ?_; refine c_cut (fun e B L => e 4 = .map (some mb) ∧ e 5 = .bool (longT l i) ∧ e 7 = pX t7b ∧ e 0 = .slice va l.length vc ∧ e 23 = .slice va l.length vc ∧ e 24 = .int .i64 (l.length : Nat) ∧ e 25 = .int .i64 (i : Nat) ∧ B = [(w, No)] ∧ L = [(t7b, cel (diE d7 (an7, cn7)) 33), (mb, mpS (seenN ((l.take i).map Di.nm)))] ∧ okD d7 = true ∧ ((l.take i).map Di.nm).contains d7.nm = false) ?_ ?_
    · refine yA ?_; refine zf fa33_0 rfl ?_; refine jM 0 z9 rfl ?_
      cases hnm : nameOk d7.nm
      · refine jD Tryz.func23 (fun w h => by have h9 := Name_spec d7.nm (by omega) w (hW.now zm0 h); rw [hnm] at h9; exact h9) ?_; refine jk rfl ?_; refine mB rfl ?_; (iterate 5 refine zs rfl rfl rfl ?_); refine jT rfl rfl ?_; refine mB rfl ?_; (iterate 4 refine zs rfl rfl rfl ?_); refine zU rfl rfl rfl ?_; refine zU rfl rfl rfl ?_; refine zU rfl rfl rfl ?_; refine zU rfl rfl rfl ?_; refine zs rfl rfl rfl ?_; refine jT rfl rfl ?_; refine zn ?_
        refine zk ?_; refine zE rfl ?_; refine yA ?_; refine za (v := str _) rfl ?_; refine aI rfl ?_; refine yB ?_; refine ze ?_; refine zt (zb (zt (zt (zb (zt (?_))))))
        rw [okW_bad hd7 (by first | (simp [okD, hnm]; done) | (simp only [hse]; simp; done) | (simp [okD, hli]; omega) | (simp [okD, hli]; done))]
        refine r_two (v := str _) (v2 := .int _ _) rfl rfl rfl rfl rfl ?_; exact fun w' hw => ⟨rfl, hw.fr (w, No) zm0⟩
      refine jD Tryz.func23 (fun w h => by have h9 := Name_spec d7.nm (by omega) w (hW.now zm0 h); rw [hnm] at h9; exact h9) ?_; refine jk rfl ?_; refine mB rfl ?_; refine zw rfl rfl rfl ?_; refine zm e4_1 ?_; refine zw rfl rfl rfl ?_; refine zf fa33_0 rfl ?_; refine zw rfl rfl rfl ?_; refine jM 0 z9 rfl ?_; refine zw rfl rfl rfl ?_
      cases hse : ((l.take i).map Di.nm).contains d7.nm
      · refine w_lookS (v := .int .i64 0) 1 rfl unm62 unk9 zr3 rfl rfl (by rw [seenN_look, hse]; rfl) ?_; refine zw rfl rfl rfl ?_; refine jg rfl rfl ?_; refine jF rfl rfl ?_; refine mB rfl ?_; refine zw rfl rfl bE ?_; refine zf fa33_2 rfl ?_; refine zw rfl rfl bE ?_
        cases hli : d7.list
        · refine zl (v := .bool false) z4 rfl (fun _ h => (zc 0 rfl (v := .bool false) (congrArg (fun z => some (Value.bool z)) hli) h)) ?_; refine zw rfl rfl bE ?_; refine jk rfl ?_; refine zw rfl rfl bE ?_; refine mB rfl ?_; refine zw rfl rfl rfl ?_; refine zf fa33_4 rfl ?_; refine zw rfl rfl rfl ?_; refine jM 0 z31 rfl ?_; refine zw rfl rfl rfl ?_; refine jj sl31 rfl ?_; refine zw rfl rfl rfl ?_; refine jn rfl rfl ?_; refine zw rfl rfl bE ?_
          refine jT rfl rfl ?_; refine jF bE rfl ?_; refine yB ?_; refine zD rfl (fun h3 => ?_) (fun h3 => ?_)
          · refine yA ?_; refine za (v := str _) rfl ?_; refine aI rfl ?_; refine yB ?_; refine ze ?_; refine zt (zb (zt (zt (zb (zt (?_))))))
            rw [okW_bad hd7 (by first | (simp [okD, hnm]; done) | (simp only [hse]; simp; done) | (simp [okD, hli]; omega) | (simp [okD, hli]; done))]
            refine r_two (v := str _) (v2 := .int _ _) rfl rfl rfl rfl rfl ?_; exact fun w' hw => ⟨rfl, hw.fr (w, No) zm0⟩
          refine zi ?_; exact k_mid ⟨e4_1, e5_1, rfl, e0_1, e23_1, e24_1, e25_1, rfl, rfl, (by unfold okD; rw [hnm, hli]; first | rfl | (simp; omega)), (by first | rfl | exact hse)⟩
        refine zl (v := .bool true) z4 rfl (fun _ h => (zc 0 rfl (v := .bool true) (congrArg (fun z => some (Value.bool z)) hli) h)) ?_; refine zw rfl rfl bE ?_; refine jk rfl ?_; refine zw rfl rfl bE ?_; refine mB rfl ?_; (iterate 4 refine zs rfl rfl rfl ?_); refine zw rfl rfl bE ?_; refine jF rfl rfl ?_; refine jF bE rfl ?_; refine yB ?_; refine zG rfl ?_; refine zi ?_
        exact k_mid ⟨e4_1, e5_1, rfl, e0_1, e23_1, e24_1, e25_1, rfl, rfl, (by unfold okD; rw [hnm, hli]; first | rfl | (simp; omega)), (by first | rfl | exact hse)⟩
      refine w_lookS (v := .int .i64 1) 1 rfl unm62 unk9 zr3 rfl rfl (by rw [seenN_look, hse]; rfl) ?_; refine zw rfl rfl rfl ?_; refine jg rfl rfl ?_; refine jF rfl rfl ?_; refine mB rfl ?_; refine zs rfl rfl bD ?_; refine zs rfl rfl bD ?_; refine zs rfl rfl bD ?_; refine zs rfl rfl bD ?_; refine zU rfl rfl rfl ?_; refine zU rfl rfl rfl ?_; refine zU rfl rfl rfl ?_
      refine zU rfl rfl rfl ?_; refine zs rfl rfl bD ?_; refine jT bD rfl ?_; refine yB ?_; refine zE rfl ?_; refine yA ?_; refine za (v := str _) rfl ?_; refine aI rfl ?_; refine yB ?_; refine ze ?_; refine zt (zb (zt (zt (zb (zt (?_))))))
      rw [okW_bad hd7 (by first | (simp [okD, hnm]; done) | (simp only [hse]; simp; done) | (simp [okD, hli]; omega) | (simp [okD, hli]; done))]
      refine r_two (v := str _) (v2 := .int _ _) rfl rfl rfl rfl rfl ?_; exact fun w' hw => ⟨rfl, hw.fr (w, No) zm0⟩
    rintro e B L ⟨e4_2, e5_2, e7_2, e0_2, e23_2, e24_2, e25_2, rfl, rfl, hkd, hse⟩
    refine yA ?_; refine zm e4_2 ?_; refine zf fa33_0 e7_2 ?_; refine jM 0 z9 rfl ?_; refine w_updS 1 rfl unm62 unk9 rfl rfl rfl (seenN_none hse) ?_; refine yB ?_; refine c_cut (fun e B L => e 4 = .map (some mb) ∧ e 5 = .bool (longT l (i + 1)) ∧ e 7 = pX t7b ∧ e 0 = .slice va l.length vc ∧ e 23 = .slice va l.length vc ∧ e 24 = .int .i64 (l.length : Nat) ∧ e 25 = .int .i64 (i : Nat) ∧ B = [(w, No)] ∧ L = [(t7b, cel (diE d7 (an7, cn7)) 33), (mb, mpS (seenN ((l.take (i + 1)).map Di.nm)))]) ?_ ?_
    · refine zr ?_
      cases hlg : longT l i
      · refine zm (v := .bool false) (e5_2.trans (congrArg Value.bool hlg)) ?_; refine mB rfl ?_; refine zw rfl rfl rfl ?_; refine zf fa33_4 e7_2 ?_; refine zw rfl rfl rfl ?_; refine jM 0 z31 rfl ?_; refine zw rfl rfl rfl ?_; refine jj sl31 rfl ?_; refine zw rfl rfl rfl ?_; refine jg rfl rfl ?_; refine jF rfl rfl ?_; refine aB rfl ?_; refine zn ?_
        have hlg2 : longT l (i + 1) = (longT l i || decide (1000 < d7.nums.length)) := longT_succ hd7
        refine zK (B' := _) (L' := [(t7b, cel (diE d7 (an7, cn7)) 33), (mb, mpS (seenN ((l.take (i + 1)).map Di.nm)))]) (fun w h => by rw [show seenN ((l.take (i + 1)).map Di.nm) = seenN ((l.take i).map Di.nm) ++ [(d7.nm, Value.int .i64 1)] from by rw [List.take_succ_eq_append_getElem hi2, (List.getElem?_eq_some_iff.1 hd7).2, List.map_append]; simp [seenN]]; exact h) ?_; exact k_mid ⟨e4_2, (congrArg Value.bool (by rw [hlg2, hlg]; first | exact (Bool.true_or _).symm | (rw [Bool.false_or]; exact decide_eq_decide.2 (by omega)))), e7_2, e0_2, e23_2, e24_2, e25_2, rfl, rfl⟩
      refine zm (v := .bool true) (e5_2.trans (congrArg Value.bool hlg)) ?_; refine mB rfl ?_; (iterate 4 refine zs rfl rfl rfl ?_); refine jT rfl rfl ?_; refine aB rfl ?_; refine zn ?_
      have hlg2 : longT l (i + 1) = (longT l i || decide (1000 < d7.nums.length)) := longT_succ hd7
      refine zK (B' := _) (L' := [(t7b, cel (diE d7 (an7, cn7)) 33), (mb, mpS (seenN ((l.take (i + 1)).map Di.nm)))]) (fun w h => by rw [show seenN ((l.take (i + 1)).map Di.nm) = seenN ((l.take i).map Di.nm) ++ [(d7.nm, Value.int .i64 1)] from by rw [List.take_succ_eq_append_getElem hi2, (List.getElem?_eq_some_iff.1 hd7).2, List.map_append]; simp [seenN]]; exact h) ?_; exact k_mid ⟨e4_2, (congrArg Value.bool (by rw [hlg2, hlg]; first | exact (Bool.true_or _).symm | (rw [Bool.false_or]; exact decide_eq_decide.2 (by omega)))), e7_2, e0_2, e23_2, e24_2, e25_2, rfl, rfl⟩
    rintro e B L ⟨e4_3, e5_3, e7_3, e0_3, e23_3, e24_3, e25_3, rfl, rfl⟩
    refine yA ?_; refine zf fa33_4 e7_3 ?_; refine jM 0 z31 rfl ?_; refine jj sl31 rfl ?_; refine mI rfl ?_; refine yB ?_; refine zB ?_
    refine c_loop (fun m9 e B L => ∃ (k8 : Nat), e 4 = .map (some mb) ∧ e 5 = .bool (longT l (i + 1)) ∧ e 7 = pX t7b ∧ e 0 = .slice va l.length vc ∧ e 23 = .slice va l.length vc ∧ e 24 = .int .i64 (l.length : Nat) ∧ e 25 = .int .i64 (i : Nat) ∧ e 62 = .slice an7 d7.nums.length cn7 ∧ e 63 = .int .i64 (d7.nums.length : Nat) ∧ e 64 = .int .i64 (k8 : Nat) ∧ B = [(w, No)] ∧ L = [(t7b, cel (diE d7 (an7, cn7)) 33), (mb, mpS (seenN ((l.take (i + 1)).map Di.nm)))] ∧ k8 ≤ d7.nums.length ∧ (d7.nums.take k8).all Rw.ok = true ∧ m9 = d7.nums.length - k8) _ ⟨0, e4_3, e5_3, e7_3, e0_3, e23_3, e24_3, e25_3, rfl, rfl, rfl, rfl, rfl, Nat.zero_le _, rfl, rfl⟩ ?_
    rintro m9 e B L ⟨k8, e4_4, e5_4, e7_4, e0_4, e23_4, e24_4, e25_4, e62_4, e63_4, e64_4, rfl, rfl, hk8, hall, rfl⟩
    refine yA ?_; refine zg (fun _ => R_ltN (a := k8) (b := (d7.nums.length)) e64_4 e63_4) ?_; refine yB ?_; refine zq ?_; refine zD rfl (fun h4 => ?_) (fun h4 => ?_)
    · have hk2 : k8 < d7.nums.length := (by omega); obtain ⟨xr, hxr⟩ : ∃ x, d7.nums[k8]? = some x := ⟨_, List.getElem?_eq_getElem hk2⟩; obtain ⟨cs8, hA8, br, rfl, hTr⟩ := hT7.2 k8 xr hxr; obtain ⟨q8, o8, hq8, hne8, hc8⟩ := hA8; dsimp only at hq8; have hBxr := hBx7 xr (List.mem_of_getElem? hxr); have hSxr := hS d7 (List.mem_of_getElem? hd7) xr (List.mem_of_getElem? hxr)
      refine zi ?_; refine zk ?_; refine zq ?_; refine zB ?_; refine yA ?_; refine zg (fun _ => R_iaN (i := k8) sl31 (e62_4.trans (congrArg (fun z => Value.slice z _ _) hq8)) e64_4 hk2) ?_; refine w_loadC (l := rwE xr br) z46 rfl rfl (fun w h j v hj => cel_old zm0 (hc8 j v hj) (fun x => x) h) ?_; refine zA zr46 (fun t9b gt9b ut9b => ?_)
      refine jv 0 z46 rfl ?_; refine yC ?_; refine jy 0 z46 rfl rfl ?_
      cases hok : xr.ok
      · refine jD Tryz.func36 (fun w h => by have h9 := whole_rw (hTr.ext_ (h.fr (_, No) zm0)) hBxr hSxr; rw [hok] at h9; exact h9) ?_; refine jk rfl ?_; refine yB ?_; refine zE rfl ?_; refine yA ?_; refine za (v := str _) rfl ?_; refine aI rfl ?_; refine yB ?_; refine ze ?_; refine zb (zt (zt (zb (zb (zt (zt (zb (zt (?_)))))))))
        rw [okW_bad hd7 (by rw [okN_bad (List.mem_of_getElem? hxr) hok, Bool.and_false])]
        refine r_two (v := str _) (v2 := .int _ _) rfl rfl rfl rfl rfl ?_; exact fun w' hw => ⟨rfl, hw.fr (w, No) zm0⟩
      refine jD Tryz.func36 (fun w h => by have h9 := whole_rw (hTr.ext_ (h.fr (_, No) zm0)) hBxr hSxr; rw [hok] at h9; exact h9) ?_; refine jk rfl ?_; refine yB ?_; refine zG rfl ?_; refine zi ?_; refine zO (zk ?_); refine zr ?_; refine zg (fun _ => R_addN (n := k8) (b := 1) e64_4 rfl (by omega)) ?_; refine mI rfl ?_; refine zn ?_; refine zK (B' := _) (L' := [_, _]) (fun w h => h.d1) ?_; exact k_again _ (by omega) ⟨k8 + 1, e4_4, e5_4, e7_4, e0_4, e23_4, e24_4, e25_4, e62_4, e63_4, rfl, rfl, rfl, by omega, by rw [okN_take hxr, hall, hok]; rfl, rfl⟩
    refine zX ?_; refine zx (zx (b_here rfl (zO (zk ?_)))); refine zr ?_; refine zg (fun _ => R_addN (n := i) (b := 1) e25_4 rfl (by omega)) ?_; refine mI rfl ?_; refine zn ?_; refine zK (B' := _) (L' := [_]) (fun w h => h.d1) ?_; exact k_again _ (by omega) ⟨i + 1, e4_4, e5_4, e0_4, e23_4, e24_4, rfl, rfl, rfl, by omega, (by rw [okW_take hd7, hokl, Bool.true_and, hkd, Bool.true_and, hse]; unfold okN; rw [show d7.nums.all Rw.ok = true from by rw [← List.take_length (l := d7.nums), show d7.nums.length = k8 by omega]; exact hall]; rfl), rfl⟩
  obtain rfl : i = l.length := (by omega); rw [List.take_length] at hokl
  refine zX ?_; refine zx (zx (b_here rfl (zk ?_))); refine zq ?_; refine yA ?_
  cases hlg : longT l l.length
  · refine zm (v := .bool false) (e5_1.trans (congrArg Value.bool hlg)) ?_; refine yB ?_; refine zG rfl ?_; refine zi ?_; refine zk ?_; refine yA ?_; refine zA zr80 (fun t10b gt10b ut10b => ?_)
    refine yB ?_; refine zq ?_; refine yA ?_; refine mS e0_1 ?_; refine jj sl24 rfl ?_; refine mI rfl ?_; refine yB ?_; refine zB ?_; refine c_st (B' := _) (L' := [_] ++ ([] ++ [])) (fun w h => h.drop (.cons_cons _ (List.nil_sublist _))) ?_; refine c_loop (fun m9 e B L => ∃ (i : Nat) (a : Option Addr) (v : Value) (W2 : Heap), e 10 = pX t10b ∧ e 74 = .slice va l.length vc ∧ e 75 = .int .i64 (l.length : Nat) ∧ e 76 = .int .i64 (i : Nat) ∧ B = [(w, No)] ∧ L = (t10b, cel [.pointer a, v] 80) :: (W2 ++ []) ∧ i ≤ l.length ∧ BldT t10b a v (dataT (l.take i)) W2 ∧ m9 = l.length - i) _ ⟨0, none, _, [], rfl, rfl, rfl, rfl, rfl, rfl, Nat.zero_le _, BldO.nil _ _, rfl⟩ ?_
    rintro m9 e B L ⟨i, a, v, W2, e10_5, e74_5, e75_5, e76_5, rfl, rfl, hi, hOb, rfl⟩
    refine yA ?_; refine zg (fun _ => R_ltN (a := i) (b := (l.length)) e76_5 e75_5) ?_; refine yB ?_; refine zq ?_; refine zD rfl (fun h7 => ?_) (fun h7 => ?_)
    · have hi2 : i < l.length := (by omega); obtain ⟨d7, hd7⟩ : ∃ d, l[i]? = some d := ⟨_, List.getElem?_eq_getElem hi2⟩; obtain ⟨cs7, hA7, ⟨an7, cn7⟩, rfl, hT7⟩ := hD.2 i d7 hd7; obtain ⟨q7, o7, hq7, hne7, hc7⟩ := hA7; dsimp only at hq7; obtain ⟨hB7, hBn7, hBx7⟩ := hB.2 d7 (List.mem_of_getElem? hd7); have hdt := dataT_take hd7; have hle7 := dataT_le l (i + 1); have hdl := datT_len d7; have hvl := valT_len d7; rw [hdt, List.length_append] at hle7
      refine zi ?_; refine zk ?_; refine zq ?_; refine zB ?_; refine yA ?_; refine zg (fun _ => R_iaN (i := i) sl24 (e74_5.trans (congrArg (fun z => Value.slice z _ _) hq7)) e76_5 hi2) ?_; refine w_loadC (l := diE d7 (an7, cn7)) z33 rfl rfl (fun w h j v hj => cel_old zm0 (hc7 j v hj) (fun x => x) h) ?_; refine zA zr33 (fun t12b gt12b ut12b => ?_)
      refine jv 0 z33 rfl ?_; refine yC ?_; refine za (v := .slice _ _ _) rfl ?_; refine yB ?_; refine zq ?_; refine yA ?_; refine zf fa33_4 rfl ?_; refine jM 0 z31 rfl ?_; refine jj sl31 rfl ?_; refine mI rfl ?_; refine yB ?_; refine zB ?_; refine c_st (B' := _) (L' := [_, _] ++ ([] ++ W2)) (fun w h => by rw [List.append_nil] at h; exact h) ?_
      refine c_loop (fun m9 e B L => ∃ (k8 : Nat) (pa : Option Addr) (pc : Nat) (W : Heap), e 10 = pX t10b ∧ e 74 = .slice va l.length vc ∧ e 75 = .int .i64 (l.length : Nat) ∧ e 76 = .int .i64 (i : Nat) ∧ e 12 = pX t12b ∧ e 13 = .slice pa k8 pc ∧ e 81 = .slice an7 d7.nums.length cn7 ∧ e 82 = .int .i64 (d7.nums.length : Nat) ∧ e 83 = .int .i64 (k8 : Nat) ∧ B = [(w, No)] ∧ L = [(t12b, cel (diE d7 (an7, cn7)) 33), (t10b, cel [.pointer a, v] 80)] ++ (W ++ W2) ∧ k8 ≤ d7.nums.length ∧ Own 9 1 (.slice pa k8 pc) (((d7.nums.take k8).map fun x => Lib.itoa x.r.1).map str) k8 W ∧ m9 = d7.nums.length - k8) _ ⟨0, none, 0, [], e10_5, e74_5, e75_5, e76_5, rfl, rfl, rfl, rfl, rfl, rfl, rfl, Nat.zero_le _, Own.nil _ _, rfl⟩ ?_
      rintro m9 e B L ⟨k8, pa, pc, W, e10_6, e74_6, e75_6, e76_6, e12_6, e13_6, e81_6, e82_6, e83_6, rfl, rfl, hk8, hO, rfl⟩
      refine yA ?_; refine zg (fun _ => R_ltN (a := k8) (b := (d7.nums.length)) e83_6 e82_6) ?_; refine yB ?_; refine zq ?_; refine zD rfl (fun h9 => ?_) (fun h9 => ?_)
      · have hk2 : k8 < d7.nums.length := (by omega); obtain ⟨xr, hxr⟩ : ∃ x, d7.nums[k8]? = some x := ⟨_, List.getElem?_eq_getElem hk2⟩; obtain ⟨cs8, hA8, br, rfl, hTr⟩ := hT7.2 k8 xr hxr; obtain ⟨q8, o8, hq8, hne8, hc8⟩ := hA8; dsimp only at hq8; have hBxr := hBx7 xr (List.mem_of_getElem? hxr); have hSxr := hS d7 (List.mem_of_getElem? hd7) xr (List.mem_of_getElem? hxr)
        refine zi ?_; refine zk ?_; refine zq ?_; refine zB ?_; refine yA ?_; refine zg (fun _ => R_iaN (i := k8) sl31 (e81_6.trans (congrArg (fun z => Value.slice z _ _) hq8)) e83_6 hk2) ?_; refine w_loadC (l := rwE xr br) z46 rfl rfl (fun w h j v hj => cel_old zm0 (hc8 j v hj) (fun x => x) h) ?_; refine zA zr46 (fun t15b gt15b ut15b => ?_)
        refine jv 0 z46 rfl ?_; refine yC ?_; refine jy 0 z46 rfl rfl ?_; refine w_tel2 (fun w => zR Tryz.func37 rfl rfl rfl) rfl rfl (fun w h => fNorm_ok xr.s w ((Kn.old hTr.n.nm).at_ 0 rfl h) ((Kn.old hTr.d.nm).at_ 0 rfl h) ⟨by omega, by omega, hSxr.1, hSxr.2, okN_mem hokl (List.mem_of_getElem? hd7) (List.mem_of_getElem? hxr)⟩) (fun x11 a11 c11 a11' c11' hK11 hN11 hK11' hN11' => ?_)
        have hxs := mkR_sz xr.s xr.n xr.d
        refine zm rfl ?_; refine jx rfl rfl ?_; refine jx rfl rfl ?_; refine zA zr46 (fun t16b gt16b ut16b => ?_)
        refine jv 0 z46 rfl ?_; refine aI rfl ?_; refine yB ?_; refine zr ?_; refine mS e13_6 ?_; refine zf fa46_0 rfl ?_; refine jy 0 z44 rfl rfl ?_; refine jD Tryz.func38 (fun w h => zTextI_ok xr.r.1 w (hK11.at_ 0 rfl h) (Nat.le_trans hxs.1 (by omega))) ?_; refine zS slt81 (by decide) rfl rfl (fun sb gsb usb => ?_)
        refine w_st (B' := _) (L' := [_, _, _, _, _] ++ (W ++ W2)) (fun w h => h) ?_; refine w_app (L := W2) (W := W) (news := [str (Lib.itoa xr.r.1)]) [_, _, _, _, _] slt81 (by decide) rfl hO rfl rfl (row_own 0 rfl (fun j u h => h)) rfl (by decide) (by omega) (by omega) (fun v3 W3 hO3 => ?_)
        obtain ⟨a3, c3, rfl⟩ := hO3.slice
        refine za (v := .slice a3 (k8 + 1) c3) rfl ?_; refine zn ?_; refine zO (zk ?_); refine zr ?_; refine zg (fun _ => R_addN (n := k8) (b := 1) e83_6 rfl (by omega)) ?_; refine mI rfl ?_; refine zn ?_; refine zK (B' := [(w, No)]) (L' := [_, _] ++ (W3 ++ W2)) (fun w h => (h.drop (.cons _ (.cons _ (.cons _ (List.Sublist.refl _))))).unbase (fun x hx => .tail _ hx)) ?_; exact k_again _ (by omega) ⟨k8 + 1, a3, c3, W3, e10_6, e74_6, e75_6, e76_6, e12_6, rfl, e81_6, e82_6, rfl, rfl, rfl, by omega, (by rw [List.take_succ_eq_append_getElem hk2, (List.getElem?_eq_some_iff.1 hxr).2, List.map_append, List.map_append]; exact hO3), rfl⟩
      obtain rfl : k8 = d7.nums.length := (by omega); rw [List.take_length] at hO
      refine zX ?_; refine zx (zx (b_here rfl (zk ?_))); refine yA ?_; refine mS e13_6 ?_
      have hO' : Own 9 1 (.slice pa d7.nums.length pc) ((d7.nums.map fun x => Lib.itoa x.r.1).map str) (d7.nums.map fun x => Lib.itoa x.r.1).length W := by rw [List.length_map]; exact hO
      refine jD Tryz.func39 (fun w h => joinS_ok hO' (fun p hp => h.own p (List.mem_append_right _ (List.mem_append_left _ hp))) (by rw [List.length_map]; omega) (by omega)) ?_; refine za (v := str _) rfl ?_; refine yB ?_; refine zq ?_; refine yA ?_; refine zf fa33_2 e12_6 ?_
      cases hli2 : d7.list
      · refine zl (v := .bool false) z4 rfl (fun _ h => (zc 0 rfl (v := .bool false) (congrArg (fun z => some (Value.bool z)) hli2) h)) ?_; refine yB ?_; refine zG rfl ?_; refine zi ?_; refine zk ?_; refine zr ?_; refine zf fa33_0 e12_6 ?_; refine jM 0 z9 rfl ?_; refine zg (fun _ => R_cat rfl rfl (by (try simp only [List.length_append, List.length_cons, List.length_nil]); omega)) ?_; refine zm (v := str _) rfl ?_; refine zg (fun _ => R_cat rfl rfl (by (try simp only [List.length_append, List.length_cons, List.length_nil]); omega)) ?_; refine zg (fun _ => R_cat rfl rfl (by (try simp only [List.length_append, List.length_cons, List.length_nil]); omega)) ?_
        refine w_st (B' := _) (L' := (t10b, cel [.pointer a, v] 80) :: (W2 ++ [])) (fun w h => by rw [List.append_nil]; exact h.drop (.cons _ (.cons_cons _ (List.sublist_append_right _ _)))) ?_
        have hval : valT d7 = (joinC (d7.nums.map fun x => Lib.itoa x.r.1)) := by unfold valT; rw [if_neg (by rw [hli2]; decide)]
        have hdat : d7.nm ++ [61] ++ (joinC (d7.nums.map fun x => Lib.itoa x.r.1)) ++ [59, 10] = datT d7 := by unfold datT; rw [hval]; simp
        refine w_bld (dataT (l.take i) ++ datT d7) (.tuple #[.int .i64 ((datT d7).length : Nat), .nilIface]) (fun w => by rw [← hdat]; exact RunE.to (zR Tryz.func40 rfl rfl rfl) (congrArg (fun z => #[z, _]) e10_6)) rfl rfl hOb (fun w h => writeS_spec t10b _ _ w _ (datT d7) (by omega) h) (fun a4 v4 W4 hO4 => ?_)
        refine zn ?_; refine zO (zk ?_); refine zr ?_; refine zg (fun _ => R_addN (n := i) (b := 1) e76_6 rfl (by omega)) ?_; refine mI rfl ?_; refine zn ?_; exact k_again _ (by omega) ⟨i + 1, _, _, _, e10_6, e74_6, e75_6, rfl, rfl, rfl, by omega, BldO.eq hO4 hdt.symm, rfl⟩
      refine zl (v := .bool true) z4 rfl (fun _ h => (zc 0 rfl (v := .bool true) (congrArg (fun z => some (Value.bool z)) hli2) h)) ?_; refine yB ?_; refine zE rfl ?_; refine zr ?_; refine zm (v := str _) rfl ?_; refine zg (fun _ => R_cat rfl rfl (by (try simp only [List.length_append, List.length_cons, List.length_nil]); omega)) ?_; refine zg (fun _ => R_cat rfl rfl (by (try simp only [List.length_append, List.length_cons, List.length_nil]); omega)) ?_; refine za (v := str _) rfl ?_; refine yB ?_; refine zr ?_; refine zf fa33_0 e12_6 ?_; refine jM 0 z9 rfl ?_; refine zg (fun _ => R_cat rfl rfl (by (try simp only [List.length_append, List.length_cons, List.length_nil]); omega)) ?_
      refine zm (v := str _) rfl ?_; refine zg (fun _ => R_cat rfl rfl (by (try simp only [List.length_append, List.length_cons, List.length_nil]); omega)) ?_; refine zg (fun _ => R_cat rfl rfl (by (try simp only [List.length_append, List.length_cons, List.length_nil]); omega)) ?_; refine w_st (B' := _) (L' := (t10b, cel [.pointer a, v] 80) :: (W2 ++ [])) (fun w h => by rw [List.append_nil]; exact h.drop (.cons _ (.cons_cons _ (List.sublist_append_right _ _)))) ?_
      have hval : valT d7 = 91 :: ((joinC (d7.nums.map fun x => Lib.itoa x.r.1)) ++ [93]) := by unfold valT; rw [if_pos hli2]
      have hdat : d7.nm ++ [61] ++ ([91] ++ (joinC (d7.nums.map fun x => Lib.itoa x.r.1)) ++ [93]) ++ [59, 10] = datT d7 := by unfold datT; rw [hval]; simp
      refine w_bld (dataT (l.take i) ++ datT d7) (.tuple #[.int .i64 ((datT d7).length : Nat), .nilIface]) (fun w => by rw [← hdat]; exact RunE.to (zR Tryz.func40 rfl rfl rfl) (congrArg (fun z => #[z, _]) e10_6)) rfl rfl hOb (fun w h => writeS_spec t10b _ _ w _ (datT d7) (by omega) h) (fun a4 v4 W4 hO4 => ?_)
      refine zn ?_; refine zO (zk ?_); refine zr ?_; refine zg (fun _ => R_addN (n := i) (b := 1) e76_6 rfl (by omega)) ?_; refine mI rfl ?_; refine zn ?_; exact k_again _ (by omega) ⟨i + 1, _, _, _, e10_6, e74_6, e75_6, rfl, rfl, rfl, by omega, BldO.eq hO4 hdt.symm, rfl⟩
    obtain rfl : i = l.length := (by omega); rw [List.take_length] at hOb
    refine zX ?_; refine zx (zx (b_here rfl (zk ?_))); refine yA ?_; refine w_lets (L' := []) (str (dataT l)) (fun w => RunE.to (zR Tryz.func41 rfl rfl rfl) (congrArg (fun z => #[z]) e10_5)) rfl rfl (fun w h => string_spec t10b _ _ w (dataT l) (by omega) ⟨_, _, _, hOb, h⟩) ?_; refine za (v := str _) rfl ?_; refine aI rfl ?_; refine yB ?_; refine ze ?_
    rw [writeP_ok hokl (by rw [← longT_all]; exact hlg)]
    refine r_two (v := str _) (v2 := .int _ _) rfl rfl rfl rfl rfl ?_; exact fun w' hw => ⟨rfl, hw.fr (w, No) zm0⟩
  refine zm (v := .bool true) (e5_1.trans (congrArg Value.bool hlg)) ?_; refine yB ?_; refine zE rfl ?_; refine yA ?_; refine za (v := str _) rfl ?_; refine aI rfl ?_; refine yB ?_; refine ze ?_; refine zt (?_)
  rw [writeP_long hokl (by rw [← longT_all]; exact hlg)]
  refine r_two (v := str _) (v2 := .int _ _) rfl rfl rfl rfl rfl ?_; exact fun w' hw => ⟨rfl, hw.fr (w, No) zm0⟩
end Go.Proofs.YtikdkendinnalaaGreatDoor
end
section
namespace Go.Sx
open Go.RowKit
section
variable {P : Program} {ops : Array Oper} {Q : Exit → Act → World → Prop} {c : Cf} {e : Env} {B : Base} {L : Heap} {rest : List Oper} {d : Nat} {o : Oper}
theorem w_telK {α β : Type} {M : World → (Nat → Prop) → α → β → Prop} (hM : TL M) (a : α) (F : β → Value) {s0 : Nat} {f : FuncId} {args : Array Value} (hr : ∀ w, RunE P o (ev c.n e) w f args) (hg : plainB o = true) (hd : o.dst = some d)
    (hs : ∀ w, St B L w → s0 ≤ w.heap.size) (hc : ∀ w, St B L w → Ret P f args w fun v w' => (∃ b, v = F b ∧ M w' (Nn w w') a b) ∧ Ext w w')
    (h : ∀ (x : Bw) (b : β), Kt x s0 M a b → WX .sq P ops c Q rest (upd e d (F b)) (x :: B) L) : WX .sq P ops c Q (o :: rest) e B L := by
  refine zP (R := fun w u w' => (∃ b, u = F b ∧ M w' (Nn w w') a b) ∧ Ext w w') hr hg hd hc fun w hw v w' ⟨⟨b, hv, hm⟩, hx⟩ => ?_
  subst hv
  have h1 := hw.ext hx
  refine ⟨(w', inL L) :: B, L, ?_, h _ b (Kt.new hm hM hw (hs w hw))⟩
  refine ⟨?_, h1.own, h1.nd, ?_⟩
  · intro x hx
    rcases List.mem_cons.1 hx with rfl | hx
    · exact Fr.refl _ _
    exact h1.fr x hx
  intro p hp x hx
  rcases List.mem_cons.1 hx with rfl | hx
  · exact .inl (List.mem_map_of_mem hp)
  exact h1.ok p hp x hx
theorem w_callV {β : Type} (F : β → Value) {f : FuncId} {args : Array Value} (hr : ∀ w, RunE P o (ev c.n e) w f args) (hg : plainB o = true) (hd : o.dst = some d)
    (hc : ∀ w, St B L w → Ret P f args w fun v w' => (∃ b, v = F b) ∧ Ext w w') (h : ∀ b : β, WX .sq P ops c Q rest (upd e d (F b)) B L) : WX .sq P ops c Q (o :: rest) e B L :=
  zP (R := fun w u w' => (∃ b, u = F b) ∧ Ext w w') hr hg hd hc fun w hw v w' ⟨⟨b, hv⟩, hx⟩ => ⟨B, L, hw.ext hx, by subst hv; exact h b⟩
theorem Kt.any {α β : Type} {M : World → (Nat → Prop) → α → β → Prop} {x : Bw} {s0 : Nat} {a : α} {b : β} {w : World} (h : Kt x s0 M a b) (hM : TL M) (hx : x ∈ B) (hw : St B L w) : M w (fun _ => True) a b := hM.mono (h.at hM hx hw) fun _ _ => trivial
end
section
variable {P : Program} {ρ : Operand → Value} {w : World} {D : Option Tmp} {t ty yt : TypeId} {pos : String} {aft : Array Edge} {g : Option (Nat × Bool)} {x y : Operand} {a : Option Addr} {k c n i : Nat} {kk kl kh : IntKind}
theorem R_hiM {m : Nat} {hi : Operand} {q : Nat} (hu : slB P t m = true) (hx : ρ x = .slice a k c) (hh : ρ hi = .int kl (q : Nat)) (h2 : q ≤ c) :
    Run P ⟨D, .slice t x none (some hi) none, ty, pos, aft, g⟩ ρ w (.slice a q c) w := by
  obtain ⟨e, ti, h3, h4, h5⟩ := slB_spec hu
  have h6 : (q : Int) ≤ (c : Int) := by omega
  cases a <;> simp [Run, execOp, hx, hh, go_sem, Instr.sliceAt, Instr.slice, run_underlying h3, Instr.sliceBounds, Instr.sliceBound, asIntOf, h2, h6, sizeOf, typeInfo, h4, h5, add_zero_]
end
end Go.Sx
end
section
namespace Go.Proofs.YtikdkendinnalaaGreatDoor
open Go.RowKit Go.Sx
open Go.Tok Go.Tree Go.Prs Go.Feed Go.Num
abbrev hA : Str := [110, 32, 61, 32, 51, 59, 32, 121, 32, 61, 32, 91, 49, 46, 53, 44, 32, 45, 50, 93, 59]
abbrev hB : Str := [110, 32, 61, 32, 51, 59, 32, 110, 32, 61, 32, 52, 59]
abbrev hC : Str := [110, 32, 61, 32, 59]
abbrev d0A : Dt := ⟨[110], 0, false, true, [(3, 1)]⟩
abbrev d1A : Dt := ⟨[121], 7, true, false, [(3, 2), (-2, 1)]⟩
theorem hA_r : fRead hA = .ok [d0A, d1A] := by kernel_rfl
theorem hB_r : fRead hB = .error (8, 7) := by kernel_rfl
theorem hC_r : fRead hC = .error (130, 4) := by kernel_rfl
abbrev lA : List Di := [diD d0A, diD d1A]
theorem lA_w : writeP lA = ([], 2) := by kernel_rfl
theorem lA_w1 : writeP (lA.take 1) = ([110, 61, 51, 59, 10], 0) := by kernel_rfl
theorem lA_B : DisB lA := by
 refine ⟨by decide, fun d hd => ?_⟩
 rcases List.mem_cons.1 hd with rfl | hd
 ·exact ⟨by decide, by decide, by decide +kernel⟩
 ·obtain rfl := List.mem_singleton.1 hd
  exact ⟨by decide, by decide, by decide +kernel⟩
theorem DisB.take {l : List Di} (h : DisB l) (i : Nat) : DisB (l.take i) := ⟨Nat.le_trans (by rw [List.length_take]; exact Nat.min_le_right _ _) h.1, fun d hd => h.2 d (List.mem_of_mem_take hd)⟩
theorem lA_S : ∀ d ∈ lA, ∀ x ∈ d.nums, sz x.n ≤ 2000 ∧ sz x.d ≤ 2000 := by decide +kernel
theorem lA_S1 : ∀ d ∈ lA.take 1, ∀ x ∈ d.nums, sz x.n ≤ 2000 ∧ sz x.d ≤ 2000 := fun d hd => lA_S d (List.mem_of_mem_take hd)
theorem lA_L : (dataT lA).length ≤ 1000000000 := by decide +kernel
theorem lA_L1 : (dataT (lA.take 1)).length ≤ 1000000000 := by decide +kernel
theorem head_ok (w : World) (hW : Wd w) (hng : 11 ≤ w.heap.size) :
  Ret Tryz.prog 8 #[] w (fun v w' => v = .bool true ∧ Ext w w') := by
 refine enter (S := No) (l := []) (L := []) 174 Tryz.func8 rfl rfl rfl (St.start w No) ?_; refine yA ?_; refine aB rfl ?_; refine yC ?_; refine w_telK (TL.row TL.dic) lA (fun b => .tuple #[.slice b.1 2 b.2, .agg #[.int .i64 0, .int .i64 0]]) (s0 := w.heap.size) (fun w => zR Tryz.func9 rfl rfl rfl) rfl rfl (fun w1 h => (h.fr _ zm0).size) (fun w1 h => by have h9 := fRead_ok hA _ rfl w1 (by decide) (hW.now zm0 h) (Nat.le_trans hng (h.fr _ zm0).size); rw [hA_r] at h9; exact h9) (fun x1 b1 hK1 => ?_)
 obtain ⟨va, vc⟩ := b1
 have hR1 : rowM 5 diC x1.1 (Nb w.heap.size x1) lA (va, vc) := hK1
 obtain ⟨cs0, hA0, ⟨an0, cn0⟩, rfl, hT0⟩ := hR1.2 0 _ rfl
 obtain ⟨q0, o0, hq0, hN0, hc0⟩ := hA0
 dsimp only at hq0
 subst hq0
 obtain ⟨cs1, hA1, ⟨an1, cn1⟩, rfl, hT1⟩ := hR1.2 1 _ rfl
 obtain ⟨q1, o1, hq1, hN1, hc1⟩ := hA1
 cases hq1
 obtain ⟨cr0, hB0, br0, rfl, hr0⟩ := hT0.2 0 _ rfl
 obtain ⟨p0, u0, hp0, hM0, hd0⟩ := hB0
 dsimp only at hp0
 subst hp0
 obtain ⟨cr1, hB1, br1, rfl, hr1⟩ := hT1.2 0 _ rfl
 obtain ⟨p1, u1, hp1, hM1, hd1⟩ := hB1
 dsimp only at hp1
 subst hp1
 obtain ⟨cr2, hB2, br2, rfl, hr2⟩ := hT1.2 1 _ rfl
 obtain ⟨p2, u2, hp2, hM2, hd2⟩ := hB2
 cases hp2
 refine zm rfl ?_; refine jx rfl rfl ?_; refine jx rfl rfl ?_; refine zA zr27 (fun t2b gt2b ut2b => ?_)
 refine za (v := .slice _ _ _) rfl ?_; refine jv 0 z27 rfl ?_; refine yC ?_; refine jD (v := .tuple #[.slice none 0 0, .agg #[.int .i64 8, .int .i64 7]]) Tryz.func9 (fun w1 h => by have h9 := fRead_ok hB _ rfl w1 (by decide) (hW.now zm1 h) (Nat.le_trans hng (h.fr _ zm1).size); rw [hB_r] at h9; exact h9) ?_; refine zm rfl ?_; refine jx rfl rfl ?_; refine jx rfl rfl ?_; refine zA zr27 (fun t4b gt4b ut4b => ?_)
 refine za (v := .slice _ _ _) rfl ?_; refine jv 0 z27 rfl ?_; refine yC ?_; refine jD (v := .tuple #[.slice none 0 0, .agg #[.int .i64 130, .int .i64 4]]) Tryz.func9 (fun w1 h => by have h9 := fRead_ok hC _ rfl w1 (by decide) (hW.now zm1 h) (Nat.le_trans hng (h.fr _ zm1).size); rw [hC_r] at h9; exact h9) ?_; refine zm rfl ?_; refine jx rfl rfl ?_; refine jx rfl rfl ?_; refine zA zr27 (fun t6b gt6b ut6b => ?_)
 refine za (v := .slice _ _ _) rfl ?_; refine jv 0 z27 rfl ?_; refine yB ?_; refine zq ?_; refine yA ?_; refine zf fa27_0 rfl ?_; refine jM 2 z25 rfl ?_; refine jn rfl rfl ?_; refine mB rfl ?_; refine zw rfl rfl bE ?_; refine mS rfl ?_; refine zw rfl rfl bE ?_; refine jj sl24 rfl ?_; refine zw rfl rfl bE ?_; refine jn rfl rfl ?_
 refine jF bE rfl ?_; refine mB rfl ?_; refine zw rfl rfl bE ?_; refine mS rfl ?_; refine zw rfl rfl bE ?_; refine zg (fun _ => R_iaN (i := 0) sl24 rfl rfl (by first | omega | decide | exact Nat.succ_pos _ | exact Nat.succ_lt_succ (Nat.succ_pos _))) ?_; refine zw rfl rfl bE ?_; refine zf fa33_4 rfl ?_; refine zw rfl rfl bE ?_; refine zl (v := .slice (some ⟨p0, u0, none⟩) 1 cn0) z31 rfl (fun w h => cel_old zm0 (hc0 4 _ rfl) hN0.2.2 h) ?_
 refine zw rfl rfl bE ?_; refine jj sl31 rfl ?_; refine zw rfl rfl bE ?_; refine jn rfl rfl ?_; refine jF bE rfl ?_; refine mB rfl ?_; refine zw rfl rfl bE ?_; refine mS rfl ?_; refine zw rfl rfl bE ?_; refine zg (fun _ => R_iaN (i := 1) sl24 rfl rfl (by first | omega | decide | exact Nat.succ_pos _ | exact Nat.succ_lt_succ (Nat.succ_pos _))) ?_
 refine zw rfl rfl bE ?_; refine zf fa33_4 rfl ?_; refine zw rfl rfl bE ?_; refine zl (v := .slice (some ⟨p1, u1, none⟩) 2 cn1) z31 rfl (fun w h => cel_old zm0 (hc1 4 _ rfl) hN1.2.2 h) ?_; refine zw rfl rfl bE ?_; refine jj sl31 rfl ?_; refine zw rfl rfl bE ?_; refine jn rfl rfl ?_; refine jF bE rfl ?_; refine yB ?_; refine zG bE ?_; refine zi ?_; refine zk ?_; refine yA ?_; refine mS rfl ?_
 refine w_telK TL.dit (diD d1A) (fun b => .tuple #[.agg (diE (diD d1A) b).toArray, .bool true]) (s0 := w.heap.size) (fun w => zR Tryz.func12 rfl rfl rfl) rfl rfl (fun w1 h => (h.fr _ zm1).size) (fun w1 h => by have h9 := Find_ok lA [121] _ vc w1 (Kt.any (show Kt x1 w.heap.size (rowM 5 diC) lA _ from hK1) (TL.row TL.dic) zm0 h) lA_B; rw [show findD lA [121] = some (diD d1A) from by kernel_rfl] at h9; exact h9) (fun x2 b2 hK2 => ?_)
 refine zm rfl ?_; refine jx rfl rfl ?_; refine jx rfl rfl ?_; refine zA zr33 (fun t7b gt7b ut7b => ?_)
 refine jv 0 z33 rfl ?_; refine aB rfl ?_; refine yC ?_; refine mS rfl ?_; refine jD (v := .tuple #[.agg #[str [], .int .i64 0, .bool false, .bool false, .slice none 0 0], .bool false]) Tryz.func12 (fun w1 h => by have h9 := Find_ok lA [120] _ vc w1 (Kt.any (show Kt x1 w.heap.size (rowM 5 diC) lA _ from hK1) (TL.row TL.dic) zm1 h) lA_B; rw [show findD lA [120] = none from by kernel_rfl] at h9; exact h9) ?_; refine zm rfl ?_; refine jx rfl rfl ?_; refine jx rfl rfl ?_; refine zA zr33 (fun t9b gt9b ut9b => ?_)
 refine jv 0 z33 rfl ?_; refine aB rfl ?_; refine yC ?_; refine mS rfl ?_; refine zg (fun _ => R_hiM (q := 1) sl24 rfl rfl (Nat.le_trans (by decide) hR1.1)) ?_; refine jD (v := .tuple #[str [110, 61, 51, 59, 10], .int .i64 0]) Tryz.func14 (fun w1 h => by have h9 := Write_ok (lA.take 1) _ vc w1 (rowM.take (Kt.any (show Kt x1 w.heap.size (rowM 5 diC) lA _ from hK1) (TL.row TL.dic) zm1 h) 1) (lA_B.take 1) lA_S1 lA_L1 (hW.now zm2 h) (Nat.le_trans hng (h.fr _ zm2).size); rw [lA_w1] at h9; exact h9) ?_
 refine zm rfl ?_; refine jx rfl rfl ?_; refine jx rfl rfl ?_; refine za (v := str _) rfl ?_; refine aI rfl ?_; refine yC ?_; refine mS rfl ?_; refine jD (v := .tuple #[str [], .int .i64 2]) Tryz.func14 (fun w1 h => by have h9 := Write_ok lA _ vc w1 (Kt.any (show Kt x1 w.heap.size (rowM 5 diC) lA _ from hK1) (TL.row TL.dic) zm1 h) lA_B lA_S lA_L (hW.now zm2 h) (Nat.le_trans hng (h.fr _ zm2).size); rw [lA_w] at h9; exact h9) ?_; refine zm rfl ?_; refine jx rfl rfl ?_; refine jx rfl rfl ?_; refine za (v := str _) rfl ?_
 refine aI rfl ?_; refine yC ?_; refine mS rfl ?_; refine zg (fun _ => R_iaN (i := 0) sl24 rfl rfl (by first | omega | decide | exact Nat.succ_pos _ | exact Nat.succ_lt_succ (Nat.succ_pos _))) ?_; refine zf fa33_3 rfl ?_; refine zl (v := .bool true) z4 rfl (fun w h => cel_old zm1 (hc0 3 _ rfl) hN0.2.2 h) ?_; refine mB rfl ?_; refine zw rfl rfl rfl ?_; refine mS rfl ?_; refine zw rfl rfl rfl ?_; refine zg (fun _ => R_iaN (i := 0) sl24 rfl rfl (by first | omega | decide | exact Nat.succ_pos _ | exact Nat.succ_lt_succ (Nat.succ_pos _))) ?_; refine zw rfl rfl rfl ?_; refine zf fa33_2 rfl ?_; refine zw rfl rfl rfl ?_
 refine zl (v := .bool false) z4 rfl (fun w h => cel_old zm1 (hc0 2 _ rfl) hN0.2.2 h) ?_; refine zw rfl rfl rfl ?_; refine jk rfl ?_; refine jT rfl rfl ?_; refine mB rfl ?_; refine zw rfl rfl rfl ?_; refine mS rfl ?_; refine zw rfl rfl rfl ?_; refine zg (fun _ => R_iaN (i := 0) sl24 rfl rfl (by first | omega | decide | exact Nat.succ_pos _ | exact Nat.succ_lt_succ (Nat.succ_pos _))) ?_; refine zw rfl rfl rfl ?_; refine zf fa33_0 rfl ?_; refine zw rfl rfl rfl ?_; refine zl (v := str [110]) z9 rfl (fun w h => cel_old zm1 (hc0 0 _ rfl) hN0.2.2 h) ?_
 refine zw rfl rfl rfl ?_; refine js rfl rfl ?_; refine jT rfl rfl ?_; refine mB rfl ?_; refine zw rfl rfl bD ?_; refine mS rfl ?_; refine zw rfl rfl bD ?_; refine zg (fun _ => R_iaN (i := 0) sl24 rfl rfl (by first | omega | decide | exact Nat.succ_pos _ | exact Nat.succ_lt_succ (Nat.succ_pos _))) ?_; refine zw rfl rfl bD ?_; refine zf fa33_4 rfl ?_; refine zw rfl rfl bD ?_; refine zl (v := .slice (some ⟨p0, u0, none⟩) 1 cn0) z31 rfl (fun w h => cel_old zm1 (hc0 4 _ rfl) hN0.2.2 h) ?_
 refine zw rfl rfl bD ?_; refine zg (fun _ => R_iaN (i := 0) sl31 rfl rfl (by first | omega | decide | exact Nat.succ_pos _ | exact Nat.succ_lt_succ (Nat.succ_pos _))) ?_; refine zw rfl rfl bD ?_; refine w_loadC (l := rwE (rwR (3, 1)) br0) z46 rfl rfl (fun w h j v hj => cel_old zm1 (hd0 j v hj) hM0.2.2 h) ?_; refine zw rfl rfl bD ?_
 refine jD (v := str [51]) Tryz.func20 (fun w9 h => by have h9 := fText_ok (rwR (3, 1)).s w9 (Kt.any (show Kt x1 w.heap.size rwT (rwR (3, 1)) br0 from hr0) TL.rwt zm1 h).n.nm (Kt.any (show Kt x1 w.heap.size rwT (rwR (3, 1)) br0 from hr0) TL.rwt zm1 h).d.nm (by decide +kernel); rw [show txtR (mkR (rwR (3, 1)).s (rwR (3, 1)).n (rwR (3, 1)).d) = [51] from by kernel_rfl] at h9; exact h9) ?_; refine zw rfl rfl bD ?_; refine js rfl rfl ?_; refine jT bD rfl ?_
 refine mB rfl ?_; refine zw rfl rfl bD ?_; refine mS rfl ?_; refine zw rfl rfl bD ?_; refine zg (fun _ => R_iaN (i := 1) sl24 rfl rfl (by first | omega | decide | exact Nat.succ_pos _ | exact Nat.succ_lt_succ (Nat.succ_pos _))) ?_; refine zw rfl rfl bD ?_; refine zf fa33_2 rfl ?_; refine zw rfl rfl bD ?_; refine zl (v := .bool true) z4 rfl (fun w h => cel_old zm1 (hc1 2 _ rfl) hN1.2.2 h) ?_; refine jT bD rfl ?_; refine mB rfl ?_; refine zw rfl rfl rfl ?_
 refine mS rfl ?_; refine zw rfl rfl rfl ?_; refine zg (fun _ => R_iaN (i := 1) sl24 rfl rfl (by first | omega | decide | exact Nat.succ_pos _ | exact Nat.succ_lt_succ (Nat.succ_pos _))) ?_; refine zw rfl rfl rfl ?_; refine zf fa33_3 rfl ?_; refine zw rfl rfl rfl ?_; refine zl (v := .bool false) z4 rfl (fun w h => cel_old zm1 (hc1 3 _ rfl) hN1.2.2 h) ?_; refine zw rfl rfl rfl ?_; refine jk rfl ?_; refine jT rfl rfl ?_; refine mB rfl ?_; refine zw rfl rfl rfl ?_; refine mS rfl ?_; refine zw rfl rfl rfl ?_; refine zg (fun _ => R_iaN (i := 1) sl24 rfl rfl (by first | omega | decide | exact Nat.succ_pos _ | exact Nat.succ_lt_succ (Nat.succ_pos _))) ?_
 refine zw rfl rfl rfl ?_; refine zf fa33_1 rfl ?_; refine zw rfl rfl rfl ?_; refine zl (v := .int .i64 7) z3 rfl (fun w h => cel_old zm1 (hc1 1 _ rfl) hN1.2.2 h) ?_; refine zw rfl rfl rfl ?_; refine je rfl rfl ?_; refine jT rfl rfl ?_; refine mB rfl ?_; refine zw rfl rfl bD ?_; refine mS rfl ?_; refine zw rfl rfl bD ?_; refine zg (fun _ => R_iaN (i := 1) sl24 rfl rfl (by first | omega | decide | exact Nat.succ_pos _ | exact Nat.succ_lt_succ (Nat.succ_pos _))) ?_
 refine zw rfl rfl bD ?_; refine zf fa33_4 rfl ?_; refine zw rfl rfl bD ?_; refine zl (v := .slice (some ⟨p1, u1, none⟩) 2 cn1) z31 rfl (fun w h => cel_old zm1 (hc1 4 _ rfl) hN1.2.2 h) ?_; refine zw rfl rfl bD ?_; refine zg (fun _ => R_iaN (i := 0) sl31 rfl rfl (by first | omega | decide | exact Nat.succ_pos _ | exact Nat.succ_lt_succ (Nat.succ_pos _))) ?_; refine zw rfl rfl bD ?_; refine w_loadC (l := rwE (rwR (3, 2)) br1) z46 rfl rfl (fun w h j v hj => cel_old zm1 (hd1 j v hj) hM1.2.2 h) ?_; refine zw rfl rfl bD ?_
 refine jD (v := str [51, 47, 50]) Tryz.func20 (fun w9 h => by have h9 := fText_ok (rwR (3, 2)).s w9 (Kt.any (show Kt x1 w.heap.size rwT (rwR (3, 2)) br1 from hr1) TL.rwt zm1 h).n.nm (Kt.any (show Kt x1 w.heap.size rwT (rwR (3, 2)) br1 from hr1) TL.rwt zm1 h).d.nm (by decide +kernel); rw [show txtR (mkR (rwR (3, 2)).s (rwR (3, 2)).n (rwR (3, 2)).d) = [51, 47, 50] from by kernel_rfl] at h9; exact h9) ?_; refine zw rfl rfl bD ?_; refine js rfl rfl ?_; refine jT bD rfl ?_
 refine mB rfl ?_; refine zw rfl rfl bD ?_; refine mS rfl ?_; refine zw rfl rfl bD ?_; refine zg (fun _ => R_iaN (i := 1) sl24 rfl rfl (by first | omega | decide | exact Nat.succ_pos _ | exact Nat.succ_lt_succ (Nat.succ_pos _))) ?_; refine zw rfl rfl bD ?_; refine zf fa33_4 rfl ?_; refine zw rfl rfl bD ?_; refine zl (v := .slice (some ⟨p1, u1, none⟩) 2 cn1) z31 rfl (fun w h => cel_old zm1 (hc1 4 _ rfl) hN1.2.2 h) ?_
 refine zw rfl rfl bD ?_; refine zg (fun _ => R_iaN (i := 1) sl31 rfl rfl (by first | omega | decide | exact Nat.succ_pos _ | exact Nat.succ_lt_succ (Nat.succ_pos _))) ?_; refine zw rfl rfl bD ?_; refine w_loadC (l := rwE (rwR (-2, 1)) br2) z46 rfl rfl (fun w h j v hj => cel_old zm1 (hd2 j v hj) hM2.2.2 h) ?_; refine zw rfl rfl bD ?_
 refine jD (v := str [45, 50]) Tryz.func20 (fun w9 h => by have h9 := fText_ok (rwR (-2, 1)).s w9 (Kt.any (show Kt x1 w.heap.size rwT (rwR (-2, 1)) br2 from hr2) TL.rwt zm1 h).n.nm (Kt.any (show Kt x1 w.heap.size rwT (rwR (-2, 1)) br2 from hr2) TL.rwt zm1 h).d.nm (by decide +kernel); rw [show txtR (mkR (rwR (-2, 1)).s (rwR (-2, 1)).n (rwR (-2, 1)).d) = [45, 50] from by kernel_rfl] at h9; exact h9) ?_; refine zw rfl rfl bD ?_; refine js rfl rfl ?_; refine jT bD rfl ?_; refine mB rfl ?_; refine zw rfl rfl bD ?_; refine jy 3 z27 rfl rfl ?_
 refine zw rfl rfl bD ?_; refine jb bt27 rfl ?_; refine zw rfl rfl bD ?_; refine zg (fun _ => R_eqS fl27 rfl rfl (eq2_run (n := 9998) fl27 z25 z3 un25 un3)) ?_; refine jT bD rfl ?_; refine mB rfl ?_; refine zw rfl rfl (congrArg Value.bool (by decide)) ?_; refine jy 2 z27 rfl rfl ?_; refine zw rfl rfl (congrArg Value.bool (by decide)) ?_; refine jb bt27 rfl ?_; refine zw rfl rfl (congrArg Value.bool (by decide)) ?_; refine zg (fun _ => R_eqS fl27 rfl rfl (eq2_run (n := 9998) fl27 z25 z3 un25 un3)) ?_
 refine jT (congrArg Value.bool (by decide)) rfl ?_; refine mB rfl ?_; refine zw rfl rfl (congrArg Value.bool (by decide)) ?_; refine mB rfl ?_; refine jT (congrArg Value.bool (by decide)) rfl ?_; refine mB rfl ?_; refine zw rfl rfl rfl ?_; refine zf fa33_1 rfl ?_; refine zw rfl rfl rfl ?_; refine jM 1 z3 rfl ?_; refine zw rfl rfl rfl ?_; refine je rfl rfl ?_; refine jT rfl rfl ?_; refine mB rfl ?_; refine zw rfl rfl bD ?_
 refine mB rfl ?_; refine zw rfl rfl bD ?_; refine jk rfl ?_; refine jT bD rfl ?_; refine mB rfl ?_; refine zw rfl rfl rfl ?_; refine mI rfl ?_; refine zw rfl rfl rfl ?_; refine je rfl rfl ?_; refine jT rfl rfl ?_; refine mB rfl ?_; refine zw rfl rfl bD ?_; refine zm (v := str _) rfl ?_; refine zw rfl rfl bD ?_
 refine js rfl rfl ?_; refine jT bD rfl ?_; refine mB rfl ?_; refine zw rfl rfl bD ?_; refine mI rfl ?_; refine zw rfl rfl bD ?_; refine je rfl rfl ?_; refine jT bD rfl ?_; refine aB rfl ?_; refine yB ?_; refine ze ?_; refine zo (v := .bool _) rfl rfl rfl ?_; exact fun w' hw => ⟨rfl, hw.fr (w, No) zm2⟩
end Go.Proofs.YtikdkendinnalaaGreatDoor
end
section
namespace Go.Feed
open Go.Tok Go.Tree Go.Prs Go.Num Go.Lib
def Rb (x : Rt) : Prop := sz x.1.natAbs ≤ 1000 ∧ sz x.2 ≤ 1000 ∧ x.2 ≠ 0
def NTs (L : Nat) (ts : List Tk) : Prop := ∀ t ∈ ts, (t.1 = 2 → NumT t.2.1) ∧ t.2.1.length ≤ L
def DB (L K : Nat) (d : Dt) : Prop := d.nm.length ≤ L ∧ d.nums.length ≤ K ∧ ∀ x ∈ d.nums, Rb x
theorem NTs.tail {L : Nat} {ts : List Tk} (h : NTs L ts) : NTs L ts.tail := fun t ht => h t (List.mem_of_mem_tail ht)
end Go.Feed
end
section
namespace Go.Proofs.YtikdkendinnalaaGreatDoor
open Go.RowKit Go.Sx
open Go.Tok Go.Tree Go.Prs Go.Feed Go.Num
def bothT (la lb : List Dt) (i : Nat) : Bool := (la.take i).any fun a => (findD (lb.map diD) a.nm).isSome
end Go.Proofs.YtikdkendinnalaaGreatDoor
end
section
namespace Go.Proofs.YtikdkendinnalaaGreatDoor
open Go.RowKit Go.Sx
open Go.Num
theorem rNorm_ok {a : Option Addr} {k c n : Nat} (w : World) (hA : Nm w a k c n) (hk : k ≤ 4000000) :
  Ret Tryz.prog 80 #[.slice a k c] w (Tel (fun a c => .slice a (sz n) c) (sz n) n w) := by
 refine enter (S := No) (l := [_]) (L := []) 24 Tryz.func80 rfl rfl rfl (St.start w No) ?_; refine yA ?_; refine za (v := .slice _ _ _) rfl ?_; refine yC ?_; refine mS rfl ?_; refine jj sl42 rfl ?_; refine aI rfl ?_; refine yB ?_; refine zq ?_; refine zB ?_; refine c_loop (fun m9 e B L => ∃ (j : Nat), e 0 = .slice a k c ∧ e 3 = .int .i64 (j : Nat) ∧ B = [(w, No)] ∧ L = [] ∧ j ≤ k ∧ n < Go.Num.B ^ j ∧ m9 = j + 1) _ ⟨k, rfl, rfl, rfl, rfl, Nat.le_refl _, hA.lt, rfl⟩ ?_
 rintro m9 e B L ⟨j, e0_1, e3_1, rfl, rfl, hj, hlt, rfl⟩
 refine zq ?_; refine yA ?_; refine mI e3_1 ?_; refine zg (fun _ => R_gtN (a := j) (b := 0) rfl rfl) ?_; refine mB rfl ?_; refine zd (t := 9) rfl (fun h1 => ?_) (fun h1 => ?_)
 ·obtain ⟨i, rfl⟩ : ∃ i, j = i + 1 := ⟨j - 1, by omega⟩
  refine zw rfl rfl (bT h1) ?_; refine mS e0_1 ?_; refine zw rfl rfl (bT h1) ?_; refine mI e3_1 ?_; refine zw rfl rfl (bT h1) ?_; refine zg (fun _ => R_subN (n := (i + 1)) (b := 1) rfl rfl (by omega) (by omega)) ?_; refine zw rfl rfl (bT h1) ?_; refine zg (fun _ => R_iaK (i := ((i + 1) - 1)) sl42 rfl ((Kn.old hA).ptr (by omega)) rfl (by omega)) ?_; refine zw rfl rfl (bT h1) ?_; refine zl (v := .int .u64 ((dg Go.Num.B n ((i + 1) - 1)) : Nat)) z75 rfl (fun w h => (Kn.old hA).ca 0 rfl (by omega) h) ?_; refine zw rfl rfl (bT h1) ?_; refine zg (fun _ => R_eqN (a := (dg Go.Num.B n ((i + 1) - 1))) (b := 0) rfl rfl) ?_; refine jT (bT h1) rfl ?_; refine yB ?_; refine zD rfl (fun h2 => ?_) (fun h2 => ?_)
  ·refine zi ?_; refine zk ?_; refine zB ?_; refine zr ?_; refine mI e3_1 ?_; refine zg (fun _ => R_subN (n := (i + 1)) (b := 1) rfl rfl (by omega) (by omega)) ?_; refine aI rfl ?_; refine zn ?_; refine zO (?_)
   exact k_again _ (by omega) ⟨i, e0_1, rfl, rfl, rfl, by omega, lt_of_dg hlt h2, rfl⟩
  ·have hz : i + 1 = sz n := (sz_of_top hlt h2).symm
   refine zX ?_; refine zx (zx (b_here rfl (zk ?_))); refine yA ?_; refine za (v := .slice _ _ _) rfl ?_; refine yC ?_; refine mS rfl ?_; refine mS e0_1 ?_; refine mI e3_1 ?_; refine zg (fun _ => R_hiN (q := (i + 1)) sl42 rfl rfl (Nat.le_trans (by omega) (Kn.old hA).kc)) ?_; refine w_st (B' := _) (L' := [] ++ ([] ++ [])) (fun w h => h) ?_; refine w_appN (z := 0) (k := 0) [] slt42 rfl (Own.nil _ _) (by decide) rfl (fun w h => (((Kn.old hA).cut (q := (i + 1)) (by omega) hlt _ (Nat.le_trans (by omega) (Kn.old hA).kc)).at_ 0 rfl h)) (by omega) (fun v1 W1 hO1 => ?_)
   refine za (v := v1) rfl ?_; refine yB ?_; refine ze ?_
   rw [← hz]
   refine zo (v := v1) rfl rfl rfl ?_; exact fun w' hw => Own.tel (k := i + 1) (n := n) (by simpa using hO1) hlt [] [] zm0 hw (fun a c h => h)
 ·have hz : j = sz n := (by have hj0 : j = 0 := (by omega); subst hj0; exact (sz_eq_zero.2 (by simpa using hlt)).symm)
  refine zs rfl rfl (bF h1) ?_; refine zs rfl rfl (bF h1) ?_; refine zs rfl rfl (bF h1) ?_; refine zs rfl rfl (bF h1) ?_; refine zs rfl rfl (bF h1) ?_; refine zs rfl rfl (bF h1) ?_; refine jF (bF h1) rfl ?_; refine yB ?_; refine zG rfl ?_; refine zX ?_; refine zx (zx (b_here rfl (zk ?_))); refine yA ?_; refine za (v := .slice _ _ _) rfl ?_; refine yC ?_; refine mS rfl ?_; refine mS e0_1 ?_; refine mI e3_1 ?_; refine zg (fun _ => R_hiN (q := j) sl42 rfl rfl (Nat.le_trans (by omega) (Kn.old hA).kc)) ?_; refine w_st (B' := _) (L' := [] ++ ([] ++ [])) (fun w h => h) ?_
  refine w_appN (z := 0) (k := 0) [] slt42 rfl (Own.nil _ _) (by decide) rfl (fun w h => (((Kn.old hA).cut (q := j) (by omega) hlt _ (Nat.le_trans (by omega) (Kn.old hA).kc)).at_ 0 rfl h)) (by omega) (fun v1 W1 hO1 => ?_)
  refine za (v := v1) rfl ?_; refine yB ?_; refine ze ?_
  rw [← hz]
  refine zo (v := v1) rfl rfl rfl ?_; exact fun w' hw => Own.tel (k := j) (n := n) (by simpa using hO1) hlt [] [] zm0 hw (fun a c h => h)
theorem rLong_ok {a : Option Addr} {k c n : Nat} (w : World) (hA : Nm w a k c n) (hk : k ≤ 4000000) :
  Ret Tryz.prog 81 #[.slice a k c] w (fun v w' => v = .bool (decide (2048 < sz n)) ∧ Ext w w') := by
 refine enter (S := No) (l := [_]) (L := []) 7 Tryz.func81 rfl rfl rfl (St.start w No) ?_; refine yA ?_; refine aB rfl ?_; refine yC ?_; refine mS rfl ?_; refine w_tel (fun w => zR Tryz.func80 rfl rfl rfl) rfl rfl (fun w h => rNorm_ok w ((Kn.old hA).at_ 0 rfl h) (by omega)) (fun x1 a1 c1 hK1 hN1 => ?_)
 refine jj sl42 rfl ?_; refine zg (fun _ => R_gtN (a := (sz n)) (b := 2048) rfl rfl) ?_; refine aB rfl ?_; refine yB ?_; refine ze ?_; refine zo (v := .bool _) rfl rfl rfl ?_; exact fun w' hw => ⟨rfl, hw.fr (w, No) zm1⟩
theorem bit_out {n k i : Nat} (hn : n < Go.Num.B ^ k) (h : k ≤ i / 64) : n / 2 ^ i % 2 = 0 := by
 rw [Nat.div_eq_of_lt, Nat.zero_mod]
 refine Nat.lt_of_lt_of_le hn ?_
 rw [B_pow]
 exact Nat.pow_le_pow_right (by decide) (by omega)
theorem rbit_ok {a : Option Addr} {k c n : Nat} (w : World) (hA : Nm w a k c n) (i : Nat) (hs : k ≤ 4000000 ∧ i ≤ 1000000000) :
  Ret Tryz.prog 120 #[.slice a k c, .int .i64 (i : Nat)] w (fun v w' => v = .int .u64 (n / 2 ^ i % 2 : Nat) ∧ Ext w w') := by
 have hBv : Go.Num.B = 18446744073709551616 := rfl
 refine enter (S := No) (l := [_, _]) (L := []) 24 Tryz.func120 rfl rfl rfl (St.start w No) ?_; refine yA ?_; refine aI rfl ?_; refine yB ?_; refine zq ?_; refine yA ?_; refine mI rfl ?_; refine zg (fun _ => R_ltN (a := i) (b := 0) rfl rfl) ?_; refine mB rfl ?_; refine zd (t := 7) rfl (fun h1 => ?_) (fun h1 => ?_)
 ·omega
 ·refine zw rfl rfl (bF h1) ?_; refine mI rfl ?_; refine zw rfl rfl (bF h1) ?_; refine zg (fun _ => R_quoN (a := i) (b := 64) rfl rfl (by omega) (by omega)) ?_; refine zw rfl rfl (bF h1) ?_; refine mS rfl ?_; refine zw rfl rfl (bF h1) ?_; refine jj sl42 rfl ?_; refine zw rfl rfl (bF h1) ?_; refine zg (fun _ => R_geN (a := (i / 64)) (b := k) rfl rfl) ?_; refine jF (bF h1) rfl ?_; refine yB ?_; refine zD rfl (fun h2 => ?_) (fun h2 => ?_)
  ·have hz := bit_out hA.lt h2
   refine yA ?_; refine aI rfl ?_; refine yB ?_; refine ze ?_; refine zt (?_)
   refine zo (v := .int _ _) rfl rfl rfl ?_; exact fun w' hw => ⟨by rw [hz]; rfl, hw.fr (w, No) zm0⟩
  ·refine zi ?_; refine zk ?_; refine yA ?_; refine mS rfl ?_; refine mI rfl ?_; refine zg (fun _ => R_quoN (a := i) (b := 64) rfl rfl (by omega) (by omega)) ?_; refine zg (fun _ => R_iaK (i := (i / 64)) sl42 rfl ((Kn.old hA).ptr (by omega)) rfl (by omega)) ?_; refine zl (v := .int .u64 ((dg Go.Num.B n (i / 64)) : Nat)) z75 rfl (fun w h => (Kn.old hA).ca 0 rfl (by omega) h) ?_; refine mI rfl ?_; refine zg (fun _ => R_remU (a := i) (b := 64) rfl rfl (by omega)) ?_; refine zg (fun _ => R_convK (n := (i % 64)) un3 un191 rfl (wrap_u (by omega))) ?_
   refine zg (fun _ => R_shrU (a := (dg Go.Num.B n (i / 64))) (n := (i % 64)) rfl rfl (by omega)) ?_; refine zg (fun _ => R_and1 (a := ((dg Go.Num.B n (i / 64)) / 2 ^ (i % 64))) rfl rfl (by exact Nat.lt_of_le_of_lt (Nat.div_le_self _ _) (dg_lt B_pos _ _))) ?_; refine aI rfl ?_; refine yB ?_; refine ze ?_; refine zo (v := .int _ _) rfl rfl rfl ?_; exact fun w' hw => ⟨by rw [limb_bit], hw.fr (w, No) zm0⟩
theorem bl_cap {n k : Nat} (h : n < Go.Num.B ^ k) : bl n ≤ 64 * k := bl_iff.2 (by rw [← B_pow]; exact h)
theorem rBits_ok {a : Option Addr} {k c n : Nat} (w : World) (hA : Nm w a k c n) (hk : k ≤ 4000000) :
  Ret Tryz.prog 76 #[.slice a k c] w (fun v w' => v = .int .i64 (bl n : Nat) ∧ Ext w w') := by
 refine enter (S := No) (l := [_]) (L := []) 19 Tryz.func76 rfl rfl rfl (St.start w No) ?_; refine yA ?_; refine aI rfl ?_; refine yC ?_; refine mS rfl ?_; refine jj sl42 rfl ?_; refine zg (fun _ => R_mulN (n := 64) (b := k) rfl rfl (by omega)) ?_; refine aI rfl ?_; refine yB ?_; refine zq ?_; refine zB ?_; refine c_loop (fun m9 e B L => ∃ (j : Nat), e 0 = .slice a k c ∧ e 3 = .int .i64 (j : Nat) ∧ B = [(w, No)] ∧ L = [] ∧ j ≤ 64 * k ∧ bl n ≤ j ∧ m9 = j + 1) _ ⟨64 * k, rfl, rfl, rfl, rfl, Nat.le_refl _, bl_cap hA.lt, rfl⟩ ?_
 rintro m9 e B L ⟨j, e0_1, e3_1, rfl, rfl, hj, hlt, rfl⟩
 refine zq ?_; refine yA ?_; refine mI e3_1 ?_; refine zg (fun _ => R_gtN (a := j) (b := 0) rfl rfl) ?_; refine mB rfl ?_; refine zd (t := 9) rfl (fun h1 => ?_) (fun h1 => ?_)
 ·obtain ⟨i, rfl⟩ : ∃ i, j = i + 1 := ⟨j - 1, by omega⟩
  refine zw rfl rfl (bT h1) ?_; refine mS e0_1 ?_; refine zw rfl rfl (bT h1) ?_; refine mI e3_1 ?_; refine zw rfl rfl (bT h1) ?_; refine zg (fun _ => R_subN (n := (i + 1)) (b := 1) rfl rfl (by omega) (by omega)) ?_; refine zw rfl rfl (bT h1) ?_; refine jD Tryz.func120 (fun w h => rbit_ok w ((Kn.old hA).at_ 0 rfl h) ((i + 1) - 1) ⟨by omega, by omega⟩) ?_; refine zw rfl rfl (bT h1) ?_; refine zg (fun _ => R_eqN (a := (n / 2 ^ ((i + 1) - 1) % 2)) (b := 0) rfl rfl) ?_; refine jT (bT h1) rfl ?_; refine yB ?_; refine zD rfl (fun h2 => ?_) (fun h2 => ?_)
  ·refine zi ?_; refine zk ?_; refine zB ?_; refine zr ?_; refine mI e3_1 ?_; refine zg (fun _ => R_subN (n := (i + 1)) (b := 1) rfl rfl (by omega) (by omega)) ?_; refine aI rfl ?_; refine zn ?_; refine zO (?_)
   exact k_again _ (by omega) ⟨i, e0_1, rfl, rfl, rfl, by omega, bl_down hlt h2, rfl⟩
  ·have hz : bl n = i + 1 := bl_up hlt h2
   refine zX ?_; refine zx (zx (b_here rfl (zk ?_))); refine yA ?_; refine mI e3_1 ?_; refine aI rfl ?_; refine yB ?_; refine ze ?_; refine zo (v := .int _ _) rfl rfl rfl ?_; exact fun w' hw => ⟨by rw [hz], hw.fr (w, No) zm0⟩
 ·have hz : bl n = j := (by omega)
  refine zs rfl rfl (bF h1) ?_; refine zs rfl rfl (bF h1) ?_; refine zs rfl rfl (bF h1) ?_; refine zs rfl rfl (bF h1) ?_; refine zs rfl rfl (bF h1) ?_; refine jF (bF h1) rfl ?_; refine yB ?_; refine zG rfl ?_; refine zX ?_; refine zx (zx (b_here rfl (zk ?_))); refine yA ?_; refine mI e3_1 ?_; refine aI rfl ?_; refine yB ?_; refine ze ?_; refine zo (v := .int _ _) rfl rfl rfl ?_; exact fun w' hw => ⟨by rw [hz], hw.fr (w, No) zm0⟩
theorem dg32_out {n k i : Nat} (hn : n < Go.Num.B ^ k) (h : k ≤ i / 2) : dg b32 n i = 0 := by
 refine dg_out (Nat.lt_of_lt_of_le hn ?_)
 rw [B_b32]
 exact Nat.pow_le_pow_right b32_pos (by omega)
theorem dg32_even {i : Nat} (n : Nat) (h : i % 2 = 0) : dg Go.Num.B n (i / 2) % 4294967296 = dg b32 n i := by
 have := (dg_half n (i / 2)).1
 rw [show 2 * (i / 2) = i by omega] at this
 exact this.symm
theorem dg32_odd {i : Nat} (n : Nat) (h : ¬ i % 2 = 0) : dg Go.Num.B n (i / 2) / 4294967296 = dg b32 n i := by
 have := (dg_half n (i / 2)).2
 rw [show 2 * (i / 2) + 1 = i by omega] at this
 exact this.symm
theorem rdigit_ok {a : Option Addr} {k c n : Nat} (w : World) (hA : Nm w a k c n) (i : Nat) (hs : k ≤ 4000000 ∧ i ≤ 1000000000) :
  Ret Tryz.prog 125 #[.slice a k c, .int .i64 (i : Nat)] w (fun v w' => v = .int .u64 (dg b32 n i : Nat) ∧ Ext w w') := by
 refine enter (S := No) (l := [_, _]) (L := []) 29 Tryz.func125 rfl rfl rfl (St.start w No) ?_; refine yA ?_; refine aI rfl ?_; refine yB ?_; refine zq ?_; refine yA ?_; refine mI rfl ?_; refine zg (fun _ => R_ltN (a := i) (b := 0) rfl rfl) ?_; refine mB rfl ?_; refine zd (t := 7) rfl (fun h1 => ?_) (fun h1 => ?_)
 ·omega
 ·refine zw rfl rfl (bF h1) ?_; refine mI rfl ?_; refine zw rfl rfl (bF h1) ?_; refine zg (fun _ => R_quoN (a := i) (b := 2) rfl rfl (by omega) (by omega)) ?_; refine zw rfl rfl (bF h1) ?_; refine mS rfl ?_; refine zw rfl rfl (bF h1) ?_; refine jj sl42 rfl ?_; refine zw rfl rfl (bF h1) ?_; refine zg (fun _ => R_geN (a := (i / 2)) (b := k) rfl rfl) ?_; refine jF (bF h1) rfl ?_; refine yB ?_; refine zD rfl (fun h2 => ?_) (fun h2 => ?_)
  ·refine yA ?_; refine aI rfl ?_; refine yB ?_; refine ze ?_; refine zt (?_)
   refine zo (v := .int _ _) rfl rfl rfl ?_; exact fun w' hw => ⟨by rw [dg32_out hA.lt h2]; rfl, hw.fr (w, No) zm0⟩
  ·refine zi ?_; refine zk ?_; refine zq ?_; refine yA ?_; refine mI rfl ?_; refine zg (fun _ => R_remU (a := i) (b := 2) rfl rfl (by omega)) ?_; refine zg (fun _ => R_eqN (a := (i % 2)) (b := 0) rfl rfl) ?_; refine yB ?_; refine zD rfl (fun h3 => ?_) (fun h3 => ?_)
   ·refine yA ?_; refine mS rfl ?_; refine mI rfl ?_; refine zg (fun _ => R_quoN (a := i) (b := 2) rfl rfl (by omega) (by omega)) ?_; refine zg (fun _ => R_iaK (i := (i / 2)) sl42 rfl ((Kn.old hA).ptr (by omega)) rfl (by omega)) ?_; refine zl (v := .int .u64 ((dg Go.Num.B n (i / 2)) : Nat)) z75 rfl (fun w h => (Kn.old hA).ca 0 rfl (by omega) h) ?_; refine zg (fun _ => R_remU (a := (dg Go.Num.B n (i / 2))) (b := 4294967296) rfl rfl (by omega)) ?_; refine aI rfl ?_; refine yB ?_; refine ze ?_; refine zt (?_)
    refine zo (v := .int _ _) rfl rfl rfl ?_; exact fun w' hw => ⟨by rw [dg32_even n h3], hw.fr (w, No) zm0⟩
   ·refine zi ?_; refine zk ?_; refine yA ?_; refine mS rfl ?_; refine mI rfl ?_; refine zg (fun _ => R_quoN (a := i) (b := 2) rfl rfl (by omega) (by omega)) ?_; refine zg (fun _ => R_iaK (i := (i / 2)) sl42 rfl ((Kn.old hA).ptr (by omega)) rfl (by omega)) ?_; refine zl (v := .int .u64 ((dg Go.Num.B n (i / 2)) : Nat)) z75 rfl (fun w h => (Kn.old hA).ca 0 rfl (by omega) h) ?_; refine zg (fun _ => R_quoU (a := (dg Go.Num.B n (i / 2))) (b := 4294967296) rfl rfl (by omega) (by exact dg_lt B_pos _ _)) ?_; refine aI rfl ?_; refine yB ?_; refine ze ?_; refine zo (v := .int _ _) rfl rfl rfl ?_; exact fun w' hw => ⟨by rw [dg32_odd n h3], hw.fr (w, No) zm0⟩
def wid (n k : Nat) : Nat := vlb Go.Num.B (dgs b32 n k)
theorem dig_up (n k : Nat) : Dig Go.Num.B (dgs b32 n k) := fun x hx => Nat.lt_trans (dgs_dig b32_pos n k x hx) (by decide)
theorem wid_lt (n k : Nat) : wid n k < Go.Num.B ^ k := by have := vlb_lt (dig_up n k); rwa [dgs_len] at this
theorem wid_succ (n k : Nat) : wid n k + Go.Num.B ^ k * dg b32 n k = wid n (k + 1) := by unfold wid; rw [dgs_succ, vlb_snoc, dgs_len]
theorem wid_dg {n k i : Nat} (h : i < k) : dg Go.Num.B (wid n k) i = dg b32 n i := dg_vlb B_pos (dig_up n k) (dgs_get h)
theorem wid_congr {n m k : Nat} (h : ∀ i, i < k → dg b32 n i = dg b32 m i) : wid n k = wid m k := lmV_inj (wid_lt n k) (wid_lt m k) fun j hj => by rw [wid_dg hj, wid_dg hj, h j hj]
theorem wid_set {n k j d : Nat} (hd : d < b32) (hj : j < k) : setd Go.Num.B (wid n k) j d = wid (setd b32 n j d) k := by
 have hdB : d < Go.Num.B := Nat.lt_trans hd (by decide)
 refine lmV_inj (setd_lt B_pos hdB (wid_lt n k) hj) (wid_lt _ k) fun i hi => ?_
 rw [wid_dg hi]
 by_cases h : i = j
 ·subst h; rw [setd_same B_pos hdB, setd_same b32_pos hd]
 ·rw [setd_other B_pos hdB h, setd_other b32_pos hd h, wid_dg hi]
theorem made_e {N i k : Nat} (hi : i < k) (h : i % 2 = 0) : setd Go.Num.B (N % b32 ^ i) (i / 2) (dg Go.Num.B (wid N k) i) = N % b32 ^ (i + 1) := by
 have e : Go.Num.B ^ (i / 2) = b32 ^ i := by rw [B_b32, show 2 * (i / 2) = i by omega]
 rw [setd_zero (dg_out (by rw [e]; exact Nat.mod_lt _ (b32pow_pos i))), e, wid_dg hi, mod_step]
theorem made_o {N i k : Nat} (hi : i < k) (h : ¬ i % 2 = 0) : setd Go.Num.B (N % b32 ^ i) (i / 2) (dg Go.Num.B (N % b32 ^ i) (i / 2) + dg Go.Num.B (wid N k) i * 4294967296) = N % b32 ^ (i + 1) ∧ dg Go.Num.B (N % b32 ^ i) (i / 2) + dg Go.Num.B (wid N k) i * 4294967296 < Go.Num.B := by
 have e : Go.Num.B ^ (i / 2) * 4294967296 = b32 ^ i := by
  rw [B_b32, show (4294967296 : Nat) = b32 ^ 1 by decide, ← Nat.pow_add, show 2 * (i / 2) + 1 = i by omega]
 refine ⟨?_, ?_⟩
 ·rw [setd_add, Nat.mul_comm (dg _ _ i), ← Nat.mul_assoc, e, wid_dg hi, mod_step]
 ·have h1 : dg Go.Num.B (N % b32 ^ i) (i / 2) < 4294967296 := by
   unfold dg
   refine Nat.lt_of_le_of_lt (Nat.mod_le _ _) ((Nat.div_lt_iff_lt_mul (Bpow_pos _)).2 ?_)
   rw [Nat.mul_comm, e]; exact Nat.mod_lt _ (b32pow_pos i)
  have h2 : dg Go.Num.B (wid N k) i < 4294967296 := by rw [wid_dg hi]; exact dg_lt b32_pos _ _
  have hBv : Go.Num.B = 18446744073709551616 := rfl
  omega
theorem made_lti {N k i : Nat} (h : i ≤ k) : N % b32 ^ i < Go.Num.B ^ ((k + 1) / 2) := by
 refine Nat.lt_of_lt_of_le (Nat.mod_lt _ (b32pow_pos i)) ?_
 rw [B_b32]; exact Nat.pow_le_pow_right b32_pos (by omega)
section
variable {P : Program} {ops : Array Oper} {Q : Exit → Act → World → Prop} {c : Cf} {e : Env} {B : Base} {L : Heap} {S : World → Prop} {fuel : Nat} {listed : Array Bool} {x y : Operand} {z k : Nat} {t : TypeId}
theorem o_putU {T2 ty : TypeId} {b j dv z' q : Nat} {pp : String} {aa : Array Edge} (i : Nat) (ho : ops[q]? = some ⟨none, .store t x y, ty, pp, aa, none⟩) (hi : L[i]? = some (b, cel (lmV z k) T2)) (hz : szB P t 1 false = true) (hx : ev c.n e x = .pointer (some ⟨b, 0 + j * 1, none⟩)) (hy : ev c.n e y = .int .u64 (dv : Nat)) (hd : dv < Go.Num.B) (hj : j < k) (he : setd Go.Num.B z j dv = z')
  (h : WH P ops c Q S fuel (listed.setIfInBounds q true) e B (L.set i (b, cel (lmV z' k) T2))) : WO P ops c Q S fuel listed q e B L :=
 zJ (v := .int .u64 (dv : Nat)) (vs := [.int .u64 (dv : Nat)]) i ho hi hz hx hy rfl rfl rfl (by rw [lmV_len, Nat.ble_eq]; omega) (lmV_putE hd hj he) h
end
theorem made_ok {a : Option Addr} {k c N : Nat} (w : World) (hA : Nm w a k c (wid N k)) (hk : k ≤ 4000000) :
  Ret Tryz.prog 129 #[.slice a k c] w (Tel (fun a c => .slice a (sz (N % b32 ^ k)) c) (sz (N % b32 ^ k)) (N % b32 ^ k) w) := by
 refine enter (S := No) (l := [_]) (L := []) 44 Tryz.func129 rfl rfl rfl (St.start w No) ?_; refine yA ?_; refine za (v := .slice _ _ _) rfl ?_; refine yC ?_; refine mS rfl ?_; refine jj sl41 rfl ?_; refine zg (fun _ => R_addN (n := k) (b := 1) rfl rfl (by omega)) ?_; refine zg (fun _ => R_quoN (a := (k + 1)) (b := 2) rfl rfl (by omega) (by omega)) ?_; refine w_makeU (n := ((k + 1) / 2)) slt42 rfl rfl (by omega) (by omega) (fun ob gob uob => ?_)
 refine za (v := .slice _ _ _) rfl ?_; refine yB ?_; refine zq ?_; refine yA ?_; refine aI rfl ?_; refine yB ?_; refine zB ?_; refine c_st (B' := _) (L' := [(ob, cel (lmV (N % b32 ^ 0) ((k + 1) / 2)) 75)]) (fun w h => by rw [Nat.pow_zero, Nat.mod_one]; exact h) ?_; refine c_loop (fun m9 e B L => ∃ (i : Nat), e 0 = .slice a k c ∧ e 3 = .slice (some ⟨ob, 0, none⟩) ((k + 1) / 2) ((k + 1) / 2) ∧ e 4 = .int .i64 (i : Nat) ∧ B = [(w, No)] ∧ L = [(ob, cel (lmV (N % b32 ^ i) ((k + 1) / 2)) 75)] ∧ i ≤ k ∧ m9 = k - i) _ ⟨0, rfl, rfl, rfl, rfl, rfl, Nat.zero_le _, rfl⟩ ?_
 rintro m9 e B L ⟨i, e0_1, e3_1, e4_1, rfl, rfl, hi, rfl⟩
 refine zq ?_; refine yA ?_; refine mI e4_1 ?_; refine mS e0_1 ?_; refine jj sl41 rfl ?_; refine zg (fun _ => R_ltN (a := i) (b := k) rfl rfl) ?_; refine yB ?_; refine zD rfl (fun h1 => ?_) (fun h1 => ?_)
 ·have hik := h1
  refine zi ?_; refine zk ?_; refine zq ?_; refine zB ?_; refine yA ?_; refine mI e4_1 ?_; refine zg (fun _ => R_remU (a := i) (b := 2) rfl rfl (by omega)) ?_; refine zg (fun _ => R_eqN (a := (i % 2)) (b := 0) rfl rfl) ?_; refine yB ?_; refine zD rfl (fun h2 => ?_) (fun h2 => ?_)
  ·refine zr ?_; refine mS e3_1 ?_; refine mI e4_1 ?_; refine zg (fun _ => R_quoN (a := i) (b := 2) rfl rfl (by omega) (by omega)) ?_; refine mS e0_1 ?_; refine mI e4_1 ?_; refine zg (fun _ => R_iaK (i := i) sl41 rfl ((Kn.old hA).ptr (by omega)) rfl (by omega)) ?_; refine zl (v := .int .u64 ((dg Go.Num.B (wid N k) i) : Nat)) z75 rfl (fun w h => (Kn.old hA).ca 0 rfl (by omega) h) ?_; refine zg (fun _ => R_iaN (i := (i / 2)) sl42 rfl rfl (by omega)) ?_; refine w_putU (dv := (dg Go.Num.B (wid N k) i)) (z' := (N % b32 ^ (i + 1))) (j := (i / 2)) 0 rfl z75 rfl rfl (by exact dg_lt B_pos _ _) (by omega) (made_e hik h2) ?_
   refine zn ?_; refine zO (zk ?_); refine zr ?_; refine mI e4_1 ?_; refine zg (fun _ => R_addN (n := i) (b := 1) rfl rfl (by omega)) ?_; refine aI rfl ?_; refine zn ?_; exact k_again _ (by omega) ⟨i + 1, e0_1, e3_1, rfl, rfl, rfl, by omega, rfl⟩
  ·have hmo := made_o (N := N) hik h2
   refine c_held (St [(w, No)] []) mixed ?_; refine zh (v := .slice _ _ _) 0 rfl (by kernel_rfl) rfl rfl (fun w h => (h).drop (List.nil_sublist _)) (fun w h => R_move e3_1) ?_; refine zh (v := .int _ _) 1 rfl (by kernel_rfl) rfl rfl (fun w h => (h).drop (List.nil_sublist _)) (fun w h => R_move e4_1) ?_; refine zh2 2 rfl rfl (fun w h => (h).drop (List.nil_sublist _)) (fun w h => R_quoN (a := i) (b := 2) rfl rfl (by omega) (by omega)) ?_; refine zh (v := .slice _ _ _) 3 rfl (by kernel_rfl) rfl rfl (fun w h => (h).drop (List.nil_sublist _)) (fun w h => R_move e3_1) ?_; refine zh (v := .int _ _) 4 rfl (by kernel_rfl) rfl rfl (fun w h => (h).drop (List.nil_sublist _)) (fun w h => R_move e4_1) ?_; refine zh2 5 rfl rfl (fun w h => (h).drop (List.nil_sublist _)) (fun w h => R_quoN (a := i) (b := 2) rfl rfl (by omega) (by omega)) ?_
   refine zh2 6 rfl rfl (fun w h => (h).drop (List.nil_sublist _)) (fun w h => R_iaN (i := (i / 2)) sl42 rfl rfl (by omega)) ?_; refine zh (v := .slice _ _ _) 8 rfl (by kernel_rfl) rfl rfl (fun w h => (h).drop (List.nil_sublist _)) (fun w h => R_move e0_1) ?_; refine zh (v := .int _ _) 9 rfl (by kernel_rfl) rfl rfl (fun w h => (h).drop (List.nil_sublist _)) (fun w h => R_move e4_1) ?_; refine zh2 10 rfl rfl (fun w h => (h).drop (List.nil_sublist _)) (fun w h => R_iaK (i := i) sl41 rfl ((Kn.old hA).ptr (by omega)) rfl (by omega)) ?_; refine zh (v := .int .u64 ((dg Go.Num.B (wid N k) i) : Nat)) 11 rfl (by kernel_rfl) rfl rfl (fun w h => (h).drop (List.nil_sublist _)) (fun w h => R_ld1 z75 rfl ((Kn.old hA).ca 0 rfl (by omega) h)) ?_
   refine zh2 12 rfl rfl (fun w h => (h).drop (List.nil_sublist _)) (fun w h => R_mulU (a := (dg Go.Num.B (wid N k) i)) (b := 4294967296) rfl rfl (by omega)) ?_; refine zH2 7 (fun w h => (h).drop (List.nil_sublist _)) ?_; refine o_run (v := .int .u64 ((dg Go.Num.B (N % b32 ^ i) (i / 2)) : Nat)) rfl rfl rfl (fun w h => R_ld1 z75 rfl (cel_lm 0 rfl (by omega) h)) ?_; refine zh2 13 rfl rfl (fun w h => (h).drop (List.nil_sublist _)) (fun w h => R_addU (a := (dg Go.Num.B (N % b32 ^ i) (i / 2))) (b := ((dg Go.Num.B (wid N k) i) * 4294967296)) rfl rfl (by omega)) ?_; refine zh2 14 rfl rfl (fun w h => (h).drop (List.nil_sublist _)) (fun w h => R_iaN (i := (i / 2)) sl42 rfl rfl (by omega)) ?_; refine zH2 15 (fun w h => (h).drop (List.nil_sublist _)) ?_
   refine o_putU (dv := ((dg Go.Num.B (N % b32 ^ i) (i / 2)) + ((dg Go.Num.B (wid N k) i) * 4294967296))) (z' := (N % b32 ^ (i + 1))) (j := (i / 2)) 0 rfl rfl z75 rfl rfl (by exact hmo.2) (by omega) (by exact hmo.1) ?_
   clear hmo
   refine zN2 (fun w h => (h).drop (List.nil_sublist _)) ?_; refine zO (zk ?_); refine zr ?_; refine mI e4_1 ?_; refine zg (fun _ => R_addN (n := i) (b := 1) rfl rfl (by omega)) ?_; refine aI rfl ?_; refine zn ?_; exact k_again _ (by omega) ⟨i + 1, e0_1, e3_1, rfl, rfl, rfl, by omega, rfl⟩
 ·obtain rfl : i = k := (by omega)
  refine zX ?_; refine zx (zx (b_here rfl (zk ?_))); refine yA ?_; refine mS e3_1 ?_; refine w_tel (fun w => zR Tryz.func80 rfl rfl rfl) rfl rfl (fun w h => rNorm_ok w (Nm.own 0 rfl (made_lti (Nat.le_refl _)) (Nat.le_refl _) h) (by omega)) (fun x3 a3 c3 hK3 hN3 => ?_)
  refine za (v := .slice _ _ _) rfl ?_; refine yB ?_; refine ze ?_; refine zo (v := .slice _ _ _) rfl rfl rfl ?_; exact fun w' hw => ⟨_, _, rfl, (hK3.at_ 0 rfl hw), (hN3 _ zm0), hw.fr (w, No) zm1⟩
end Go.Proofs.YtikdkendinnalaaGreatDoor
end
section
namespace Go.Proofs.YtikdkendinnalaaGreatDoor
open Go.RowKit Go.Sx
open Go.Num
theorem top0 {n k m : Nat} (h : n < Go.Num.B ^ k) (hk : k ≤ m) : n / b32 ^ (2 * m) = 0 := Nat.div_eq_of_lt (Nat.lt_of_lt_of_le h (by rw [B_b32]; exact Nat.pow_le_pow_right b32_pos (by omega)))
theorem cmpN_ng {n m : Nat} (h : n < m) : cmpN n m = -1 := by unfold cmpN; rw [if_pos h]
theorem cmpN_gt {n m : Nat} (h : m < n) : cmpN n m = 1 := by unfold cmpN; rw [if_neg (by omega), if_pos h]
theorem rCmp_ok {a a2 : Option Addr} {k c k2 c2 n m : Nat} (w : World) (hA : Nm w a k c n) (hB : Nm w a2 k2 c2 m) (hs : k ≤ 4000000 ∧ k2 ≤ 4000000) :
  Ret Tryz.prog 127 #[.slice a k c, .slice a2 k2 c2] w (fun v w' => v = .int .i64 (cmpN n m) ∧ Ext w w') := by
 refine enter (S := No) (l := [_, _]) (L := []) 31 Tryz.func127 rfl rfl rfl (St.start w No) ?_; refine yA ?_; refine aI rfl ?_; refine yB ?_; refine zq ?_; refine yA ?_; refine mS rfl ?_; refine jj sl42 rfl ?_; refine mS rfl ?_; refine jj sl42 rfl ?_; refine zg (fun _ => R_maxN (a := k) (b := k2) rfl rfl) ?_; refine zg (fun _ => R_mulN (n := 2) (b := (max k k2)) rfl rfl (by omega)) ?_; refine zg (fun _ => R_subi rfl rfl (by omega)) ?_; refine aI rfl ?_; refine yB ?_; refine zB ?_
 refine c_loop (fun m9 e B L => ∃ (j : Nat), e 0 = .slice a k c ∧ e 1 = .slice a2 k2 c2 ∧ e 5 = .int .i64 ((j : Nat) - 1 : Int) ∧ B = [(w, No)] ∧ L = [] ∧ j ≤ (2 * max k k2) ∧ n / b32 ^ j = m / b32 ^ j ∧ m9 = j + 1) _ ⟨(2 * max k k2), rfl, rfl, rfl, rfl, rfl, Nat.le_refl _, (top0 hA.lt (Nat.le_max_left _ _)).trans (top0 hB.lt (Nat.le_max_right _ _)).symm, rfl⟩ ?_
 rintro m9 e B L ⟨j, e0_1, e1_1, e5_1, rfl, rfl, hj, hE, rfl⟩
 refine zq ?_; refine yA ?_; refine mI e5_1 ?_; refine jh rfl rfl ?_; refine yB ?_; refine zD rfl (fun h1 => ?_) (fun h1 => ?_)
 ·obtain ⟨i, rfl⟩ : ∃ i, j = i + 1 := ⟨j - 1, by omega⟩
  refine zi ?_; refine zk ?_; refine zq ?_; refine zB ?_; refine zq ?_; refine yA ?_; refine mS e0_1 ?_; refine mI (e5_1.trans (congrArg (Value.int .i64) (show (((i + 1 : Nat) : Int) - 1) = (i : Nat) by omega))) ?_; refine jD Tryz.func125 (fun w h => rdigit_ok w ((Kn.old hA).at_ 0 rfl h) i ⟨by omega, by omega⟩) ?_; refine mS e1_1 ?_; refine mI (e5_1.trans (congrArg (Value.int .i64) (show (((i + 1 : Nat) : Int) - 1) = (i : Nat) by omega))) ?_; refine jD Tryz.func125 (fun w h => rdigit_ok w ((Kn.old hB).at_ 0 rfl h) i ⟨by omega, by omega⟩) ?_; refine zg (fun _ => R_ltN (a := (dg b32 n i)) (b := (dg b32 m i)) rfl rfl) ?_; refine yB ?_
  refine zD rfl (fun h2 => ?_) (fun h2 => ?_)
  ·have hc : cmpN n m = -1 := cmpN_ng (top_lt hE h2)
   refine yA ?_; refine aI rfl ?_; refine yB ?_; refine ze ?_; refine zt (zb (zt (zt (zb (zt (?_))))))
   refine zo (v := .int _ _) rfl rfl rfl ?_; exact fun w' hw => ⟨by rw [hc], hw.fr (w, No) zm0⟩
  ·refine zi ?_; refine zk ?_; refine yA ?_; refine mS e0_1 ?_; refine mI (e5_1.trans (congrArg (Value.int .i64) (show (((i + 1 : Nat) : Int) - 1) = (i : Nat) by omega))) ?_; refine jD Tryz.func125 (fun w h => rdigit_ok w ((Kn.old hA).at_ 0 rfl h) i ⟨by omega, by omega⟩) ?_; refine mS e1_1 ?_; refine mI (e5_1.trans (congrArg (Value.int .i64) (show (((i + 1 : Nat) : Int) - 1) = (i : Nat) by omega))) ?_; refine jD Tryz.func125 (fun w h => rdigit_ok w ((Kn.old hB).at_ 0 rfl h) i ⟨by omega, by omega⟩) ?_; refine zg (fun _ => R_gtN (a := (dg b32 n i)) (b := (dg b32 m i)) rfl rfl) ?_; refine yB ?_; refine zD rfl (fun h3 => ?_) (fun h3 => ?_)
   ·have hc : cmpN n m = 1 := cmpN_gt (top_lt hE.symm h3)
    refine yA ?_; refine aI rfl ?_; refine yB ?_; refine ze ?_; refine zb (zt (zt (zb (zt (?_)))))
    refine zo (v := .int _ _) rfl rfl rfl ?_; exact fun w' hw => ⟨by rw [hc], hw.fr (w, No) zm0⟩
   ·refine zi ?_; refine zO (zk ?_); refine zr ?_; refine mI (e5_1.trans (congrArg (Value.int .i64) (show (((i + 1 : Nat) : Int) - 1) = (i : Nat) by omega))) ?_; refine zg (fun _ => R_subi rfl rfl (by omega)) ?_; refine aI rfl ?_; refine zn ?_; exact k_again _ (by omega) ⟨i, e0_1, e1_1, rfl, rfl, rfl, by omega, top_eq hE (by omega), rfl⟩
 ·obtain rfl : j = 0 := (by omega); rw [Nat.pow_zero, Nat.div_one, Nat.div_one] at hE; have hc : cmpN n m = 0 := (by rw [hE]; exact cmpN_self m)
  refine zX ?_; refine zx (zx (b_here rfl (zk ?_))); refine yA ?_; refine aI rfl ?_; refine yB ?_; refine ze ?_; refine zo (v := .int _ _) rfl rfl rfl ?_; exact fun w' hw => ⟨by rw [hc], hw.fr (w, No) zm0⟩
theorem add_dig (n m i : Nat) : (dg b32 n i + dg b32 m i + (n % b32 ^ i + m % b32 ^ i) / b32 ^ i) % 4294967296 = dg b32 (n + m) i ∧ (dg b32 n i + dg b32 m i + (n % b32 ^ i + m % b32 ^ i) / b32 ^ i) / 4294967296 = (n % b32 ^ (i + 1) + m % b32 ^ (i + 1)) / b32 ^ (i + 1) ∧ (n % b32 ^ i + m % b32 ^ i) / b32 ^ i ≤ 1 := by
 have hp := b32pow_pos i
 have h1 := mod_step b32 n i
 have h2 := mod_step b32 m i
 have hn := Nat.div_add_mod n (b32 ^ i)
 have hm := Nat.div_add_mod m (b32 ^ i)
 have hl1 := Nat.mod_lt n hp
 have hl2 := Nat.mod_lt m hp
 have e1 : (n + m) / b32 ^ i = n / b32 ^ i + m / b32 ^ i + (n % b32 ^ i + m % b32 ^ i) / b32 ^ i := by
  have : n + m = (n % b32 ^ i + m % b32 ^ i) + b32 ^ i * (n / b32 ^ i + m / b32 ^ i) := by rw [Nat.mul_add]; omega
  conv => lhs; rw [this]
  rw [Nat.add_mul_div_left _ _ hp]; omega
 have e2 : (n % b32 ^ (i + 1) + m % b32 ^ (i + 1)) / b32 ^ (i + 1) = (dg b32 n i + dg b32 m i + (n % b32 ^ i + m % b32 ^ i) / b32 ^ i) / b32 := by
  have : n % b32 ^ (i + 1) + m % b32 ^ (i + 1) = (n % b32 ^ i + m % b32 ^ i) + b32 ^ i * (dg b32 n i + dg b32 m i) := by rw [h1, h2, Nat.mul_add]; omega
  rw [this, Nat.pow_succ, ← Nat.div_div_eq_div_mul, Nat.add_mul_div_left _ _ hp]
  congr 1; omega
 refine ⟨?_, e2.symm, ?_⟩
 ·show _ = (n + m) / b32 ^ i % b32
  rw [e1]
  unfold dg
  show _ % b32 = _
  rw [Nat.add_mod, ← Nat.add_mod (n / b32 ^ i), ← Nat.add_mod]
 ·have : (n % b32 ^ i + m % b32 ^ i) / b32 ^ i < 2 := (Nat.div_lt_iff_lt_mul hp).2 (by omega)
  omega
theorem sum_lt {n m k k2 : Nat} (hn : n < Go.Num.B ^ k) (hm : m < Go.Num.B ^ k2) : (n + m) % b32 ^ (2 * max k k2 + 1) = n + m := by
 refine Nat.mod_eq_of_lt ?_
 rw [B_b32] at hn hm
 have h1 := Nat.lt_of_lt_of_le hn (Nat.pow_le_pow_right b32_pos (show 2 * k ≤ 2 * max k k2 by omega))
 have h2 := Nat.lt_of_lt_of_le hm (Nat.pow_le_pow_right b32_pos (show 2 * k2 ≤ 2 * max k k2 by omega))
 rw [Nat.pow_succ]
 have h3 : b32 ^ (2 * max k k2) * 2 ≤ b32 ^ (2 * max k k2) * b32 := Nat.mul_le_mul_left _ (by decide)
 omega
theorem rAdd0_ok {a a2 : Option Addr} {k c k2 c2 n m : Nat} (w : World) (hA : Nm w a k c n) (hB : Nm w a2 k2 c2 m) (hs : k ≤ 1000000 ∧ k2 ≤ 1000000) :
  Ret Tryz.prog 124 #[.slice a k c, .slice a2 k2 c2] w (Tel (fun a c => .slice a (sz ((n + m) % b32 ^ (2 * max k k2 + 1))) c) (sz ((n + m) % b32 ^ (2 * max k k2 + 1))) ((n + m) % b32 ^ (2 * max k k2 + 1)) w) := by
 refine enter (S := No) (l := [_, _]) (L := []) 37 Tryz.func124 rfl rfl rfl (St.start w No) ?_; refine yA ?_; refine za (v := .slice _ _ _) rfl ?_; refine yC ?_; refine za (v := .slice _ _ _) rfl ?_; refine yC ?_; refine aI rfl ?_; refine yB ?_; refine zq ?_; refine yA ?_; refine aI rfl ?_; refine yB ?_; refine zB ?_; refine c_st (B' := _) (L' := [] ++ []) (fun w h => h) ?_
 refine c_loop (fun m9 e B L => ∃ (cy i : Nat) (oa : Option Addr) (oc : Nat) (W : Heap), e 0 = .slice a k c ∧ e 1 = .slice a2 k2 c2 ∧ e 5 = .slice oa i oc ∧ e 6 = .int .u64 (cy : Nat) ∧ e 7 = .int .i64 (i : Nat) ∧ B = [(w, No)] ∧ L = W ++ [] ∧ i ≤ 2 * max k k2 + 1 ∧ cy = (n % b32 ^ i + m % b32 ^ i) / b32 ^ i ∧ Own 75 1 (.slice oa (i) oc) (lmV (wid (n + m) (i)) (i)) (i) W ∧ m9 = 2 * max k k2 + 1 - i) _ ⟨0, 0, none, 0, [], rfl, rfl, rfl, rfl, rfl, rfl, rfl, Nat.zero_le _, by simp [Nat.mod_one], Own.nil _ _, rfl⟩ ?_
 rintro m9 e B L ⟨cy, i, oa, oc, W, e0_1, e1_1, e5_1, e6_1, e7_1, rfl, rfl, hi, hcy, hO, rfl⟩
 refine zq ?_; refine yA ?_; refine mI e7_1 ?_; refine mS e0_1 ?_; refine jj sl42 rfl ?_; refine mS e1_1 ?_; refine jj sl42 rfl ?_; refine zg (fun _ => R_maxN (a := k) (b := k2) rfl rfl) ?_; refine zg (fun _ => R_mulN (n := 2) (b := (max k k2)) rfl rfl (by omega)) ?_; refine zg (fun _ => R_leN (a := i) (b := (2 * (max k k2))) rfl rfl) ?_; refine yB ?_; refine zD rfl (fun h1 => ?_) (fun h1 => ?_)
 ·have had := add_dig n m i; have hd1 := dg_lt b32_pos n i; have hd2 := dg_lt b32_pos m i; have hBv : Go.Num.B = 18446744073709551616 := rfl; have hb9 : b32 = 4294967296 := rfl; rw [← hcy] at had; have hdig := had.1; have hdB : (dg b32 n i + dg b32 m i + cy) % 4294967296 < Go.Num.B := Nat.lt_trans (Nat.mod_lt _ (by decide)) (by decide); have hcl := had.2.2
  refine zi ?_; refine zk ?_; refine zq ?_; refine zB ?_; refine yA ?_; refine mS e0_1 ?_; refine mI e7_1 ?_; refine jD Tryz.func125 (fun w h => rdigit_ok w ((Kn.old hA).at_ 0 rfl h) i ⟨by omega, by omega⟩) ?_; refine mS e1_1 ?_; refine mI e7_1 ?_; refine jD Tryz.func125 (fun w h => rdigit_ok w ((Kn.old hB).at_ 0 rfl h) i ⟨by omega, by omega⟩) ?_; refine zg (fun _ => R_addU (a := (dg b32 n i)) (b := (dg b32 m i)) rfl rfl (by omega)) ?_; refine mI e6_1 ?_; refine zg (fun _ => R_addU (a := ((dg b32 n i) + (dg b32 m i))) (b := cy) rfl rfl (by omega)) ?_
  refine aI rfl ?_; refine yC ?_; refine mS e5_1 ?_; refine mI rfl ?_; refine zg (fun _ => R_remU (a := (((dg b32 n i) + (dg b32 m i)) + cy)) (b := 4294967296) rfl rfl (by omega)) ?_; refine zS slt41 (by decide) rfl rfl (fun lb glb ulb => ?_)
  refine w_st (B' := _) (L' := [_] ++ (W ++ [])) (fun w h => h) ?_; refine w_appN (z := wid (n + m) (i)) (k := i) [_] slt41 rfl hO (wid_lt _ _) rfl (fun w h => Nm.one (h.at_ 0 rfl) (by first | omega | exact hdB)) (by omega) (fun v1 W1 hO1 => ?_)
  rw [hdig, wid_succ] at hO1; obtain ⟨a1, c1, rfl⟩ := hO1.slice
  refine za (v := .slice _ _ _) rfl ?_; refine yB ?_; refine zr ?_; refine mI rfl ?_; refine zg (fun _ => R_quoU (a := (((dg b32 n i) + (dg b32 m i)) + cy)) (b := 4294967296) rfl rfl (by omega) (by omega)) ?_; refine aI rfl ?_; refine zn ?_; refine zO (zk ?_); refine zr ?_; refine mI e7_1 ?_; refine zg (fun _ => R_addN (n := i) (b := 1) rfl rfl (by omega)) ?_; refine aI rfl ?_; refine zn ?_; refine zK (B' := [(w, No)]) (L' := W1 ++ []) (fun w h => h.d1) ?_; exact k_again _ (by omega) ⟨_, i + 1, a1, c1, W1, e0_1, e1_1, rfl, rfl, rfl, rfl, rfl, by omega, had.2.1, hO1, rfl⟩
 ·obtain rfl : i = 2 * max k k2 + 1 := (by omega); obtain ⟨a8, c8, h8, hM, _⟩ := hO.nm (wid_lt _ _); cases h8
  refine zX ?_; refine zx (zx (b_here rfl (zk ?_))); refine yA ?_; refine mS e5_1 ?_; refine w_tel (fun w => zR Tryz.func129 rfl rfl rfl) rfl rfl (fun w h => made_ok w (hM w (fun p hp => h.own p (List.mem_append_left _ hp))) (by omega)) (fun x2 a2 c2 hK2 hN2 => ?_)
  refine za (v := .slice _ _ _) rfl ?_; refine yB ?_; refine ze ?_; refine zo (v := .slice _ _ _) rfl rfl rfl ?_; exact fun w' hw => ⟨_, _, rfl, (hK2.at_ 0 rfl hw), (hN2 _ zm0), hw.fr (w, No) zm1⟩
theorem rAdd_ok {a a2 : Option Addr} {k c k2 c2 n m : Nat} (w : World) (hA : Nm w a k c n) (hB : Nm w a2 k2 c2 m) (hs : k ≤ 1000000 ∧ k2 ≤ 1000000) : Ret Tryz.prog 124 #[.slice a k c, .slice a2 k2 c2] w (Tel (fun a c => .slice a (sz (n + m)) c) (sz (n + m)) (n + m) w) := by
 have := rAdd0_ok w hA hB hs
 rwa [sum_lt hA.lt hB.lt] at this
theorem sub_mod9 {n m i : Nat} (h : m ≤ n) : (n - m) % b32 ^ i + m % b32 ^ i = n % b32 ^ i + b32 ^ i * (if n % b32 ^ i < m % b32 ^ i then 1 else 0) := by
 have hp := b32pow_pos i
 have h1 : ((n - m) % b32 ^ i + m % b32 ^ i) % b32 ^ i = n % b32 ^ i := by rw [← Nat.add_mod, Nat.sub_add_cancel h]
 have h2 := Nat.mod_lt (n - m) hp
 have h3 := Nat.mod_lt m hp
 have h4 := Nat.mod_lt n hp
 generalize hx : (n - m) % b32 ^ i = x at *
 generalize hy : m % b32 ^ i = y at *
 generalize hz : n % b32 ^ i = z at *
 generalize hpp : b32 ^ i = p at *
 by_cases hs : x + y < p
 ·rw [Nat.mod_eq_of_lt hs] at h1
  rw [if_neg (by omega)]; omega
 ·have h5 : (x + y) % p = x + y - p := by
   rw [Nat.mod_eq_sub_mod (by omega), Nat.mod_eq_of_lt (by omega)]
  rw [h5] at h1
  rw [if_pos (by omega)]; omega
theorem sub_dig {n m : Nat} (h : m ≤ n) (i : Nat) : dg b32 (n - m) i + dg b32 m i + (if n % b32 ^ i < m % b32 ^ i then 1 else 0) = dg b32 n i + b32 * (if n % b32 ^ (i + 1) < m % b32 ^ (i + 1) then 1 else 0) := by
 have hp := b32pow_pos i
 have h1 := sub_mod9 (i := i) h
 have h2 := sub_mod9 (i := i + 1) h
 obtain ⟨r, hr⟩ : ∃ r, r = (if n % b32 ^ i < m % b32 ^ i then 1 else 0) := ⟨_, rfl⟩
 obtain ⟨r2, hr2⟩ : ∃ r, r = (if n % b32 ^ (i + 1) < m % b32 ^ (i + 1) then 1 else 0) := ⟨_, rfl⟩
 rw [← hr] at h1 ⊢
 rw [← hr2] at h2 ⊢
 rw [mod_step, mod_step b32 m, mod_step b32 n, Nat.pow_succ, Nat.mul_assoc] at h2
 refine Nat.eq_of_mul_eq_mul_left hp ?_
 rw [Nat.mul_add, Nat.mul_add, Nat.mul_add]
 omega
theorem sub_prog {n m : Nat} (h : m ≤ n) (i : Nat) {r : Nat} (hr : r = (if n % b32 ^ i < m % b32 ^ i then 1 else 0)) : (4294967296 + dg b32 n i - dg b32 m i - r) % 4294967296 = dg b32 (n - m) i ∧ 1 - (4294967296 + dg b32 n i - dg b32 m i - r) / 4294967296 = (if n % b32 ^ (i + 1) < m % b32 ^ (i + 1) then 1 else 0) ∧ r ≤ 1 ∧ (4294967296 + dg b32 n i - dg b32 m i - r) / 4294967296 ≤ 1 := by
 have h1 := sub_dig h i
 rw [← hr] at h1
 have hr1 : r ≤ 1 := by rw [hr]; split <;> omega
 have h2 := dg_lt b32_pos (n - m) i
 have h3 := dg_lt b32_pos m i
 have h4 := dg_lt b32_pos n i
 have hb : b32 = 4294967296 := rfl
 obtain ⟨r2, hr2⟩ : ∃ r2, r2 = (if n % b32 ^ (i + 1) < m % b32 ^ (i + 1) then 1 else 0) := ⟨_, rfl⟩
 have hr3 : r2 ≤ 1 := by rw [hr2]; split <;> omega
 rw [← hr2] at h1 ⊢
 rw [hb] at h1 h2 h3 h4
 generalize dg b32 (n - m) i = x at *
 generalize dg b32 n i = y at *
 generalize dg b32 m i = z at *
 omega
theorem sub_lt2 {n m k : Nat} (hn : n < Go.Num.B ^ k) : (n - m) % b32 ^ (2 * k) = n - m := by
 rw [B_b32] at hn
 exact Nat.mod_eq_of_lt (Nat.lt_of_le_of_lt (Nat.sub_le _ _) hn)
theorem rSub0_ok {a a2 : Option Addr} {k c k2 c2 n m : Nat} (w : World) (hA : Nm w a k c n) (hB : Nm w a2 k2 c2 m) (hs : k ≤ 1000000 ∧ k2 ≤ 1000000) (hle : m ≤ n) :
  Ret Tryz.prog 128 #[.slice a k c, .slice a2 k2 c2] w (Tel (fun a c => .slice a (sz ((n - m) % b32 ^ (2 * k))) c) (sz ((n - m) % b32 ^ (2 * k))) ((n - m) % b32 ^ (2 * k)) w) := by
 refine enter (S := No) (l := [_, _]) (L := []) 36 Tryz.func128 rfl rfl rfl (St.start w No) ?_; refine yA ?_; refine za (v := .slice _ _ _) rfl ?_; refine yC ?_; refine za (v := .slice _ _ _) rfl ?_; refine yC ?_; refine aI rfl ?_; refine yB ?_; refine zq ?_; refine yA ?_; refine aI rfl ?_; refine yB ?_; refine zB ?_; refine c_st (B' := _) (L' := [] ++ []) (fun w h => h) ?_
 refine c_loop (fun m9 e B L => ∃ (cy i : Nat) (oa : Option Addr) (oc : Nat) (W : Heap), e 0 = .slice a k c ∧ e 1 = .slice a2 k2 c2 ∧ e 5 = .slice oa i oc ∧ e 6 = .int .u64 (cy : Nat) ∧ e 7 = .int .i64 (i : Nat) ∧ B = [(w, No)] ∧ L = W ++ [] ∧ i ≤ 2 * k ∧ cy = (if n % b32 ^ i < m % b32 ^ i then 1 else 0) ∧ Own 75 1 (.slice oa (i) oc) (lmV (wid (n - m) (i)) (i)) (i) W ∧ m9 = 2 * k - i) _ ⟨0, 0, none, 0, [], rfl, rfl, rfl, rfl, rfl, rfl, rfl, Nat.zero_le _, by simp [Nat.mod_one], Own.nil _ _, rfl⟩ ?_
 rintro m9 e B L ⟨cy, i, oa, oc, W, e0_1, e1_1, e5_1, e6_1, e7_1, rfl, rfl, hi, hcy, hO, rfl⟩
 refine zq ?_; refine yA ?_; refine mI e7_1 ?_; refine mS e0_1 ?_; refine jj sl42 rfl ?_; refine zg (fun _ => R_mulN (n := 2) (b := k) rfl rfl (by omega)) ?_; refine zg (fun _ => R_ltN (a := i) (b := (2 * k)) rfl rfl) ?_; refine yB ?_; refine zD rfl (fun h1 => ?_) (fun h1 => ?_)
 ·have had := sub_prog hle i hcy; have hd1 := dg_lt b32_pos n i; have hd2 := dg_lt b32_pos m i; have hBv : Go.Num.B = 18446744073709551616 := rfl; have hb9 : b32 = 4294967296 := rfl; have hdig := had.1; have hdB : (4294967296 + dg b32 n i - dg b32 m i - cy) % 4294967296 < Go.Num.B := Nat.lt_trans (Nat.mod_lt _ (by decide)) (by decide); have hcl := had.2.2.1; have hcm := had.2.2.2
  refine zi ?_; refine zk ?_; refine zq ?_; refine zB ?_; refine yA ?_; refine mS e0_1 ?_; refine mI e7_1 ?_; refine jD Tryz.func125 (fun w h => rdigit_ok w ((Kn.old hA).at_ 0 rfl h) i ⟨by omega, by omega⟩) ?_; refine zg (fun _ => R_addU (a := 4294967296) (b := (dg b32 n i)) rfl rfl (by omega)) ?_; refine mS e1_1 ?_; refine mI e7_1 ?_; refine jD Tryz.func125 (fun w h => rdigit_ok w ((Kn.old hB).at_ 0 rfl h) i ⟨by omega, by omega⟩) ?_; refine zg (fun _ => R_subU (a := (4294967296 + (dg b32 n i))) (b := (dg b32 m i)) rfl rfl (by omega) (by omega)) ?_; refine mI e6_1 ?_
  refine zg (fun _ => R_subU (a := ((4294967296 + (dg b32 n i)) - (dg b32 m i))) (b := cy) rfl rfl (by omega) (by omega)) ?_; refine aI rfl ?_; refine yC ?_; refine mS e5_1 ?_; refine mI rfl ?_; refine zg (fun _ => R_remU (a := (((4294967296 + (dg b32 n i)) - (dg b32 m i)) - cy)) (b := 4294967296) rfl rfl (by omega)) ?_; refine zS slt41 (by decide) rfl rfl (fun lb glb ulb => ?_)
  refine w_st (B' := _) (L' := [_] ++ (W ++ [])) (fun w h => h) ?_; refine w_appN (z := wid (n - m) (i)) (k := i) [_] slt41 rfl hO (wid_lt _ _) rfl (fun w h => Nm.one (h.at_ 0 rfl) (by first | omega | exact hdB)) (by omega) (fun v1 W1 hO1 => ?_)
  rw [hdig, wid_succ] at hO1; obtain ⟨a1, c1, rfl⟩ := hO1.slice
  refine za (v := .slice _ _ _) rfl ?_; refine yB ?_; refine zr ?_; refine mI rfl ?_; refine zg (fun _ => R_quoU (a := (((4294967296 + (dg b32 n i)) - (dg b32 m i)) - cy)) (b := 4294967296) rfl rfl (by omega) (by omega)) ?_; refine zg (fun _ => R_subU (a := 1) (b := ((((4294967296 + (dg b32 n i)) - (dg b32 m i)) - cy) / 4294967296)) rfl rfl (by omega) (by omega)) ?_; refine aI rfl ?_; refine zn ?_; refine zO (zk ?_); refine zr ?_; refine mI e7_1 ?_; refine zg (fun _ => R_addN (n := i) (b := 1) rfl rfl (by omega)) ?_; refine aI rfl ?_; refine zn ?_; refine zK (B' := [(w, No)]) (L' := W1 ++ []) (fun w h => h.d1) ?_
  exact k_again _ (by omega) ⟨_, i + 1, a1, c1, W1, e0_1, e1_1, rfl, rfl, rfl, rfl, rfl, by omega, had.2.1, hO1, rfl⟩
 ·obtain rfl : i = 2 * k := (by omega); obtain ⟨a8, c8, h8, hM, _⟩ := hO.nm (wid_lt _ _); cases h8
  refine zX ?_; refine zx (zx (b_here rfl (zk ?_))); refine yA ?_; refine mS e5_1 ?_; refine w_tel (fun w => zR Tryz.func129 rfl rfl rfl) rfl rfl (fun w h => made_ok w (hM w (fun p hp => h.own p (List.mem_append_left _ hp))) (by omega)) (fun x2 a2 c2 hK2 hN2 => ?_)
  refine za (v := .slice _ _ _) rfl ?_; refine yB ?_; refine ze ?_; refine zo (v := .slice _ _ _) rfl rfl rfl ?_; exact fun w' hw => ⟨_, _, rfl, (hK2.at_ 0 rfl hw), (hN2 _ zm0), hw.fr (w, No) zm1⟩
theorem rSub_ok {a a2 : Option Addr} {k c k2 c2 n m : Nat} (w : World) (hA : Nm w a k c n) (hB : Nm w a2 k2 c2 m) (hs : k ≤ 1000000 ∧ k2 ≤ 1000000) (hle : m ≤ n) : Ret Tryz.prog 128 #[.slice a k c, .slice a2 k2 c2] w (Tel (fun a c => .slice a (sz (n - m)) c) (sz (n - m)) (n - m) w) := by
 have := rSub0_ok w hA hB hs hle
 rwa [sub_lt2 hA.lt] at this
theorem made2_ok {a : Option Addr} {k c N : Nat} (w : World) (hA : Nm w a k c (wid N k)) (hk : k ≤ 4000000) (hN : N % b32 ^ k = N) : Ret Tryz.prog 129 #[.slice a k c] w (Tel (fun a c => .slice a (sz N) c) (sz N) N w) := by
 have := made_ok w hA hk
 rwa [hN] at this
theorem own_row {T : TypeId} {ob q z : Nat} : Own T 1 (.slice (some ⟨ob, 0, none⟩) q q) (lmV z q) q [(ob, cel (lmV z q) T)] := ⟨by simp [lmV_len], .inr ⟨ob, q, [], rfl, Nat.le_refl _, by simp, by simp⟩⟩
theorem shl_row (n h i : Nat) : dg b32 (n * 2 ^ h) (h / 32 + i) = dg b32 (n * 2 ^ (h % 32)) i := by
 have h1 := shl32 n h
 have h2 := dg_high (b := b32) (x := 0) (y := n * 2 ^ (h % 32)) (i := i) (b32pow_pos (h / 32))
 rw [Nat.zero_add] at h2
 rw [h1]; exact h2
theorem shl_low (n h : Nat) : wid (n * 2 ^ h) (h / 32) = 0 := by
 have : wid (n * 2 ^ h) (h / 32) = wid 0 (h / 32) := wid_congr fun i hi => by
  rw [shl32, dg_zero, ← Nat.zero_add (b32 ^ _ * _), dg_low b32_pos hi, dg_zero]
 rw [this]
 exact lmV_inj (k := h / 32) (wid_lt _ _) (Bpow_pos _) fun j hj => by rw [wid_dg hj, dg_zero, dg_zero]
theorem shl_dig (n i : Nat) {r : Nat} (hr : r < 32) : (dg b32 n i * 2 ^ r + n % b32 ^ i * 2 ^ r / b32 ^ i) % 4294967296 = dg b32 (n * 2 ^ r) i ∧ (dg b32 n i * 2 ^ r + n % b32 ^ i * 2 ^ r / b32 ^ i) / 4294967296 = n % b32 ^ (i + 1) * 2 ^ r / b32 ^ (i + 1) ∧ dg b32 n i * 2 ^ r < 9223372036854775808 ∧ n % b32 ^ i * 2 ^ r / b32 ^ i < 2147483648 := by
 have hp := b32pow_pos i
 have h2r : 2 ^ r ≤ 2147483648 := Nat.pow_le_pow_right (n := 2) (by decide) (show r ≤ 31 by omega)
 have e1 : n % b32 ^ (i + 1) * 2 ^ r / b32 ^ i = dg b32 n i * 2 ^ r + n % b32 ^ i * 2 ^ r / b32 ^ i := by
  rw [mod_step, Nat.add_mul, Nat.mul_assoc, Nat.add_mul_div_left _ _ hp, Nat.add_comm]
 have e2 : n * 2 ^ r / b32 ^ i = n / b32 ^ i * 2 ^ r + n % b32 ^ i * 2 ^ r / b32 ^ i := by
  have hn := Nat.div_add_mod n (b32 ^ i)
  conv => lhs; rw [← hn]
  rw [Nat.add_mul, Nat.mul_assoc, Nat.add_comm, Nat.add_mul_div_left _ _ hp, Nat.add_comm]
 refine ⟨?_, ?_, ?_, ?_⟩
 ·show _ = n * 2 ^ r / b32 ^ i % b32
  rw [e2]
  unfold dg
  show _ % b32 = _
  rw [Nat.add_mod, Nat.mod_mul_mod, ← Nat.add_mod]
 ·rw [← e1, Nat.pow_succ, ← Nat.div_div_eq_div_mul]
 ·have h3 := dg_lt b32_pos n i
  have h5 : dg b32 n i * 2 ^ r ≤ 4294967295 * 2147483648 := Nat.mul_le_mul (Nat.le_of_lt_succ h3) h2r
  omega
 ·rw [Nat.div_lt_iff_lt_mul hp]
  have h3 := Nat.mod_lt n hp
  calc n % b32 ^ i * 2 ^ r < b32 ^ i * 2 ^ r := Nat.mul_lt_mul_of_pos_right h3 (Nat.pow_pos (by decide))
   _ ≤ b32 ^ i * 2147483648 := Nat.mul_le_mul_left _ h2r
   _ = 2147483648 * b32 ^ i := Nat.mul_comm _ _
theorem shl_end {n k : Nat} (h : Nat) (hn : n < Go.Num.B ^ k) : n * 2 ^ h % b32 ^ (h / 32 + (2 * k + 1)) = n * 2 ^ h := by
 refine Nat.mod_eq_of_lt ?_
 rw [B_b32] at hn
 rw [shl32, Nat.pow_add, Nat.pow_succ]
 refine Nat.mul_lt_mul_of_pos_left ?_ (b32pow_pos _)
 have h2r : 2 ^ (h % 32) ≤ b32 := by rw [b32_two]; exact Nat.pow_le_pow_right (by decide) (by omega)
 exact Nat.lt_of_lt_of_le (Nat.mul_lt_mul_of_pos_right hn (Nat.pow_pos (by decide))) (Nat.mul_le_mul_left _ h2r)
theorem shr_end {n k h j : Nat} (hn : n < Go.Num.B ^ k) (hj : 2 * k ≤ h / 32 + j) : n / 2 ^ h % b32 ^ j = n / 2 ^ h := by
 refine Nat.mod_eq_of_lt ((Nat.div_lt_iff_lt_mul (Nat.pow_pos (by decide))).2 (Nat.lt_of_lt_of_le hn ?_))
 rw [B_pow, b32_pow, ← Nat.pow_add]
 exact Nat.pow_le_pow_right (by decide) (by omega)
theorem rShl_ok {a : Option Addr} {k c n : Nat} (w : World) (hA : Nm w a k c n) (h9 : Nat) (hs : k ≤ 1000000 ∧ h9 ≤ 131072) :
  Ret Tryz.prog 121 #[.slice a k c, .int .i64 (h9 : Nat)] w (Tel (fun a c => .slice a (sz ((n * 2 ^ h9))) c) (sz ((n * 2 ^ h9))) ((n * 2 ^ h9)) w) := by
 refine enter (S := No) (l := [_, _]) (L := []) 37 Tryz.func121 rfl rfl rfl (St.start w No) ?_; refine yA ?_; refine za (v := .slice _ _ _) rfl ?_; refine yC ?_; refine mI rfl ?_; refine zg (fun _ => R_quoN (a := h9) (b := 32) rfl rfl (by omega) (by omega)) ?_; refine w_makeU (n := (h9 / 32)) slt41 rfl rfl (by omega) (by omega) (fun ob gob uob => ?_)
 refine za (v := .slice _ _ _) rfl ?_; refine yC ?_; refine aI rfl ?_; refine yB ?_; refine zq ?_; refine yA ?_; refine aI rfl ?_; refine yB ?_; refine zB ?_; refine c_st (B' := _) (L' := [(ob, cel (lmV 0 (h9 / 32)) 75)] ++ []) (fun w h => h) ?_
 refine c_loop (fun m9 e B L => ∃ (cy i : Nat) (oa : Option Addr) (oc : Nat) (W : Heap), e 0 = .slice a k c ∧ e 1 = .int .i64 (h9 : Nat) ∧ e 5 = .slice oa (h9 / 32 + i) oc ∧ e 6 = .int .u64 (cy : Nat) ∧ e 7 = .int .i64 (i : Nat) ∧ B = [(w, No)] ∧ L = W ++ [] ∧ i ≤ 2 * k + 1 ∧ cy = n % b32 ^ i * 2 ^ (h9 % 32) / b32 ^ i ∧ Own 75 1 (.slice oa (h9 / 32 + i) oc) (lmV (wid (n * 2 ^ h9) (h9 / 32 + i)) (h9 / 32 + i)) (h9 / 32 + i) W ∧ m9 = 2 * k + 1 - i) _ ⟨0, 0, (some ⟨ob, 0, none⟩), (h9 / 32), [(ob, cel (lmV 0 (h9 / 32)) 75)], rfl, rfl, rfl, rfl, rfl, rfl, rfl, Nat.zero_le _, by simp [Nat.mod_one], by rw [Nat.add_zero, shl_low]; exact own_row, rfl⟩ ?_
 rintro m9 e B L ⟨cy, i, oa, oc, W, e0_1, e1_1, e5_1, e6_1, e7_1, rfl, rfl, hi, hcy, hO, rfl⟩
 refine zq ?_; refine yA ?_; refine mI e7_1 ?_; refine mS e0_1 ?_; refine jj sl42 rfl ?_; refine zg (fun _ => R_mulN (n := 2) (b := k) rfl rfl (by omega)) ?_; refine zg (fun _ => R_leN (a := i) (b := (2 * k)) rfl rfl) ?_; refine yB ?_; refine zD rfl (fun h1 => ?_) (fun h1 => ?_)
 ·have had := shl_dig n i (show h9 % 32 < 32 by omega); have hd1 := dg_lt b32_pos n i; have hBv : Go.Num.B = 18446744073709551616 := rfl; have hb9 : b32 = 4294967296 := rfl; rw [← hcy, ← shl_row] at had; have hdig := had.1; have hdB : (dg b32 n i * 2 ^ (h9 % 32) + cy) % 4294967296 < Go.Num.B := Nat.lt_trans (Nat.mod_lt _ (by decide)) (by decide); have hcl := had.2.2.2; have hcm := had.2.2.1
  refine zi ?_; refine zk ?_; refine zq ?_; refine zB ?_; refine yA ?_; refine mS e0_1 ?_; refine mI e7_1 ?_; refine jD Tryz.func125 (fun w h => rdigit_ok w ((Kn.old hA).at_ 0 rfl h) i ⟨by omega, by omega⟩) ?_; refine mI e1_1 ?_; refine zg (fun _ => R_remU (a := h9) (b := 32) rfl rfl (by omega)) ?_; refine zg (fun _ => R_convK (n := (h9 % 32)) un3 un191 rfl (wrap_u (by omega))) ?_; refine zg (fun _ => R_shlU (a := (dg b32 n i)) (n := (h9 % 32)) rfl rfl (by omega)) ?_
  rw [Nat.mod_eq_of_lt (show (dg b32 n i) * 2 ^ (h9 % 32) < Go.Num.B by omega)]
  refine mI e6_1 ?_; refine zg (fun _ => R_addU (a := ((dg b32 n i) * 2 ^ (h9 % 32))) (b := cy) rfl rfl (by omega)) ?_; refine aI rfl ?_; refine yC ?_; refine mS e5_1 ?_; refine mI rfl ?_; refine zg (fun _ => R_remU (a := (((dg b32 n i) * 2 ^ (h9 % 32)) + cy)) (b := 4294967296) rfl rfl (by omega)) ?_; refine zS slt41 (by decide) rfl rfl (fun lb glb ulb => ?_)
  refine w_st (B' := _) (L' := [_] ++ (W ++ [])) (fun w h => h) ?_; refine w_appN (z := wid (n * 2 ^ h9) (h9 / 32 + i)) (k := h9 / 32 + i) [_] slt41 rfl hO (wid_lt _ _) rfl (fun w h => Nm.one (h.at_ 0 rfl) (by first | omega | exact hdB)) (by omega) (fun v1 W1 hO1 => ?_)
  rw [hdig, wid_succ] at hO1; obtain ⟨a1, c1, rfl⟩ := hO1.slice
  refine za (v := .slice _ _ _) rfl ?_; refine yB ?_; refine zr ?_; refine mI rfl ?_; refine zg (fun _ => R_quoU (a := (((dg b32 n i) * 2 ^ (h9 % 32)) + cy)) (b := 4294967296) rfl rfl (by omega) (by omega)) ?_; refine aI rfl ?_; refine zn ?_; refine zO (zk ?_); refine zr ?_; refine mI e7_1 ?_; refine zg (fun _ => R_addN (n := i) (b := 1) rfl rfl (by omega)) ?_; refine aI rfl ?_; refine zn ?_; refine zK (B' := [(w, No)]) (L' := W1 ++ []) (fun w h => h.d1) ?_; exact k_again _ (by omega) ⟨_, i + 1, a1, c1, W1, e0_1, e1_1, rfl, rfl, rfl, rfl, rfl, by omega, had.2.1, hO1, rfl⟩
 ·obtain rfl : i = 2 * k + 1 := (by omega); have hend := shl_end h9 hA.lt; obtain ⟨a8, c8, h8, hM, _⟩ := hO.nm (wid_lt _ _); cases h8
  refine zX ?_; refine zx (zx (b_here rfl (zk ?_))); refine yA ?_; refine mS e5_1 ?_; refine w_tel (fun w => zR Tryz.func129 rfl rfl rfl) rfl rfl (fun w h => made2_ok w (hM w (fun p hp => h.own p (List.mem_append_left _ hp))) (by omega) hend) (fun x2 a2 c2 hK2 hN2 => ?_)
  refine za (v := .slice _ _ _) rfl ?_; refine yB ?_; refine ze ?_; refine zo (v := .slice _ _ _) rfl rfl rfl ?_; exact fun w' hw => ⟨_, _, rfl, (hK2.at_ 0 rfl hw), (hN2 _ zm0), hw.fr (w, No) zm1⟩
theorem rShr_ok {a : Option Addr} {k c n : Nat} (w : World) (hA : Nm w a k c n) (h9 : Nat) (hs : k ≤ 1000000 ∧ h9 ≤ 10000000) :
  Ret Tryz.prog 123 #[.slice a k c, .int .i64 (h9 : Nat)] w (Tel (fun a c => .slice a (sz ((n / 2 ^ h9))) c) (sz ((n / 2 ^ h9))) ((n / 2 ^ h9)) w) := by
 refine enter (S := No) (l := [_, _]) (L := []) 37 Tryz.func123 rfl rfl rfl (St.start w No) ?_; refine yA ?_; refine za (v := .slice _ _ _) rfl ?_; refine yC ?_; refine za (v := .slice _ _ _) rfl ?_; refine yB ?_; refine zq ?_; refine yA ?_; refine mI rfl ?_; refine zg (fun _ => R_quoN (a := h9) (b := 32) rfl rfl (by omega) (by omega)) ?_; refine aI rfl ?_; refine yB ?_; refine zB ?_; refine c_st (B' := _) (L' := [] ++ []) (fun w h => h) ?_
 refine c_loop (fun m9 e B L => ∃ (j : Nat) (oa : Option Addr) (oc : Nat) (W : Heap), e 0 = .slice a k c ∧ e 1 = .int .i64 (h9 : Nat) ∧ e 5 = .slice oa j oc ∧ e 6 = .int .i64 (h9 / 32 + j : Nat) ∧ B = [(w, No)] ∧ L = W ++ [] ∧ j ≤ 2 * k ∧ Own 75 1 (.slice oa (j) oc) (lmV (wid (n / 2 ^ h9) (j)) (j)) (j) W ∧ m9 = 2 * k - j) _ ⟨0, none, 0, [], rfl, rfl, rfl, rfl, rfl, rfl, Nat.zero_le _, Own.nil _ _, rfl⟩ ?_
 rintro m9 e B L ⟨j, oa, oc, W, e0_1, e1_1, e5_1, e6_1, rfl, rfl, hj, hO, rfl⟩
 refine zq ?_; refine yA ?_; refine mI e6_1 ?_; refine mS e0_1 ?_; refine jj sl42 rfl ?_; refine zg (fun _ => R_mulN (n := 2) (b := k) rfl rfl (by omega)) ?_; refine zg (fun _ => R_ltN (a := (h9 / 32 + j)) (b := (2 * k)) rfl rfl) ?_; refine yB ?_; refine zD rfl (fun h1 => ?_) (fun h1 => ?_)
 ·have hdig := (shr32 n h9 j).symm; have hd1 := dg_lt b32_pos n (h9 / 32 + j); have hd2 := dg_lt b32_pos n (h9 / 32 + j + 1); have hBv : Go.Num.B = 18446744073709551616 := rfl; have hb9 : b32 = 4294967296 := rfl; have hdB : (dg b32 n (h9 / 32 + j) + dg b32 n (h9 / 32 + j + 1) * 4294967296) / 2 ^ (h9 % 32) % 4294967296 < Go.Num.B := Nat.lt_trans (Nat.mod_lt _ (by decide)) (by decide)
  refine zi ?_; refine zk ?_; refine zq ?_; refine zB ?_; refine yA ?_; refine mS e0_1 ?_; refine mI e6_1 ?_; refine jD Tryz.func125 (fun w h => rdigit_ok w ((Kn.old hA).at_ 0 rfl h) (h9 / 32 + j) ⟨by omega, by omega⟩) ?_; refine mS e0_1 ?_; refine mI e6_1 ?_; refine zg (fun _ => R_addN (n := (h9 / 32 + j)) (b := 1) rfl rfl (by omega)) ?_; refine jD Tryz.func125 (fun w h => rdigit_ok w ((Kn.old hA).at_ 0 rfl h) ((h9 / 32 + j) + 1) ⟨by omega, by omega⟩) ?_
  refine zg (fun _ => R_mulU (a := (dg b32 n ((h9 / 32 + j) + 1))) (b := 4294967296) rfl rfl (by omega)) ?_; refine zg (fun _ => R_addU (a := (dg b32 n (h9 / 32 + j))) (b := ((dg b32 n ((h9 / 32 + j) + 1)) * 4294967296)) rfl rfl (by omega)) ?_; refine aI rfl ?_; refine yB ?_; refine zr ?_; refine mS e5_1 ?_; refine mI rfl ?_; refine mI e1_1 ?_; refine zg (fun _ => R_remU (a := h9) (b := 32) rfl rfl (by omega)) ?_; refine zg (fun _ => R_convK (n := (h9 % 32)) un3 un191 rfl (wrap_u (by omega))) ?_; refine zg (fun _ => R_shrU (a := ((dg b32 n (h9 / 32 + j)) + ((dg b32 n ((h9 / 32 + j) + 1)) * 4294967296))) (n := (h9 % 32)) rfl rfl (by omega)) ?_
  refine zg (fun _ => R_remU (a := (((dg b32 n (h9 / 32 + j)) + ((dg b32 n ((h9 / 32 + j) + 1)) * 4294967296)) / 2 ^ (h9 % 32))) (b := 4294967296) rfl rfl (by omega)) ?_; refine zS slt41 (by decide) rfl rfl (fun b2 gb2 ub2 => ?_)
  refine w_st (B' := _) (L' := [_] ++ (W ++ [])) (fun w h => h) ?_; refine w_appN (z := wid (n / 2 ^ h9) (j)) (k := j) [_] slt41 rfl hO (wid_lt _ _) rfl (fun w h => Nm.one (h.at_ 0 rfl) (by first | omega | exact hdB)) (by omega) (fun v1 W1 hO1 => ?_)
  rw [hdig, wid_succ] at hO1; obtain ⟨a1, c1, rfl⟩ := hO1.slice
  refine za (v := .slice _ _ _) rfl ?_; refine zn ?_; refine zO (zk ?_); refine zr ?_; refine mI e6_1 ?_; refine zg (fun _ => R_addN (n := (h9 / 32 + j)) (b := 1) rfl rfl (by omega)) ?_; refine aI rfl ?_; refine zn ?_; refine zK (B' := [(w, No)]) (L' := W1 ++ []) (fun w h => h.d1) ?_; exact k_again _ (by omega) ⟨j + 1, a1, c1, W1, e0_1, e1_1, rfl, rfl, rfl, rfl, by omega, hO1, rfl⟩
 ·have hend := shr_end (h := h9) (j := j) hA.lt (by omega); obtain ⟨a8, c8, h8, hM, _⟩ := hO.nm (wid_lt _ _); cases h8
  refine zX ?_; refine zx (zx (b_here rfl (zk ?_))); refine yA ?_; refine mS e5_1 ?_; refine w_tel (fun w => zR Tryz.func129 rfl rfl rfl) rfl rfl (fun w h => made2_ok w (hM w (fun p hp => h.own p (List.mem_append_left _ hp))) (by omega) hend) (fun x3 a3 c3 hK3 hN3 => ?_)
  refine za (v := .slice _ _ _) rfl ?_; refine yB ?_; refine ze ?_; refine zo (v := .slice _ _ _) rfl rfl rfl ?_; exact fun w' hw => ⟨_, _, rfl, (hK3.at_ 0 rfl hw), (hN3 _ zm0), hw.fr (w, No) zm1⟩
end Go.Proofs.YtikdkendinnalaaGreatDoor
end
