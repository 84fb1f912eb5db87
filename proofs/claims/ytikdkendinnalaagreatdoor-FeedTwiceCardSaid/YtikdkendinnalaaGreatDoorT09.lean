/- Layer 14, FeedTwice: that Find tells the datum of its name, that Write tells the same twice, and another text where one sign is turned. Part 9 of 12. -/
import Derived.Test.YtikdkendinnalaaGreatDoorT08
section
namespace Go.Proofs.YtikdkendinnalaaGreatDoor
open Go.RowKit Go.Sx
open Go.Tok Go.Tree Go.Prs Go.Feed Go.Num
abbrev Dd (nm : Str) (p : Nat) (li wh : Bool) (v : Value) : Obj := cel [str nm, .int .i64 (p : Nat), .bool li, .bool wh, v] 33
theorem containsAny_ok (s : List UInt8) (w : World) (hs : s.length ≤ 1000) (ha : ∀ (j : Nat) b, s[j]? = some b → b.toNat < 128) : Ret Tryz.prog 103 #[str s, str [46, 101]] w fun v w' => v = .bool (!wholeT s) ∧ Ext w w' :=
  Calls.mono (Tryz.strings_ContainsAny_laid ⟨s.toArray⟩ ⟨#[46, 101]⟩ w (by show s.length < _; omega) (by decide) ha (by
    intro j b hb
    have hm := List.mem_of_getElem? hb
    have : ∀ b ∈ ([46, 101] : List UInt8), b.toNat < 128 := by decide
    exact this b hm)) fun e w' ⟨h1, h2⟩ => ⟨_, h1, by
    have key : ∀ l : List UInt8, Lib.containsAny l [46, 101] = l.any (fun b => b == 46 || b == 101) := by
      intro l
      unfold Lib.containsAny
      induction l with
      | nil => rfl
      | cons b l ih =>
        have hg := Lib.indexAny_ge [46, 101] l
        rw [Lib.indexAny, List.any_cons, ← ih]
        have hb : List.contains ([46, 101] : List UInt8) b = (b == 46 || b == 101) := by rw [List.contains_cons, List.contains_cons, List.contains_nil, Bool.or_false]
        rw [hb]
        by_cases hc : (b == 46 || b == 101) = true
        · rw [hc]; rfl
        · rw [if_neg hc, Bool.not_eq_true _ |>.mp hc, Bool.false_or]
          by_cases h3 : Lib.indexAny l [46, 101] = -1
          · rw [h3]; rfl
          · rw [if_neg (by simpa using h3)]
            exact decide_eq_decide.2 ⟨fun h => by omega, fun h => by omega⟩
    show Value.bool (Lib.containsAny s [46, 101]) = _
    rw [key]
    unfold wholeT
    rw [Bool.not_not], ext_below h2⟩
/-- what number tells: the value, the reader's blocks -/
def NumQ (rb db tc z e9 a9 k : Nat) (ta : Option Addr) (T : List Tk) (nm : Str) (p : Nat) (li wh : Bool) (l : List Rt) (X : Except Fl ((Rt × Bool) × List Tk)) : Value → Heap → (Nat → Prop) → World → Prop := fun v X' N w =>
  match X with
  | .ok (a, r) => v = .bool true ∧ ∃ k' v' xs' W', r = T.drop k' ∧ k < k' ∧ k' ≤ T.length ∧ X' = (rb, Rr ta tc T.length z k' e9 a9) :: (db, Dd nm p li (wh && a.2) v') :: W' ∧ Own 46 3 v' xs' (l.length + 1) W' ∧ Mc 3 rwC w N ((l ++ [a.1]).map rwR) xs'
  | .error fl => v = .bool false ∧ ∃ k' Y, k' ≤ T.length ∧ X' = (rb, Rr ta tc T.length z k' fl.1 fl.2) :: Y
theorem dd_eq {rb db p : Nat} {o : Obj} {nm : Str} {li b b' : Bool} {v : Value} {W : Heap} (h : b = b') : ((rb, o) :: (db, Dd nm p li b v) :: W : Heap) = (rb, o) :: (db, Dd nm p li b' v) :: W := by rw [h]
theorem fTok_kind {z : Nat} {neg : Bool} {ts : List Tk} (h : ¬ (nowT z ts).1 = 2) : fTok z neg ts = .error (130, place z ts) := if_neg h
theorem fTok_long {z : Nat} {neg : Bool} {ts : List Tk} (h : (nowT z ts).1 = 2) (h2 : 400 < (nowT z ts).2.1.length) : fTok z neg ts = .error (3, place z ts) := (if_pos h).trans (if_pos h2)
theorem fTok_ok {z : Nat} {neg : Bool} {ts : List Tk} (h : (nowT z ts).1 = 2) (h2 : ¬ 400 < (nowT z ts).2.1.length) : fTok z neg ts = .ok ((if neg = true then ngR (numV (nowT z ts).2.1) else numV (nowT z ts).2.1, wholeT (nowT z ts).2.1), ts.tail) := (if_pos h).trans (if_neg h2)
theorem fNum_y {z : Nat} {ts : List Tk} (h : isG [45] ts = true) : fNum z ts = fTok z true ts.tail := if_pos h
theorem fNum_n {z : Nat} {ts : List Tk} (h : isG [45] ts = false) : fNum z ts = fTok z false ts := if_neg (by rw [h]; decide)
theorem now_nt {w : World} {M : Nat → Prop} {tc z k : Nat} {ta : Option Addr} {T : List Tk} (h : Pf w M T ta tc z) (h2 : (nowT z (T.drop k)).1 = 2) : NumT (nowT z (T.drop k)).2.1 := by
  have hl := now_lt (T := T) (k := k) (z := z) (by rw [h2]; decide)
  rw [List.drop_eq_getElem_cons hl] at h2 ⊢
  exact h.nt _ (List.getElem_mem hl) h2
set_option maxRecDepth 100000 in
set_option maxHeartbeats 8000000 in
theorem number_ok (rb db z k e9 a9 : Nat) (M : Nat → Prop) (tc : Nat) (ta : Option Addr) (T : List Tk) (w : World) (hP : Pf w M T ta tc z) (hk : k ≤ T.length) (hM : M rb) (hMd : M db) (nm : Str) (p : Nat) (li wh : Bool) (va : Option Addr) (vc : Nat) (xs : List Value) (l : List Rt) (W : Heap) (hO : Own 46 3 (.slice va l.length vc) xs l.length W) (hMW : ∀ p ∈ W, M p.1) (hl : l.length ≤ 10000) (N : Nat → Prop) (hN : ∀ j, N j → ¬ inL ((rb, Rr ta tc T.length z (k) (e9) (a9)) :: (db, Dd nm p li wh (.slice va l.length vc)) :: W) j) (hK : Mc 3 rwC w N (l.map rwR) xs) (hX : St [(w, inL ((rb, Rr ta tc T.length z (k) (e9) (a9)) :: (db, Dd nm p li wh (.slice va l.length vc)) :: W))] ((rb, Rr ta tc T.length z (k) (e9) (a9)) :: (db, Dd nm p li wh (.slice va l.length vc)) :: W) w) :
    Ret Tryz.prog 62 #[.pointer (some ⟨rb, 0, none⟩), .pointer (some ⟨db, 0, none⟩)] w (TelX ((rb, Rr ta tc T.length z (k) (e9) (a9)) :: (db, Dd nm p li wh (.slice va l.length vc)) :: W) (NumQ rb db tc z e9 a9 k ta T nm p li wh l (fNum z (T.drop k))) N w) := by
  have hlen := hP.len
  refine enter (S := (inL ((rb, Rr ta tc T.length z (k) (e9) (a9)) :: (db, Dd nm p li wh (.slice va l.length vc)) :: W))) (l := [_, _]) (L := [(rb, Rr ta tc T.length z (k) (e9) (a9)), (db, Dd nm p li wh (.slice va l.length vc))] ++ W) 71 Tryz.func62 rfl rfl rfl (hX) ?_; refine yA ?_; refine aB rfl ?_; refine yC ?_; refine mP rfl ?_
  cases hg1 : isG [45] (T.drop (k))
  · refine w_call1 0 rfl (fun w => zR Tryz.func61 rfl rfl rfl) rfl rfl (fun w h => by have h9 := ftake_ok [45] rb z (k) (e9) (a9) M tc ta T w (hP.now (.head _) (fun j hj => by rcases List.mem_cons.1 hj with rfl | hj; (exact hM); (rcases List.mem_cons.1 hj with rfl | hj; (exact hMd); (obtain ⟨q, hq, rfl⟩ := List.mem_map.1 hj; exact hMW q hq))) h) (h.at_ 0 rfl) (by omega) hM; rw [hg1, if_neg (by decide)] at h9; exact h9) ?_
    refine aB rfl ?_; refine yC ?_; refine mP rfl ?_; refine zC (fun w => zR Tryz.func22 rfl rfl rfl) rfl rfl (fun w h => fnow_ok rb z (k) (e9) (a9) M tc ta T w (hP.now (.head _) (fun j hj => by rcases List.mem_cons.1 hj with rfl | hj; (exact hM); (rcases List.mem_cons.1 hj with rfl | hj; (exact hMd); (obtain ⟨q, hq, rfl⟩ := List.mem_map.1 hj; exact hMW q hq))) h) (h.at_ 0 rfl) (by omega)) ?_; refine w_alloc zr64 (fun t6b gt6b ut6b => ?_)
    refine w_store 0 rfl z64 rfl rfl rfl rfl rfl rfl rfl ?_; refine yB ?_; refine zq ?_; refine yA ?_; refine zf fa64_0 rfl ?_; refine zl z5 rfl (fun _ h => zc 0 rfl rfl h) ?_; refine w_r (fun _ => R_ne rfl rfl) rfl rfl ?_; refine yB ?_; refine zD rfl (fun h3 => ?_) (fun h3 => ?_)
    · have hkd : ¬ (nowT z (T.drop (k))).1 = 2 := (by omega)
      refine yA ?_; refine mP rfl ?_; refine w_call1 1 rfl (fun w => zR Tryz.func24 rfl rfl rfl) rfl rfl (fun w h => ffail_ok 130 rb z (k) (e9) (a9) M tc ta T w (hP.now (.head _) (fun j hj => by rcases List.mem_cons.1 hj with rfl | hj; (exact hM); (rcases List.mem_cons.1 hj with rfl | hj; (exact hMd); (obtain ⟨q, hq, rfl⟩ := List.mem_map.1 hj; exact hMW q hq))) h) (h.at_ 1 rfl) (by omega) hM) ?_; refine aB rfl ?_; refine yB ?_; refine ze ?_; refine zt (?_)
      have hG : fNum z (T.drop k) = .error (130, place z (T.drop (k))) := (fNum_n hg1).trans (fTok_kind hkd)
      rw [hG]
      refine zo (v := .bool _) rfl rfl rfl ?_; exact fun w' hw => St.telX (A := [_]) hw (.head _) ⟨rfl, k, _, by omega, rfl⟩
    · have hkd : (nowT z (T.drop (k))).1 = 2 := (by omega); have hT := now_nt hP hkd; have hnb := nowT_b (k := k) hP
      refine zi ?_; refine zk ?_; refine yA ?_; refine zf fa64_1 rfl ?_; refine zl z9 rfl (fun _ h => zc 0 rfl rfl h) ?_
      rcases Nat.lt_or_ge 400 (nowT z (T.drop (k))).2.1.length with hlong | hlong
      · refine zC (fun w => zR Tryz.func101 rfl rfl rfl) rfl rfl (fun w h => numeralF_no _ w ⟨hlong, by omega⟩) ?_; refine zm rfl ?_; refine w_r (fun _ => R_extract rfl rfl) rfl rfl ?_; refine w_r (fun _ => R_extract rfl rfl) rfl rfl ?_; refine w_alloc zr46 (fun t7b gt7b ut7b => ?_)
        refine w_store 0 rfl z46 rfl rfl rfl rfl rfl rfl rfl ?_; refine aI rfl ?_; refine yB ?_; refine zq ?_; refine yA ?_; refine zf fa64_1 rfl ?_; refine zl z9 rfl (fun _ h => zc 1 rfl rfl h) ?_; refine w_r (fun _ => R_slen st9 rfl (by omega)) rfl rfl ?_; refine w_r (fun _ => R_gtT rfl rfl (by omega)) rfl rfl ?_; refine mB rfl ?_; refine zs rfl rfl rfl ?_; refine zs rfl rfl rfl ?_; refine w_r (v := .bool _) (fun _ => zT rfl rfl) rfl rfl ?_; refine yB ?_; refine zE rfl ?_; refine yA ?_; refine mP rfl ?_
        refine w_call1 2 rfl (fun w => zR Tryz.func24 rfl rfl rfl) rfl rfl (fun w h => ffail_ok 3 rb z (k) (e9) (a9) M tc ta T w (hP.now (.head _) (fun j hj => by rcases List.mem_cons.1 hj with rfl | hj; (exact hM); (rcases List.mem_cons.1 hj with rfl | hj; (exact hMd); (obtain ⟨q, hq, rfl⟩ := List.mem_map.1 hj; exact hMW q hq))) h) (h.at_ 2 rfl) (by omega) hM) ?_; refine aB rfl ?_; refine yB ?_; refine ze ?_; refine zt (?_)
        have hG : fNum z (T.drop k) = .error (3, place z (T.drop (k))) := (fNum_n hg1).trans (fTok_long hkd hlong)
        rw [hG]
        refine zo (v := .bool _) rfl rfl rfl ?_; exact fun w' hw => St.telX (A := [_, _]) hw (.head _) ⟨rfl, k, _, by omega, rfl⟩
      · refine w_tel2 (fun w => zR Tryz.func101 rfl rfl rfl) rfl rfl (fun w h => numeralF_ok _ w hlong hT) (fun x5 a5 c5 a5' c5' hK5 hN5 hK5' hN5' => ?_)
        have hvp := numV_pos (nowT z (T.drop (k))).2.1; have hvs := numV_sz hT hlong
        refine zm rfl ?_; refine w_r (fun _ => R_extract rfl rfl) rfl rfl ?_; refine w_r (fun _ => R_extract rfl rfl) rfl rfl ?_; refine w_alloc zr46 (fun t7b gt7b ut7b => ?_)
        refine w_store 0 rfl z46 rfl rfl rfl rfl rfl rfl rfl ?_; refine aI rfl ?_; refine yB ?_; refine zq ?_; refine yA ?_; refine zf fa64_1 rfl ?_; refine zl z9 rfl (fun _ h => zc 1 rfl rfl h) ?_; refine w_r (fun _ => R_slen st9 rfl (by omega)) rfl rfl ?_; refine w_r (fun _ => R_gtF rfl rfl (by omega)) rfl rfl ?_; refine mB rfl ?_; refine zw rfl rfl rfl ?_; refine mI rfl ?_; refine zw rfl rfl rfl ?_; refine w_r (fun _ => R_ne rfl rfl) rfl rfl ?_; refine w_r (v := .bool _) (fun _ => zF rfl rfl) rfl rfl ?_; refine yB ?_; refine c_condF (congrArg Value.bool (decide_eq_false (by decide))) ?_
        refine zi ?_; refine zk ?_; refine zq ?_; refine yA ?_; refine mB rfl ?_; refine yB ?_; refine c_condF rfl ?_; refine zi ?_; refine zk ?_; refine yA ?_; refine mP rfl ?_; refine mP rfl ?_; refine w_nilc rfl ?_; refine zf fa61_0 rfl ?_; refine zl z59 rfl (fun _ h => zc 2 rfl rfl h) ?_
        have hlt : k < T.length := now_lt (z := z) (by rw [hkd]; decide)
        refine w_r (fun _ => R_low3 sl59 rfl rfl hlt hP.le) rfl rfl ?_; refine w_nilc rfl ?_; refine zf fa61_0 rfl ?_; refine w_store 2 rfl z59 rfl rfl rfl rfl rfl rfl rfl ?_; refine yB ?_; refine zq ?_; refine c_heldI [0, 1, 2] mixed ?_; refine zh (v := .pointer _) 0 rfl (by kernel_rfl) rfl rfl (fun w h => (h).pick [0, 1, 2] (by decide)) (fun w h => R_move rfl) ?_; refine zh (v := .pointer _) 1 rfl (by kernel_rfl) rfl rfl (fun w h => (h).pick [0, 1, 2] (by decide)) (fun w h => R_move rfl) ?_; refine zh 2 rfl (by kernel_rfl) rfl rfl (fun w h => (h).pick [0, 1, 2] (by decide)) (fun w h => R_nil rfl) ?_; refine zh 3 rfl (by kernel_rfl) rfl rfl (fun w h => (h).pick [0, 1, 2] (by decide)) (fun w h => R_fa fa33_4 rfl) ?_; refine h_loadA 5 rfl (by kernel_rfl) (fun w h => (h).pick [0, 1, 2] (by decide)) z46 rfl (fun _ h => h.at_ 0 rfl) rfl ?_
        refine h_two 4 6 (by kernel_rfl) (fun w h => (h).pick [0, 1, 2] (by decide)) ?_ ?_
        · refine o_run (v := .slice _ _ _) rfl rfl rfl (fun w h => R_ld1 z31 rfl (zc 3 rfl rfl h)) ?_; refine h_one 6 (by kernel_rfl) (fun w h => (h).pick [0, 1, 2] (by decide)) ?_; refine o_bsliceV rfl (wn_none rfl) slt31 (by decide) rfl rfl (fun sb gsb usb => ?_)
          refine h_one 7 (by kernel_rfl) (fun w h => (h).pick [1, 2, 3] (by decide)) ?_; refine o_st (B' := _) (L' := [_, _, _, _, _] ++ (W ++ [])) (fun w h => by rw [List.append_nil]; exact h) ?_; refine o_app (L := []) (W := W) (news := [.bool (ng (numV (nowT z (T.drop (k))).2.1).1), .slice a5 (sz (numV (nowT z (T.drop (k))).2.1).1.natAbs) c5, .slice a5' (sz (numV (nowT z (T.drop (k))).2.1).2) c5']) [_, _, _, _, _] rfl slt31 (by decide) rfl hO rfl rfl (row_own 0 rfl (fun j u h => h)) rfl (by decide) (by omega) (by omega) (fun v2 W2 hO2 => ?_)
          obtain ⟨a2, c2, rfl⟩ := hO2.slice
          refine zh 8 rfl (by kernel_rfl) rfl rfl (fun w h => (h).pick [1, 2, 3] (by decide)) (fun w h => R_nil rfl) ?_; refine zh 9 rfl (by kernel_rfl) rfl rfl (fun w h => (h).pick [1, 2, 3] (by decide)) (fun w h => R_fa fa33_4 rfl) ?_; refine h_one 10 (by kernel_rfl) (fun w h => (h).pick [1, 2, 3] (by decide)) ?_; refine o_store 4 rfl rfl z31 rfl rfl rfl rfl rfl rfl rfl ?_; refine h_done (by kernel_rfl) (fun w h => (h).pick [1, 2, 3] (by decide)) ?_; refine zk ?_; refine yA ?_; refine mP rfl ?_; refine mP rfl ?_; refine w_nilc rfl ?_; refine zf fa33_3 rfl ?_; refine zl z4 rfl (fun _ h => zc 4 rfl rfl h) ?_; refine mB rfl ?_; refine zp (t := 63) rfl (fun h7 => ?_) (fun h7 => ?_)
          · refine zw rfl rfl (bV h7) ?_; refine zf fa64_1 rfl ?_; refine zw rfl rfl (bV h7) ?_; refine zl z9 rfl (fun _ h => zc 2 rfl rfl h) ?_; refine zw rfl rfl (bV h7) ?_; refine zC (fun w => zR Tryz.func103 rfl rfl rfl) rfl rfl (fun w h => containsAny_ok _ w (by omega) hT.ascii) ?_; refine zw rfl rfl (bV h7) ?_; refine w_r (fun _ => R_not rfl) rfl rfl ?_; refine w_r (v := .bool _) (fun _ => zT (bV h7) rfl) rfl rfl ?_; refine w_nilc rfl ?_; refine zf fa33_3 rfl ?_; refine w_store 4 rfl z4 rfl rfl rfl rfl rfl rfl rfl ?_; refine yC ?_; refine aB rfl ?_; refine yB ?_; refine ze ?_
            have hG : fNum z (T.drop k) = .ok (((numV (nowT z (T.drop (k))).2.1), wholeT (nowT z (T.drop (k))).2.1), (T.drop (k)).tail) := by rw [fNum_n hg1]; exact fTok_ok hkd (by omega)
            rw [hG]
            refine k_st (B' := _) (L' := [_, _, _] ++ (_ :: _ :: W2)) (fun w h => by rw [List.append_nil] at h; exact h) ?_; refine zo (v := .bool _) rfl rfl rfl ?_; exact fun w' hw => St.telX (A := [_, _, _]) hw (.tail _ (.head _)) ⟨rfl, k + 1, _, _, W2, drop_tl, by omega, by omega, dd_eq (by rw [h7]; simp), hO2, by rw [List.map_append]; exact Mc.snoc (hK.nx TL.rwc hN (.tail _ (.head _)) hw) (by rw [List.length_map]; exact hO.1) rfl ⟨((a5, c5), (a5', c5')), rfl, ⟨(hK5.nx (.head _) hw (hN5 _ (.head _))), (hK5'.nx (.head _) hw (hN5' _ (.head _)))⟩⟩⟩
          · refine zs rfl rfl (bV h7) ?_; refine zs rfl rfl (bV h7) ?_; refine zs rfl rfl (bV h7) ?_; refine zs rfl rfl (bV h7) ?_; refine w_r (v := .bool _) (fun _ => zF (bV h7) rfl) rfl rfl ?_; refine w_nilc rfl ?_; refine zf fa33_3 rfl ?_; refine w_store 4 rfl z4 rfl rfl rfl rfl rfl rfl rfl ?_; refine yC ?_; refine aB rfl ?_; refine yB ?_; refine ze ?_
            have hG : fNum z (T.drop k) = .ok (((numV (nowT z (T.drop (k))).2.1), wholeT (nowT z (T.drop (k))).2.1), (T.drop (k)).tail) := by rw [fNum_n hg1]; exact fTok_ok hkd (by omega)
            rw [hG]
            refine k_st (B' := _) (L' := [_, _, _] ++ (_ :: _ :: W2)) (fun w h => by rw [List.append_nil] at h; exact h) ?_; refine zo (v := .bool _) rfl rfl rfl ?_; exact fun w' hw => St.telX (A := [_, _, _]) hw (.tail _ (.head _)) ⟨rfl, k + 1, _, _, W2, drop_tl, by omega, by omega, dd_eq (by rw [h7]; simp), hO2, by rw [List.map_append]; exact Mc.snoc (hK.nx TL.rwc hN (.tail _ (.head _)) hw) (by rw [List.length_map]; exact hO.1) rfl ⟨((a5, c5), (a5', c5')), rfl, ⟨(hK5.nx (.head _) hw (hN5 _ (.head _))), (hK5'.nx (.head _) hw (hN5' _ (.head _)))⟩⟩⟩
        · refine o_bsliceV rfl (wn_none rfl) slt31 (by decide) rfl rfl (fun sb gsb usb => ?_)
          refine h_one 4 (by kernel_rfl) (fun w h => (h).pick [1, 2, 3] (by decide)) ?_; refine o_run (v := .slice _ _ _) rfl rfl rfl (fun w h => R_ld1 z31 rfl (zc 4 rfl rfl h)) ?_; refine h_one 7 (by kernel_rfl) (fun w h => (h).pick [1, 2, 3] (by decide)) ?_; refine o_st (B' := _) (L' := [_, _, _, _, _] ++ (W ++ [])) (fun w h => by rw [List.append_nil]; exact h) ?_; refine o_app (L := []) (W := W) (news := [.bool (ng (numV (nowT z (T.drop (k))).2.1).1), .slice a5 (sz (numV (nowT z (T.drop (k))).2.1).1.natAbs) c5, .slice a5' (sz (numV (nowT z (T.drop (k))).2.1).2) c5']) [_, _, _, _, _] rfl slt31 (by decide) rfl hO rfl rfl (row_own 0 rfl (fun j u h => h)) rfl (by decide) (by omega) (by omega) (fun v2 W2 hO2 => ?_)
          obtain ⟨a2, c2, rfl⟩ := hO2.slice
          refine zh 8 rfl (by kernel_rfl) rfl rfl (fun w h => (h).pick [1, 2, 3] (by decide)) (fun w h => R_nil rfl) ?_; refine zh 9 rfl (by kernel_rfl) rfl rfl (fun w h => (h).pick [1, 2, 3] (by decide)) (fun w h => R_fa fa33_4 rfl) ?_; refine h_one 10 (by kernel_rfl) (fun w h => (h).pick [1, 2, 3] (by decide)) ?_; refine o_store 4 rfl rfl z31 rfl rfl rfl rfl rfl rfl rfl ?_; refine h_done (by kernel_rfl) (fun w h => (h).pick [1, 2, 3] (by decide)) ?_; refine zk ?_; refine yA ?_; refine mP rfl ?_; refine mP rfl ?_; refine w_nilc rfl ?_; refine zf fa33_3 rfl ?_; refine zl z4 rfl (fun _ h => zc 4 rfl rfl h) ?_; refine mB rfl ?_; refine zp (t := 63) rfl (fun h8 => ?_) (fun h8 => ?_)
          · refine zw rfl rfl (bV h8) ?_; refine zf fa64_1 rfl ?_; refine zw rfl rfl (bV h8) ?_; refine zl z9 rfl (fun _ h => zc 2 rfl rfl h) ?_; refine zw rfl rfl (bV h8) ?_; refine zC (fun w => zR Tryz.func103 rfl rfl rfl) rfl rfl (fun w h => containsAny_ok _ w (by omega) hT.ascii) ?_; refine zw rfl rfl (bV h8) ?_; refine w_r (fun _ => R_not rfl) rfl rfl ?_; refine w_r (v := .bool _) (fun _ => zT (bV h8) rfl) rfl rfl ?_; refine w_nilc rfl ?_; refine zf fa33_3 rfl ?_; refine w_store 4 rfl z4 rfl rfl rfl rfl rfl rfl rfl ?_; refine yC ?_; refine aB rfl ?_; refine yB ?_; refine ze ?_
            have hG : fNum z (T.drop k) = .ok (((numV (nowT z (T.drop (k))).2.1), wholeT (nowT z (T.drop (k))).2.1), (T.drop (k)).tail) := by rw [fNum_n hg1]; exact fTok_ok hkd (by omega)
            rw [hG]
            refine k_st (B' := _) (L' := [_, _, _] ++ (_ :: _ :: W2)) (fun w h => by rw [List.append_nil] at h; exact h) ?_; refine zo (v := .bool _) rfl rfl rfl ?_; exact fun w' hw => St.telX (A := [_, _, _]) hw (.tail _ (.head _)) ⟨rfl, k + 1, _, _, W2, drop_tl, by omega, by omega, dd_eq (by rw [h8]; simp), hO2, by rw [List.map_append]; exact Mc.snoc (hK.nx TL.rwc hN (.tail _ (.head _)) hw) (by rw [List.length_map]; exact hO.1) rfl ⟨((a5, c5), (a5', c5')), rfl, ⟨(hK5.nx (.head _) hw (hN5 _ (.head _))), (hK5'.nx (.head _) hw (hN5' _ (.head _)))⟩⟩⟩
          · refine zs rfl rfl (bV h8) ?_; refine zs rfl rfl (bV h8) ?_; refine zs rfl rfl (bV h8) ?_; refine zs rfl rfl (bV h8) ?_; refine w_r (v := .bool _) (fun _ => zF (bV h8) rfl) rfl rfl ?_; refine w_nilc rfl ?_; refine zf fa33_3 rfl ?_; refine w_store 4 rfl z4 rfl rfl rfl rfl rfl rfl rfl ?_; refine yC ?_; refine aB rfl ?_; refine yB ?_; refine ze ?_
            have hG : fNum z (T.drop k) = .ok (((numV (nowT z (T.drop (k))).2.1), wholeT (nowT z (T.drop (k))).2.1), (T.drop (k)).tail) := by rw [fNum_n hg1]; exact fTok_ok hkd (by omega)
            rw [hG]
            refine k_st (B' := _) (L' := [_, _, _] ++ (_ :: _ :: W2)) (fun w h => by rw [List.append_nil] at h; exact h) ?_; refine zo (v := .bool _) rfl rfl rfl ?_; exact fun w' hw => St.telX (A := [_, _, _]) hw (.tail _ (.head _)) ⟨rfl, k + 1, _, _, W2, drop_tl, by omega, by omega, dd_eq (by rw [h8]; simp), hO2, by rw [List.map_append]; exact Mc.snoc (hK.nx TL.rwc hN (.tail _ (.head _)) hw) (by rw [List.length_map]; exact hO.1) rfl ⟨((a5, c5), (a5', c5')), rfl, ⟨(hK5.nx (.head _) hw (hN5 _ (.head _))), (hK5'.nx (.head _) hw (hN5' _ (.head _)))⟩⟩⟩
  · refine w_call1 0 rfl (fun w => zR Tryz.func61 rfl rfl rfl) rfl rfl (fun w h => by have h9 := ftake_ok [45] rb z (k) (e9) (a9) M tc ta T w (hP.now (.head _) (fun j hj => by rcases List.mem_cons.1 hj with rfl | hj; (exact hM); (rcases List.mem_cons.1 hj with rfl | hj; (exact hMd); (obtain ⟨q, hq, rfl⟩ := List.mem_map.1 hj; exact hMW q hq))) h) (h.at_ 0 rfl) (by omega) hM; rw [hg1, if_pos rfl] at h9; exact h9) ?_
    have hlt1 := isG_lt hg1
    refine aB rfl ?_; refine yC ?_; refine mP rfl ?_; refine zC (fun w => zR Tryz.func22 rfl rfl rfl) rfl rfl (fun w h => fnow_ok rb z (k + 1) (e9) (a9) M tc ta T w (hP.now (.head _) (fun j hj => by rcases List.mem_cons.1 hj with rfl | hj; (exact hM); (rcases List.mem_cons.1 hj with rfl | hj; (exact hMd); (obtain ⟨q, hq, rfl⟩ := List.mem_map.1 hj; exact hMW q hq))) h) (h.at_ 0 rfl) (by omega)) ?_; refine w_alloc zr64 (fun t6b gt6b ut6b => ?_)
    refine w_store 0 rfl z64 rfl rfl rfl rfl rfl rfl rfl ?_; refine yB ?_; refine zq ?_; refine yA ?_; refine zf fa64_0 rfl ?_; refine zl z5 rfl (fun _ h => zc 0 rfl rfl h) ?_; refine w_r (fun _ => R_ne rfl rfl) rfl rfl ?_; refine yB ?_; refine zD rfl (fun h10 => ?_) (fun h10 => ?_)
    · have hkd : ¬ (nowT z (T.drop (k + 1))).1 = 2 := (by omega)
      refine yA ?_; refine mP rfl ?_; refine w_call1 1 rfl (fun w => zR Tryz.func24 rfl rfl rfl) rfl rfl (fun w h => ffail_ok 130 rb z (k + 1) (e9) (a9) M tc ta T w (hP.now (.head _) (fun j hj => by rcases List.mem_cons.1 hj with rfl | hj; (exact hM); (rcases List.mem_cons.1 hj with rfl | hj; (exact hMd); (obtain ⟨q, hq, rfl⟩ := List.mem_map.1 hj; exact hMW q hq))) h) (h.at_ 1 rfl) (by omega) hM) ?_; refine aB rfl ?_; refine yB ?_; refine ze ?_; refine zt (?_)
      have hG : fNum z (T.drop k) = .error (130, place z (T.drop (k + 1))) := by rw [fNum_y hg1, drop_tl]; exact fTok_kind hkd
      rw [hG]
      refine zo (v := .bool _) rfl rfl rfl ?_; exact fun w' hw => St.telX (A := [_]) hw (.head _) ⟨rfl, k + 1, _, by omega, rfl⟩
    · have hkd : (nowT z (T.drop (k + 1))).1 = 2 := (by omega); have hT := now_nt hP hkd; have hnb := nowT_b (k := k + 1) hP
      refine zi ?_; refine zk ?_; refine yA ?_; refine zf fa64_1 rfl ?_; refine zl z9 rfl (fun _ h => zc 0 rfl rfl h) ?_
      rcases Nat.lt_or_ge 400 (nowT z (T.drop (k + 1))).2.1.length with hlong | hlong
      · refine zC (fun w => zR Tryz.func101 rfl rfl rfl) rfl rfl (fun w h => numeralF_no _ w ⟨hlong, by omega⟩) ?_; refine zm rfl ?_; refine w_r (fun _ => R_extract rfl rfl) rfl rfl ?_; refine w_r (fun _ => R_extract rfl rfl) rfl rfl ?_; refine w_alloc zr46 (fun t7b gt7b ut7b => ?_)
        refine w_store 0 rfl z46 rfl rfl rfl rfl rfl rfl rfl ?_; refine aI rfl ?_; refine yB ?_; refine zq ?_; refine yA ?_; refine zf fa64_1 rfl ?_; refine zl z9 rfl (fun _ h => zc 1 rfl rfl h) ?_; refine w_r (fun _ => R_slen st9 rfl (by omega)) rfl rfl ?_; refine w_r (fun _ => R_gtT rfl rfl (by omega)) rfl rfl ?_; refine mB rfl ?_; refine zs rfl rfl rfl ?_; refine zs rfl rfl rfl ?_; refine w_r (v := .bool _) (fun _ => zT rfl rfl) rfl rfl ?_; refine yB ?_; refine zE rfl ?_; refine yA ?_; refine mP rfl ?_
        refine w_call1 2 rfl (fun w => zR Tryz.func24 rfl rfl rfl) rfl rfl (fun w h => ffail_ok 3 rb z (k + 1) (e9) (a9) M tc ta T w (hP.now (.head _) (fun j hj => by rcases List.mem_cons.1 hj with rfl | hj; (exact hM); (rcases List.mem_cons.1 hj with rfl | hj; (exact hMd); (obtain ⟨q, hq, rfl⟩ := List.mem_map.1 hj; exact hMW q hq))) h) (h.at_ 2 rfl) (by omega) hM) ?_; refine aB rfl ?_; refine yB ?_; refine ze ?_; refine zt (?_)
        have hG : fNum z (T.drop k) = .error (3, place z (T.drop (k + 1))) := by rw [fNum_y hg1, drop_tl]; exact fTok_long hkd hlong
        rw [hG]
        refine zo (v := .bool _) rfl rfl rfl ?_; exact fun w' hw => St.telX (A := [_, _]) hw (.head _) ⟨rfl, k + 1, _, by omega, rfl⟩
      · refine w_tel2 (fun w => zR Tryz.func101 rfl rfl rfl) rfl rfl (fun w h => numeralF_ok _ w hlong hT) (fun x12 a12 c12 a12' c12' hK12 hN12 hK12' hN12' => ?_)
        have hvp := numV_pos (nowT z (T.drop (k + 1))).2.1; have hvs := numV_sz hT hlong
        refine zm rfl ?_; refine w_r (fun _ => R_extract rfl rfl) rfl rfl ?_; refine w_r (fun _ => R_extract rfl rfl) rfl rfl ?_; refine w_alloc zr46 (fun t7b gt7b ut7b => ?_)
        refine w_store 0 rfl z46 rfl rfl rfl rfl rfl rfl rfl ?_; refine aI rfl ?_; refine yB ?_; refine zq ?_; refine yA ?_; refine zf fa64_1 rfl ?_; refine zl z9 rfl (fun _ h => zc 1 rfl rfl h) ?_; refine w_r (fun _ => R_slen st9 rfl (by omega)) rfl rfl ?_; refine w_r (fun _ => R_gtF rfl rfl (by omega)) rfl rfl ?_; refine mB rfl ?_; refine zw rfl rfl rfl ?_; refine mI rfl ?_; refine zw rfl rfl rfl ?_; refine w_r (fun _ => R_ne rfl rfl) rfl rfl ?_; refine w_r (v := .bool _) (fun _ => zF rfl rfl) rfl rfl ?_; refine yB ?_; refine c_condF (congrArg Value.bool (decide_eq_false (by decide))) ?_
        refine zi ?_; refine zk ?_; refine zq ?_; refine yA ?_; refine mB rfl ?_; refine yB ?_; refine zE rfl ?_; refine zr ?_; refine w_loadA z46 rfl (fun _ h => h.at_ 0 rfl) rfl ?_; refine w_tel2 (fun w => zR Tryz.func102 rfl rfl rfl) rfl rfl (fun w h => fNeg_ok (ng (numV (nowT z (T.drop (k + 1))).2.1).1) w (hK12.at_ 0 rfl h) (hK12'.at_ 0 rfl h) ⟨by omega, by omega, by omega, by omega, hvp⟩) (fun x14 a14 c14 a14' c14' hK14 hN14 hK14' hN14' => ?_)
        have hvz := ngR_sz (x := (numV (nowT z (T.drop (k + 1))).2.1))
        refine zm rfl ?_; refine w_r (fun _ => R_extract rfl rfl) rfl rfl ?_; refine w_r (fun _ => R_extract rfl rfl) rfl rfl ?_; refine w_store 0 rfl z46 rfl rfl rfl rfl rfl rfl rfl ?_; refine yC ?_; refine mP rfl ?_; refine mP rfl ?_; refine w_nilc rfl ?_; refine zf fa61_0 rfl ?_; refine zl z59 rfl (fun _ h => zc 2 rfl rfl h) ?_
        have hlt : k + 1 < T.length := now_lt (z := z) (by rw [hkd]; decide)
        refine w_r (fun _ => R_low3 sl59 rfl rfl hlt hP.le) rfl rfl ?_; refine w_nilc rfl ?_; refine zf fa61_0 rfl ?_; refine w_store 2 rfl z59 rfl rfl rfl rfl rfl rfl rfl ?_; refine yB ?_; refine zq ?_; refine c_heldI [0, 1, 2] mixed ?_; refine zh (v := .pointer _) 0 rfl (by kernel_rfl) rfl rfl (fun w h => (h).pick [0, 1, 2] (by decide)) (fun w h => R_move rfl) ?_; refine zh (v := .pointer _) 1 rfl (by kernel_rfl) rfl rfl (fun w h => (h).pick [0, 1, 2] (by decide)) (fun w h => R_move rfl) ?_; refine zh 2 rfl (by kernel_rfl) rfl rfl (fun w h => (h).pick [0, 1, 2] (by decide)) (fun w h => R_nil rfl) ?_; refine zh 3 rfl (by kernel_rfl) rfl rfl (fun w h => (h).pick [0, 1, 2] (by decide)) (fun w h => R_fa fa33_4 rfl) ?_; refine h_loadA 5 rfl (by kernel_rfl) (fun w h => (h).pick [0, 1, 2] (by decide)) z46 rfl (fun _ h => h.at_ 0 rfl) rfl ?_
        refine h_two 4 6 (by kernel_rfl) (fun w h => (h).pick [0, 1, 2] (by decide)) ?_ ?_
        · refine o_run (v := .slice _ _ _) rfl rfl rfl (fun w h => R_ld1 z31 rfl (zc 3 rfl rfl h)) ?_; refine h_one 6 (by kernel_rfl) (fun w h => (h).pick [0, 1, 2] (by decide)) ?_; refine o_bsliceV rfl (wn_none rfl) slt31 (by decide) rfl rfl (fun sb gsb usb => ?_)
          refine h_one 7 (by kernel_rfl) (fun w h => (h).pick [1, 2, 3] (by decide)) ?_; refine o_st (B' := _) (L' := [_, _, _, _, _] ++ (W ++ [])) (fun w h => by rw [List.append_nil]; exact h) ?_; refine o_app (L := []) (W := W) (news := [.bool (ng (ngR (numV (nowT z (T.drop (k + 1))).2.1)).1), .slice a14 (sz (ngR (numV (nowT z (T.drop (k + 1))).2.1)).1.natAbs) c14, .slice a14' (sz (ngR (numV (nowT z (T.drop (k + 1))).2.1)).2) c14']) [_, _, _, _, _] rfl slt31 (by decide) rfl hO rfl rfl (row_own 0 rfl (fun j u h => h)) rfl (by decide) (by omega) (by omega) (fun v2 W2 hO2 => ?_)
          obtain ⟨a2, c2, rfl⟩ := hO2.slice
          refine zh 8 rfl (by kernel_rfl) rfl rfl (fun w h => (h).pick [1, 2, 3] (by decide)) (fun w h => R_nil rfl) ?_; refine zh 9 rfl (by kernel_rfl) rfl rfl (fun w h => (h).pick [1, 2, 3] (by decide)) (fun w h => R_fa fa33_4 rfl) ?_; refine h_one 10 (by kernel_rfl) (fun w h => (h).pick [1, 2, 3] (by decide)) ?_; refine o_store 4 rfl rfl z31 rfl rfl rfl rfl rfl rfl rfl ?_; refine h_done (by kernel_rfl) (fun w h => (h).pick [1, 2, 3] (by decide)) ?_; refine zk ?_; refine yA ?_; refine mP rfl ?_; refine mP rfl ?_; refine w_nilc rfl ?_; refine zf fa33_3 rfl ?_; refine zl z4 rfl (fun _ h => zc 4 rfl rfl h) ?_; refine mB rfl ?_; refine zp (t := 63) rfl (fun h15 => ?_) (fun h15 => ?_)
          · refine zw rfl rfl (bV h15) ?_; refine zf fa64_1 rfl ?_; refine zw rfl rfl (bV h15) ?_; refine zl z9 rfl (fun _ h => zc 2 rfl rfl h) ?_; refine zw rfl rfl (bV h15) ?_; refine zC (fun w => zR Tryz.func103 rfl rfl rfl) rfl rfl (fun w h => containsAny_ok _ w (by omega) hT.ascii) ?_; refine zw rfl rfl (bV h15) ?_; refine w_r (fun _ => R_not rfl) rfl rfl ?_; refine w_r (v := .bool _) (fun _ => zT (bV h15) rfl) rfl rfl ?_; refine w_nilc rfl ?_; refine zf fa33_3 rfl ?_; refine w_store 4 rfl z4 rfl rfl rfl rfl rfl rfl rfl ?_; refine yC ?_; refine aB rfl ?_; refine yB ?_; refine ze ?_
            have hG : fNum z (T.drop k) = .ok (((ngR (numV (nowT z (T.drop (k + 1))).2.1)), wholeT (nowT z (T.drop (k + 1))).2.1), (T.drop (k + 1)).tail) := by rw [fNum_y hg1, drop_tl]; exact fTok_ok hkd (by omega)
            rw [hG]
            refine k_st (B' := _) (L' := [_, _, _] ++ (_ :: _ :: W2)) (fun w h => by rw [List.append_nil] at h; exact h) ?_; refine zo (v := .bool _) rfl rfl rfl ?_; exact fun w' hw => St.telX (A := [_, _, _]) hw (.tail _ (.tail _ (.head _))) ⟨rfl, k + 1 + 1, _, _, W2, drop_tl, by omega, by omega, dd_eq (by rw [h15]; simp), hO2, by rw [List.map_append]; exact Mc.snoc (hK.nx TL.rwc hN (.tail _ (.tail _ (.head _))) hw) (by rw [List.length_map]; exact hO.1) rfl ⟨((a14, c14), (a14', c14')), rfl, ⟨(hK14.nx (.head _) hw (hN14 _ (.tail _ (.head _)))), (hK14'.nx (.head _) hw (hN14' _ (.tail _ (.head _))))⟩⟩⟩
          · refine zs rfl rfl (bV h15) ?_; refine zs rfl rfl (bV h15) ?_; refine zs rfl rfl (bV h15) ?_; refine zs rfl rfl (bV h15) ?_; refine w_r (v := .bool _) (fun _ => zF (bV h15) rfl) rfl rfl ?_; refine w_nilc rfl ?_; refine zf fa33_3 rfl ?_; refine w_store 4 rfl z4 rfl rfl rfl rfl rfl rfl rfl ?_; refine yC ?_; refine aB rfl ?_; refine yB ?_; refine ze ?_
            have hG : fNum z (T.drop k) = .ok (((ngR (numV (nowT z (T.drop (k + 1))).2.1)), wholeT (nowT z (T.drop (k + 1))).2.1), (T.drop (k + 1)).tail) := by rw [fNum_y hg1, drop_tl]; exact fTok_ok hkd (by omega)
            rw [hG]
            refine k_st (B' := _) (L' := [_, _, _] ++ (_ :: _ :: W2)) (fun w h => by rw [List.append_nil] at h; exact h) ?_; refine zo (v := .bool _) rfl rfl rfl ?_; exact fun w' hw => St.telX (A := [_, _, _]) hw (.tail _ (.tail _ (.head _))) ⟨rfl, k + 1 + 1, _, _, W2, drop_tl, by omega, by omega, dd_eq (by rw [h15]; simp), hO2, by rw [List.map_append]; exact Mc.snoc (hK.nx TL.rwc hN (.tail _ (.tail _ (.head _))) hw) (by rw [List.length_map]; exact hO.1) rfl ⟨((a14, c14), (a14', c14')), rfl, ⟨(hK14.nx (.head _) hw (hN14 _ (.tail _ (.head _)))), (hK14'.nx (.head _) hw (hN14' _ (.tail _ (.head _))))⟩⟩⟩
        · refine o_bsliceV rfl (wn_none rfl) slt31 (by decide) rfl rfl (fun sb gsb usb => ?_)
          refine h_one 4 (by kernel_rfl) (fun w h => (h).pick [1, 2, 3] (by decide)) ?_; refine o_run (v := .slice _ _ _) rfl rfl rfl (fun w h => R_ld1 z31 rfl (zc 4 rfl rfl h)) ?_; refine h_one 7 (by kernel_rfl) (fun w h => (h).pick [1, 2, 3] (by decide)) ?_; refine o_st (B' := _) (L' := [_, _, _, _, _] ++ (W ++ [])) (fun w h => by rw [List.append_nil]; exact h) ?_; refine o_app (L := []) (W := W) (news := [.bool (ng (ngR (numV (nowT z (T.drop (k + 1))).2.1)).1), .slice a14 (sz (ngR (numV (nowT z (T.drop (k + 1))).2.1)).1.natAbs) c14, .slice a14' (sz (ngR (numV (nowT z (T.drop (k + 1))).2.1)).2) c14']) [_, _, _, _, _] rfl slt31 (by decide) rfl hO rfl rfl (row_own 0 rfl (fun j u h => h)) rfl (by decide) (by omega) (by omega) (fun v2 W2 hO2 => ?_)
          obtain ⟨a2, c2, rfl⟩ := hO2.slice
          refine zh 8 rfl (by kernel_rfl) rfl rfl (fun w h => (h).pick [1, 2, 3] (by decide)) (fun w h => R_nil rfl) ?_; refine zh 9 rfl (by kernel_rfl) rfl rfl (fun w h => (h).pick [1, 2, 3] (by decide)) (fun w h => R_fa fa33_4 rfl) ?_; refine h_one 10 (by kernel_rfl) (fun w h => (h).pick [1, 2, 3] (by decide)) ?_; refine o_store 4 rfl rfl z31 rfl rfl rfl rfl rfl rfl rfl ?_; refine h_done (by kernel_rfl) (fun w h => (h).pick [1, 2, 3] (by decide)) ?_; refine zk ?_; refine yA ?_; refine mP rfl ?_; refine mP rfl ?_; refine w_nilc rfl ?_; refine zf fa33_3 rfl ?_; refine zl z4 rfl (fun _ h => zc 4 rfl rfl h) ?_; refine mB rfl ?_; refine zp (t := 63) rfl (fun h16 => ?_) (fun h16 => ?_)
          · refine zw rfl rfl (bV h16) ?_; refine zf fa64_1 rfl ?_; refine zw rfl rfl (bV h16) ?_; refine zl z9 rfl (fun _ h => zc 2 rfl rfl h) ?_; refine zw rfl rfl (bV h16) ?_; refine zC (fun w => zR Tryz.func103 rfl rfl rfl) rfl rfl (fun w h => containsAny_ok _ w (by omega) hT.ascii) ?_; refine zw rfl rfl (bV h16) ?_; refine w_r (fun _ => R_not rfl) rfl rfl ?_; refine w_r (v := .bool _) (fun _ => zT (bV h16) rfl) rfl rfl ?_; refine w_nilc rfl ?_; refine zf fa33_3 rfl ?_; refine w_store 4 rfl z4 rfl rfl rfl rfl rfl rfl rfl ?_; refine yC ?_; refine aB rfl ?_; refine yB ?_; refine ze ?_
            have hG : fNum z (T.drop k) = .ok (((ngR (numV (nowT z (T.drop (k + 1))).2.1)), wholeT (nowT z (T.drop (k + 1))).2.1), (T.drop (k + 1)).tail) := by rw [fNum_y hg1, drop_tl]; exact fTok_ok hkd (by omega)
            rw [hG]
            refine k_st (B' := _) (L' := [_, _, _] ++ (_ :: _ :: W2)) (fun w h => by rw [List.append_nil] at h; exact h) ?_; refine zo (v := .bool _) rfl rfl rfl ?_; exact fun w' hw => St.telX (A := [_, _, _]) hw (.tail _ (.tail _ (.head _))) ⟨rfl, k + 1 + 1, _, _, W2, drop_tl, by omega, by omega, dd_eq (by rw [h16]; simp), hO2, by rw [List.map_append]; exact Mc.snoc (hK.nx TL.rwc hN (.tail _ (.tail _ (.head _))) hw) (by rw [List.length_map]; exact hO.1) rfl ⟨((a14, c14), (a14', c14')), rfl, ⟨(hK14.nx (.head _) hw (hN14 _ (.tail _ (.head _)))), (hK14'.nx (.head _) hw (hN14' _ (.tail _ (.head _))))⟩⟩⟩
          · refine zs rfl rfl (bV h16) ?_; refine zs rfl rfl (bV h16) ?_; refine zs rfl rfl (bV h16) ?_; refine zs rfl rfl (bV h16) ?_; refine w_r (v := .bool _) (fun _ => zF (bV h16) rfl) rfl rfl ?_; refine w_nilc rfl ?_; refine zf fa33_3 rfl ?_; refine w_store 4 rfl z4 rfl rfl rfl rfl rfl rfl rfl ?_; refine yC ?_; refine aB rfl ?_; refine yB ?_; refine ze ?_
            have hG : fNum z (T.drop k) = .ok (((ngR (numV (nowT z (T.drop (k + 1))).2.1)), wholeT (nowT z (T.drop (k + 1))).2.1), (T.drop (k + 1)).tail) := by rw [fNum_y hg1, drop_tl]; exact fTok_ok hkd (by omega)
            rw [hG]
            refine k_st (B' := _) (L' := [_, _, _] ++ (_ :: _ :: W2)) (fun w h => by rw [List.append_nil] at h; exact h) ?_; refine zo (v := .bool _) rfl rfl rfl ?_; exact fun w' hw => St.telX (A := [_, _, _]) hw (.tail _ (.tail _ (.head _))) ⟨rfl, k + 1 + 1, _, _, W2, drop_tl, by omega, by omega, dd_eq (by rw [h16]; simp), hO2, by rw [List.map_append]; exact Mc.snoc (hK.nx TL.rwc hN (.tail _ (.tail _ (.head _))) hw) (by rw [List.length_map]; exact hO.1) rfl ⟨((a14, c14), (a14', c14')), rfl, ⟨(hK14.nx (.head _) hw (hN14 _ (.tail _ (.head _)))), (hK14'.nx (.head _) hw (hN14' _ (.tail _ (.head _))))⟩⟩⟩
end Go.Proofs.YtikdkendinnalaaGreatDoor
end
section
/- What was told meanwhile, as a call is to tell it. -/
namespace Go.Sx
open Go.RowKit Go.Num Go.Feed
theorem Kt.nx {α β : Type} {M : World → (Nat → Prop) → α → β → Prop} {x : Bw} {a : α} {b : β} {B : Base} {A X' : Heap} {w w' : World} {N : Nat → Prop} (h : Kt x w.heap.size M a b) (hM : TL M) (hx : x ∈ B) (hw : St B (A ++ X') w') : M w' (Nx N w w' X') a b :=
  hM.mono (h.at hM hx hw) fun j hj => .inr ⟨⟨hj.1, Nat.lt_of_lt_of_le hj.2.1 (hw.fr x hx).size⟩, fun hm => by
    obtain ⟨p, hp, rfl⟩ := List.mem_map.1 hm
    rcases hw.ok p (List.mem_append_right _ hp) x hx with h1 | h1
    · exact hj.2.2 h1
    · have := hj.2.1; omega⟩
theorem St.keep2 {B : Base} {L : Heap} {w : World} {a b : World × (Nat → Prop)} (h : St (a :: B) L w) (hb : b ∈ B) : St [a, b] L w := h.unbase fun x hx => by
  rcases List.mem_cons.1 hx with rfl | hx
  · exact .head _
  · obtain rfl := List.mem_singleton.1 hx; exact .tail _ hb
theorem Kt.sub {α β : Type} {M : World → (Nat → Prop) → α → β → Prop} {a : α} {b : β} {w : World} {s0 : Nat} {L L' : Heap} (h : Kt (w, inL L) s0 M a b) (hM : TL M) (hs : L'.Sublist L) : Kt (w, inL L') s0 M a b :=
  hM.mono h fun _ hj => ⟨hj.1, hj.2.1, fun hm => hj.2.2 ((hs.map (·.1)).subset hm)⟩
/-- a row of the call's own that is let go -/
theorem row_kt {α : Type} {k : Nat} {M : World → (Nat → Prop) → α → List Value → Prop} {B : Base} {A1 A2 W L' : Heap} {w w2 : World} {T : TypeId} {l : List α} {va : Option Addr} {vc : Nat} {xs : List Value} (hw : St B (A1 ++ (W ++ A2)) w2) (hs : L'.Sublist (A1 ++ A2)) (hx : (w, No) ∈ B) (hO : Own T k (.slice va l.length vc) xs l.length W) (hm : Mc k M w2 (Nb w.heap.size (w2, inL L')) l xs) :
    Kt (w2, inL L') w.heap.size (rowM k M) l (va, vc) := by
  have hnd := hw.nd
  rw [List.map_append, List.map_append, List.nodup_append, List.nodup_append] at hnd
  obtain ⟨b, hb, hr⟩ := own_row hO (fun p hp => hw.own p (List.mem_append_right _ (List.mem_append_left _ hp))) (N := Nb w.heap.size (w2, inL L')) (fun p hp => by
    refine ⟨(hw.ok p (List.mem_append_right _ (List.mem_append_left _ hp)) _ hx).elim (fun h => h.elim) (fun h => h), lt_of_blk (hw.own p (List.mem_append_right _ (List.mem_append_left _ hp))), fun hm => ?_⟩
    have h1 := (hs.map (·.1)).subset hm
    rw [List.map_append, List.mem_append] at h1
    have hpw : p.1 ∈ W.map (·.1) := List.mem_map_of_mem hp
    rcases h1 with h1 | h1
    · exact hnd.2.2 _ h1 _ (List.mem_append_left _ hpw) rfl
    · exact hnd.2.1.2.2 _ hpw _ h1 rfl) hm
  simp only [Value.slice.injEq] at hb
  obtain ⟨h1, _, h2⟩ := hb
  have : b = (va, vc) := by rw [h1, h2]
  rw [this] at hr
  exact hr
end Go.Sx
end
section
namespace Go.Proofs.YtikdkendinnalaaGreatDoor
open Go.RowKit Go.Sx
open Go.Tok Go.Tree Go.Prs Go.Feed Go.Num
theorem hMW_ {B : Base} {W : Heap} {w w1 : World} {rb db : Nat} {M : Nat → Prop} {o1 o2 o3 o4 : Obj} (hx : (w, inL ((rb, o1) :: (db, o2) :: [])) ∈ B) (hM : M rb) (hMd : M db) (hMs : ∀ j, w.heap.size ≤ j → M j) (h : St B ((rb, o3) :: (db, o4) :: W) w1) : ∀ p ∈ W, M p.1 := fun p hp => by
  rcases h.ok p (.tail _ (.tail _ hp)) _ hx with h1 | h1
  · rcases List.mem_cons.1 h1 with h2 | h2
    · rw [h2]; exact hM
    · rcases List.mem_cons.1 h2 with h3 | h3
      · rw [h3]; exact hMd
      · exact absurd h3 (by simp)
  · exact hMs _ h1
theorem NumQ.mono {rb db tc z e9 a9 k : Nat} {ta : Option Addr} {T : List Tk} {nm : Str} {p : Nat} {li wh : Bool} {l : List Rt} {X : Except Fl ((Rt × Bool) × List Tk)} : ∀ v X' N N' w, NumQ rb db tc z e9 a9 k ta T nm p li wh l X v X' N w → (∀ j, N j → N' j) → NumQ rb db tc z e9 a9 k ta T nm p li wh l X v X' N' w := by
  intro v X' N N' w h hn
  unfold NumQ at h ⊢
  split
  · obtain ⟨h1, k', v', xs', W', h2, h3, h4, h5, h6, h7⟩ := h
    exact ⟨h1, k', v', xs', W', h2, h3, h4, h5, h6, (TL.cells TL.rwc).mono h7 hn⟩
  · exact h
/-- what value tells -/
def ValQ (rb db tc z e9 a9 k : Nat) (ta : Option Addr) (T : List Tk) (nm : Str) (p : Nat) (X : Except Fl ((Bool × List Rt × Bool) × List Tk)) : Value → Heap → (Nat → Prop) → World → Prop := fun v X' N w =>
  match X with
  | .ok (a, r) => v = .bool true ∧ ∃ k' v' xs' W', r = T.drop k' ∧ k < k' ∧ k' ≤ T.length ∧ X' = (rb, Rr ta tc T.length z k' e9 a9) :: (db, Dd nm p a.1 a.2.2 v') :: W' ∧ Own 46 3 v' xs' a.2.1.length W' ∧ Mc 3 rwC w N (a.2.1.map rwR) xs' ∧ a.2.1.length ≤ T.length
  | .error fl => v = .bool false ∧ ∃ k' Y, k' ≤ T.length ∧ X' = (rb, Rr ta tc T.length z k' fl.1 fl.2) :: Y
theorem ValQ.mono {rb db tc z e9 a9 k : Nat} {ta : Option Addr} {T : List Tk} {nm : Str} {p : Nat} {X : Except Fl ((Bool × List Rt × Bool) × List Tk)} : ∀ v X' N N' w, ValQ rb db tc z e9 a9 k ta T nm p X v X' N w → (∀ j, N j → N' j) → ValQ rb db tc z e9 a9 k ta T nm p X v X' N' w := by
  intro v X' N N' w h hn
  unfold ValQ at h ⊢
  split
  · obtain ⟨h1, k', v', xs', W', h2, h3, h4, h5, h6, h7, h8⟩ := h
    exact ⟨h1, k', v', xs', W', h2, h3, h4, h5, h6, (TL.cells TL.rwc).mono h7 hn, h8⟩
  · exact h
theorem fVal_no {z n : Nat} {ts : List Tk} (h : isG [91] ts = false) : fVal z n ts = andR (fNum z ts) fun a r => .ok ((false, [a.1], a.2), r) := if_neg (by rw [h]; decide)
theorem fVal_nil {z n : Nat} {ts : List Tk} (h : isG [91] ts = true) (h2 : isG [93] ts.tail = true) : fVal z n ts = .ok ((true, [], true), ts.tail.tail) := (if_pos h).trans (if_pos h2)
theorem fVal_row {z n : Nat} {ts : List Tk} (h : isG [91] ts = true) (h2 : isG [93] ts.tail = false) : fVal z n ts = andR (fRow z n [] true ts.tail) fun v r => .ok ((true, v.1, v.2), r) := (if_pos h).trans (if_neg (by rw [h2]; decide))
theorem fRow_e {z n : Nat} {l : List Rt} {b : Bool} {ts : List Tk} {fl : Fl} (h : fNum z ts = .error fl) : fRow z (n + 1) l b ts = .error fl := by rw [fRow, h]; rfl
theorem fRow_c {z n : Nat} {l : List Rt} {b : Bool} {ts r : List Tk} {a : Rt × Bool} (h : fNum z ts = .ok (a, r)) (h2 : isG [44] r = true) : fRow z (n + 1) l b ts = fRow z n (l ++ [a.1]) (b && a.2) r.tail := by rw [fRow, h, andR_ok, if_pos h2]
theorem fRow_d {z n : Nat} {l : List Rt} {b : Bool} {ts r : List Tk} {a : Rt × Bool} (h : fNum z ts = .ok (a, r)) (h2 : isG [44] r = false) (h3 : isG [93] r = true) : fRow z (n + 1) l b ts = .ok ((l ++ [a.1], b && a.2), r.tail) := by
  rw [fRow, h, andR_ok, if_neg (by rw [h2]; decide)]; unfold wantG; rw [if_pos h3]
theorem fRow_f {z n : Nat} {l : List Rt} {b : Bool} {ts r : List Tk} {a : Rt × Bool} (h : fNum z ts = .ok (a, r)) (h2 : isG [44] r = false) (h3 : isG [93] r = false) : fRow z (n + 1) l b ts = .error (130, place z r) := by
  rw [fRow, h, andR_ok, if_neg (by rw [h2]; decide)]; unfold wantG; rw [if_neg (by rw [h3]; decide)]
set_option maxRecDepth 100000 in
set_option maxHeartbeats 8000000 in
theorem value_ok (rb db z k e9 a9 : Nat) (M : Nat → Prop) (tc n : Nat) (ta : Option Addr) (T : List Tk) (w : World) (hP : Pf w M T ta tc z) (hk : k ≤ T.length) (hn : T.length - k < n) (hM : M rb) (hMd : M db) (hMs : ∀ j, w.heap.size ≤ j → M j) (nm : Str) (p : Nat) (N : Nat → Prop) (hX : St [(w, inL ((rb, Rr ta tc T.length z (k) (e9) (a9)) :: (db, Dd nm p false true (.slice none 0 0)) :: []))] ((rb, Rr ta tc T.length z (k) (e9) (a9)) :: (db, Dd nm p false true (.slice none 0 0)) :: []) w) :
    Ret Tryz.prog 26 #[.pointer (some ⟨rb, 0, none⟩), .pointer (some ⟨db, 0, none⟩)] w (TelX ((rb, Rr ta tc T.length z (k) (e9) (a9)) :: (db, Dd nm p false true (.slice none 0 0)) :: []) (ValQ rb db tc z e9 a9 k ta T nm p (fVal z n (T.drop k))) N w) := by
  have hlen := hP.len
  refine enter (S := (inL ((rb, Rr ta tc T.length z (k) (e9) (a9)) :: (db, Dd nm p false true (.slice none 0 0)) :: []))) (l := [_, _]) (L := [(rb, Rr ta tc T.length z (k) (e9) (a9)), (db, Dd nm p false true (.slice none 0 0))]) 29 Tryz.func26 rfl rfl rfl (hX) ?_; refine yA ?_; refine aB rfl ?_; refine yB ?_; refine zq ?_; refine yA ?_; refine mP rfl ?_; refine mP rfl ?_
  cases hg1 : isG [91] (T.drop (k))
  · refine w_call1 0 rfl (fun w => zR Tryz.func61 rfl rfl rfl) rfl rfl (fun w h => by have h9 := ftake_ok [91] rb z (k) (e9) (a9) M tc ta T w (hP.now (.head _) (fun j hj => by rcases List.mem_cons.1 hj with rfl | hj; (exact hM); (rcases List.mem_cons.1 hj with rfl | hj; (exact hMd); (exact absurd hj (by simp)))) h) (h.at_ 0 rfl) (by omega) hM; rw [hg1, if_neg (by decide)] at h9; exact h9) ?_; refine w_nilc rfl ?_; refine zf fa33_2 rfl ?_; refine w_store 1 rfl z4 rfl rfl rfl rfl rfl rfl rfl ?_; refine yC ?_; refine mP rfl ?_; refine w_nilc rfl ?_; refine zf fa33_2 rfl ?_; refine zl z4 rfl (fun _ h => zc 1 rfl rfl h) ?_; refine w_r (fun _ => R_not rfl) rfl rfl ?_
    refine yB ?_; refine zE rfl ?_; refine yA ?_; refine mP rfl ?_; refine mP rfl ?_; refine w_st (B' := _) (L' := [] ++ ((rb, Rr ta tc T.length z (k) (e9) (a9)) :: (db, Dd nm p false true (.slice none ([] : List Rt).length 0)) :: [])) (fun w h => h) ?_
    refine w_callX (A := []) (X := ((rb, Rr ta tc T.length z (k) (e9) (a9)) :: (db, Dd nm p false true (.slice none ([] : List Rt).length 0)) :: [])) (R := NumQ rb db tc z e9 a9 (k) ta T nm p false true ([] : List Rt) (fNum z (T.drop (k)))) (s0 := w.heap.size) NumQ.mono (fun w => zR Tryz.func62 rfl rfl rfl) rfl rfl (fun w1 h => (h.fr _ (.head _)).size) (fun w1 h => number_ok rb db z (k) e9 a9 M tc ta T w1 (hP.now (.head _) (fun j hj => by rcases List.mem_cons.1 hj with rfl | hj; (exact hM); (rcases List.mem_cons.1 hj with rfl | hj; (exact hMd); (exact absurd hj (by simp)))) h) (by omega) hM hMd nm p false true none 0 [] ([] : List Rt) [] (Own.nil _ _) (fun p hp => absurd hp (by simp)) (by first | omega | decide) (Nb w.heap.size (w1, inL _)) (fun j hj => hj.2.2) Mc.nil (St.part (A := []) h)) (fun u2 X2 x2 hR2 => ?_)
    rcases hq2 : fNum z (T.drop (k)) with fl2 | ⟨ar2, r2⟩
    · rw [hq2] at hR2; obtain ⟨rfl, k2, Y2, hk2, rfl⟩ := hR2
      refine aB rfl ?_; refine yB ?_; refine ze ?_; refine zt (?_)
      have hV : fVal z n (T.drop k) = .error fl2 := by rw [fVal_no hg1, hq2]; rfl
      rw [hV]
      refine zo (v := .bool _) rfl rfl rfl ?_; exact fun w' hw => St.telX (A := []) hw (.tail _ (.head _)) ⟨rfl, k2, Y2, hk2, rfl⟩
    · rw [hq2] at hR2; obtain ⟨rfl, k2, v2, xs2, W2, rfl, hk2, hkl2, rfl, hO2, hK2⟩ := hR2; obtain ⟨va2, vc2, rfl⟩ := hO2.slice
      refine aB rfl ?_; refine yB ?_; refine ze ?_; refine zt (?_)
      have hV : fVal z n (T.drop k) = .ok ((false, [ar2.1], ar2.2), T.drop k2) := by rw [fVal_no hg1, hq2]; rfl
      rw [hV]
      refine zo (v := .bool _) rfl rfl rfl ?_; exact fun w' hw => St.telX (A := []) hw (.tail _ (.head _)) ⟨rfl, k2, _, xs2, W2, rfl, by omega, hkl2, rfl, hO2, Kt.nx (A := []) (x := (x2, _)) hK2 (TL.cells TL.rwc) (.head _) hw, by simp only [List.length_singleton]; omega⟩
  · refine w_call1 0 rfl (fun w => zR Tryz.func61 rfl rfl rfl) rfl rfl (fun w h => by have h9 := ftake_ok [91] rb z (k) (e9) (a9) M tc ta T w (hP.now (.head _) (fun j hj => by rcases List.mem_cons.1 hj with rfl | hj; (exact hM); (rcases List.mem_cons.1 hj with rfl | hj; (exact hMd); (exact absurd hj (by simp)))) h) (h.at_ 0 rfl) (by omega) hM; rw [hg1, if_pos rfl] at h9; exact h9) ?_
    have hlt1 := isG_lt hg1
    refine w_nilc rfl ?_; refine zf fa33_2 rfl ?_; refine w_store 1 rfl z4 rfl rfl rfl rfl rfl rfl rfl ?_; refine yC ?_; refine mP rfl ?_; refine w_nilc rfl ?_; refine zf fa33_2 rfl ?_; refine zl z4 rfl (fun _ h => zc 1 rfl rfl h) ?_; refine w_r (fun _ => R_not rfl) rfl rfl ?_; refine yB ?_; refine c_condF rfl ?_; refine zi ?_; refine zk ?_; refine zq ?_; refine yA ?_; refine mP rfl ?_
    cases hg3 : isG [93] (T.drop (k + 1))
    · refine w_call1 0 rfl (fun w => zR Tryz.func61 rfl rfl rfl) rfl rfl (fun w h => by have h9 := ftake_ok [93] rb z (k + 1) (e9) (a9) M tc ta T w (hP.now (.head _) (fun j hj => by rcases List.mem_cons.1 hj with rfl | hj; (exact hM); (rcases List.mem_cons.1 hj with rfl | hj; (exact hMd); (exact absurd hj (by simp)))) h) (h.at_ 0 rfl) (by omega) hM; rw [hg3, if_neg (by decide)] at h9; exact h9) ?_; refine yB ?_; refine c_condF rfl ?_; refine zi ?_; refine zk ?_; refine zB ?_; refine c_base (fun w1 hw1 => ?_)
      refine c_st (B' := _) (L' := [(rb, Rr ta tc T.length z (k + 1) e9 a9), (db, Dd nm p true true (.slice none ([] : List Rt).length 0))] ++ []) (fun w' h => h) ?_
      refine c_loop (fun m e B L => ∃ (q k' : Nat) (l : List Rt) (wh : Bool) (va : Option Addr) (vc : Nat) (xs : List Value) (W : Heap) (x : Bw), e 0 = .pointer (some ⟨rb, 0, none⟩) ∧ e 1 = .pointer (some ⟨db, 0, none⟩) ∧ B = [x, (w, inL ((rb, Rr ta tc T.length z (k) (e9) (a9)) :: (db, Dd nm p false true (.slice none 0 0)) :: []))] ∧ L = [(rb, Rr ta tc T.length z k' e9 a9), (db, Dd nm p true wh (.slice va l.length vc))] ++ W ∧ k < k' ∧ k' ≤ T.length ∧ fVal z n (T.drop k) = andR (fRow z q l wh (T.drop k')) (fun v r => .ok ((true, v.1, v.2), r)) ∧ Own 46 3 (.slice va l.length vc) xs l.length W ∧ Kt x w.heap.size (Mc 3 rwC) (l.map rwR) xs ∧ l.length ≤ k' ∧ T.length - k' < q ∧ m = T.length - k' + 1) _ ⟨n, k + 1, [], true, none, 0, [], [], _, rfl, rfl, rfl, rfl, by omega, by omega, by rw [fVal_row hg1 (by rw [drop_tl]; exact hg3), drop_tl], Own.nil _ _, Mc.nil, Nat.zero_le _, by omega, rfl⟩ ?_
      rintro m e B L ⟨q, k', l, wh, va, vc, xs, W, x, e0_1, e1_1, rfl, rfl, hkk, hk', hG, hO, hKl, hll, hq, rfl⟩
      obtain ⟨q', rfl⟩ : ∃ q', q = q' + 1 := ⟨q - 1, by omega⟩
      refine zB ?_; refine zq ?_; refine yA ?_; refine mP e0_1 ?_; refine mP e1_1 ?_; refine w_st (B' := _) (L' := [] ++ ((rb, Rr ta tc T.length z (k') (e9) (a9)) :: (db, Dd nm p true wh (.slice va l.length vc)) :: W)) (fun w h => h) ?_
      refine w_callX (A := []) (X := ((rb, Rr ta tc T.length z (k') (e9) (a9)) :: (db, Dd nm p true wh (.slice va l.length vc)) :: W)) (R := NumQ rb db tc z e9 a9 (k') ta T nm p true wh l (fNum z (T.drop (k')))) (s0 := w.heap.size) NumQ.mono (fun w => zR Tryz.func62 rfl rfl rfl) rfl rfl (fun w1 h => (h.fr _ (.tail _ (.head _))).size) (fun w1 h => number_ok rb db z (k') e9 a9 M tc ta T w1 (hP.now (.tail _ (.head _)) (fun j hj => by rcases List.mem_cons.1 hj with rfl | hj; (exact hM); (rcases List.mem_cons.1 hj with rfl | hj; (exact hMd); (exact absurd hj (by simp)))) h) (by omega) hM hMd nm p true wh va vc xs l W hO (hMW_ (.tail _ (.head _)) hM hMd hMs h) (by first | omega | decide) (Nb w.heap.size (w1, inL _)) (fun j hj => hj.2.2) (hKl.now (TL.cells TL.rwc) (.head _) h) (St.part (A := []) h)) (fun u4 X4 x4 hR4 => ?_)
      rcases hq4 : fNum z (T.drop (k')) with fl4 | ⟨ar4, r4⟩
      · rw [hq4] at hR4; obtain ⟨rfl, k4, Y4, hk4, rfl⟩ := hR4
        refine w_r (fun _ => R_not rfl) rfl rfl ?_; refine yB ?_; refine zE rfl ?_; refine yA ?_; refine aB rfl ?_; refine yB ?_; refine ze ?_; refine zt (zb (zt (zb (?_))))
        have hV : fVal z n (T.drop k) = .error fl4 := by rw [hG, fRow_e hq4]; rfl
        rw [hV]
        refine zo (v := .bool _) rfl rfl rfl ?_; exact fun w' hw => St.telX (A := []) hw (.tail _ (.tail _ (.head _))) ⟨rfl, k4, Y4, hk4, rfl⟩
      · rw [hq4] at hR4; obtain ⟨rfl, k4, v4, xs4, W4, rfl, hk4, hkl4, rfl, hO4, hK4⟩ := hR4; obtain ⟨va4, vc4, rfl⟩ := hO4.slice
        refine w_r (fun _ => R_not rfl) rfl rfl ?_; refine yB ?_; refine c_condF rfl ?_; refine zi ?_; refine zk ?_; refine yA ?_; refine mP e0_1 ?_
        cases hg5 : isG [44] (T.drop (k4))
        · refine w_call1 0 rfl (fun w => zR Tryz.func61 rfl rfl rfl) rfl rfl (fun w h => by have h9 := ftake_ok [44] rb z (k4) (e9) (a9) M tc ta T w (hP.now (.tail _ (.tail _ (.head _))) (fun j hj => by rcases List.mem_cons.1 hj with rfl | hj; (exact hM); (rcases List.mem_cons.1 hj with rfl | hj; (exact hMd); (exact absurd hj (by simp)))) h) (h.at_ 0 rfl) (by omega) hM; rw [hg5, if_neg (by decide)] at h9; exact h9) ?_; refine w_r (fun _ => R_not rfl) rfl rfl ?_; refine yB ?_; refine zE rfl ?_; refine yA ?_; refine mP e0_1 ?_
          cases hg6 : isG [93] (T.drop (k4))
          · refine w_call1 0 rfl (fun w => zR Tryz.func25 rfl rfl rfl) rfl rfl (fun w h => by have h9 := fwant_ok [93] rb z (k4) (e9) (a9) M tc ta T w (hP.now (.tail _ (.tail _ (.head _))) (fun j hj => by rcases List.mem_cons.1 hj with rfl | hj; (exact hM); (rcases List.mem_cons.1 hj with rfl | hj; (exact hMd); (exact absurd hj (by simp)))) h) (h.at_ 0 rfl) (by omega) hM; rw [hg6, if_neg (by decide)] at h9; exact h9) ?_; refine aB rfl ?_; refine yB ?_; refine ze ?_; refine zb (zt (zb (?_)))
            have hV : fVal z n (T.drop k) = .error (130, place z (T.drop k4)) := by rw [hG, fRow_f hq4 hg5 hg6]; rfl
            rw [hV]
            refine zo (v := .bool _) rfl rfl rfl ?_; exact fun w' hw => St.telX (A := []) hw (.tail _ (.tail _ (.head _))) ⟨rfl, k4, _, by omega, rfl⟩
          · refine w_call1 0 rfl (fun w => zR Tryz.func25 rfl rfl rfl) rfl rfl (fun w h => by have h9 := fwant_ok [93] rb z (k4) (e9) (a9) M tc ta T w (hP.now (.tail _ (.tail _ (.head _))) (fun j hj => by rcases List.mem_cons.1 hj with rfl | hj; (exact hM); (rcases List.mem_cons.1 hj with rfl | hj; (exact hMd); (exact absurd hj (by simp)))) h) (h.at_ 0 rfl) (by omega) hM; rw [hg6, if_pos rfl] at h9; exact h9) ?_
            have hlt6 := isG_lt hg6
            refine aB rfl ?_; refine yB ?_; refine ze ?_; refine zb (zt (zb (?_)))
            have hV : fVal z n (T.drop k) = .ok ((true, l ++ [ar4.1], wh && ar4.2), (T.drop k4).tail) := by rw [hG, fRow_d hq4 hg5 hg6]; rfl
            rw [hV]
            refine zo (v := .bool _) rfl rfl rfl ?_; exact fun w' hw => St.telX (A := []) hw (.tail _ (.tail _ (.head _))) ⟨rfl, k4 + 1, _, xs4, W4, drop_tl, by omega, by omega, rfl, by rw [List.length_append]; exact hO4, Kt.nx (A := []) (x := (x4, _)) hK4 (TL.cells TL.rwc) (.head _) hw, by rw [List.length_append, List.length_singleton]; omega⟩
        · refine w_call1 0 rfl (fun w => zR Tryz.func61 rfl rfl rfl) rfl rfl (fun w h => by have h9 := ftake_ok [44] rb z (k4) (e9) (a9) M tc ta T w (hP.now (.tail _ (.tail _ (.head _))) (fun j hj => by rcases List.mem_cons.1 hj with rfl | hj; (exact hM); (rcases List.mem_cons.1 hj with rfl | hj; (exact hMd); (exact absurd hj (by simp)))) h) (h.at_ 0 rfl) (by omega) hM; rw [hg5, if_pos rfl] at h9; exact h9) ?_
          have hlt5 := isG_lt hg5
          refine w_r (fun _ => R_not rfl) rfl rfl ?_; refine yB ?_; refine c_condF rfl ?_; refine zi ?_; refine b_on (?_)
          refine k_st (B' := _) (L' := [(rb, Rr ta tc T.length z (k4 + 1) e9 a9), (db, Dd nm p true (wh && ar4.2) (.slice va4 (l ++ [ar4.1]).length vc4))] ++ W4) (fun w' h => by rw [List.length_append, List.length_singleton]; exact h.keep2 (.tail _ (.head _))) ?_; exact k_again _ (by omega) ⟨q', k4 + 1, l ++ [ar4.1], (wh && ar4.2), va4, vc4, xs4, W4, (x4, _), e0_1, e1_1, rfl, rfl, by omega, by omega, by rw [hG, fRow_c hq4 hg5, drop_tl], by rw [List.length_append, List.length_singleton]; exact hO4, hK4, by rw [List.length_append, List.length_singleton]; omega, by omega, rfl⟩
    · refine w_call1 0 rfl (fun w => zR Tryz.func61 rfl rfl rfl) rfl rfl (fun w h => by have h9 := ftake_ok [93] rb z (k + 1) (e9) (a9) M tc ta T w (hP.now (.head _) (fun j hj => by rcases List.mem_cons.1 hj with rfl | hj; (exact hM); (rcases List.mem_cons.1 hj with rfl | hj; (exact hMd); (exact absurd hj (by simp)))) h) (h.at_ 0 rfl) (by omega) hM; rw [hg3, if_pos rfl] at h9; exact h9) ?_
      have hlt3 := isG_lt hg3
      refine yB ?_; refine zE rfl ?_; refine yA ?_; refine aB rfl ?_; refine yB ?_; refine ze ?_; refine zt (?_)
      have hV : fVal z n (T.drop k) = .ok ((true, [], true), (T.drop (k + 1)).tail) := by rw [fVal_nil hg1 (by rw [drop_tl]; exact hg3), drop_tl]
      rw [hV]
      refine zo (v := .bool _) rfl rfl rfl ?_; exact fun w' hw => St.telX (A := []) hw (.head _) ⟨rfl, k + 1 + 1, _, [], [], drop_tl, by omega, by omega, rfl, Own.nil _ _, Mc.nil, Nat.zero_le _⟩
end Go.Proofs.YtikdkendinnalaaGreatDoor
end
section
/- Maps that are written, worlds to look back at with fewer blocks in hand, calls that write the first blocks in hand. -/
namespace Go.Sx
open Go.RowKit
section
variable {P : Program} {ops : Array Oper} {Q : Exit → Act → World → Prop} {c : Cf} {e : Env} {B : Base} {L : Heap} {rest : List Oper} {v : Value} {d : Nat} {q : Md} {x y z : Operand} {T : TypeId} {p : String} {a : Array Edge}
/-- maps by text -/
theorem w_updS (i : Nat) {b : Nat} {s : List UInt8} {l : List (List UInt8 × Value)} {t te : TypeId} {tk : TypeId} (hi : L[i]? = some (b, mpS l)) (ht : P.underlying t = some (.map tk te)) (hk : P.underlying tk = some .string) (hx : ev c.n e x = .map (some b)) (hy : ev c.n e y = str s) (hz : ev c.n e z = v) (hn : (l.lookup s).isNone = true)
    (h : WX .sq P ops c Q rest e B (L.set i (b, mpS (l ++ [(s, v)])))) : WX .sq P ops c Q (⟨none, .mapUpdate t x y z, T, p, a, none⟩ :: rest) e B L := by
  unfold WX at *
  intro w hw
  have hb := hw.at_ i hi
  unfold mpS at hb
  obtain ⟨r, h1, h2⟩ := find_strs s l 0 0
  have hr : r = none := by
    rw [Option.isNone_iff_eq_none.1 hn] at h2
    cases r with
    | none => rfl
    | some r => simp at h2
  subst hr
  have hck : ∀ (em : Bool) (w : World), (Instr.checkKey em 10000 tk (str s)).run P w = .ok () w := fun em w => MapKept.run_checkKey (d := .string) hk (show MapKept.IsKey .string (str s) from True.intro) em 9999
  have hr : (Instr.mapUpdate t (.map (some b)) (str s) v).run P w = .ok () (w.putObj b (mpS (l ++ [(s, v)]))) := by
    simp [Instr.mapUpdate, run_underlying ht, MapKept.run_getObj_map hb, hck, MapKept.run_findKey hk h1, MapKept.run_setObj_map _ hb, Result.andThen, World.putObj, mpS, entsF_snoc]
  refine s_unit (w' := w.putObj b (mpS (l ++ [(s, v)]))) ?_ rfl rfl (h _ (hw.putO i hi))
  simp only [RunU, execOp, hx, hy, hz, Sem.run_bind, hr, Result.andThen]
  rfl
theorem w_makeMapS (h : ∀ b, (∀ x ∈ L, x.1 < b) → (∀ x ∈ B, x.1.heap.size ≤ b) → WX .sq P ops c Q rest (upd e d (.map (some b))) B ((b, mpS []) :: L)) {t : TypeId} : WX .sq P ops c Q (⟨some d, .makeMap t none, T, p, a, none⟩ :: rest) e B L := by
  unfold WX at *
  exact fun w hw => s_run R_makeMap rfl rfl (by
    have := h w.heap.size (fun p hp => lt_of_blk (hw.own p hp)) (fun x hx => (hw.fr x hx).size)
    exact this _ hw.new)
end
theorem k_join {Q : Exit → Act → World → Prop} {c : Cf} {e : Env} {x : Exit} {B B0 : Base} {L L' : Heap} (hL : L'.Sublist L) (hB : ∀ x ∈ B0, x ∈ B) (h : ∀ w, St B L w → WK c Q x e ((w, inL L') :: B0) L') : WK c Q x e B L := by
  unfold WK at *
  exact fun w hw => h w hw w ((hw.drop hL).unbase hB).base1
theorem c_join {P : Program} {Q : Exit → Act → World → Prop} {c : Cf} {e : Env} {x : Code} {B B0 : Base} {L L' : Heap} (hL : L'.Sublist L) (hB : ∀ x ∈ B0, x ∈ B) (h : ∀ w, St B L w → WC P c x Q e ((w, inL L') :: B0) L') : WC P c x Q e B L := by
  unfold WC at *
  exact fun w hw => h w hw w ((hw.drop hL).unbase hB).base1
section
variable {P : Program} {ops : Array Oper} {Q : Exit → Act → World → Prop} {c : Cf} {e : Env} {rest : List Oper} {o : Oper} {d : Nat} {B : Base} {A X : Heap} {f : FuncId} {args : Array Value}
theorem inL_comm {A X : Heap} (j : Nat) : inL (A ++ X) j ↔ inL (X ++ A) j := by
  unfold inL
  rw [List.map_append, List.map_append, List.mem_append, List.mem_append]
  exact or_comm
/-- a call that writes the first blocks in hand -/
theorem w_callXh {R : Value → Heap → (Nat → Prop) → World → Prop} {s0 : Nat} (hm : ∀ v X' N N' w, R v X' N w → (∀ j, N j → N' j) → R v X' N' w) (hr : ∀ w, RunE P o (ev c.n e) w f args) (hg : plainB o = true) (hd : o.dst = some d) (hs : ∀ w, St B (X ++ A) w → s0 ≤ w.heap.size)
    (hc : ∀ w, St B (X ++ A) w → ∀ N, Ret P f args w (TelX X R N w))
    (h : ∀ v X' (x1 : Bw), R v X' (Nb s0 x1) x1.1 → WX .sq P ops c Q rest (upd e d v) (x1 :: B) (X' ++ A)) : WX .sq P ops c Q (o :: rest) e B (X ++ A) :=
  w_callR hr hg hd (fun w hw => hc w hw (Nb s0 (w, inL (A ++ X)))) fun w hw v w' ⟨X', h1, h2, h3, h4⟩ =>
    ⟨_, _, (((hw.perm List.perm_append_comm).modX h2 h3 h4).perm List.perm_append_comm).base1, h v X' (w', inL (X' ++ A)) (hm _ _ _ _ _ h1 fun j hj => by
      obtain ⟨q1, q2, q3⟩ := Nx.nb (s0 := s0) (hw.perm List.perm_append_comm) h2 h3 (hs w hw) j hj
      exact ⟨q1, q2, fun hh => q3 ((inL_comm j).2 hh)⟩)⟩
end
end Go.Sx
end
section
/- The plain part of layer feed: the tokens of what is written. -/
namespace Go.Feed
open Go.Tok Go.Tree Go.Prs Go.Num Go.Lib
/-- the tokens of s from place i on, to its end -/
inductive ChE (s : Str) : Nat → List Tk → Prop
  | nil {i : Nat} : i ≤ s.length → skipTo s i = s.length → ChE s i []
  | cons {i e kd : Nat} {ts : List Tk} : i ≤ s.length → skipTo s i < s.length → tokAt s (skipTo s i) = (kd, e, true) → ChE s e ts → ChE s i ((kd, tokTx s (skipTo s i), skipTo s i) :: ts)
/-- a text whose tokens are these, wherever it stands -/
def CT (v : Str) (ks : List (Nat × Str)) : Prop := ∀ u : Str, ∃ ts, ChE (u ++ v) u.length ts ∧ ts.map (fun t => (t.1, t.2.1)) = ks
theorem CT.nil : CT [] [] := fun u => ⟨[], .nil (by simp) (by
  have := skip_sh (u := u) (v := []) 0
  rw [Nat.add_zero] at this
  rw [this, List.append_nil]
  have : skipTo ([] : Str) 0 = 0 := by decide
  omega), rfl⟩
theorem CT.cons {t R : Str} {kd : Nat} {ks : List (Nat × Str)} (h1 : tokAt (t ++ R) 0 = (kd, t.length, true)) (h2 : t ≠ []) (h3 : skipTo (t ++ R) 0 = 0) (h : CT R ks) : CT (t ++ R) ((kd, t) :: ks) := fun u => by
  obtain ⟨ts, e1, e2⟩ := h (u ++ t)
  have k1 := skip_sh (u := u) (v := t ++ R) 0
  have k2 := tok_sh (u := u) (v := t ++ R) 0
  have k3 := tx_sh (u := u) (v := t ++ R) 0
  rw [Nat.add_zero, h3, Nat.add_zero] at k1
  rw [Nat.add_zero, h1] at k2
  have k4 : tokTx (t ++ R) 0 = t := by unfold tokTx; rw [h1]; simp
  rw [Nat.add_zero, k4] at k3
  have hl : 0 < t.length := by cases t with | nil => exact absurd rfl h2 | cons => simp
  rw [List.append_assoc, List.length_append] at e1
  refine ⟨(kd, tokTx (u ++ (t ++ R)) (skipTo (u ++ (t ++ R)) u.length), skipTo (u ++ (t ++ R)) u.length) :: ts, .cons (by simp) (by rw [k1]; simp; omega) (by rw [k1]; exact k2) e1, ?_⟩
  rw [List.map_cons, k1, k3, e2]
/-! the tokens of numbers, of data -/
def numK (x : Int) : List (Nat × Str) := if x < 0 then [(3, [45]), (2, decDigits x.natAbs)] else [(2, decDigits x.natAbs)]
theorem itoa_abs (x : Int) : itoa x = if x < 0 then 45 :: decDigits x.natAbs else decDigits x.natAbs := by
  unfold itoa
  split
  · rfl
  · rw [show x.toNat = x.natAbs by omega]
def rowK : List Int → List (Nat × Str)
  | [] => []
  | [x] => numK x
  | x :: y :: l => numK x ++ (3, [44]) :: rowK (y :: l)
def datK (d : Di) : List (Nat × Str) := (1, d.nm) :: (3, [61]) :: ((if d.list = true then (3, [91]) :: (rowK (d.nums.map fun x => x.r.1) ++ [(3, [93])]) else rowK (d.nums.map fun x => x.r.1)) ++ [(3, [59])])
end Go.Feed
end
section
/- The plain part of layer feed: what is written is read back. -/
namespace Go.Feed
open Go.Tok Go.Tree Go.Prs Go.Num Go.Lib
def shp (ts : List Tk) : List (Nat × Str) := ts.map (fun t => (t.1, t.2.1))
theorem shp_cons {ts : List Tk} {k : Nat} {t : Str} {ks : List (Nat × Str)} (h : shp ts = (k, t) :: ks) : ∃ a ts', ts = (k, t, a) :: ts' ∧ shp ts' = ks := by
  cases ts with
  | nil => cases h
  | cons y l =>
    unfold shp at h
    rw [List.map_cons] at h
    injection h with h1 h2
    obtain ⟨y1, y2, y3⟩ := y
    simp only [Prod.mk.injEq] at h1
    obtain ⟨rfl, rfl⟩ := h1
    exact ⟨y3, l, rfl, h2⟩
theorem isG_head {t : Str} {a : Nat} {ts : List Tk} (c : Str) : isG c ((3, t, a) :: ts) = decide (t = c) := by unfold isG; simp
/-- data that were read tell those that were written, but for places -/
def Back (e : Dt) (d : Di) : Prop := e.nm = d.nm ∧ e.list = d.list ∧ e.whole = true ∧ e.nums = d.nums.map (fun x => (x.r.1, 1))
inductive Backs : List Dt → List Di → Prop
  | nil : Backs [] []
  | cons {e : Dt} {d : Di} {es : List Dt} {l : List Di} : Back e d → Backs es l → Backs (e :: es) (d :: l)
theorem rdec_length : ∀ (k n : Nat), n < 10 ^ k → (rdec n).length ≤ k
  | 0, n, h => by
    obtain rfl : n = 0 := by simpa using h
    rw [rdec_zero]; simp
  | k + 1, n, h => by
    by_cases h0 : n = 0
    · subst h0; rw [rdec_zero]; simp
    · rw [rdec_pos h0, List.length_cons]
      have := rdec_length k (n / 10) (by rw [Nat.pow_succ] at h; omega)
      omega
theorem dec_length {k n : Nat} (h : n < 10 ^ k) (hk : 0 < k) : (decDigits n).length ≤ k := by
  by_cases h0 : n = 0
  · subst h0; rw [decDigits_zero]; exact hk
  · rw [dec_rev h0, List.length_reverse]; exact rdec_length k n h
theorem joinC_len {K : Nat} : ∀ l : List Str, (∀ t ∈ l, t.length ≤ K) → (joinC l).length ≤ l.length * (K + 1)
  | [], _ => by simp [joinC]
  | [x], h => by have := h x (.head _); simp only [joinC, List.length_cons, List.length_nil]; omega
  | x :: y :: l, h => by
    have h1 := h x (.head _)
    have h2 := joinC_len (y :: l) (fun t ht => h t (.tail _ ht))
    have e : (l.length + 1 + 1) * (K + 1) = (l.length + 1) * (K + 1) + (K + 1) := Nat.succ_mul _ _
    simp only [joinC, List.length_append, List.length_cons] at h2 ⊢
    rw [e]
    omega
/-- what a statement looks at -/
def smallD (l : List Di) : Prop := l.length ≤ 12 ∧ ∀ d ∈ l, d.nm.length ≤ 200 ∧ d.nums.length ≤ 20 ∧ ∀ x ∈ d.nums, x.n < B ^ 3
theorem num_small {x : Rw} (h : x.n < B ^ 3) : (decDigits x.r.1.natAbs).length ≤ 58 ∧ (itoa x.r.1).length ≤ 59 := by
  have h1 : x.r.1.natAbs < 10 ^ 58 := by
    unfold Rw.r mkR
    simp only
    rw [iv_abs]
    have h2 := Nat.div_le_self x.n (Nat.gcd x.n x.d)
    have h3 : B ^ 3 < 10 ^ 58 := by decide
    omega
  have h2 := dec_length h1 (by decide)
  refine ⟨h2, ?_⟩
  rw [itoa_abs]
  split
  · rw [List.length_cons]; omega
  · omega
theorem dat_small {d : Di} (h : d.nm.length ≤ 200 ∧ d.nums.length ≤ 20 ∧ ∀ x ∈ d.nums, x.n < B ^ 3) : (datT d).length ≤ 1405 ∧ (datK d).length ≤ 66 := by
  have h1 := joinC_len (K := 59) (d.nums.map fun x => itoa x.r.1) (fun t ht => by
    obtain ⟨x, hx, rfl⟩ := List.mem_map.1 ht
    exact (num_small (h.2.2 x hx)).2)
  rw [List.length_map] at h1
  have h2 : ∀ l : List Int, (rowK l).length ≤ 3 * l.length := by
    have hk : ∀ x, (numK x).length ≤ 2 := fun x => by unfold numK; split <;> simp
    intro l
    induction l with
    | nil => simp [rowK]
    | cons x l ih =>
      have := hk x
      cases l with
      | nil => simp only [rowK, List.length_cons, List.length_nil]; omega
      | cons y l => simp only [rowK, List.length_append, List.length_cons] at ih ⊢; omega
  have h3 := h2 (d.nums.map fun x => x.r.1)
  rw [List.length_map] at h3
  have h4 : d.nums.length * 60 ≤ 1200 := by omega
  refine ⟨?_, ?_⟩
  · unfold datT valT
    split <;> simp only [List.length_append, List.length_cons, List.length_nil] <;> omega
  · unfold datK
    split <;> simp only [List.length_append, List.length_cons, List.length_nil] <;> omega
theorem flat_len {α β : Type} (f : α → List β) (K : Nat) : ∀ l : List α, (∀ x ∈ l, (f x).length ≤ K) → (l.flatMap f).length ≤ l.length * K
  | [], _ => by simp
  | x :: l, h => by
    have h1 := h x (.head _)
    have h2 := flat_len f K l (fun y hy => h y (.tail _ hy))
    rw [List.flatMap_cons, List.length_append, List.length_cons, Nat.add_mul]
    omega
end Go.Feed
end
section
/- The plain part of layer token: the tokens of a text with blanks between them. -/
end
section
/- The plain part of layer token: the tokens of a text with blanks between them. -/
namespace Go.Tok
def Jn (ts : List Tk) : List UInt8 := ts.flatMap fun t => 32 :: t.2.1
def kt (t : Tk) : Nat × List UInt8 := (t.1, t.2.1)
def Good (t : Tk) : Prop := ∃ s k e, k ≤ s.length ∧ tokAt s k = (t.1, e, true) ∧ t.2.1 = (s.drop k).take (e - k)
end Go.Tok
end
section
/- The plain part of layer token: what TokenRises asks. -/
end
section
/- The plain part of layer token: the tokens of a source's beginning. -/
end
section
/- The plain part of layer feed: data read piece by piece; texts cut, texts one behind the other. -/
namespace Go.Feed
open Go.Tok Go.Tree Go.Prs Go.Num Go.Lib
theorem isG_yes {x : Str} {ts : List Tk} (h : isG x ts = true) : ∃ a r, ts = (3, x, a) :: r := by
  cases ts with
  | nil => cases h
  | cons t r =>
    obtain ⟨t1, t2, t3⟩ := t
    unfold isG at h
    simp only [Bool.and_eq_true, decide_eq_true_eq] at h
    obtain ⟨rfl, rfl⟩ := h
    exact ⟨t3, r, rfl⟩
theorem fTok_cut {z : Nat} {neg : Bool} {ts r : List Tk} {a : Rt × Bool} (h : fTok z neg ts = .ok (a, r)) : ∃ tx p, ts = (2, tx, p) :: r ∧ ∀ z' p' R, fTok z' neg ((2, tx, p') :: R) = .ok (a, R) := by
  unfold fTok at h
  split at h
  · rename_i h2
    split at h
    · cases h
    · rename_i h4
      cases ts with
      | nil => cases h2
      | cons t tl =>
        obtain ⟨t1, t2, t3⟩ := t
        simp only [nowT] at h2 h4 h
        subst h2
        simp only [Except.ok.injEq, Prod.mk.injEq, List.tail_cons] at h
        obtain ⟨h, rfl⟩ := h
        refine ⟨t2, t3, rfl, fun z' p' R => ?_⟩
        unfold fTok nowT
        simp only [if_true]
        rw [if_neg h4, h]; rfl
  · cases h
def Cut {α : Type} (f : Nat → List Tk → Rs α) (a : α) (c : List Tk) : Prop := c ≠ [] ∧ ∀ z' c' R, shp c' = shp c → f z' (c' ++ R) = .ok (a, R)
theorem fNum_cut {z : Nat} {ts r : List Tk} {a : Rt × Bool} (h : fNum z ts = .ok (a, r)) : ∃ c, ts = c ++ r ∧ Cut fNum a c := by
  unfold fNum at h
  split at h
  · rename_i hx
    obtain ⟨p, tl, rfl⟩ := isG_yes hx
    obtain ⟨tx, p2, h1, h2⟩ := fTok_cut h
    rw [List.tail_cons] at h1
    subst h1
    refine ⟨[(3, [45], p), (2, tx, p2)], rfl, by simp, fun z' c' R hc => ?_⟩
    obtain ⟨q, c1, rfl, hc1⟩ := shp_cons (k := 3) (t := [45]) (ks := [(2, tx)]) hc
    obtain ⟨q2, c2, rfl, hc2⟩ := shp_cons (ks := []) hc1
    have : c2 = [] := by simpa [shp] using hc2
    subst this
    unfold fNum
    rw [List.cons_append, isG_head, if_pos (by decide), List.tail_cons]
    exact h2 z' q2 R
  · obtain ⟨tx, p2, rfl, h2⟩ := fTok_cut h
    refine ⟨[(2, tx, p2)], rfl, by simp, fun z' c' R hc => ?_⟩
    obtain ⟨q2, c2, rfl, hc2⟩ := shp_cons (k := 2) (t := tx) (ks := []) hc
    have : c2 = [] := by simpa [shp] using hc2
    subst this
    unfold fNum
    rw [if_neg (by unfold isG; simp)]
    exact h2 z' q2 R
def atD (d : Dt) (p : Nat) : Dt := ⟨d.nm, p, d.list, d.whole, d.nums⟩
/-- the tokens of one datum -/
structure Pc (c : List Tk) (d : Dt) : Prop where
  ne : c ≠ []
  at_ : d.at_ = place 0 c
  go : ∀ z' n' c' R out', shp c' = shp c → c.length ≤ n' → fOne z' n' out' (c' ++ R) = if out'.any (fun e => decide (e.nm = d.nm)) = true then .error (8, place 0 c') else .ok (atD d (place 0 c'), R)
abbrev Ck := List Tk × Dt
def flatC (cs : List Ck) : List Tk := cs.flatMap (·.1)
/-! faults -/
def Bnd (z : Nat) (ts : List Tk) : Prop := ∀ t ∈ ts, t.2.2 ≤ z
theorem Bnd.place {z : Nat} {ts : List Tk} (h : Bnd z ts) : Prs.place z ts ≤ z := by
  cases ts with
  | nil => exact Nat.le_refl _
  | cons t ts => exact h t (.head _)
theorem Bnd.tail {z : Nat} {ts : List Tk} (h : Bnd z ts) : Bnd z ts.tail := fun t ht => h t (List.mem_of_mem_tail ht)
theorem Bnd.app {z : Nat} {c r : List Tk} (h : Bnd z (c ++ r)) : Bnd z r := fun t ht => h t (List.mem_append_right _ ht)
abbrev Er (z : Nat) (fl : Fl) : Prop := fl.1 ≠ 0 ∧ fl.2 ≤ z
theorem fNum_er {z : Nat} {ts : List Tk} {fl : Fl} (hb : Bnd z ts) (h : fNum z ts = .error fl) : Er z fl := by
  have key : ∀ neg (ts : List Tk), Bnd z ts → fTok z neg ts = .error fl → Er z fl := by
    intro neg ts hb h
    unfold fTok at h
    split at h
    · split at h
      · cases h; exact ⟨by simp, hb.place⟩
      · cases h
    · cases h; exact ⟨by simp, hb.place⟩
  unfold fNum at h
  split at h
  · exact key _ _ hb.tail h
  · exact key _ _ hb h
theorem andR_err {α β : Type} {x : Rs α} {f : α → List Tk → Except Fl β} {fl : Fl} (h : andR x f = .error fl) : x = .error fl ∨ ∃ a r, x = .ok (a, r) ∧ f a r = .error fl := by
  cases x with
  | error e => left; rw [andR_no] at h; cases h; rfl
  | ok p => right; exact ⟨p.1, p.2, rfl, h⟩
theorem wantG_er {β : Type} {z : Nat} {x : Str} {ts : List Tk} {f : List Tk → Except Fl β} {fl : Fl} (hb : Bnd z ts) (h : wantG z x ts f = .error fl) : Er z fl ∨ ∃ a r, ts = (3, x, a) :: r ∧ f r = .error fl := by
  unfold wantG at h
  split at h
  · rename_i hx
    obtain ⟨a, r, rfl⟩ := isG_yes hx
    exact .inr ⟨a, r, rfl, h⟩
  · cases h; exact .inl ⟨by simp, hb.place⟩
theorem fRow_er {z : Nat} {fl : Fl} : ∀ (n : Nat) (l : List Rt) (b : Bool) (ts : List Tk), Bnd z ts → ts.length < n → fRow z n l b ts = .error fl → Er z fl
  | 0, _, _, _, _, hn, _ => by omega
  | n + 1, l, b, ts, hb, hn, h => by
    rw [fRow] at h
    rcases andR_err h with g | ⟨a, r, e1, g⟩
    · exact fNum_er hb g
    · clear h
      obtain ⟨c, rfl, k0, _⟩ := fNum_cut e1
      have hl : 0 < c.length := by cases c with | nil => exact absurd rfl k0 | cons => simp
      rw [List.length_append] at hn
      split at g
      · exact fRow_er n _ _ _ hb.app.tail (by rw [List.length_tail]; omega) g
      · rcases wantG_er hb.app g with h | ⟨a, r, _, h⟩
        · exact h
        · cases h
theorem fVal_er {z n : Nat} {fl : Fl} {ts : List Tk} (hb : Bnd z ts) (hn : ts.length < n) (h : fVal z n ts = .error fl) : Er z fl := by
  unfold fVal at h
  split at h
  · split at h
    · cases h
    · rcases andR_err h with h | ⟨a, r, _, h⟩
      · exact fRow_er n _ _ _ hb.tail (by rw [List.length_tail]; omega) h
      · cases h
  · rcases andR_err h with h | ⟨a, r, _, h⟩
    · exact fNum_er hb h
    · cases h
/-! two texts -/
theorem Pc.first {c : List Tk} {d : Dt} (h : Pc c d) : ∃ t c2, c = t :: c2 ∧ d.at_ = t.2.2 := by
  cases hc : c with
  | nil => exact absurd hc h.ne
  | cons t c2 => exact ⟨t, c2, rfl, by rw [h.at_, hc]; rfl⟩
def shC (k : Nat) (x : Ck) : Ck := (x.1.map (sh k), atD x.2 (place 0 (x.1.map (sh k))))
end Go.Feed
end
section
namespace Go.Proofs.YtikdkendinnalaaGreatDoor
open Go.RowKit Go.Sx
open Go.Tok Go.Tree Go.Prs Go.Feed Go.Num
theorem toks_f {T : List Tk} {a : Option Addr} {c : Nat} {W : Heap} {w : World} {N : Nat → Prop} (h : Toks (.slice a T.length c) T W) (hm : ∀ p ∈ W, w.heap[p.1]? = some p.2) (hN : ∀ p ∈ W, N p.1) {k : Nat} {t : Tk} (hk : T[k]? = some t) : At w N a (k * 3) (tkC t) := by
  obtain ⟨hl, ⟨_, h0, _⟩ | ⟨q, cc, sp, hv, hc, hsp, rfl⟩⟩ := h
  · have := (List.getElem?_eq_some_iff.1 hk).1; omega
  · cases hv
    refine ⟨q, 0, rfl, hN (q, cel (tksC T ++ sp) 64) (by simp), fun j u hj => ?_⟩
    have h1 := hm (q, cel (tksC T ++ sp) 64) (by simp)
    have h2 := tks_at T k t hk j u hj
    have h3 : (tksC T ++ sp)[k * 3 + j]? = some u := by rw [List.getElem?_append_left (List.getElem?_eq_some_iff.1 h2).1]; exact h2
    dsimp only at h1
    simp [World.cell?, h1, h3]
theorem Bnd.drop {z : Nat} {T T' : List Tk} (h : Bnd z T') (he : T' = T) (i : Nat) : Bnd z (T.drop i) := fun t ht => h t (by rw [he]; exact List.mem_of_mem_drop ht)
theorem rr_zero (ta : Option Addr) (tc n z : Nat) : Rr ta tc n z 0 0 0 = cel [.slice ta n tc, .int .i64 (z : Nat), .int .i64 0, .int .i64 0] 61 := by
  unfold Rr; rw [aK_zero]; rfl
theorem toks_le {T : List Tk} {a : Option Addr} {c : Nat} {W : Heap} (h : Toks (.slice a T.length c) T W) : T.length ≤ c := by
  obtain ⟨hl, ⟨hv, h0, _⟩ | ⟨q, cc, sp, hv, hc, hsp, rfl⟩⟩ := h
  · omega
  · simp only [Value.slice.injEq] at hv
    omega
theorem readP_tx (s : Str) : ∀ t ∈ (readP s).1, t.2.1.length ≤ s.length := by
  have h : ∀ (f i : Nat) (x : Rd), (∀ t ∈ x.1, t.2.1.length ≤ s.length) → ∀ t ∈ (lexF readN s f i x).1, t.2.1.length ≤ s.length := by
    intro f
    induction f with
    | zero => intro i x h; exact h
    | succ f ih =>
      intro i x h
      have hx : ∀ t ∈ (readN x (tokAt s i).1 (tokTx s i) i (tokAt s i).2.2).1.1, t.2.1.length ≤ s.length := by
        unfold readN
        split
        · exact h
        · split
          · exact h
          · intro t ht
            rcases List.mem_append.1 ht with ht | ht
            · exact h t ht
            · obtain rfl := List.mem_singleton.1 ht
              unfold tokTx
              simp only [List.length_take, List.length_drop]; omega
      unfold lexF
      split
      · split
        · exact ih _ _ hx
        · exact hx
      · exact h
  rcases Nat.lt_or_ge 20000 s.length with h1 | h1
  · rw [readP_long h1]; intro t ht; cases ht
  · by_cases h2 : (readS s).2.1 = 0
    · rw [readP_fine (by omega) h2]; exact h _ _ _ (fun t ht => by cases ht)
    · rw [readP_bad (by omega) h2]; intro t ht; cases ht
theorem pf_init {B : Base} {L L' W0 : Heap} {w w1 : World} {ta : Option Addr} {tc : Nat} {T : List Tk} {s : Str} (hw : St B (L ++ W0) w1) (hs : L'.Sublist L) (hx : (w, No) ∈ B) (hng : 11 ≤ w.heap.size) (hW : Wd w1) (hO : Toks (.slice ta T.length tc) T W0) (hT : (readP s).1 = T) (hl : s.length ≤ 20000) :
    ∃ G : Nat → Prop, Pf w1 G T ta tc s.length ∧ (∀ j, inL L' j → G j) ∧ (∀ j, w1.heap.size ≤ j → G j) := by
  have hnd := hw.nd
  rw [List.map_append, List.nodup_append] at hnd
  refine ⟨fun j => inL L' j ∨ w1.heap.size ≤ j, ⟨hW, ?_, ?_, toks_le hO, by rw [← hT]; exact readP_len s, by omega, ?_, by rw [← hT]; exact read_num s⟩, fun j h => .inl h, fun j h => .inr h⟩
  · rintro j (hj | hj)
    · obtain ⟨p, hp, rfl⟩ := List.mem_map.1 hj
      rcases hw.ok p (List.mem_append_left _ (hs.subset hp)) _ hx with h1 | h1
      · exact h1.elim
      · exact Nat.le_trans hng h1
    · exact Nat.le_trans hng (Nat.le_trans (hw.fr _ hx).size hj)
  · intro k t hk
    refine toks_f hO (fun p hp => hw.own p (List.mem_append_right _ hp)) (fun p hp => ?_) hk
    rintro (hj | hj)
    · exact hnd.2.2 _ ((hs.map (·.1)).subset hj) _ (List.mem_map_of_mem (f := fun q : Nat × Obj => q.1) hp) rfl
    · have := lt_of_blk (hw.own p (List.mem_append_right _ hp)); omega
  · intro t ht
    exact ⟨Nat.le_trans (readP_tx s t (by rw [hT]; exact ht)) hl, Nat.le_trans ((readP_at s).1 t (by rw [hT]; exact ht)) (by omega)⟩
/-- what Read tells -/
def RdF (X : Except Fl (List Dt)) (w : World) : Value → World → Prop := fun v w' =>
  (match X with
  | .ok ds => ∃ b : Option Addr × Nat, v = .tuple #[.slice b.1 ds.length b.2, .agg #[.int .i64 0, .int .i64 0]] ∧ disV w' (Nn w w') (ds.map diD) b
  | .error fl => v = .tuple #[.slice none 0 0, .agg #[.int .i64 (fl.1 : Nat), .int .i64 (fl.2 : Nat)]]) ∧ Ext w w'
theorem fRead_no {s : Str} (h : ¬ (readP s).2.1 = 0) : fRead s = .error (readP s).2 := if_neg h
theorem fRead_go {s : Str} (h : (readP s).2.1 = 0) : fRead s = fAll s.length 20001 [] (readP s).1 := if_pos h
section
variable {z n : Nat} {out : List Dt} {ts : List Tk}
theorem fA_end : fAll z (n + 1) out [] = .ok out := by rw [fAll, if_pos rfl]
theorem fA_kind (h0 : ts ≠ []) (h : ¬ ((nowT z ts).1 = 1 ∧ nameOk (nowT z ts).2.1 = true)) : fAll z (n + 1) out ts = .error (130, place z ts) := by
  rw [fAll, if_neg h0]; unfold fOne; rw [if_neg h]; rfl
theorem fA_there (h0 : ts ≠ []) (h : (nowT z ts).1 = 1 ∧ nameOk (nowT z ts).2.1 = true) (h2 : out.any (fun d => decide (d.nm = (nowT z ts).2.1)) = true) : fAll z (n + 1) out ts = .error (8, place z ts) := by
  rw [fAll, if_neg h0]; unfold fOne; rw [if_pos h, if_pos h2]; rfl
theorem fA_eq (h0 : ts ≠ []) (h : (nowT z ts).1 = 1 ∧ nameOk (nowT z ts).2.1 = true) (h2 : out.any (fun d => decide (d.nm = (nowT z ts).2.1)) = false) (h3 : isG [61] ts.tail = false) : fAll z (n + 1) out ts = .error (130, place z ts.tail) := by
  rw [fAll, if_neg h0]; unfold fOne wantG; rw [if_pos h, if_neg (by rw [h2]; decide), if_neg (by rw [h3]; decide)]; rfl
theorem fA_val {fl : Fl} (h0 : ts ≠ []) (h : (nowT z ts).1 = 1 ∧ nameOk (nowT z ts).2.1 = true) (h2 : out.any (fun d => decide (d.nm = (nowT z ts).2.1)) = false) (h3 : isG [61] ts.tail = true) (h4 : fVal z n ts.tail.tail = .error fl) : fAll z (n + 1) out ts = .error fl := by
  rw [fAll, if_neg h0]; unfold fOne wantG; rw [if_pos h, if_neg (by rw [h2]; decide), if_pos h3]; dsimp only; rw [h4]; rfl
theorem fA_semi {v : Bool × List Rt × Bool} {r : List Tk} (h0 : ts ≠ []) (h : (nowT z ts).1 = 1 ∧ nameOk (nowT z ts).2.1 = true) (h2 : out.any (fun d => decide (d.nm = (nowT z ts).2.1)) = false) (h3 : isG [61] ts.tail = true) (h4 : fVal z n ts.tail.tail = .ok (v, r)) (h5 : isG [59] r = false) : fAll z (n + 1) out ts = .error (130, place z r) := by
  rw [fAll, if_neg h0]; unfold fOne wantG; rw [if_pos h, if_neg (by rw [h2]; decide), if_pos h3]; dsimp only; rw [h4, andR_ok, if_neg (by rw [h5]; decide)]; rfl
theorem fA_ok {v : Bool × List Rt × Bool} {r : List Tk} (h0 : ts ≠ []) (h : (nowT z ts).1 = 1 ∧ nameOk (nowT z ts).2.1 = true) (h2 : out.any (fun d => decide (d.nm = (nowT z ts).2.1)) = false) (h3 : isG [61] ts.tail = true) (h4 : fVal z n ts.tail.tail = .ok (v, r)) (h5 : isG [59] r = true) : fAll z (n + 1) out ts = fAll z n (out ++ [⟨(nowT z ts).2.1, place z ts, v.1, v.2.2, v.2.1⟩]) r.tail := by
  rw [fAll, if_neg h0]; unfold fOne wantG; rw [if_pos h, if_neg (by rw [h2]; decide), if_pos h3]; dsimp only; rw [h4, andR_ok, if_pos h5]; rfl
end
abbrev seenL (out : List Dt) : List (List UInt8 × Value) := out.map fun d => (d.nm, Value.int .i64 1)
theorem seen_look (out : List Dt) (s : Str) : ((seenL out).lookup s).getD (.int .i64 0) = .int .i64 (if out.any (fun d => decide (d.nm = s)) = true then 1 else 0) := by
  induction out with
  | nil => rfl
  | cons d out ih =>
    show (List.lookup s ((d.nm, Value.int .i64 1) :: seenL out)).getD (.int .i64 0) = _
    rw [List.lookup_cons, List.any_cons]
    by_cases h : s = d.nm
    · rw [beq_iff_eq.2 h, decide_eq_true h.symm]; rfl
    · rw [beq_false_of_ne h, decide_eq_false (Ne.symm h), Bool.false_or]; exact ih
theorem seen_none {out : List Dt} {s : Str} (h : out.any (fun d => decide (d.nm = s)) = false) : ((seenL out).lookup s).isNone = true := by
  induction out with
  | nil => rfl
  | cons d out ih =>
    rw [List.any_cons, Bool.or_eq_false_iff] at h
    show (List.lookup s ((d.nm, Value.int .i64 1) :: seenL out)).isNone = true
    rw [List.lookup_cons, beq_false_of_ne (fun he => absurd he.symm (of_decide_eq_false h.1))]
    exact ih h.2
set_option maxRecDepth 100000 in
set_option maxHeartbeats 8000000 in
theorem fRead_ok (s : Str) (T : List Tk) (hTe : (readP s).1 = T) (w : World) (hs : s.length ≤ 1000000) (hW : Wd w) (hng : 11 ≤ w.heap.size) :
    Ret Tryz.prog 9 #[str s] w (RdF (fRead s) w) := by
  refine enter (S := No) (l := [_]) (L := []) 99 Tryz.func9 rfl rfl rfl (St.start w No) ?_; refine yA ?_; refine za (v := .slice _ _ _) rfl ?_; refine w_alloc zr27 (fun t3b gt3b ut3b => ?_)
  refine yB ?_; refine c_scope ?_; refine yA ?_; refine zm (v := str _) rfl ?_; refine w_callW (R := fun v W => ∃ a c, v = .tuple #[.slice a T.length c, .agg #[.int .i64 ((readP s).2.1 : Nat), .int .i64 ((readP s).2.2 : Nat)]] ∧ Toks (.slice a T.length c) T W) (fun w => zR Tryz.func21 rfl rfl rfl) rfl rfl (fun w h => by subst hTe; exact Read_spec s (by omega) w (hW.now (.head _) h).tb (hW.now (.head _) h).gs) ?_
  rintro v W0 ⟨ta, tc, rfl, hO⟩
  refine w_st (fun w h => h.perm List.perm_append_comm) ?_; refine zm rfl ?_; refine w_r (fun _ => R_extract rfl rfl) rfl rfl ?_; refine w_r (fun _ => R_extract rfl rfl) rfl rfl ?_; refine w_alloc zr27 (fun t5b gt5b ut5b => ?_)
  refine za (v := .slice _ _ _) rfl ?_; refine w_store 0 rfl z27 rfl rfl rfl rfl rfl rfl rfl ?_; refine yB ?_; refine zq ?_; refine yA ?_; refine zf fa27_0 rfl ?_; refine zl z25 rfl (fun _ h => zc 0 rfl rfl h) ?_; refine w_r (fun _ => R_ne rfl rfl) rfl rfl ?_; refine yB ?_; refine zD rfl (fun h3 => ?_) (fun h3 => ?_)
  · refine zq ?_; refine c_heldI [0] mixed ?_; refine h_loadA 0 rfl (by kernel_rfl) (fun w h => (h).pick [0] (by decide)) z27 rfl (fun _ h => h.at_ 0 rfl) rfl ?_; refine zh (v := .slice _ _ _) 1 rfl (by kernel_rfl) rfl rfl (fun w h => (h).pick [0] (by decide)) (fun w h => R_assign rfl) ?_; refine h_one 2 (by kernel_rfl) (fun w h => (h).pick [0] (by decide)) ?_; refine o_store 1 rfl rfl z27 rfl rfl rfl rfl rfl rfl rfl ?_; refine h_done (by kernel_rfl) (fun w h => (h).pick [0] (by decide)) ?_; refine zk ?_; refine ze ?_; refine zt (g_ret (?_))
    refine r_fin (.inl rfl) rfl (.tmp rfl rfl (.agg rfl rfl z27 (fun _ h => h.at_ 1 rfl) rfl .nil)) ?_; exact fun w' hw => by rw [fRead_no (by omega)]; exact ⟨rfl, hw.fr (w, No) (.head _)⟩
  · have hz : (readP s).2.1 = 0 := (by omega)
    refine zi ?_; refine zk ?_; refine yA ?_; refine mS rfl ?_; refine zm (v := str _) rfl ?_; refine w_r (fun _ => R_slen st9 rfl (by omega)) rfl rfl ?_; refine w_r (fun _ => R_build bt61 rfl) rfl rfl ?_; refine w_boxA rfl (fun rb grb urb => ?_)
    refine za (v := .pointer _) rfl ?_; refine yC ?_; refine w_makeMapS (fun mb gmb umb => ?_)
    refine za rfl ?_; refine yC ?_; refine za (v := .slice _ _ _) rfl ?_; refine yB ?_; refine zq ?_; refine c_label ?_; refine zk ?_; refine zq ?_; refine zB ?_; refine c_st (B' := _) (L' := [(rb, Rr ta tc T.length s.length 0 0 0), (mb, mpS []), (t5b, _), (t3b, cel [.int .i64 0, .int .i64 0] 27)] ++ W0) (fun w h => by rw [rr_zero]; exact St.pickT [_, _, _, _] h [1, 0, 2, 3] (by decide)) ?_; refine c_join (L' := [(rb, Rr ta tc T.length s.length 0 0 0), (mb, mpS []), (t3b, cel [.int .i64 0, .int .i64 0] 27)] ++ []) (B0 := [(w, No)]) (by rw [List.append_nil]; exact .cons_cons _ (.cons_cons _ (.cons _ (.cons_cons _ (List.nil_sublist _))))) (fun x hx => hx) (fun w1 hw1 => ?_)
    obtain ⟨G, hPf, hGi, hGn⟩ := pf_init (L' := [(rb, Rr ta tc T.length s.length 0 0 0), (mb, mpS []), (t3b, cel [.int .i64 0, .int .i64 0] 27)]) hw1 (.cons_cons _ (.cons_cons _ (.cons _ (.cons_cons _ (List.nil_sublist _))))) (.head _) hng (hW.now (.head _) hw1) hO hTe (by have h9 := hz; false_or_by_contra; rename_i h8; rw [readP_long (by omega)] at h9; exact absurd h9 (by decide))
    have hGr : G rb := hGi rb (.head _)
    refine c_base (fun w2 hw2 => ?_)
    refine c_st (B' := _) (L' := [(rb, Rr ta tc T.length s.length (0) (0) (0)), (mb, mpS (seenL [])), (t3b, cel [.int .i64 0, .int .i64 0] 27)] ++ []) (fun w h => h) ?_
    refine c_loop (fun m e B L => ∃ (q k : Nat) (out : List Dt) (va : Option Addr) (vc : Nat) (ys : List Value) (W : Heap) (x : Bw), e 2 = .slice none 0 0 ∧ e 3 = .pointer (some ⟨t3b, 0, none⟩) ∧ e 6 = .pointer (some ⟨rb, 0, none⟩) ∧ e 7 = .map (some mb) ∧ e 8 = .slice va out.length vc ∧ B = [x, (w1, inL ([(rb, Rr ta tc T.length s.length 0 0 0), (mb, mpS []), (t3b, cel [.int .i64 0, .int .i64 0] 27)] ++ [])), (w, No)] ∧ L = [(rb, Rr ta tc T.length s.length (k) (0) (0)), (mb, mpS (seenL out)), (t3b, cel [.int .i64 0, .int .i64 0] 27)] ++ W ∧ k ≤ T.length ∧ fRead s = fAll s.length q out (T.drop k) ∧ T.length - k < q ∧ q ≤ 20001 ∧ Own 33 5 (.slice va out.length vc) ys out.length W ∧ Kt x w.heap.size (Mc 5 diC) (out.map diD) ys ∧ out.length ≤ k ∧ m = T.length - k + 1) _ ⟨20001, 0, [], none, 0, [], [], (w2, inL _), rfl, rfl, rfl, rfl, rfl, rfl, rfl, Nat.zero_le _, by rw [fRead_go hz, hTe]; rfl, by have := hPf.len; omega, by omega, Own.nil _ _, Mc.nil, Nat.zero_le _, rfl⟩ ?_
    rintro m e B L ⟨q, k, out, va, vc, ys, W, x, e2_1, e3_1, e6_1, e7_1, e8_1, rfl, rfl, hk, hG, hq, hq2, hO2, hKl, hol, rfl⟩
    have hlen := hPf.len; have hnb := nowT_b (k := k) hPf
    refine zq ?_; refine yA ?_; refine mP e6_1 ?_; refine w_nilc rfl ?_; refine zf fa61_0 rfl ?_; refine zl z59 rfl (fun _ h => zc 0 rfl rfl h) ?_; refine w_r (fun _ => R_len sl59 rfl) rfl rfl ?_; refine w_r (fun _ => R_gt rfl rfl) rfl rfl ?_; refine yB ?_; refine zD rfl (fun h5 => ?_) (fun h5 => ?_)
    · have hlt : k < T.length := (by omega); have h0 : T.drop k ≠ [] := (fun h9 => by have := congrArg List.length h9; rw [List.length_drop] at this; simp at this; omega); obtain ⟨q', rfl⟩ : ∃ q', q = q' + 1 := ⟨q - 1, by omega⟩
      refine zi ?_; refine zk ?_; refine zB ?_; refine yA ?_; refine mP e6_1 ?_; refine zC (fun w => zR Tryz.func22 rfl rfl rfl) rfl rfl (fun w h => fnow_ok rb s.length (k) (0) (0) G tc ta T w (hPf.now (.tail _ (.head _)) (fun j hj => hGi j (by simpa using hj)) h) (h.at_ 0 rfl) (by omega)) ?_; refine w_alloc zr64 (fun t9b gt9b ut9b => ?_)
      refine w_store 0 rfl z64 rfl rfl rfl rfl rfl rfl rfl ?_; refine yB ?_; refine zq ?_; refine zB ?_; refine yA ?_; refine zf fa64_0 rfl ?_; refine zl z5 rfl (fun _ h => zc 0 rfl rfl h) ?_; refine w_r (fun _ => R_ne rfl rfl) rfl rfl ?_; refine mB rfl ?_; refine zd (t := 38) rfl (fun h7 => ?_) (fun h7 => ?_)
      · refine zs rfl rfl (bT h7) ?_; refine zs rfl rfl (bT h7) ?_; refine zs rfl rfl (bT h7) ?_; refine zs rfl rfl (bT h7) ?_; refine w_r (v := .bool _) (fun _ => zT (bT h7) rfl) rfl rfl ?_; refine aB rfl ?_; refine yB ?_; refine zE rfl ?_; refine yA ?_; refine mP e6_1 ?_
        have hkn : ¬ ((nowT s.length (T.drop k)).1 = 1 ∧ nameOk (nowT s.length (T.drop k)).2.1 = true) := fun h9 => by first | omega | simp_all
        refine w_call1 1 rfl (fun w => zR Tryz.func24 rfl rfl rfl) rfl rfl (fun w h => ffail_ok 130 rb s.length (k) (0) (0) G tc ta T w (hPf.now (.tail _ (.head _)) (fun j hj => hGi j (by simpa using hj)) h) (h.at_ 1 rfl) (by omega) hGr) ?_; refine yB ?_; refine c_exit ?_; refine b_past rfl (zx (b_past rfl (zx (b_here rfl (zk ?_))))); refine zq ?_; refine yA ?_; refine mP e6_1 ?_; refine w_nilc rfl ?_; refine zf fa61_2 rfl ?_; refine zf fa27_0 rfl ?_; refine zl z25 rfl (fun _ h => zc 1 rfl rfl h) ?_; refine w_r (fun _ => R_ne rfl rfl) rfl rfl ?_; refine yB ?_; refine zD rfl (fun h8 => ?_) (fun h8 => ?_)
        · refine zq ?_; refine c_heldI [0, 1, 2] mixed ?_; refine zh (v := .pointer _) 0 rfl (by kernel_rfl) rfl rfl (fun w h => (h).pick [0, 1, 2] (by decide)) (fun w h => R_move e6_1) ?_; refine zh 1 rfl (by kernel_rfl) rfl rfl (fun w h => (h).pick [0, 1, 2] (by decide)) (fun w h => R_nil rfl) ?_; refine zh 2 rfl (by kernel_rfl) rfl rfl (fun w h => (h).pick [0, 1, 2] (by decide)) (fun w h => R_fa fa61_2 rfl) ?_; refine h_loadA 3 rfl (by kernel_rfl) (fun w h => (h).pick [0, 1, 2] (by decide)) z27 rfl (fun _ h => h.at_ 1 rfl) rfl ?_; refine zh (v := .slice _ _ _) 4 rfl (by kernel_rfl) rfl rfl (fun w h => (h).pick [0, 1, 2] (by decide)) (fun w h => R_assign rfl) ?_; refine h_one 5 (by kernel_rfl) (fun w h => (h).pick [0, 1, 2] (by decide)) ?_; refine o_store 3 rfl rfl z27 e3_1 rfl rfl rfl rfl rfl rfl ?_
          refine h_done (by kernel_rfl) (fun w h => (h).pick [0, 1, 2] (by decide)) ?_; refine zk ?_; refine ze ?_; refine zt (g_ret (?_))
          have hR : fRead s = .error (130, place s.length (T.drop (k))) := by rw [hG, fA_kind h0 hkn]
          rw [hR]
          refine r_fin (.inl rfl) rfl (.tmp rfl rfl (.agg rfl e3_1 z27 (fun _ h => h.at_ 3 rfl) rfl .nil)) ?_; exact fun w' hw => ⟨rfl, hw.fr (w, No) (.tail _ (.tail _ (.head _)))⟩
        · omega
      · refine zw rfl rfl (bF h7) ?_; refine zf fa64_1 rfl ?_; refine zw rfl rfl (bF h7) ?_; refine zl z9 rfl (fun _ h => zc 0 rfl rfl h) ?_; refine zw rfl rfl (bF h7) ?_; refine zC (fun w => zR Tryz.func23 rfl rfl rfl) rfl rfl (fun w h => Name_spec (nowT s.length (T.drop k)).2.1 (by omega) w (hW.now (.tail _ (.tail _ (.head _))) h)) ?_; refine zw rfl rfl (bF h7) ?_; refine w_r (fun _ => R_not rfl) rfl rfl ?_; refine w_r (v := .bool _) (fun _ => zF (bF h7) rfl) rfl rfl ?_; refine aB rfl ?_; refine yB ?_; refine c_condN rfl (fun h9 => ?_) (fun h9 => ?_)
        · refine yA ?_; refine mP e6_1 ?_
          have hkn : ¬ ((nowT s.length (T.drop k)).1 = 1 ∧ nameOk (nowT s.length (T.drop k)).2.1 = true) := fun h9 => by first | omega | simp_all
          refine w_call1 1 rfl (fun w => zR Tryz.func24 rfl rfl rfl) rfl rfl (fun w h => ffail_ok 130 rb s.length (k) (0) (0) G tc ta T w (hPf.now (.tail _ (.head _)) (fun j hj => hGi j (by simpa using hj)) h) (h.at_ 1 rfl) (by omega) hGr) ?_; refine yB ?_; refine c_exit ?_; refine b_past rfl (zx (b_past rfl (zx (b_here rfl (zk ?_))))); refine zq ?_; refine yA ?_; refine mP e6_1 ?_; refine w_nilc rfl ?_; refine zf fa61_2 rfl ?_; refine zf fa27_0 rfl ?_; refine zl z25 rfl (fun _ h => zc 1 rfl rfl h) ?_; refine w_r (fun _ => R_ne rfl rfl) rfl rfl ?_; refine yB ?_; refine zD rfl (fun h10 => ?_) (fun h10 => ?_)
          · refine zq ?_; refine c_heldI [0, 1, 2] mixed ?_; refine zh (v := .pointer _) 0 rfl (by kernel_rfl) rfl rfl (fun w h => (h).pick [0, 1, 2] (by decide)) (fun w h => R_move e6_1) ?_; refine zh 1 rfl (by kernel_rfl) rfl rfl (fun w h => (h).pick [0, 1, 2] (by decide)) (fun w h => R_nil rfl) ?_; refine zh 2 rfl (by kernel_rfl) rfl rfl (fun w h => (h).pick [0, 1, 2] (by decide)) (fun w h => R_fa fa61_2 rfl) ?_; refine h_loadA 3 rfl (by kernel_rfl) (fun w h => (h).pick [0, 1, 2] (by decide)) z27 rfl (fun _ h => h.at_ 1 rfl) rfl ?_; refine zh (v := .slice _ _ _) 4 rfl (by kernel_rfl) rfl rfl (fun w h => (h).pick [0, 1, 2] (by decide)) (fun w h => R_assign rfl) ?_; refine h_one 5 (by kernel_rfl) (fun w h => (h).pick [0, 1, 2] (by decide)) ?_; refine o_store 3 rfl rfl z27 e3_1 rfl rfl rfl rfl rfl rfl ?_
            refine h_done (by kernel_rfl) (fun w h => (h).pick [0, 1, 2] (by decide)) ?_; refine zk ?_; refine ze ?_; refine zt (g_ret (?_))
            have hR : fRead s = .error (130, place s.length (T.drop (k))) := by rw [hG, fA_kind h0 hkn]
            rw [hR]
            refine r_fin (.inl rfl) rfl (.tmp rfl rfl (.agg rfl e3_1 z27 (fun _ h => h.at_ 3 rfl) rfl .nil)) ?_; exact fun w' hw => ⟨rfl, hw.fr (w, No) (.tail _ (.tail _ (.head _)))⟩
          · omega
        · refine yA ?_; refine zm e7_1 ?_; refine zf fa64_1 rfl ?_; refine zl z9 rfl (fun _ h => zc 0 rfl rfl h) ?_
          have hkn : (nowT s.length (T.drop k)).1 = 1 ∧ nameOk (nowT s.length (T.drop k)).2.1 = true := ⟨by omega, by simp_all⟩
          cases hse : out.any (fun d => decide (d.nm = (nowT s.length (T.drop k)).2.1))
          · refine w_lookS (v := .int .i64 0) 2 rfl unm62 unk9 zr3 rfl rfl (by rw [seen_look, hse]; rfl) ?_; refine w_r (fun _ => R_gt rfl rfl) rfl rfl ?_; refine aB rfl ?_; refine yB ?_; refine c_condF (congrArg Value.bool (decide_eq_false (by decide))) ?_; refine zi ?_; refine b_on (zk ?_); refine yA ?_; refine zm e7_1 ?_; refine zf fa64_1 rfl ?_; refine zl z9 rfl (fun _ h => zc 0 rfl rfl h) ?_; refine w_updS 2 rfl unm62 unk9 rfl rfl rfl (seen_none hse) ?_; refine yC ?_; refine mP e6_1 ?_; refine mP e6_1 ?_; refine w_nilc rfl ?_; refine zf fa61_0 rfl ?_; refine zl z59 rfl (fun _ h => zc 1 rfl rfl h) ?_; refine w_r (fun _ => R_low3 sl59 rfl rfl hlt hPf.le) rfl rfl ?_; refine w_nilc rfl ?_
            refine zf fa61_0 rfl ?_; refine w_store 1 rfl z59 rfl rfl rfl rfl rfl rfl rfl ?_; refine yC ?_; refine zf fa64_1 rfl ?_; refine zl z9 rfl (fun _ h => zc 0 rfl rfl h) ?_; refine zf fa64_2 rfl ?_; refine zl z3 rfl (fun _ h => zc 0 rfl rfl h) ?_; refine w_r (fun _ => R_build bt33 rfl) rfl rfl ?_; refine w_alloc zr33 (fun db gdb udb => ?_)
            refine w_store 0 rfl z33 rfl rfl rfl rfl rfl rfl rfl ?_; refine yB ?_; refine zq ?_; refine yA ?_; refine mP e6_1 ?_
            cases heq : isG [61] (T.drop (k + 1))
            · refine w_call1 2 rfl (fun w => zR Tryz.func25 rfl rfl rfl) rfl rfl (fun w h => by have h9 := fwant_ok [61] rb s.length (k + 1) (0) (0) G tc ta T w (hPf.now (.tail _ (.head _)) (fun j hj => hGi j (by simpa using hj)) h) (h.at_ 2 rfl) (by omega) hGr; rw [heq, if_neg (by decide)] at h9; exact h9) ?_; refine w_r (fun _ => R_not rfl) rfl rfl ?_; refine mB rfl ?_; refine zs rfl rfl rfl ?_; refine zs rfl rfl rfl ?_; refine zs rfl rfl rfl ?_; refine w_r (v := .bool _) (fun _ => zT rfl rfl) rfl rfl ?_; refine mB rfl ?_; refine zs rfl rfl rfl ?_; refine zs rfl rfl rfl ?_; refine zs rfl rfl rfl ?_; refine w_r (v := .bool _) (fun _ => zT rfl rfl) rfl rfl ?_; refine yB ?_; refine zE rfl ?_; refine c_exit ?_
              refine zx (b_past rfl (zx (b_here rfl (zk ?_)))); refine zq ?_; refine yA ?_; refine mP e6_1 ?_; refine w_nilc rfl ?_; refine zf fa61_2 rfl ?_; refine zf fa27_0 rfl ?_; refine zl z25 rfl (fun _ h => zc 2 rfl rfl h) ?_; refine w_r (fun _ => R_ne rfl rfl) rfl rfl ?_; refine yB ?_; refine zD rfl (fun h12 => ?_) (fun h12 => ?_)
              · refine zq ?_; refine c_heldI [0, 1, 2, 3] mixed ?_; refine zh (v := .pointer _) 0 rfl (by kernel_rfl) rfl rfl (fun w h => (h).pick [0, 1, 2, 3] (by decide)) (fun w h => R_move e6_1) ?_; refine zh 1 rfl (by kernel_rfl) rfl rfl (fun w h => (h).pick [0, 1, 2, 3] (by decide)) (fun w h => R_nil rfl) ?_; refine zh 2 rfl (by kernel_rfl) rfl rfl (fun w h => (h).pick [0, 1, 2, 3] (by decide)) (fun w h => R_fa fa61_2 rfl) ?_; refine h_loadA 3 rfl (by kernel_rfl) (fun w h => (h).pick [0, 1, 2, 3] (by decide)) z27 rfl (fun _ h => h.at_ 2 rfl) rfl ?_; refine zh (v := .slice _ _ _) 4 rfl (by kernel_rfl) rfl rfl (fun w h => (h).pick [0, 1, 2, 3] (by decide)) (fun w h => R_assign rfl) ?_; refine h_one 5 (by kernel_rfl) (fun w h => (h).pick [0, 1, 2, 3] (by decide)) ?_; refine o_store 4 rfl rfl z27 e3_1 rfl rfl rfl rfl rfl rfl ?_
                refine h_done (by kernel_rfl) (fun w h => (h).pick [0, 1, 2, 3] (by decide)) ?_; refine zk ?_; refine ze ?_; refine zt (g_ret (?_))
                have hR : fRead s = .error (130, place s.length (T.drop (k + 1))) := by rw [hG, fA_eq h0 hkn hse (by rw [drop_tl]; exact heq), drop_tl]
                rw [hR]
                refine r_fin (.inl rfl) rfl (.tmp rfl rfl (.agg rfl e3_1 z27 (fun _ h => h.at_ 4 rfl) rfl .nil)) ?_; exact fun w' hw => ⟨rfl, hw.fr (w, No) (.tail _ (.tail _ (.head _)))⟩
              · omega
            · refine w_call1 2 rfl (fun w => zR Tryz.func25 rfl rfl rfl) rfl rfl (fun w h => by have h9 := fwant_ok [61] rb s.length (k + 1) (0) (0) G tc ta T w (hPf.now (.tail _ (.head _)) (fun j hj => hGi j (by simpa using hj)) h) (h.at_ 2 rfl) (by omega) hGr; rw [heq, if_pos rfl] at h9; exact h9) ?_
              have hltheq := isG_lt heq
              refine w_r (fun _ => R_not rfl) rfl rfl ?_; refine mB rfl ?_; refine zw rfl rfl rfl ?_; refine mP e6_1 ?_; refine zw rfl rfl rfl ?_
              have hGd : G db := hGn db (udb _ (.tail _ (.head _)))
              refine w_st (B' := _) (L' := [_, _, _, _, _] ++ W) (fun w h => St.pickT [_, _, _, _, _] h [2, 0, 1, 3, 4] (by decide)) ?_; refine w_st (B' := _) (L' := ((rb, Rr ta tc T.length s.length (k + 1 + 1) 0 0) :: (db, Dd (nowT s.length (T.drop k)).2.1 (nowT s.length (T.drop k)).2.2 false true (.slice none 0 0)) :: []) ++ ([_, _, _] ++ W)) (fun w h => h) ?_
              refine w_callXh (X := ((rb, Rr ta tc T.length s.length (k + 1 + 1) 0 0) :: (db, Dd (nowT s.length (T.drop k)).2.1 (nowT s.length (T.drop k)).2.2 false true (.slice none 0 0)) :: [])) (R := ValQ rb db tc s.length 0 0 (k + 1 + 1) ta T (nowT s.length (T.drop k)).2.1 (nowT s.length (T.drop k)).2.2 (fVal s.length q' (T.drop (k + 1 + 1)))) (s0 := w.heap.size) ValQ.mono (fun w => zR Tryz.func26 rfl rfl rfl) rfl rfl (fun w1 h => (h.fr _ (.tail _ (.tail _ (.head _)))).size) (fun w2 h N => value_ok rb db s.length (k + 1 + 1) 0 0 G tc q' ta T w2 (hPf.now (.tail _ (.head _)) (fun j hj => hGi j (by simpa using hj)) h) (by omega) (by omega) hGr hGd (fun j hj => hGn j (Nat.le_trans (h.fr _ (.tail _ (.head _))).size hj)) (nowT s.length (T.drop k)).2.1 (nowT s.length (T.drop k)).2.2 N (St.part (h.perm List.perm_append_comm))) (fun u9 X9 x9 hR9 => ?_)
              rcases hq9 : fVal s.length q' (T.drop (k + 1 + 1)) with fl9 | ⟨ar9, r9⟩
              · rw [hq9] at hR9; obtain ⟨rfl, k9, Y9, hk9, rfl⟩ := hR9; have hne9 := (fVal_er (Bnd.drop ((readP_at s).1) hTe _) (by rw [List.length_drop]; omega) hq9).1
                refine w_st (B' := _) (L' := [_, _]) (fun w h => h.drop (.cons_cons _ (.trans (.cons _ (.cons _ (.cons_cons _ (List.nil_sublist _)))) (List.sublist_append_right Y9 _)))) ?_; refine zw rfl rfl rfl ?_; refine w_r (fun _ => R_not rfl) rfl rfl ?_; refine w_r (v := .bool _) (fun _ => zF rfl rfl) rfl rfl ?_; refine mB rfl ?_; refine zs rfl rfl rfl ?_; refine zs rfl rfl rfl ?_; refine zs rfl rfl rfl ?_; refine w_r (v := .bool _) (fun _ => zT rfl rfl) rfl rfl ?_; refine yB ?_; refine zE rfl ?_; refine c_exit ?_; refine zx (b_past rfl (zx (b_here rfl (zk ?_)))); refine zq ?_; refine yA ?_; refine mP e6_1 ?_; refine w_nilc rfl ?_; refine zf fa61_2 rfl ?_; refine zf fa27_0 rfl ?_; refine zl z25 rfl (fun _ h => zc 0 rfl rfl h) ?_
                refine w_r (fun _ => R_ne rfl rfl) rfl rfl ?_; refine yB ?_; refine zD rfl (fun h13 => ?_) (fun h13 => ?_)
                · refine zq ?_; refine c_heldI [0] mixed ?_; refine zh (v := .pointer _) 0 rfl (by kernel_rfl) rfl rfl (fun w h => (h).pick [0] (by decide)) (fun w h => R_move e6_1) ?_; refine zh 1 rfl (by kernel_rfl) rfl rfl (fun w h => (h).pick [0] (by decide)) (fun w h => R_nil rfl) ?_; refine zh 2 rfl (by kernel_rfl) rfl rfl (fun w h => (h).pick [0] (by decide)) (fun w h => R_fa fa61_2 rfl) ?_; refine h_loadA 3 rfl (by kernel_rfl) (fun w h => (h).pick [0] (by decide)) z27 rfl (fun _ h => h.at_ 0 rfl) rfl ?_; refine zh (v := .slice _ _ _) 4 rfl (by kernel_rfl) rfl rfl (fun w h => (h).pick [0] (by decide)) (fun w h => R_assign rfl) ?_; refine h_one 5 (by kernel_rfl) (fun w h => (h).pick [0] (by decide)) ?_; refine o_store 1 rfl rfl z27 e3_1 rfl rfl rfl rfl rfl rfl ?_; refine h_done (by kernel_rfl) (fun w h => (h).pick [0] (by decide)) ?_
                  refine zk ?_; refine ze ?_; refine zt (g_ret (?_))
                  have hR : fRead s = .error (fl9.1, fl9.2) := by rw [hG, fA_val h0 hkn hse (by rw [drop_tl]; exact heq) (by rw [drop_tl, drop_tl]; exact hq9)]
                  rw [hR]
                  refine r_fin (.inl rfl) rfl (.tmp rfl rfl (.agg rfl e3_1 z27 (fun _ h => h.at_ 1 rfl) rfl .nil)) ?_; exact fun w' hw => ⟨rfl, hw.fr (w, No) (.tail _ (.tail _ (.tail _ (.head _))))⟩
                · omega
              · rw [hq9] at hR9; obtain ⟨rfl, k9, v9, xs9, W9, rfl, hk9, hkl9, rfl, hO9, hK9, hnl9⟩ := hR9; obtain ⟨va9, vc9, rfl⟩ := hO9.slice
                refine zw rfl rfl rfl ?_; refine w_r (fun _ => R_not rfl) rfl rfl ?_; refine w_r (v := .bool _) (fun _ => zF rfl rfl) rfl rfl ?_; refine mB rfl ?_; refine zw rfl rfl rfl ?_; refine mP e6_1 ?_; refine zw rfl rfl rfl ?_
                cases hsc : isG [59] (T.drop (k9))
                · refine w_call1 0 rfl (fun w => zR Tryz.func25 rfl rfl rfl) rfl rfl (fun w h => by have h9 := fwant_ok [59] rb s.length (k9) (0) (0) G tc ta T w (hPf.now (.tail _ (.tail _ (.head _))) (fun j hj => hGi j (by simpa using hj)) h) (h.at_ 0 rfl) (by omega) hGr; rw [hsc, if_neg (by decide)] at h9; exact h9) ?_; refine w_st (B' := _) (L' := [_, _]) (fun w h => h.drop (.cons_cons _ (.cons _ (.trans (.cons _ (.cons _ (.cons_cons _ (List.nil_sublist _)))) (List.sublist_append_right W9 _))))) ?_; refine zw rfl rfl rfl ?_; refine w_r (fun _ => R_not rfl) rfl rfl ?_; refine w_r (v := .bool _) (fun _ => zF rfl rfl) rfl rfl ?_; refine yB ?_; refine zE rfl ?_; refine c_exit ?_; refine zx (b_past rfl (zx (b_here rfl (zk ?_)))); refine zq ?_; refine yA ?_; refine mP e6_1 ?_
                  refine w_nilc rfl ?_; refine zf fa61_2 rfl ?_; refine zf fa27_0 rfl ?_; refine zl z25 rfl (fun _ h => zc 0 rfl rfl h) ?_; refine w_r (fun _ => R_ne rfl rfl) rfl rfl ?_; refine yB ?_; refine zD rfl (fun h14 => ?_) (fun h14 => ?_)
                  · refine zq ?_; refine c_heldI [0] mixed ?_; refine zh (v := .pointer _) 0 rfl (by kernel_rfl) rfl rfl (fun w h => (h).pick [0] (by decide)) (fun w h => R_move e6_1) ?_; refine zh 1 rfl (by kernel_rfl) rfl rfl (fun w h => (h).pick [0] (by decide)) (fun w h => R_nil rfl) ?_; refine zh 2 rfl (by kernel_rfl) rfl rfl (fun w h => (h).pick [0] (by decide)) (fun w h => R_fa fa61_2 rfl) ?_; refine h_loadA 3 rfl (by kernel_rfl) (fun w h => (h).pick [0] (by decide)) z27 rfl (fun _ h => h.at_ 0 rfl) rfl ?_; refine zh (v := .slice _ _ _) 4 rfl (by kernel_rfl) rfl rfl (fun w h => (h).pick [0] (by decide)) (fun w h => R_assign rfl) ?_; refine h_one 5 (by kernel_rfl) (fun w h => (h).pick [0] (by decide)) ?_; refine o_store 1 rfl rfl z27 e3_1 rfl rfl rfl rfl rfl rfl ?_; refine h_done (by kernel_rfl) (fun w h => (h).pick [0] (by decide)) ?_
                    refine zk ?_; refine ze ?_; refine zt (g_ret (?_))
                    have hR : fRead s = .error (130, place s.length (T.drop (k9))) := by rw [hG, fA_semi h0 hkn hse (by rw [drop_tl]; exact heq) (by rw [drop_tl, drop_tl]; exact hq9) hsc]
                    rw [hR]
                    refine r_fin (.inl rfl) rfl (.tmp rfl rfl (.agg rfl e3_1 z27 (fun _ h => h.at_ 1 rfl) rfl .nil)) ?_; exact fun w' hw => ⟨rfl, hw.fr (w, No) (.tail _ (.tail _ (.tail _ (.head _))))⟩
                  · omega
                · refine w_call1 0 rfl (fun w => zR Tryz.func25 rfl rfl rfl) rfl rfl (fun w h => by have h9 := fwant_ok [59] rb s.length (k9) (0) (0) G tc ta T w (hPf.now (.tail _ (.tail _ (.head _))) (fun j hj => hGi j (by simpa using hj)) h) (h.at_ 0 rfl) (by omega) hGr; rw [hsc, if_pos rfl] at h9; exact h9) ?_
                  have hlthsc := isG_lt hsc
                  refine zw rfl rfl rfl ?_; refine w_r (fun _ => R_not rfl) rfl rfl ?_; refine w_r (v := .bool _) (fun _ => zF rfl rfl) rfl rfl ?_; refine yB ?_; refine c_condF rfl ?_; refine zi ?_; refine zk ?_; refine zr ?_; refine mS e8_1 ?_; refine w_loadA z33 rfl (fun _ h => h.at_ 1 rfl) rfl ?_; refine zS slt24 (by decide) rfl rfl (fun b15 gb15 ub15 => ?_)
                  refine w_st (B' := _) (L' := ([_, _, _] ++ (W9 ++ [_, _, _])) ++ (W ++ [])) (fun w h => by rw [List.append_nil, List.append_assoc, List.append_assoc]; exact h) ?_; refine w_app (L := []) (W := W) (news := diE (diD ⟨(nowT s.length (T.drop k)).2.1, (nowT s.length (T.drop k)).2.2, ar9.1, ar9.2.2, ar9.2.1⟩) (va9, vc9)) ([_, _, _] ++ (W9 ++ [_, _, _])) slt24 (by decide) rfl hO2 rfl rfl (row_own 0 rfl (fun j u h => by rw [show diE (diD ⟨(nowT s.length (T.drop k)).2.1, (nowT s.length (T.drop k)).2.2, ar9.1, ar9.2.2, ar9.2.1⟩) (va9, vc9) = [str (nowT s.length (T.drop k)).2.1, .int .i64 ((nowT s.length (T.drop k)).2.2 : Nat), .bool ar9.1, .bool ar9.2.2, .slice va9 ar9.2.1.length vc9] by simp only [diE, diD, List.length_map]] at h; exact h)) rfl (by decide) (by omega) (by omega) (fun v2 W2 hO3 => ?_)
                  obtain ⟨a2, c2, rfl⟩ := hO3.slice
                  refine za (v := .slice a2 (out.length + 1) c2) rfl ?_; refine zn ?_; refine b_on (?_)
                  refine k_st (B' := _) (L' := [_, (rb, Rr ta tc T.length s.length (k9 + 1) 0 0), _] ++ (W9 ++ ([_, (mb, mpS (seenL (out ++ [(⟨(nowT s.length (T.drop k)).2.1, (nowT s.length (T.drop k)).2.2, ar9.1, ar9.2.2, ar9.2.1⟩ : Dt)]))), (t3b, cel [.int .i64 0, .int .i64 0] 27)] ++ W2))) (fun w h => by rw [show seenL (out ++ [(⟨(nowT s.length (T.drop k)).2.1, (nowT s.length (T.drop k)).2.2, ar9.1, ar9.2.2, ar9.2.1⟩ : Dt)]) = seenL out ++ [((nowT s.length (T.drop k)).2.1, Value.int .i64 1)] from List.map_append]; simp only [List.append_nil, List.append_assoc] at h; exact h) ?_
                  refine k_join (L' := ([(rb, Rr ta tc T.length s.length (k9 + 1) 0 0), (mb, mpS (seenL (out ++ [(⟨(nowT s.length (T.drop k)).2.1, (nowT s.length (T.drop k)).2.2, ar9.1, ar9.2.2, ar9.2.1⟩ : Dt)]))), (t3b, cel [.int .i64 0, .int .i64 0] 27)] ++ W2)) (B0 := [(w1, inL ([(rb, Rr ta tc T.length s.length 0 0 0), (mb, mpS []), (t3b, cel [.int .i64 0, .int .i64 0] 27)] ++ [])), (w, No)]) (.cons _ (.cons_cons _ (.cons _ (.trans (.cons _ (.cons_cons _ (.cons_cons _ (List.Sublist.refl _)))) (List.sublist_append_right W9 _))))) (fun x hx => by rcases List.mem_cons.1 hx with rfl | hx; (exact (.tail _ (.tail _ (.head _)))); (rcases List.mem_cons.1 hx with rfl | hx; (exact (.tail _ (.tail _ (.tail _ (.head _))))); (exact absurd hx (by simp)))) (fun w5 hw5 => ?_)
                  have hA5 : Kt (w5, inL ([(rb, Rr ta tc T.length s.length (k9 + 1) 0 0), (mb, mpS (seenL (out ++ [(⟨(nowT s.length (T.drop k)).2.1, (nowT s.length (T.drop k)).2.2, ar9.1, ar9.2.2, ar9.2.1⟩ : Dt)]))), (t3b, cel [.int .i64 0, .int .i64 0] 27)] ++ W2)) w.heap.size (Mc 5 diC) (out.map diD) ys := (hKl.now (TL.cells TL.dic) (.tail _ (.head _)) hw5).sub (TL.cells TL.dic) (.cons _ (.cons_cons _ (.cons _ (.trans (.cons _ (.cons_cons _ (.cons_cons _ (List.Sublist.refl _)))) (List.sublist_append_right W9 _)))))
                  have hN5 : Kt (w5, inL ([(rb, Rr ta tc T.length s.length (k9 + 1) 0 0), (mb, mpS (seenL (out ++ [(⟨(nowT s.length (T.drop k)).2.1, (nowT s.length (T.drop k)).2.2, ar9.1, ar9.2.2, ar9.2.1⟩ : Dt)]))), (t3b, cel [.int .i64 0, .int .i64 0] 27)] ++ W2)) w.heap.size (Mc 3 rwC) (ar9.2.1.map rwR) xs9 := ((show Kt x9 w.heap.size (Mc 3 rwC) (ar9.2.1.map rwR) xs9 from hK9).now (TL.cells TL.rwc) (.head _) hw5).sub (TL.cells TL.rwc) (.cons _ (.cons_cons _ (.cons _ (.trans (.cons _ (.cons_cons _ (.cons_cons _ (List.Sublist.refl _)))) (List.sublist_append_right W9 _)))))
                  have hD5 : Kt (w5, inL ([(rb, Rr ta tc T.length s.length (k9 + 1) 0 0), (mb, mpS (seenL (out ++ [(⟨(nowT s.length (T.drop k)).2.1, (nowT s.length (T.drop k)).2.2, ar9.1, ar9.2.2, ar9.2.1⟩ : Dt)]))), (t3b, cel [.int .i64 0, .int .i64 0] 27)] ++ W2)) w.heap.size diT (diD (⟨(nowT s.length (T.drop k)).2.1, (nowT s.length (T.drop k)).2.2, ar9.1, ar9.2.2, ar9.2.1⟩ : Dt)) (va9, vc9) := row_kt (A1 := [_, _, _]) (A2 := [_, _, _] ++ W2) (l := ar9.2.1.map rwR) hw5 (.cons _ (.cons_cons _ (.cons _ (.cons _ (.cons_cons _ (.cons_cons _ (List.Sublist.refl _))))))) (.tail _ (.tail _ (.tail _ (.head _)))) (by rw [List.length_map]; exact hO9) hN5
                  exact k_again _ (by omega) ⟨q', k9 + 1, out ++ [(⟨(nowT s.length (T.drop k)).2.1, (nowT s.length (T.drop k)).2.2, ar9.1, ar9.2.2, ar9.2.1⟩ : Dt)], a2, c2, _, W2, (w5, inL _), e2_1, e3_1, e6_1, e7_1, (by rw [List.length_append, List.length_singleton]; rfl), rfl, rfl, by omega, (by rw [hG, fA_ok h0 hkn hse (by rw [drop_tl]; exact heq) (by rw [drop_tl, drop_tl]; exact hq9) hsc, drop_tl, place_now]), by omega, by omega, by rw [List.length_append, List.length_singleton]; exact hO3, (by rw [List.map_append]; exact hA5.snocI hD5 (by rw [List.length_map]; exact hO2.1)), by rw [List.length_append, List.length_singleton]; omega, rfl⟩
          · refine w_lookS (v := .int .i64 1) 2 rfl unm62 unk9 zr3 rfl rfl (by rw [seen_look, hse]; rfl) ?_; refine w_r (fun _ => R_gt rfl rfl) rfl rfl ?_; refine aB rfl ?_; refine yB ?_; refine zE (congrArg Value.bool (decide_eq_true (by decide))) ?_; refine yA ?_; refine mP e6_1 ?_; refine w_call1 1 rfl (fun w => zR Tryz.func24 rfl rfl rfl) rfl rfl (fun w h => ffail_ok 8 rb s.length (k) (0) (0) G tc ta T w (hPf.now (.tail _ (.head _)) (fun j hj => hGi j (by simpa using hj)) h) (h.at_ 1 rfl) (by omega) hGr) ?_; refine yB ?_; refine c_exit ?_; refine b_past rfl (zx (b_past rfl (zx (b_here rfl (zk ?_))))); refine zq ?_; refine yA ?_
            refine mP e6_1 ?_; refine w_nilc rfl ?_; refine zf fa61_2 rfl ?_; refine zf fa27_0 rfl ?_; refine zl z25 rfl (fun _ h => zc 1 rfl rfl h) ?_; refine w_r (fun _ => R_ne rfl rfl) rfl rfl ?_; refine yB ?_; refine zD rfl (fun h16 => ?_) (fun h16 => ?_)
            · refine zq ?_; refine c_heldI [0, 1, 2] mixed ?_; refine zh (v := .pointer _) 0 rfl (by kernel_rfl) rfl rfl (fun w h => (h).pick [0, 1, 2] (by decide)) (fun w h => R_move e6_1) ?_; refine zh 1 rfl (by kernel_rfl) rfl rfl (fun w h => (h).pick [0, 1, 2] (by decide)) (fun w h => R_nil rfl) ?_; refine zh 2 rfl (by kernel_rfl) rfl rfl (fun w h => (h).pick [0, 1, 2] (by decide)) (fun w h => R_fa fa61_2 rfl) ?_; refine h_loadA 3 rfl (by kernel_rfl) (fun w h => (h).pick [0, 1, 2] (by decide)) z27 rfl (fun _ h => h.at_ 1 rfl) rfl ?_; refine zh (v := .slice _ _ _) 4 rfl (by kernel_rfl) rfl rfl (fun w h => (h).pick [0, 1, 2] (by decide)) (fun w h => R_assign rfl) ?_; refine h_one 5 (by kernel_rfl) (fun w h => (h).pick [0, 1, 2] (by decide)) ?_; refine o_store 3 rfl rfl z27 e3_1 rfl rfl rfl rfl rfl rfl ?_
              refine h_done (by kernel_rfl) (fun w h => (h).pick [0, 1, 2] (by decide)) ?_; refine zk ?_; refine ze ?_; refine zt (g_ret (?_))
              have hR : fRead s = .error (8, place s.length (T.drop (k))) := by rw [hG, fA_there h0 hkn hse]
              rw [hR]
              refine r_fin (.inl rfl) rfl (.tmp rfl rfl (.agg rfl e3_1 z27 (fun _ h => h.at_ 3 rfl) rfl .nil)) ?_; exact fun w' hw => ⟨rfl, hw.fr (w, No) (.tail _ (.tail _ (.head _)))⟩
            · omega
    · have hke : k = T.length := (by omega); obtain ⟨q', rfl⟩ : ∃ q', q = q' + 1 := ⟨q - 1, by omega⟩
      refine c_exit ?_; refine zx (zx (b_here rfl (zk ?_))); refine zq ?_; refine yA ?_; refine mP e6_1 ?_; refine w_nilc rfl ?_; refine zf fa61_2 rfl ?_; refine zf fa27_0 rfl ?_; refine zl z25 rfl (fun _ h => zc 0 rfl rfl h) ?_; refine w_r (fun _ => R_ne rfl rfl) rfl rfl ?_; refine yB ?_; refine zD rfl (fun h17 => ?_) (fun h17 => ?_)
      · omega
      · refine zi ?_; refine zk ?_; refine yA ?_; refine mS e8_1 ?_; refine w_r (fun _ => R_build bt27 rfl) rfl rfl ?_; refine za (v := .slice _ _ _) rfl ?_; refine w_store 2 rfl z27 e3_1 rfl rfl rfl rfl rfl rfl ?_; refine yB ?_; refine ze ?_; refine g_ret (?_)
        have hR : fRead s = .ok out := by rw [hG, hke, List.drop_length]; exact fA_end
        rw [hR]
        refine k_st (B' := _) (L' := [_, _, _] ++ W) (fun w h => h) ?_; refine r_fin (.inl rfl) rfl (.tmp rfl rfl (.agg rfl e3_1 z27 (fun _ h => h.at_ 2 rfl) rfl .nil)) ?_; exact fun w' hw => ⟨⟨(va, vc), rfl, by obtain ⟨b, hb, hr⟩ := own_row (l := out.map diD) (by rw [List.length_map]; exact hO2) (fun p hp => hw.own p (List.mem_append_right _ hp)) (N := Nn w w') (fun p hp => ⟨(hw.ok p (List.mem_append_right _ hp) (w, No) (.tail _ (.tail _ (.head _)))).elim (fun h => h.elim) (fun h => h), lt_of_blk (hw.own p (List.mem_append_right _ hp))⟩) (hKl.fin (TL.cells TL.dic) (.head _) hw); simp only [Value.slice.injEq] at hb; obtain ⟨h1, _, h2⟩ := hb; have h3 : b = (va, vc) := Prod.ext h1.symm h2.symm; rw [h3] at hr; exact hr⟩, hw.fr (w, No) (.tail _ (.tail _ (.head _)))⟩
end Go.Proofs.YtikdkendinnalaaGreatDoor
end
