/- Layer 14, FeedParts: that no name stands twice in what is read, and what two texts of data tell, one behind the other. Part 9 of 11. -/
import Derived.Test.YtikdkendinnalaaGreatDoorP08
section
namespace Go.Proofs.YtikdkendinnalaaGreatDoor
open Go.RowKit Go.Sx
open Go.Tok Go.Tree Go.Prs Go.Feed Go.Num
theorem hMW_ {B : Base} {W : Heap} {w w1 : World} {rb db : Nat} {M : Nat → Prop} {o1 o2 o3 o4 : Obj} (hx : (w, inL ((rb, o1) :: (db, o2) :: [])) ∈ B) (hM : M rb) (hMd : M db) (hMs : ∀ j, w.heap.size ≤ j → M j) (h : St B ((rb, o3) :: (db, o4) :: W) w1) : ∀ p ∈ W, M p.1 := fun p hp => by
  rcases h.ok p (.tail _ (.tail _ hp)) _ hx with h1 | h1
  · rcases List.mem_cons.1 h1 with h2 | h2
    · rw [h2]; exact hM
    · rcases List.mem_cons.1 h2 with h3 | h3
      · rw [h3]; exact hMd
      · exact absurd h3 (by simp)
  · exact hMs _ h1
theorem NumQ.mono {rb db tc z e9 a9 k : Nat} {ta : Option Addr} {T : List Tk} {nm : Str} {p : Nat} {li wh : Bool} {l : List Rt} {X : Except Fl ((Rt × Bool) × List Tk)} : ∀ v X' N N' w, NumQ rb db tc z e9 a9 k ta T nm p li wh l X v X' N w → (∀ j, N j → N' j) → NumQ rb db tc z e9 a9 k ta T nm p li wh l X v X' N' w := by
  intro v X' N N' w h hn
  unfold NumQ at h ⊢
  split
  · obtain ⟨h1, k', v', xs', W', h2, h3, h4, h5, h6, h7⟩ := h
    exact ⟨h1, k', v', xs', W', h2, h3, h4, h5, h6, (TL.cells TL.rwc).mono h7 hn⟩
  · exact h
/-- what value tells -/
def ValQ (rb db tc z e9 a9 k : Nat) (ta : Option Addr) (T : List Tk) (nm : Str) (p : Nat) (X : Except Fl ((Bool × List Rt × Bool) × List Tk)) : Value → Heap → (Nat → Prop) → World → Prop := fun v X' N w =>
  match X with
  | .ok (a, r) => v = .bool true ∧ ∃ k' v' xs' W', r = T.drop k' ∧ k < k' ∧ k' ≤ T.length ∧ X' = (rb, Rr ta tc T.length z k' e9 a9) :: (db, Dd nm p a.1 a.2.2 v') :: W' ∧ Own 46 3 v' xs' a.2.1.length W' ∧ Mc 3 rwC w N (a.2.1.map rwR) xs' ∧ a.2.1.length ≤ T.length
  | .error fl => v = .bool false ∧ ∃ k' Y, k' ≤ T.length ∧ X' = (rb, Rr ta tc T.length z k' fl.1 fl.2) :: Y
theorem ValQ.mono {rb db tc z e9 a9 k : Nat} {ta : Option Addr} {T : List Tk} {nm : Str} {p : Nat} {X : Except Fl ((Bool × List Rt × Bool) × List Tk)} : ∀ v X' N N' w, ValQ rb db tc z e9 a9 k ta T nm p X v X' N w → (∀ j, N j → N' j) → ValQ rb db tc z e9 a9 k ta T nm p X v X' N' w := by
  intro v X' N N' w h hn
  unfold ValQ at h ⊢
  split
  · obtain ⟨h1, k', v', xs', W', h2, h3, h4, h5, h6, h7, h8⟩ := h
    exact ⟨h1, k', v', xs', W', h2, h3, h4, h5, h6, (TL.cells TL.rwc).mono h7 hn, h8⟩
  · exact h
theorem fVal_no {z n : Nat} {ts : List Tk} (h : isG [91] ts = false) : fVal z n ts = andR (fNum z ts) fun a r => .ok ((false, [a.1], a.2), r) := if_neg (by rw [h]; decide)
theorem fVal_nil {z n : Nat} {ts : List Tk} (h : isG [91] ts = true) (h2 : isG [93] ts.tail = true) : fVal z n ts = .ok ((true, [], true), ts.tail.tail) := (if_pos h).trans (if_pos h2)
theorem fVal_row {z n : Nat} {ts : List Tk} (h : isG [91] ts = true) (h2 : isG [93] ts.tail = false) : fVal z n ts = andR (fRow z n [] true ts.tail) fun v r => .ok ((true, v.1, v.2), r) := (if_pos h).trans (if_neg (by rw [h2]; decide))
theorem fRow_e {z n : Nat} {l : List Rt} {b : Bool} {ts : List Tk} {fl : Fl} (h : fNum z ts = .error fl) : fRow z (n + 1) l b ts = .error fl := by rw [fRow, h]; rfl
theorem fRow_c {z n : Nat} {l : List Rt} {b : Bool} {ts r : List Tk} {a : Rt × Bool} (h : fNum z ts = .ok (a, r)) (h2 : isG [44] r = true) : fRow z (n + 1) l b ts = fRow z n (l ++ [a.1]) (b && a.2) r.tail := by rw [fRow, h, andR_ok, if_pos h2]
theorem fRow_d {z n : Nat} {l : List Rt} {b : Bool} {ts r : List Tk} {a : Rt × Bool} (h : fNum z ts = .ok (a, r)) (h2 : isG [44] r = false) (h3 : isG [93] r = true) : fRow z (n + 1) l b ts = .ok ((l ++ [a.1], b && a.2), r.tail) := by
  rw [fRow, h, andR_ok, if_neg (by rw [h2]; decide)]; unfold wantG; rw [if_pos h3]
theorem fRow_f {z n : Nat} {l : List Rt} {b : Bool} {ts r : List Tk} {a : Rt × Bool} (h : fNum z ts = .ok (a, r)) (h2 : isG [44] r = false) (h3 : isG [93] r = false) : fRow z (n + 1) l b ts = .error (130, place z r) := by
  rw [fRow, h, andR_ok, if_neg (by rw [h2]; decide)]; unfold wantG; rw [if_neg (by rw [h3]; decide)]
set_option maxRecDepth 100000 in
set_option maxHeartbeats 8000000 in
theorem value_ok (rb db z k e9 a9 : Nat) (M : Nat → Prop) (tc n : Nat) (ta : Option Addr) (T : List Tk) (w : World) (hP : Pf w M T ta tc z) (hk : k ≤ T.length) (hn : T.length - k < n) (hM : M rb) (hMd : M db) (hMs : ∀ j, w.heap.size ≤ j → M j) (nm : Str) (p : Nat) (N : Nat → Prop) (hX : St [(w, inL ((rb, Rr ta tc T.length z (k) (e9) (a9)) :: (db, Dd nm p false true (.slice none 0 0)) :: []))] ((rb, Rr ta tc T.length z (k) (e9) (a9)) :: (db, Dd nm p false true (.slice none 0 0)) :: []) w) :
    Ret Tryz.prog 26 #[.pointer (some ⟨rb, 0, none⟩), .pointer (some ⟨db, 0, none⟩)] w (TelX ((rb, Rr ta tc T.length z (k) (e9) (a9)) :: (db, Dd nm p false true (.slice none 0 0)) :: []) (ValQ rb db tc z e9 a9 k ta T nm p (fVal z n (T.drop k))) N w) := by
  have hlen := hP.len
  refine enter (S := (inL ((rb, Rr ta tc T.length z (k) (e9) (a9)) :: (db, Dd nm p false true (.slice none 0 0)) :: []))) (l := [_, _]) (L := [(rb, Rr ta tc T.length z (k) (e9) (a9)), (db, Dd nm p false true (.slice none 0 0))]) 29 Tryz.func26 rfl rfl rfl (hX) ?_; refine yA ?_; refine aB rfl ?_; refine yB ?_; refine zq ?_; refine yA ?_; refine mP rfl ?_; refine mP rfl ?_
  cases hg1 : isG [91] (T.drop (k))
  · refine w_call1 0 rfl (fun w => zR Tryz.func61 rfl rfl rfl) rfl rfl (fun w h => by have h9 := ftake_ok [91] rb z (k) (e9) (a9) M tc ta T w (hP.now (.head _) (fun j hj => by rcases List.mem_cons.1 hj with rfl | hj; (exact hM); (rcases List.mem_cons.1 hj with rfl | hj; (exact hMd); (exact absurd hj (by simp)))) h) (h.at_ 0 rfl) (by omega) hM; rw [hg1, if_neg (by decide)] at h9; exact h9) ?_; refine w_nilc rfl ?_; refine zf fa33_2 rfl ?_; refine w_store 1 rfl z4 rfl rfl rfl rfl rfl rfl rfl ?_; refine yC ?_; refine mP rfl ?_; refine w_nilc rfl ?_; refine zf fa33_2 rfl ?_; refine zl z4 rfl (fun _ h => zc 1 rfl rfl h) ?_; refine w_r (fun _ => R_not rfl) rfl rfl ?_
    refine yB ?_; refine zE rfl ?_; refine yA ?_; refine mP rfl ?_; refine mP rfl ?_; refine w_st (B' := _) (L' := [] ++ ((rb, Rr ta tc T.length z (k) (e9) (a9)) :: (db, Dd nm p false true (.slice none ([] : List Rt).length 0)) :: [])) (fun w h => h) ?_
    refine w_callX (A := []) (X := ((rb, Rr ta tc T.length z (k) (e9) (a9)) :: (db, Dd nm p false true (.slice none ([] : List Rt).length 0)) :: [])) (R := NumQ rb db tc z e9 a9 (k) ta T nm p false true ([] : List Rt) (fNum z (T.drop (k)))) (s0 := w.heap.size) NumQ.mono (fun w => zR Tryz.func62 rfl rfl rfl) rfl rfl (fun w1 h => (h.fr _ (.head _)).size) (fun w1 h => number_ok rb db z (k) e9 a9 M tc ta T w1 (hP.now (.head _) (fun j hj => by rcases List.mem_cons.1 hj with rfl | hj; (exact hM); (rcases List.mem_cons.1 hj with rfl | hj; (exact hMd); (exact absurd hj (by simp)))) h) (by omega) hM hMd nm p false true none 0 [] ([] : List Rt) [] (Own.nil _ _) (fun p hp => absurd hp (by simp)) (by first | omega | decide) (Nb w.heap.size (w1, inL _)) (fun j hj => hj.2.2) Mc.nil (St.part (A := []) h)) (fun u2 X2 x2 hR2 => ?_)
    rcases hq2 : fNum z (T.drop (k)) with fl2 | ⟨ar2, r2⟩
    · rw [hq2] at hR2; obtain ⟨rfl, k2, Y2, hk2, rfl⟩ := hR2
      refine aB rfl ?_; refine yB ?_; refine ze ?_; refine zt (?_)
      have hV : fVal z n (T.drop k) = .error fl2 := by rw [fVal_no hg1, hq2]; rfl
      rw [hV]
      refine zo (v := .bool _) rfl rfl rfl ?_; exact fun w' hw => St.telX (A := []) hw (.tail _ (.head _)) ⟨rfl, k2, Y2, hk2, rfl⟩
    · rw [hq2] at hR2; obtain ⟨rfl, k2, v2, xs2, W2, rfl, hk2, hkl2, rfl, hO2, hK2⟩ := hR2; obtain ⟨va2, vc2, rfl⟩ := hO2.slice
      refine aB rfl ?_; refine yB ?_; refine ze ?_; refine zt (?_)
      have hV : fVal z n (T.drop k) = .ok ((false, [ar2.1], ar2.2), T.drop k2) := by rw [fVal_no hg1, hq2]; rfl
      rw [hV]
      refine zo (v := .bool _) rfl rfl rfl ?_; exact fun w' hw => St.telX (A := []) hw (.tail _ (.head _)) ⟨rfl, k2, _, xs2, W2, rfl, by omega, hkl2, rfl, hO2, Kt.nx (A := []) (x := (x2, _)) hK2 (TL.cells TL.rwc) (.head _) hw, by simp only [List.length_singleton]; omega⟩
  · refine w_call1 0 rfl (fun w => zR Tryz.func61 rfl rfl rfl) rfl rfl (fun w h => by have h9 := ftake_ok [91] rb z (k) (e9) (a9) M tc ta T w (hP.now (.head _) (fun j hj => by rcases List.mem_cons.1 hj with rfl | hj; (exact hM); (rcases List.mem_cons.1 hj with rfl | hj; (exact hMd); (exact absurd hj (by simp)))) h) (h.at_ 0 rfl) (by omega) hM; rw [hg1, if_pos rfl] at h9; exact h9) ?_
    have hlt1 := isG_lt hg1
    refine w_nilc rfl ?_; refine zf fa33_2 rfl ?_; refine w_store 1 rfl z4 rfl rfl rfl rfl rfl rfl rfl ?_; refine yC ?_; refine mP rfl ?_; refine w_nilc rfl ?_; refine zf fa33_2 rfl ?_; refine zl z4 rfl (fun _ h => zc 1 rfl rfl h) ?_; refine w_r (fun _ => R_not rfl) rfl rfl ?_; refine yB ?_; refine c_condF rfl ?_; refine zi ?_; refine zk ?_; refine zq ?_; refine yA ?_; refine mP rfl ?_
    cases hg3 : isG [93] (T.drop (k + 1))
    · refine w_call1 0 rfl (fun w => zR Tryz.func61 rfl rfl rfl) rfl rfl (fun w h => by have h9 := ftake_ok [93] rb z (k + 1) (e9) (a9) M tc ta T w (hP.now (.head _) (fun j hj => by rcases List.mem_cons.1 hj with rfl | hj; (exact hM); (rcases List.mem_cons.1 hj with rfl | hj; (exact hMd); (exact absurd hj (by simp)))) h) (h.at_ 0 rfl) (by omega) hM; rw [hg3, if_neg (by decide)] at h9; exact h9) ?_; refine yB ?_; refine c_condF rfl ?_; refine zi ?_; refine zk ?_; refine zB ?_; refine c_base (fun w1 hw1 => ?_)
      refine c_st (B' := _) (L' := [(rb, Rr ta tc T.length z (k + 1) e9 a9), (db, Dd nm p true true (.slice none ([] : List Rt).length 0))] ++ []) (fun w' h => h) ?_
      refine c_loop (fun m e B L => ∃ (q k' : Nat) (l : List Rt) (wh : Bool) (va : Option Addr) (vc : Nat) (xs : List Value) (W : Heap) (x : Bw), e 0 = .pointer (some ⟨rb, 0, none⟩) ∧ e 1 = .pointer (some ⟨db, 0, none⟩) ∧ B = [x, (w, inL ((rb, Rr ta tc T.length z (k) (e9) (a9)) :: (db, Dd nm p false true (.slice none 0 0)) :: []))] ∧ L = [(rb, Rr ta tc T.length z k' e9 a9), (db, Dd nm p true wh (.slice va l.length vc))] ++ W ∧ k < k' ∧ k' ≤ T.length ∧ fVal z n (T.drop k) = andR (fRow z q l wh (T.drop k')) (fun v r => .ok ((true, v.1, v.2), r)) ∧ Own 46 3 (.slice va l.length vc) xs l.length W ∧ Kt x w.heap.size (Mc 3 rwC) (l.map rwR) xs ∧ l.length ≤ k' ∧ T.length - k' < q ∧ m = T.length - k' + 1) _ ⟨n, k + 1, [], true, none, 0, [], [], _, rfl, rfl, rfl, rfl, by omega, by omega, by rw [fVal_row hg1 (by rw [drop_tl]; exact hg3), drop_tl], Own.nil _ _, Mc.nil, Nat.zero_le _, by omega, rfl⟩ ?_
      rintro m e B L ⟨q, k', l, wh, va, vc, xs, W, x, e0_1, e1_1, rfl, rfl, hkk, hk', hG, hO, hKl, hll, hq, rfl⟩
      obtain ⟨q', rfl⟩ : ∃ q', q = q' + 1 := ⟨q - 1, by omega⟩
      refine zB ?_; refine zq ?_; refine yA ?_; refine mP e0_1 ?_; refine mP e1_1 ?_; refine w_st (B' := _) (L' := [] ++ ((rb, Rr ta tc T.length z (k') (e9) (a9)) :: (db, Dd nm p true wh (.slice va l.length vc)) :: W)) (fun w h => h) ?_
      refine w_callX (A := []) (X := ((rb, Rr ta tc T.length z (k') (e9) (a9)) :: (db, Dd nm p true wh (.slice va l.length vc)) :: W)) (R := NumQ rb db tc z e9 a9 (k') ta T nm p true wh l (fNum z (T.drop (k')))) (s0 := w.heap.size) NumQ.mono (fun w => zR Tryz.func62 rfl rfl rfl) rfl rfl (fun w1 h => (h.fr _ (.tail _ (.head _))).size) (fun w1 h => number_ok rb db z (k') e9 a9 M tc ta T w1 (hP.now (.tail _ (.head _)) (fun j hj => by rcases List.mem_cons.1 hj with rfl | hj; (exact hM); (rcases List.mem_cons.1 hj with rfl | hj; (exact hMd); (exact absurd hj (by simp)))) h) (by omega) hM hMd nm p true wh va vc xs l W hO (hMW_ (.tail _ (.head _)) hM hMd hMs h) (by first | omega | decide) (Nb w.heap.size (w1, inL _)) (fun j hj => hj.2.2) (hKl.now (TL.cells TL.rwc) (.head _) h) (St.part (A := []) h)) (fun u4 X4 x4 hR4 => ?_)
      rcases hq4 : fNum z (T.drop (k')) with fl4 | ⟨ar4, r4⟩
      · rw [hq4] at hR4; obtain ⟨rfl, k4, Y4, hk4, rfl⟩ := hR4
        refine w_r (fun _ => R_not rfl) rfl rfl ?_; refine yB ?_; refine zE rfl ?_; refine yA ?_; refine aB rfl ?_; refine yB ?_; refine ze ?_; refine zt (zb (zt (zb (?_))))
        have hV : fVal z n (T.drop k) = .error fl4 := by rw [hG, fRow_e hq4]; rfl
        rw [hV]
        refine zo (v := .bool _) rfl rfl rfl ?_; exact fun w' hw => St.telX (A := []) hw (.tail _ (.tail _ (.head _))) ⟨rfl, k4, Y4, hk4, rfl⟩
      · rw [hq4] at hR4; obtain ⟨rfl, k4, v4, xs4, W4, rfl, hk4, hkl4, rfl, hO4, hK4⟩ := hR4; obtain ⟨va4, vc4, rfl⟩ := hO4.slice
        refine w_r (fun _ => R_not rfl) rfl rfl ?_; refine yB ?_; refine c_condF rfl ?_; refine zi ?_; refine zk ?_; refine yA ?_; refine mP e0_1 ?_
        cases hg5 : isG [44] (T.drop (k4))
        · refine w_call1 0 rfl (fun w => zR Tryz.func61 rfl rfl rfl) rfl rfl (fun w h => by have h9 := ftake_ok [44] rb z (k4) (e9) (a9) M tc ta T w (hP.now (.tail _ (.tail _ (.head _))) (fun j hj => by rcases List.mem_cons.1 hj with rfl | hj; (exact hM); (rcases List.mem_cons.1 hj with rfl | hj; (exact hMd); (exact absurd hj (by simp)))) h) (h.at_ 0 rfl) (by omega) hM; rw [hg5, if_neg (by decide)] at h9; exact h9) ?_; refine w_r (fun _ => R_not rfl) rfl rfl ?_; refine yB ?_; refine zE rfl ?_; refine yA ?_; refine mP e0_1 ?_
          cases hg6 : isG [93] (T.drop (k4))
          · refine w_call1 0 rfl (fun w => zR Tryz.func25 rfl rfl rfl) rfl rfl (fun w h => by have h9 := fwant_ok [93] rb z (k4) (e9) (a9) M tc ta T w (hP.now (.tail _ (.tail _ (.head _))) (fun j hj => by rcases List.mem_cons.1 hj with rfl | hj; (exact hM); (rcases List.mem_cons.1 hj with rfl | hj; (exact hMd); (exact absurd hj (by simp)))) h) (h.at_ 0 rfl) (by omega) hM; rw [hg6, if_neg (by decide)] at h9; exact h9) ?_; refine aB rfl ?_; refine yB ?_; refine ze ?_; refine zb (zt (zb (?_)))
            have hV : fVal z n (T.drop k) = .error (130, place z (T.drop k4)) := by rw [hG, fRow_f hq4 hg5 hg6]; rfl
            rw [hV]
            refine zo (v := .bool _) rfl rfl rfl ?_; exact fun w' hw => St.telX (A := []) hw (.tail _ (.tail _ (.head _))) ⟨rfl, k4, _, by omega, rfl⟩
          · refine w_call1 0 rfl (fun w => zR Tryz.func25 rfl rfl rfl) rfl rfl (fun w h => by have h9 := fwant_ok [93] rb z (k4) (e9) (a9) M tc ta T w (hP.now (.tail _ (.tail _ (.head _))) (fun j hj => by rcases List.mem_cons.1 hj with rfl | hj; (exact hM); (rcases List.mem_cons.1 hj with rfl | hj; (exact hMd); (exact absurd hj (by simp)))) h) (h.at_ 0 rfl) (by omega) hM; rw [hg6, if_pos rfl] at h9; exact h9) ?_
            have hlt6 := isG_lt hg6
            refine aB rfl ?_; refine yB ?_; refine ze ?_; refine zb (zt (zb (?_)))
            have hV : fVal z n (T.drop k) = .ok ((true, l ++ [ar4.1], wh && ar4.2), (T.drop k4).tail) := by rw [hG, fRow_d hq4 hg5 hg6]; rfl
            rw [hV]
            refine zo (v := .bool _) rfl rfl rfl ?_; exact fun w' hw => St.telX (A := []) hw (.tail _ (.tail _ (.head _))) ⟨rfl, k4 + 1, _, xs4, W4, drop_tl, by omega, by omega, rfl, by rw [List.length_append]; exact hO4, Kt.nx (A := []) (x := (x4, _)) hK4 (TL.cells TL.rwc) (.head _) hw, by rw [List.length_append, List.length_singleton]; omega⟩
        · refine w_call1 0 rfl (fun w => zR Tryz.func61 rfl rfl rfl) rfl rfl (fun w h => by have h9 := ftake_ok [44] rb z (k4) (e9) (a9) M tc ta T w (hP.now (.tail _ (.tail _ (.head _))) (fun j hj => by rcases List.mem_cons.1 hj with rfl | hj; (exact hM); (rcases List.mem_cons.1 hj with rfl | hj; (exact hMd); (exact absurd hj (by simp)))) h) (h.at_ 0 rfl) (by omega) hM; rw [hg5, if_pos rfl] at h9; exact h9) ?_
          have hlt5 := isG_lt hg5
          refine w_r (fun _ => R_not rfl) rfl rfl ?_; refine yB ?_; refine c_condF rfl ?_; refine zi ?_; refine b_on (?_)
          refine k_st (B' := _) (L' := [(rb, Rr ta tc T.length z (k4 + 1) e9 a9), (db, Dd nm p true (wh && ar4.2) (.slice va4 (l ++ [ar4.1]).length vc4))] ++ W4) (fun w' h => by rw [List.length_append, List.length_singleton]; exact h.keep2 (.tail _ (.head _))) ?_; exact k_again _ (by omega) ⟨q', k4 + 1, l ++ [ar4.1], (wh && ar4.2), va4, vc4, xs4, W4, (x4, _), e0_1, e1_1, rfl, rfl, by omega, by omega, by rw [hG, fRow_c hq4 hg5, drop_tl], by rw [List.length_append, List.length_singleton]; exact hO4, hK4, by rw [List.length_append, List.length_singleton]; omega, by omega, rfl⟩
    · refine w_call1 0 rfl (fun w => zR Tryz.func61 rfl rfl rfl) rfl rfl (fun w h => by have h9 := ftake_ok [93] rb z (k + 1) (e9) (a9) M tc ta T w (hP.now (.head _) (fun j hj => by rcases List.mem_cons.1 hj with rfl | hj; (exact hM); (rcases List.mem_cons.1 hj with rfl | hj; (exact hMd); (exact absurd hj (by simp)))) h) (h.at_ 0 rfl) (by omega) hM; rw [hg3, if_pos rfl] at h9; exact h9) ?_
      have hlt3 := isG_lt hg3
      refine yB ?_; refine zE rfl ?_; refine yA ?_; refine aB rfl ?_; refine yB ?_; refine ze ?_; refine zt (?_)
      have hV : fVal z n (T.drop k) = .ok ((true, [], true), (T.drop (k + 1)).tail) := by rw [fVal_nil hg1 (by rw [drop_tl]; exact hg3), drop_tl]
      rw [hV]
      refine zo (v := .bool _) rfl rfl rfl ?_; exact fun w' hw => St.telX (A := []) hw (.head _) ⟨rfl, k + 1 + 1, _, [], [], drop_tl, by omega, by omega, rfl, Own.nil _ _, Mc.nil, Nat.zero_le _⟩
end Go.Proofs.YtikdkendinnalaaGreatDoor
end
section
/- Maps that are written, worlds to look back at with fewer blocks in hand, calls that write the first blocks in hand. -/
namespace Go.Sx
open Go.RowKit
section
variable {P : Program} {ops : Array Oper} {Q : Exit → Act → World → Prop} {c : Cf} {e : Env} {B : Base} {L : Heap} {rest : List Oper} {v : Value} {d : Nat} {q : Md} {x y z : Operand} {T : TypeId} {p : String} {a : Array Edge}
/-- maps by text -/
theorem w_updS (i : Nat) {b : Nat} {s : List UInt8} {l : List (List UInt8 × Value)} {t te : TypeId} {tk : TypeId} (hi : L[i]? = some (b, mpS l)) (ht : P.underlying t = some (.map tk te)) (hk : P.underlying tk = some .string) (hx : ev c.n e x = .map (some b)) (hy : ev c.n e y = str s) (hz : ev c.n e z = v) (hn : (l.lookup s).isNone = true)
    (h : WX .sq P ops c Q rest e B (L.set i (b, mpS (l ++ [(s, v)])))) : WX .sq P ops c Q (⟨none, .mapUpdate t x y z, T, p, a, none⟩ :: rest) e B L := by
  unfold WX at *
  intro w hw
  have hb := hw.at_ i hi
  unfold mpS at hb
  obtain ⟨r, h1, h2⟩ := find_strs s l 0 0
  have hr : r = none := by
    rw [Option.isNone_iff_eq_none.1 hn] at h2
    cases r with
    | none => rfl
    | some r => simp at h2
  subst hr
  have hck : ∀ (em : Bool) (w : World), (Instr.checkKey em 10000 tk (str s)).run P w = .ok () w := fun em w => MapKept.run_checkKey (d := .string) hk (show MapKept.IsKey .string (str s) from True.intro) em 9999
  have hr : (Instr.mapUpdate t (.map (some b)) (str s) v).run P w = .ok () (w.putObj b (mpS (l ++ [(s, v)]))) := by
    simp [Instr.mapUpdate, run_underlying ht, MapKept.run_getObj_map hb, hck, MapKept.run_findKey hk h1, MapKept.run_setObj_map _ hb, Result.andThen, World.putObj, mpS, entsF_snoc]
  refine s_unit (w' := w.putObj b (mpS (l ++ [(s, v)]))) ?_ rfl rfl (h _ (hw.putO i hi))
  simp only [RunU, execOp, hx, hy, hz, Sem.run_bind, hr, Result.andThen]
  rfl
theorem w_makeMapS (h : ∀ b, (∀ x ∈ L, x.1 < b) → (∀ x ∈ B, x.1.heap.size ≤ b) → WX .sq P ops c Q rest (upd e d (.map (some b))) B ((b, mpS []) :: L)) {t : TypeId} : WX .sq P ops c Q (⟨some d, .makeMap t none, T, p, a, none⟩ :: rest) e B L := by
  unfold WX at *
  exact fun w hw => s_run R_makeMap rfl rfl (by
    have := h w.heap.size (fun p hp => lt_of_blk (hw.own p hp)) (fun x hx => (hw.fr x hx).size)
    exact this _ hw.new)
end
theorem k_join {Q : Exit → Act → World → Prop} {c : Cf} {e : Env} {x : Exit} {B B0 : Base} {L L' : Heap} (hL : L'.Sublist L) (hB : ∀ x ∈ B0, x ∈ B) (h : ∀ w, St B L w → WK c Q x e ((w, inL L') :: B0) L') : WK c Q x e B L := by
  unfold WK at *
  exact fun w hw => h w hw w ((hw.drop hL).unbase hB).base1
theorem c_join {P : Program} {Q : Exit → Act → World → Prop} {c : Cf} {e : Env} {x : Code} {B B0 : Base} {L L' : Heap} (hL : L'.Sublist L) (hB : ∀ x ∈ B0, x ∈ B) (h : ∀ w, St B L w → WC P c x Q e ((w, inL L') :: B0) L') : WC P c x Q e B L := by
  unfold WC at *
  exact fun w hw => h w hw w ((hw.drop hL).unbase hB).base1
section
variable {P : Program} {ops : Array Oper} {Q : Exit → Act → World → Prop} {c : Cf} {e : Env} {rest : List Oper} {o : Oper} {d : Nat} {B : Base} {A X : Heap} {f : FuncId} {args : Array Value}
theorem inL_comm {A X : Heap} (j : Nat) : inL (A ++ X) j ↔ inL (X ++ A) j := by
  unfold inL
  rw [List.map_append, List.map_append, List.mem_append, List.mem_append]
  exact or_comm
/-- a call that writes the first blocks in hand -/
theorem w_callXh {R : Value → Heap → (Nat → Prop) → World → Prop} {s0 : Nat} (hm : ∀ v X' N N' w, R v X' N w → (∀ j, N j → N' j) → R v X' N' w) (hr : ∀ w, RunE P o (ev c.n e) w f args) (hg : plainB o = true) (hd : o.dst = some d) (hs : ∀ w, St B (X ++ A) w → s0 ≤ w.heap.size)
    (hc : ∀ w, St B (X ++ A) w → ∀ N, Ret P f args w (TelX X R N w))
    (h : ∀ v X' (x1 : Bw), R v X' (Nb s0 x1) x1.1 → WX .sq P ops c Q rest (upd e d v) (x1 :: B) (X' ++ A)) : WX .sq P ops c Q (o :: rest) e B (X ++ A) :=
  w_callR hr hg hd (fun w hw => hc w hw (Nb s0 (w, inL (A ++ X)))) fun w hw v w' ⟨X', h1, h2, h3, h4⟩ =>
    ⟨_, _, (((hw.perm List.perm_append_comm).modX h2 h3 h4).perm List.perm_append_comm).base1, h v X' (w', inL (X' ++ A)) (hm _ _ _ _ _ h1 fun j hj => by
      obtain ⟨q1, q2, q3⟩ := Nx.nb (s0 := s0) (hw.perm List.perm_append_comm) h2 h3 (hs w hw) j hj
      exact ⟨q1, q2, fun hh => q3 ((inL_comm j).2 hh)⟩)⟩
end
end Go.Sx
end
section
/- The plain part of layer feed: the tokens of what is written. -/
namespace Go.Feed
open Go.Tok Go.Tree Go.Prs Go.Num Go.Lib
/-- the tokens of s from place i on, to its end -/
inductive ChE (s : Str) : Nat → List Tk → Prop
  | nil {i : Nat} : i ≤ s.length → skipTo s i = s.length → ChE s i []
  | cons {i e kd : Nat} {ts : List Tk} : i ≤ s.length → skipTo s i < s.length → tokAt s (skipTo s i) = (kd, e, true) → ChE s e ts → ChE s i ((kd, tokTx s (skipTo s i), skipTo s i) :: ts)
/-- a text whose tokens are these, wherever it stands -/
def CT (v : Str) (ks : List (Nat × Str)) : Prop := ∀ u : Str, ∃ ts, ChE (u ++ v) u.length ts ∧ ts.map (fun t => (t.1, t.2.1)) = ks
theorem CT.nil : CT [] [] := fun u => ⟨[], .nil (by simp) (by
  have := skip_sh (u := u) (v := []) 0
  rw [Nat.add_zero] at this
  rw [this, List.append_nil]
  have : skipTo ([] : Str) 0 = 0 := by decide
  omega), rfl⟩
theorem CT.cons {t R : Str} {kd : Nat} {ks : List (Nat × Str)} (h1 : tokAt (t ++ R) 0 = (kd, t.length, true)) (h2 : t ≠ []) (h3 : skipTo (t ++ R) 0 = 0) (h : CT R ks) : CT (t ++ R) ((kd, t) :: ks) := fun u => by
  obtain ⟨ts, e1, e2⟩ := h (u ++ t)
  have k1 := skip_sh (u := u) (v := t ++ R) 0
  have k2 := tok_sh (u := u) (v := t ++ R) 0
  have k3 := tx_sh (u := u) (v := t ++ R) 0
  rw [Nat.add_zero, h3, Nat.add_zero] at k1
  rw [Nat.add_zero, h1] at k2
  have k4 : tokTx (t ++ R) 0 = t := by unfold tokTx; rw [h1]; simp
  rw [Nat.add_zero, k4] at k3
  have hl : 0 < t.length := by cases t with | nil => exact absurd rfl h2 | cons => simp
  rw [List.append_assoc, List.length_append] at e1
  refine ⟨(kd, tokTx (u ++ (t ++ R)) (skipTo (u ++ (t ++ R)) u.length), skipTo (u ++ (t ++ R)) u.length) :: ts, .cons (by simp) (by rw [k1]; simp; omega) (by rw [k1]; exact k2) e1, ?_⟩
  rw [List.map_cons, k1, k3, e2]
/-! the tokens of numbers, of data -/
def numK (x : Int) : List (Nat × Str) := if x < 0 then [(3, [45]), (2, decDigits x.natAbs)] else [(2, decDigits x.natAbs)]
def rowK : List Int → List (Nat × Str)
  | [] => []
  | [x] => numK x
  | x :: y :: l => numK x ++ (3, [44]) :: rowK (y :: l)
def datK (d : Di) : List (Nat × Str) := (1, d.nm) :: (3, [61]) :: ((if d.list = true then (3, [91]) :: (rowK (d.nums.map fun x => x.r.1) ++ [(3, [93])]) else rowK (d.nums.map fun x => x.r.1)) ++ [(3, [59])])
end Go.Feed
end
section
/- The plain part of layer feed: what is written is read back. -/
namespace Go.Feed
open Go.Tok Go.Tree Go.Prs Go.Num Go.Lib
def shp (ts : List Tk) : List (Nat × Str) := ts.map (fun t => (t.1, t.2.1))
theorem shp_cons {ts : List Tk} {k : Nat} {t : Str} {ks : List (Nat × Str)} (h : shp ts = (k, t) :: ks) : ∃ a ts', ts = (k, t, a) :: ts' ∧ shp ts' = ks := by
  cases ts with
  | nil => cases h
  | cons y l =>
    unfold shp at h
    rw [List.map_cons] at h
    injection h with h1 h2
    obtain ⟨y1, y2, y3⟩ := y
    simp only [Prod.mk.injEq] at h1
    obtain ⟨rfl, rfl⟩ := h1
    exact ⟨y3, l, rfl, h2⟩
theorem isG_head {t : Str} {a : Nat} {ts : List Tk} (c : Str) : isG c ((3, t, a) :: ts) = decide (t = c) := by unfold isG; simp
/-- data that were read tell those that were written, but for places -/
def Back (e : Dt) (d : Di) : Prop := e.nm = d.nm ∧ e.list = d.list ∧ e.whole = true ∧ e.nums = d.nums.map (fun x => (x.r.1, 1))
inductive Backs : List Dt → List Di → Prop
  | nil : Backs [] []
  | cons {e : Dt} {d : Di} {es : List Dt} {l : List Di} : Back e d → Backs es l → Backs (e :: es) (d :: l)
theorem wantG_yes {β : Type} {z a : Nat} {c : Str} {ts : List Tk} {f : List Tk → Except Fl β} : wantG z c ((3, c, a) :: ts) f = f ts := by
  unfold wantG; rw [isG_head, if_pos (by simp)]; rfl
theorem any_names (out : List Dt) (nm : Str) : out.any (fun e => decide (e.nm = nm)) = (out.map Dt.nm).contains nm := by
  rw [Bool.eq_iff_iff, List.any_eq_true, List.contains_iff_mem, List.mem_map]
  constructor
  · rintro ⟨e, he, h⟩; exact ⟨e, he, of_decide_eq_true h⟩
  · rintro ⟨e, he, h⟩; exact ⟨e, he, decide_eq_true h⟩
/-- what a statement looks at -/
def smallD (l : List Di) : Prop := l.length ≤ 12 ∧ ∀ d ∈ l, d.nm.length ≤ 200 ∧ d.nums.length ≤ 20 ∧ ∀ x ∈ d.nums, x.n < B ^ 3
end Go.Feed
end
section
/- The plain part of layer token: the tokens of a text with blanks between them. -/
end
section
/- The plain part of layer token: the tokens of a text with blanks between them. -/
namespace Go.Tok
def Jn (ts : List Tk) : List UInt8 := ts.flatMap fun t => 32 :: t.2.1
def kt (t : Tk) : Nat × List UInt8 := (t.1, t.2.1)
def Good (t : Tk) : Prop := ∃ s k e, k ≤ s.length ∧ tokAt s k = (t.1, e, true) ∧ t.2.1 = (s.drop k).take (e - k)
end Go.Tok
end
section
/- The plain part of layer token: what TokenRises asks. -/
namespace Go.Tok
theorem readP_chain {s : List UInt8} (hs : s.length ≤ 20000) (h : (readP s).2.1 = 0) : Chain s 0 (readP s).1 := by
  by_cases h2 : (readS s).2.1 = 0
  · rw [readP_fine (by omega) h2]; exact chain_read h2
  · rw [readP_bad (by omega) h2] at h; exact absurd h h2
end Go.Tok
end
section
/- The plain part of layer token: the tokens of a source's beginning. -/
namespace Go.Tok
theorem at_tk (p : UInt8 → Bool) (s : List UInt8) (j i : Nat) : atP p (s.take j) i = (decide (i < j) && atP p s i) := by
  by_cases h : i < j
  · rw [atP_take h, decide_eq_true h, Bool.true_and]
  · rw [atP_take_out (by omega), decide_eq_false h, Bool.false_and]
theorem at_tk_no {p : UInt8 → Bool} {s : List UInt8} {j i : Nat} (h : atP p s i = false) : atP p (s.take j) i = false := by rw [at_tk, h, Bool.and_false]
theorem run_tk {p : UInt8 → Bool} {s : List UInt8} {j i : Nat} (hi : i ≤ j) (h : runTo p s i ≤ j) : runTo p (s.take j) i = runTo p s i := runTo_take _ i rfl hi h
theorem dot_tk {s : List UInt8} {j i : Nat} (hi : i ≤ j) (h : numDot s i ≤ j) : numDot (s.take j) i = numDot s i := by
  by_cases c : (atP (eqB 46) s i && atP digitB s (i + 1)) = true
  · have hs : numDot s i = runTo digitB s (i + 1) := by unfold numDot; rw [if_pos c]
    rw [hs] at h ⊢
    simp only [Bool.and_eq_true] at c
    have h1 := runTo_step c.2
    have h2 := runTo_ge digitB s (i + 1 + 1)
    unfold numDot
    rw [at_tk, at_tk, c.1, c.2, decide_eq_true (by omega), decide_eq_true (by omega), run_tk (by omega) (by omega)]; rfl
  · have hs : numDot s i = i := by unfold numDot; rw [if_neg c]
    rw [hs]
    unfold numDot
    rw [if_neg]
    rw [at_tk, at_tk]
    intro hc
    simp only [Bool.and_eq_true] at hc c
    exact c ⟨hc.1.2, hc.2.2⟩
theorem tens_tk {s : List UInt8} {j i : Nat} (hi : i ≤ j) (h : (numTens s i).2 ≤ j) : numTens (s.take j) i = numTens s i := by
  by_cases c1 : (atP (eqB 101) s i && atP digitB s (i + 1)) = true
  · have hs : numTens s i = (runTo digitB s (i + 1) - (i + 1), runTo digitB s (i + 1)) := by unfold numTens; rw [if_pos c1]
    rw [hs] at h ⊢
    simp only at h
    simp only [Bool.and_eq_true] at c1
    have h1 := runTo_step c1.2
    have h2 := runTo_ge digitB s (i + 1 + 1)
    unfold numTens
    rw [at_tk (eqB 101), at_tk digitB s j (i + 1), c1.1, c1.2, decide_eq_true (show i < j by omega), decide_eq_true (show i + 1 < j by omega), run_tk (i := i + 1) (by omega) (by omega)]; rfl
  · have c1' : ¬ (atP (eqB 101) (s.take j) i && atP digitB (s.take j) (i + 1)) = true := by
      rw [at_tk, at_tk]
      intro hc
      simp only [Bool.and_eq_true] at hc c1
      exact c1 ⟨hc.1.2, hc.2.2⟩
    by_cases c2 : (atP (eqB 101) s i && (atP pmB s (i + 1) && atP digitB s (i + 2))) = true
    · have hs : numTens s i = (runTo digitB s (i + 2) - (i + 2), runTo digitB s (i + 2)) := by unfold numTens; rw [if_neg c1, if_pos c2]
      rw [hs] at h ⊢
      simp only at h
      simp only [Bool.and_eq_true] at c2
      have h1 := runTo_step c2.2.2
      have h2 := runTo_ge digitB s (i + 2 + 1)
      unfold numTens
      rw [if_neg c1', if_pos (by rw [at_tk, at_tk, at_tk, c2.1, c2.2.1, c2.2.2, decide_eq_true (show i < j by omega), decide_eq_true (show i + 1 < j by omega), decide_eq_true (show i + 2 < j by omega)]; rfl), run_tk (i := i + 2) (by omega) (by omega)]
    · have hs : numTens s i = (0, i) := by unfold numTens; rw [if_neg c1, if_neg c2]
      rw [hs]
      unfold numTens
      rw [if_neg c1', if_neg]
      rw [at_tk, at_tk, at_tk]
      intro hc
      simp only [Bool.and_eq_true] at hc c2
      exact c2 ⟨hc.1.2, hc.2.1.2, hc.2.2.2⟩
theorem num_tk {s : List UInt8} {j k : Nat} (hk : k ≤ j) (hj : j ≤ s.length) (h : numEnd s k ≤ j) (hf : numFine s k = true) : numEnd (s.take j) k = numEnd s k ∧ numFine (s.take j) k = true := by
  have h1 := runTo_le (p := digitB) (s := s) (i := k) (by omega)
  have h2 := numDot_le h1
  have h3 := numTens_le h2.1
  have g1 := runTo_ge digitB s k
  unfold numEnd at h
  have e1 := run_tk (p := digitB) (s := s) hk (by omega)
  have e2 := dot_tk (s := s) (j := j) (i := runTo digitB s k) (by omega) (by omega)
  have e3 := tens_tk (s := s) (j := j) (i := numDot s (runTo digitB s k)) (by omega) h
  have hE : numEnd (s.take j) k = numEnd s k := by unfold numEnd; rw [e1, e2, e3]
  refine ⟨hE, ?_⟩
  unfold numFine at hf ⊢
  rw [hE, e1, e2, e3]
  simp only [Bool.and_eq_true, Bool.not_eq_true'] at hf ⊢
  exact ⟨hf.1, at_tk_no hf.2⟩
theorem sign_tk {s t : List UInt8} {j k : Nat} (h : signOf s k = some t) (hj : k + t.length ≤ j) : signOf (s.take j) k = some t := by
  unfold signOf at h ⊢
  have hd : (s.take j).drop k = (s.drop k).take (j - k) := List.drop_take
  obtain ⟨h1, us1, us2, h2, h3⟩ := List.find?_eq_some_iff_append.1 h
  refine List.find?_eq_some_iff_append.2 ⟨?_, us1, us2, h2, fun a ha => ?_⟩
  · rw [hd, List.isPrefixOf_iff_prefix]
    rw [List.isPrefixOf_iff_prefix] at h1
    exact List.prefix_take_iff.2 ⟨h1, by omega⟩
  · have := h3 a ha
    simp only [Bool.not_eq_true'] at this ⊢
    cases hp : a.isPrefixOf ((s.take j).drop k) with
    | false => rfl
    | true =>
      rw [hd, List.isPrefixOf_iff_prefix] at hp
      have h4 := (List.prefix_take_iff.1 hp).1
      rw [← List.isPrefixOf_iff_prefix] at h4
      rw [h4] at this; cases this
theorem tok_tk {s : List UInt8} {j k e kd : Nat} (hj : j ≤ s.length) (hk : k < e) (he : e ≤ j) (h : tokAt s k = (kd, e, true)) : tokAt (s.take j) k = (kd, e, true) := by
  have zn : nameB (s.take j) k = nameB s k := by unfold nameB; rw [at_tk, at_tk, decide_eq_true (by omega), Bool.true_and, Bool.true_and]
  unfold tokAt at h ⊢
  rw [zn, at_tk, decide_eq_true (by omega), Bool.true_and]
  split at h
  · rename_i hn
    simp only [Prod.mk.injEq, and_true] at h
    rw [if_pos hn, run_tk (by omega) (by omega), h.1, h.2]
  · rename_i hn
    rw [if_neg hn]
    split at h
    · rename_i hd
      simp only [Prod.mk.injEq] at h
      obtain ⟨e1, e2⟩ := num_tk (s := s) (j := j) (k := k) (by omega) hj (by omega) h.2.2
      rw [if_pos hd, e1, e2, h.1, h.2.1]
    · rename_i hd
      rw [if_neg hd]
      split at h
      · simp at h
      · rename_i hs
        simp only [Prod.mk.injEq, and_true] at h
        cases ho : signOf s k with
        | none => exact absurd (by simp [signLen, ho]) hs
        | some t =>
          have hL : signLen s k = t.length := by simp [signLen, ho]
          have hL2 : signLen (s.take j) k = t.length := by simp [signLen, sign_tk ho (j := j) (by omega)]
          rw [hL2, if_neg (by omega), h.1]
          simp only [Prod.mk.injEq, and_true, true_and]; omega
theorem skip_tk {s : List UInt8} {j : Nat} (hj : j ≤ s.length) : ∀ (m i k : Nat), m = s.length - i → i ≤ j → skipTo s i = k → k < j → skipTo (s.take j) i = k := by
  intro m
  induction m using Nat.strongRecOn with
  | _ m ih =>
    intro i k hm hi h hk
    have hlen : (s.take j).length = j := by rw [List.length_take]; omega
    rw [skipTo_eq (by omega)] at h
    rw [skipTo_eq (by omega)]
    have g1 := runTo_ge blankB s i
    by_cases hc : cmt s (runTo blankB s i) = true
    · rw [if_pos hc] at h
      have g2 := cmt_run hc
      have g3 := (skipTo_le (s := s) (i := runTo notNl s (runTo blankB s i)) (runTo_le (runTo_le (by omega)))).2
      have hr : runTo blankB (s.take j) i = runTo blankB s i := run_tk hi (by omega)
      have hc2 : cmt (s.take j) (runTo blankB s i) = true := by
        unfold cmt at hc ⊢
        simp only [Bool.and_eq_true] at hc
        rw [at_tk, at_tk, hc.1, hc.2, decide_eq_true (by omega), decide_eq_true (by omega)]; rfl
      rw [hr, if_pos hc2, run_tk (by omega) (by omega)]
      exact ih _ (by have := runTo_le (p := blankB) (s := s) (i := i) (by omega); have := runTo_le (p := notNl) (s := s) (i := runTo blankB s i) this; omega) _ k rfl (by omega) h hk
    · rw [if_neg hc] at h
      have hr : runTo blankB (s.take j) i = runTo blankB s i := run_tk hi (by omega)
      have hc2 : ¬ cmt (s.take j) (runTo blankB s i) = true := by
        unfold cmt at hc ⊢
        rw [at_tk, at_tk]
        intro hq
        simp only [Bool.and_eq_true] at hq hc
        exact hc ⟨hq.1.2, hq.2.2⟩
      rw [hr, if_neg hc2, h]
theorem chain_ge {s : List UInt8} : ∀ {A : List Tk} {i : Nat} {t : Tk} {B : List Tk}, Chain s i (A ++ t :: B) → i ≤ t.2.2
  | [], i, t, B, h => by
    cases h with
    | cons hi hl htk hr => exact (skipTo_le hi).2
  | a :: A, i, t, B, h => by
    cases h with
    | @cons _ e kd _ hi hl htk hr =>
      have h1 := skipTo_le hi
      have h2 := tok_le h1.1
      rw [htk] at h2
      simp only at h2
      have h3 := h2.2.2 trivial
      have := chain_ge hr
      omega
theorem lex_tk {s : List UInt8} {t : Tk} {B : List Tk} (hj : t.2.2 ≤ s.length) : ∀ (A : List Tk) (i : Nat) (x : Rd), Chain s i (A ++ t :: B) → x.2 = (0, 0) → x.1.length + A.length ≤ 6000 →
    lexS readN (s.take t.2.2) (skipTo (s.take t.2.2) i) x = (x.1 ++ A, 0, 0)
  | [], i, x, h, h0, _ => by
    cases h with
    | @cons _ e kd _ hi hl htk hr =>
      have h1 := skipTo_le hi
      have hs := skip_take (s := s) (j := skipTo s i) h1.1 _ i rfl h1.2 rfl
      show lexS readN (s.take (skipTo s i)) (skipTo (s.take (skipTo s i)) i) x = _
      rw [hs, lexS_stop readN (by rw [List.length_take]; omega), List.append_nil, ← h0]
  | a :: A, i, x, h, h0, hn => by
    have hlen : (s.take t.2.2).length = t.2.2 := by rw [List.length_take]; omega
    cases h with
    | @cons _ e kd _ hi hl htk hr =>
      have h1 := skipTo_le hi
      have h2 := tok_le h1.1
      rw [htk] at h2
      simp only at h2
      have h3 := h2.2.2 trivial
      have h4 := chain_ge hr
      have hsk := skip_tk hj _ i _ rfl (by omega) rfl (by omega : skipTo s i < t.2.2)
      have htok := tok_tk hj h3 h4 htk
      have htx : tokTx (s.take t.2.2) (skipTo s i) = tokTx s (skipTo s i) := by
        unfold tokTx
        rw [htok, htk]
        simp only
        rw [List.drop_take, List.take_take, Nat.min_eq_left (by omega)]
      have hN : readN x (tokAt (s.take t.2.2) (skipTo s i)).1 (tokTx (s.take t.2.2) (skipTo s i)) (skipTo s i) (tokAt (s.take t.2.2) (skipTo s i)).2.2 = ((x.1 ++ [(kd, tokTx s (skipTo s i), skipTo s i)], x.2), true) := by
        rw [htok, htx]
        simp only
        rw [readN, if_neg (by simp), if_neg (by simp at hn; omega)]
      rw [hsk, lexS_go readN readN_no (by omega) (by rw [hN]), hN, htok]
      simp only
      rw [lex_tk hj A e (x.1 ++ [(kd, tokTx s (skipTo s i), skipTo s i)], x.2) hr h0 (by simp at hn ⊢; omega)]
      simp
theorem readP_tk {s : List UInt8} {A B : List Tk} {t : Tk} (hs : s.length ≤ 20000) (h : (readP s).2.1 = 0) (hT : (readP s).1 = A ++ t :: B) : readP (s.take t.2.2) = (A, 0, 0) := by
  have hc := readP_chain hs h
  rw [hT] at hc
  have hj : t.2.2 ≤ s.length := (readP_at s).1 t (by rw [hT]; simp)
  have hl := readP_len s
  rw [hT] at hl
  have e1 : readS (s.take t.2.2) = (A, 0, 0) := by
    have := lex_tk (B := B) hj A 0 ([], 0, 0) hc rfl (by simp at hl ⊢; omega)
    simpa [readS] using this
  rw [readP_fine (by rw [List.length_take]; omega) (by rw [e1]), e1]
end Go.Tok
end
section
/- The plain part of layer feed: data read piece by piece; texts cut, texts one behind the other. -/
namespace Go.Feed
open Go.Tok Go.Tree Go.Prs Go.Num Go.Lib
theorem shp_app {ts : List Tk} {k l : List (Nat × Str)} (h : shp ts = k ++ l) : ∃ a b, ts = a ++ b ∧ shp a = k ∧ shp b = l := by
  unfold shp at h
  obtain ⟨a, b, h1, h2, h3⟩ := List.map_eq_append_iff.1 h
  exact ⟨a, b, h1, h2, h3⟩
theorem shp_append (a b : List Tk) : shp (a ++ b) = shp a ++ shp b := by unfold shp; rw [List.map_append]
theorem shp_len {a b : List Tk} (h : shp a = shp b) : a.length = b.length := by
  have := congrArg List.length h
  unfold shp at this
  rwa [List.length_map, List.length_map] at this
theorem isG_yes {x : Str} {ts : List Tk} (h : isG x ts = true) : ∃ a r, ts = (3, x, a) :: r := by
  cases ts with
  | nil => cases h
  | cons t r =>
    obtain ⟨t1, t2, t3⟩ := t
    unfold isG at h
    simp only [Bool.and_eq_true, decide_eq_true_eq] at h
    obtain ⟨rfl, rfl⟩ := h
    exact ⟨t3, r, rfl⟩
theorem isG_shp {x : Str} {c c' R R' : List Tk} (h : shp c' = shp c) (hc : c ≠ []) : isG x (c' ++ R) = isG x (c ++ R') := by
  cases c with
  | nil => exact absurd rfl hc
  | cons t c =>
    obtain ⟨t1, t2, t3⟩ := t
    obtain ⟨a, c2, rfl, _⟩ := shp_cons (h.trans (show shp ((t1, t2, t3) :: c) = (t1, t2) :: shp c from rfl))
    rfl
theorem wantG_cut {β : Type} {z : Nat} {x : Str} {ts : List Tk} {f : List Tk → Except Fl β} {y : β} (h : wantG z x ts f = .ok y) : ∃ a r, ts = (3, x, a) :: r ∧ f r = .ok y := by
  unfold wantG at h
  split at h
  · rename_i hx
    obtain ⟨a, r, rfl⟩ := isG_yes hx
    exact ⟨a, r, rfl, h⟩
  · cases h
theorem andR_cut {α β : Type} {x : Rs α} {f : α → List Tk → Except Fl β} {y : β} (h : andR x f = .ok y) : ∃ a r, x = .ok (a, r) ∧ f a r = .ok y := by
  cases x with
  | error e => cases h
  | ok p => exact ⟨p.1, p.2, rfl, h⟩
theorem fTok_cut {z : Nat} {neg : Bool} {ts r : List Tk} {a : Rt × Bool} (h : fTok z neg ts = .ok (a, r)) : ∃ tx p, ts = (2, tx, p) :: r ∧ ∀ z' p' R, fTok z' neg ((2, tx, p') :: R) = .ok (a, R) := by
  unfold fTok at h
  split at h
  · rename_i h2
    split at h
    · cases h
    · rename_i h4
      cases ts with
      | nil => cases h2
      | cons t tl =>
        obtain ⟨t1, t2, t3⟩ := t
        simp only [nowT] at h2 h4 h
        subst h2
        simp only [Except.ok.injEq, Prod.mk.injEq, List.tail_cons] at h
        obtain ⟨h, rfl⟩ := h
        refine ⟨t2, t3, rfl, fun z' p' R => ?_⟩
        unfold fTok nowT
        simp only [if_true]
        rw [if_neg h4, h]; rfl
  · cases h
def Cut {α : Type} (f : Nat → List Tk → Rs α) (a : α) (c : List Tk) : Prop := c ≠ [] ∧ ∀ z' c' R, shp c' = shp c → f z' (c' ++ R) = .ok (a, R)
theorem fNum_cut {z : Nat} {ts r : List Tk} {a : Rt × Bool} (h : fNum z ts = .ok (a, r)) : ∃ c, ts = c ++ r ∧ Cut fNum a c := by
  unfold fNum at h
  split at h
  · rename_i hx
    obtain ⟨p, tl, rfl⟩ := isG_yes hx
    obtain ⟨tx, p2, h1, h2⟩ := fTok_cut h
    rw [List.tail_cons] at h1
    subst h1
    refine ⟨[(3, [45], p), (2, tx, p2)], rfl, by simp, fun z' c' R hc => ?_⟩
    obtain ⟨q, c1, rfl, hc1⟩ := shp_cons (k := 3) (t := [45]) (ks := [(2, tx)]) hc
    obtain ⟨q2, c2, rfl, hc2⟩ := shp_cons (ks := []) hc1
    have : c2 = [] := by simpa [shp] using hc2
    subst this
    unfold fNum
    rw [List.cons_append, isG_head, if_pos (by decide), List.tail_cons]
    exact h2 z' q2 R
  · obtain ⟨tx, p2, rfl, h2⟩ := fTok_cut h
    refine ⟨[(2, tx, p2)], rfl, by simp, fun z' c' R hc => ?_⟩
    obtain ⟨q2, c2, rfl, hc2⟩ := shp_cons (k := 2) (t := tx) (ks := []) hc
    have : c2 = [] := by simpa [shp] using hc2
    subst this
    unfold fNum
    rw [if_neg (by unfold isG; simp)]
    exact h2 z' q2 R
theorem fRow_cut : ∀ (n z : Nat) (l : List Rt) (b : Bool) (ts : List Tk) (v : List Rt × Bool) (r : List Tk), fRow z n l b ts = .ok (v, r) → ∃ c, ts = c ++ r ∧ c ≠ [] ∧ ∀ z' n' c' R, shp c' = shp c → c.length ≤ n' → fRow z' n' l b (c' ++ R) = .ok (v, R)
  | 0, _, _, _, _, _, _, h => by cases h
  | n + 1, z, l, b, ts, v, r, h => by
    rw [fRow] at h
    obtain ⟨a, r1, e1, g⟩ := andR_cut h
    clear h
    obtain ⟨c1, rfl, k0, k1⟩ := fNum_cut e1
    split at g
    · rename_i hx
      obtain ⟨p, r2, rfl⟩ := isG_yes hx
      rw [List.tail_cons] at g
      obtain ⟨c2, rfl, k2, k3⟩ := fRow_cut n z _ _ _ _ _ g
      refine ⟨c1 ++ (3, [44], p) :: c2, by simp, by simp, fun z' n' c' R hc hn => ?_⟩
      rw [shp_append] at hc
      obtain ⟨x1, x2, rfl, hx1, hx2⟩ := shp_app hc
      obtain ⟨q, x3, rfl, hx3⟩ := shp_cons (k := 3) (t := [44]) (ks := shp c2) hx2
      have hl1 : 0 < c1.length := by cases c1 with | nil => exact absurd rfl k0 | cons => simp
      rw [List.length_append, List.length_cons] at hn
      obtain ⟨m, rfl⟩ : ∃ m, n' = m + 1 := ⟨n' - 1, by omega⟩
      rw [fRow, List.append_assoc, k1 z' x1 _ hx1, andR_ok, List.cons_append, isG_head, if_pos (by decide), List.tail_cons]
      exact k3 z' m x3 R hx3 (by omega)
    · obtain ⟨p, r2, rfl, g2⟩ := wantG_cut g
      clear g
      simp only [Except.ok.injEq, Prod.mk.injEq] at g2
      obtain ⟨g, rfl⟩ := g2
      refine ⟨c1 ++ [(3, [93], p)], by simp, by simp, fun z' n' c' R hc hn => ?_⟩
      rw [shp_append] at hc
      obtain ⟨x1, x2, rfl, hx1, hx2⟩ := shp_app hc
      obtain ⟨q, x3, rfl, hx3⟩ := shp_cons (k := 3) (t := [93]) (ks := []) hx2
      have : x3 = [] := by simpa [shp] using hx3
      subst this
      rw [List.length_append, List.length_singleton] at hn
      obtain ⟨m, rfl⟩ : ∃ m, n' = m + 1 := ⟨n' - 1, by omega⟩
      rw [fRow, List.append_assoc, k1 z' x1 _ hx1, andR_ok, List.cons_append, isG_head, if_neg (by decide), wantG_yes, List.nil_append, g]
theorem fVal_cut {n z : Nat} {ts r : List Tk} {v : Bool × List Rt × Bool} (h : fVal z n ts = .ok (v, r)) : ∃ c, ts = c ++ r ∧ c ≠ [] ∧ ∀ z' n' c' R, shp c' = shp c → c.length ≤ n' → fVal z' n' (c' ++ R) = .ok (v, R) := by
  unfold fVal at h
  split at h
  · rename_i hx
    obtain ⟨p, t1, rfl⟩ := isG_yes hx
    rw [List.tail_cons] at h
    split at h
    · rename_i hy
      obtain ⟨p2, t2, rfl⟩ := isG_yes hy
      rw [List.tail_cons] at h
      simp only [Except.ok.injEq, Prod.mk.injEq] at h
      obtain ⟨h, rfl⟩ := h
      refine ⟨[(3, [91], p), (3, [93], p2)], rfl, by simp, fun z' n' c' R hc hn => ?_⟩
      obtain ⟨q, c1, rfl, hc1⟩ := shp_cons (k := 3) (t := [91]) (ks := [(3, [93])]) hc
      obtain ⟨q2, c2, rfl, hc2⟩ := shp_cons (ks := []) hc1
      have : c2 = [] := by simpa [shp] using hc2
      subst this
      unfold fVal
      rw [List.cons_append, isG_head, if_pos (by decide), List.tail_cons, List.cons_append, isG_head, if_pos (by decide), List.tail_cons, List.nil_append]
      rw [← h]
    · rename_i hy
      obtain ⟨v1, r1, e1, g⟩ := andR_cut h
      clear h
      simp only [Except.ok.injEq, Prod.mk.injEq] at g
      obtain ⟨g, rfl⟩ := g
      obtain ⟨c2, rfl, k0, k1⟩ := fRow_cut _ _ _ _ _ _ _ e1
      refine ⟨(3, [91], p) :: c2, rfl, by simp, fun z' n' c' R hc hn => ?_⟩
      obtain ⟨q, c3, rfl, hc3⟩ := shp_cons (k := 3) (t := [91]) (ks := shp c2) hc
      rw [List.length_cons] at hn
      unfold fVal
      rw [List.cons_append, isG_head, if_pos (by decide), List.tail_cons, if_neg (by rw [isG_shp hc3 k0 (R' := r1)]; exact hy), k1 z' n' c3 R hc3 (by omega), andR_ok]
      simp only [Except.ok.injEq, Prod.mk.injEq, and_true]
      exact g
  · rename_i hx
    obtain ⟨v1, r1, e1, g⟩ := andR_cut h
    clear h
    simp only [Except.ok.injEq, Prod.mk.injEq] at g
    obtain ⟨g, rfl⟩ := g
    obtain ⟨c1, rfl, k0, k1⟩ := fNum_cut e1
    refine ⟨c1, rfl, k0, fun z' n' c' R hc _ => ?_⟩
    unfold fVal
    rw [if_neg (by rw [isG_shp hc k0 (R' := r1)]; exact hx), k1 z' c' R hc, andR_ok]
    simp only [Except.ok.injEq, Prod.mk.injEq, and_true]
    exact g
def atD (d : Dt) (p : Nat) : Dt := ⟨d.nm, p, d.list, d.whole, d.nums⟩
/-- the tokens of one datum -/
structure Pc (c : List Tk) (d : Dt) : Prop where
  ne : c ≠ []
  at_ : d.at_ = place 0 c
  go : ∀ z' n' c' R out', shp c' = shp c → c.length ≤ n' → fOne z' n' out' (c' ++ R) = if out'.any (fun e => decide (e.nm = d.nm)) = true then .error (8, place 0 c') else .ok (atD d (place 0 c'), R)
theorem Pc.shp_ {c c' : List Tk} {d : Dt} (h : Pc c d) (hc : shp c' = shp c) : Pc c' (atD d (place 0 c')) :=
  ⟨fun h0 => h.ne (by subst h0; have := shp_len hc; exact List.length_eq_zero_iff.1 this.symm), rfl, fun z' n' c2 R out' h2 hn => by
    rw [h.go z' n' c2 R out' (h2.trans hc) (by rw [← shp_len hc]; exact hn)]; rfl⟩
theorem fOne_cut {n z : Nat} {out : List Dt} {ts r : List Tk} {d : Dt} (h : fOne z n out ts = .ok (d, r)) : ∃ c, ts = c ++ r ∧ Pc c d ∧ out.any (fun e => decide (e.nm = d.nm)) = false := by
  unfold fOne at h
  split at h
  · rename_i hk
    split at h
    · cases h
    · rename_i hs
      cases ts with
      | nil => cases hk.1
      | cons t tl =>
        obtain ⟨t1, t2, t3⟩ := t
        simp only [nowT] at hk hs h
        obtain ⟨rfl, hnm⟩ := hk
        rw [List.tail_cons] at h
        obtain ⟨p, u1, rfl, g1⟩ := wantG_cut h
        clear h
        obtain ⟨v, u2, e1, g2⟩ := andR_cut g1
        clear g1
        obtain ⟨p2, u3, rfl, g3⟩ := wantG_cut g2
        clear g2
        simp only [Except.ok.injEq, Prod.mk.injEq] at g3
        obtain ⟨rfl, rfl⟩ := g3
        obtain ⟨c2, rfl, k0, k1⟩ := fVal_cut e1
        refine ⟨(1, t2, t3) :: (3, [61], p) :: (c2 ++ [(3, [59], p2)]), by simp, ⟨by simp, rfl, fun z' n' c' R out' hc hn => ?_⟩, by cases hq : out.any (fun d => decide (d.nm = t2)) with | true => exact absurd hq hs | false => rfl⟩
        obtain ⟨q1, c3, rfl, hc3⟩ := shp_cons (k := 1) (t := t2) hc
        obtain ⟨q2, c4, rfl, hc4⟩ := shp_cons (k := 3) (t := [61]) hc3
        rw [show List.map (fun t : Tk => (t.1, t.2.1)) (c2 ++ [(3, [59], p2)]) = shp c2 ++ shp [(3, [59], p2)] from shp_append _ _] at hc4
        obtain ⟨c5, c6, rfl, hc5, hc6⟩ := shp_app hc4
        obtain ⟨q3, c7, rfl, hc7⟩ := shp_cons (k := 3) (t := [59]) (ks := []) hc6
        have : c7 = [] := by simpa [shp] using hc7
        subst this
        simp only [List.length_cons, List.length_append] at hn
        unfold fOne
        simp only [List.cons_append, nowT, place, List.tail_cons]
        rw [if_pos ⟨trivial, hnm⟩]
        by_cases hq : out'.any (fun d => decide (d.nm = t2)) = true
        · exact (if_pos hq).trans (if_pos hq).symm
        · refine (if_neg hq).trans (Eq.trans ?_ (if_neg hq).symm)
          rw [wantG_yes, List.append_assoc, k1 z' n' c5 _ hc5 (by omega), andR_ok, List.singleton_append, wantG_yes]
          rfl
  · cases h
abbrev Ck := List Tk × Dt
def flatC (cs : List Ck) : List Tk := cs.flatMap (·.1)
theorem fAll_cut : ∀ (n z : Nat) (out : List Dt) (ts : List Tk) (ds : List Dt), fAll z n out ts = .ok ds → ∃ cs : List Ck, ts = flatC cs ∧ ds = out ++ cs.map (·.2) ∧ (∀ x ∈ cs, Pc x.1 x.2) ∧ (∀ x ∈ cs, x.2.nm ∉ out.map Dt.nm) ∧ (cs.map (·.2.nm)).Nodup
  | 0, _, _, _, _, h => by cases h
  | n + 1, z, out, ts, ds, h => by
    rw [fAll] at h
    split at h
    · rename_i h0
      subst h0
      cases h
      exact ⟨[], rfl, by simp, fun x hx => by (cases hx), fun x hx => by (cases hx), List.nodup_nil⟩
    · obtain ⟨d, r, e1, g⟩ := andR_cut h
      clear h
      obtain ⟨c, rfl, k1, k2⟩ := fOne_cut e1
      clear e1
      obtain ⟨cs, rfl, rfl, k3, k4, k5⟩ := fAll_cut n z _ _ _ g
      rw [any_names] at k2
      have k2' : d.nm ∉ out.map Dt.nm := by simpa using k2
      refine ⟨(c, d) :: cs, rfl, by simp, ?_, ?_, ?_⟩
      · intro x hx
        rcases List.mem_cons.1 hx with rfl | hx
        · exact k1
        · exact k3 x hx
      · intro x hx
        rcases List.mem_cons.1 hx with rfl | hx
        · exact k2'
        · exact fun hm => k4 x hx (by rw [List.map_append]; exact List.mem_append_left _ hm)
      · rw [List.map_cons, List.nodup_cons]
        refine ⟨fun hm => ?_, k5⟩
        obtain ⟨x, hx, he⟩ := List.mem_map.1 hm
        exact k4 x hx (by rw [List.map_append, he]; exact List.mem_append_right _ (by simp))
theorem fAll_go : ∀ (cs : List Ck) (n z : Nat) (out : List Dt) (R : List Tk), (∀ x ∈ cs, Pc x.1 x.2) → (∀ x ∈ cs, x.2.nm ∉ out.map Dt.nm) → (cs.map (·.2.nm)).Nodup → (flatC cs).length + R.length < n →
    fAll z n out (flatC cs ++ R) = fAll z (n - cs.length) (out ++ cs.map (·.2)) R
  | [], n, z, out, R, _, _, _, _ => by simp [flatC]
  | x :: cs, n, z, out, R, h1, h2, h3, hn => by
    have hP := h1 x (.head _)
    have hl : 0 < x.1.length := by
      cases hx : x.1 with
      | nil => exact absurd hx hP.ne
      | cons => simp
    have e0 : flatC (x :: cs) = x.1 ++ flatC cs := by unfold flatC; rw [List.flatMap_cons]
    rw [e0, List.length_append] at hn
    obtain ⟨m, rfl⟩ : ∃ m, n = m + 1 := ⟨n - 1, by omega⟩
    have ha : atD x.2 (place 0 x.1) = x.2 := by rw [← hP.at_]; rfl
    rw [List.map_cons, List.nodup_cons] at h3
    have hno : out.any (fun e => decide (e.nm = x.2.nm)) = false := by
      rw [any_names]
      have := h2 x (.head _)
      simpa using this
    rw [fAll, e0, List.append_assoc, if_neg (by cases hx : x.1 with | nil => exact absurd hx hP.ne | cons => simp), hP.go z m x.1 _ out rfl (by omega), if_neg (by rw [hno]; decide), andR_ok, ha,
      fAll_go cs m z (out ++ [x.2]) R (fun y hy => h1 y (.tail _ hy)) (fun y hy hm => by
        rw [List.map_append, List.mem_append] at hm
        rcases hm with hm | hm
        · exact h2 y (.tail _ hy) hm
        · have he : y.2.nm = x.2.nm := by simpa using hm
          exact h3.1 (by rw [← he]; exact List.mem_map_of_mem (f := fun q : Ck => q.2.nm) hy)) h3.2 (by omega)]
    rw [List.length_cons, List.map_cons, List.append_assoc, List.singleton_append, show m + 1 - (cs.length + 1) = m - cs.length by omega]
theorem flatC_len {cs : List Ck} (h : ∀ x ∈ cs, Pc x.1 x.2) : cs.length ≤ (flatC cs).length := by
  induction cs with
  | nil => simp
  | cons x cs ih =>
    have hP := h x (.head _)
    have hl : 0 < x.1.length := by
      cases hx : x.1 with
      | nil => exact absurd hx hP.ne
      | cons => simp
    have := ih (fun y hy => h y (.tail _ hy))
    unfold flatC at this ⊢
    rw [List.flatMap_cons, List.length_append, List.length_cons]
    omega
theorem fAll_all {cs : List Ck} {n z : Nat} {out : List Dt} (h1 : ∀ x ∈ cs, Pc x.1 x.2) (h2 : ∀ x ∈ cs, x.2.nm ∉ out.map Dt.nm) (h3 : (cs.map (·.2.nm)).Nodup) (hn : (flatC cs).length < n) : fAll z n out (flatC cs) = .ok (out ++ cs.map (·.2)) := by
  have := fAll_go cs n z out [] h1 h2 h3 (by simpa using hn)
  rw [List.append_nil] at this
  have hl := flatC_len h1
  rw [this]
  obtain ⟨m, hm⟩ : ∃ m, n - cs.length = m + 1 := ⟨n - cs.length - 1, by omega⟩
  rw [hm, fAll, if_pos rfl]
/-- one whose name is there already -/
theorem fAll_there {cs : List Ck} {n z : Nat} {out : List Dt} (h1 : ∀ x ∈ cs, Pc x.1 x.2) (h3 : (cs.map (·.2.nm)).Nodup) (h2 : ∃ x ∈ cs, x.2.nm ∈ out.map Dt.nm) (hn : (flatC cs).length < n) : ∃ x ∈ cs, fAll z n out (flatC cs) = .error (8, x.2.at_) := by
  induction cs generalizing n out with
  | nil => obtain ⟨x, hx, _⟩ := h2; cases hx
  | cons x cs ih =>
    have hP := h1 x (.head _)
    have hl : 0 < x.1.length := by
      cases hx : x.1 with
      | nil => exact absurd hx hP.ne
      | cons => simp
    have e0 : flatC (x :: cs) = x.1 ++ flatC cs := by unfold flatC; rw [List.flatMap_cons]
    rw [e0, List.length_append] at hn
    obtain ⟨m, rfl⟩ : ∃ m, n = m + 1 := ⟨n - 1, by omega⟩
    have hb := hP.go z m x.1 (flatC cs) out rfl (by omega)
    have ha : atD x.2 (place 0 x.1) = x.2 := by rw [← hP.at_]; rfl
    rw [fAll, e0, if_neg (by cases hx : x.1 with | nil => exact absurd hx hP.ne | cons => simp), hb]
    by_cases hin : x.2.nm ∈ out.map Dt.nm
    · rw [if_pos (by rw [any_names]; simpa using hin)]
      exact ⟨x, .head _, by rw [andR_no, hP.at_]⟩
    · rw [if_neg (by rw [any_names]; simpa using hin), andR_ok, ha]
      rw [List.map_cons, List.nodup_cons] at h3
      obtain ⟨y, hy, hyo⟩ := h2
      have hycs : y ∈ cs := by
        rcases List.mem_cons.1 hy with rfl | hy
        · exact absurd hyo hin
        · exact hy
      obtain ⟨q, hq, e⟩ := ih (out := out ++ [x.2]) (n := m) (fun y hy => h1 y (.tail _ hy)) h3.2 ⟨y, hycs, by rw [List.map_append]; exact List.mem_append_left _ hyo⟩ (by omega)
      exact ⟨q, .tail _ hq, e⟩
/-! faults -/
def Bnd (z : Nat) (ts : List Tk) : Prop := ∀ t ∈ ts, t.2.2 ≤ z
theorem Bnd.place {z : Nat} {ts : List Tk} (h : Bnd z ts) : Prs.place z ts ≤ z := by
  cases ts with
  | nil => exact Nat.le_refl _
  | cons t ts => exact h t (.head _)
theorem Bnd.tail {z : Nat} {ts : List Tk} (h : Bnd z ts) : Bnd z ts.tail := fun t ht => h t (List.mem_of_mem_tail ht)
theorem Bnd.app {z : Nat} {c r : List Tk} (h : Bnd z (c ++ r)) : Bnd z r := fun t ht => h t (List.mem_append_right _ ht)
abbrev Er (z : Nat) (fl : Fl) : Prop := fl.1 ≠ 0 ∧ fl.2 ≤ z
theorem fNum_er {z : Nat} {ts : List Tk} {fl : Fl} (hb : Bnd z ts) (h : fNum z ts = .error fl) : Er z fl := by
  have key : ∀ neg (ts : List Tk), Bnd z ts → fTok z neg ts = .error fl → Er z fl := by
    intro neg ts hb h
    unfold fTok at h
    split at h
    · split at h
      · cases h; exact ⟨by simp, hb.place⟩
      · cases h
    · cases h; exact ⟨by simp, hb.place⟩
  unfold fNum at h
  split at h
  · exact key _ _ hb.tail h
  · exact key _ _ hb h
theorem andR_err {α β : Type} {x : Rs α} {f : α → List Tk → Except Fl β} {fl : Fl} (h : andR x f = .error fl) : x = .error fl ∨ ∃ a r, x = .ok (a, r) ∧ f a r = .error fl := by
  cases x with
  | error e => left; rw [andR_no] at h; cases h; rfl
  | ok p => right; exact ⟨p.1, p.2, rfl, h⟩
theorem wantG_er {β : Type} {z : Nat} {x : Str} {ts : List Tk} {f : List Tk → Except Fl β} {fl : Fl} (hb : Bnd z ts) (h : wantG z x ts f = .error fl) : Er z fl ∨ ∃ a r, ts = (3, x, a) :: r ∧ f r = .error fl := by
  unfold wantG at h
  split at h
  · rename_i hx
    obtain ⟨a, r, rfl⟩ := isG_yes hx
    exact .inr ⟨a, r, rfl, h⟩
  · cases h; exact .inl ⟨by simp, hb.place⟩
theorem fRow_er {z : Nat} {fl : Fl} : ∀ (n : Nat) (l : List Rt) (b : Bool) (ts : List Tk), Bnd z ts → ts.length < n → fRow z n l b ts = .error fl → Er z fl
  | 0, _, _, _, _, hn, _ => by omega
  | n + 1, l, b, ts, hb, hn, h => by
    rw [fRow] at h
    rcases andR_err h with g | ⟨a, r, e1, g⟩
    · exact fNum_er hb g
    · clear h
      obtain ⟨c, rfl, k0, _⟩ := fNum_cut e1
      have hl : 0 < c.length := by cases c with | nil => exact absurd rfl k0 | cons => simp
      rw [List.length_append] at hn
      split at g
      · exact fRow_er n _ _ _ hb.app.tail (by rw [List.length_tail]; omega) g
      · rcases wantG_er hb.app g with h | ⟨a, r, _, h⟩
        · exact h
        · cases h
theorem fVal_er {z n : Nat} {fl : Fl} {ts : List Tk} (hb : Bnd z ts) (hn : ts.length < n) (h : fVal z n ts = .error fl) : Er z fl := by
  unfold fVal at h
  split at h
  · split at h
    · cases h
    · rcases andR_err h with h | ⟨a, r, _, h⟩
      · exact fRow_er n _ _ _ hb.tail (by rw [List.length_tail]; omega) h
      · cases h
  · rcases andR_err h with h | ⟨a, r, _, h⟩
    · exact fNum_er hb h
    · cases h
theorem fOne_er {z n : Nat} {fl : Fl} {out : List Dt} {ts : List Tk} (hb : Bnd z ts) (hn : ts.length < n) (h : fOne z n out ts = .error fl) : Er z fl := by
  unfold fOne at h
  split at h
  · split at h
    · cases h; exact ⟨by simp, hb.place⟩
    · rcases wantG_er hb.tail h with h | ⟨a, r, e0, h⟩
      · exact h
      · have hl : ts.tail.length = r.length + 1 := by rw [e0]; rfl
        rw [List.length_tail] at hl
        have hbr : Bnd z r := fun t ht => hb.tail t (by rw [e0]; exact .tail _ ht)
        rcases andR_err h with g | ⟨v, r2, e1, g⟩
        · exact fVal_er hbr (by omega) g
        · clear h e0
          obtain ⟨c, rfl, _⟩ := fVal_cut e1
          rcases wantG_er hbr.app g with h | ⟨a2, r3, _, h⟩
          · exact h
          · cases h
  · cases h; exact ⟨by simp, hb.place⟩
theorem fAll_er {z : Nat} {fl : Fl} : ∀ (n : Nat) (out : List Dt) (ts : List Tk), Bnd z ts → ts.length < n → fAll z n out ts = .error fl → Er z fl
  | 0, _, _, _, hn, _ => by omega
  | n + 1, out, ts, hb, hn, h => by
    rw [fAll] at h
    split at h
    · cases h
    · rename_i h0
      rcases andR_err h with h | ⟨d, r, e1, g⟩
      · by_cases hh : ts.length < n
        · exact fOne_er hb hh h
        · have : ts.length = n := by omega
          unfold fOne at h
          split at h
          · split at h
            · cases h; exact ⟨by simp, hb.place⟩
            · rcases wantG_er hb.tail h with h | ⟨a, r, e0, h⟩
              · exact h
              · have hl : ts.tail.length = r.length + 1 := by rw [e0]; rfl
                rw [List.length_tail] at hl
                have hbr : Bnd z r := fun t ht => hb.tail t (by rw [e0]; exact .tail _ ht)
                rcases andR_err h with g | ⟨v, r2, e1, g⟩
                · exact fVal_er hbr (by omega) g
                · clear h e0
                  obtain ⟨c, rfl, _⟩ := fVal_cut e1
                  rcases wantG_er hbr.app g with h | ⟨a2, r3, _, h⟩
                  · exact h
                  · cases h
          · cases h; exact ⟨by simp, hb.place⟩
      · clear h
        obtain ⟨c, rfl, k1, _⟩ := fOne_cut e1
        have hl : 0 < c.length := by cases hc : c with | nil => exact absurd hc k1.ne | cons => simp
        rw [List.length_append] at hn
        exact fAll_er n _ _ hb.app (by omega) g
theorem read_bnd (s : Str) : Bnd s.length (readP s).1 ∧ (readP s).2.2 ≤ s.length := readP_at s
theorem read_len {s : Str} (hs : s.length ≤ 20000) : (readP s).1.length ≤ s.length := by
  have := readS_len s
  by_cases h : (readS s).2.1 = 0
  · rw [readP_fine (by omega) h]; exact this
  · rw [readP_bad (by omega) h]; simp
theorem fault_law {s : Str} {fl : Fl} (h : fRead s = .error fl) : fl.1 ≠ 0 ∧ fl.2 ≤ s.length := by
  unfold fRead at h
  split at h
  · rename_i h0
    have hs : s.length ≤ 20000 := by
      rcases Nat.lt_or_ge 20000 s.length with hh | hh
      · rw [readP_long hh] at h0; cases h0
      · exact hh
    have := read_len hs
    exact fAll_er 20001 [] _ (read_bnd s).1 (by omega) h
  · rename_i h0
    cases h
    exact ⟨h0, (read_bnd s).2⟩
/-! two texts -/
theorem chain_up {s : Str} : ∀ {i : Nat} {ts : List Tk}, Chain s i ts → (∀ t ∈ ts, i ≤ t.2.2) ∧ ts.Pairwise (fun a b => a.2.2 < b.2.2) := by
  intro i ts h
  induction h with
  | nil => exact ⟨fun t ht => by (cases ht), .nil⟩
  | @cons i e kd ts hi hl ht _ ih =>
    have h1 := skipTo_le hi
    have h2 := tok_le (s := s) (i := skipTo s i) h1.1
    rw [ht] at h2
    have h3 := h2.2.2 rfl
    simp only at h3
    refine ⟨fun t hm => ?_, List.pairwise_cons.2 ⟨fun t hm => ?_, ih.2⟩⟩
    · rcases List.mem_cons.1 hm with rfl | hm
      · exact h1.2
      · have := ih.1 t hm; omega
    · have := ih.1 t hm
      simp only; omega
theorem Pc.first {c : List Tk} {d : Dt} (h : Pc c d) : ∃ t c2, c = t :: c2 ∧ d.at_ = t.2.2 := by
  cases hc : c with
  | nil => exact absurd hc h.ne
  | cons t c2 => exact ⟨t, c2, rfl, by rw [h.at_, hc]; rfl⟩
theorem flat_up {cs : List Ck} (h1 : ∀ x ∈ cs, Pc x.1 x.2) (h : (flatC cs).Pairwise (fun a b => a.2.2 < b.2.2)) : cs.Pairwise (fun x y => x.2.at_ < y.2.at_) := by
  induction cs with
  | nil => exact .nil
  | cons x cs ih =>
    unfold flatC at h
    rw [List.flatMap_cons, List.pairwise_append] at h
    refine List.pairwise_cons.2 ⟨fun y hy => ?_, ih (fun y hy => h1 y (.tail _ hy)) h.2.1⟩
    obtain ⟨t, c2, e1, e2⟩ := (h1 x (.head _)).first
    obtain ⟨u, c3, e3, e4⟩ := (h1 y (.tail _ hy)).first
    rw [e2, e4]
    refine h.2.2 t (by rw [e1]; exact .head _) u (List.mem_flatMap.2 ⟨y, hy, by rw [e3]; exact .head _⟩)
theorem read_two {s t : Str} (hs : s.length ≤ 1500) (ht : t.length ≤ 1500) (h1 : (readP s).2.1 = 0) (h2 : (readP t).2.1 = 0) : readP (s ++ 10 :: t) = ((readP s).1 ++ (readP t).1.map (sh (s.length + 1)), 0, 0) := by
  have z1 : (readS s).2.1 = 0 := by
    by_cases h : (readS s).2.1 = 0
    · exact h
    · rw [readP_bad (by omega) h] at h1; exact absurd h1 h
  have z2 : (readS t).2.1 = 0 := by
    by_cases h : (readS t).2.1 = 0
    · exact h
    · rw [readP_bad (by omega) h] at h2; exact absurd h2 h
  have h0 := readS_zero z1
  have h00 := readS_zero z2
  have hl := readS_len s
  have hlen : (s ++ [10]).length = s.length + 1 := by simp
  have happ : (s ++ [10]) ++ t = s ++ 10 :: t := by simp
  have k1 := skip_sh (u := s ++ [10]) (v := t) 0
  rw [hlen, Nat.add_zero, happ] at k1
  have k2 := skipTo_le (s := t) (Nat.zero_le _)
  have k3 := lex_sh (u := s ++ [10]) (v := t) (readS s).1 (by omega) _ (skipTo t 0) ([], 0, 0) rfl k2.1 (Nat.zero_le _) rfl
  rw [hlen, happ] at k3
  have h5 : readS s = ((readS s).1, (0, 0)) := by rw [← h0]
  have h6 : lexS readN t (skipTo t 0) ([], 0, 0) = readS t := rfl
  rw [h6] at k3
  have key : readS (s ++ 10 :: t) = ((readS s).1 ++ (readS t).1.map (sh (s.length + 1)), (0, 0)) := by
    rw [readS_two, if_pos z1, k1, h5]
    have : shF (s.length + 1) (readS t).2 = (0, 0) := by rw [h00]; rfl
    rw [this] at k3
    simpa using k3
  rw [readP_fine (by simp; omega) (by rw [key]), key, readP_fine (by omega) z1, readP_fine (by omega) z2]
theorem shp_sh (k : Nat) (c : List Tk) : shp (c.map (sh k)) = shp c := by
  unfold shp; rw [List.map_map]; rfl
def shC (k : Nat) (x : Ck) : Ck := (x.1.map (sh k), atD x.2 (place 0 (x.1.map (sh k))))
theorem shC_pc {k : Nat} {x : Ck} (h : Pc x.1 x.2) : Pc (shC k x).1 (shC k x).2 := h.shp_ (shp_sh k x.1)
theorem shC_at {k : Nat} {x : Ck} (h : Pc x.1 x.2) : k ≤ (shC k x).2.at_ := by
  obtain ⟨t, c2, e1, _⟩ := h.first
  unfold shC atD
  simp only [e1, List.map_cons, place, sh]
  omega
theorem flatC_sh (k : Nat) (cs : List Ck) : flatC (cs.map (shC k)) = (flatC cs).map (sh k) := by
  unfold flatC
  rw [List.flatMap_map, List.map_flatMap]; rfl
theorem read_cut {s : Str} {da : List Dt} (hs : s.length ≤ 20000) (h : fRead s = .ok da) : (readP s).2.1 = 0 ∧ ∃ cs : List Ck, (readP s).1 = flatC cs ∧ da = cs.map (·.2) ∧ (∀ x ∈ cs, Pc x.1 x.2) ∧ (cs.map (·.2.nm)).Nodup ∧ (flatC cs).length ≤ s.length := by
  unfold fRead at h
  split at h
  · rename_i h0
    obtain ⟨cs, e1, e2, e3, _, e5⟩ := fAll_cut _ _ _ _ _ h
    exact ⟨h0, cs, e1, by simpa using e2, e3, e5, by rw [← e1]; exact read_len hs⟩
  · cases h
theorem parts_law {s t : Str} {da bs : List Dt} (hs : s.length ≤ 1500) (ht : t.length ≤ 1500) (ha : fRead s = .ok da) (hb : fRead t = .ok bs) :
    (da.Pairwise fun a b => a.nm ≠ b.nm ∧ a.at_ < b.at_) ∧
    ((∃ a ∈ da, ∃ b ∈ bs, b.nm = a.nm) → ∃ q, fRead (s ++ 10 :: t) = .error (8, q) ∧ s.length < q) ∧
    ((¬ ∃ a ∈ da, ∃ b ∈ bs, b.nm = a.nm) → ∃ cs, fRead (s ++ 10 :: t) = .ok (da ++ cs) ∧ cs.length = bs.length) ∧
    (∀ da' a, da = da' ++ [a] → a.at_ ≤ s.length ∧ fRead (s.take a.at_) = .ok da') := by
  obtain ⟨z1, ca, ea, rfl, pa, na, la⟩ := read_cut (by omega) ha
  obtain ⟨z2, cb, eb, rfl, pb, nb, lb⟩ := read_cut (by omega) hb
  have hT := read_two hs ht z1 z2
  have hR : ∀ x, fAll (s ++ 10 :: t).length (20001 - ca.length) (ca.map (·.2)) (flatC (cb.map (shC (s.length + 1)))) = x → fRead (s ++ 10 :: t) = x := fun x hx => by
    unfold fRead
    rw [hT, if_pos rfl]
    simp only
    rw [ea, eb, ← flatC_sh, fAll_go ca 20001 _ [] _ pa (fun x _ h => by simp at h) na (by rw [flatC_sh, List.length_map]; omega), List.nil_append]
    exact hx
  have pb' : ∀ x ∈ cb.map (shC (s.length + 1)), Pc x.1 x.2 := fun x hx => by
    obtain ⟨y, hy, rfl⟩ := List.mem_map.1 hx; exact shC_pc (pb y hy)
  have nb' : ((cb.map (shC (s.length + 1))).map (·.2.nm)).Nodup := by rw [List.map_map]; exact nb
  have hlc := flatC_len pa
  have hlen : (flatC (cb.map (shC (s.length + 1)))).length < 20001 - ca.length := by rw [flatC_sh, List.length_map]; omega
  refine ⟨?_, ?_, ?_, ?_⟩
  · have hc : Chain s 0 (flatC ca) := by rw [← ea]; exact readP_chain (by omega) z1
    have hu := flat_up pa (chain_up hc).2
    have hn := List.pairwise_map.1 na
    rw [List.pairwise_map]
    exact hn.and hu
  · rintro ⟨a, ha1, b, hb1, he⟩
    obtain ⟨x, hx, rfl⟩ := List.mem_map.1 ha1
    obtain ⟨y, hy, rfl⟩ := List.mem_map.1 hb1
    obtain ⟨q, hq, e⟩ := fAll_there (z := (s ++ 10 :: t).length) (n := 20001 - ca.length) (out := ca.map (·.2)) pb' nb' ⟨shC (s.length + 1) y, List.mem_map_of_mem hy, by
      show y.2.nm ∈ _
      rw [he, List.map_map]
      exact List.mem_map_of_mem (f := fun q : Ck => q.2.nm) hx⟩ hlen
    obtain ⟨w, hw, rfl⟩ := List.mem_map.1 hq
    exact ⟨_, hR _ e, shC_at (pb w hw)⟩
  · intro hno
    refine ⟨(cb.map (shC (s.length + 1))).map (·.2), hR _ (fAll_all pb' (fun x hx hm => ?_) nb' hlen), by simp⟩
    obtain ⟨y, hy, rfl⟩ := List.mem_map.1 hx
    rw [List.map_map] at hm
    obtain ⟨w, hw, he⟩ := List.mem_map.1 hm
    exact hno ⟨w.2, List.mem_map_of_mem hw, y.2, List.mem_map_of_mem hy, he.symm⟩
  · intro da' a hq
    obtain ⟨c1, c2, e1, e2, e3⟩ := List.map_eq_append_iff.1 hq
    obtain ⟨x, rfl⟩ : ∃ x, c2 = [x] := by
      have := congrArg List.length e3
      rw [List.length_map, List.length_singleton] at this
      exact List.length_eq_one_iff.1 this
    have hxa : x.2 = a := by simpa using e3
    subst hxa
    have hmem : x ∈ ca := by rw [e1]; exact List.mem_append_right _ (by simp)
    obtain ⟨u, c3, e4, e5⟩ := (pa x hmem).first
    have hTs : (readP s).1 = flatC c1 ++ u :: c3 := by
      rw [ea, e1]; unfold flatC; rw [List.flatMap_append, List.flatMap_cons, List.flatMap_nil, List.append_nil, e4]
    have hk := readP_tk (by omega) z1 hTs
    rw [e5]
    refine ⟨(read_bnd s).1 u (by rw [hTs]; exact List.mem_append_right _ (.head _)), ?_⟩
    unfold fRead
    rw [hk, if_pos rfl]
    have l1 : (flatC c1).length ≤ (flatC ca).length := by
      rw [e1]; unfold flatC; rw [List.flatMap_append, List.length_append]; exact Nat.le_add_right _ _
    have := fAll_all (cs := c1) (n := 20001) (z := (s.take u.2.2).length) (out := []) (fun y hy => pa y (by rw [e1]; exact List.mem_append_left _ hy)) (fun y _ h => by simp at h) (by rw [e1, List.map_append] at na; exact (List.nodup_append.1 na).1) (by omega)
    rw [List.nil_append, e2] at this
    exact this
end Go.Feed
end
section
namespace Go.Proofs.YtikdkendinnalaaGreatDoor
open Go.RowKit Go.Sx
open Go.Tok Go.Tree Go.Prs Go.Feed Go.Num
theorem toks_f {T : List Tk} {a : Option Addr} {c : Nat} {W : Heap} {w : World} {N : Nat → Prop} (h : Toks (.slice a T.length c) T W) (hm : ∀ p ∈ W, w.heap[p.1]? = some p.2) (hN : ∀ p ∈ W, N p.1) {k : Nat} {t : Tk} (hk : T[k]? = some t) : At w N a (k * 3) (tkC t) := by
  obtain ⟨hl, ⟨_, h0, _⟩ | ⟨q, cc, sp, hv, hc, hsp, rfl⟩⟩ := h
  · have := (List.getElem?_eq_some_iff.1 hk).1; omega
  · cases hv
    refine ⟨q, 0, rfl, hN (q, cel (tksC T ++ sp) 64) (by simp), fun j u hj => ?_⟩
    have h1 := hm (q, cel (tksC T ++ sp) 64) (by simp)
    have h2 := tks_at T k t hk j u hj
    have h3 : (tksC T ++ sp)[k * 3 + j]? = some u := by rw [List.getElem?_append_left (List.getElem?_eq_some_iff.1 h2).1]; exact h2
    dsimp only at h1
    simp [World.cell?, h1, h3]
theorem Bnd.drop {z : Nat} {T T' : List Tk} (h : Bnd z T') (he : T' = T) (i : Nat) : Bnd z (T.drop i) := fun t ht => h t (by rw [he]; exact List.mem_of_mem_drop ht)
theorem rr_zero (ta : Option Addr) (tc n z : Nat) : Rr ta tc n z 0 0 0 = cel [.slice ta n tc, .int .i64 (z : Nat), .int .i64 0, .int .i64 0] 61 := by
  unfold Rr; rw [aK_zero]; rfl
theorem toks_le {T : List Tk} {a : Option Addr} {c : Nat} {W : Heap} (h : Toks (.slice a T.length c) T W) : T.length ≤ c := by
  obtain ⟨hl, ⟨hv, h0, _⟩ | ⟨q, cc, sp, hv, hc, hsp, rfl⟩⟩ := h
  · omega
  · simp only [Value.slice.injEq] at hv
    omega
theorem readP_tx (s : Str) : ∀ t ∈ (readP s).1, t.2.1.length ≤ s.length := by
  have h : ∀ (f i : Nat) (x : Rd), (∀ t ∈ x.1, t.2.1.length ≤ s.length) → ∀ t ∈ (lexF readN s f i x).1, t.2.1.length ≤ s.length := by
    intro f
    induction f with
    | zero => intro i x h; exact h
    | succ f ih =>
      intro i x h
      have hx : ∀ t ∈ (readN x (tokAt s i).1 (tokTx s i) i (tokAt s i).2.2).1.1, t.2.1.length ≤ s.length := by
        unfold readN
        split
        · exact h
        · split
          · exact h
          · intro t ht
            rcases List.mem_append.1 ht with ht | ht
            · exact h t ht
            · obtain rfl := List.mem_singleton.1 ht
              unfold tokTx
              simp only [List.length_take, List.length_drop]; omega
      unfold lexF
      split
      · split
        · exact ih _ _ hx
        · exact hx
      · exact h
  rcases Nat.lt_or_ge 20000 s.length with h1 | h1
  · rw [readP_long h1]; intro t ht; cases ht
  · by_cases h2 : (readS s).2.1 = 0
    · rw [readP_fine (by omega) h2]; exact h _ _ _ (fun t ht => by cases ht)
    · rw [readP_bad (by omega) h2]; intro t ht; cases ht
theorem pf_init {B : Base} {L L' W0 : Heap} {w w1 : World} {ta : Option Addr} {tc : Nat} {T : List Tk} {s : Str} (hw : St B (L ++ W0) w1) (hs : L'.Sublist L) (hx : (w, No) ∈ B) (hng : 11 ≤ w.heap.size) (hW : Wd w1) (hO : Toks (.slice ta T.length tc) T W0) (hT : (readP s).1 = T) (hl : s.length ≤ 20000) :
    ∃ G : Nat → Prop, Pf w1 G T ta tc s.length ∧ (∀ j, inL L' j → G j) ∧ (∀ j, w1.heap.size ≤ j → G j) := by
  have hnd := hw.nd
  rw [List.map_append, List.nodup_append] at hnd
  refine ⟨fun j => inL L' j ∨ w1.heap.size ≤ j, ⟨hW, ?_, ?_, toks_le hO, by rw [← hT]; exact readP_len s, by omega, ?_, by rw [← hT]; exact read_num s⟩, fun j h => .inl h, fun j h => .inr h⟩
  · rintro j (hj | hj)
    · obtain ⟨p, hp, rfl⟩ := List.mem_map.1 hj
      rcases hw.ok p (List.mem_append_left _ (hs.subset hp)) _ hx with h1 | h1
      · exact h1.elim
      · exact Nat.le_trans hng h1
    · exact Nat.le_trans hng (Nat.le_trans (hw.fr _ hx).size hj)
  · intro k t hk
    refine toks_f hO (fun p hp => hw.own p (List.mem_append_right _ hp)) (fun p hp => ?_) hk
    rintro (hj | hj)
    · exact hnd.2.2 _ ((hs.map (·.1)).subset hj) _ (List.mem_map_of_mem (f := fun q : Nat × Obj => q.1) hp) rfl
    · have := lt_of_blk (hw.own p (List.mem_append_right _ hp)); omega
  · intro t ht
    exact ⟨Nat.le_trans (readP_tx s t (by rw [hT]; exact ht)) hl, Nat.le_trans ((readP_at s).1 t (by rw [hT]; exact ht)) (by omega)⟩
/-- what Read tells -/
def RdF (X : Except Fl (List Dt)) (w : World) : Value → World → Prop := fun v w' =>
  (match X with
  | .ok ds => ∃ b : Option Addr × Nat, v = .tuple #[.slice b.1 ds.length b.2, .agg #[.int .i64 0, .int .i64 0]] ∧ disV w' (Nn w w') (ds.map diD) b
  | .error fl => v = .tuple #[.slice none 0 0, .agg #[.int .i64 (fl.1 : Nat), .int .i64 (fl.2 : Nat)]]) ∧ Ext w w'
theorem fRead_no {s : Str} (h : ¬ (readP s).2.1 = 0) : fRead s = .error (readP s).2 := if_neg h
theorem fRead_go {s : Str} (h : (readP s).2.1 = 0) : fRead s = fAll s.length 20001 [] (readP s).1 := if_pos h
section
variable {z n : Nat} {out : List Dt} {ts : List Tk}
theorem fA_end : fAll z (n + 1) out [] = .ok out := by rw [fAll, if_pos rfl]
theorem fA_kind (h0 : ts ≠ []) (h : ¬ ((nowT z ts).1 = 1 ∧ nameOk (nowT z ts).2.1 = true)) : fAll z (n + 1) out ts = .error (130, place z ts) := by
  rw [fAll, if_neg h0]; unfold fOne; rw [if_neg h]; rfl
theorem fA_there (h0 : ts ≠ []) (h : (nowT z ts).1 = 1 ∧ nameOk (nowT z ts).2.1 = true) (h2 : out.any (fun d => decide (d.nm = (nowT z ts).2.1)) = true) : fAll z (n + 1) out ts = .error (8, place z ts) := by
  rw [fAll, if_neg h0]; unfold fOne; rw [if_pos h, if_pos h2]; rfl
theorem fA_eq (h0 : ts ≠ []) (h : (nowT z ts).1 = 1 ∧ nameOk (nowT z ts).2.1 = true) (h2 : out.any (fun d => decide (d.nm = (nowT z ts).2.1)) = false) (h3 : isG [61] ts.tail = false) : fAll z (n + 1) out ts = .error (130, place z ts.tail) := by
  rw [fAll, if_neg h0]; unfold fOne wantG; rw [if_pos h, if_neg (by rw [h2]; decide), if_neg (by rw [h3]; decide)]; rfl
theorem fA_val {fl : Fl} (h0 : ts ≠ []) (h : (nowT z ts).1 = 1 ∧ nameOk (nowT z ts).2.1 = true) (h2 : out.any (fun d => decide (d.nm = (nowT z ts).2.1)) = false) (h3 : isG [61] ts.tail = true) (h4 : fVal z n ts.tail.tail = .error fl) : fAll z (n + 1) out ts = .error fl := by
  rw [fAll, if_neg h0]; unfold fOne wantG; rw [if_pos h, if_neg (by rw [h2]; decide), if_pos h3]; dsimp only; rw [h4]; rfl
theorem fA_semi {v : Bool × List Rt × Bool} {r : List Tk} (h0 : ts ≠ []) (h : (nowT z ts).1 = 1 ∧ nameOk (nowT z ts).2.1 = true) (h2 : out.any (fun d => decide (d.nm = (nowT z ts).2.1)) = false) (h3 : isG [61] ts.tail = true) (h4 : fVal z n ts.tail.tail = .ok (v, r)) (h5 : isG [59] r = false) : fAll z (n + 1) out ts = .error (130, place z r) := by
  rw [fAll, if_neg h0]; unfold fOne wantG; rw [if_pos h, if_neg (by rw [h2]; decide), if_pos h3]; dsimp only; rw [h4, andR_ok, if_neg (by rw [h5]; decide)]; rfl
theorem fA_ok {v : Bool × List Rt × Bool} {r : List Tk} (h0 : ts ≠ []) (h : (nowT z ts).1 = 1 ∧ nameOk (nowT z ts).2.1 = true) (h2 : out.any (fun d => decide (d.nm = (nowT z ts).2.1)) = false) (h3 : isG [61] ts.tail = true) (h4 : fVal z n ts.tail.tail = .ok (v, r)) (h5 : isG [59] r = true) : fAll z (n + 1) out ts = fAll z n (out ++ [⟨(nowT z ts).2.1, place z ts, v.1, v.2.2, v.2.1⟩]) r.tail := by
  rw [fAll, if_neg h0]; unfold fOne wantG; rw [if_pos h, if_neg (by rw [h2]; decide), if_pos h3]; dsimp only; rw [h4, andR_ok, if_pos h5]; rfl
end
abbrev seenL (out : List Dt) : List (List UInt8 × Value) := out.map fun d => (d.nm, Value.int .i64 1)
theorem seen_look (out : List Dt) (s : Str) : ((seenL out).lookup s).getD (.int .i64 0) = .int .i64 (if out.any (fun d => decide (d.nm = s)) = true then 1 else 0) := by
  induction out with
  | nil => rfl
  | cons d out ih =>
    show (List.lookup s ((d.nm, Value.int .i64 1) :: seenL out)).getD (.int .i64 0) = _
    rw [List.lookup_cons, List.any_cons]
    by_cases h : s = d.nm
    · rw [beq_iff_eq.2 h, decide_eq_true h.symm]; rfl
    · rw [beq_false_of_ne h, decide_eq_false (Ne.symm h), Bool.false_or]; exact ih
theorem seen_none {out : List Dt} {s : Str} (h : out.any (fun d => decide (d.nm = s)) = false) : ((seenL out).lookup s).isNone = true := by
  induction out with
  | nil => rfl
  | cons d out ih =>
    rw [List.any_cons, Bool.or_eq_false_iff] at h
    show (List.lookup s ((d.nm, Value.int .i64 1) :: seenL out)).isNone = true
    rw [List.lookup_cons, beq_false_of_ne (fun he => absurd he.symm (of_decide_eq_false h.1))]
    exact ih h.2
set_option maxRecDepth 100000 in
set_option maxHeartbeats 8000000 in
theorem fRead_ok (s : Str) (T : List Tk) (hTe : (readP s).1 = T) (w : World) (hs : s.length ≤ 1000000) (hW : Wd w) (hng : 11 ≤ w.heap.size) :
    Ret Tryz.prog 9 #[str s] w (RdF (fRead s) w) := by
  refine enter (S := No) (l := [_]) (L := []) 99 Tryz.func9 rfl rfl rfl (St.start w No) ?_; refine yA ?_; refine za (v := .slice _ _ _) rfl ?_; refine w_alloc zr27 (fun t3b gt3b ut3b => ?_)
  refine yB ?_; refine c_scope ?_; refine yA ?_; refine zm (v := str _) rfl ?_; refine w_callW (R := fun v W => ∃ a c, v = .tuple #[.slice a T.length c, .agg #[.int .i64 ((readP s).2.1 : Nat), .int .i64 ((readP s).2.2 : Nat)]] ∧ Toks (.slice a T.length c) T W) (fun w => zR Tryz.func21 rfl rfl rfl) rfl rfl (fun w h => by subst hTe; exact Read_spec s (by omega) w (hW.now (.head _) h).tb (hW.now (.head _) h).gs) ?_
  rintro v W0 ⟨ta, tc, rfl, hO⟩
  refine w_st (fun w h => h.perm List.perm_append_comm) ?_; refine zm rfl ?_; refine w_r (fun _ => R_extract rfl rfl) rfl rfl ?_; refine w_r (fun _ => R_extract rfl rfl) rfl rfl ?_; refine w_alloc zr27 (fun t5b gt5b ut5b => ?_)
  refine za (v := .slice _ _ _) rfl ?_; refine w_store 0 rfl z27 rfl rfl rfl rfl rfl rfl rfl ?_; refine yB ?_; refine zq ?_; refine yA ?_; refine zf fa27_0 rfl ?_; refine zl z25 rfl (fun _ h => zc 0 rfl rfl h) ?_; refine w_r (fun _ => R_ne rfl rfl) rfl rfl ?_; refine yB ?_; refine zD rfl (fun h3 => ?_) (fun h3 => ?_)
  · refine zq ?_; refine c_heldI [0] mixed ?_; refine h_loadA 0 rfl (by kernel_rfl) (fun w h => (h).pick [0] (by decide)) z27 rfl (fun _ h => h.at_ 0 rfl) rfl ?_; refine zh (v := .slice _ _ _) 1 rfl (by kernel_rfl) rfl rfl (fun w h => (h).pick [0] (by decide)) (fun w h => R_assign rfl) ?_; refine h_one 2 (by kernel_rfl) (fun w h => (h).pick [0] (by decide)) ?_; refine o_store 1 rfl rfl z27 rfl rfl rfl rfl rfl rfl rfl ?_; refine h_done (by kernel_rfl) (fun w h => (h).pick [0] (by decide)) ?_; refine zk ?_; refine ze ?_; refine zt (g_ret (?_))
    refine r_fin (.inl rfl) rfl (.tmp rfl rfl (.agg rfl rfl z27 (fun _ h => h.at_ 1 rfl) rfl .nil)) ?_; exact fun w' hw => by rw [fRead_no (by omega)]; exact ⟨rfl, hw.fr (w, No) (.head _)⟩
  · have hz : (readP s).2.1 = 0 := (by omega)
    refine zi ?_; refine zk ?_; refine yA ?_; refine mS rfl ?_; refine zm (v := str _) rfl ?_; refine w_r (fun _ => R_slen st9 rfl (by omega)) rfl rfl ?_; refine w_r (fun _ => R_build bt61 rfl) rfl rfl ?_; refine w_boxA rfl (fun rb grb urb => ?_)
    refine za (v := .pointer _) rfl ?_; refine yC ?_; refine w_makeMapS (fun mb gmb umb => ?_)
    refine za rfl ?_; refine yC ?_; refine za (v := .slice _ _ _) rfl ?_; refine yB ?_; refine zq ?_; refine c_label ?_; refine zk ?_; refine zq ?_; refine zB ?_; refine c_st (B' := _) (L' := [(rb, Rr ta tc T.length s.length 0 0 0), (mb, mpS []), (t5b, _), (t3b, cel [.int .i64 0, .int .i64 0] 27)] ++ W0) (fun w h => by rw [rr_zero]; exact St.pickT [_, _, _, _] h [1, 0, 2, 3] (by decide)) ?_; refine c_join (L' := [(rb, Rr ta tc T.length s.length 0 0 0), (mb, mpS []), (t3b, cel [.int .i64 0, .int .i64 0] 27)] ++ []) (B0 := [(w, No)]) (by rw [List.append_nil]; exact .cons_cons _ (.cons_cons _ (.cons _ (.cons_cons _ (List.nil_sublist _))))) (fun x hx => hx) (fun w1 hw1 => ?_)
    obtain ⟨G, hPf, hGi, hGn⟩ := pf_init (L' := [(rb, Rr ta tc T.length s.length 0 0 0), (mb, mpS []), (t3b, cel [.int .i64 0, .int .i64 0] 27)]) hw1 (.cons_cons _ (.cons_cons _ (.cons _ (.cons_cons _ (List.nil_sublist _))))) (.head _) hng (hW.now (.head _) hw1) hO hTe (by have h9 := hz; false_or_by_contra; rename_i h8; rw [readP_long (by omega)] at h9; exact absurd h9 (by decide))
    have hGr : G rb := hGi rb (.head _)
    refine c_base (fun w2 hw2 => ?_)
    refine c_st (B' := _) (L' := [(rb, Rr ta tc T.length s.length (0) (0) (0)), (mb, mpS (seenL [])), (t3b, cel [.int .i64 0, .int .i64 0] 27)] ++ []) (fun w h => h) ?_
    refine c_loop (fun m e B L => ∃ (q k : Nat) (out : List Dt) (va : Option Addr) (vc : Nat) (ys : List Value) (W : Heap) (x : Bw), e 2 = .slice none 0 0 ∧ e 3 = .pointer (some ⟨t3b, 0, none⟩) ∧ e 6 = .pointer (some ⟨rb, 0, none⟩) ∧ e 7 = .map (some mb) ∧ e 8 = .slice va out.length vc ∧ B = [x, (w1, inL ([(rb, Rr ta tc T.length s.length 0 0 0), (mb, mpS []), (t3b, cel [.int .i64 0, .int .i64 0] 27)] ++ [])), (w, No)] ∧ L = [(rb, Rr ta tc T.length s.length (k) (0) (0)), (mb, mpS (seenL out)), (t3b, cel [.int .i64 0, .int .i64 0] 27)] ++ W ∧ k ≤ T.length ∧ fRead s = fAll s.length q out (T.drop k) ∧ T.length - k < q ∧ q ≤ 20001 ∧ Own 33 5 (.slice va out.length vc) ys out.length W ∧ Kt x w.heap.size (Mc 5 diC) (out.map diD) ys ∧ out.length ≤ k ∧ m = T.length - k + 1) _ ⟨20001, 0, [], none, 0, [], [], (w2, inL _), rfl, rfl, rfl, rfl, rfl, rfl, rfl, Nat.zero_le _, by rw [fRead_go hz, hTe]; rfl, by have := hPf.len; omega, by omega, Own.nil _ _, Mc.nil, Nat.zero_le _, rfl⟩ ?_
    rintro m e B L ⟨q, k, out, va, vc, ys, W, x, e2_1, e3_1, e6_1, e7_1, e8_1, rfl, rfl, hk, hG, hq, hq2, hO2, hKl, hol, rfl⟩
    have hlen := hPf.len; have hnb := nowT_b (k := k) hPf
    refine zq ?_; refine yA ?_; refine mP e6_1 ?_; refine w_nilc rfl ?_; refine zf fa61_0 rfl ?_; refine zl z59 rfl (fun _ h => zc 0 rfl rfl h) ?_; refine w_r (fun _ => R_len sl59 rfl) rfl rfl ?_; refine w_r (fun _ => R_gt rfl rfl) rfl rfl ?_; refine yB ?_; refine zD rfl (fun h5 => ?_) (fun h5 => ?_)
    · have hlt : k < T.length := (by omega); have h0 : T.drop k ≠ [] := (fun h9 => by have := congrArg List.length h9; rw [List.length_drop] at this; simp at this; omega); obtain ⟨q', rfl⟩ : ∃ q', q = q' + 1 := ⟨q - 1, by omega⟩
      refine zi ?_; refine zk ?_; refine zB ?_; refine yA ?_; refine mP e6_1 ?_; refine zC (fun w => zR Tryz.func22 rfl rfl rfl) rfl rfl (fun w h => fnow_ok rb s.length (k) (0) (0) G tc ta T w (hPf.now (.tail _ (.head _)) (fun j hj => hGi j (by simpa using hj)) h) (h.at_ 0 rfl) (by omega)) ?_; refine w_alloc zr64 (fun t9b gt9b ut9b => ?_)
      refine w_store 0 rfl z64 rfl rfl rfl rfl rfl rfl rfl ?_; refine yB ?_; refine zq ?_; refine zB ?_; refine yA ?_; refine zf fa64_0 rfl ?_; refine zl z5 rfl (fun _ h => zc 0 rfl rfl h) ?_; refine w_r (fun _ => R_ne rfl rfl) rfl rfl ?_; refine mB rfl ?_; refine zd (t := 38) rfl (fun h7 => ?_) (fun h7 => ?_)
      · refine zs rfl rfl (bT h7) ?_; refine zs rfl rfl (bT h7) ?_; refine zs rfl rfl (bT h7) ?_; refine zs rfl rfl (bT h7) ?_; refine w_r (v := .bool _) (fun _ => zT (bT h7) rfl) rfl rfl ?_; refine aB rfl ?_; refine yB ?_; refine zE rfl ?_; refine yA ?_; refine mP e6_1 ?_
        have hkn : ¬ ((nowT s.length (T.drop k)).1 = 1 ∧ nameOk (nowT s.length (T.drop k)).2.1 = true) := fun h9 => by first | omega | simp_all
        refine w_call1 1 rfl (fun w => zR Tryz.func24 rfl rfl rfl) rfl rfl (fun w h => ffail_ok 130 rb s.length (k) (0) (0) G tc ta T w (hPf.now (.tail _ (.head _)) (fun j hj => hGi j (by simpa using hj)) h) (h.at_ 1 rfl) (by omega) hGr) ?_; refine yB ?_; refine c_exit ?_; refine b_past rfl (zx (b_past rfl (zx (b_here rfl (zk ?_))))); refine zq ?_; refine yA ?_; refine mP e6_1 ?_; refine w_nilc rfl ?_; refine zf fa61_2 rfl ?_; refine zf fa27_0 rfl ?_; refine zl z25 rfl (fun _ h => zc 1 rfl rfl h) ?_; refine w_r (fun _ => R_ne rfl rfl) rfl rfl ?_; refine yB ?_; refine zD rfl (fun h8 => ?_) (fun h8 => ?_)
        · refine zq ?_; refine c_heldI [0, 1, 2] mixed ?_; refine zh (v := .pointer _) 0 rfl (by kernel_rfl) rfl rfl (fun w h => (h).pick [0, 1, 2] (by decide)) (fun w h => R_move e6_1) ?_; refine zh 1 rfl (by kernel_rfl) rfl rfl (fun w h => (h).pick [0, 1, 2] (by decide)) (fun w h => R_nil rfl) ?_; refine zh 2 rfl (by kernel_rfl) rfl rfl (fun w h => (h).pick [0, 1, 2] (by decide)) (fun w h => R_fa fa61_2 rfl) ?_; refine h_loadA 3 rfl (by kernel_rfl) (fun w h => (h).pick [0, 1, 2] (by decide)) z27 rfl (fun _ h => h.at_ 1 rfl) rfl ?_; refine zh (v := .slice _ _ _) 4 rfl (by kernel_rfl) rfl rfl (fun w h => (h).pick [0, 1, 2] (by decide)) (fun w h => R_assign rfl) ?_; refine h_one 5 (by kernel_rfl) (fun w h => (h).pick [0, 1, 2] (by decide)) ?_; refine o_store 3 rfl rfl z27 e3_1 rfl rfl rfl rfl rfl rfl ?_
          refine h_done (by kernel_rfl) (fun w h => (h).pick [0, 1, 2] (by decide)) ?_; refine zk ?_; refine ze ?_; refine zt (g_ret (?_))
          have hR : fRead s = .error (130, place s.length (T.drop (k))) := by rw [hG, fA_kind h0 hkn]
          rw [hR]
          refine r_fin (.inl rfl) rfl (.tmp rfl rfl (.agg rfl e3_1 z27 (fun _ h => h.at_ 3 rfl) rfl .nil)) ?_; exact fun w' hw => ⟨rfl, hw.fr (w, No) (.tail _ (.tail _ (.head _)))⟩
        · omega
      · refine zw rfl rfl (bF h7) ?_; refine zf fa64_1 rfl ?_; refine zw rfl rfl (bF h7) ?_; refine zl z9 rfl (fun _ h => zc 0 rfl rfl h) ?_; refine zw rfl rfl (bF h7) ?_; refine zC (fun w => zR Tryz.func23 rfl rfl rfl) rfl rfl (fun w h => Name_spec (nowT s.length (T.drop k)).2.1 (by omega) w (hW.now (.tail _ (.tail _ (.head _))) h)) ?_; refine zw rfl rfl (bF h7) ?_; refine w_r (fun _ => R_not rfl) rfl rfl ?_; refine w_r (v := .bool _) (fun _ => zF (bF h7) rfl) rfl rfl ?_; refine aB rfl ?_; refine yB ?_; refine c_condN rfl (fun h9 => ?_) (fun h9 => ?_)
        · refine yA ?_; refine mP e6_1 ?_
          have hkn : ¬ ((nowT s.length (T.drop k)).1 = 1 ∧ nameOk (nowT s.length (T.drop k)).2.1 = true) := fun h9 => by first | omega | simp_all
          refine w_call1 1 rfl (fun w => zR Tryz.func24 rfl rfl rfl) rfl rfl (fun w h => ffail_ok 130 rb s.length (k) (0) (0) G tc ta T w (hPf.now (.tail _ (.head _)) (fun j hj => hGi j (by simpa using hj)) h) (h.at_ 1 rfl) (by omega) hGr) ?_; refine yB ?_; refine c_exit ?_; refine b_past rfl (zx (b_past rfl (zx (b_here rfl (zk ?_))))); refine zq ?_; refine yA ?_; refine mP e6_1 ?_; refine w_nilc rfl ?_; refine zf fa61_2 rfl ?_; refine zf fa27_0 rfl ?_; refine zl z25 rfl (fun _ h => zc 1 rfl rfl h) ?_; refine w_r (fun _ => R_ne rfl rfl) rfl rfl ?_; refine yB ?_; refine zD rfl (fun h10 => ?_) (fun h10 => ?_)
          · refine zq ?_; refine c_heldI [0, 1, 2] mixed ?_; refine zh (v := .pointer _) 0 rfl (by kernel_rfl) rfl rfl (fun w h => (h).pick [0, 1, 2] (by decide)) (fun w h => R_move e6_1) ?_; refine zh 1 rfl (by kernel_rfl) rfl rfl (fun w h => (h).pick [0, 1, 2] (by decide)) (fun w h => R_nil rfl) ?_; refine zh 2 rfl (by kernel_rfl) rfl rfl (fun w h => (h).pick [0, 1, 2] (by decide)) (fun w h => R_fa fa61_2 rfl) ?_; refine h_loadA 3 rfl (by kernel_rfl) (fun w h => (h).pick [0, 1, 2] (by decide)) z27 rfl (fun _ h => h.at_ 1 rfl) rfl ?_; refine zh (v := .slice _ _ _) 4 rfl (by kernel_rfl) rfl rfl (fun w h => (h).pick [0, 1, 2] (by decide)) (fun w h => R_assign rfl) ?_; refine h_one 5 (by kernel_rfl) (fun w h => (h).pick [0, 1, 2] (by decide)) ?_; refine o_store 3 rfl rfl z27 e3_1 rfl rfl rfl rfl rfl rfl ?_
            refine h_done (by kernel_rfl) (fun w h => (h).pick [0, 1, 2] (by decide)) ?_; refine zk ?_; refine ze ?_; refine zt (g_ret (?_))
            have hR : fRead s = .error (130, place s.length (T.drop (k))) := by rw [hG, fA_kind h0 hkn]
            rw [hR]
            refine r_fin (.inl rfl) rfl (.tmp rfl rfl (.agg rfl e3_1 z27 (fun _ h => h.at_ 3 rfl) rfl .nil)) ?_; exact fun w' hw => ⟨rfl, hw.fr (w, No) (.tail _ (.tail _ (.head _)))⟩
          · omega
        · refine yA ?_; refine zm e7_1 ?_; refine zf fa64_1 rfl ?_; refine zl z9 rfl (fun _ h => zc 0 rfl rfl h) ?_
          have hkn : (nowT s.length (T.drop k)).1 = 1 ∧ nameOk (nowT s.length (T.drop k)).2.1 = true := ⟨by omega, by simp_all⟩
          cases hse : out.any (fun d => decide (d.nm = (nowT s.length (T.drop k)).2.1))
          · refine w_lookS (v := .int .i64 0) 2 rfl unm62 unk9 zr3 rfl rfl (by rw [seen_look, hse]; rfl) ?_; refine w_r (fun _ => R_gt rfl rfl) rfl rfl ?_; refine aB rfl ?_; refine yB ?_; refine c_condF (congrArg Value.bool (decide_eq_false (by decide))) ?_; refine zi ?_; refine b_on (zk ?_); refine yA ?_; refine zm e7_1 ?_; refine zf fa64_1 rfl ?_; refine zl z9 rfl (fun _ h => zc 0 rfl rfl h) ?_; refine w_updS 2 rfl unm62 unk9 rfl rfl rfl (seen_none hse) ?_; refine yC ?_; refine mP e6_1 ?_; refine mP e6_1 ?_; refine w_nilc rfl ?_; refine zf fa61_0 rfl ?_; refine zl z59 rfl (fun _ h => zc 1 rfl rfl h) ?_; refine w_r (fun _ => R_low3 sl59 rfl rfl hlt hPf.le) rfl rfl ?_; refine w_nilc rfl ?_
            refine zf fa61_0 rfl ?_; refine w_store 1 rfl z59 rfl rfl rfl rfl rfl rfl rfl ?_; refine yC ?_; refine zf fa64_1 rfl ?_; refine zl z9 rfl (fun _ h => zc 0 rfl rfl h) ?_; refine zf fa64_2 rfl ?_; refine zl z3 rfl (fun _ h => zc 0 rfl rfl h) ?_; refine w_r (fun _ => R_build bt33 rfl) rfl rfl ?_; refine w_alloc zr33 (fun db gdb udb => ?_)
            refine w_store 0 rfl z33 rfl rfl rfl rfl rfl rfl rfl ?_; refine yB ?_; refine zq ?_; refine yA ?_; refine mP e6_1 ?_
            cases heq : isG [61] (T.drop (k + 1))
            · refine w_call1 2 rfl (fun w => zR Tryz.func25 rfl rfl rfl) rfl rfl (fun w h => by have h9 := fwant_ok [61] rb s.length (k + 1) (0) (0) G tc ta T w (hPf.now (.tail _ (.head _)) (fun j hj => hGi j (by simpa using hj)) h) (h.at_ 2 rfl) (by omega) hGr; rw [heq, if_neg (by decide)] at h9; exact h9) ?_; refine w_r (fun _ => R_not rfl) rfl rfl ?_; refine mB rfl ?_; refine zs rfl rfl rfl ?_; refine zs rfl rfl rfl ?_; refine zs rfl rfl rfl ?_; refine w_r (v := .bool _) (fun _ => zT rfl rfl) rfl rfl ?_; refine mB rfl ?_; refine zs rfl rfl rfl ?_; refine zs rfl rfl rfl ?_; refine zs rfl rfl rfl ?_; refine w_r (v := .bool _) (fun _ => zT rfl rfl) rfl rfl ?_; refine yB ?_; refine zE rfl ?_; refine c_exit ?_
              refine zx (b_past rfl (zx (b_here rfl (zk ?_)))); refine zq ?_; refine yA ?_; refine mP e6_1 ?_; refine w_nilc rfl ?_; refine zf fa61_2 rfl ?_; refine zf fa27_0 rfl ?_; refine zl z25 rfl (fun _ h => zc 2 rfl rfl h) ?_; refine w_r (fun _ => R_ne rfl rfl) rfl rfl ?_; refine yB ?_; refine zD rfl (fun h12 => ?_) (fun h12 => ?_)
              · refine zq ?_; refine c_heldI [0, 1, 2, 3] mixed ?_; refine zh (v := .pointer _) 0 rfl (by kernel_rfl) rfl rfl (fun w h => (h).pick [0, 1, 2, 3] (by decide)) (fun w h => R_move e6_1) ?_; refine zh 1 rfl (by kernel_rfl) rfl rfl (fun w h => (h).pick [0, 1, 2, 3] (by decide)) (fun w h => R_nil rfl) ?_; refine zh 2 rfl (by kernel_rfl) rfl rfl (fun w h => (h).pick [0, 1, 2, 3] (by decide)) (fun w h => R_fa fa61_2 rfl) ?_; refine h_loadA 3 rfl (by kernel_rfl) (fun w h => (h).pick [0, 1, 2, 3] (by decide)) z27 rfl (fun _ h => h.at_ 2 rfl) rfl ?_; refine zh (v := .slice _ _ _) 4 rfl (by kernel_rfl) rfl rfl (fun w h => (h).pick [0, 1, 2, 3] (by decide)) (fun w h => R_assign rfl) ?_; refine h_one 5 (by kernel_rfl) (fun w h => (h).pick [0, 1, 2, 3] (by decide)) ?_; refine o_store 4 rfl rfl z27 e3_1 rfl rfl rfl rfl rfl rfl ?_
                refine h_done (by kernel_rfl) (fun w h => (h).pick [0, 1, 2, 3] (by decide)) ?_; refine zk ?_; refine ze ?_; refine zt (g_ret (?_))
                have hR : fRead s = .error (130, place s.length (T.drop (k + 1))) := by rw [hG, fA_eq h0 hkn hse (by rw [drop_tl]; exact heq), drop_tl]
                rw [hR]
                refine r_fin (.inl rfl) rfl (.tmp rfl rfl (.agg rfl e3_1 z27 (fun _ h => h.at_ 4 rfl) rfl .nil)) ?_; exact fun w' hw => ⟨rfl, hw.fr (w, No) (.tail _ (.tail _ (.head _)))⟩
              · omega
            · refine w_call1 2 rfl (fun w => zR Tryz.func25 rfl rfl rfl) rfl rfl (fun w h => by have h9 := fwant_ok [61] rb s.length (k + 1) (0) (0) G tc ta T w (hPf.now (.tail _ (.head _)) (fun j hj => hGi j (by simpa using hj)) h) (h.at_ 2 rfl) (by omega) hGr; rw [heq, if_pos rfl] at h9; exact h9) ?_
              have hltheq := isG_lt heq
              refine w_r (fun _ => R_not rfl) rfl rfl ?_; refine mB rfl ?_; refine zw rfl rfl rfl ?_; refine mP e6_1 ?_; refine zw rfl rfl rfl ?_
              have hGd : G db := hGn db (udb _ (.tail _ (.head _)))
              refine w_st (B' := _) (L' := [_, _, _, _, _] ++ W) (fun w h => St.pickT [_, _, _, _, _] h [2, 0, 1, 3, 4] (by decide)) ?_; refine w_st (B' := _) (L' := ((rb, Rr ta tc T.length s.length (k + 1 + 1) 0 0) :: (db, Dd (nowT s.length (T.drop k)).2.1 (nowT s.length (T.drop k)).2.2 false true (.slice none 0 0)) :: []) ++ ([_, _, _] ++ W)) (fun w h => h) ?_
              refine w_callXh (X := ((rb, Rr ta tc T.length s.length (k + 1 + 1) 0 0) :: (db, Dd (nowT s.length (T.drop k)).2.1 (nowT s.length (T.drop k)).2.2 false true (.slice none 0 0)) :: [])) (R := ValQ rb db tc s.length 0 0 (k + 1 + 1) ta T (nowT s.length (T.drop k)).2.1 (nowT s.length (T.drop k)).2.2 (fVal s.length q' (T.drop (k + 1 + 1)))) (s0 := w.heap.size) ValQ.mono (fun w => zR Tryz.func26 rfl rfl rfl) rfl rfl (fun w1 h => (h.fr _ (.tail _ (.tail _ (.head _)))).size) (fun w2 h N => value_ok rb db s.length (k + 1 + 1) 0 0 G tc q' ta T w2 (hPf.now (.tail _ (.head _)) (fun j hj => hGi j (by simpa using hj)) h) (by omega) (by omega) hGr hGd (fun j hj => hGn j (Nat.le_trans (h.fr _ (.tail _ (.head _))).size hj)) (nowT s.length (T.drop k)).2.1 (nowT s.length (T.drop k)).2.2 N (St.part (h.perm List.perm_append_comm))) (fun u9 X9 x9 hR9 => ?_)
              rcases hq9 : fVal s.length q' (T.drop (k + 1 + 1)) with fl9 | ⟨ar9, r9⟩
              · rw [hq9] at hR9; obtain ⟨rfl, k9, Y9, hk9, rfl⟩ := hR9; have hne9 := (fVal_er (Bnd.drop ((readP_at s).1) hTe _) (by rw [List.length_drop]; omega) hq9).1
                refine w_st (B' := _) (L' := [_, _]) (fun w h => h.drop (.cons_cons _ (.trans (.cons _ (.cons _ (.cons_cons _ (List.nil_sublist _)))) (List.sublist_append_right Y9 _)))) ?_; refine zw rfl rfl rfl ?_; refine w_r (fun _ => R_not rfl) rfl rfl ?_; refine w_r (v := .bool _) (fun _ => zF rfl rfl) rfl rfl ?_; refine mB rfl ?_; refine zs rfl rfl rfl ?_; refine zs rfl rfl rfl ?_; refine zs rfl rfl rfl ?_; refine w_r (v := .bool _) (fun _ => zT rfl rfl) rfl rfl ?_; refine yB ?_; refine zE rfl ?_; refine c_exit ?_; refine zx (b_past rfl (zx (b_here rfl (zk ?_)))); refine zq ?_; refine yA ?_; refine mP e6_1 ?_; refine w_nilc rfl ?_; refine zf fa61_2 rfl ?_; refine zf fa27_0 rfl ?_; refine zl z25 rfl (fun _ h => zc 0 rfl rfl h) ?_
                refine w_r (fun _ => R_ne rfl rfl) rfl rfl ?_; refine yB ?_; refine zD rfl (fun h13 => ?_) (fun h13 => ?_)
                · refine zq ?_; refine c_heldI [0] mixed ?_; refine zh (v := .pointer _) 0 rfl (by kernel_rfl) rfl rfl (fun w h => (h).pick [0] (by decide)) (fun w h => R_move e6_1) ?_; refine zh 1 rfl (by kernel_rfl) rfl rfl (fun w h => (h).pick [0] (by decide)) (fun w h => R_nil rfl) ?_; refine zh 2 rfl (by kernel_rfl) rfl rfl (fun w h => (h).pick [0] (by decide)) (fun w h => R_fa fa61_2 rfl) ?_; refine h_loadA 3 rfl (by kernel_rfl) (fun w h => (h).pick [0] (by decide)) z27 rfl (fun _ h => h.at_ 0 rfl) rfl ?_; refine zh (v := .slice _ _ _) 4 rfl (by kernel_rfl) rfl rfl (fun w h => (h).pick [0] (by decide)) (fun w h => R_assign rfl) ?_; refine h_one 5 (by kernel_rfl) (fun w h => (h).pick [0] (by decide)) ?_; refine o_store 1 rfl rfl z27 e3_1 rfl rfl rfl rfl rfl rfl ?_; refine h_done (by kernel_rfl) (fun w h => (h).pick [0] (by decide)) ?_
                  refine zk ?_; refine ze ?_; refine zt (g_ret (?_))
                  have hR : fRead s = .error (fl9.1, fl9.2) := by rw [hG, fA_val h0 hkn hse (by rw [drop_tl]; exact heq) (by rw [drop_tl, drop_tl]; exact hq9)]
                  rw [hR]
                  refine r_fin (.inl rfl) rfl (.tmp rfl rfl (.agg rfl e3_1 z27 (fun _ h => h.at_ 1 rfl) rfl .nil)) ?_; exact fun w' hw => ⟨rfl, hw.fr (w, No) (.tail _ (.tail _ (.tail _ (.head _))))⟩
                · omega
              · rw [hq9] at hR9; obtain ⟨rfl, k9, v9, xs9, W9, rfl, hk9, hkl9, rfl, hO9, hK9, hnl9⟩ := hR9; obtain ⟨va9, vc9, rfl⟩ := hO9.slice
                refine zw rfl rfl rfl ?_; refine w_r (fun _ => R_not rfl) rfl rfl ?_; refine w_r (v := .bool _) (fun _ => zF rfl rfl) rfl rfl ?_; refine mB rfl ?_; refine zw rfl rfl rfl ?_; refine mP e6_1 ?_; refine zw rfl rfl rfl ?_
                cases hsc : isG [59] (T.drop (k9))
                · refine w_call1 0 rfl (fun w => zR Tryz.func25 rfl rfl rfl) rfl rfl (fun w h => by have h9 := fwant_ok [59] rb s.length (k9) (0) (0) G tc ta T w (hPf.now (.tail _ (.tail _ (.head _))) (fun j hj => hGi j (by simpa using hj)) h) (h.at_ 0 rfl) (by omega) hGr; rw [hsc, if_neg (by decide)] at h9; exact h9) ?_; refine w_st (B' := _) (L' := [_, _]) (fun w h => h.drop (.cons_cons _ (.cons _ (.trans (.cons _ (.cons _ (.cons_cons _ (List.nil_sublist _)))) (List.sublist_append_right W9 _))))) ?_; refine zw rfl rfl rfl ?_; refine w_r (fun _ => R_not rfl) rfl rfl ?_; refine w_r (v := .bool _) (fun _ => zF rfl rfl) rfl rfl ?_; refine yB ?_; refine zE rfl ?_; refine c_exit ?_; refine zx (b_past rfl (zx (b_here rfl (zk ?_)))); refine zq ?_; refine yA ?_; refine mP e6_1 ?_
                  refine w_nilc rfl ?_; refine zf fa61_2 rfl ?_; refine zf fa27_0 rfl ?_; refine zl z25 rfl (fun _ h => zc 0 rfl rfl h) ?_; refine w_r (fun _ => R_ne rfl rfl) rfl rfl ?_; refine yB ?_; refine zD rfl (fun h14 => ?_) (fun h14 => ?_)
                  · refine zq ?_; refine c_heldI [0] mixed ?_; refine zh (v := .pointer _) 0 rfl (by kernel_rfl) rfl rfl (fun w h => (h).pick [0] (by decide)) (fun w h => R_move e6_1) ?_; refine zh 1 rfl (by kernel_rfl) rfl rfl (fun w h => (h).pick [0] (by decide)) (fun w h => R_nil rfl) ?_; refine zh 2 rfl (by kernel_rfl) rfl rfl (fun w h => (h).pick [0] (by decide)) (fun w h => R_fa fa61_2 rfl) ?_; refine h_loadA 3 rfl (by kernel_rfl) (fun w h => (h).pick [0] (by decide)) z27 rfl (fun _ h => h.at_ 0 rfl) rfl ?_; refine zh (v := .slice _ _ _) 4 rfl (by kernel_rfl) rfl rfl (fun w h => (h).pick [0] (by decide)) (fun w h => R_assign rfl) ?_; refine h_one 5 (by kernel_rfl) (fun w h => (h).pick [0] (by decide)) ?_; refine o_store 1 rfl rfl z27 e3_1 rfl rfl rfl rfl rfl rfl ?_; refine h_done (by kernel_rfl) (fun w h => (h).pick [0] (by decide)) ?_
                    refine zk ?_; refine ze ?_; refine zt (g_ret (?_))
                    have hR : fRead s = .error (130, place s.length (T.drop (k9))) := by rw [hG, fA_semi h0 hkn hse (by rw [drop_tl]; exact heq) (by rw [drop_tl, drop_tl]; exact hq9) hsc]
                    rw [hR]
                    refine r_fin (.inl rfl) rfl (.tmp rfl rfl (.agg rfl e3_1 z27 (fun _ h => h.at_ 1 rfl) rfl .nil)) ?_; exact fun w' hw => ⟨rfl, hw.fr (w, No) (.tail _ (.tail _ (.tail _ (.head _))))⟩
                  · omega
                · refine w_call1 0 rfl (fun w => zR Tryz.func25 rfl rfl rfl) rfl rfl (fun w h => by have h9 := fwant_ok [59] rb s.length (k9) (0) (0) G tc ta T w (hPf.now (.tail _ (.tail _ (.head _))) (fun j hj => hGi j (by simpa using hj)) h) (h.at_ 0 rfl) (by omega) hGr; rw [hsc, if_pos rfl] at h9; exact h9) ?_
                  have hlthsc := isG_lt hsc
                  refine zw rfl rfl rfl ?_; refine w_r (fun _ => R_not rfl) rfl rfl ?_; refine w_r (v := .bool _) (fun _ => zF rfl rfl) rfl rfl ?_; refine yB ?_; refine c_condF rfl ?_; refine zi ?_; refine zk ?_; refine zr ?_; refine mS e8_1 ?_; refine w_loadA z33 rfl (fun _ h => h.at_ 1 rfl) rfl ?_; refine zS slt24 (by decide) rfl rfl (fun b15 gb15 ub15 => ?_)
                  refine w_st (B' := _) (L' := ([_, _, _] ++ (W9 ++ [_, _, _])) ++ (W ++ [])) (fun w h => by rw [List.append_nil, List.append_assoc, List.append_assoc]; exact h) ?_; refine w_app (L := []) (W := W) (news := diE (diD ⟨(nowT s.length (T.drop k)).2.1, (nowT s.length (T.drop k)).2.2, ar9.1, ar9.2.2, ar9.2.1⟩) (va9, vc9)) ([_, _, _] ++ (W9 ++ [_, _, _])) slt24 (by decide) rfl hO2 rfl rfl (row_own 0 rfl (fun j u h => by rw [show diE (diD ⟨(nowT s.length (T.drop k)).2.1, (nowT s.length (T.drop k)).2.2, ar9.1, ar9.2.2, ar9.2.1⟩) (va9, vc9) = [str (nowT s.length (T.drop k)).2.1, .int .i64 ((nowT s.length (T.drop k)).2.2 : Nat), .bool ar9.1, .bool ar9.2.2, .slice va9 ar9.2.1.length vc9] by simp only [diE, diD, List.length_map]] at h; exact h)) rfl (by decide) (by omega) (by omega) (fun v2 W2 hO3 => ?_)
                  obtain ⟨a2, c2, rfl⟩ := hO3.slice
                  refine za (v := .slice a2 (out.length + 1) c2) rfl ?_; refine zn ?_; refine b_on (?_)
                  refine k_st (B' := _) (L' := [_, (rb, Rr ta tc T.length s.length (k9 + 1) 0 0), _] ++ (W9 ++ ([_, (mb, mpS (seenL (out ++ [(⟨(nowT s.length (T.drop k)).2.1, (nowT s.length (T.drop k)).2.2, ar9.1, ar9.2.2, ar9.2.1⟩ : Dt)]))), (t3b, cel [.int .i64 0, .int .i64 0] 27)] ++ W2))) (fun w h => by rw [show seenL (out ++ [(⟨(nowT s.length (T.drop k)).2.1, (nowT s.length (T.drop k)).2.2, ar9.1, ar9.2.2, ar9.2.1⟩ : Dt)]) = seenL out ++ [((nowT s.length (T.drop k)).2.1, Value.int .i64 1)] from List.map_append]; simp only [List.append_nil, List.append_assoc] at h; exact h) ?_
                  refine k_join (L' := ([(rb, Rr ta tc T.length s.length (k9 + 1) 0 0), (mb, mpS (seenL (out ++ [(⟨(nowT s.length (T.drop k)).2.1, (nowT s.length (T.drop k)).2.2, ar9.1, ar9.2.2, ar9.2.1⟩ : Dt)]))), (t3b, cel [.int .i64 0, .int .i64 0] 27)] ++ W2)) (B0 := [(w1, inL ([(rb, Rr ta tc T.length s.length 0 0 0), (mb, mpS []), (t3b, cel [.int .i64 0, .int .i64 0] 27)] ++ [])), (w, No)]) (.cons _ (.cons_cons _ (.cons _ (.trans (.cons _ (.cons_cons _ (.cons_cons _ (List.Sublist.refl _)))) (List.sublist_append_right W9 _))))) (fun x hx => by rcases List.mem_cons.1 hx with rfl | hx; (exact (.tail _ (.tail _ (.head _)))); (rcases List.mem_cons.1 hx with rfl | hx; (exact (.tail _ (.tail _ (.tail _ (.head _))))); (exact absurd hx (by simp)))) (fun w5 hw5 => ?_)
                  have hA5 : Kt (w5, inL ([(rb, Rr ta tc T.length s.length (k9 + 1) 0 0), (mb, mpS (seenL (out ++ [(⟨(nowT s.length (T.drop k)).2.1, (nowT s.length (T.drop k)).2.2, ar9.1, ar9.2.2, ar9.2.1⟩ : Dt)]))), (t3b, cel [.int .i64 0, .int .i64 0] 27)] ++ W2)) w.heap.size (Mc 5 diC) (out.map diD) ys := (hKl.now (TL.cells TL.dic) (.tail _ (.head _)) hw5).sub (TL.cells TL.dic) (.cons _ (.cons_cons _ (.cons _ (.trans (.cons _ (.cons_cons _ (.cons_cons _ (List.Sublist.refl _)))) (List.sublist_append_right W9 _)))))
                  have hN5 : Kt (w5, inL ([(rb, Rr ta tc T.length s.length (k9 + 1) 0 0), (mb, mpS (seenL (out ++ [(⟨(nowT s.length (T.drop k)).2.1, (nowT s.length (T.drop k)).2.2, ar9.1, ar9.2.2, ar9.2.1⟩ : Dt)]))), (t3b, cel [.int .i64 0, .int .i64 0] 27)] ++ W2)) w.heap.size (Mc 3 rwC) (ar9.2.1.map rwR) xs9 := ((show Kt x9 w.heap.size (Mc 3 rwC) (ar9.2.1.map rwR) xs9 from hK9).now (TL.cells TL.rwc) (.head _) hw5).sub (TL.cells TL.rwc) (.cons _ (.cons_cons _ (.cons _ (.trans (.cons _ (.cons_cons _ (.cons_cons _ (List.Sublist.refl _)))) (List.sublist_append_right W9 _)))))
                  have hD5 : Kt (w5, inL ([(rb, Rr ta tc T.length s.length (k9 + 1) 0 0), (mb, mpS (seenL (out ++ [(⟨(nowT s.length (T.drop k)).2.1, (nowT s.length (T.drop k)).2.2, ar9.1, ar9.2.2, ar9.2.1⟩ : Dt)]))), (t3b, cel [.int .i64 0, .int .i64 0] 27)] ++ W2)) w.heap.size diT (diD (⟨(nowT s.length (T.drop k)).2.1, (nowT s.length (T.drop k)).2.2, ar9.1, ar9.2.2, ar9.2.1⟩ : Dt)) (va9, vc9) := row_kt (A1 := [_, _, _]) (A2 := [_, _, _] ++ W2) (l := ar9.2.1.map rwR) hw5 (.cons _ (.cons_cons _ (.cons _ (.cons _ (.cons_cons _ (.cons_cons _ (List.Sublist.refl _))))))) (.tail _ (.tail _ (.tail _ (.head _)))) (by rw [List.length_map]; exact hO9) hN5
                  exact k_again _ (by omega) ⟨q', k9 + 1, out ++ [(⟨(nowT s.length (T.drop k)).2.1, (nowT s.length (T.drop k)).2.2, ar9.1, ar9.2.2, ar9.2.1⟩ : Dt)], a2, c2, _, W2, (w5, inL _), e2_1, e3_1, e6_1, e7_1, (by rw [List.length_append, List.length_singleton]; rfl), rfl, rfl, by omega, (by rw [hG, fA_ok h0 hkn hse (by rw [drop_tl]; exact heq) (by rw [drop_tl, drop_tl]; exact hq9) hsc, drop_tl, place_now]), by omega, by omega, by rw [List.length_append, List.length_singleton]; exact hO3, (by rw [List.map_append]; exact hA5.snocI hD5 (by rw [List.length_map]; exact hO2.1)), by rw [List.length_append, List.length_singleton]; omega, rfl⟩
          · refine w_lookS (v := .int .i64 1) 2 rfl unm62 unk9 zr3 rfl rfl (by rw [seen_look, hse]; rfl) ?_; refine w_r (fun _ => R_gt rfl rfl) rfl rfl ?_; refine aB rfl ?_; refine yB ?_; refine zE (congrArg Value.bool (decide_eq_true (by decide))) ?_; refine yA ?_; refine mP e6_1 ?_; refine w_call1 1 rfl (fun w => zR Tryz.func24 rfl rfl rfl) rfl rfl (fun w h => ffail_ok 8 rb s.length (k) (0) (0) G tc ta T w (hPf.now (.tail _ (.head _)) (fun j hj => hGi j (by simpa using hj)) h) (h.at_ 1 rfl) (by omega) hGr) ?_; refine yB ?_; refine c_exit ?_; refine b_past rfl (zx (b_past rfl (zx (b_here rfl (zk ?_))))); refine zq ?_; refine yA ?_
            refine mP e6_1 ?_; refine w_nilc rfl ?_; refine zf fa61_2 rfl ?_; refine zf fa27_0 rfl ?_; refine zl z25 rfl (fun _ h => zc 1 rfl rfl h) ?_; refine w_r (fun _ => R_ne rfl rfl) rfl rfl ?_; refine yB ?_; refine zD rfl (fun h16 => ?_) (fun h16 => ?_)
            · refine zq ?_; refine c_heldI [0, 1, 2] mixed ?_; refine zh (v := .pointer _) 0 rfl (by kernel_rfl) rfl rfl (fun w h => (h).pick [0, 1, 2] (by decide)) (fun w h => R_move e6_1) ?_; refine zh 1 rfl (by kernel_rfl) rfl rfl (fun w h => (h).pick [0, 1, 2] (by decide)) (fun w h => R_nil rfl) ?_; refine zh 2 rfl (by kernel_rfl) rfl rfl (fun w h => (h).pick [0, 1, 2] (by decide)) (fun w h => R_fa fa61_2 rfl) ?_; refine h_loadA 3 rfl (by kernel_rfl) (fun w h => (h).pick [0, 1, 2] (by decide)) z27 rfl (fun _ h => h.at_ 1 rfl) rfl ?_; refine zh (v := .slice _ _ _) 4 rfl (by kernel_rfl) rfl rfl (fun w h => (h).pick [0, 1, 2] (by decide)) (fun w h => R_assign rfl) ?_; refine h_one 5 (by kernel_rfl) (fun w h => (h).pick [0, 1, 2] (by decide)) ?_; refine o_store 3 rfl rfl z27 e3_1 rfl rfl rfl rfl rfl rfl ?_
              refine h_done (by kernel_rfl) (fun w h => (h).pick [0, 1, 2] (by decide)) ?_; refine zk ?_; refine ze ?_; refine zt (g_ret (?_))
              have hR : fRead s = .error (8, place s.length (T.drop (k))) := by rw [hG, fA_there h0 hkn hse]
              rw [hR]
              refine r_fin (.inl rfl) rfl (.tmp rfl rfl (.agg rfl e3_1 z27 (fun _ h => h.at_ 3 rfl) rfl .nil)) ?_; exact fun w' hw => ⟨rfl, hw.fr (w, No) (.tail _ (.tail _ (.head _)))⟩
            · omega
    · have hke : k = T.length := (by omega); obtain ⟨q', rfl⟩ : ∃ q', q = q' + 1 := ⟨q - 1, by omega⟩
      refine c_exit ?_; refine zx (zx (b_here rfl (zk ?_))); refine zq ?_; refine yA ?_; refine mP e6_1 ?_; refine w_nilc rfl ?_; refine zf fa61_2 rfl ?_; refine zf fa27_0 rfl ?_; refine zl z25 rfl (fun _ h => zc 0 rfl rfl h) ?_; refine w_r (fun _ => R_ne rfl rfl) rfl rfl ?_; refine yB ?_; refine zD rfl (fun h17 => ?_) (fun h17 => ?_)
      · omega
      · refine zi ?_; refine zk ?_; refine yA ?_; refine mS e8_1 ?_; refine w_r (fun _ => R_build bt27 rfl) rfl rfl ?_; refine za (v := .slice _ _ _) rfl ?_; refine w_store 2 rfl z27 e3_1 rfl rfl rfl rfl rfl rfl ?_; refine yB ?_; refine ze ?_; refine g_ret (?_)
        have hR : fRead s = .ok out := by rw [hG, hke, List.drop_length]; exact fA_end
        rw [hR]
        refine k_st (B' := _) (L' := [_, _, _] ++ W) (fun w h => h) ?_; refine r_fin (.inl rfl) rfl (.tmp rfl rfl (.agg rfl e3_1 z27 (fun _ h => h.at_ 2 rfl) rfl .nil)) ?_; exact fun w' hw => ⟨⟨(va, vc), rfl, by obtain ⟨b, hb, hr⟩ := own_row (l := out.map diD) (by rw [List.length_map]; exact hO2) (fun p hp => hw.own p (List.mem_append_right _ hp)) (N := Nn w w') (fun p hp => ⟨(hw.ok p (List.mem_append_right _ hp) (w, No) (.tail _ (.tail _ (.head _)))).elim (fun h => h.elim) (fun h => h), lt_of_blk (hw.own p (List.mem_append_right _ hp))⟩) (hKl.fin (TL.cells TL.dic) (.head _) hw); simp only [Value.slice.injEq] at hb; obtain ⟨h1, _, h2⟩ := hb; have h3 : b = (va, vc) := Prod.ext h1.symm h2.symm; rw [h3] at hr; exact hr⟩, hw.fr (w, No) (.tail _ (.tail _ (.head _)))⟩
end Go.Proofs.YtikdkendinnalaaGreatDoor
end
