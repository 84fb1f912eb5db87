import Derived.Test.YtmcajoiembfjiaaDoorTokgT
import Derived.Test.YtmcajoiembfjiaaDoorTokf
namespace Go.Proofs.YtmcajoiembfjiaaDoor
open Go.RowKit Go.Sx
open Go.Tok

set_option maxRecDepth 100000 in
set_option maxHeartbeats 400000 in
theorem rRead_spec (s : List UInt8) (hs : s.length ≤ 100000) (w : World) :
    Ret Tryd.prog 10 #[str s] w (fun v w' => ∃ W, RdV (readP s) v W ∧ New w w' W) := by
  have g0 := skipTo_le (s := s) (Nat.zero_le _)
  refine enter (S := No) (l := [_]) (L := []) 84 Tryd.func10 rfl rfl rfl (St.start w No) ?_
  refine c_seq ?_; refine c_region ?_; refine w_asg (v := .slice _ _ _) rfl ?_
  refine w_alloc zr26 (fun t3b gt3b ut3b => ?_)
  refine w_nil ?_; refine k_on ?_; refine c_seq ?_; refine c_seq ?_; refine c_region ?_; refine w_move (v := str _) rfl ?_; refine w_r (fun _ => R_slen st9 rfl (by omega)) rfl rfl ?_
  refine w_r (fun _ => R_gt rfl rfl) rfl rfl ?_; refine w_nil ?_; refine k_on ?_
  refine c_condD rfl (fun h2 => ?_) (fun h2 => ?_)
  · refine c_seq ?_; refine c_region ?_; refine w_r (fun _ => R_build bt26 rfl) rfl rfl ?_; refine w_asg (v := .slice _ _ _) rfl ?_; refine w_store 0 rfl z26 rfl rfl rfl rfl rfl rfl rfl ?_
    refine w_nil ?_; refine k_on ?_; refine c_ret ?_; refine k_ret (?_)
    refine r_fin (.inl rfl) rfl (.tmp rfl rfl (.agg rfl rfl z26 (fun _ h => h.at_ 0 rfl) rfl .nil)) ?_
    exact fun w' hw => ⟨[], by rw [readP_long (by omega)]; exact ⟨none, 0, rfl, Own.nil _ _⟩, .none (hw.fr _ (.head _))⟩
  · refine c_skip ?_; refine k_on ?_; refine c_seq ?_; refine c_region ?_; refine w_asg (v := .slice _ _ _) rfl ?_; refine w_nil ?_; refine k_on ?_; refine c_seq ?_; refine c_region ?_
    refine w_move (v := str _) rfl ?_; refine w_call (fun w => R_call Tryd.func15 rfl rfl rfl) rfl rfl (fun w h => rskip_spec s 0 hs (by omega) w) ?_; refine w_asg (v := .int _ _) rfl ?_
    refine w_nil ?_; refine k_on ?_; refine c_seq ?_; refine c_block ?_
    refine c_loop (fun m e B L => ∃ (k : Nat) (x : Rd) (a0 : Option Addr) (c0 : Nat) (W : Heap), e 0 = str s ∧ e 3 = .pointer (some ⟨t3b, 0, none⟩) ∧ e 4 = .slice a0 x.1.length c0 ∧ e 5 = .int .i64 (k : Nat) ∧ B = [(w, No)] ∧ L = (t3b, cel [.int .i64 0, .int .i64 0] 26) :: (W ++ []) ∧ k ≤ s.length ∧ Toks (.slice a0 x.1.length c0) x.1 W ∧ x.1.length ≤ 6000 ∧ x.2 = (0, 0) ∧ lexS readN s k x = readS s ∧ m = s.length - k) _ ⟨skipTo s 0, ([], 0, 0), none, 0, [], rfl, rfl, rfl, rfl, rfl, rfl, g0.1, Own.nil _ _, Nat.zero_le _, rfl, rfl, rfl⟩ ?_
    rintro m e B L ⟨k, x, a0, c0, W, e0_1, e3_1, e4_1, e5_1, rfl, rfl, hk, hT, hx6, hx0, hr, rfl⟩
    have g2 := tok_le hk
    have g6 := signLen_le hk
    refine c_seq ?_; refine c_seq ?_; refine c_region ?_; refine w_move (v := .int _ _) e5_1 ?_; refine w_move (v := str _) e0_1 ?_; refine w_r (fun _ => R_slen st9 rfl (by omega)) rfl rfl ?_
    refine w_r (fun _ => R_lt rfl rfl) rfl rfl ?_; refine w_nil ?_; refine k_on ?_
    refine c_condD rfl (fun h3 => ?_) (fun h3 => ?_)
    · have hlt : k < s.length := by omega
      refine c_skip ?_; refine k_on ?_; refine c_block ?_; refine c_seq ?_; refine c_region ?_; refine w_move (v := .int _ _) e5_1 ?_; refine w_r (fun _ => R_build bt35 rfl) rfl rfl ?_
      refine w_alloc zr35 (fun t6b gt6b ut6b => ?_)
      refine w_store 0 rfl z35 rfl rfl rfl rfl rfl rfl rfl ?_; refine w_nil ?_; refine k_on ?_; refine c_seq ?_; refine c_region ?_; refine w_move (v := .int _ _) e5_1 ?_
      refine w_asg (v := .int _ _) rfl ?_; refine w_asg (v := .bool _) rfl ?_; refine w_nil ?_; refine k_on ?_
      refine c_cut (fun e B L => ∃ (kd q : Nat), e 0 = str s ∧ e 3 = .pointer (some ⟨t3b, 0, none⟩) ∧ e 4 = .slice a0 x.1.length c0 ∧ e 5 = .int .i64 (k : Nat) ∧ e 6 = .pointer (some ⟨t6b, 0, none⟩) ∧ e 7 = .int .i64 (q : Nat) ∧ e 8 = .bool (tokAt s k).2.2 ∧ B = [(w, No)] ∧ L = (t6b, cel [.int .u8 (kd : Nat), str ([]), .int .i64 (k : Nat)] 35) :: (t3b, cel [.int .i64 0, .int .i64 0] 26) :: (W ++ []) ∧ ((tokAt s k).2.2 = true → kd = (tokAt s k).1 ∧ q = (tokAt s k).2.1)) ?_ ?_
      · refine c_seq ?_; refine c_region ?_; refine w_move (v := str _) e0_1 ?_; refine w_move (v := .int _ _) e5_1 ?_; refine w_call (fun w => R_call Tryd.func16 rfl rfl rfl) rfl rfl (fun w h => rletter_spec s k hs (by omega) w) ?_
        refine w_move (v := .bool _) rfl ?_
        refine w_split (t := 25) rfl (fun h5 => ?_) (fun h5 => ?_)
        · refine w_want rfl rfl (congrArg Value.bool h5) ?_; refine w_move (v := str _) e0_1 ?_; refine w_want rfl rfl (congrArg Value.bool h5) ?_; refine w_move (v := .int _ _) e5_1 ?_
          refine w_want rfl rfl (congrArg Value.bool h5) ?_; refine w_sidx st9 rfl rfl (by omega) ?_; refine w_want rfl rfl (congrArg Value.bool h5) ?_; refine w_r (fun _ => R_ne rfl rfl) rfl rfl ?_
          refine w_r (v := .bool _) (fun _ => R_pickT (congrArg Value.bool h5) rfl) rfl rfl ?_; refine w_nil ?_; refine k_on ?_
          refine c_condD rfl (fun h6 => ?_) (fun h6 => ?_)
          · have hnb : nameB s k = true := by rw [nameB, h5, atP_in hlt, eq_int' 95 95 rfl, decide_eq_false (by omega)]; rfl
            refine c_seq ?_; refine c_region ?_; refine w_fa fa35_0 rfl ?_; refine w_store 0 rfl z5 rfl rfl rfl rfl rfl rfl rfl ?_; refine w_nil ?_; refine k_on ?_; refine c_block ?_
            refine c_loop (fun m e B L => ∃ (q : Nat), e 0 = str s ∧ e 3 = .pointer (some ⟨t3b, 0, none⟩) ∧ e 4 = .slice a0 x.1.length c0 ∧ e 5 = .int .i64 (k : Nat) ∧ e 6 = .pointer (some ⟨t6b, 0, none⟩) ∧ e 7 = .int .i64 (q : Nat) ∧ e 8 = .bool true ∧ B = [(w, No)] ∧ L = (t6b, cel [.int .u8 (1 : Nat), str ([]), .int .i64 (k : Nat)] 35) :: (t3b, cel [.int .i64 0, .int .i64 0] 26) :: (W ++ []) ∧ k ≤ q ∧ q ≤ s.length ∧ runTo wordB s q = runTo wordB s k ∧ m = s.length - q) _ ⟨k, e0_1, e3_1, e4_1, e5_1, rfl, rfl, rfl, rfl, rfl, by omega, hk, rfl, rfl⟩ ?_
            rintro m e B L ⟨q, e0_3, e3_3, e4_3, e5_3, e6_3, e7_3, e8_3, rfl, rfl, hkq, hq, hw0, rfl⟩
            refine c_seq ?_; refine c_seq ?_; refine c_region ?_; refine w_move (v := str _) e0_3 ?_; refine w_move (v := .int _ _) e7_3 ?_; refine w_call (fun w => R_call Tryd.func16 rfl rfl rfl) rfl rfl (fun w h => rletter_spec s q hs (by omega) w) ?_
            refine w_move (v := .bool _) rfl ?_
            refine w_split (t := 35) rfl (fun h7 => ?_) (fun h7 => ?_)
            · refine w_skip rfl rfl (congrArg Value.bool h7) ?_; refine w_skip rfl rfl (congrArg Value.bool h7) ?_; refine w_skip rfl rfl (congrArg Value.bool h7) ?_; refine w_r (v := .bool _) (fun _ => R_pickT (congrArg Value.bool h7) rfl) rfl rfl ?_
              refine w_nil ?_; refine k_on ?_; refine c_condT rfl ?_; refine c_skip ?_; refine k_on ?_; refine c_block ?_; refine c_region ?_; refine w_move (v := .int _ _) e7_3 ?_
              refine w_r (fun _ => R_addi rfl rfl (by omega)) rfl rfl ?_; refine w_asg (v := .int _ _) rfl ?_; refine w_nil ?_; refine b_on (?_)
              have hw1 : atP wordB s q = true := by rw [at_word]; simp [*]
              have hw2 := atP_lt hw1
              exact k_again _ (by omega) ⟨q + 1, e0_3, e3_3, e4_3, e5_3, e6_3, rfl, e8_3, rfl, rfl, by omega, by omega, by rw [← hw0, runTo_step hw1], rfl⟩
            · refine w_want rfl rfl (congrArg Value.bool h7) ?_; refine w_move (v := str _) e0_3 ?_; refine w_want rfl rfl (congrArg Value.bool h7) ?_; refine w_move (v := .int _ _) e7_3 ?_
              refine w_want rfl rfl (congrArg Value.bool h7) ?_; refine w_call (fun w => R_call Tryd.func17 rfl rfl rfl) rfl rfl (fun w h => rdigit_spec s q hs (by omega) w) ?_
              refine w_r (v := .bool _) (fun _ => R_pickF (congrArg Value.bool h7) rfl) rfl rfl ?_; refine w_nil ?_; refine k_on ?_
              refine c_cond rfl (fun h8 => ?_) (fun h8 => ?_)
              · refine c_skip ?_; refine k_on ?_; refine c_block ?_; refine c_region ?_; refine w_move (v := .int _ _) e7_3 ?_; refine w_r (fun _ => R_addi rfl rfl (by omega)) rfl rfl ?_
                refine w_asg (v := .int _ _) rfl ?_; refine w_nil ?_; refine b_on (?_)
                have hw1 : atP wordB s q = true := by rw [at_word]; simp [*]
                have hw2 := atP_lt hw1
                exact k_again _ (by omega) ⟨q + 1, e0_3, e3_3, e4_3, e5_3, e6_3, rfl, e8_3, rfl, rfl, by omega, by omega, by rw [← hw0, runTo_step hw1], rfl⟩
              · refine c_exit ?_; refine k_exit (k_exit (b_here rfl (?_)))
                have hx : atP wordB s q = false := by rw [at_word]; simp [*]
                rw [runTo_stop hx] at hw0
                have e0 : tokAt s k = (1, q, true) := by rw [tokAt, if_pos hnb, ← hw0]
                exact k_mid ⟨1, q, e0_3, e3_3, e4_3, e5_3, e6_3, e7_3, by rw [e0]; exact e8_3, rfl, rfl, by rw [e0]; exact fun _ => ⟨rfl, rfl⟩⟩
          · have hnb : nameB s k = false := by rw [nameB, h5, atP_in hlt, eq_int' 95 95 rfl, decide_eq_true (by omega)]; rfl
            refine c_seq ?_; refine c_region ?_; refine w_move (v := str _) e0_1 ?_; refine w_move (v := .int _ _) e5_1 ?_; refine w_call (fun w => R_call Tryd.func17 rfl rfl rfl) rfl rfl (fun w h => rdigit_spec s k hs (by omega) w) ?_
            refine w_nil ?_; refine k_on ?_
            refine c_cond rfl (fun h9 => ?_) (fun h9 => ?_)
            · refine c_seq ?_; refine c_region ?_; refine w_fa fa35_0 rfl ?_; refine w_store 0 rfl z5 rfl rfl rfl rfl rfl rfl rfl ?_; refine w_nil ?_; refine k_on ?_; refine c_region ?_
              refine w_move (v := str _) e0_1 ?_; refine w_move (v := .int _ _) e5_1 ?_; refine w_call (fun w => R_call Tryd.func18 rfl rfl rfl) rfl rfl (fun w h => rnumber_spec s k hs (by omega) w) ?_
              refine w_move rfl ?_; refine w_r (fun _ => R_extract rfl rfl) rfl rfl ?_; refine w_r (fun _ => R_extract rfl rfl) rfl rfl ?_; refine w_asg (v := .int _ _) rfl ?_
              refine w_asg (v := .bool _) rfl ?_; refine w_nil ?_
              have e0 : tokAt s k = (2, numEnd s k, numFine s k) := by rw [tokAt, if_neg (by rw [hnb]; simp), if_pos h9]
              exact k_mid ⟨2, numEnd s k, e0_1, e3_1, e4_1, e5_1, rfl, rfl, by rw [e0]; rfl, rfl, rfl, by rw [e0]; exact fun _ => ⟨rfl, rfl⟩⟩
            · refine c_seq ?_; refine c_region ?_; refine w_fa fa35_0 rfl ?_; refine w_store 0 rfl z5 rfl rfl rfl rfl rfl rfl rfl ?_; refine w_nil ?_; refine k_on ?_; refine c_seq ?_
              refine c_region ?_; refine w_move (v := .int _ _) e5_1 ?_; refine w_move (v := str _) e0_1 ?_; refine w_move (v := .int _ _) e5_1 ?_; refine w_call (fun w => R_call Tryd.func19 rfl rfl rfl) rfl rfl (fun w h => rsign_spec s k hs (by omega) w) ?_
              refine w_r (fun _ => R_addi rfl rfl (by omega)) rfl rfl ?_; refine w_asg (v := .int _ _) rfl ?_; refine w_nil ?_; refine k_on ?_; refine c_region ?_; refine w_move (v := .int _ _) rfl ?_
              refine w_move (v := .int _ _) e5_1 ?_; refine w_r (fun _ => R_gt rfl rfl) rfl rfl ?_; refine w_asg (v := .bool _) rfl ?_; refine w_nil ?_
              have e0 : tokAt s k = if signLen s k = 0 then (0, k, false) else (3, k + signLen s k, true) := by rw [tokAt, if_neg (by rw [hnb]; simp), if_neg (by rw [h9]; simp)]
              have e8 : (tokAt s k).2.2 = decide (((k : Nat) : Int) + (signLen s k : Int) > (k : Int)) := by rw [e0]; split <;> simp <;> omega
              exact k_mid ⟨3, (k + signLen s k), e0_1, e3_1, e4_1, e5_1, rfl, rfl, by rw [e8]; rfl, rfl, rfl, by rw [e0]; split <;> simp⟩
        · have hnb : nameB s k = false := by rw [nameB, h5]; rfl
          refine w_skip rfl rfl (congrArg Value.bool h5) ?_; refine w_skip rfl rfl (congrArg Value.bool h5) ?_; refine w_skip rfl rfl (congrArg Value.bool h5) ?_; refine w_skip rfl rfl (congrArg Value.bool h5) ?_
          refine w_r (v := .bool _) (fun _ => R_pickF (congrArg Value.bool h5) rfl) rfl rfl ?_; refine w_nil ?_; refine k_on ?_; refine c_condF rfl ?_; refine c_seq ?_; refine c_region ?_
          refine w_move (v := str _) e0_1 ?_; refine w_move (v := .int _ _) e5_1 ?_; refine w_call (fun w => R_call Tryd.func17 rfl rfl rfl) rfl rfl (fun w h => rdigit_spec s k hs (by omega) w) ?_
          refine w_nil ?_; refine k_on ?_
          refine c_cond rfl (fun h10 => ?_) (fun h10 => ?_)
          · refine c_seq ?_; refine c_region ?_; refine w_fa fa35_0 rfl ?_; refine w_store 0 rfl z5 rfl rfl rfl rfl rfl rfl rfl ?_; refine w_nil ?_; refine k_on ?_; refine c_region ?_
            refine w_move (v := str _) e0_1 ?_; refine w_move (v := .int _ _) e5_1 ?_; refine w_call (fun w => R_call Tryd.func18 rfl rfl rfl) rfl rfl (fun w h => rnumber_spec s k hs (by omega) w) ?_
            refine w_move rfl ?_; refine w_r (fun _ => R_extract rfl rfl) rfl rfl ?_; refine w_r (fun _ => R_extract rfl rfl) rfl rfl ?_; refine w_asg (v := .int _ _) rfl ?_
            refine w_asg (v := .bool _) rfl ?_; refine w_nil ?_
            have e0 : tokAt s k = (2, numEnd s k, numFine s k) := by rw [tokAt, if_neg (by rw [hnb]; simp), if_pos h10]
            exact k_mid ⟨2, numEnd s k, e0_1, e3_1, e4_1, e5_1, rfl, rfl, by rw [e0]; rfl, rfl, rfl, by rw [e0]; exact fun _ => ⟨rfl, rfl⟩⟩
          · refine c_seq ?_; refine c_region ?_; refine w_fa fa35_0 rfl ?_; refine w_store 0 rfl z5 rfl rfl rfl rfl rfl rfl rfl ?_; refine w_nil ?_; refine k_on ?_; refine c_seq ?_
            refine c_region ?_; refine w_move (v := .int _ _) e5_1 ?_; refine w_move (v := str _) e0_1 ?_; refine w_move (v := .int _ _) e5_1 ?_; refine w_call (fun w => R_call Tryd.func19 rfl rfl rfl) rfl rfl (fun w h => rsign_spec s k hs (by omega) w) ?_
            refine w_r (fun _ => R_addi rfl rfl (by omega)) rfl rfl ?_; refine w_asg (v := .int _ _) rfl ?_; refine w_nil ?_; refine k_on ?_; refine c_region ?_; refine w_move (v := .int _ _) rfl ?_
            refine w_move (v := .int _ _) e5_1 ?_; refine w_r (fun _ => R_gt rfl rfl) rfl rfl ?_; refine w_asg (v := .bool _) rfl ?_; refine w_nil ?_
            have e0 : tokAt s k = if signLen s k = 0 then (0, k, false) else (3, k + signLen s k, true) := by rw [tokAt, if_neg (by rw [hnb]; simp), if_neg (by rw [h10]; simp)]
            have e8 : (tokAt s k).2.2 = decide (((k : Nat) : Int) + (signLen s k : Int) > (k : Int)) := by rw [e0]; split <;> simp <;> omega
            exact k_mid ⟨3, (k + signLen s k), e0_1, e3_1, e4_1, e5_1, rfl, rfl, by rw [e8]; rfl, rfl, rfl, by rw [e0]; split <;> simp⟩
      rintro e B L ⟨kd, q, e0_2, e3_2, e4_2, e5_2, e6_2, e7_2, e8_2, rfl, rfl, hfine⟩
      refine c_seq ?_; refine c_seq ?_; refine c_region ?_; refine w_move (v := .bool _) e8_2 ?_; refine w_r (fun _ => R_not rfl) rfl rfl ?_; refine w_nil ?_; refine k_on ?_
      refine c_condN rfl (fun h11 => ?_) (fun h11 => ?_)
      · refine c_seq ?_; refine c_region ?_; refine w_move (v := .int _ _) e5_2 ?_; refine w_r (fun _ => R_build bt26 rfl) rfl rfl ?_; refine w_asg (v := .slice _ _ _) rfl ?_
        refine w_store 1 rfl z26 e3_2 rfl rfl rfl rfl rfl rfl ?_; refine w_nil ?_; refine k_on ?_; refine c_ret ?_; refine k_ret (b_ret (k_ret (b_ret (k_ret (?_)))))
        have hrS : readS s = (x.1, 110, k) := by rw [← hr, lexS_end readN hlt (by rw [h11]; rfl), h11]; rfl
        refine r_fin (.inl rfl) rfl (.tmp rfl rfl (.agg rfl e3_2 z26 (fun _ h => h.at_ 1 rfl) rfl .nil)) ?_
        exact fun w' hw => ⟨[], by rw [readP_bad (by omega) (by rw [hrS]; simp), hrS]; exact ⟨none, 0, rfl, Own.nil _ _⟩, .none (hw.fr _ (.head _))⟩
      · have hgo := h11; have hkd := (hfine hgo).1; have hq := (hfine hgo).2; have hqk := g2.2.2 hgo; have hql : q ≤ s.length := by omega
        refine c_skip ?_; refine k_on ?_; refine c_seq ?_; refine c_seq ?_; refine c_region ?_; refine w_move (v := .slice _ _ _) e4_2 ?_; refine w_r (fun _ => R_len sl23 rfl) rfl rfl ?_
        refine w_r (fun _ => R_eq rfl rfl) rfl rfl ?_; refine w_nil ?_; refine k_on ?_
        refine c_condD rfl (fun h12 => ?_) (fun h12 => ?_)
        · refine c_seq ?_; refine c_region ?_; refine w_move (v := .int _ _) e5_2 ?_; refine w_r (fun _ => R_build bt26 rfl) rfl rfl ?_; refine w_asg (v := .slice _ _ _) rfl ?_
          refine w_store 1 rfl z26 e3_2 rfl rfl rfl rfl rfl rfl ?_; refine w_nil ?_; refine k_on ?_; refine c_ret ?_; refine k_ret (b_ret (k_ret (b_ret (k_ret (?_)))))
          have hN : readN x (tokAt s k).1 (tokTx s k) k (tokAt s k).2.2 = ((x.1, 6, k), false) := by rw [readN, if_neg (by rw [h11]; simp), if_pos (by omega)]
          have hrS : readS s = (x.1, 6, k) := by rw [← hr, lexS_end readN hlt (by rw [hN]), hN]
          refine r_fin (.inl rfl) rfl (.tmp rfl rfl (.agg rfl e3_2 z26 (fun _ h => h.at_ 1 rfl) rfl .nil)) ?_
          exact fun w' hw => ⟨[], by rw [readP_bad (by omega) (by rw [hrS]; simp), hrS]; exact ⟨none, 0, rfl, Own.nil _ _⟩, .none (hw.fr _ (.head _))⟩
        · refine c_skip ?_; refine k_on ?_; refine c_seq ?_; refine c_region ?_; refine w_move (v := str _) e0_2 ?_; refine w_move (v := .int _ _) e5_2 ?_; refine w_move (v := .int _ _) e7_2 ?_
          refine w_r (fun _ => R_sslN (l := k) (h := q) st9 rfl rfl rfl (by omega) (by omega)) rfl rfl ?_; refine w_fa fa35_1 e6_2 ?_; refine w_store 0 rfl z9 rfl rfl rfl rfl rfl rfl rfl ?_
          refine w_nil ?_; refine k_on ?_; refine c_seq ?_; refine c_region ?_; refine w_move (v := .slice _ _ _) e4_2 ?_; refine w_loadA z35 e6_2 (fun _ h => h.at_ 0 rfl) rfl ?_
          refine w_bslice slt23 (by decide) rfl rfl (fun bs gbs ubs => ?_)
          refine w_app [(bs, _), (t6b, _), (t3b, _)] (news := tkC (kd, (s.drop k).take (q - k), k)) slt23 (by decide) rfl hT rfl rfl (row_own 0 rfl (fun _ _ h => h)) rfl (by decide) (by omega) (by omega) (fun v2 W2 hO2 => ?_)
          obtain ⟨a2, c2, rfl⟩ := hO2.slice
          refine w_asg (v := .slice _ _ _) rfl ?_; refine w_nil ?_; refine k_on ?_; refine c_region ?_; refine w_move (v := str _) e0_2 ?_; refine w_move (v := .int _ _) e7_2 ?_
          refine w_call (fun w => R_call Tryd.func15 rfl rfl rfl) rfl rfl (fun w h => rskip_spec s q hs (by omega) w) ?_; refine w_asg (v := .int _ _) rfl ?_; refine w_nil ?_
          refine b_on (?_)
          have hN : readN x (tokAt s k).1 (tokTx s k) k (tokAt s k).2.2 = ((x.1 ++ [(kd, (s.drop k).take (q - k), k)], x.2), true) := by rw [readN, if_neg (by rw [hgo]; simp), if_neg (by omega), tokTx, ← hq, ← hkd]
          refine k_st (B' := [(w, No)]) (L' := (t3b, cel [.int .i64 0, .int .i64 0] 26) :: (W2 ++ [])) (fun w h => h.drop (.cons _ (.cons _ (List.Sublist.refl _)))) ?_
          have g5 := skipTo_le hql
          exact k_again _ (by omega) ⟨skipTo s q, (x.1 ++ [(kd, (s.drop k).take (q - k), k)], x.2), a2, c2, W2, e0_2, e3_2, (congrArg (fun n : Nat => Value.slice a2 n c2) (show x.1.length + 1 = (x.1 ++ [(kd, (s.drop k).take (q - k), k)]).length by simp)), rfl, rfl, rfl, g5.1, by simpa using Toks.more hO2, by simp; omega, hx0, by rw [← hr, lexS_go readN readN_no hlt (by rw [hN]), hN, ← hq], rfl⟩
    · refine c_exit ?_; refine k_exit (k_exit (b_here rfl (k_on ?_))); refine c_seq ?_; refine c_region ?_; refine w_move (v := .slice _ _ _) e4_1 ?_; refine w_r (fun _ => R_build bt26 rfl) rfl rfl ?_
      refine w_asg (v := .slice _ _ _) rfl ?_; refine w_store 0 rfl z26 e3_1 rfl rfl rfl rfl rfl rfl ?_; refine w_nil ?_; refine k_on ?_; refine c_ret ?_
      have hrS : readS s = x := by rw [← hr, lexS_stop readN (by omega)]
      refine r_fin (.inl rfl) rfl (.tmp rfl rfl (.agg rfl e3_1 z26 (fun _ h => h.at_ 0 rfl) rfl .nil)) ?_
      exact fun w' hw => ⟨W, by rw [readP_fine (by omega) (by rw [hrS, hx0]), hrS]; exact ⟨a0, c0, rfl, hT⟩, St.made (A := []) (by simpa using hw.drop (L' := W ++ []) (List.sublist_cons_self _ _))⟩
end Go.Proofs.YtmcajoiembfjiaaDoor
