import Derived.Test.YtmcajoiembfjiaaDoorLaw5T
import Derived.Test.YtmcajoiembfjiaaDoorLaw3
import Derived.Test.YtmcajoiembfjiaaDoorTokV
namespace Go.Proofs.YtmcajoiembfjiaaDoor
open Go.RowKit Go.Sx
open Go.Tok

set_option maxRecDepth 100000 in
set_option maxHeartbeats 400000 in
theorem rises_walk (s : List UInt8) (hs : s.length ≤ 9223372036854775807) (w : World) (ht : Tb w) (hgs : 1 < w.heap.size) :
    Ret Tryd.prog 5 #[str s] w (fun v w' => v = .bool true ∧ Ext w w') := by
  refine enter (S := No) (l := [_]) (L := []) 163 Tryd.func5 rfl rfl rfl (St.start w No) ?_
  refine c_seq ?_; refine c_region ?_; refine w_asg (v := .bool _) rfl ?_; refine w_nil ?_; refine k_on ?_; refine c_seq ?_; refine c_seq ?_; refine c_region ?_; refine w_move (v := str _) rfl ?_
  refine w_r (fun _ => R_slen st9 rfl (by omega)) rfl rfl ?_; refine w_r (fun _ => R_gt rfl rfl) rfl rfl ?_; refine w_nil ?_; refine k_on ?_
  refine c_condD rfl (fun h1 => ?_) (fun h1 => ?_)
  · refine c_seq ?_; refine c_region ?_; refine w_call (fun w => R_call Tryd.func8 rfl rfl rfl) rfl rfl (fun w h => head_spec w (ht.fr (h.fr _ (.head _)) (fun x => x)) (Nat.le_trans hgs (h.fr _ (.head _)).size)) ?_
    refine w_asg (v := .bool _) rfl ?_; refine w_nil ?_; refine k_on ?_; refine c_ret ?_; refine k_ret (?_)
    refine r_one (v := .bool _) rfl rfl rfl ?_
    exact fun w' hw => ⟨rfl, hw.fr _ (.head _)⟩
  · refine c_skip ?_; refine k_on ?_; refine c_seq ?_; refine c_region ?_; refine w_move (v := str _) rfl ?_
    refine w_callW (R := RdV (readP s)) (fun w => R_call Tryd.func9 rfl rfl rfl) rfl rfl (fun w h => Read_spec s (by omega) w (ht.fr (h.fr _ (.head _)) (fun x => x)) (Nat.le_trans hgs (h.fr _ (.head _)).size)) ?_
    refine fun u W1 hR1 => w_st (fun w h => h.perm List.perm_append_comm) ?_
    obtain ⟨a1, c1, rfl, hT1⟩ := hR1
    have hl1 := readP_len s
    refine w_move rfl ?_; refine w_r (fun _ => R_extract rfl rfl) rfl rfl ?_; refine w_r (fun _ => R_extract rfl rfl) rfl rfl ?_
    refine w_alloc zr26 (fun t4b gt4b ut4b => ?_)
    refine w_asg (v := .slice _ _ _) rfl ?_; refine w_store 0 rfl z26 rfl rfl rfl rfl rfl rfl rfl ?_; refine w_nil ?_; refine k_on ?_; refine c_seq ?_; refine c_seq ?_
    refine c_region ?_; refine w_fa fa26_0 rfl ?_; refine w_load z24 rfl (fun _ h => cel_own 0 rfl rfl h) ?_; refine w_r (fun _ => R_ne rfl rfl) rfl rfl ?_; refine w_nil ?_
    refine k_on ?_
    refine c_condD rfl (fun h3 => ?_) (fun h3 => ?_)
    · have hf := fault_lt (s := s) (by omega) (by omega)
      refine c_seq ?_; refine c_region ?_; refine w_move (v := .slice _ _ _) rfl ?_; refine w_r (fun _ => R_len sl23 rfl) rfl rfl ?_; refine w_r (fun _ => R_eq rfl rfl) rfl rfl ?_
      refine w_move (v := .bool _) rfl ?_
      refine w_splitD (t := 29) rfl (fun h4 => ?_) (fun h4 => ?_)
      · refine w_want rfl rfl (congrArg Value.bool (decide_eq_true h4)) ?_; refine w_fa fa26_1 rfl ?_; refine w_want rfl rfl (congrArg Value.bool (decide_eq_true h4)) ?_
        refine w_load z3 rfl (fun _ h => cel_own 0 rfl rfl h) ?_; refine w_want rfl rfl (congrArg Value.bool (decide_eq_true h4)) ?_; refine w_r (fun _ => R_ge rfl rfl) rfl rfl ?_
        refine w_r (v := .bool _) (fun _ => R_pickT (congrArg Value.bool (decide_eq_true h4)) rfl) rfl rfl ?_; refine w_move (v := .bool _) rfl ?_
        refine w_splitD (t := 34) rfl (fun h5 => ?_) (fun h5 => ?_)
        · refine w_want rfl rfl (congrArg Value.bool (decide_eq_true h5)) ?_; refine w_fa fa26_1 rfl ?_; refine w_want rfl rfl (congrArg Value.bool (decide_eq_true h5)) ?_
          refine w_load z3 rfl (fun _ h => cel_own 0 rfl rfl h) ?_; refine w_want rfl rfl (congrArg Value.bool (decide_eq_true h5)) ?_; refine w_move (v := str _) rfl ?_
          refine w_want rfl rfl (congrArg Value.bool (decide_eq_true h5)) ?_; refine w_r (fun _ => R_slen st9 rfl (by omega)) rfl rfl ?_; refine w_want rfl rfl (congrArg Value.bool (decide_eq_true h5)) ?_
          refine w_r (fun _ => R_lt rfl rfl) rfl rfl ?_; refine w_r (v := .bool _) (fun _ => R_pickT (congrArg Value.bool (decide_eq_true h5)) rfl) rfl rfl ?_; refine w_move (v := .bool _) rfl ?_
          refine w_splitD (t := 41) rfl (fun h6 => ?_) (fun h6 => ?_)
          · refine w_want rfl rfl (congrArg Value.bool (decide_eq_true h6)) ?_; refine w_call (fun w => R_call Tryd.func8 rfl rfl rfl) rfl rfl (fun w h => head_spec w (ht.fr (h.fr _ (.head _)) (fun x => x)) (Nat.le_trans hgs (h.fr _ (.head _)).size)) ?_
            refine w_r (v := .bool _) (fun _ => R_pickT (congrArg Value.bool (decide_eq_true h6)) rfl) rfl rfl ?_; refine w_asg (v := .bool _) rfl ?_; refine w_nil ?_; refine k_on ?_
            refine c_ret ?_; refine k_ret (?_)
            refine r_one (v := .bool _) rfl rfl rfl ?_
            exact fun w' hw => ⟨rfl, hw.fr _ (.head _)⟩
          · first | omega | exact absurd (by first | rfl | decide) h6 | exact absurd h6 (by decide) | (simp at h6)
        · first | omega | exact absurd (by first | rfl | decide) h5 | exact absurd h5 (by decide) | (simp at h5)
      · exfalso; rw [hf.1] at h4; exact h4 rfl
    · refine c_skip ?_; refine k_on ?_; refine c_seq ?_; refine c_region ?_; refine w_asg (v := str _) rfl ?_; refine w_nil ?_; refine k_on ?_; refine c_seq ?_; refine c_region ?_
      refine w_asg (v := .int _ _) rfl ?_; refine w_nil ?_; refine k_on ?_; refine c_seq ?_; refine c_seq ?_; refine c_region ?_; refine w_asg (v := .int _ _) rfl ?_; refine w_nil ?_
      refine k_on ?_; refine c_block ?_
      refine c_loop (fun m e B L => ∃ (i j : Nat), e 0 = str s ∧ e 3 = .slice a1 (readP s).1.length c1 ∧ e 5 = str (Jn ((readP s).1.take i)) ∧ e 6 = .int .i64 (j : Nat) ∧ e 7 = .int .i64 (i : Nat) ∧ B = [(w, No)] ∧ L = (t4b, cel [.int .i64 ((readP s).2.1 : Nat), .int .i64 ((readP s).2.2 : Nat)] 26) :: W1 ∧ i ≤ (readP s).1.length ∧ j ≤ s.length ∧ Chain s j ((readP s).1.drop i) ∧ (Jn ((readP s).1.take i)).length ≤ 2 * j ∧ m = (readP s).1.length - i) _ ⟨0, 0, rfl, rfl, rfl, rfl, rfl, rfl, rfl, Nat.zero_le _, Nat.zero_le _, readP_chain (by omega) (by omega), Nat.zero_le _, rfl⟩ ?_
      rintro m e B L ⟨i, j, e0_1, e3_1, e5_1, e6_1, e7_1, rfl, rfl, hi, he, hc, hJ, rfl⟩
      refine c_seq ?_; refine c_seq ?_; refine c_region ?_; refine w_move (v := .int _ _) e7_1 ?_; refine w_move (v := .slice _ _ _) e3_1 ?_; refine w_r (fun _ => R_len sl23 rfl) rfl rfl ?_
      refine w_r (fun _ => R_lt rfl rfl) rfl rfl ?_; refine w_nil ?_; refine k_on ?_
      refine c_condD rfl (fun h7 => ?_) (fun h7 => ?_)
      · have hlt : i < (readP s).1.length := (by omega); obtain ⟨b1, rfl, hc1⟩ := hT1.cellS hlt; obtain ⟨⟨kd, tx, k⟩, q1⟩ : ∃ tk, (readP s).1[i]? = some tk := ⟨_, List.getElem?_eq_getElem hlt⟩; obtain ⟨e2, g1, g2, g3, g4, g5, g6, g7, g8, g9⟩ := chain_tk hc q1; have hk2 : (k : Int) + (tx.length : Nat) = (e2 : Nat) := (by omega); have hg2 := gap_read (i := j) he (by omega); rw [← g2] at hg2
        refine c_skip ?_; refine k_on ?_; refine c_seq ?_; refine c_block ?_; refine c_seq ?_; refine c_region ?_; refine w_move (v := .slice _ _ _) e3_1 ?_; refine w_move (v := .int _ _) e7_1 ?_
        refine w_r (fun _ => R_iaN (i := i) sl23 rfl rfl (by first | omega | decide)) rfl rfl ?_
        refine w_loadC (l := [.int .u8 (kd : Nat), str tx, .int .i64 (k : Nat)]) z35 rfl rfl (fun w h j v hj => hc1 _ _ _ (fun p hp => by simp [hp]) h _ q1 j v hj) ?_
        refine w_alloc zr35 (fun t8b gt8b ut8b => ?_)
        refine w_store 0 rfl z35 rfl rfl rfl rfl rfl rfl rfl ?_; refine w_nil ?_; refine k_on ?_; refine c_seq ?_; refine c_seq ?_; refine c_draw mixed (by kernel_rfl) ?_
        refine w_fa fa35_2 rfl ?_; refine w_load z3 rfl (fun _ h => cel_own 0 rfl rfl h) ?_; refine w_move (v := .int _ _) e6_1 ?_; refine w_r (fun _ => R_lt rfl rfl) rfl rfl ?_
        refine w_move (v := .bool _) rfl ?_
        refine w_splitD (t := 58) rfl (fun h9 => ?_) (fun h9 => ?_)
        · exfalso; omega
        · refine w_want rfl rfl (congrArg Value.bool (decide_eq_false h9)) ?_; refine w_fa fa35_1 rfl ?_; refine w_want rfl rfl (congrArg Value.bool (decide_eq_false h9)) ?_
          refine w_load z9 rfl (fun _ h => cel_own 0 rfl rfl h) ?_; refine w_want rfl rfl (congrArg Value.bool (decide_eq_false h9)) ?_; refine w_r (fun _ => R_seq rfl rfl) rfl rfl ?_
          refine w_r (v := .bool _) (fun _ => R_pickF (congrArg Value.bool (decide_eq_false h9)) rfl) rfl rfl ?_; refine w_move (v := .bool _) rfl ?_
          refine w_splitD (t := 63) rfl (fun h10 => ?_) (fun h10 => ?_)
          · exfalso; rw [h10] at g7; simp at g7; omega
          · refine w_want rfl rfl (congrArg Value.bool (decide_eq_false h10)) ?_; refine w_fa fa35_2 rfl ?_; refine w_want rfl rfl (congrArg Value.bool (decide_eq_false h10)) ?_
            refine w_load z3 rfl (fun _ h => cel_own 0 rfl rfl h) ?_; refine w_want rfl rfl (congrArg Value.bool (decide_eq_false h10)) ?_; refine w_fa fa35_1 rfl ?_; refine w_want rfl rfl (congrArg Value.bool (decide_eq_false h10)) ?_
            refine w_load z9 rfl (fun _ h => cel_own 0 rfl rfl h) ?_; refine w_want rfl rfl (congrArg Value.bool (decide_eq_false h10)) ?_; refine w_r (fun _ => R_slen st9 rfl (by omega)) rfl rfl ?_
            refine w_want rfl rfl (congrArg Value.bool (decide_eq_false h10)) ?_; refine w_r (fun _ => R_addi rfl rfl (by omega)) rfl rfl ?_; refine w_want rfl rfl (congrArg Value.bool (decide_eq_false h10)) ?_
            refine w_move (v := str _) e0_1 ?_; refine w_want rfl rfl (congrArg Value.bool (decide_eq_false h10)) ?_; refine w_r (fun _ => R_slen st9 rfl (by omega)) rfl rfl ?_
            refine w_want rfl rfl (congrArg Value.bool (decide_eq_false h10)) ?_; refine w_r (fun _ => R_gt (congrArg (Value.int .i64) hk2) rfl) rfl rfl ?_; refine w_r (v := .bool _) (fun _ => R_pickF (congrArg Value.bool (decide_eq_false h10)) rfl) rfl rfl ?_
            refine w_move (v := .bool _) rfl ?_
            refine w_splitD (t := 74) rfl (fun h11 => ?_) (fun h11 => ?_)
            · exfalso; omega
            · refine w_want rfl rfl (congrArg Value.bool (decide_eq_false h11)) ?_; refine w_move (v := str _) e0_1 ?_; refine w_want rfl rfl (congrArg Value.bool (decide_eq_false h11)) ?_
              refine w_fa fa35_2 rfl ?_; refine w_want rfl rfl (congrArg Value.bool (decide_eq_false h11)) ?_; refine w_load z3 rfl (fun _ h => cel_own 0 rfl rfl h) ?_; refine w_want rfl rfl (congrArg Value.bool (decide_eq_false h11)) ?_
              refine w_fa fa35_2 rfl ?_; refine w_want rfl rfl (congrArg Value.bool (decide_eq_false h11)) ?_; refine w_load z3 rfl (fun _ h => cel_own 0 rfl rfl h) ?_; refine w_want rfl rfl (congrArg Value.bool (decide_eq_false h11)) ?_
              refine w_fa fa35_1 rfl ?_; refine w_want rfl rfl (congrArg Value.bool (decide_eq_false h11)) ?_; refine w_load z9 rfl (fun _ h => cel_own 0 rfl rfl h) ?_; refine w_want rfl rfl (congrArg Value.bool (decide_eq_false h11)) ?_
              refine w_r (fun _ => R_slen st9 rfl (by omega)) rfl rfl ?_; refine w_want rfl rfl (congrArg Value.bool (decide_eq_false h11)) ?_; refine w_r (fun _ => R_addi rfl rfl (by omega)) rfl rfl ?_
              refine w_want rfl rfl (congrArg Value.bool (decide_eq_false h11)) ?_; refine w_r (fun _ => R_sslN (l := k) (h := e2) st9 rfl rfl (congrArg (Value.int .i64) hk2) (by omega) (by omega)) rfl rfl ?_
              refine w_want rfl rfl (congrArg Value.bool (decide_eq_false h11)) ?_; refine w_fa fa35_1 rfl ?_; refine w_want rfl rfl (congrArg Value.bool (decide_eq_false h11)) ?_
              refine w_load z9 rfl (fun _ h => cel_own 0 rfl rfl h) ?_; refine w_want rfl rfl (congrArg Value.bool (decide_eq_false h11)) ?_; refine w_r (fun _ => R_sne rfl rfl) rfl rfl ?_
              refine w_r (v := .bool _) (fun _ => R_pickF (congrArg Value.bool (decide_eq_false h11)) rfl) rfl rfl ?_; refine w_nil ?_; refine k_on ?_
              refine c_condD rfl (fun h12 => ?_) (fun h12 => ?_)
              · exact absurd g6.symm h12
              · refine c_skip ?_; refine k_on ?_; refine c_seq ?_; refine c_seq ?_; refine c_region ?_; refine w_move (v := str _) e0_1 ?_; refine w_move (v := .int _ _) e6_1 ?_; refine w_fa fa35_2 rfl ?_
                refine w_load z3 rfl (fun _ h => cel_own 0 rfl rfl h) ?_; refine w_r (fun _ => R_sslN (l := j) (h := k) st9 rfl rfl rfl (by omega) (by omega)) rfl rfl ?_
                refine w_callW (R := RdV (readP ((s.drop j).take (k - j)))) (fun w => R_call Tryd.func9 rfl rfl rfl) rfl rfl (fun w h => Read_spec ((s.drop j).take (k - j)) (by simp; omega) w (ht.fr (h.fr _ (.head _)) (fun x => x)) (Nat.le_trans hgs (h.fr _ (.head _)).size)) ?_
                refine fun u W2 hR2 => w_st (fun w h => h.perm List.perm_append_comm) ?_
                rw [hg2] at hR2
                obtain ⟨a2, c2, rfl, hT2⟩ := hR2
                refine w_move rfl ?_; refine w_r (fun _ => R_extract rfl rfl) rfl rfl ?_; refine w_r (fun _ => R_extract rfl rfl) rfl rfl ?_
                refine w_alloc zr26 (fun t10b gt10b ut10b => ?_)
                refine w_asg (v := .slice _ _ _) rfl ?_; refine w_store 0 rfl z26 rfl rfl rfl rfl rfl rfl rfl ?_; refine w_nil ?_; refine k_on ?_; refine c_seq ?_; refine c_region ?_
                refine w_move (v := .slice _ _ _) rfl ?_; refine w_r (fun _ => R_len sl23 rfl) rfl rfl ?_; refine w_r (fun _ => R_ne rfl rfl) rfl rfl ?_; refine w_move (v := .bool _) rfl ?_
                refine w_splitD (t := 101) rfl (fun h14 => ?_) (fun h14 => ?_)
                · exact absurd rfl h14
                · refine w_want rfl rfl (congrArg Value.bool (decide_eq_false h14)) ?_; refine w_fa fa26_0 rfl ?_; refine w_want rfl rfl (congrArg Value.bool (decide_eq_false h14)) ?_
                  refine w_load z24 rfl (fun _ h => cel_own 0 rfl rfl h) ?_; refine w_want rfl rfl (congrArg Value.bool (decide_eq_false h14)) ?_; refine w_r (fun _ => R_ne rfl rfl) rfl rfl ?_
                  refine w_r (v := .bool _) (fun _ => R_pickF (congrArg Value.bool (decide_eq_false h14)) rfl) rfl rfl ?_; refine w_nil ?_; refine k_on ?_
                  refine c_condD rfl (fun h15 => ?_) (fun h15 => ?_)
                  · exact absurd rfl h15
                  · refine c_skip ?_; refine k_on ?_; refine c_seq ?_; refine c_region ?_; refine w_fa fa35_2 rfl ?_; refine w_load z3 rfl (fun _ h => cel_own 1 rfl rfl h) ?_; refine w_fa fa35_1 rfl ?_
                    refine w_load z9 rfl (fun _ h => cel_own 1 rfl rfl h) ?_; refine w_r (fun _ => R_slen st9 rfl (by omega)) rfl rfl ?_; refine w_r (fun _ => R_addi rfl rfl (by omega)) rfl rfl ?_
                    refine w_asg (v := .int _ _) (congrArg (Value.int .i64) hk2) ?_; refine w_nil ?_; refine k_on ?_; refine c_region ?_; refine w_move (v := str _) e5_1 ?_; refine w_r (fun _ => R_cat rfl rfl (by simp only [List.length_append, List.length_cons, List.length_nil]; omega)) rfl rfl ?_
                    refine w_fa fa35_1 rfl ?_; refine w_load z9 rfl (fun _ h => cel_own 1 rfl rfl h) ?_; refine w_r (fun _ => R_cat rfl rfl (by simp only [List.length_append, List.length_cons, List.length_nil]; omega)) rfl rfl ?_
                    refine w_asg (v := str _) rfl ?_; refine w_nil ?_; refine b_on (k_on ?_); refine c_region ?_; refine w_move (v := .int _ _) e7_1 ?_; refine w_r (fun _ => R_addi rfl rfl (by omega)) rfl rfl ?_
                    refine w_asg (v := .int _ _) rfl ?_; refine w_nil ?_
                    refine k_st (B' := [(w, No)]) (L' := (t4b, cel [.int .i64 ((readP s).2.1 : Nat), .int .i64 ((readP s).2.2 : Nat)] 26) :: W1) (fun w h => h.drop (.cons _ (.cons _ (List.sublist_append_left _ _)))) ?_
                    exact k_again _ (by omega) ⟨i + 1, e2, e0_1, e3_1, by rw [g9]; rfl, rfl, rfl, rfl, rfl, by omega, by omega, g8, by rw [g9]; simp only [List.length_append, List.length_cons, List.length_nil]; omega, rfl⟩
      · rw [Jn_all (by omega)] at e5_1; have hJ2 := hJ; rw [Jn_all (by omega)] at hJ2; obtain ⟨l, hl, hlm⟩ := rejoin (chain_good (readP_chain (by omega) (by omega))) hl1 (by omega); have hlen := (rejoin_at hlm).1
        refine c_exit ?_; refine k_exit (k_exit (b_here rfl (k_on ?_))); refine c_seq ?_; refine c_region ?_; refine w_move (v := str _) e5_1 ?_
        refine w_callW (R := RdV (readP (Jn (readP s).1))) (fun w => R_call Tryd.func9 rfl rfl rfl) rfl rfl (fun w h => Read_spec (Jn (readP s).1) (by omega) w (ht.fr (h.fr _ (.head _)) (fun x => x)) (Nat.le_trans hgs (h.fr _ (.head _)).size)) ?_
        refine fun u W3 hR3 => w_st (fun w h => h.perm List.perm_append_comm) ?_
        rw [hl] at hR3
        obtain ⟨a3, c3, rfl, hT3⟩ := hR3
        refine w_move rfl ?_; refine w_r (fun _ => R_extract rfl rfl) rfl rfl ?_; refine w_r (fun _ => R_extract rfl rfl) rfl rfl ?_
        refine w_alloc zr26 (fun t12b gt12b ut12b => ?_)
        refine w_asg (v := .slice _ _ _) rfl ?_; refine w_store 0 rfl z26 rfl rfl rfl rfl rfl rfl rfl ?_; refine w_nil ?_; refine k_on ?_; refine c_seq ?_; refine c_seq ?_
        refine c_region ?_; refine w_fa fa26_0 rfl ?_; refine w_load z24 rfl (fun _ h => cel_own 0 rfl rfl h) ?_; refine w_r (fun _ => R_ne rfl rfl) rfl rfl ?_; refine w_move (v := .bool _) rfl ?_
        refine w_splitD (t := 125) rfl (fun h17 => ?_) (fun h17 => ?_)
        · exact absurd rfl h17
        · refine w_want rfl rfl (congrArg Value.bool (decide_eq_false h17)) ?_; refine w_move (v := .slice _ _ _) rfl ?_; refine w_want rfl rfl (congrArg Value.bool (decide_eq_false h17)) ?_
          refine w_r (fun _ => R_len sl23 rfl) rfl rfl ?_; refine w_want rfl rfl (congrArg Value.bool (decide_eq_false h17)) ?_; refine w_move (v := .slice _ _ _) e3_1 ?_
          refine w_want rfl rfl (congrArg Value.bool (decide_eq_false h17)) ?_; refine w_r (fun _ => R_len sl23 rfl) rfl rfl ?_; refine w_want rfl rfl (congrArg Value.bool (decide_eq_false h17)) ?_
          refine w_r (fun _ => R_ne rfl rfl) rfl rfl ?_; refine w_r (v := .bool _) (fun _ => R_pickF (congrArg Value.bool (decide_eq_false h17)) rfl) rfl rfl ?_; refine w_nil ?_
          refine k_on ?_
          refine c_condD rfl (fun h18 => ?_) (fun h18 => ?_)
          · exfalso; simp only [] at h18; omega
          · refine c_skip ?_; refine k_on ?_; refine c_seq ?_; refine c_seq ?_; refine c_region ?_; refine w_asg (v := .int _ _) rfl ?_; refine w_nil ?_; refine k_on ?_; refine c_block ?_
            refine c_loop (fun m e B L => ∃ (i : Nat), e 3 = .slice a1 (readP s).1.length c1 ∧ e 11 = .slice a3 l.length c3 ∧ e 13 = .int .i64 (i : Nat) ∧ B = [(w, No)] ∧ L = (t12b, cel [.int .i64 ((0 : Nat)), .int .i64 ((0 : Nat))] 26) :: (((t4b, cel [.int .i64 ((readP s).2.1 : Nat), .int .i64 ((readP s).2.2 : Nat)] 26) :: W1) ++ W3) ∧ i ≤ (readP s).1.length ∧ m = (readP s).1.length - i) _ ⟨0, e3_1, rfl, rfl, rfl, rfl, Nat.zero_le _, rfl⟩ ?_
            rintro m e B L ⟨i, e3_2, e11_2, e13_2, rfl, rfl, hi, rfl⟩
            refine c_seq ?_; refine c_seq ?_; refine c_region ?_; refine w_move (v := .int _ _) e13_2 ?_; refine w_move (v := .slice _ _ _) e3_2 ?_; refine w_r (fun _ => R_len sl23 rfl) rfl rfl ?_
            refine w_r (fun _ => R_lt rfl rfl) rfl rfl ?_; refine w_nil ?_; refine k_on ?_
            refine c_condD rfl (fun h19 => ?_) (fun h19 => ?_)
            · have hlt : i < (readP s).1.length := (by omega); have hltl : i < l.length := (by omega); obtain ⟨b1, rfl, hc1⟩ := hT1.cellS hlt; obtain ⟨b3, rfl, hc3⟩ := hT3.cellS hltl; obtain ⟨tk, q1⟩ : ∃ tk, (readP s).1[i]? = some tk := ⟨_, List.getElem?_eq_getElem hlt⟩; obtain ⟨tl, q3⟩ : ∃ tk, l[i]? = some tk := ⟨_, List.getElem?_eq_getElem hltl⟩; have hq := (rejoin_at hlm).2 _ _ _ q3 q1
              refine c_skip ?_; refine k_on ?_; refine c_seq ?_; refine c_block ?_; refine c_seq ?_; refine c_draw mixed (by kernel_rfl) ?_; refine w_move (v := .slice _ _ _) e11_2 ?_
              refine w_move (v := .int _ _) e13_2 ?_; refine w_r (fun _ => R_iaN (i := i) sl23 rfl rfl (by first | omega | decide)) rfl rfl ?_; refine w_fa fa35_0 rfl ?_
              refine w_load z5 rfl (fun _ h => by first | exact cel_own 0 rfl rfl h | exact cel_own 1 rfl rfl h | exact hc3 _ _ _ (fun p hp => by simp [hp]) h _ q3 _ _ rfl | exact hc1 _ _ _ (fun p hp => by simp [hp]) h _ q1 _ _ rfl) ?_
              refine w_move (v := .slice _ _ _) e3_2 ?_; refine w_move (v := .int _ _) e13_2 ?_; refine w_r (fun _ => R_iaN (i := i) sl23 rfl rfl (by first | omega | decide)) rfl rfl ?_
              refine w_fa fa35_0 rfl ?_; refine w_load z5 rfl (fun _ h => by first | exact cel_own 0 rfl rfl h | exact cel_own 1 rfl rfl h | exact hc3 _ _ _ (fun p hp => by simp [hp]) h _ q3 _ _ rfl | exact hc1 _ _ _ (fun p hp => by simp [hp]) h _ q1 _ _ rfl) ?_
              refine w_r (fun _ => R_ne rfl rfl) rfl rfl ?_; refine w_move (v := .bool _) rfl ?_
              refine w_splitD (t := 149) rfl (fun h20 => ?_) (fun h20 => ?_)
              · exfalso; rw [hq.1] at h20; exact h20 rfl
              · refine w_want rfl rfl (congrArg Value.bool (decide_eq_false h20)) ?_; refine w_move (v := .slice _ _ _) e11_2 ?_; refine w_want rfl rfl (congrArg Value.bool (decide_eq_false h20)) ?_
                refine w_move (v := .int _ _) e13_2 ?_; refine w_want rfl rfl (congrArg Value.bool (decide_eq_false h20)) ?_; refine w_r (fun _ => R_iaN (i := i) sl23 rfl rfl (by first | omega | decide)) rfl rfl ?_
                refine w_want rfl rfl (congrArg Value.bool (decide_eq_false h20)) ?_; refine w_fa fa35_1 rfl ?_; refine w_want rfl rfl (congrArg Value.bool (decide_eq_false h20)) ?_
                refine w_load z9 rfl (fun _ h => by first | exact cel_own 0 rfl rfl h | exact cel_own 1 rfl rfl h | exact hc3 _ _ _ (fun p hp => by simp [hp]) h _ q3 _ _ rfl | exact hc1 _ _ _ (fun p hp => by simp [hp]) h _ q1 _ _ rfl) ?_
                refine w_want rfl rfl (congrArg Value.bool (decide_eq_false h20)) ?_; refine w_move (v := .slice _ _ _) e3_2 ?_; refine w_want rfl rfl (congrArg Value.bool (decide_eq_false h20)) ?_
                refine w_move (v := .int _ _) e13_2 ?_; refine w_want rfl rfl (congrArg Value.bool (decide_eq_false h20)) ?_; refine w_r (fun _ => R_iaN (i := i) sl23 rfl rfl (by first | omega | decide)) rfl rfl ?_
                refine w_want rfl rfl (congrArg Value.bool (decide_eq_false h20)) ?_; refine w_fa fa35_1 rfl ?_; refine w_want rfl rfl (congrArg Value.bool (decide_eq_false h20)) ?_
                refine w_load z9 rfl (fun _ h => by first | exact cel_own 0 rfl rfl h | exact cel_own 1 rfl rfl h | exact hc3 _ _ _ (fun p hp => by simp [hp]) h _ q3 _ _ rfl | exact hc1 _ _ _ (fun p hp => by simp [hp]) h _ q1 _ _ rfl) ?_
                refine w_want rfl rfl (congrArg Value.bool (decide_eq_false h20)) ?_; refine w_r (fun _ => R_sne rfl rfl) rfl rfl ?_; refine w_r (v := .bool _) (fun _ => R_pickF (congrArg Value.bool (decide_eq_false h20)) rfl) rfl rfl ?_
                refine w_nil ?_; refine k_on ?_
                refine c_condD rfl (fun h21 => ?_) (fun h21 => ?_)
                · exact absurd hq.2 h21
                · refine c_skip ?_; refine b_on (k_on ?_); refine c_region ?_; refine w_move (v := .int _ _) e13_2 ?_; refine w_r (fun _ => R_addi rfl rfl (by omega)) rfl rfl ?_
                  refine w_asg (v := .int _ _) rfl ?_; refine w_nil ?_
                  exact k_again _ (by omega) ⟨i + 1, e3_2, e11_2, rfl, rfl, rfl, by omega, rfl⟩
            · refine c_exit ?_; refine k_exit (k_exit (b_here rfl (k_on ?_))); refine c_seq ?_; refine c_region ?_; refine w_call (fun w => R_call Tryd.func8 rfl rfl rfl) rfl rfl (fun w h => head_spec w (ht.fr (h.fr _ (.head _)) (fun x => x)) (Nat.le_trans hgs (h.fr _ (.head _)).size)) ?_
              refine w_asg (v := .bool _) rfl ?_; refine w_nil ?_; refine k_on ?_; refine c_ret ?_
              refine r_one (v := .bool _) rfl rfl rfl ?_
              exact fun w' hw => ⟨rfl, hw.fr _ (.head _)⟩
end Go.Proofs.YtmcajoiembfjiaaDoor
