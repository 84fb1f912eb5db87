import Derived.Test.YtmcajoiembfjiaaDoorLaw2T
import Derived.Test.YtmcajoiembfjiaaDoorLaw1
import Derived.Test.YtmcajoiembfjiaaDoorTokM
namespace Go.Proofs.YtmcajoiembfjiaaDoor
open Go.RowKit Go.Sx
open Go.Tok

set_option maxRecDepth 100000 in
set_option maxHeartbeats 400000 in
theorem many_law (mo : Int) (hm : -128 ≤ mo ∧ mo ≤ 127) (w : World) (ht : Tb w) (hgs : 1 < w.heap.size) :
    Ret Tryd.prog 6 #[.int .i8 mo] w (fun v w' => v = .bool true ∧ Ext w w') := by
  have hwr : IntKind.i64.wrap mo = mo := by rw [IntKind.wrap_i64]; omega
  refine enter (S := No) (l := [_]) (L := []) 101 Tryd.func6 rfl rfl rfl (St.start w No) ?_
  refine c_seq ?_; refine c_region ?_; refine w_asg (v := .bool _) rfl ?_; refine w_nil ?_; refine k_on ?_; refine c_seq ?_; refine c_region ?_; refine w_move (v := .int _ _) rfl ?_
  refine w_r (fun _ => R_convI un36 un3 rfl) rfl rfl ?_; refine w_asg (v := .int _ _) (congrArg (Value.int .i64) hwr) ?_; refine w_nil ?_; refine k_on ?_; refine c_seq ?_
  refine c_seq ?_; refine c_region ?_; refine w_move (v := .int _ _) rfl ?_; refine w_r (fun _ => R_lt rfl rfl) rfl rfl ?_; refine w_move (v := .bool _) rfl ?_
  refine w_splitD (t := 16) rfl (fun h1 => ?_) (fun h1 => ?_)
  · refine w_skip rfl rfl (congrArg Value.bool (decide_eq_true h1)) ?_; refine w_skip rfl rfl (congrArg Value.bool (decide_eq_true h1)) ?_; refine w_r (v := .bool _) (fun _ => R_pickT (congrArg Value.bool (decide_eq_true h1)) rfl) rfl rfl ?_
    refine w_nil ?_; refine k_on ?_; refine c_condT rfl ?_; refine c_seq ?_; refine c_region ?_; refine w_call (fun w => R_call Tryd.func8 rfl rfl rfl) rfl rfl (fun w h => head_spec w (ht.fr (h.fr _ (.head _)) (fun x => x)) (Nat.le_trans hgs (h.fr _ (.head _)).size)) ?_
    refine w_asg (v := .bool _) rfl ?_; refine w_nil ?_; refine k_on ?_; refine c_ret ?_; refine k_ret (?_)
    refine r_one (v := .bool _) rfl rfl rfl ?_
    exact fun w' hw => ⟨rfl, hw.fr _ (.head _)⟩
  · refine w_want rfl rfl (congrArg Value.bool (decide_eq_false h1)) ?_; refine w_move (v := .int _ _) rfl ?_; refine w_want rfl rfl (congrArg Value.bool (decide_eq_false h1)) ?_
    refine w_r (fun _ => R_gt rfl rfl) rfl rfl ?_; refine w_r (v := .bool _) (fun _ => R_pickF (congrArg Value.bool (decide_eq_false h1)) rfl) rfl rfl ?_; refine w_nil ?_
    refine k_on ?_
    refine c_condD rfl (fun h2 => ?_) (fun h2 => ?_)
    · refine c_seq ?_; refine c_region ?_; refine w_call (fun w => R_call Tryd.func8 rfl rfl rfl) rfl rfl (fun w h => head_spec w (ht.fr (h.fr _ (.head _)) (fun x => x)) (Nat.le_trans hgs (h.fr _ (.head _)).size)) ?_
      refine w_asg (v := .bool _) rfl ?_; refine w_nil ?_; refine k_on ?_; refine c_ret ?_; refine k_ret (?_)
      refine r_one (v := .bool _) rfl rfl rfl ?_
      exact fun w' hw => ⟨rfl, hw.fr _ (.head _)⟩
    · obtain ⟨n, hn⟩ : ∃ n : Nat, (6000 : Int) + mo = n := ⟨(6000 + mo).toNat, by omega⟩; obtain ⟨k, hk⟩ : ∃ k : Nat, (20000 : Int) + mo = k := ⟨(20000 + mo).toNat, by omega⟩
      refine c_skip ?_; refine k_on ?_; refine c_seq ?_; refine c_region ?_; refine w_move (v := .int _ _) rfl ?_; refine w_r (fun _ => R_addi rfl rfl (by omega)) rfl rfl ?_
      refine w_make (n := n) slt37 (congrArg (Value.int .i64) hn) (congrArg (Value.int .i64) hn) (by omega) (by omega) (fun mb gmb umb => ?_)
      refine w_asg (v := .slice _ _ _) rfl ?_; refine w_nil ?_; refine k_on ?_; refine c_seq ?_; refine c_seq ?_; refine c_region ?_; refine w_asg (v := .int _ _) rfl ?_
      refine w_nil ?_; refine k_on ?_; refine c_block ?_
      refine c_loop (fun m e B L => ∃ (i : Nat), e 3 = .int .i64 mo ∧ e 4 = .slice (some ⟨mb, 0, none⟩) n n ∧ e 5 = .int .i64 (i : Nat) ∧ B = [(w, No)] ∧ L = [(mb, cel (byF 59 n i) 5)] ∧ i ≤ n ∧ m = n - i) _ ⟨0, rfl, rfl, rfl, rfl, rfl, Nat.zero_le _, rfl⟩ ?_
      rintro m e B L ⟨i, e3_1, e4_1, e5_1, rfl, rfl, hi, rfl⟩
      refine c_seq ?_; refine c_seq ?_; refine c_region ?_; refine w_move (v := .int _ _) e5_1 ?_; refine w_move (v := .slice _ _ _) e4_1 ?_; refine w_r (fun _ => R_len sl37 rfl) rfl rfl ?_
      refine w_r (fun _ => R_lt rfl rfl) rfl rfl ?_; refine w_nil ?_; refine k_on ?_
      refine c_condD rfl (fun h3 => ?_) (fun h3 => ?_)
      · refine c_skip ?_; refine k_on ?_; refine c_seq ?_; refine c_block ?_; refine c_region ?_; refine w_move (v := .slice _ _ _) e4_1 ?_; refine w_move (v := .int _ _) e5_1 ?_
        refine w_r (fun _ => R_iaN (i := i) sl37 rfl rfl (by first | omega | decide)) rfl rfl ?_
        refine w_store 0 rfl z5 rfl rfl rfl rfl rfl (by rw [byF_len (by omega)]; exact Nat.ble_eq_true_of_le (by omega)) (byF_step (by omega)) ?_
        refine w_nil ?_; refine b_on (k_on ?_); refine c_region ?_; refine w_move (v := .int _ _) e5_1 ?_; refine w_r (fun _ => R_addi rfl rfl (by omega)) rfl rfl ?_; refine w_asg (v := .int _ _) rfl ?_
        refine w_nil ?_
        exact k_again _ (by omega) ⟨i + 1, e3_1, e4_1, rfl, rfl, rfl, by omega, rfl⟩
      · rw [show byF 59 n i = List.replicate n (.int .u8 59) from (by rw [show i = n from (by omega), byF_full])]
        refine c_exit ?_; refine k_exit (k_exit (b_here rfl (k_on ?_))); refine c_seq ?_; refine c_region ?_; refine w_move (v := .slice _ _ _) e4_1 ?_
        refine w_convB (v := 59) (n := n) 0 rfl un37 un5 un9 rfl ?_
        refine w_callW (R := RdV (readP (List.replicate n 59))) (fun w => R_call Tryd.func9 rfl rfl rfl) rfl rfl (fun w h => Read_spec (List.replicate n 59) (by simp; omega) w (ht.fr (h.fr _ (.head _)) (fun x => x)) (Nat.le_trans hgs (h.fr _ (.head _)).size)) ?_
        refine fun u W1 hR1 => w_st (fun w h => h.perm List.perm_append_comm) ?_
        obtain ⟨a1, c1, rfl, hT1⟩ := hR1
        have hl1 := readP_len (List.replicate n 59)
        refine w_move rfl ?_; refine w_r (fun _ => R_extract rfl rfl) rfl rfl ?_; refine w_r (fun _ => R_extract rfl rfl) rfl rfl ?_
        refine w_alloc zr26 (fun t7b gt7b ut7b => ?_)
        refine w_asg (v := .slice _ _ _) rfl ?_; refine w_store 0 rfl z26 rfl rfl rfl rfl rfl rfl rfl ?_; refine w_nil ?_; refine k_on ?_; refine c_seq ?_; refine c_region ?_
        refine w_move (v := .int _ _) e3_1 ?_; refine w_r (fun _ => R_addi rfl rfl (by omega)) rfl rfl ?_
        refine w_make (n := k) slt37 (congrArg (Value.int .i64) hk) (congrArg (Value.int .i64) hk) (by omega) (by omega) (fun nb gnb unb => ?_)
        refine w_asg (v := .slice _ _ _) rfl ?_; refine w_nil ?_; refine k_on ?_; refine c_seq ?_; refine c_seq ?_; refine c_region ?_; refine w_asg (v := .int _ _) rfl ?_
        refine w_nil ?_; refine k_on ?_; refine c_block ?_
        refine c_loop (fun m e B L => ∃ (j : Nat), e 3 = .int .i64 mo ∧ e 4 = .slice (some ⟨mb, 0, none⟩) n n ∧ e 6 = .slice a1 (readP (List.replicate n 59)).1.length c1 ∧ e 7 = .pointer (some ⟨t7b, 0, none⟩) ∧ e 8 = .slice (some ⟨nb, 0, none⟩) k k ∧ e 9 = .int .i64 (j : Nat) ∧ B = [(w, No)] ∧ L = (nb, cel (byF 32 k j) 5) :: (t7b, cel [.int .i64 ((readP (List.replicate n 59)).2.1 : Nat), .int .i64 ((readP (List.replicate n 59)).2.2 : Nat)] 26) :: (mb, cel (List.replicate n (.int .u8 59)) 5) :: W1 ∧ j ≤ k ∧ m = k - j) _ ⟨0, e3_1, e4_1, rfl, rfl, rfl, rfl, rfl, rfl, Nat.zero_le _, rfl⟩ ?_
        rintro m e B L ⟨j, e3_2, e4_2, e6_2, e7_2, e8_2, e9_2, rfl, rfl, hj, rfl⟩
        refine c_seq ?_; refine c_seq ?_; refine c_region ?_; refine w_move (v := .int _ _) e9_2 ?_; refine w_move (v := .slice _ _ _) e8_2 ?_; refine w_r (fun _ => R_len sl37 rfl) rfl rfl ?_
        refine w_r (fun _ => R_lt rfl rfl) rfl rfl ?_; refine w_nil ?_; refine k_on ?_
        refine c_condD rfl (fun h5 => ?_) (fun h5 => ?_)
        · refine c_skip ?_; refine k_on ?_; refine c_seq ?_; refine c_block ?_; refine c_region ?_; refine w_move (v := .slice _ _ _) e8_2 ?_; refine w_move (v := .int _ _) e9_2 ?_
          refine w_r (fun _ => R_iaN (i := j) sl37 rfl rfl (by first | omega | decide)) rfl rfl ?_
          refine w_store 0 rfl z5 rfl rfl rfl rfl rfl (by rw [byF_len (by omega)]; exact Nat.ble_eq_true_of_le (by omega)) (byF_step (by omega)) ?_
          refine w_nil ?_; refine b_on (k_on ?_); refine c_region ?_; refine w_move (v := .int _ _) e9_2 ?_; refine w_r (fun _ => R_addi rfl rfl (by omega)) rfl rfl ?_; refine w_asg (v := .int _ _) rfl ?_
          refine w_nil ?_
          exact k_again _ (by omega) ⟨j + 1, e3_2, e4_2, e6_2, e7_2, e8_2, rfl, rfl, rfl, by omega, rfl⟩
        · rw [show byF 32 k j = List.replicate k (.int .u8 32) from (by rw [show j = k from (by omega), byF_full])]
          refine c_exit ?_; refine k_exit (k_exit (b_here rfl (k_on ?_))); refine c_seq ?_; refine c_region ?_; refine w_move (v := .slice _ _ _) e8_2 ?_
          refine w_convB (v := 32) (n := k) 0 rfl un37 un5 un9 rfl ?_
          refine w_callW (R := RdV (readP (List.replicate k 32))) (fun w => R_call Tryd.func9 rfl rfl rfl) rfl rfl (fun w h => Read_spec (List.replicate k 32) (by simp; omega) w (ht.fr (h.fr _ (.head _)) (fun x => x)) (Nat.le_trans hgs (h.fr _ (.head _)).size)) ?_
          refine fun u W2 hR2 => w_st (fun w h => h.perm List.perm_append_comm) ?_
          obtain ⟨a2, c2, rfl, hT2⟩ := hR2
          have hl2 := readP_len (List.replicate k 32)
          refine w_move rfl ?_; refine w_r (fun _ => R_extract rfl rfl) rfl rfl ?_; refine w_r (fun _ => R_extract rfl rfl) rfl rfl ?_
          refine w_alloc zr26 (fun t11b gt11b ut11b => ?_)
          refine w_asg (v := .slice _ _ _) rfl ?_; refine w_store 0 rfl z26 rfl rfl rfl rfl rfl rfl rfl ?_; refine w_nil ?_; refine k_on ?_; refine c_seq ?_; refine c_seq ?_
          refine c_region ?_; refine w_move (v := .int _ _) e3_2 ?_; refine w_r (fun _ => R_gt rfl rfl) rfl rfl ?_; refine w_nil ?_; refine k_on ?_
          refine c_condD rfl (fun h7 => ?_) (fun h7 => ?_)
          · have e1 := (semi_read (n := n) (by omega)).2 (by omega); have e2 : readP (List.replicate k 32) = ([], 3, 0) := (by rw [blank_read, if_pos (by omega)])
            refine c_seq ?_; refine c_region ?_; refine w_move (v := .slice _ _ _) e6_2 ?_; refine w_r (fun _ => R_len sl23 rfl) rfl rfl ?_; refine w_move (v := .slice _ _ _) rfl ?_
            refine w_r (fun _ => R_len sl23 rfl) rfl rfl ?_; refine w_r (fun _ => R_addi rfl rfl (by omega)) rfl rfl ?_; refine w_r (fun _ => R_eq rfl rfl) rfl rfl ?_; refine w_move (v := .bool _) rfl ?_
            refine w_splitD (t := 65) rfl (fun h8 => ?_) (fun h8 => ?_)
            · refine w_want rfl rfl (congrArg Value.bool (decide_eq_true h8)) ?_; refine w_loadA z26 e7_2 (fun _ h => h.at_ 2 rfl) rfl ?_; refine w_want rfl rfl (congrArg Value.bool (decide_eq_true h8)) ?_
              refine w_r (fun _ => R_build bt26 rfl) rfl rfl ?_; refine w_want rfl rfl (congrArg Value.bool (decide_eq_true h8)) ?_; refine w_r (fun _ => R_eqS fl26 rfl rfl (eq2_run (n := 9998) fl26 z24 z3 un24 un3)) rfl rfl ?_
              refine w_r (v := .bool _) (fun _ => R_pickT (congrArg Value.bool (decide_eq_true h8)) rfl) rfl rfl ?_; refine w_move (v := .bool _) rfl ?_
              refine w_split (t := 70) rfl (fun h9 => ?_) (fun h9 => ?_)
              · refine w_want rfl rfl (congrArg Value.bool h9) ?_; refine w_loadA z26 rfl (fun _ h => h.at_ 0 rfl) rfl ?_; refine w_want rfl rfl (congrArg Value.bool h9) ?_
                refine w_r (fun _ => R_build bt26 rfl) rfl rfl ?_; refine w_want rfl rfl (congrArg Value.bool h9) ?_; refine w_r (fun _ => R_eqS fl26 rfl rfl (eq2_run (n := 9998) fl26 z24 z3 un24 un3)) rfl rfl ?_
                refine w_r (v := .bool _) (fun _ => R_pickT (congrArg Value.bool h9) rfl) rfl rfl ?_; refine w_move (v := .bool _) rfl ?_
                refine w_split (t := 75) rfl (fun h10 => ?_) (fun h10 => ?_)
                · refine w_want rfl rfl (congrArg Value.bool h10) ?_; refine w_call (fun w => R_call Tryd.func8 rfl rfl rfl) rfl rfl (fun w h => head_spec w (ht.fr (h.fr _ (.head _)) (fun x => x)) (Nat.le_trans hgs (h.fr _ (.head _)).size)) ?_
                  refine w_r (v := .bool _) (fun _ => R_pickT (congrArg Value.bool h10) rfl) rfl rfl ?_; refine w_asg (v := .bool _) rfl ?_; refine w_nil ?_; refine k_on ?_; refine c_ret ?_
                  refine k_ret (?_)
                  refine r_one (v := .bool _) rfl rfl rfl ?_
                  exact fun w' hw => ⟨rfl, hw.fr _ (.head _)⟩
                · first | exact absurd (by first | rfl | decide) h10 | (simp [e1, e2] at h10)
              · first | exact absurd (by first | rfl | decide) h9 | (simp [e1, e2] at h9)
            · first | exact absurd (by first | rfl | decide) h8 | (simp [e1, e2] at h8)
          · have e1 := (semi_read (n := n) (by omega)).1 (by omega); have e2 : readP (List.replicate k 32) = ([], 0, 0) := (by rw [blank_read, if_neg (by omega)])
            refine c_skip ?_; refine k_on ?_; refine c_seq ?_; refine c_region ?_; refine w_move (v := .slice _ _ _) e6_2 ?_; refine w_r (fun _ => R_len sl23 rfl) rfl rfl ?_
            refine w_move (v := .slice _ _ _) e4_2 ?_; refine w_r (fun _ => R_len sl37 rfl) rfl rfl ?_; refine w_r (fun _ => R_eq rfl rfl) rfl rfl ?_; refine w_move (v := .bool _) rfl ?_
            refine w_splitD (t := 83) rfl (fun h11 => ?_) (fun h11 => ?_)
            · refine w_want rfl rfl (congrArg Value.bool (decide_eq_true h11)) ?_; refine w_loadA z26 e7_2 (fun _ h => h.at_ 2 rfl) rfl ?_; refine w_want rfl rfl (congrArg Value.bool (decide_eq_true h11)) ?_
              refine w_r (fun _ => R_build bt26 rfl) rfl rfl ?_; refine w_want rfl rfl (congrArg Value.bool (decide_eq_true h11)) ?_; refine w_r (fun _ => R_eqS fl26 rfl rfl (eq2_run (n := 9998) fl26 z24 z3 un24 un3)) rfl rfl ?_
              refine w_r (v := .bool _) (fun _ => R_pickT (congrArg Value.bool (decide_eq_true h11)) rfl) rfl rfl ?_; refine w_move (v := .bool _) rfl ?_
              refine w_split (t := 88) rfl (fun h12 => ?_) (fun h12 => ?_)
              · refine w_want rfl rfl (congrArg Value.bool h12) ?_; refine w_move (v := .slice _ _ _) rfl ?_; refine w_want rfl rfl (congrArg Value.bool h12) ?_; refine w_r (fun _ => R_len sl23 rfl) rfl rfl ?_
                refine w_want rfl rfl (congrArg Value.bool h12) ?_; refine w_r (fun _ => R_eq rfl rfl) rfl rfl ?_; refine w_r (v := .bool _) (fun _ => R_pickT (congrArg Value.bool h12) rfl) rfl rfl ?_
                refine w_move (v := .bool _) rfl ?_
                refine w_splitD (t := 93) rfl (fun h13 => ?_) (fun h13 => ?_)
                · refine w_want rfl rfl (congrArg Value.bool (decide_eq_true h13)) ?_; refine w_loadA z26 rfl (fun _ h => h.at_ 0 rfl) rfl ?_; refine w_want rfl rfl (congrArg Value.bool (decide_eq_true h13)) ?_
                  refine w_r (fun _ => R_build bt26 rfl) rfl rfl ?_; refine w_want rfl rfl (congrArg Value.bool (decide_eq_true h13)) ?_; refine w_r (fun _ => R_eqS fl26 rfl rfl (eq2_run (n := 9998) fl26 z24 z3 un24 un3)) rfl rfl ?_
                  refine w_r (v := .bool _) (fun _ => R_pickT (congrArg Value.bool (decide_eq_true h13)) rfl) rfl rfl ?_; refine w_move (v := .bool _) rfl ?_
                  refine w_split (t := 98) rfl (fun h14 => ?_) (fun h14 => ?_)
                  · refine w_want rfl rfl (congrArg Value.bool h14) ?_; refine w_call (fun w => R_call Tryd.func8 rfl rfl rfl) rfl rfl (fun w h => head_spec w (ht.fr (h.fr _ (.head _)) (fun x => x)) (Nat.le_trans hgs (h.fr _ (.head _)).size)) ?_
                    refine w_r (v := .bool _) (fun _ => R_pickT (congrArg Value.bool h14) rfl) rfl rfl ?_; refine w_asg (v := .bool _) rfl ?_; refine w_nil ?_; refine k_on ?_; refine c_ret ?_
                    refine r_one (v := .bool _) rfl rfl rfl ?_
                    exact fun w' hw => ⟨rfl, hw.fr _ (.head _)⟩
                  · first | exact absurd (by first | rfl | decide) h14 | (simp [e1, e2] at h14)
                · first | exact absurd (by first | rfl | decide) h13 | (simp [e1, e2] at h13)
              · first | exact absurd (by first | rfl | decide) h12 | (simp [e1, e2] at h12)
            · first | exact absurd (by first | rfl | decide) h11 | (simp [e1, e2] at h11)
end Go.Proofs.YtmcajoiembfjiaaDoor
