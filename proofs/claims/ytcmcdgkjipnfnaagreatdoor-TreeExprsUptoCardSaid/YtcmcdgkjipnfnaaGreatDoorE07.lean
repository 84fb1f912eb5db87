/- For every two expressions, of a bulk of at most 1048576, the law TreeExprs holds of the given program. Part 7 of 15. -/
import Derived.Test.YtcmcdgkjipnfnaaGreatDoorE02
import Derived.Test.YtcmcdgkjipnfnaaGreatDoorE06
section
namespace Go.Proofs.YtcmcdgkjipnfnaaGreatDoor
open Go.RowKit Go.Sx
open Go.Tok Go.Tree

set_option maxRecDepth 100000 in
set_option maxHeartbeats 8000000 in
theorem decl_spec (x : Dc) (cs : List Value) (N : Nat → Prop) (w : World) (hx : dcW x < 10000000) (hm : dcM w N x cs) (hW : Wd w) :
    Ret Tryz.prog 41 #[.agg cs.toArray] w (fun v w' => v = .bool (dcOk x) ∧ Ext w w') := by
  obtain ⟨ty, at_, nm, sz, lo, up, ini⟩ := x
  have hm2 := hm
  unfold dcM at hm2
  obtain ⟨sa, sc, la, lc, ua, uc, ia, ic, hcs, hsz, hlo, hup, hini⟩ := hm2
  simp only [] at hcs
  subst hcs
  have hx2 := hx
  simp only [dcW] at hx2
  simp only [] at hsz hlo hup hini
  refine enter (S := No) (l := [_]) (L := []) 63 Tryz.func41 rfl rfl rfl (St.start w No) ?_
  refine c_seq ?_; refine c_region ?_
  refine w_boxA rfl (fun t1b gt1b ut1b => ?_)
  refine w_asg (v := .bool _) rfl ?_; refine w_nil ?_; refine k_on ?_; refine c_seq ?_; refine c_region ?_; refine w_fa fa52_0 rfl ?_; refine w_load z5 rfl (fun _ h => cel_own 0 rfl rfl h) ?_
  refine w_r (fun _ => R_ge rfl rfl) rfl rfl ?_; refine w_asg (v := .bool _) rfl ?_; refine w_nil ?_; refine k_on ?_; refine c_seq ?_; refine c_seq ?_; refine c_region ?_
  refine w_fa fa52_0 rfl ?_; refine w_load z5 rfl (fun _ h => cel_own 0 rfl rfl h) ?_; refine w_r (fun _ => R_lt rfl rfl) rfl rfl ?_; refine w_move (v := .bool _) rfl ?_
  refine w_splitD (t := 12) rfl (fun h2 => ?_) (fun h2 => ?_)
  · (try (have qh2 := h2; norm_cast at qh2))
    refine w_skip rfl rfl (bT h2) ?_; refine w_skip rfl rfl (bT h2) ?_; refine w_skip rfl rfl (bT h2) ?_
    refine w_r (v := .bool _) (fun _ => R_pickT (bT h2) rfl) rfl rfl ?_; refine w_move (v := .bool _) rfl ?_; refine w_skip rfl rfl rfl ?_
    refine w_skip rfl rfl rfl ?_; refine w_skip rfl rfl rfl ?_; refine w_skip rfl rfl rfl ?_; refine w_r (v := .bool _) (fun _ => R_pickT rfl rfl) rfl rfl ?_; refine w_move (v := .bool _) rfl ?_
    refine w_skip rfl rfl rfl ?_; refine w_skip rfl rfl rfl ?_; refine w_skip rfl rfl rfl ?_; refine w_skip rfl rfl rfl ?_; refine w_skip rfl rfl rfl ?_; refine w_skip rfl rfl rfl ?_
    refine w_r (v := .bool _) (fun _ => R_pickT rfl rfl) rfl rfl ?_; refine w_move (v := .bool _) rfl ?_; refine w_skip rfl rfl rfl ?_; refine w_skip rfl rfl rfl ?_
    refine w_skip rfl rfl rfl ?_; refine w_skip rfl rfl rfl ?_; refine w_skipU rfl rfl rfl ?_; refine w_skipU rfl rfl rfl ?_; refine w_skipU rfl rfl rfl ?_; refine w_skipU rfl rfl rfl ?_
    refine w_skip rfl rfl rfl ?_; refine w_r (v := .bool _) (fun _ => R_pickT rfl rfl) rfl rfl ?_; refine w_nil ?_; refine k_on ?_; refine c_condT rfl ?_; refine c_seq ?_
    refine c_region ?_; refine w_asg (v := .bool _) rfl ?_; refine w_nil ?_; refine k_on ?_; refine c_ret ?_; refine k_ret (?_)
    refine r_one (v := .bool _) rfl rfl rfl ?_
    exact fun w' hw => ⟨by (try clear hw); (try clear hm); (try clear hW); (try clear hsz); (try clear hlo); (try clear hup); (try clear hini); (try clear gt1b); (try clear ut1b); simp only [dcOk, partOk]; grind, hw.fr _ (.head _)⟩
  · (try (have qh2 := h2; norm_cast at qh2))
    refine w_want rfl rfl (bF h2) ?_; refine w_fa fa52_0 rfl ?_; refine w_want rfl rfl (bF h2) ?_
    refine w_load z5 rfl (fun _ h => cel_own 0 rfl rfl h) ?_; refine w_want rfl rfl (bF h2) ?_; refine w_r (fun _ => R_gt rfl rfl) rfl rfl ?_
    refine w_r (v := .bool _) (fun _ => R_pickF (bF h2) rfl) rfl rfl ?_; refine w_move (v := .bool _) rfl ?_
    refine w_splitD (t := 17) rfl (fun h3 => ?_) (fun h3 => ?_)
    · (try (have qh3 := h3; norm_cast at qh3))
      refine w_skip rfl rfl (bT h3) ?_; refine w_skip rfl rfl (bT h3) ?_; refine w_skip rfl rfl (bT h3) ?_
      refine w_skip rfl rfl (bT h3) ?_; refine w_r (v := .bool _) (fun _ => R_pickT (bT h3) rfl) rfl rfl ?_
      refine w_move (v := .bool _) rfl ?_; refine w_skip rfl rfl rfl ?_; refine w_skip rfl rfl rfl ?_; refine w_skip rfl rfl rfl ?_; refine w_skip rfl rfl rfl ?_; refine w_skip rfl rfl rfl ?_
      refine w_skip rfl rfl rfl ?_; refine w_r (v := .bool _) (fun _ => R_pickT rfl rfl) rfl rfl ?_; refine w_move (v := .bool _) rfl ?_; refine w_skip rfl rfl rfl ?_
      refine w_skip rfl rfl rfl ?_; refine w_skip rfl rfl rfl ?_; refine w_skip rfl rfl rfl ?_; refine w_skipU rfl rfl rfl ?_; refine w_skipU rfl rfl rfl ?_; refine w_skipU rfl rfl rfl ?_
      refine w_skipU rfl rfl rfl ?_; refine w_skip rfl rfl rfl ?_; refine w_r (v := .bool _) (fun _ => R_pickT rfl rfl) rfl rfl ?_; refine w_nil ?_; refine k_on ?_; refine c_condT rfl ?_
      refine c_seq ?_; refine c_region ?_; refine w_asg (v := .bool _) rfl ?_; refine w_nil ?_; refine k_on ?_; refine c_ret ?_; refine k_ret (?_)
      refine r_one (v := .bool _) rfl rfl rfl ?_
      exact fun w' hw => ⟨by (try clear hw); (try clear hm); (try clear hW); (try clear hsz); (try clear hlo); (try clear hup); (try clear hini); (try clear gt1b); (try clear ut1b); simp only [dcOk, partOk]; grind, hw.fr _ (.head _)⟩
    · (try (have qh3 := h3; norm_cast at qh3))
      refine w_want rfl rfl (bF h3) ?_; refine w_fa fa52_2 rfl ?_; refine w_want rfl rfl (bF h3) ?_
      refine w_load z9 rfl (fun _ h => cel_own 0 rfl rfl h) ?_; refine w_want rfl rfl (bF h3) ?_; refine w_call (fun w => R_call Tryz.func24 rfl rfl rfl) rfl rfl (fun w h => Name_spec _ (by omega) w (hW.now (.head _) h)) ?_
      refine w_want rfl rfl (bF h3) ?_; refine w_r (fun _ => R_not rfl) rfl rfl ?_; refine w_r (v := .bool _) (fun _ => R_pickF (bF h3) rfl) rfl rfl ?_
      refine w_move (v := .bool _) rfl ?_
      refine w_split (t := 23) rfl (fun h4 => ?_) (fun h4 => ?_)
      · (try (have qh4 := h4; norm_cast at qh4))
        refine w_skip rfl rfl (bV h4) ?_; refine w_skip rfl rfl (bV h4) ?_; refine w_skip rfl rfl (bV h4) ?_; refine w_skip rfl rfl (bV h4) ?_
        refine w_skip rfl rfl (bV h4) ?_; refine w_skip rfl rfl (bV h4) ?_; refine w_r (v := .bool _) (fun _ => R_pickT (bV h4) rfl) rfl rfl ?_
        refine w_move (v := .bool _) rfl ?_; refine w_skip rfl rfl rfl ?_; refine w_skip rfl rfl rfl ?_; refine w_skip rfl rfl rfl ?_; refine w_skip rfl rfl rfl ?_; refine w_skipU rfl rfl rfl ?_
        refine w_skipU rfl rfl rfl ?_; refine w_skipU rfl rfl rfl ?_; refine w_skipU rfl rfl rfl ?_; refine w_skip rfl rfl rfl ?_; refine w_r (v := .bool _) (fun _ => R_pickT rfl rfl) rfl rfl ?_
        refine w_nil ?_; refine k_on ?_; refine c_condT rfl ?_; refine c_seq ?_; refine c_region ?_; refine w_asg (v := .bool _) rfl ?_; refine w_nil ?_; refine k_on ?_; refine c_ret ?_
        refine k_ret (?_)
        refine r_one (v := .bool _) rfl rfl rfl ?_
        exact fun w' hw => ⟨by (try clear hw); (try clear hm); (try clear hW); (try clear hsz); (try clear hlo); (try clear hup); (try clear hini); (try clear gt1b); (try clear ut1b); simp only [dcOk, partOk]; grind, hw.fr _ (.head _)⟩
      · (try (have qh4 := h4; norm_cast at qh4))
        refine w_want rfl rfl (bV h4) ?_; refine w_fa fa52_3 rfl ?_; refine w_want rfl rfl (bV h4) ?_; refine w_load z22 rfl (fun _ h => cel_own 0 rfl rfl h) ?_
        refine w_want rfl rfl (bV h4) ?_; refine w_r (fun _ => R_len sl22 rfl) rfl rfl ?_; refine w_want rfl rfl (bV h4) ?_; refine w_r (fun _ => R_eq rfl rfl) rfl rfl ?_
        refine w_want rfl rfl (bV h4) ?_; refine w_move (v := .bool _) rfl ?_; refine w_want rfl rfl (bV h4) ?_; refine w_r (fun _ => R_bne unb4 rfl rfl) rfl rfl ?_
        refine w_r (v := .bool _) (fun _ => R_pickF (bV h4) rfl) rfl rfl ?_; refine w_move (v := .bool _) rfl ?_
        refine w_split (t := 31) rfl (fun h5 => ?_) (fun h5 => ?_)
        · (try (have qh5 := h5; norm_cast at qh5))
          refine w_skip rfl rfl (bV h5) ?_; refine w_skip rfl rfl (bV h5) ?_; refine w_skip rfl rfl (bV h5) ?_; refine w_skip rfl rfl (bV h5) ?_
          refine w_skipU rfl rfl rfl ?_; refine w_skipU rfl rfl rfl ?_; refine w_skipU rfl rfl rfl ?_; refine w_skipU rfl rfl rfl ?_; refine w_skip rfl rfl (bV h5) ?_
          refine w_r (v := .bool _) (fun _ => R_pickT (bV h5) rfl) rfl rfl ?_; refine w_nil ?_; refine k_on ?_; refine c_condT rfl ?_; refine c_seq ?_; refine c_region ?_
          refine w_asg (v := .bool _) rfl ?_; refine w_nil ?_; refine k_on ?_; refine c_ret ?_; refine k_ret (?_)
          refine r_one (v := .bool _) rfl rfl rfl ?_
          exact fun w' hw => ⟨by (try clear hw); (try clear hm); (try clear hW); (try clear hsz); (try clear hlo); (try clear hup); (try clear hini); (try clear gt1b); (try clear ut1b); simp only [dcOk, partOk]; grind, hw.fr _ (.head _)⟩
        · (try (have qh5 := h5; norm_cast at qh5))
          refine w_want rfl rfl (bV h5) ?_; refine w_fa fa52_0 rfl ?_; refine w_want rfl rfl (bV h5) ?_; refine w_load z5 rfl (fun _ h => cel_own 0 rfl rfl h) ?_
          refine w_want rfl rfl (bV h5) ?_; refine w_r (fun _ => R_gt rfl rfl) rfl rfl ?_; refine w_want rfl rfl (bV h5) ?_; refine w_move (v := .bool _) rfl ?_
          refine w_splitD (t := 35) rfl (fun h6 => ?_) (fun h6 => ?_)
          · (try (have qh6 := h6; norm_cast at qh6))
            refine w_want rfl rfl (bT h6) ?_; refine w_fa fa52_6 rfl ?_; refine w_want rfl rfl (bT h6) ?_
            refine w_load z22 rfl (fun _ h => cel_own 0 rfl rfl h) ?_; refine w_want rfl rfl (bT h6) ?_; refine w_r (fun _ => R_len sl22 rfl) rfl rfl ?_
            refine w_want rfl rfl (bT h6) ?_; refine w_r (fun _ => R_gt rfl rfl) rfl rfl ?_; refine w_want rfl rfl (bV h5) ?_
            refine w_r (v := .bool _) (fun _ => R_pickT (bT h6) rfl) rfl rfl ?_; refine w_r (v := .bool _) (fun _ => R_pickF (bV h5) rfl) rfl rfl ?_
            refine w_nil ?_; refine k_on ?_
            refine c_condD rfl (fun h7 => ?_) (fun h7 => ?_)
            · (try (have qh7 := h7; norm_cast at qh7))
              refine c_seq ?_; refine c_region ?_; refine w_asg (v := .bool _) rfl ?_; refine w_nil ?_; refine k_on ?_; refine c_ret ?_; refine k_ret (?_)
              refine r_one (v := .bool _) rfl rfl rfl ?_
              exact fun w' hw => ⟨by (try clear hw); (try clear hm); (try clear hW); (try clear hsz); (try clear hlo); (try clear hup); (try clear hini); (try clear gt1b); (try clear ut1b); simp only [dcOk, partOk]; grind, hw.fr _ (.head _)⟩
            · (try (have qh7 := h7; norm_cast at qh7))
              refine c_skip ?_; refine k_on ?_; refine c_seq ?_; refine c_seq ?_; refine c_region ?_; refine w_fa fa52_3 rfl ?_; refine w_load z22 rfl (fun _ h => cel_own 0 rfl rfl h) ?_
              refine w_fa fa52_4 rfl ?_; refine w_load z22 rfl (fun _ h => cel_own 0 rfl rfl h) ?_; refine w_fa fa52_5 rfl ?_; refine w_load z22 rfl (fun _ h => cel_own 0 rfl rfl h) ?_
              refine w_fa fa52_6 rfl ?_; refine w_load z22 rfl (fun _ h => cel_own 0 rfl rfl h) ?_; refine w_r (fun _ => R_buildA ar109 zr109 rfl) rfl rfl ?_; refine w_move (v := .int _ _) rfl ?_
              refine w_nil ?_; refine k_on ?_; refine c_block ?_
              refine c_rounds 5 ?_
              refine c_seq ?_; refine c_region ?_; refine w_r (fun _ => R_lt rfl rfl) rfl rfl ?_; refine w_nil ?_; refine k_on ?_; refine c_seq ?_; refine c_condT (congrArg Value.bool (decide_eq_true (by decide))) ?_
              refine c_skip ?_; refine k_on ?_; refine c_seq ?_; refine c_block ?_; refine c_seq ?_; refine c_region ?_; refine w_r (fun _ => R_aidx (i := 0) ar109 rfl rfl rfl rfl) rfl rfl ?_
              refine w_asg (v := .slice _ _ _) rfl ?_; refine w_nil ?_; refine k_on ?_; refine c_seq ?_; refine c_region ?_; refine w_move (v := .slice _ _ _) rfl ?_; refine w_r (fun _ => R_len sl22 rfl) rfl rfl ?_
              refine w_r (fun _ => R_gt rfl rfl) rfl rfl ?_; refine w_move (v := .bool _) rfl ?_
              refine w_splitD (t := 57) rfl (fun h8 => ?_) (fun h8 => ?_)
              · (try (have qh8 := h8; norm_cast at qh8))
                refine w_skip rfl rfl (bT h8) ?_; refine w_skip rfl rfl (bT h8) ?_; refine w_skip rfl rfl (bT h8) ?_
                refine w_r (v := .bool _) (fun _ => R_pickT (bT h8) rfl) rfl rfl ?_; refine w_nil ?_; refine k_on ?_; refine c_condT rfl ?_
                refine c_seq ?_; refine c_region ?_; refine w_asg (v := .bool _) rfl ?_; refine w_nil ?_; refine k_on ?_; refine c_ret ?_; refine b_ret (k_ret (k_ret (b_ret (k_ret (?_)))))
                refine r_one (v := .bool _) rfl rfl rfl ?_
                exact fun w' hw => ⟨by (try clear hw); (try clear hm); (try clear hW); (try clear hsz); (try clear hlo); (try clear hup); (try clear hini); (try clear gt1b); (try clear ut1b); simp only [dcOk, partOk]; grind, hw.fr _ (.head _)⟩
              · (try (have qh8 := h8; norm_cast at qh8))
                refine w_want rfl rfl (bF h8) ?_; refine w_move (v := .slice _ _ _) rfl ?_; refine w_want rfl rfl (bF h8) ?_
                refine w_call (fun w => R_call Tryz.func58 rfl rfl rfl) rfl rfl (fun w h => exprs_ok sz sa sc N w (by omega) (by omega) (hsz.now (fun _ _ hh => hh) (.head _) h) (hW.now (.head _) h)) ?_
                refine w_want rfl rfl (bF h8) ?_; refine w_r (fun _ => R_not rfl) rfl rfl ?_; refine w_r (v := .bool _) (fun _ => R_pickF (bF h8) rfl) rfl rfl ?_
                refine w_nil ?_; refine k_on ?_
                refine c_condN rfl (fun h9 => ?_) (fun h9 => ?_)
                · (try (have qh9 := h9; norm_cast at qh9))
                  refine c_seq ?_; refine c_region ?_; refine w_asg (v := .bool _) rfl ?_; refine w_nil ?_; refine k_on ?_; refine c_ret ?_; refine b_ret (k_ret (k_ret (b_ret (k_ret (?_)))))
                  refine r_one (v := .bool _) rfl rfl rfl ?_
                  exact fun w' hw => ⟨by (try clear hw); (try clear hm); (try clear hW); (try clear hsz); (try clear hlo); (try clear hup); (try clear hini); (try clear gt1b); (try clear ut1b); simp only [dcOk, partOk]; grind, hw.fr _ (.head _)⟩
                · (try (have qh9 := h9; norm_cast at qh9))
                  refine c_skip ?_; refine b_on (k_on ?_); refine c_region ?_; refine w_r (fun _ => R_addi rfl rfl (by omega)) rfl rfl ?_; refine w_move (v := .int _ _) rfl ?_; refine w_nil ?_
                  refine k_rounds ?_; refine c_seq ?_; refine c_region ?_; refine w_r (fun _ => R_lt rfl rfl) rfl rfl ?_; refine w_nil ?_; refine k_on ?_; refine c_seq ?_; refine c_condT (congrArg Value.bool (decide_eq_true (by decide))) ?_
                  refine c_skip ?_; refine k_on ?_; refine c_seq ?_; refine c_block ?_; refine c_seq ?_; refine c_region ?_; refine w_r (fun _ => R_aidx (i := 1) ar109 rfl rfl rfl rfl) rfl rfl ?_
                  refine w_asg (v := .slice _ _ _) rfl ?_; refine w_nil ?_; refine k_on ?_; refine c_seq ?_; refine c_region ?_; refine w_move (v := .slice _ _ _) rfl ?_; refine w_r (fun _ => R_len sl22 rfl) rfl rfl ?_
                  refine w_r (fun _ => R_gt rfl rfl) rfl rfl ?_; refine w_move (v := .bool _) rfl ?_
                  refine w_splitD (t := 57) rfl (fun h10 => ?_) (fun h10 => ?_)
                  · (try (have qh10 := h10; norm_cast at qh10))
                    refine w_skip rfl rfl (bT h10) ?_; refine w_skip rfl rfl (bT h10) ?_; refine w_skip rfl rfl (bT h10) ?_
                    refine w_r (v := .bool _) (fun _ => R_pickT (bT h10) rfl) rfl rfl ?_; refine w_nil ?_; refine k_on ?_; refine c_condT rfl ?_
                    refine c_seq ?_; refine c_region ?_; refine w_asg (v := .bool _) rfl ?_; refine w_nil ?_; refine k_on ?_; refine c_ret ?_; refine b_ret (k_ret (k_ret (b_ret (k_ret (?_)))))
                    refine r_one (v := .bool _) rfl rfl rfl ?_
                    exact fun w' hw => ⟨by (try clear hw); (try clear hm); (try clear hW); (try clear hsz); (try clear hlo); (try clear hup); (try clear hini); (try clear gt1b); (try clear ut1b); simp only [dcOk, partOk]; grind, hw.fr _ (.head _)⟩
                  · (try (have qh10 := h10; norm_cast at qh10))
                    refine w_want rfl rfl (bF h10) ?_; refine w_move (v := .slice _ _ _) rfl ?_; refine w_want rfl rfl (bF h10) ?_
                    refine w_call (fun w => R_call Tryz.func58 rfl rfl rfl) rfl rfl (fun w h => exprs_ok lo la lc N w (by omega) (by omega) (hlo.now (fun _ _ hh => hh) (.head _) h) (hW.now (.head _) h)) ?_
                    refine w_want rfl rfl (bF h10) ?_; refine w_r (fun _ => R_not rfl) rfl rfl ?_; refine w_r (v := .bool _) (fun _ => R_pickF (bF h10) rfl) rfl rfl ?_
                    refine w_nil ?_; refine k_on ?_
                    refine c_condN rfl (fun h11 => ?_) (fun h11 => ?_)
                    · (try (have qh11 := h11; norm_cast at qh11))
                      refine c_seq ?_; refine c_region ?_; refine w_asg (v := .bool _) rfl ?_; refine w_nil ?_; refine k_on ?_; refine c_ret ?_; refine b_ret (k_ret (k_ret (b_ret (k_ret (?_)))))
                      refine r_one (v := .bool _) rfl rfl rfl ?_
                      exact fun w' hw => ⟨by (try clear hw); (try clear hm); (try clear hW); (try clear hsz); (try clear hlo); (try clear hup); (try clear hini); (try clear gt1b); (try clear ut1b); simp only [dcOk, partOk]; grind, hw.fr _ (.head _)⟩
                    · (try (have qh11 := h11; norm_cast at qh11))
                      refine c_skip ?_; refine b_on (k_on ?_); refine c_region ?_; refine w_r (fun _ => R_addi rfl rfl (by omega)) rfl rfl ?_; refine w_move (v := .int _ _) rfl ?_; refine w_nil ?_
                      refine k_rounds ?_; refine c_seq ?_; refine c_region ?_; refine w_r (fun _ => R_lt rfl rfl) rfl rfl ?_; refine w_nil ?_; refine k_on ?_; refine c_seq ?_; refine c_condT (congrArg Value.bool (decide_eq_true (by decide))) ?_
                      refine c_skip ?_; refine k_on ?_; refine c_seq ?_; refine c_block ?_; refine c_seq ?_; refine c_region ?_; refine w_r (fun _ => R_aidx (i := 2) ar109 rfl rfl rfl rfl) rfl rfl ?_
                      refine w_asg (v := .slice _ _ _) rfl ?_; refine w_nil ?_; refine k_on ?_; refine c_seq ?_; refine c_region ?_; refine w_move (v := .slice _ _ _) rfl ?_; refine w_r (fun _ => R_len sl22 rfl) rfl rfl ?_
                      refine w_r (fun _ => R_gt rfl rfl) rfl rfl ?_; refine w_move (v := .bool _) rfl ?_
                      refine w_splitD (t := 57) rfl (fun h12 => ?_) (fun h12 => ?_)
                      · (try (have qh12 := h12; norm_cast at qh12))
                        refine w_skip rfl rfl (bT h12) ?_; refine w_skip rfl rfl (bT h12) ?_; refine w_skip rfl rfl (bT h12) ?_
                        refine w_r (v := .bool _) (fun _ => R_pickT (bT h12) rfl) rfl rfl ?_; refine w_nil ?_; refine k_on ?_; refine c_condT rfl ?_
                        refine c_seq ?_; refine c_region ?_; refine w_asg (v := .bool _) rfl ?_; refine w_nil ?_; refine k_on ?_; refine c_ret ?_; refine b_ret (k_ret (k_ret (b_ret (k_ret (?_)))))
                        refine r_one (v := .bool _) rfl rfl rfl ?_
                        exact fun w' hw => ⟨by (try clear hw); (try clear hm); (try clear hW); (try clear hsz); (try clear hlo); (try clear hup); (try clear hini); (try clear gt1b); (try clear ut1b); simp only [dcOk, partOk]; grind, hw.fr _ (.head _)⟩
                      · (try (have qh12 := h12; norm_cast at qh12))
                        refine w_want rfl rfl (bF h12) ?_; refine w_move (v := .slice _ _ _) rfl ?_; refine w_want rfl rfl (bF h12) ?_
                        refine w_call (fun w => R_call Tryz.func58 rfl rfl rfl) rfl rfl (fun w h => exprs_ok up ua uc N w (by omega) (by omega) (hup.now (fun _ _ hh => hh) (.head _) h) (hW.now (.head _) h)) ?_
                        refine w_want rfl rfl (bF h12) ?_; refine w_r (fun _ => R_not rfl) rfl rfl ?_; refine w_r (v := .bool _) (fun _ => R_pickF (bF h12) rfl) rfl rfl ?_
                        refine w_nil ?_; refine k_on ?_
                        refine c_condN rfl (fun h13 => ?_) (fun h13 => ?_)
                        · (try (have qh13 := h13; norm_cast at qh13))
                          refine c_seq ?_; refine c_region ?_; refine w_asg (v := .bool _) rfl ?_; refine w_nil ?_; refine k_on ?_; refine c_ret ?_; refine b_ret (k_ret (k_ret (b_ret (k_ret (?_)))))
                          refine r_one (v := .bool _) rfl rfl rfl ?_
                          exact fun w' hw => ⟨by (try clear hw); (try clear hm); (try clear hW); (try clear hsz); (try clear hlo); (try clear hup); (try clear hini); (try clear gt1b); (try clear ut1b); simp only [dcOk, partOk]; grind, hw.fr _ (.head _)⟩
                        · (try (have qh13 := h13; norm_cast at qh13))
                          refine c_skip ?_; refine b_on (k_on ?_); refine c_region ?_; refine w_r (fun _ => R_addi rfl rfl (by omega)) rfl rfl ?_; refine w_move (v := .int _ _) rfl ?_; refine w_nil ?_
                          refine k_rounds ?_; refine c_seq ?_; refine c_region ?_; refine w_r (fun _ => R_lt rfl rfl) rfl rfl ?_; refine w_nil ?_; refine k_on ?_; refine c_seq ?_; refine c_condT (congrArg Value.bool (decide_eq_true (by decide))) ?_
                          refine c_skip ?_; refine k_on ?_; refine c_seq ?_; refine c_block ?_; refine c_seq ?_; refine c_region ?_; refine w_r (fun _ => R_aidx (i := 3) ar109 rfl rfl rfl rfl) rfl rfl ?_
                          refine w_asg (v := .slice _ _ _) rfl ?_; refine w_nil ?_; refine k_on ?_; refine c_seq ?_; refine c_region ?_; refine w_move (v := .slice _ _ _) rfl ?_; refine w_r (fun _ => R_len sl22 rfl) rfl rfl ?_
                          refine w_r (fun _ => R_gt rfl rfl) rfl rfl ?_; refine w_move (v := .bool _) rfl ?_
                          refine w_splitD (t := 57) rfl (fun h14 => ?_) (fun h14 => ?_)
                          · (try (have qh14 := h14; norm_cast at qh14))
                            refine w_skip rfl rfl (bT h14) ?_; refine w_skip rfl rfl (bT h14) ?_; refine w_skip rfl rfl (bT h14) ?_
                            refine w_r (v := .bool _) (fun _ => R_pickT (bT h14) rfl) rfl rfl ?_; refine w_nil ?_; refine k_on ?_; refine c_condT rfl ?_
                            refine c_seq ?_; refine c_region ?_; refine w_asg (v := .bool _) rfl ?_; refine w_nil ?_; refine k_on ?_; refine c_ret ?_; refine b_ret (k_ret (k_ret (b_ret (k_ret (?_)))))
                            refine r_one (v := .bool _) rfl rfl rfl ?_
                            exact fun w' hw => ⟨by (try clear hw); (try clear hm); (try clear hW); (try clear hsz); (try clear hlo); (try clear hup); (try clear hini); (try clear gt1b); (try clear ut1b); simp only [dcOk, partOk]; grind, hw.fr _ (.head _)⟩
                          · (try (have qh14 := h14; norm_cast at qh14))
                            refine w_want rfl rfl (bF h14) ?_; refine w_move (v := .slice _ _ _) rfl ?_; refine w_want rfl rfl (bF h14) ?_
                            refine w_call (fun w => R_call Tryz.func58 rfl rfl rfl) rfl rfl (fun w h => exprs_ok ini ia ic N w (by omega) (by omega) (hini.now (fun _ _ hh => hh) (.head _) h) (hW.now (.head _) h)) ?_
                            refine w_want rfl rfl (bF h14) ?_; refine w_r (fun _ => R_not rfl) rfl rfl ?_; refine w_r (v := .bool _) (fun _ => R_pickF (bF h14) rfl) rfl rfl ?_
                            refine w_nil ?_; refine k_on ?_
                            refine c_condN rfl (fun h15 => ?_) (fun h15 => ?_)
                            · (try (have qh15 := h15; norm_cast at qh15))
                              refine c_seq ?_; refine c_region ?_; refine w_asg (v := .bool _) rfl ?_; refine w_nil ?_; refine k_on ?_; refine c_ret ?_; refine b_ret (k_ret (k_ret (b_ret (k_ret (?_)))))
                              refine r_one (v := .bool _) rfl rfl rfl ?_
                              exact fun w' hw => ⟨by (try clear hw); (try clear hm); (try clear hW); (try clear hsz); (try clear hlo); (try clear hup); (try clear hini); (try clear gt1b); (try clear ut1b); simp only [dcOk, partOk]; grind, hw.fr _ (.head _)⟩
                            · (try (have qh15 := h15; norm_cast at qh15))
                              refine c_skip ?_; refine b_on (k_on ?_); refine c_region ?_; refine w_r (fun _ => R_addi rfl rfl (by omega)) rfl rfl ?_; refine w_move (v := .int _ _) rfl ?_; refine w_nil ?_
                              refine k_rounds ?_; refine c_seq ?_; refine c_region ?_; refine w_r (fun _ => R_lt rfl rfl) rfl rfl ?_; refine w_nil ?_; refine k_on ?_; refine c_seq ?_; refine c_condF (congrArg Value.bool (decide_eq_false (by decide))) ?_
                              refine c_exit ?_; refine k_exit (k_exit (b_here rfl (k_on ?_))); refine c_seq ?_; refine c_region ?_; refine w_asg (v := .bool _) rfl ?_; refine w_nil ?_; refine k_on ?_
                              refine c_ret ?_
                              refine r_one (v := .bool _) rfl rfl rfl ?_
                              exact fun w' hw => ⟨by (try clear hw); (try clear hm); (try clear hW); (try clear hsz); (try clear hlo); (try clear hup); (try clear hini); (try clear gt1b); (try clear ut1b); simp only [dcOk, partOk]; grind, hw.fr _ (.head _)⟩
          · (try (have qh6 := h6; norm_cast at qh6))
            refine w_skip rfl rfl (bF h6) ?_; refine w_skip rfl rfl (bF h6) ?_; refine w_skip rfl rfl (bF h6) ?_
            refine w_skip rfl rfl (bF h6) ?_; refine w_want rfl rfl (bV h5) ?_; refine w_r (v := .bool _) (fun _ => R_pickF (bF h6) rfl) rfl rfl ?_
            refine w_r (v := .bool _) (fun _ => R_pickF (bV h5) rfl) rfl rfl ?_; refine w_nil ?_; refine k_on ?_; refine c_condF rfl ?_; refine c_skip ?_; refine k_on ?_
            refine c_seq ?_; refine c_seq ?_; refine c_region ?_; refine w_fa fa52_3 rfl ?_; refine w_load z22 rfl (fun _ h => cel_own 0 rfl rfl h) ?_; refine w_fa fa52_4 rfl ?_
            refine w_load z22 rfl (fun _ h => cel_own 0 rfl rfl h) ?_; refine w_fa fa52_5 rfl ?_; refine w_load z22 rfl (fun _ h => cel_own 0 rfl rfl h) ?_; refine w_fa fa52_6 rfl ?_
            refine w_load z22 rfl (fun _ h => cel_own 0 rfl rfl h) ?_; refine w_r (fun _ => R_buildA ar109 zr109 rfl) rfl rfl ?_; refine w_move (v := .int _ _) rfl ?_; refine w_nil ?_
            refine k_on ?_; refine c_block ?_
            refine c_rounds 5 ?_
            refine c_seq ?_; refine c_region ?_; refine w_r (fun _ => R_lt rfl rfl) rfl rfl ?_; refine w_nil ?_; refine k_on ?_; refine c_seq ?_; refine c_condT (congrArg Value.bool (decide_eq_true (by decide))) ?_
            refine c_skip ?_; refine k_on ?_; refine c_seq ?_; refine c_block ?_; refine c_seq ?_; refine c_region ?_; refine w_r (fun _ => R_aidx (i := 0) ar109 rfl rfl rfl rfl) rfl rfl ?_
            refine w_asg (v := .slice _ _ _) rfl ?_; refine w_nil ?_; refine k_on ?_; refine c_seq ?_; refine c_region ?_; refine w_move (v := .slice _ _ _) rfl ?_; refine w_r (fun _ => R_len sl22 rfl) rfl rfl ?_
            refine w_r (fun _ => R_gt rfl rfl) rfl rfl ?_; refine w_move (v := .bool _) rfl ?_
            refine w_splitD (t := 57) rfl (fun h16 => ?_) (fun h16 => ?_)
            · (try (have qh16 := h16; norm_cast at qh16))
              refine w_skip rfl rfl (bT h16) ?_; refine w_skip rfl rfl (bT h16) ?_; refine w_skip rfl rfl (bT h16) ?_
              refine w_r (v := .bool _) (fun _ => R_pickT (bT h16) rfl) rfl rfl ?_; refine w_nil ?_; refine k_on ?_; refine c_condT rfl ?_
              refine c_seq ?_; refine c_region ?_; refine w_asg (v := .bool _) rfl ?_; refine w_nil ?_; refine k_on ?_; refine c_ret ?_; refine b_ret (k_ret (k_ret (b_ret (k_ret (?_)))))
              refine r_one (v := .bool _) rfl rfl rfl ?_
              exact fun w' hw => ⟨by (try clear hw); (try clear hm); (try clear hW); (try clear hsz); (try clear hlo); (try clear hup); (try clear hini); (try clear gt1b); (try clear ut1b); simp only [dcOk, partOk]; grind, hw.fr _ (.head _)⟩
            · (try (have qh16 := h16; norm_cast at qh16))
              refine w_want rfl rfl (bF h16) ?_; refine w_move (v := .slice _ _ _) rfl ?_; refine w_want rfl rfl (bF h16) ?_
              refine w_call (fun w => R_call Tryz.func58 rfl rfl rfl) rfl rfl (fun w h => exprs_ok sz sa sc N w (by omega) (by omega) (hsz.now (fun _ _ hh => hh) (.head _) h) (hW.now (.head _) h)) ?_
              refine w_want rfl rfl (bF h16) ?_; refine w_r (fun _ => R_not rfl) rfl rfl ?_; refine w_r (v := .bool _) (fun _ => R_pickF (bF h16) rfl) rfl rfl ?_
              refine w_nil ?_; refine k_on ?_
              refine c_condN rfl (fun h17 => ?_) (fun h17 => ?_)
              · (try (have qh17 := h17; norm_cast at qh17))
                refine c_seq ?_; refine c_region ?_; refine w_asg (v := .bool _) rfl ?_; refine w_nil ?_; refine k_on ?_; refine c_ret ?_; refine b_ret (k_ret (k_ret (b_ret (k_ret (?_)))))
                refine r_one (v := .bool _) rfl rfl rfl ?_
                exact fun w' hw => ⟨by (try clear hw); (try clear hm); (try clear hW); (try clear hsz); (try clear hlo); (try clear hup); (try clear hini); (try clear gt1b); (try clear ut1b); simp only [dcOk, partOk]; grind, hw.fr _ (.head _)⟩
              · (try (have qh17 := h17; norm_cast at qh17))
                refine c_skip ?_; refine b_on (k_on ?_); refine c_region ?_; refine w_r (fun _ => R_addi rfl rfl (by omega)) rfl rfl ?_; refine w_move (v := .int _ _) rfl ?_; refine w_nil ?_
                refine k_rounds ?_; refine c_seq ?_; refine c_region ?_; refine w_r (fun _ => R_lt rfl rfl) rfl rfl ?_; refine w_nil ?_; refine k_on ?_; refine c_seq ?_; refine c_condT (congrArg Value.bool (decide_eq_true (by decide))) ?_
                refine c_skip ?_; refine k_on ?_; refine c_seq ?_; refine c_block ?_; refine c_seq ?_; refine c_region ?_; refine w_r (fun _ => R_aidx (i := 1) ar109 rfl rfl rfl rfl) rfl rfl ?_
                refine w_asg (v := .slice _ _ _) rfl ?_; refine w_nil ?_; refine k_on ?_; refine c_seq ?_; refine c_region ?_; refine w_move (v := .slice _ _ _) rfl ?_; refine w_r (fun _ => R_len sl22 rfl) rfl rfl ?_
                refine w_r (fun _ => R_gt rfl rfl) rfl rfl ?_; refine w_move (v := .bool _) rfl ?_
                refine w_splitD (t := 57) rfl (fun h18 => ?_) (fun h18 => ?_)
                · (try (have qh18 := h18; norm_cast at qh18))
                  refine w_skip rfl rfl (bT h18) ?_; refine w_skip rfl rfl (bT h18) ?_; refine w_skip rfl rfl (bT h18) ?_
                  refine w_r (v := .bool _) (fun _ => R_pickT (bT h18) rfl) rfl rfl ?_; refine w_nil ?_; refine k_on ?_; refine c_condT rfl ?_
                  refine c_seq ?_; refine c_region ?_; refine w_asg (v := .bool _) rfl ?_; refine w_nil ?_; refine k_on ?_; refine c_ret ?_; refine b_ret (k_ret (k_ret (b_ret (k_ret (?_)))))
                  refine r_one (v := .bool _) rfl rfl rfl ?_
                  exact fun w' hw => ⟨by (try clear hw); (try clear hm); (try clear hW); (try clear hsz); (try clear hlo); (try clear hup); (try clear hini); (try clear gt1b); (try clear ut1b); simp only [dcOk, partOk]; grind, hw.fr _ (.head _)⟩
                · (try (have qh18 := h18; norm_cast at qh18))
                  refine w_want rfl rfl (bF h18) ?_; refine w_move (v := .slice _ _ _) rfl ?_; refine w_want rfl rfl (bF h18) ?_
                  refine w_call (fun w => R_call Tryz.func58 rfl rfl rfl) rfl rfl (fun w h => exprs_ok lo la lc N w (by omega) (by omega) (hlo.now (fun _ _ hh => hh) (.head _) h) (hW.now (.head _) h)) ?_
                  refine w_want rfl rfl (bF h18) ?_; refine w_r (fun _ => R_not rfl) rfl rfl ?_; refine w_r (v := .bool _) (fun _ => R_pickF (bF h18) rfl) rfl rfl ?_
                  refine w_nil ?_; refine k_on ?_
                  refine c_condN rfl (fun h19 => ?_) (fun h19 => ?_)
                  · (try (have qh19 := h19; norm_cast at qh19))
                    refine c_seq ?_; refine c_region ?_; refine w_asg (v := .bool _) rfl ?_; refine w_nil ?_; refine k_on ?_; refine c_ret ?_; refine b_ret (k_ret (k_ret (b_ret (k_ret (?_)))))
                    refine r_one (v := .bool _) rfl rfl rfl ?_
                    exact fun w' hw => ⟨by (try clear hw); (try clear hm); (try clear hW); (try clear hsz); (try clear hlo); (try clear hup); (try clear hini); (try clear gt1b); (try clear ut1b); simp only [dcOk, partOk]; grind, hw.fr _ (.head _)⟩
                  · (try (have qh19 := h19; norm_cast at qh19))
                    refine c_skip ?_; refine b_on (k_on ?_); refine c_region ?_; refine w_r (fun _ => R_addi rfl rfl (by omega)) rfl rfl ?_; refine w_move (v := .int _ _) rfl ?_; refine w_nil ?_
                    refine k_rounds ?_; refine c_seq ?_; refine c_region ?_; refine w_r (fun _ => R_lt rfl rfl) rfl rfl ?_; refine w_nil ?_; refine k_on ?_; refine c_seq ?_; refine c_condT (congrArg Value.bool (decide_eq_true (by decide))) ?_
                    refine c_skip ?_; refine k_on ?_; refine c_seq ?_; refine c_block ?_; refine c_seq ?_; refine c_region ?_; refine w_r (fun _ => R_aidx (i := 2) ar109 rfl rfl rfl rfl) rfl rfl ?_
                    refine w_asg (v := .slice _ _ _) rfl ?_; refine w_nil ?_; refine k_on ?_; refine c_seq ?_; refine c_region ?_; refine w_move (v := .slice _ _ _) rfl ?_; refine w_r (fun _ => R_len sl22 rfl) rfl rfl ?_
                    refine w_r (fun _ => R_gt rfl rfl) rfl rfl ?_; refine w_move (v := .bool _) rfl ?_
                    refine w_splitD (t := 57) rfl (fun h20 => ?_) (fun h20 => ?_)
                    · (try (have qh20 := h20; norm_cast at qh20))
                      refine w_skip rfl rfl (bT h20) ?_; refine w_skip rfl rfl (bT h20) ?_; refine w_skip rfl rfl (bT h20) ?_
                      refine w_r (v := .bool _) (fun _ => R_pickT (bT h20) rfl) rfl rfl ?_; refine w_nil ?_; refine k_on ?_; refine c_condT rfl ?_
                      refine c_seq ?_; refine c_region ?_; refine w_asg (v := .bool _) rfl ?_; refine w_nil ?_; refine k_on ?_; refine c_ret ?_; refine b_ret (k_ret (k_ret (b_ret (k_ret (?_)))))
                      refine r_one (v := .bool _) rfl rfl rfl ?_
                      exact fun w' hw => ⟨by (try clear hw); (try clear hm); (try clear hW); (try clear hsz); (try clear hlo); (try clear hup); (try clear hini); (try clear gt1b); (try clear ut1b); simp only [dcOk, partOk]; grind, hw.fr _ (.head _)⟩
                    · (try (have qh20 := h20; norm_cast at qh20))
                      refine w_want rfl rfl (bF h20) ?_; refine w_move (v := .slice _ _ _) rfl ?_; refine w_want rfl rfl (bF h20) ?_
                      refine w_call (fun w => R_call Tryz.func58 rfl rfl rfl) rfl rfl (fun w h => exprs_ok up ua uc N w (by omega) (by omega) (hup.now (fun _ _ hh => hh) (.head _) h) (hW.now (.head _) h)) ?_
                      refine w_want rfl rfl (bF h20) ?_; refine w_r (fun _ => R_not rfl) rfl rfl ?_; refine w_r (v := .bool _) (fun _ => R_pickF (bF h20) rfl) rfl rfl ?_
                      refine w_nil ?_; refine k_on ?_
                      refine c_condN rfl (fun h21 => ?_) (fun h21 => ?_)
                      · (try (have qh21 := h21; norm_cast at qh21))
                        refine c_seq ?_; refine c_region ?_; refine w_asg (v := .bool _) rfl ?_; refine w_nil ?_; refine k_on ?_; refine c_ret ?_; refine b_ret (k_ret (k_ret (b_ret (k_ret (?_)))))
                        refine r_one (v := .bool _) rfl rfl rfl ?_
                        exact fun w' hw => ⟨by (try clear hw); (try clear hm); (try clear hW); (try clear hsz); (try clear hlo); (try clear hup); (try clear hini); (try clear gt1b); (try clear ut1b); simp only [dcOk, partOk]; grind, hw.fr _ (.head _)⟩
                      · (try (have qh21 := h21; norm_cast at qh21))
                        refine c_skip ?_; refine b_on (k_on ?_); refine c_region ?_; refine w_r (fun _ => R_addi rfl rfl (by omega)) rfl rfl ?_; refine w_move (v := .int _ _) rfl ?_; refine w_nil ?_
                        refine k_rounds ?_; refine c_seq ?_; refine c_region ?_; refine w_r (fun _ => R_lt rfl rfl) rfl rfl ?_; refine w_nil ?_; refine k_on ?_; refine c_seq ?_; refine c_condT (congrArg Value.bool (decide_eq_true (by decide))) ?_
                        refine c_skip ?_; refine k_on ?_; refine c_seq ?_; refine c_block ?_; refine c_seq ?_; refine c_region ?_; refine w_r (fun _ => R_aidx (i := 3) ar109 rfl rfl rfl rfl) rfl rfl ?_
                        refine w_asg (v := .slice _ _ _) rfl ?_; refine w_nil ?_; refine k_on ?_; refine c_seq ?_; refine c_region ?_; refine w_move (v := .slice _ _ _) rfl ?_; refine w_r (fun _ => R_len sl22 rfl) rfl rfl ?_
                        refine w_r (fun _ => R_gt rfl rfl) rfl rfl ?_; refine w_move (v := .bool _) rfl ?_
                        refine w_splitD (t := 57) rfl (fun h22 => ?_) (fun h22 => ?_)
                        · (try (have qh22 := h22; norm_cast at qh22))
                          refine w_skip rfl rfl (bT h22) ?_; refine w_skip rfl rfl (bT h22) ?_; refine w_skip rfl rfl (bT h22) ?_
                          refine w_r (v := .bool _) (fun _ => R_pickT (bT h22) rfl) rfl rfl ?_; refine w_nil ?_; refine k_on ?_; refine c_condT rfl ?_
                          refine c_seq ?_; refine c_region ?_; refine w_asg (v := .bool _) rfl ?_; refine w_nil ?_; refine k_on ?_; refine c_ret ?_; refine b_ret (k_ret (k_ret (b_ret (k_ret (?_)))))
                          refine r_one (v := .bool _) rfl rfl rfl ?_
                          exact fun w' hw => ⟨by (try clear hw); (try clear hm); (try clear hW); (try clear hsz); (try clear hlo); (try clear hup); (try clear hini); (try clear gt1b); (try clear ut1b); simp only [dcOk, partOk]; grind, hw.fr _ (.head _)⟩
                        · (try (have qh22 := h22; norm_cast at qh22))
                          refine w_want rfl rfl (bF h22) ?_; refine w_move (v := .slice _ _ _) rfl ?_; refine w_want rfl rfl (bF h22) ?_
                          refine w_call (fun w => R_call Tryz.func58 rfl rfl rfl) rfl rfl (fun w h => exprs_ok ini ia ic N w (by omega) (by omega) (hini.now (fun _ _ hh => hh) (.head _) h) (hW.now (.head _) h)) ?_
                          refine w_want rfl rfl (bF h22) ?_; refine w_r (fun _ => R_not rfl) rfl rfl ?_; refine w_r (v := .bool _) (fun _ => R_pickF (bF h22) rfl) rfl rfl ?_
                          refine w_nil ?_; refine k_on ?_
                          refine c_condN rfl (fun h23 => ?_) (fun h23 => ?_)
                          · (try (have qh23 := h23; norm_cast at qh23))
                            refine c_seq ?_; refine c_region ?_; refine w_asg (v := .bool _) rfl ?_; refine w_nil ?_; refine k_on ?_; refine c_ret ?_; refine b_ret (k_ret (k_ret (b_ret (k_ret (?_)))))
                            refine r_one (v := .bool _) rfl rfl rfl ?_
                            exact fun w' hw => ⟨by (try clear hw); (try clear hm); (try clear hW); (try clear hsz); (try clear hlo); (try clear hup); (try clear hini); (try clear gt1b); (try clear ut1b); simp only [dcOk, partOk]; grind, hw.fr _ (.head _)⟩
                          · (try (have qh23 := h23; norm_cast at qh23))
                            refine c_skip ?_; refine b_on (k_on ?_); refine c_region ?_; refine w_r (fun _ => R_addi rfl rfl (by omega)) rfl rfl ?_; refine w_move (v := .int _ _) rfl ?_; refine w_nil ?_
                            refine k_rounds ?_; refine c_seq ?_; refine c_region ?_; refine w_r (fun _ => R_lt rfl rfl) rfl rfl ?_; refine w_nil ?_; refine k_on ?_; refine c_seq ?_; refine c_condF (congrArg Value.bool (decide_eq_false (by decide))) ?_
                            refine c_exit ?_; refine k_exit (k_exit (b_here rfl (k_on ?_))); refine c_seq ?_; refine c_region ?_; refine w_asg (v := .bool _) rfl ?_; refine w_nil ?_; refine k_on ?_
                            refine c_ret ?_
                            refine r_one (v := .bool _) rfl rfl rfl ?_
                            exact fun w' hw => ⟨by (try clear hw); (try clear hm); (try clear hW); (try clear hsz); (try clear hlo); (try clear hup); (try clear hini); (try clear gt1b); (try clear ut1b); simp only [dcOk, partOk]; grind, hw.fr _ (.head _)⟩

set_option maxRecDepth 100000 in
set_option maxHeartbeats 8000000 in
theorem Check_spec (p : List Bk) (cs : List Value) (N : Nat → Prop) (w : World) (hp : ∀ b ∈ p, bkW b < 10000000) (hm : pgM w N p cs) (hW : Wd w) :
    Ret Tryz.prog 15 #[.agg cs.toArray] w (fun v w' => v = .int .i64 (if pgOk p then 0 else 120) ∧ Ext w w') := by
  refine enter (S := No) (l := [_]) (L := []) 80 Tryz.func15 rfl rfl rfl (St.start w No) ?_
  refine c_seq ?_; refine c_region ?_
  refine w_boxA rfl (fun t1b gt1b ut1b => ?_)
  refine w_asg (v := .int _ _) rfl ?_; refine w_nil ?_; refine k_on ?_; refine c_seq ?_; refine c_seq ?_; refine c_region ?_; refine w_fa fa40_0 rfl ?_
  refine w_loadW z38 rfl (fun _ h => h.at_ 0 rfl) hm.len ?_
  refine w_move (v := .int _ _) rfl ?_; refine w_nil ?_; refine k_on ?_; refine c_block ?_
  refine c_loop (fun m e B L => ∃ (i : Nat), e 9 = .agg cs.toArray ∧ e 10 = .int .i64 (i : Nat) ∧ B = [(w, No)] ∧ L = [(t1b, cel cs 40)] ∧ i ≤ 6 ∧ (∀ j b, j < i → p[j]? = some b → bkOk j b = true) ∧ m = 6 - i) _ ⟨0, rfl, rfl, rfl, rfl, Nat.zero_le _, (fun _ _ h => absurd h (Nat.not_lt_zero _)), rfl⟩ ?_
  rintro m e B L ⟨i, e9_1, e10_1, rfl, rfl, hi, hj, rfl⟩
  refine c_seq ?_; refine c_region ?_; refine w_r (fun _ => R_lt e10_1 rfl) rfl rfl ?_; refine w_nil ?_; refine k_on ?_; refine c_seq ?_
  refine c_condD rfl (fun h2 => ?_) (fun h2 => ?_)
  · (try (have qh2 := h2; norm_cast at qh2))
    have hi6 : i < 6 := (by omega); obtain ⟨b, hb⟩ : ∃ b, p[i]? = some b := ⟨_, List.getElem?_eq_getElem (by rw [hm.six]; exact hi6)⟩; have hbw := hp b (List.mem_of_getElem? hb); unfold bkW at hbw; obtain ⟨da, dc, sa, sc, hcb, hds, hss⟩ := hm.one i b hb
    refine c_skip ?_; refine k_on ?_; refine c_seq ?_; refine c_block ?_; refine c_seq ?_; refine c_region ?_; refine w_move (v := .int _ _) e10_1 ?_
    refine w_r (v := .agg (List.toArray [.bool b.is, .slice da b.decls.length dc, .slice sa b.stmts.length sc])) (fun _ => R_aidxA (i := i) ara38 e9_1 e10_1 (by omega) hcb) rfl rfl ?_
    refine w_alloc zr37 (fun t4b gt4b ut4b => ?_)
    refine w_asg (v := .int _ _) rfl ?_; refine w_store 0 rfl z37 rfl rfl rfl rfl rfl rfl rfl ?_; refine w_nil ?_; refine k_on ?_; refine c_seq ?_; refine c_region ?_
    refine w_move (v := .int _ _) rfl ?_; refine w_r (fun _ => R_eq rfl rfl) rfl rfl ?_; refine w_move (v := .bool _) rfl ?_
    refine w_splitD (t := 16) rfl (fun h4 => ?_) (fun h4 => ?_)
    · (try (have qh4 := h4; norm_cast at qh4))
      refine w_skip rfl rfl (bT h4) ?_; refine w_skip rfl rfl (bT h4) ?_; refine w_r (v := .bool _) (fun _ => R_pickT (bT h4) rfl) rfl rfl ?_
      refine w_asg (v := .bool _) rfl ?_; refine w_nil ?_; refine k_on ?_
      refine c_cut (fun e B L => e 3 = .int .i64 (i : Nat) ∧ e 4 = .pointer (some ⟨t4b, 0, none⟩) ∧ e 5 = .bool (gv i) ∧ e 9 = .agg cs.toArray ∧ e 10 = .int .i64 (i : Nat) ∧ B = [(w, No)] ∧ L = [(t4b, cel [.bool b.is, .slice da b.decls.length dc, .slice sa b.stmts.length sc] 37), (t1b, cel cs 40)] ∧ headB i b = true) ?_ ?_
      · (try (have qmid2 := mid2; norm_cast at qmid2))
        refine c_block ?_; refine c_seq ?_; refine c_region ?_; refine w_fa fa37_0 rfl ?_; refine w_load z4 rfl (fun _ h => cel_own 0 rfl rfl h) ?_; refine w_r (fun _ => R_not rfl) rfl rfl ?_
        refine w_move (v := .bool _) rfl ?_
        refine w_split (t := 24) rfl (fun h5 => ?_) (fun h5 => ?_)
        · (try (have qh5 := h5; norm_cast at qh5))
          refine w_want rfl rfl (bV h5) ?_; refine w_fa fa37_1 rfl ?_; refine w_want rfl rfl (bV h5) ?_; refine w_load z34 rfl (fun _ h => cel_own 0 rfl rfl h) ?_
          refine w_want rfl rfl (bV h5) ?_; refine w_r (fun _ => R_len sl34 rfl) rfl rfl ?_; refine w_want rfl rfl (bV h5) ?_; refine w_fa fa37_2 rfl ?_
          refine w_want rfl rfl (bV h5) ?_; refine w_load z35 rfl (fun _ h => cel_own 0 rfl rfl h) ?_; refine w_want rfl rfl (bV h5) ?_
          refine w_r (fun _ => R_len sl35 rfl) rfl rfl ?_; refine w_want rfl rfl (bV h5) ?_; refine w_r (fun _ => R_addi rfl rfl (by omega)) rfl rfl ?_
          refine w_want rfl rfl (bV h5) ?_; refine w_r (fun _ => R_gt rfl rfl) rfl rfl ?_; refine w_r (v := .bool _) (fun _ => R_pickT (bV h5) rfl) rfl rfl ?_
          refine w_move (v := .bool _) rfl ?_
          refine w_splitD (t := 34) rfl (fun h6 => ?_) (fun h6 => ?_)
          · (try (have qh6 := h6; norm_cast at qh6))
            refine w_skip rfl rfl (bT h6) ?_; refine w_skip rfl rfl (bT h6) ?_; refine w_skipU rfl rfl rfl ?_
            refine w_skipU rfl rfl rfl ?_; refine w_skipU rfl rfl rfl ?_; refine w_skipU rfl rfl rfl ?_; refine w_skip rfl rfl (bT h6) ?_
            refine w_r (v := .bool _) (fun _ => R_pickT (bT h6) rfl) rfl rfl ?_; refine w_move (v := .bool _) rfl ?_; refine w_skip rfl rfl rfl ?_
            refine w_skip rfl rfl rfl ?_; refine w_skip rfl rfl rfl ?_; refine w_skipU rfl rfl rfl ?_; refine w_skipU rfl rfl rfl ?_; refine w_skipU rfl rfl rfl ?_; refine w_skipU rfl rfl rfl ?_
            refine w_skip rfl rfl rfl ?_; refine w_r (v := .bool _) (fun _ => R_pickT rfl rfl) rfl rfl ?_; refine w_move (v := .bool _) rfl ?_; refine w_skip rfl rfl rfl ?_
            refine w_skip rfl rfl rfl ?_; refine w_skip rfl rfl rfl ?_; refine w_skip rfl rfl rfl ?_; refine w_r (v := .bool _) (fun _ => R_pickT rfl rfl) rfl rfl ?_; refine w_asg (v := .bool _) rfl ?_
            refine w_nil ?_; refine k_on ?_; refine c_condT rfl ?_; refine c_seq ?_; refine c_region ?_; refine w_asg (v := .int _ _) rfl ?_; refine w_nil ?_; refine k_on ?_; refine c_ret ?_
            refine b_ret (k_ret (b_ret (k_ret (k_ret (b_ret (k_ret (?_)))))))
            refine r_one (v := .int _ _) rfl rfl rfl ?_
            exact fun w' hw => ⟨by first | (rw [pgOk_yes hm.six (fun j b h => hj j b (by omega))]; rfl) | (rw [pgOk_no hi6 hb (by first | (unfold bkOk; rw [all_no hxk (by (try clear hw); (try clear hm); (try clear hds); (try clear hss); (try clear hcb); (try clear hp); (try clear hW); (try clear hj); (try clear hA); (try clear hE); (try clear hsz); (try clear hlo); (try clear hup); (try clear hini); (try clear e10_1); (try clear e9_1); (try clear gt1b); (try clear gt4b); (try clear ut1b); (try clear ut4b); simp only [dgood]; grind)]; simp; done) | ((try clear hw); (try clear hm); (try clear hds); (try clear hss); (try clear hcb); (try clear hp); (try clear hW); (try clear hj); (try clear hA); (try clear hE); (try clear hsz); (try clear hlo); (try clear hup); (try clear hini); (try clear e10_1); (try clear e9_1); (try clear gt1b); (try clear gt4b); (try clear ut1b); (try clear ut4b); simp only [bkOk, headB, gv]; grind))]; rfl), hw.fr _ (.head _)⟩
          · (try (have qh6 := h6; norm_cast at qh6))
            refine w_want rfl rfl (bF h6) ?_; refine w_move (v := .bool _) rfl ?_; refine w_want rfl rfl (bF h6) ?_
            refine w_move (v := .bool _) rfl ?_; refine w_want rfl rfl rfl ?_; refine w_fa fa37_2 rfl ?_; refine w_want rfl rfl rfl ?_; refine w_load z35 rfl (fun _ h => cel_own 0 rfl rfl h) ?_
            refine w_want rfl rfl rfl ?_; refine w_r (fun _ => R_len sl35 rfl) rfl rfl ?_; refine w_want rfl rfl rfl ?_; refine w_r (fun _ => R_gt rfl rfl) rfl rfl ?_; refine w_want rfl rfl (bF h6) ?_
            refine w_r (v := .bool _) (fun _ => R_pickT rfl rfl) rfl rfl ?_; refine w_r (v := .bool _) (fun _ => R_pickF (bF h6) rfl) rfl rfl ?_
            refine w_move (v := .bool _) rfl ?_
            refine w_splitD (t := 43) rfl (fun h7 => ?_) (fun h7 => ?_)
            · (try (have qh7 := h7; norm_cast at qh7))
              refine w_skip rfl rfl (bT h7) ?_; refine w_skip rfl rfl (bT h7) ?_; refine w_skip rfl rfl (bT h7) ?_
              refine w_skipU rfl rfl rfl ?_; refine w_skipU rfl rfl rfl ?_; refine w_skipU rfl rfl rfl ?_; refine w_skipU rfl rfl rfl ?_; refine w_skip rfl rfl (bT h7) ?_
              refine w_r (v := .bool _) (fun _ => R_pickT (bT h7) rfl) rfl rfl ?_; refine w_move (v := .bool _) rfl ?_; refine w_skip rfl rfl rfl ?_
              refine w_skip rfl rfl rfl ?_; refine w_skip rfl rfl rfl ?_; refine w_skip rfl rfl rfl ?_; refine w_r (v := .bool _) (fun _ => R_pickT rfl rfl) rfl rfl ?_; refine w_asg (v := .bool _) rfl ?_
              refine w_nil ?_; refine k_on ?_; refine c_condT rfl ?_; refine c_seq ?_; refine c_region ?_; refine w_asg (v := .int _ _) rfl ?_; refine w_nil ?_; refine k_on ?_; refine c_ret ?_
              refine b_ret (k_ret (b_ret (k_ret (k_ret (b_ret (k_ret (?_)))))))
              refine r_one (v := .int _ _) rfl rfl rfl ?_
              exact fun w' hw => ⟨by first | (rw [pgOk_yes hm.six (fun j b h => hj j b (by omega))]; rfl) | (rw [pgOk_no hi6 hb (by first | (unfold bkOk; rw [all_no hxk (by (try clear hw); (try clear hm); (try clear hds); (try clear hss); (try clear hcb); (try clear hp); (try clear hW); (try clear hj); (try clear hA); (try clear hE); (try clear hsz); (try clear hlo); (try clear hup); (try clear hini); (try clear e10_1); (try clear e9_1); (try clear gt1b); (try clear gt4b); (try clear ut1b); (try clear ut4b); simp only [dgood]; grind)]; simp; done) | ((try clear hw); (try clear hm); (try clear hds); (try clear hss); (try clear hcb); (try clear hp); (try clear hW); (try clear hj); (try clear hA); (try clear hE); (try clear hsz); (try clear hlo); (try clear hup); (try clear hini); (try clear e10_1); (try clear e9_1); (try clear gt1b); (try clear gt4b); (try clear ut1b); (try clear ut4b); simp only [bkOk, headB, gv]; grind))]; rfl), hw.fr _ (.head _)⟩
            · (try (have qh7 := h7; norm_cast at qh7))
              refine w_want rfl rfl (bF h7) ?_; refine w_move (v := .int _ _) rfl ?_; refine w_want rfl rfl (bF h7) ?_
              refine w_r (fun _ => R_eq rfl rfl) rfl rfl ?_; refine w_want rfl rfl (bF h7) ?_; refine w_move (v := .bool _) rfl ?_
              refine w_splitD (t := 46) rfl (fun h8 => ?_) (fun h8 => ?_)
              · (try (have qh8 := h8; norm_cast at qh8))
                refine w_want rfl rfl (bT h8) ?_; refine w_fa fa37_1 rfl ?_; refine w_want rfl rfl (bT h8) ?_
                refine w_load z34 rfl (fun _ h => cel_own 0 rfl rfl h) ?_; refine w_want rfl rfl (bT h8) ?_; refine w_r (fun _ => R_len sl34 rfl) rfl rfl ?_
                refine w_want rfl rfl (bT h8) ?_; refine w_r (fun _ => R_gt rfl rfl) rfl rfl ?_; refine w_want rfl rfl (bF h7) ?_
                refine w_r (v := .bool _) (fun _ => R_pickT (bT h8) rfl) rfl rfl ?_; refine w_r (v := .bool _) (fun _ => R_pickF (bF h7) rfl) rfl rfl ?_
                refine w_move (v := .bool _) rfl ?_
                refine w_splitD (t := 53) rfl (fun h9 => ?_) (fun h9 => ?_)
                · (try (have qh9 := h9; norm_cast at qh9))
                  refine w_skip rfl rfl (bT h9) ?_; refine w_skip rfl rfl (bT h9) ?_; refine w_skip rfl rfl (bT h9) ?_
                  refine w_skip rfl rfl (bT h9) ?_; refine w_r (v := .bool _) (fun _ => R_pickT (bT h9) rfl) rfl rfl ?_
                  refine w_asg (v := .bool _) rfl ?_; refine w_nil ?_; refine k_on ?_; refine c_condT rfl ?_; refine c_seq ?_; refine c_region ?_; refine w_asg (v := .int _ _) rfl ?_
                  refine w_nil ?_; refine k_on ?_; refine c_ret ?_; refine b_ret (k_ret (b_ret (k_ret (k_ret (b_ret (k_ret (?_)))))))
                  refine r_one (v := .int _ _) rfl rfl rfl ?_
                  exact fun w' hw => ⟨by first | (rw [pgOk_yes hm.six (fun j b h => hj j b (by omega))]; rfl) | (rw [pgOk_no hi6 hb (by first | (unfold bkOk; rw [all_no hxk (by (try clear hw); (try clear hm); (try clear hds); (try clear hss); (try clear hcb); (try clear hp); (try clear hW); (try clear hj); (try clear hA); (try clear hE); (try clear hsz); (try clear hlo); (try clear hup); (try clear hini); (try clear e10_1); (try clear e9_1); (try clear gt1b); (try clear gt4b); (try clear ut1b); (try clear ut4b); simp only [dgood]; grind)]; simp; done) | ((try clear hw); (try clear hm); (try clear hds); (try clear hss); (try clear hcb); (try clear hp); (try clear hW); (try clear hj); (try clear hA); (try clear hE); (try clear hsz); (try clear hlo); (try clear hup); (try clear hini); (try clear e10_1); (try clear e9_1); (try clear gt1b); (try clear gt4b); (try clear ut1b); (try clear ut4b); simp only [bkOk, headB, gv]; grind))]; rfl), hw.fr _ (.head _)⟩
                · (try (have qh9 := h9; norm_cast at qh9))
                  refine w_want rfl rfl (bF h9) ?_; refine w_fa fa37_2 rfl ?_; refine w_want rfl rfl (bF h9) ?_
                  refine w_load z35 rfl (fun _ h => cel_own 0 rfl rfl h) ?_; refine w_want rfl rfl (bF h9) ?_; refine w_call (fun w => R_call Tryz.func40 rfl rfl rfl) rfl rfl (fun w h => stmts_ok b.stmts sa sc N w (by omega) (by omega) (hss.now (fun _ _ hh => hh) (.head _) h) (hW.now (.head _) h)) ?_
                  refine w_want rfl rfl (bF h9) ?_; refine w_r (fun _ => R_not rfl) rfl rfl ?_; refine w_r (v := .bool _) (fun _ => R_pickF (bF h9) rfl) rfl rfl ?_
                  refine w_asg (v := .bool _) rfl ?_; refine w_nil ?_; refine k_on ?_
                  refine c_condN rfl (fun h10 => ?_) (fun h10 => ?_)
                  · (try (have qh10 := h10; norm_cast at qh10))
                    refine c_seq ?_; refine c_region ?_; refine w_asg (v := .int _ _) rfl ?_; refine w_nil ?_; refine k_on ?_; refine c_ret ?_; refine b_ret (k_ret (b_ret (k_ret (k_ret (b_ret (k_ret (?_)))))))
                    refine r_one (v := .int _ _) rfl rfl rfl ?_
                    exact fun w' hw => ⟨by first | (rw [pgOk_yes hm.six (fun j b h => hj j b (by omega))]; rfl) | (rw [pgOk_no hi6 hb (by first | (unfold bkOk; rw [all_no hxk (by (try clear hw); (try clear hm); (try clear hds); (try clear hss); (try clear hcb); (try clear hp); (try clear hW); (try clear hj); (try clear hA); (try clear hE); (try clear hsz); (try clear hlo); (try clear hup); (try clear hini); (try clear e10_1); (try clear e9_1); (try clear gt1b); (try clear gt4b); (try clear ut1b); (try clear ut4b); simp only [dgood]; grind)]; simp; done) | ((try clear hw); (try clear hm); (try clear hds); (try clear hss); (try clear hcb); (try clear hp); (try clear hW); (try clear hj); (try clear hA); (try clear hE); (try clear hsz); (try clear hlo); (try clear hup); (try clear hini); (try clear e10_1); (try clear e9_1); (try clear gt1b); (try clear gt4b); (try clear ut1b); (try clear ut4b); simp only [bkOk, headB, gv]; grind))]; rfl), hw.fr _ (.head _)⟩
                  · (try (have qh10 := h10; norm_cast at qh10))
                    refine c_skip ?_; refine b_on (?_)
                    exact k_mid ⟨rfl, rfl, (congrArg Value.bool (by (try clear hw); (try clear hm); (try clear hds); (try clear hss); (try clear hcb); (try clear hp); (try clear hW); (try clear hj); (try clear hA); (try clear hE); (try clear hsz); (try clear hlo); (try clear hup); (try clear hini); (try clear e10_1); (try clear e9_1); (try clear gt1b); (try clear gt4b); (try clear ut1b); (try clear ut4b); simp only [gv]; grind)), e9_1, e10_1, rfl, rfl, by (try clear hw); (try clear hm); (try clear hds); (try clear hss); (try clear hcb); (try clear hp); (try clear hW); (try clear hj); (try clear hA); (try clear hE); (try clear hsz); (try clear hlo); (try clear hup); (try clear hini); (try clear e10_1); (try clear e9_1); (try clear gt1b); (try clear gt4b); (try clear ut1b); (try clear ut4b); simp only [headB, gv]; grind⟩
              · (try (have qh8 := h8; norm_cast at qh8))
                refine w_skip rfl rfl (bF h8) ?_; refine w_skip rfl rfl (bF h8) ?_; refine w_skip rfl rfl (bF h8) ?_
                refine w_skip rfl rfl (bF h8) ?_; refine w_want rfl rfl (bF h7) ?_; refine w_r (v := .bool _) (fun _ => R_pickF (bF h8) rfl) rfl rfl ?_
                refine w_r (v := .bool _) (fun _ => R_pickF (bF h7) rfl) rfl rfl ?_; refine w_move (v := .bool _) rfl ?_; refine w_want rfl rfl rfl ?_
                refine w_fa fa37_2 rfl ?_; refine w_want rfl rfl rfl ?_; refine w_load z35 rfl (fun _ h => cel_own 0 rfl rfl h) ?_; refine w_want rfl rfl rfl ?_; refine w_call (fun w => R_call Tryz.func40 rfl rfl rfl) rfl rfl (fun w h => stmts_ok b.stmts sa sc N w (by omega) (by omega) (hss.now (fun _ _ hh => hh) (.head _) h) (hW.now (.head _) h)) ?_
                refine w_want rfl rfl rfl ?_; refine w_r (fun _ => R_not rfl) rfl rfl ?_; refine w_r (v := .bool _) (fun _ => R_pickF rfl rfl) rfl rfl ?_; refine w_asg (v := .bool _) rfl ?_
                refine w_nil ?_; refine k_on ?_
                refine c_condN rfl (fun h11 => ?_) (fun h11 => ?_)
                · (try (have qh11 := h11; norm_cast at qh11))
                  refine c_seq ?_; refine c_region ?_; refine w_asg (v := .int _ _) rfl ?_; refine w_nil ?_; refine k_on ?_; refine c_ret ?_; refine b_ret (k_ret (b_ret (k_ret (k_ret (b_ret (k_ret (?_)))))))
                  refine r_one (v := .int _ _) rfl rfl rfl ?_
                  exact fun w' hw => ⟨by first | (rw [pgOk_yes hm.six (fun j b h => hj j b (by omega))]; rfl) | (rw [pgOk_no hi6 hb (by first | (unfold bkOk; rw [all_no hxk (by (try clear hw); (try clear hm); (try clear hds); (try clear hss); (try clear hcb); (try clear hp); (try clear hW); (try clear hj); (try clear hA); (try clear hE); (try clear hsz); (try clear hlo); (try clear hup); (try clear hini); (try clear e10_1); (try clear e9_1); (try clear gt1b); (try clear gt4b); (try clear ut1b); (try clear ut4b); simp only [dgood]; grind)]; simp; done) | ((try clear hw); (try clear hm); (try clear hds); (try clear hss); (try clear hcb); (try clear hp); (try clear hW); (try clear hj); (try clear hA); (try clear hE); (try clear hsz); (try clear hlo); (try clear hup); (try clear hini); (try clear e10_1); (try clear e9_1); (try clear gt1b); (try clear gt4b); (try clear ut1b); (try clear ut4b); simp only [bkOk, headB, gv]; grind))]; rfl), hw.fr _ (.head _)⟩
                · (try (have qh11 := h11; norm_cast at qh11))
                  refine c_skip ?_; refine b_on (?_)
                  exact k_mid ⟨rfl, rfl, (congrArg Value.bool (by (try clear hw); (try clear hm); (try clear hds); (try clear hss); (try clear hcb); (try clear hp); (try clear hW); (try clear hj); (try clear hA); (try clear hE); (try clear hsz); (try clear hlo); (try clear hup); (try clear hini); (try clear e10_1); (try clear e9_1); (try clear gt1b); (try clear gt4b); (try clear ut1b); (try clear ut4b); simp only [gv]; grind)), e9_1, e10_1, rfl, rfl, by (try clear hw); (try clear hm); (try clear hds); (try clear hss); (try clear hcb); (try clear hp); (try clear hW); (try clear hj); (try clear hA); (try clear hE); (try clear hsz); (try clear hlo); (try clear hup); (try clear hini); (try clear e10_1); (try clear e9_1); (try clear gt1b); (try clear gt4b); (try clear ut1b); (try clear ut4b); simp only [headB, gv]; grind⟩
        · (try (have qh5 := h5; norm_cast at qh5))
          refine w_skip rfl rfl (bV h5) ?_; refine w_skip rfl rfl (bV h5) ?_; refine w_skip rfl rfl (bV h5) ?_; refine w_skip rfl rfl (bV h5) ?_
          refine w_skip rfl rfl (bV h5) ?_; refine w_skip rfl rfl (bV h5) ?_; refine w_skip rfl rfl (bV h5) ?_; refine w_skip rfl rfl (bV h5) ?_
          refine w_r (v := .bool _) (fun _ => R_pickF (bV h5) rfl) rfl rfl ?_; refine w_move (v := .bool _) rfl ?_; refine w_want rfl rfl rfl ?_; refine w_move (v := .bool _) rfl ?_
          refine w_want rfl rfl rfl ?_; refine w_move (v := .bool _) rfl ?_; refine w_want rfl rfl rfl ?_; refine w_fa fa37_2 rfl ?_; refine w_want rfl rfl rfl ?_; refine w_load z35 rfl (fun _ h => cel_own 0 rfl rfl h) ?_
          refine w_want rfl rfl rfl ?_; refine w_r (fun _ => R_len sl35 rfl) rfl rfl ?_; refine w_want rfl rfl rfl ?_; refine w_r (fun _ => R_gt rfl rfl) rfl rfl ?_; refine w_want rfl rfl rfl ?_
          refine w_r (v := .bool _) (fun _ => R_pickT rfl rfl) rfl rfl ?_; refine w_r (v := .bool _) (fun _ => R_pickF rfl rfl) rfl rfl ?_; refine w_move (v := .bool _) rfl ?_
          refine w_splitD (t := 43) rfl (fun h12 => ?_) (fun h12 => ?_)
          · (try (have qh12 := h12; norm_cast at qh12))
            refine w_skip rfl rfl (bT h12) ?_; refine w_skip rfl rfl (bT h12) ?_; refine w_skip rfl rfl (bT h12) ?_
            refine w_skipU rfl rfl rfl ?_; refine w_skipU rfl rfl rfl ?_; refine w_skipU rfl rfl rfl ?_; refine w_skipU rfl rfl rfl ?_; refine w_skip rfl rfl (bT h12) ?_
            refine w_r (v := .bool _) (fun _ => R_pickT (bT h12) rfl) rfl rfl ?_; refine w_move (v := .bool _) rfl ?_; refine w_skip rfl rfl rfl ?_
            refine w_skip rfl rfl rfl ?_; refine w_skip rfl rfl rfl ?_; refine w_skip rfl rfl rfl ?_; refine w_r (v := .bool _) (fun _ => R_pickT rfl rfl) rfl rfl ?_; refine w_asg (v := .bool _) rfl ?_
            refine w_nil ?_; refine k_on ?_; refine c_condT rfl ?_; refine c_seq ?_; refine c_region ?_; refine w_asg (v := .int _ _) rfl ?_; refine w_nil ?_; refine k_on ?_; refine c_ret ?_
            refine b_ret (k_ret (b_ret (k_ret (k_ret (b_ret (k_ret (?_)))))))
            refine r_one (v := .int _ _) rfl rfl rfl ?_
            exact fun w' hw => ⟨by first | (rw [pgOk_yes hm.six (fun j b h => hj j b (by omega))]; rfl) | (rw [pgOk_no hi6 hb (by first | (unfold bkOk; rw [all_no hxk (by (try clear hw); (try clear hm); (try clear hds); (try clear hss); (try clear hcb); (try clear hp); (try clear hW); (try clear hj); (try clear hA); (try clear hE); (try clear hsz); (try clear hlo); (try clear hup); (try clear hini); (try clear e10_1); (try clear e9_1); (try clear gt1b); (try clear gt4b); (try clear ut1b); (try clear ut4b); simp only [dgood]; grind)]; simp; done) | ((try clear hw); (try clear hm); (try clear hds); (try clear hss); (try clear hcb); (try clear hp); (try clear hW); (try clear hj); (try clear hA); (try clear hE); (try clear hsz); (try clear hlo); (try clear hup); (try clear hini); (try clear e10_1); (try clear e9_1); (try clear gt1b); (try clear gt4b); (try clear ut1b); (try clear ut4b); simp only [bkOk, headB, gv]; grind))]; rfl), hw.fr _ (.head _)⟩
          · (try (have qh12 := h12; norm_cast at qh12))
            refine w_want rfl rfl (bF h12) ?_; refine w_move (v := .int _ _) rfl ?_; refine w_want rfl rfl (bF h12) ?_
            refine w_r (fun _ => R_eq rfl rfl) rfl rfl ?_; refine w_want rfl rfl (bF h12) ?_; refine w_move (v := .bool _) rfl ?_
            refine w_splitD (t := 46) rfl (fun h13 => ?_) (fun h13 => ?_)
            · (try (have qh13 := h13; norm_cast at qh13))
              refine w_want rfl rfl (bT h13) ?_; refine w_fa fa37_1 rfl ?_; refine w_want rfl rfl (bT h13) ?_
              refine w_load z34 rfl (fun _ h => cel_own 0 rfl rfl h) ?_; refine w_want rfl rfl (bT h13) ?_; refine w_r (fun _ => R_len sl34 rfl) rfl rfl ?_
              refine w_want rfl rfl (bT h13) ?_; refine w_r (fun _ => R_gt rfl rfl) rfl rfl ?_; refine w_want rfl rfl (bF h12) ?_
              refine w_r (v := .bool _) (fun _ => R_pickT (bT h13) rfl) rfl rfl ?_; refine w_r (v := .bool _) (fun _ => R_pickF (bF h12) rfl) rfl rfl ?_
              refine w_move (v := .bool _) rfl ?_
              refine w_splitD (t := 53) rfl (fun h14 => ?_) (fun h14 => ?_)
              · (try (have qh14 := h14; norm_cast at qh14))
                refine w_skip rfl rfl (bT h14) ?_; refine w_skip rfl rfl (bT h14) ?_; refine w_skip rfl rfl (bT h14) ?_
                refine w_skip rfl rfl (bT h14) ?_; refine w_r (v := .bool _) (fun _ => R_pickT (bT h14) rfl) rfl rfl ?_
                refine w_asg (v := .bool _) rfl ?_; refine w_nil ?_; refine k_on ?_; refine c_condT rfl ?_; refine c_seq ?_; refine c_region ?_; refine w_asg (v := .int _ _) rfl ?_
                refine w_nil ?_; refine k_on ?_; refine c_ret ?_; refine b_ret (k_ret (b_ret (k_ret (k_ret (b_ret (k_ret (?_)))))))
                refine r_one (v := .int _ _) rfl rfl rfl ?_
                exact fun w' hw => ⟨by first | (rw [pgOk_yes hm.six (fun j b h => hj j b (by omega))]; rfl) | (rw [pgOk_no hi6 hb (by first | (unfold bkOk; rw [all_no hxk (by (try clear hw); (try clear hm); (try clear hds); (try clear hss); (try clear hcb); (try clear hp); (try clear hW); (try clear hj); (try clear hA); (try clear hE); (try clear hsz); (try clear hlo); (try clear hup); (try clear hini); (try clear e10_1); (try clear e9_1); (try clear gt1b); (try clear gt4b); (try clear ut1b); (try clear ut4b); simp only [dgood]; grind)]; simp; done) | ((try clear hw); (try clear hm); (try clear hds); (try clear hss); (try clear hcb); (try clear hp); (try clear hW); (try clear hj); (try clear hA); (try clear hE); (try clear hsz); (try clear hlo); (try clear hup); (try clear hini); (try clear e10_1); (try clear e9_1); (try clear gt1b); (try clear gt4b); (try clear ut1b); (try clear ut4b); simp only [bkOk, headB, gv]; grind))]; rfl), hw.fr _ (.head _)⟩
              · (try (have qh14 := h14; norm_cast at qh14))
                refine w_want rfl rfl (bF h14) ?_; refine w_fa fa37_2 rfl ?_; refine w_want rfl rfl (bF h14) ?_
                refine w_load z35 rfl (fun _ h => cel_own 0 rfl rfl h) ?_; refine w_want rfl rfl (bF h14) ?_; refine w_call (fun w => R_call Tryz.func40 rfl rfl rfl) rfl rfl (fun w h => stmts_ok b.stmts sa sc N w (by omega) (by omega) (hss.now (fun _ _ hh => hh) (.head _) h) (hW.now (.head _) h)) ?_
                refine w_want rfl rfl (bF h14) ?_; refine w_r (fun _ => R_not rfl) rfl rfl ?_; refine w_r (v := .bool _) (fun _ => R_pickF (bF h14) rfl) rfl rfl ?_
                refine w_asg (v := .bool _) rfl ?_; refine w_nil ?_; refine k_on ?_
                refine c_condN rfl (fun h15 => ?_) (fun h15 => ?_)
                · (try (have qh15 := h15; norm_cast at qh15))
                  refine c_seq ?_; refine c_region ?_; refine w_asg (v := .int _ _) rfl ?_; refine w_nil ?_; refine k_on ?_; refine c_ret ?_; refine b_ret (k_ret (b_ret (k_ret (k_ret (b_ret (k_ret (?_)))))))
                  refine r_one (v := .int _ _) rfl rfl rfl ?_
                  exact fun w' hw => ⟨by first | (rw [pgOk_yes hm.six (fun j b h => hj j b (by omega))]; rfl) | (rw [pgOk_no hi6 hb (by first | (unfold bkOk; rw [all_no hxk (by (try clear hw); (try clear hm); (try clear hds); (try clear hss); (try clear hcb); (try clear hp); (try clear hW); (try clear hj); (try clear hA); (try clear hE); (try clear hsz); (try clear hlo); (try clear hup); (try clear hini); (try clear e10_1); (try clear e9_1); (try clear gt1b); (try clear gt4b); (try clear ut1b); (try clear ut4b); simp only [dgood]; grind)]; simp; done) | ((try clear hw); (try clear hm); (try clear hds); (try clear hss); (try clear hcb); (try clear hp); (try clear hW); (try clear hj); (try clear hA); (try clear hE); (try clear hsz); (try clear hlo); (try clear hup); (try clear hini); (try clear e10_1); (try clear e9_1); (try clear gt1b); (try clear gt4b); (try clear ut1b); (try clear ut4b); simp only [bkOk, headB, gv]; grind))]; rfl), hw.fr _ (.head _)⟩
                · (try (have qh15 := h15; norm_cast at qh15))
                  refine c_skip ?_; refine b_on (?_)
                  exact k_mid ⟨rfl, rfl, (congrArg Value.bool (by (try clear hw); (try clear hm); (try clear hds); (try clear hss); (try clear hcb); (try clear hp); (try clear hW); (try clear hj); (try clear hA); (try clear hE); (try clear hsz); (try clear hlo); (try clear hup); (try clear hini); (try clear e10_1); (try clear e9_1); (try clear gt1b); (try clear gt4b); (try clear ut1b); (try clear ut4b); simp only [gv]; grind)), e9_1, e10_1, rfl, rfl, by (try clear hw); (try clear hm); (try clear hds); (try clear hss); (try clear hcb); (try clear hp); (try clear hW); (try clear hj); (try clear hA); (try clear hE); (try clear hsz); (try clear hlo); (try clear hup); (try clear hini); (try clear e10_1); (try clear e9_1); (try clear gt1b); (try clear gt4b); (try clear ut1b); (try clear ut4b); simp only [headB, gv]; grind⟩
            · (try (have qh13 := h13; norm_cast at qh13))
              refine w_skip rfl rfl (bF h13) ?_; refine w_skip rfl rfl (bF h13) ?_; refine w_skip rfl rfl (bF h13) ?_
              refine w_skip rfl rfl (bF h13) ?_; refine w_want rfl rfl (bF h12) ?_; refine w_r (v := .bool _) (fun _ => R_pickF (bF h13) rfl) rfl rfl ?_
              refine w_r (v := .bool _) (fun _ => R_pickF (bF h12) rfl) rfl rfl ?_; refine w_move (v := .bool _) rfl ?_; refine w_want rfl rfl rfl ?_
              refine w_fa fa37_2 rfl ?_; refine w_want rfl rfl rfl ?_; refine w_load z35 rfl (fun _ h => cel_own 0 rfl rfl h) ?_; refine w_want rfl rfl rfl ?_; refine w_call (fun w => R_call Tryz.func40 rfl rfl rfl) rfl rfl (fun w h => stmts_ok b.stmts sa sc N w (by omega) (by omega) (hss.now (fun _ _ hh => hh) (.head _) h) (hW.now (.head _) h)) ?_
              refine w_want rfl rfl rfl ?_; refine w_r (fun _ => R_not rfl) rfl rfl ?_; refine w_r (v := .bool _) (fun _ => R_pickF rfl rfl) rfl rfl ?_; refine w_asg (v := .bool _) rfl ?_
              refine w_nil ?_; refine k_on ?_
              refine c_condN rfl (fun h16 => ?_) (fun h16 => ?_)
              · (try (have qh16 := h16; norm_cast at qh16))
                refine c_seq ?_; refine c_region ?_; refine w_asg (v := .int _ _) rfl ?_; refine w_nil ?_; refine k_on ?_; refine c_ret ?_; refine b_ret (k_ret (b_ret (k_ret (k_ret (b_ret (k_ret (?_)))))))
                refine r_one (v := .int _ _) rfl rfl rfl ?_
                exact fun w' hw => ⟨by first | (rw [pgOk_yes hm.six (fun j b h => hj j b (by omega))]; rfl) | (rw [pgOk_no hi6 hb (by first | (unfold bkOk; rw [all_no hxk (by (try clear hw); (try clear hm); (try clear hds); (try clear hss); (try clear hcb); (try clear hp); (try clear hW); (try clear hj); (try clear hA); (try clear hE); (try clear hsz); (try clear hlo); (try clear hup); (try clear hini); (try clear e10_1); (try clear e9_1); (try clear gt1b); (try clear gt4b); (try clear ut1b); (try clear ut4b); simp only [dgood]; grind)]; simp; done) | ((try clear hw); (try clear hm); (try clear hds); (try clear hss); (try clear hcb); (try clear hp); (try clear hW); (try clear hj); (try clear hA); (try clear hE); (try clear hsz); (try clear hlo); (try clear hup); (try clear hini); (try clear e10_1); (try clear e9_1); (try clear gt1b); (try clear gt4b); (try clear ut1b); (try clear ut4b); simp only [bkOk, headB, gv]; grind))]; rfl), hw.fr _ (.head _)⟩
              · (try (have qh16 := h16; norm_cast at qh16))
                refine c_skip ?_; refine b_on (?_)
                exact k_mid ⟨rfl, rfl, (congrArg Value.bool (by (try clear hw); (try clear hm); (try clear hds); (try clear hss); (try clear hcb); (try clear hp); (try clear hW); (try clear hj); (try clear hA); (try clear hE); (try clear hsz); (try clear hlo); (try clear hup); (try clear hini); (try clear e10_1); (try clear e9_1); (try clear gt1b); (try clear gt4b); (try clear ut1b); (try clear ut4b); simp only [gv]; grind)), e9_1, e10_1, rfl, rfl, by (try clear hw); (try clear hm); (try clear hds); (try clear hss); (try clear hcb); (try clear hp); (try clear hW); (try clear hj); (try clear hA); (try clear hE); (try clear hsz); (try clear hlo); (try clear hup); (try clear hini); (try clear e10_1); (try clear e9_1); (try clear gt1b); (try clear gt4b); (try clear ut1b); (try clear ut4b); simp only [headB, gv]; grind⟩
      rintro e B L ⟨e3_2, e4_2, e5_2, e9_2, e10_2, rfl, rfl, hd⟩
      refine c_seq ?_; refine c_region ?_; refine w_fa fa37_1 e4_2 ?_; refine w_load z34 rfl (fun _ h => cel_own 0 rfl rfl h) ?_; refine w_r (fun _ => R_len sl34 rfl) rfl rfl ?_
      refine w_move (v := .int _ _) rfl ?_; refine w_nil ?_; refine k_on ?_; refine c_block ?_
      refine c_loop (fun m e B L => ∃ (k : Nat), e 3 = .int .i64 (i : Nat) ∧ e 5 = .bool (gv i) ∧ e 9 = .agg cs.toArray ∧ e 10 = .int .i64 (i : Nat) ∧ e 60 = .slice da b.decls.length dc ∧ e 61 = .int .i64 (b.decls.length : Nat) ∧ e 62 = .int .i64 (k : Nat) ∧ B = [(w, No)] ∧ L = [(t4b, cel [.bool b.is, .slice da b.decls.length dc, .slice sa b.stmts.length sc] 37), (t1b, cel cs 40)] ∧ k ≤ b.decls.length ∧ (∀ y ∈ b.decls.take k, (!dgood i y) = false) ∧ m = b.decls.length - k) _ ⟨0, e3_2, e5_2, e9_2, e10_2, rfl, rfl, rfl, rfl, rfl, Nat.zero_le _, (by simp), rfl⟩ ?_
      rintro m e B L ⟨k, e3_3, e5_3, e9_3, e10_3, e60_3, e61_3, e62_3, rfl, rfl, hk, hy, rfl⟩
      refine c_seq ?_; refine c_region ?_; refine w_r (fun _ => R_lt e62_3 e61_3) rfl rfl ?_; refine w_nil ?_; refine k_on ?_; refine c_seq ?_
      refine c_condD rfl (fun h17 => ?_) (fun h17 => ?_)
      · (try (have qh17 := h17; norm_cast at qh17))
        have hlt : k < b.decls.length := (by omega); obtain ⟨x, hxk⟩ : ∃ x, b.decls[k]? = some x := ⟨_, List.getElem?_eq_getElem hlt⟩; obtain ⟨cs2, hA, hE⟩ := hds k x hxk; have hxn := dcsW_mem (List.mem_of_getElem? hxk); obtain ⟨b1, o1, rfl⟩ := hA.ptr; have hE2 := hE; obtain ⟨ty, at_, nm, sz, lo, up, ini⟩ := x; unfold dcM at hE2; obtain ⟨xa, xc, la, lc, ua, uc, ia, ic, hcs, hsz, hlo, hup, hini⟩ := hE2; simp only [] at hcs; subst hcs
        refine c_skip ?_; refine k_on ?_; refine c_seq ?_; refine c_block ?_; refine c_seq ?_; refine c_region ?_; refine w_r (fun _ => R_iaN (i := k) sl34 e60_3 e62_3 (by first | omega | decide)) rfl rfl ?_
        refine w_loadC (l := [.int .u8 (ty : Nat), .int .i64 at_, str nm, .slice xa sz.length xc, .slice la lo.length lc, .slice ua up.length uc, .slice ia ini.length ic]) z52 rfl rfl (fun w h j v hj => hA.cell (fun _ _ hh => hh) (.head _) h j v hj) ?_
        refine w_alloc zr52 (fun t7b gt7b ut7b => ?_)
        refine w_store 0 rfl z52 rfl rfl rfl rfl rfl rfl rfl ?_; refine w_nil ?_; refine k_on ?_; refine c_seq ?_; refine c_region ?_; refine w_loadA z52 rfl (fun _ h => h.at_ 0 rfl) rfl ?_
        refine w_call (fun w => R_call Tryz.func41 rfl rfl rfl) rfl rfl (fun w h => decl_spec _ _ N w (by omega) (hE.now (fun _ _ hh => hh) (.head _) h) (hW.now (.head _) h)) ?_
        refine w_r (fun _ => R_not rfl) rfl rfl ?_; refine w_move (v := .bool _) rfl ?_
        refine w_split (t := 69) rfl (fun h19 => ?_) (fun h19 => ?_)
        · (try (have qh19 := h19; norm_cast at qh19))
          refine w_skip rfl rfl (bV h19) ?_; refine w_skip rfl rfl (bV h19) ?_; refine w_skipU rfl rfl rfl ?_; refine w_skipU rfl rfl rfl ?_
          refine w_skipU rfl rfl rfl ?_; refine w_skipU rfl rfl rfl ?_; refine w_skip rfl rfl (bV h19) ?_; refine w_r (v := .bool _) (fun _ => R_pickT (bV h19) rfl) rfl rfl ?_
          refine w_nil ?_; refine k_on ?_; refine c_condT rfl ?_; refine c_seq ?_; refine c_region ?_; refine w_asg (v := .int _ _) rfl ?_; refine w_nil ?_; refine k_on ?_; refine c_ret ?_
          refine b_ret (k_ret (k_ret (b_ret (b_ret (k_ret (k_ret (b_ret (k_ret (?_)))))))))
          refine r_one (v := .int _ _) rfl rfl rfl ?_
          exact fun w' hw => ⟨by first | (rw [pgOk_yes hm.six (fun j b h => hj j b (by omega))]; rfl) | (rw [pgOk_no hi6 hb (by first | (unfold bkOk; rw [all_no hxk (by (try clear hw); (try clear hm); (try clear hds); (try clear hss); (try clear hcb); (try clear hp); (try clear hW); (try clear hj); (try clear hA); (try clear hE); (try clear hsz); (try clear hlo); (try clear hup); (try clear hini); (try clear e10_1); (try clear e10_2); (try clear e10_3); (try clear e3_2); (try clear e3_3); (try clear e4_2); (try clear e5_2); (try clear e5_3); (try clear e60_3); (try clear e61_3); (try clear e62_3); (try clear e9_1); (try clear e9_2); (try clear e9_3); (try clear gt1b); (try clear gt4b); (try clear gt7b); (try clear ut1b); (try clear ut4b); (try clear ut7b); simp only [dgood]; grind)]; simp; done) | ((try clear hw); (try clear hm); (try clear hds); (try clear hss); (try clear hcb); (try clear hp); (try clear hW); (try clear hj); (try clear hA); (try clear hE); (try clear hsz); (try clear hlo); (try clear hup); (try clear hini); (try clear e10_1); (try clear e10_2); (try clear e10_3); (try clear e3_2); (try clear e3_3); (try clear e4_2); (try clear e5_2); (try clear e5_3); (try clear e60_3); (try clear e61_3); (try clear e62_3); (try clear e9_1); (try clear e9_2); (try clear e9_3); (try clear gt1b); (try clear gt4b); (try clear gt7b); (try clear ut1b); (try clear ut4b); (try clear ut7b); simp only [bkOk, headB, gv]; grind))]; rfl), hw.fr _ (.head _)⟩
        · (try (have qh19 := h19; norm_cast at qh19))
          refine w_want rfl rfl (bV h19) ?_; refine w_move (v := .bool _) e5_3 ?_; refine w_want rfl rfl (bV h19) ?_; refine w_move (v := .bool _) rfl ?_
          refine w_split (t := 71) rfl (fun h20 => ?_) (fun h20 => ?_)
          · (try (have qh20 := h20; norm_cast at qh20))
            refine w_want rfl rfl (bV h20) ?_; refine w_fa fa52_6 rfl ?_; refine w_want rfl rfl (bV h20) ?_; refine w_load z22 rfl (fun _ h => cel_own 0 rfl rfl h) ?_
            refine w_want rfl rfl (bV h20) ?_; refine w_r (fun _ => R_len sl22 rfl) rfl rfl ?_; refine w_want rfl rfl (bV h20) ?_; refine w_r (fun _ => R_gt rfl rfl) rfl rfl ?_
            refine w_want rfl rfl (bV h19) ?_; refine w_r (v := .bool _) (fun _ => R_pickT (bV h20) rfl) rfl rfl ?_; refine w_r (v := .bool _) (fun _ => R_pickF (bV h19) rfl) rfl rfl ?_
            refine w_nil ?_; refine k_on ?_
            refine c_condD rfl (fun h21 => ?_) (fun h21 => ?_)
            · (try (have qh21 := h21; norm_cast at qh21))
              refine c_seq ?_; refine c_region ?_; refine w_asg (v := .int _ _) rfl ?_; refine w_nil ?_; refine k_on ?_; refine c_ret ?_; refine b_ret (k_ret (k_ret (b_ret (b_ret (k_ret (k_ret (b_ret (k_ret (?_)))))))))
              refine r_one (v := .int _ _) rfl rfl rfl ?_
              exact fun w' hw => ⟨by first | (rw [pgOk_yes hm.six (fun j b h => hj j b (by omega))]; rfl) | (rw [pgOk_no hi6 hb (by first | (unfold bkOk; rw [all_no hxk (by (try clear hw); (try clear hm); (try clear hds); (try clear hss); (try clear hcb); (try clear hp); (try clear hW); (try clear hj); (try clear hA); (try clear hE); (try clear hsz); (try clear hlo); (try clear hup); (try clear hini); (try clear e10_1); (try clear e10_2); (try clear e10_3); (try clear e3_2); (try clear e3_3); (try clear e4_2); (try clear e5_2); (try clear e5_3); (try clear e60_3); (try clear e61_3); (try clear e62_3); (try clear e9_1); (try clear e9_2); (try clear e9_3); (try clear gt1b); (try clear gt4b); (try clear gt7b); (try clear ut1b); (try clear ut4b); (try clear ut7b); simp only [dgood]; grind)]; simp; done) | ((try clear hw); (try clear hm); (try clear hds); (try clear hss); (try clear hcb); (try clear hp); (try clear hW); (try clear hj); (try clear hA); (try clear hE); (try clear hsz); (try clear hlo); (try clear hup); (try clear hini); (try clear e10_1); (try clear e10_2); (try clear e10_3); (try clear e3_2); (try clear e3_3); (try clear e4_2); (try clear e5_2); (try clear e5_3); (try clear e60_3); (try clear e61_3); (try clear e62_3); (try clear e9_1); (try clear e9_2); (try clear e9_3); (try clear gt1b); (try clear gt4b); (try clear gt7b); (try clear ut1b); (try clear ut4b); (try clear ut7b); simp only [bkOk, headB, gv]; grind))]; rfl), hw.fr _ (.head _)⟩
            · (try (have qh21 := h21; norm_cast at qh21))
              refine c_skip ?_; refine b_on (k_on ?_); refine c_region ?_; refine w_r (fun _ => R_addi e62_3 rfl (by omega)) rfl rfl ?_; refine w_move (v := .int _ _) rfl ?_
              refine w_nil ?_
              refine k_st (B' := [(w, No)]) (L' := _) (fun w h => h.drop (List.sublist_cons_self _ _)) ?_
              exact k_again _ (by omega) ⟨k + 1, e3_3, e5_3, e9_3, e10_3, e60_3, e61_3, rfl, rfl, rfl, by omega, take_all hy hxk (by (try clear hw); (try clear hm); (try clear hds); (try clear hss); (try clear hcb); (try clear hp); (try clear hW); (try clear hj); (try clear hA); (try clear hE); (try clear hsz); (try clear hlo); (try clear hup); (try clear hini); (try clear e10_1); (try clear e10_2); (try clear e10_3); (try clear e3_2); (try clear e3_3); (try clear e4_2); (try clear e5_2); (try clear e5_3); (try clear e60_3); (try clear e61_3); (try clear e62_3); (try clear e9_1); (try clear e9_2); (try clear e9_3); (try clear gt1b); (try clear gt4b); (try clear gt7b); (try clear ut1b); (try clear ut4b); (try clear ut7b); simp only [dgood]; grind), rfl⟩
          · (try (have qh20 := h20; norm_cast at qh20))
            refine w_skip rfl rfl (bV h20) ?_; refine w_skip rfl rfl (bV h20) ?_; refine w_skip rfl rfl (bV h20) ?_; refine w_skip rfl rfl (bV h20) ?_
            refine w_want rfl rfl (bV h19) ?_; refine w_r (v := .bool _) (fun _ => R_pickF (bV h20) rfl) rfl rfl ?_; refine w_r (v := .bool _) (fun _ => R_pickF (bV h19) rfl) rfl rfl ?_
            refine w_nil ?_; refine k_on ?_; refine c_condF rfl ?_; refine c_skip ?_; refine b_on (k_on ?_); refine c_region ?_; refine w_r (fun _ => R_addi e62_3 rfl (by omega)) rfl rfl ?_
            refine w_move (v := .int _ _) rfl ?_; refine w_nil ?_
            refine k_st (B' := [(w, No)]) (L' := _) (fun w h => h.drop (List.sublist_cons_self _ _)) ?_
            exact k_again _ (by omega) ⟨k + 1, e3_3, e5_3, e9_3, e10_3, e60_3, e61_3, rfl, rfl, rfl, by omega, take_all hy hxk (by (try clear hw); (try clear hm); (try clear hds); (try clear hss); (try clear hcb); (try clear hp); (try clear hW); (try clear hj); (try clear hA); (try clear hE); (try clear hsz); (try clear hlo); (try clear hup); (try clear hini); (try clear e10_1); (try clear e10_2); (try clear e10_3); (try clear e3_2); (try clear e3_3); (try clear e4_2); (try clear e5_2); (try clear e5_3); (try clear e60_3); (try clear e61_3); (try clear e62_3); (try clear e9_1); (try clear e9_2); (try clear e9_3); (try clear gt1b); (try clear gt4b); (try clear gt7b); (try clear ut1b); (try clear ut4b); (try clear ut7b); simp only [dgood]; grind), rfl⟩
      · (try (have qh17 := h17; norm_cast at qh17))
        have hall : b.decls.all (dgood i) = true := all_of_take hy (by omega)
        refine c_exit ?_; refine k_exit (k_exit (b_here rfl (b_on (k_on ?_)))); refine c_region ?_; refine w_r (fun _ => R_addi e10_3 rfl (by omega)) rfl rfl ?_; refine w_move (v := .int _ _) rfl ?_
        refine w_nil ?_
        refine k_st (B' := [(w, No)]) (L' := [(t1b, cel cs 40)]) (fun w h => h.drop (List.sublist_cons_self _ _)) ?_
        exact k_again _ (by omega) ⟨i + 1, e9_3, rfl, rfl, rfl, by omega, bk_next hj hb (by unfold bkOk; rw [hd, hall]; rfl), rfl⟩
    · (try (have qh4 := h4; norm_cast at qh4))
      refine w_want rfl rfl (bF h4) ?_; refine w_move (v := .int _ _) rfl ?_; refine w_want rfl rfl (bF h4) ?_
      refine w_r (fun _ => R_eq rfl rfl) rfl rfl ?_; refine w_r (v := .bool _) (fun _ => R_pickF (bF h4) rfl) rfl rfl ?_; refine w_asg (v := .bool _) rfl ?_
      refine w_nil ?_; refine k_on ?_
      refine c_cut (fun e B L => e 3 = .int .i64 (i : Nat) ∧ e 4 = .pointer (some ⟨t4b, 0, none⟩) ∧ e 5 = .bool (gv i) ∧ e 9 = .agg cs.toArray ∧ e 10 = .int .i64 (i : Nat) ∧ B = [(w, No)] ∧ L = [(t4b, cel [.bool b.is, .slice da b.decls.length dc, .slice sa b.stmts.length sc] 37), (t1b, cel cs 40)] ∧ headB i b = true) ?_ ?_
      · (try (have qmid4 := mid4; norm_cast at qmid4))
        refine c_block ?_; refine c_seq ?_; refine c_region ?_; refine w_fa fa37_0 rfl ?_; refine w_load z4 rfl (fun _ h => cel_own 0 rfl rfl h) ?_; refine w_r (fun _ => R_not rfl) rfl rfl ?_
        refine w_move (v := .bool _) rfl ?_
        refine w_split (t := 24) rfl (fun h22 => ?_) (fun h22 => ?_)
        · (try (have qh22 := h22; norm_cast at qh22))
          refine w_want rfl rfl (bV h22) ?_; refine w_fa fa37_1 rfl ?_; refine w_want rfl rfl (bV h22) ?_; refine w_load z34 rfl (fun _ h => cel_own 0 rfl rfl h) ?_
          refine w_want rfl rfl (bV h22) ?_; refine w_r (fun _ => R_len sl34 rfl) rfl rfl ?_; refine w_want rfl rfl (bV h22) ?_; refine w_fa fa37_2 rfl ?_
          refine w_want rfl rfl (bV h22) ?_; refine w_load z35 rfl (fun _ h => cel_own 0 rfl rfl h) ?_; refine w_want rfl rfl (bV h22) ?_
          refine w_r (fun _ => R_len sl35 rfl) rfl rfl ?_; refine w_want rfl rfl (bV h22) ?_; refine w_r (fun _ => R_addi rfl rfl (by omega)) rfl rfl ?_
          refine w_want rfl rfl (bV h22) ?_; refine w_r (fun _ => R_gt rfl rfl) rfl rfl ?_; refine w_r (v := .bool _) (fun _ => R_pickT (bV h22) rfl) rfl rfl ?_
          refine w_move (v := .bool _) rfl ?_
          refine w_splitD (t := 34) rfl (fun h23 => ?_) (fun h23 => ?_)
          · (try (have qh23 := h23; norm_cast at qh23))
            refine w_skip rfl rfl (bT h23) ?_; refine w_skip rfl rfl (bT h23) ?_; refine w_skipU rfl rfl rfl ?_
            refine w_skipU rfl rfl rfl ?_; refine w_skipU rfl rfl rfl ?_; refine w_skipU rfl rfl rfl ?_; refine w_skip rfl rfl (bT h23) ?_
            refine w_r (v := .bool _) (fun _ => R_pickT (bT h23) rfl) rfl rfl ?_; refine w_move (v := .bool _) rfl ?_; refine w_skip rfl rfl rfl ?_
            refine w_skip rfl rfl rfl ?_; refine w_skip rfl rfl rfl ?_; refine w_skipU rfl rfl rfl ?_; refine w_skipU rfl rfl rfl ?_; refine w_skipU rfl rfl rfl ?_; refine w_skipU rfl rfl rfl ?_
            refine w_skip rfl rfl rfl ?_; refine w_r (v := .bool _) (fun _ => R_pickT rfl rfl) rfl rfl ?_; refine w_move (v := .bool _) rfl ?_; refine w_skip rfl rfl rfl ?_
            refine w_skip rfl rfl rfl ?_; refine w_skip rfl rfl rfl ?_; refine w_skip rfl rfl rfl ?_; refine w_r (v := .bool _) (fun _ => R_pickT rfl rfl) rfl rfl ?_; refine w_asg (v := .bool _) rfl ?_
            refine w_nil ?_; refine k_on ?_; refine c_condT rfl ?_; refine c_seq ?_; refine c_region ?_; refine w_asg (v := .int _ _) rfl ?_; refine w_nil ?_; refine k_on ?_; refine c_ret ?_
            refine b_ret (k_ret (b_ret (k_ret (k_ret (b_ret (k_ret (?_)))))))
            refine r_one (v := .int _ _) rfl rfl rfl ?_
            exact fun w' hw => ⟨by first | (rw [pgOk_yes hm.six (fun j b h => hj j b (by omega))]; rfl) | (rw [pgOk_no hi6 hb (by first | (unfold bkOk; rw [all_no hxk (by (try clear hw); (try clear hm); (try clear hds); (try clear hss); (try clear hcb); (try clear hp); (try clear hW); (try clear hj); (try clear hA); (try clear hE); (try clear hsz); (try clear hlo); (try clear hup); (try clear hini); (try clear e10_1); (try clear e10_2); (try clear e10_3); (try clear e3_2); (try clear e3_3); (try clear e4_2); (try clear e5_2); (try clear e5_3); (try clear e60_3); (try clear e61_3); (try clear e62_3); (try clear e9_1); (try clear e9_2); (try clear e9_3); (try clear gt1b); (try clear gt4b); (try clear gt7b); (try clear ut1b); (try clear ut4b); (try clear ut7b); simp only [dgood]; grind)]; simp; done) | ((try clear hw); (try clear hm); (try clear hds); (try clear hss); (try clear hcb); (try clear hp); (try clear hW); (try clear hj); (try clear hA); (try clear hE); (try clear hsz); (try clear hlo); (try clear hup); (try clear hini); (try clear e10_1); (try clear e10_2); (try clear e10_3); (try clear e3_2); (try clear e3_3); (try clear e4_2); (try clear e5_2); (try clear e5_3); (try clear e60_3); (try clear e61_3); (try clear e62_3); (try clear e9_1); (try clear e9_2); (try clear e9_3); (try clear gt1b); (try clear gt4b); (try clear gt7b); (try clear ut1b); (try clear ut4b); (try clear ut7b); simp only [bkOk, headB, gv]; grind))]; rfl), hw.fr _ (.head _)⟩
          · (try (have qh23 := h23; norm_cast at qh23))
            refine w_want rfl rfl (bF h23) ?_; refine w_move (v := .bool _) rfl ?_; refine w_want rfl rfl (bF h23) ?_
            refine w_move (v := .bool _) rfl ?_
            refine w_splitD (t := 36) rfl (fun h24 => ?_) (fun h24 => ?_)
            · (try (have qh24 := h24; norm_cast at qh24))
              refine w_want rfl rfl (bT h24) ?_; refine w_fa fa37_2 rfl ?_; refine w_want rfl rfl (bT h24) ?_
              refine w_load z35 rfl (fun _ h => cel_own 0 rfl rfl h) ?_; refine w_want rfl rfl (bT h24) ?_; refine w_r (fun _ => R_len sl35 rfl) rfl rfl ?_
              refine w_want rfl rfl (bT h24) ?_; refine w_r (fun _ => R_gt rfl rfl) rfl rfl ?_; refine w_want rfl rfl (bF h23) ?_
              refine w_r (v := .bool _) (fun _ => R_pickT (bT h24) rfl) rfl rfl ?_; refine w_r (v := .bool _) (fun _ => R_pickF (bF h23) rfl) rfl rfl ?_
              refine w_move (v := .bool _) rfl ?_
              refine w_splitD (t := 43) rfl (fun h25 => ?_) (fun h25 => ?_)
              · (try (have qh25 := h25; norm_cast at qh25))
                refine w_skip rfl rfl (bT h25) ?_; refine w_skip rfl rfl (bT h25) ?_; refine w_skip rfl rfl (bT h25) ?_
                refine w_skipU rfl rfl rfl ?_; refine w_skipU rfl rfl rfl ?_; refine w_skipU rfl rfl rfl ?_; refine w_skipU rfl rfl rfl ?_; refine w_skip rfl rfl (bT h25) ?_
                refine w_r (v := .bool _) (fun _ => R_pickT (bT h25) rfl) rfl rfl ?_; refine w_move (v := .bool _) rfl ?_; refine w_skip rfl rfl rfl ?_
                refine w_skip rfl rfl rfl ?_; refine w_skip rfl rfl rfl ?_; refine w_skip rfl rfl rfl ?_; refine w_r (v := .bool _) (fun _ => R_pickT rfl rfl) rfl rfl ?_; refine w_asg (v := .bool _) rfl ?_
                refine w_nil ?_; refine k_on ?_; refine c_condT rfl ?_; refine c_seq ?_; refine c_region ?_; refine w_asg (v := .int _ _) rfl ?_; refine w_nil ?_; refine k_on ?_; refine c_ret ?_
                refine b_ret (k_ret (b_ret (k_ret (k_ret (b_ret (k_ret (?_)))))))
                refine r_one (v := .int _ _) rfl rfl rfl ?_
                exact fun w' hw => ⟨by first | (rw [pgOk_yes hm.six (fun j b h => hj j b (by omega))]; rfl) | (rw [pgOk_no hi6 hb (by first | (unfold bkOk; rw [all_no hxk (by (try clear hw); (try clear hm); (try clear hds); (try clear hss); (try clear hcb); (try clear hp); (try clear hW); (try clear hj); (try clear hA); (try clear hE); (try clear hsz); (try clear hlo); (try clear hup); (try clear hini); (try clear e10_1); (try clear e10_2); (try clear e10_3); (try clear e3_2); (try clear e3_3); (try clear e4_2); (try clear e5_2); (try clear e5_3); (try clear e60_3); (try clear e61_3); (try clear e62_3); (try clear e9_1); (try clear e9_2); (try clear e9_3); (try clear gt1b); (try clear gt4b); (try clear gt7b); (try clear ut1b); (try clear ut4b); (try clear ut7b); simp only [dgood]; grind)]; simp; done) | ((try clear hw); (try clear hm); (try clear hds); (try clear hss); (try clear hcb); (try clear hp); (try clear hW); (try clear hj); (try clear hA); (try clear hE); (try clear hsz); (try clear hlo); (try clear hup); (try clear hini); (try clear e10_1); (try clear e10_2); (try clear e10_3); (try clear e3_2); (try clear e3_3); (try clear e4_2); (try clear e5_2); (try clear e5_3); (try clear e60_3); (try clear e61_3); (try clear e62_3); (try clear e9_1); (try clear e9_2); (try clear e9_3); (try clear gt1b); (try clear gt4b); (try clear gt7b); (try clear ut1b); (try clear ut4b); (try clear ut7b); simp only [bkOk, headB, gv]; grind))]; rfl), hw.fr _ (.head _)⟩
              · (try (have qh25 := h25; norm_cast at qh25))
                refine w_want rfl rfl (bF h25) ?_; refine w_move (v := .int _ _) rfl ?_; refine w_want rfl rfl (bF h25) ?_
                refine w_r (fun _ => R_eq rfl rfl) rfl rfl ?_; refine w_want rfl rfl (bF h25) ?_; refine w_move (v := .bool _) rfl ?_
                refine w_splitD (t := 46) rfl (fun h26 => ?_) (fun h26 => ?_)
                · (try (have qh26 := h26; norm_cast at qh26))
                  refine w_want rfl rfl (bT h26) ?_; refine w_fa fa37_1 rfl ?_; refine w_want rfl rfl (bT h26) ?_
                  refine w_load z34 rfl (fun _ h => cel_own 0 rfl rfl h) ?_; refine w_want rfl rfl (bT h26) ?_; refine w_r (fun _ => R_len sl34 rfl) rfl rfl ?_
                  refine w_want rfl rfl (bT h26) ?_; refine w_r (fun _ => R_gt rfl rfl) rfl rfl ?_; refine w_want rfl rfl (bF h25) ?_
                  refine w_r (v := .bool _) (fun _ => R_pickT (bT h26) rfl) rfl rfl ?_; refine w_r (v := .bool _) (fun _ => R_pickF (bF h25) rfl) rfl rfl ?_
                  refine w_move (v := .bool _) rfl ?_
                  refine w_splitD (t := 53) rfl (fun h27 => ?_) (fun h27 => ?_)
                  · (try (have qh27 := h27; norm_cast at qh27))
                    refine w_skip rfl rfl (bT h27) ?_; refine w_skip rfl rfl (bT h27) ?_; refine w_skip rfl rfl (bT h27) ?_
                    refine w_skip rfl rfl (bT h27) ?_; refine w_r (v := .bool _) (fun _ => R_pickT (bT h27) rfl) rfl rfl ?_
                    refine w_asg (v := .bool _) rfl ?_; refine w_nil ?_; refine k_on ?_; refine c_condT rfl ?_; refine c_seq ?_; refine c_region ?_; refine w_asg (v := .int _ _) rfl ?_
                    refine w_nil ?_; refine k_on ?_; refine c_ret ?_; refine b_ret (k_ret (b_ret (k_ret (k_ret (b_ret (k_ret (?_)))))))
                    refine r_one (v := .int _ _) rfl rfl rfl ?_
                    exact fun w' hw => ⟨by first | (rw [pgOk_yes hm.six (fun j b h => hj j b (by omega))]; rfl) | (rw [pgOk_no hi6 hb (by first | (unfold bkOk; rw [all_no hxk (by (try clear hw); (try clear hm); (try clear hds); (try clear hss); (try clear hcb); (try clear hp); (try clear hW); (try clear hj); (try clear hA); (try clear hE); (try clear hsz); (try clear hlo); (try clear hup); (try clear hini); (try clear e10_1); (try clear e10_2); (try clear e10_3); (try clear e3_2); (try clear e3_3); (try clear e4_2); (try clear e5_2); (try clear e5_3); (try clear e60_3); (try clear e61_3); (try clear e62_3); (try clear e9_1); (try clear e9_2); (try clear e9_3); (try clear gt1b); (try clear gt4b); (try clear gt7b); (try clear ut1b); (try clear ut4b); (try clear ut7b); simp only [dgood]; grind)]; simp; done) | ((try clear hw); (try clear hm); (try clear hds); (try clear hss); (try clear hcb); (try clear hp); (try clear hW); (try clear hj); (try clear hA); (try clear hE); (try clear hsz); (try clear hlo); (try clear hup); (try clear hini); (try clear e10_1); (try clear e10_2); (try clear e10_3); (try clear e3_2); (try clear e3_3); (try clear e4_2); (try clear e5_2); (try clear e5_3); (try clear e60_3); (try clear e61_3); (try clear e62_3); (try clear e9_1); (try clear e9_2); (try clear e9_3); (try clear gt1b); (try clear gt4b); (try clear gt7b); (try clear ut1b); (try clear ut4b); (try clear ut7b); simp only [bkOk, headB, gv]; grind))]; rfl), hw.fr _ (.head _)⟩
                  · (try (have qh27 := h27; norm_cast at qh27))
                    refine w_want rfl rfl (bF h27) ?_; refine w_fa fa37_2 rfl ?_; refine w_want rfl rfl (bF h27) ?_
                    refine w_load z35 rfl (fun _ h => cel_own 0 rfl rfl h) ?_; refine w_want rfl rfl (bF h27) ?_; refine w_call (fun w => R_call Tryz.func40 rfl rfl rfl) rfl rfl (fun w h => stmts_ok b.stmts sa sc N w (by omega) (by omega) (hss.now (fun _ _ hh => hh) (.head _) h) (hW.now (.head _) h)) ?_
                    refine w_want rfl rfl (bF h27) ?_; refine w_r (fun _ => R_not rfl) rfl rfl ?_; refine w_r (v := .bool _) (fun _ => R_pickF (bF h27) rfl) rfl rfl ?_
                    refine w_asg (v := .bool _) rfl ?_; refine w_nil ?_; refine k_on ?_
                    refine c_condN rfl (fun h28 => ?_) (fun h28 => ?_)
                    · (try (have qh28 := h28; norm_cast at qh28))
                      refine c_seq ?_; refine c_region ?_; refine w_asg (v := .int _ _) rfl ?_; refine w_nil ?_; refine k_on ?_; refine c_ret ?_; refine b_ret (k_ret (b_ret (k_ret (k_ret (b_ret (k_ret (?_)))))))
                      refine r_one (v := .int _ _) rfl rfl rfl ?_
                      exact fun w' hw => ⟨by first | (rw [pgOk_yes hm.six (fun j b h => hj j b (by omega))]; rfl) | (rw [pgOk_no hi6 hb (by first | (unfold bkOk; rw [all_no hxk (by (try clear hw); (try clear hm); (try clear hds); (try clear hss); (try clear hcb); (try clear hp); (try clear hW); (try clear hj); (try clear hA); (try clear hE); (try clear hsz); (try clear hlo); (try clear hup); (try clear hini); (try clear e10_1); (try clear e10_2); (try clear e10_3); (try clear e3_2); (try clear e3_3); (try clear e4_2); (try clear e5_2); (try clear e5_3); (try clear e60_3); (try clear e61_3); (try clear e62_3); (try clear e9_1); (try clear e9_2); (try clear e9_3); (try clear gt1b); (try clear gt4b); (try clear gt7b); (try clear ut1b); (try clear ut4b); (try clear ut7b); simp only [dgood]; grind)]; simp; done) | ((try clear hw); (try clear hm); (try clear hds); (try clear hss); (try clear hcb); (try clear hp); (try clear hW); (try clear hj); (try clear hA); (try clear hE); (try clear hsz); (try clear hlo); (try clear hup); (try clear hini); (try clear e10_1); (try clear e10_2); (try clear e10_3); (try clear e3_2); (try clear e3_3); (try clear e4_2); (try clear e5_2); (try clear e5_3); (try clear e60_3); (try clear e61_3); (try clear e62_3); (try clear e9_1); (try clear e9_2); (try clear e9_3); (try clear gt1b); (try clear gt4b); (try clear gt7b); (try clear ut1b); (try clear ut4b); (try clear ut7b); simp only [bkOk, headB, gv]; grind))]; rfl), hw.fr _ (.head _)⟩
                    · (try (have qh28 := h28; norm_cast at qh28))
                      refine c_skip ?_; refine b_on (?_)
                      exact k_mid ⟨rfl, rfl, (congrArg Value.bool (by (try clear hw); (try clear hm); (try clear hds); (try clear hss); (try clear hcb); (try clear hp); (try clear hW); (try clear hj); (try clear hA); (try clear hE); (try clear hsz); (try clear hlo); (try clear hup); (try clear hini); (try clear e10_1); (try clear e10_2); (try clear e10_3); (try clear e3_2); (try clear e3_3); (try clear e4_2); (try clear e5_2); (try clear e5_3); (try clear e60_3); (try clear e61_3); (try clear e62_3); (try clear e9_1); (try clear e9_2); (try clear e9_3); (try clear gt1b); (try clear gt4b); (try clear gt7b); (try clear ut1b); (try clear ut4b); (try clear ut7b); simp only [gv]; grind)), e9_1, e10_1, rfl, rfl, by (try clear hw); (try clear hm); (try clear hds); (try clear hss); (try clear hcb); (try clear hp); (try clear hW); (try clear hj); (try clear hA); (try clear hE); (try clear hsz); (try clear hlo); (try clear hup); (try clear hini); (try clear e10_1); (try clear e10_2); (try clear e10_3); (try clear e3_2); (try clear e3_3); (try clear e4_2); (try clear e5_2); (try clear e5_3); (try clear e60_3); (try clear e61_3); (try clear e62_3); (try clear e9_1); (try clear e9_2); (try clear e9_3); (try clear gt1b); (try clear gt4b); (try clear gt7b); (try clear ut1b); (try clear ut4b); (try clear ut7b); simp only [headB, gv]; grind⟩
                · (try (have qh26 := h26; norm_cast at qh26))
                  refine w_skip rfl rfl (bF h26) ?_; refine w_skip rfl rfl (bF h26) ?_; refine w_skip rfl rfl (bF h26) ?_
                  refine w_skip rfl rfl (bF h26) ?_; refine w_want rfl rfl (bF h25) ?_; refine w_r (v := .bool _) (fun _ => R_pickF (bF h26) rfl) rfl rfl ?_
                  refine w_r (v := .bool _) (fun _ => R_pickF (bF h25) rfl) rfl rfl ?_; refine w_move (v := .bool _) rfl ?_; refine w_want rfl rfl rfl ?_
                  refine w_fa fa37_2 rfl ?_; refine w_want rfl rfl rfl ?_; refine w_load z35 rfl (fun _ h => cel_own 0 rfl rfl h) ?_; refine w_want rfl rfl rfl ?_; refine w_call (fun w => R_call Tryz.func40 rfl rfl rfl) rfl rfl (fun w h => stmts_ok b.stmts sa sc N w (by omega) (by omega) (hss.now (fun _ _ hh => hh) (.head _) h) (hW.now (.head _) h)) ?_
                  refine w_want rfl rfl rfl ?_; refine w_r (fun _ => R_not rfl) rfl rfl ?_; refine w_r (v := .bool _) (fun _ => R_pickF rfl rfl) rfl rfl ?_; refine w_asg (v := .bool _) rfl ?_
                  refine w_nil ?_; refine k_on ?_
                  refine c_condN rfl (fun h29 => ?_) (fun h29 => ?_)
                  · (try (have qh29 := h29; norm_cast at qh29))
                    refine c_seq ?_; refine c_region ?_; refine w_asg (v := .int _ _) rfl ?_; refine w_nil ?_; refine k_on ?_; refine c_ret ?_; refine b_ret (k_ret (b_ret (k_ret (k_ret (b_ret (k_ret (?_)))))))
                    refine r_one (v := .int _ _) rfl rfl rfl ?_
                    exact fun w' hw => ⟨by first | (rw [pgOk_yes hm.six (fun j b h => hj j b (by omega))]; rfl) | (rw [pgOk_no hi6 hb (by first | (unfold bkOk; rw [all_no hxk (by (try clear hw); (try clear hm); (try clear hds); (try clear hss); (try clear hcb); (try clear hp); (try clear hW); (try clear hj); (try clear hA); (try clear hE); (try clear hsz); (try clear hlo); (try clear hup); (try clear hini); (try clear e10_1); (try clear e10_2); (try clear e10_3); (try clear e3_2); (try clear e3_3); (try clear e4_2); (try clear e5_2); (try clear e5_3); (try clear e60_3); (try clear e61_3); (try clear e62_3); (try clear e9_1); (try clear e9_2); (try clear e9_3); (try clear gt1b); (try clear gt4b); (try clear gt7b); (try clear ut1b); (try clear ut4b); (try clear ut7b); simp only [dgood]; grind)]; simp; done) | ((try clear hw); (try clear hm); (try clear hds); (try clear hss); (try clear hcb); (try clear hp); (try clear hW); (try clear hj); (try clear hA); (try clear hE); (try clear hsz); (try clear hlo); (try clear hup); (try clear hini); (try clear e10_1); (try clear e10_2); (try clear e10_3); (try clear e3_2); (try clear e3_3); (try clear e4_2); (try clear e5_2); (try clear e5_3); (try clear e60_3); (try clear e61_3); (try clear e62_3); (try clear e9_1); (try clear e9_2); (try clear e9_3); (try clear gt1b); (try clear gt4b); (try clear gt7b); (try clear ut1b); (try clear ut4b); (try clear ut7b); simp only [bkOk, headB, gv]; grind))]; rfl), hw.fr _ (.head _)⟩
                  · (try (have qh29 := h29; norm_cast at qh29))
                    refine c_skip ?_; refine b_on (?_)
                    exact k_mid ⟨rfl, rfl, (congrArg Value.bool (by (try clear hw); (try clear hm); (try clear hds); (try clear hss); (try clear hcb); (try clear hp); (try clear hW); (try clear hj); (try clear hA); (try clear hE); (try clear hsz); (try clear hlo); (try clear hup); (try clear hini); (try clear e10_1); (try clear e10_2); (try clear e10_3); (try clear e3_2); (try clear e3_3); (try clear e4_2); (try clear e5_2); (try clear e5_3); (try clear e60_3); (try clear e61_3); (try clear e62_3); (try clear e9_1); (try clear e9_2); (try clear e9_3); (try clear gt1b); (try clear gt4b); (try clear gt7b); (try clear ut1b); (try clear ut4b); (try clear ut7b); simp only [gv]; grind)), e9_1, e10_1, rfl, rfl, by (try clear hw); (try clear hm); (try clear hds); (try clear hss); (try clear hcb); (try clear hp); (try clear hW); (try clear hj); (try clear hA); (try clear hE); (try clear hsz); (try clear hlo); (try clear hup); (try clear hini); (try clear e10_1); (try clear e10_2); (try clear e10_3); (try clear e3_2); (try clear e3_3); (try clear e4_2); (try clear e5_2); (try clear e5_3); (try clear e60_3); (try clear e61_3); (try clear e62_3); (try clear e9_1); (try clear e9_2); (try clear e9_3); (try clear gt1b); (try clear gt4b); (try clear gt7b); (try clear ut1b); (try clear ut4b); (try clear ut7b); simp only [headB, gv]; grind⟩
            · (try (have qh24 := h24; norm_cast at qh24))
              refine w_skip rfl rfl (bF h24) ?_; refine w_skip rfl rfl (bF h24) ?_; refine w_skip rfl rfl (bF h24) ?_
              refine w_skip rfl rfl (bF h24) ?_; refine w_want rfl rfl (bF h23) ?_; refine w_r (v := .bool _) (fun _ => R_pickF (bF h24) rfl) rfl rfl ?_
              refine w_r (v := .bool _) (fun _ => R_pickF (bF h23) rfl) rfl rfl ?_; refine w_move (v := .bool _) rfl ?_; refine w_want rfl rfl rfl ?_
              refine w_move (v := .int _ _) rfl ?_; refine w_want rfl rfl rfl ?_; refine w_r (fun _ => R_eq rfl rfl) rfl rfl ?_; refine w_want rfl rfl rfl ?_; refine w_move (v := .bool _) rfl ?_
              refine w_splitD (t := 46) rfl (fun h30 => ?_) (fun h30 => ?_)
              · (try (have qh30 := h30; norm_cast at qh30))
                refine w_want rfl rfl (bT h30) ?_; refine w_fa fa37_1 rfl ?_; refine w_want rfl rfl (bT h30) ?_
                refine w_load z34 rfl (fun _ h => cel_own 0 rfl rfl h) ?_; refine w_want rfl rfl (bT h30) ?_; refine w_r (fun _ => R_len sl34 rfl) rfl rfl ?_
                refine w_want rfl rfl (bT h30) ?_; refine w_r (fun _ => R_gt rfl rfl) rfl rfl ?_; refine w_want rfl rfl rfl ?_; refine w_r (v := .bool _) (fun _ => R_pickT (bT h30) rfl) rfl rfl ?_
                refine w_r (v := .bool _) (fun _ => R_pickF rfl rfl) rfl rfl ?_; refine w_move (v := .bool _) rfl ?_
                refine w_splitD (t := 53) rfl (fun h31 => ?_) (fun h31 => ?_)
                · (try (have qh31 := h31; norm_cast at qh31))
                  refine w_skip rfl rfl (bT h31) ?_; refine w_skip rfl rfl (bT h31) ?_; refine w_skip rfl rfl (bT h31) ?_
                  refine w_skip rfl rfl (bT h31) ?_; refine w_r (v := .bool _) (fun _ => R_pickT (bT h31) rfl) rfl rfl ?_
                  refine w_asg (v := .bool _) rfl ?_; refine w_nil ?_; refine k_on ?_; refine c_condT rfl ?_; refine c_seq ?_; refine c_region ?_; refine w_asg (v := .int _ _) rfl ?_
                  refine w_nil ?_; refine k_on ?_; refine c_ret ?_; refine b_ret (k_ret (b_ret (k_ret (k_ret (b_ret (k_ret (?_)))))))
                  refine r_one (v := .int _ _) rfl rfl rfl ?_
                  exact fun w' hw => ⟨by first | (rw [pgOk_yes hm.six (fun j b h => hj j b (by omega))]; rfl) | (rw [pgOk_no hi6 hb (by first | (unfold bkOk; rw [all_no hxk (by (try clear hw); (try clear hm); (try clear hds); (try clear hss); (try clear hcb); (try clear hp); (try clear hW); (try clear hj); (try clear hA); (try clear hE); (try clear hsz); (try clear hlo); (try clear hup); (try clear hini); (try clear e10_1); (try clear e10_2); (try clear e10_3); (try clear e3_2); (try clear e3_3); (try clear e4_2); (try clear e5_2); (try clear e5_3); (try clear e60_3); (try clear e61_3); (try clear e62_3); (try clear e9_1); (try clear e9_2); (try clear e9_3); (try clear gt1b); (try clear gt4b); (try clear gt7b); (try clear ut1b); (try clear ut4b); (try clear ut7b); simp only [dgood]; grind)]; simp; done) | ((try clear hw); (try clear hm); (try clear hds); (try clear hss); (try clear hcb); (try clear hp); (try clear hW); (try clear hj); (try clear hA); (try clear hE); (try clear hsz); (try clear hlo); (try clear hup); (try clear hini); (try clear e10_1); (try clear e10_2); (try clear e10_3); (try clear e3_2); (try clear e3_3); (try clear e4_2); (try clear e5_2); (try clear e5_3); (try clear e60_3); (try clear e61_3); (try clear e62_3); (try clear e9_1); (try clear e9_2); (try clear e9_3); (try clear gt1b); (try clear gt4b); (try clear gt7b); (try clear ut1b); (try clear ut4b); (try clear ut7b); simp only [bkOk, headB, gv]; grind))]; rfl), hw.fr _ (.head _)⟩
                · (try (have qh31 := h31; norm_cast at qh31))
                  refine w_want rfl rfl (bF h31) ?_; refine w_fa fa37_2 rfl ?_; refine w_want rfl rfl (bF h31) ?_
                  refine w_load z35 rfl (fun _ h => cel_own 0 rfl rfl h) ?_; refine w_want rfl rfl (bF h31) ?_; refine w_call (fun w => R_call Tryz.func40 rfl rfl rfl) rfl rfl (fun w h => stmts_ok b.stmts sa sc N w (by omega) (by omega) (hss.now (fun _ _ hh => hh) (.head _) h) (hW.now (.head _) h)) ?_
                  refine w_want rfl rfl (bF h31) ?_; refine w_r (fun _ => R_not rfl) rfl rfl ?_; refine w_r (v := .bool _) (fun _ => R_pickF (bF h31) rfl) rfl rfl ?_
                  refine w_asg (v := .bool _) rfl ?_; refine w_nil ?_; refine k_on ?_
                  refine c_condN rfl (fun h32 => ?_) (fun h32 => ?_)
                  · (try (have qh32 := h32; norm_cast at qh32))
                    refine c_seq ?_; refine c_region ?_; refine w_asg (v := .int _ _) rfl ?_; refine w_nil ?_; refine k_on ?_; refine c_ret ?_; refine b_ret (k_ret (b_ret (k_ret (k_ret (b_ret (k_ret (?_)))))))
                    refine r_one (v := .int _ _) rfl rfl rfl ?_
                    exact fun w' hw => ⟨by first | (rw [pgOk_yes hm.six (fun j b h => hj j b (by omega))]; rfl) | (rw [pgOk_no hi6 hb (by first | (unfold bkOk; rw [all_no hxk (by (try clear hw); (try clear hm); (try clear hds); (try clear hss); (try clear hcb); (try clear hp); (try clear hW); (try clear hj); (try clear hA); (try clear hE); (try clear hsz); (try clear hlo); (try clear hup); (try clear hini); (try clear e10_1); (try clear e10_2); (try clear e10_3); (try clear e3_2); (try clear e3_3); (try clear e4_2); (try clear e5_2); (try clear e5_3); (try clear e60_3); (try clear e61_3); (try clear e62_3); (try clear e9_1); (try clear e9_2); (try clear e9_3); (try clear gt1b); (try clear gt4b); (try clear gt7b); (try clear ut1b); (try clear ut4b); (try clear ut7b); simp only [dgood]; grind)]; simp; done) | ((try clear hw); (try clear hm); (try clear hds); (try clear hss); (try clear hcb); (try clear hp); (try clear hW); (try clear hj); (try clear hA); (try clear hE); (try clear hsz); (try clear hlo); (try clear hup); (try clear hini); (try clear e10_1); (try clear e10_2); (try clear e10_3); (try clear e3_2); (try clear e3_3); (try clear e4_2); (try clear e5_2); (try clear e5_3); (try clear e60_3); (try clear e61_3); (try clear e62_3); (try clear e9_1); (try clear e9_2); (try clear e9_3); (try clear gt1b); (try clear gt4b); (try clear gt7b); (try clear ut1b); (try clear ut4b); (try clear ut7b); simp only [bkOk, headB, gv]; grind))]; rfl), hw.fr _ (.head _)⟩
                  · (try (have qh32 := h32; norm_cast at qh32))
                    refine c_skip ?_; refine b_on (?_)
                    exact k_mid ⟨rfl, rfl, (congrArg Value.bool (by (try clear hw); (try clear hm); (try clear hds); (try clear hss); (try clear hcb); (try clear hp); (try clear hW); (try clear hj); (try clear hA); (try clear hE); (try clear hsz); (try clear hlo); (try clear hup); (try clear hini); (try clear e10_1); (try clear e10_2); (try clear e10_3); (try clear e3_2); (try clear e3_3); (try clear e4_2); (try clear e5_2); (try clear e5_3); (try clear e60_3); (try clear e61_3); (try clear e62_3); (try clear e9_1); (try clear e9_2); (try clear e9_3); (try clear gt1b); (try clear gt4b); (try clear gt7b); (try clear ut1b); (try clear ut4b); (try clear ut7b); simp only [gv]; grind)), e9_1, e10_1, rfl, rfl, by (try clear hw); (try clear hm); (try clear hds); (try clear hss); (try clear hcb); (try clear hp); (try clear hW); (try clear hj); (try clear hA); (try clear hE); (try clear hsz); (try clear hlo); (try clear hup); (try clear hini); (try clear e10_1); (try clear e10_2); (try clear e10_3); (try clear e3_2); (try clear e3_3); (try clear e4_2); (try clear e5_2); (try clear e5_3); (try clear e60_3); (try clear e61_3); (try clear e62_3); (try clear e9_1); (try clear e9_2); (try clear e9_3); (try clear gt1b); (try clear gt4b); (try clear gt7b); (try clear ut1b); (try clear ut4b); (try clear ut7b); simp only [headB, gv]; grind⟩
              · (try (have qh30 := h30; norm_cast at qh30))
                refine w_skip rfl rfl (bF h30) ?_; refine w_skip rfl rfl (bF h30) ?_; refine w_skip rfl rfl (bF h30) ?_
                refine w_skip rfl rfl (bF h30) ?_; refine w_want rfl rfl rfl ?_; refine w_r (v := .bool _) (fun _ => R_pickF (bF h30) rfl) rfl rfl ?_
                refine w_r (v := .bool _) (fun _ => R_pickF rfl rfl) rfl rfl ?_; refine w_move (v := .bool _) rfl ?_; refine w_want rfl rfl rfl ?_; refine w_fa fa37_2 rfl ?_
                refine w_want rfl rfl rfl ?_; refine w_load z35 rfl (fun _ h => cel_own 0 rfl rfl h) ?_; refine w_want rfl rfl rfl ?_; refine w_call (fun w => R_call Tryz.func40 rfl rfl rfl) rfl rfl (fun w h => stmts_ok b.stmts sa sc N w (by omega) (by omega) (hss.now (fun _ _ hh => hh) (.head _) h) (hW.now (.head _) h)) ?_
                refine w_want rfl rfl rfl ?_; refine w_r (fun _ => R_not rfl) rfl rfl ?_; refine w_r (v := .bool _) (fun _ => R_pickF rfl rfl) rfl rfl ?_; refine w_asg (v := .bool _) rfl ?_
                refine w_nil ?_; refine k_on ?_
                refine c_condN rfl (fun h33 => ?_) (fun h33 => ?_)
                · (try (have qh33 := h33; norm_cast at qh33))
                  refine c_seq ?_; refine c_region ?_; refine w_asg (v := .int _ _) rfl ?_; refine w_nil ?_; refine k_on ?_; refine c_ret ?_; refine b_ret (k_ret (b_ret (k_ret (k_ret (b_ret (k_ret (?_)))))))
                  refine r_one (v := .int _ _) rfl rfl rfl ?_
                  exact fun w' hw => ⟨by first | (rw [pgOk_yes hm.six (fun j b h => hj j b (by omega))]; rfl) | (rw [pgOk_no hi6 hb (by first | (unfold bkOk; rw [all_no hxk (by (try clear hw); (try clear hm); (try clear hds); (try clear hss); (try clear hcb); (try clear hp); (try clear hW); (try clear hj); (try clear hA); (try clear hE); (try clear hsz); (try clear hlo); (try clear hup); (try clear hini); (try clear e10_1); (try clear e10_2); (try clear e10_3); (try clear e3_2); (try clear e3_3); (try clear e4_2); (try clear e5_2); (try clear e5_3); (try clear e60_3); (try clear e61_3); (try clear e62_3); (try clear e9_1); (try clear e9_2); (try clear e9_3); (try clear gt1b); (try clear gt4b); (try clear gt7b); (try clear ut1b); (try clear ut4b); (try clear ut7b); simp only [dgood]; grind)]; simp; done) | ((try clear hw); (try clear hm); (try clear hds); (try clear hss); (try clear hcb); (try clear hp); (try clear hW); (try clear hj); (try clear hA); (try clear hE); (try clear hsz); (try clear hlo); (try clear hup); (try clear hini); (try clear e10_1); (try clear e10_2); (try clear e10_3); (try clear e3_2); (try clear e3_3); (try clear e4_2); (try clear e5_2); (try clear e5_3); (try clear e60_3); (try clear e61_3); (try clear e62_3); (try clear e9_1); (try clear e9_2); (try clear e9_3); (try clear gt1b); (try clear gt4b); (try clear gt7b); (try clear ut1b); (try clear ut4b); (try clear ut7b); simp only [bkOk, headB, gv]; grind))]; rfl), hw.fr _ (.head _)⟩
                · (try (have qh33 := h33; norm_cast at qh33))
                  refine c_skip ?_; refine b_on (?_)
                  exact k_mid ⟨rfl, rfl, (congrArg Value.bool (by (try clear hw); (try clear hm); (try clear hds); (try clear hss); (try clear hcb); (try clear hp); (try clear hW); (try clear hj); (try clear hA); (try clear hE); (try clear hsz); (try clear hlo); (try clear hup); (try clear hini); (try clear e10_1); (try clear e10_2); (try clear e10_3); (try clear e3_2); (try clear e3_3); (try clear e4_2); (try clear e5_2); (try clear e5_3); (try clear e60_3); (try clear e61_3); (try clear e62_3); (try clear e9_1); (try clear e9_2); (try clear e9_3); (try clear gt1b); (try clear gt4b); (try clear gt7b); (try clear ut1b); (try clear ut4b); (try clear ut7b); simp only [gv]; grind)), e9_1, e10_1, rfl, rfl, by (try clear hw); (try clear hm); (try clear hds); (try clear hss); (try clear hcb); (try clear hp); (try clear hW); (try clear hj); (try clear hA); (try clear hE); (try clear hsz); (try clear hlo); (try clear hup); (try clear hini); (try clear e10_1); (try clear e10_2); (try clear e10_3); (try clear e3_2); (try clear e3_3); (try clear e4_2); (try clear e5_2); (try clear e5_3); (try clear e60_3); (try clear e61_3); (try clear e62_3); (try clear e9_1); (try clear e9_2); (try clear e9_3); (try clear gt1b); (try clear gt4b); (try clear gt7b); (try clear ut1b); (try clear ut4b); (try clear ut7b); simp only [headB, gv]; grind⟩
        · (try (have qh22 := h22; norm_cast at qh22))
          refine w_skip rfl rfl (bV h22) ?_; refine w_skip rfl rfl (bV h22) ?_; refine w_skip rfl rfl (bV h22) ?_; refine w_skip rfl rfl (bV h22) ?_
          refine w_skip rfl rfl (bV h22) ?_; refine w_skip rfl rfl (bV h22) ?_; refine w_skip rfl rfl (bV h22) ?_; refine w_skip rfl rfl (bV h22) ?_
          refine w_r (v := .bool _) (fun _ => R_pickF (bV h22) rfl) rfl rfl ?_; refine w_move (v := .bool _) rfl ?_; refine w_want rfl rfl rfl ?_; refine w_move (v := .bool _) rfl ?_
          refine w_want rfl rfl rfl ?_; refine w_move (v := .bool _) rfl ?_
          refine w_splitD (t := 36) rfl (fun h34 => ?_) (fun h34 => ?_)
          · (try (have qh34 := h34; norm_cast at qh34))
            refine w_want rfl rfl (bT h34) ?_; refine w_fa fa37_2 rfl ?_; refine w_want rfl rfl (bT h34) ?_
            refine w_load z35 rfl (fun _ h => cel_own 0 rfl rfl h) ?_; refine w_want rfl rfl (bT h34) ?_; refine w_r (fun _ => R_len sl35 rfl) rfl rfl ?_
            refine w_want rfl rfl (bT h34) ?_; refine w_r (fun _ => R_gt rfl rfl) rfl rfl ?_; refine w_want rfl rfl rfl ?_; refine w_r (v := .bool _) (fun _ => R_pickT (bT h34) rfl) rfl rfl ?_
            refine w_r (v := .bool _) (fun _ => R_pickF rfl rfl) rfl rfl ?_; refine w_move (v := .bool _) rfl ?_
            refine w_splitD (t := 43) rfl (fun h35 => ?_) (fun h35 => ?_)
            · (try (have qh35 := h35; norm_cast at qh35))
              refine w_skip rfl rfl (bT h35) ?_; refine w_skip rfl rfl (bT h35) ?_; refine w_skip rfl rfl (bT h35) ?_
              refine w_skipU rfl rfl rfl ?_; refine w_skipU rfl rfl rfl ?_; refine w_skipU rfl rfl rfl ?_; refine w_skipU rfl rfl rfl ?_; refine w_skip rfl rfl (bT h35) ?_
              refine w_r (v := .bool _) (fun _ => R_pickT (bT h35) rfl) rfl rfl ?_; refine w_move (v := .bool _) rfl ?_; refine w_skip rfl rfl rfl ?_
              refine w_skip rfl rfl rfl ?_; refine w_skip rfl rfl rfl ?_; refine w_skip rfl rfl rfl ?_; refine w_r (v := .bool _) (fun _ => R_pickT rfl rfl) rfl rfl ?_; refine w_asg (v := .bool _) rfl ?_
              refine w_nil ?_; refine k_on ?_; refine c_condT rfl ?_; refine c_seq ?_; refine c_region ?_; refine w_asg (v := .int _ _) rfl ?_; refine w_nil ?_; refine k_on ?_; refine c_ret ?_
              refine b_ret (k_ret (b_ret (k_ret (k_ret (b_ret (k_ret (?_)))))))
              refine r_one (v := .int _ _) rfl rfl rfl ?_
              exact fun w' hw => ⟨by first | (rw [pgOk_yes hm.six (fun j b h => hj j b (by omega))]; rfl) | (rw [pgOk_no hi6 hb (by first | (unfold bkOk; rw [all_no hxk (by (try clear hw); (try clear hm); (try clear hds); (try clear hss); (try clear hcb); (try clear hp); (try clear hW); (try clear hj); (try clear hA); (try clear hE); (try clear hsz); (try clear hlo); (try clear hup); (try clear hini); (try clear e10_1); (try clear e10_2); (try clear e10_3); (try clear e3_2); (try clear e3_3); (try clear e4_2); (try clear e5_2); (try clear e5_3); (try clear e60_3); (try clear e61_3); (try clear e62_3); (try clear e9_1); (try clear e9_2); (try clear e9_3); (try clear gt1b); (try clear gt4b); (try clear gt7b); (try clear ut1b); (try clear ut4b); (try clear ut7b); simp only [dgood]; grind)]; simp; done) | ((try clear hw); (try clear hm); (try clear hds); (try clear hss); (try clear hcb); (try clear hp); (try clear hW); (try clear hj); (try clear hA); (try clear hE); (try clear hsz); (try clear hlo); (try clear hup); (try clear hini); (try clear e10_1); (try clear e10_2); (try clear e10_3); (try clear e3_2); (try clear e3_3); (try clear e4_2); (try clear e5_2); (try clear e5_3); (try clear e60_3); (try clear e61_3); (try clear e62_3); (try clear e9_1); (try clear e9_2); (try clear e9_3); (try clear gt1b); (try clear gt4b); (try clear gt7b); (try clear ut1b); (try clear ut4b); (try clear ut7b); simp only [bkOk, headB, gv]; grind))]; rfl), hw.fr _ (.head _)⟩
            · (try (have qh35 := h35; norm_cast at qh35))
              refine w_want rfl rfl (bF h35) ?_; refine w_move (v := .int _ _) rfl ?_; refine w_want rfl rfl (bF h35) ?_
              refine w_r (fun _ => R_eq rfl rfl) rfl rfl ?_; refine w_want rfl rfl (bF h35) ?_; refine w_move (v := .bool _) rfl ?_
              refine w_splitD (t := 46) rfl (fun h36 => ?_) (fun h36 => ?_)
              · (try (have qh36 := h36; norm_cast at qh36))
                refine w_want rfl rfl (bT h36) ?_; refine w_fa fa37_1 rfl ?_; refine w_want rfl rfl (bT h36) ?_
                refine w_load z34 rfl (fun _ h => cel_own 0 rfl rfl h) ?_; refine w_want rfl rfl (bT h36) ?_; refine w_r (fun _ => R_len sl34 rfl) rfl rfl ?_
                refine w_want rfl rfl (bT h36) ?_; refine w_r (fun _ => R_gt rfl rfl) rfl rfl ?_; refine w_want rfl rfl (bF h35) ?_
                refine w_r (v := .bool _) (fun _ => R_pickT (bT h36) rfl) rfl rfl ?_; refine w_r (v := .bool _) (fun _ => R_pickF (bF h35) rfl) rfl rfl ?_
                refine w_move (v := .bool _) rfl ?_
                refine w_splitD (t := 53) rfl (fun h37 => ?_) (fun h37 => ?_)
                · (try (have qh37 := h37; norm_cast at qh37))
                  refine w_skip rfl rfl (bT h37) ?_; refine w_skip rfl rfl (bT h37) ?_; refine w_skip rfl rfl (bT h37) ?_
                  refine w_skip rfl rfl (bT h37) ?_; refine w_r (v := .bool _) (fun _ => R_pickT (bT h37) rfl) rfl rfl ?_
                  refine w_asg (v := .bool _) rfl ?_; refine w_nil ?_; refine k_on ?_; refine c_condT rfl ?_; refine c_seq ?_; refine c_region ?_; refine w_asg (v := .int _ _) rfl ?_
                  refine w_nil ?_; refine k_on ?_; refine c_ret ?_; refine b_ret (k_ret (b_ret (k_ret (k_ret (b_ret (k_ret (?_)))))))
                  refine r_one (v := .int _ _) rfl rfl rfl ?_
                  exact fun w' hw => ⟨by first | (rw [pgOk_yes hm.six (fun j b h => hj j b (by omega))]; rfl) | (rw [pgOk_no hi6 hb (by first | (unfold bkOk; rw [all_no hxk (by (try clear hw); (try clear hm); (try clear hds); (try clear hss); (try clear hcb); (try clear hp); (try clear hW); (try clear hj); (try clear hA); (try clear hE); (try clear hsz); (try clear hlo); (try clear hup); (try clear hini); (try clear e10_1); (try clear e10_2); (try clear e10_3); (try clear e3_2); (try clear e3_3); (try clear e4_2); (try clear e5_2); (try clear e5_3); (try clear e60_3); (try clear e61_3); (try clear e62_3); (try clear e9_1); (try clear e9_2); (try clear e9_3); (try clear gt1b); (try clear gt4b); (try clear gt7b); (try clear ut1b); (try clear ut4b); (try clear ut7b); simp only [dgood]; grind)]; simp; done) | ((try clear hw); (try clear hm); (try clear hds); (try clear hss); (try clear hcb); (try clear hp); (try clear hW); (try clear hj); (try clear hA); (try clear hE); (try clear hsz); (try clear hlo); (try clear hup); (try clear hini); (try clear e10_1); (try clear e10_2); (try clear e10_3); (try clear e3_2); (try clear e3_3); (try clear e4_2); (try clear e5_2); (try clear e5_3); (try clear e60_3); (try clear e61_3); (try clear e62_3); (try clear e9_1); (try clear e9_2); (try clear e9_3); (try clear gt1b); (try clear gt4b); (try clear gt7b); (try clear ut1b); (try clear ut4b); (try clear ut7b); simp only [bkOk, headB, gv]; grind))]; rfl), hw.fr _ (.head _)⟩
                · (try (have qh37 := h37; norm_cast at qh37))
                  refine w_want rfl rfl (bF h37) ?_; refine w_fa fa37_2 rfl ?_; refine w_want rfl rfl (bF h37) ?_
                  refine w_load z35 rfl (fun _ h => cel_own 0 rfl rfl h) ?_; refine w_want rfl rfl (bF h37) ?_; refine w_call (fun w => R_call Tryz.func40 rfl rfl rfl) rfl rfl (fun w h => stmts_ok b.stmts sa sc N w (by omega) (by omega) (hss.now (fun _ _ hh => hh) (.head _) h) (hW.now (.head _) h)) ?_
                  refine w_want rfl rfl (bF h37) ?_; refine w_r (fun _ => R_not rfl) rfl rfl ?_; refine w_r (v := .bool _) (fun _ => R_pickF (bF h37) rfl) rfl rfl ?_
                  refine w_asg (v := .bool _) rfl ?_; refine w_nil ?_; refine k_on ?_
                  refine c_condN rfl (fun h38 => ?_) (fun h38 => ?_)
                  · (try (have qh38 := h38; norm_cast at qh38))
                    refine c_seq ?_; refine c_region ?_; refine w_asg (v := .int _ _) rfl ?_; refine w_nil ?_; refine k_on ?_; refine c_ret ?_; refine b_ret (k_ret (b_ret (k_ret (k_ret (b_ret (k_ret (?_)))))))
                    refine r_one (v := .int _ _) rfl rfl rfl ?_
                    exact fun w' hw => ⟨by first | (rw [pgOk_yes hm.six (fun j b h => hj j b (by omega))]; rfl) | (rw [pgOk_no hi6 hb (by first | (unfold bkOk; rw [all_no hxk (by (try clear hw); (try clear hm); (try clear hds); (try clear hss); (try clear hcb); (try clear hp); (try clear hW); (try clear hj); (try clear hA); (try clear hE); (try clear hsz); (try clear hlo); (try clear hup); (try clear hini); (try clear e10_1); (try clear e10_2); (try clear e10_3); (try clear e3_2); (try clear e3_3); (try clear e4_2); (try clear e5_2); (try clear e5_3); (try clear e60_3); (try clear e61_3); (try clear e62_3); (try clear e9_1); (try clear e9_2); (try clear e9_3); (try clear gt1b); (try clear gt4b); (try clear gt7b); (try clear ut1b); (try clear ut4b); (try clear ut7b); simp only [dgood]; grind)]; simp; done) | ((try clear hw); (try clear hm); (try clear hds); (try clear hss); (try clear hcb); (try clear hp); (try clear hW); (try clear hj); (try clear hA); (try clear hE); (try clear hsz); (try clear hlo); (try clear hup); (try clear hini); (try clear e10_1); (try clear e10_2); (try clear e10_3); (try clear e3_2); (try clear e3_3); (try clear e4_2); (try clear e5_2); (try clear e5_3); (try clear e60_3); (try clear e61_3); (try clear e62_3); (try clear e9_1); (try clear e9_2); (try clear e9_3); (try clear gt1b); (try clear gt4b); (try clear gt7b); (try clear ut1b); (try clear ut4b); (try clear ut7b); simp only [bkOk, headB, gv]; grind))]; rfl), hw.fr _ (.head _)⟩
                  · (try (have qh38 := h38; norm_cast at qh38))
                    refine c_skip ?_; refine b_on (?_)
                    exact k_mid ⟨rfl, rfl, (congrArg Value.bool (by (try clear hw); (try clear hm); (try clear hds); (try clear hss); (try clear hcb); (try clear hp); (try clear hW); (try clear hj); (try clear hA); (try clear hE); (try clear hsz); (try clear hlo); (try clear hup); (try clear hini); (try clear e10_1); (try clear e10_2); (try clear e10_3); (try clear e3_2); (try clear e3_3); (try clear e4_2); (try clear e5_2); (try clear e5_3); (try clear e60_3); (try clear e61_3); (try clear e62_3); (try clear e9_1); (try clear e9_2); (try clear e9_3); (try clear gt1b); (try clear gt4b); (try clear gt7b); (try clear ut1b); (try clear ut4b); (try clear ut7b); simp only [gv]; grind)), e9_1, e10_1, rfl, rfl, by (try clear hw); (try clear hm); (try clear hds); (try clear hss); (try clear hcb); (try clear hp); (try clear hW); (try clear hj); (try clear hA); (try clear hE); (try clear hsz); (try clear hlo); (try clear hup); (try clear hini); (try clear e10_1); (try clear e10_2); (try clear e10_3); (try clear e3_2); (try clear e3_3); (try clear e4_2); (try clear e5_2); (try clear e5_3); (try clear e60_3); (try clear e61_3); (try clear e62_3); (try clear e9_1); (try clear e9_2); (try clear e9_3); (try clear gt1b); (try clear gt4b); (try clear gt7b); (try clear ut1b); (try clear ut4b); (try clear ut7b); simp only [headB, gv]; grind⟩
              · (try (have qh36 := h36; norm_cast at qh36))
                refine w_skip rfl rfl (bF h36) ?_; refine w_skip rfl rfl (bF h36) ?_; refine w_skip rfl rfl (bF h36) ?_
                refine w_skip rfl rfl (bF h36) ?_; refine w_want rfl rfl (bF h35) ?_; refine w_r (v := .bool _) (fun _ => R_pickF (bF h36) rfl) rfl rfl ?_
                refine w_r (v := .bool _) (fun _ => R_pickF (bF h35) rfl) rfl rfl ?_; refine w_move (v := .bool _) rfl ?_; refine w_want rfl rfl rfl ?_
                refine w_fa fa37_2 rfl ?_; refine w_want rfl rfl rfl ?_; refine w_load z35 rfl (fun _ h => cel_own 0 rfl rfl h) ?_; refine w_want rfl rfl rfl ?_; refine w_call (fun w => R_call Tryz.func40 rfl rfl rfl) rfl rfl (fun w h => stmts_ok b.stmts sa sc N w (by omega) (by omega) (hss.now (fun _ _ hh => hh) (.head _) h) (hW.now (.head _) h)) ?_
                refine w_want rfl rfl rfl ?_; refine w_r (fun _ => R_not rfl) rfl rfl ?_; refine w_r (v := .bool _) (fun _ => R_pickF rfl rfl) rfl rfl ?_; refine w_asg (v := .bool _) rfl ?_
                refine w_nil ?_; refine k_on ?_
                refine c_condN rfl (fun h39 => ?_) (fun h39 => ?_)
                · (try (have qh39 := h39; norm_cast at qh39))
                  refine c_seq ?_; refine c_region ?_; refine w_asg (v := .int _ _) rfl ?_; refine w_nil ?_; refine k_on ?_; refine c_ret ?_; refine b_ret (k_ret (b_ret (k_ret (k_ret (b_ret (k_ret (?_)))))))
                  refine r_one (v := .int _ _) rfl rfl rfl ?_
                  exact fun w' hw => ⟨by first | (rw [pgOk_yes hm.six (fun j b h => hj j b (by omega))]; rfl) | (rw [pgOk_no hi6 hb (by first | (unfold bkOk; rw [all_no hxk (by (try clear hw); (try clear hm); (try clear hds); (try clear hss); (try clear hcb); (try clear hp); (try clear hW); (try clear hj); (try clear hA); (try clear hE); (try clear hsz); (try clear hlo); (try clear hup); (try clear hini); (try clear e10_1); (try clear e10_2); (try clear e10_3); (try clear e3_2); (try clear e3_3); (try clear e4_2); (try clear e5_2); (try clear e5_3); (try clear e60_3); (try clear e61_3); (try clear e62_3); (try clear e9_1); (try clear e9_2); (try clear e9_3); (try clear gt1b); (try clear gt4b); (try clear gt7b); (try clear ut1b); (try clear ut4b); (try clear ut7b); simp only [dgood]; grind)]; simp; done) | ((try clear hw); (try clear hm); (try clear hds); (try clear hss); (try clear hcb); (try clear hp); (try clear hW); (try clear hj); (try clear hA); (try clear hE); (try clear hsz); (try clear hlo); (try clear hup); (try clear hini); (try clear e10_1); (try clear e10_2); (try clear e10_3); (try clear e3_2); (try clear e3_3); (try clear e4_2); (try clear e5_2); (try clear e5_3); (try clear e60_3); (try clear e61_3); (try clear e62_3); (try clear e9_1); (try clear e9_2); (try clear e9_3); (try clear gt1b); (try clear gt4b); (try clear gt7b); (try clear ut1b); (try clear ut4b); (try clear ut7b); simp only [bkOk, headB, gv]; grind))]; rfl), hw.fr _ (.head _)⟩
                · (try (have qh39 := h39; norm_cast at qh39))
                  refine c_skip ?_; refine b_on (?_)
                  exact k_mid ⟨rfl, rfl, (congrArg Value.bool (by (try clear hw); (try clear hm); (try clear hds); (try clear hss); (try clear hcb); (try clear hp); (try clear hW); (try clear hj); (try clear hA); (try clear hE); (try clear hsz); (try clear hlo); (try clear hup); (try clear hini); (try clear e10_1); (try clear e10_2); (try clear e10_3); (try clear e3_2); (try clear e3_3); (try clear e4_2); (try clear e5_2); (try clear e5_3); (try clear e60_3); (try clear e61_3); (try clear e62_3); (try clear e9_1); (try clear e9_2); (try clear e9_3); (try clear gt1b); (try clear gt4b); (try clear gt7b); (try clear ut1b); (try clear ut4b); (try clear ut7b); simp only [gv]; grind)), e9_1, e10_1, rfl, rfl, by (try clear hw); (try clear hm); (try clear hds); (try clear hss); (try clear hcb); (try clear hp); (try clear hW); (try clear hj); (try clear hA); (try clear hE); (try clear hsz); (try clear hlo); (try clear hup); (try clear hini); (try clear e10_1); (try clear e10_2); (try clear e10_3); (try clear e3_2); (try clear e3_3); (try clear e4_2); (try clear e5_2); (try clear e5_3); (try clear e60_3); (try clear e61_3); (try clear e62_3); (try clear e9_1); (try clear e9_2); (try clear e9_3); (try clear gt1b); (try clear gt4b); (try clear gt7b); (try clear ut1b); (try clear ut4b); (try clear ut7b); simp only [headB, gv]; grind⟩
          · (try (have qh34 := h34; norm_cast at qh34))
            refine w_skip rfl rfl (bF h34) ?_; refine w_skip rfl rfl (bF h34) ?_; refine w_skip rfl rfl (bF h34) ?_
            refine w_skip rfl rfl (bF h34) ?_; refine w_want rfl rfl rfl ?_; refine w_r (v := .bool _) (fun _ => R_pickF (bF h34) rfl) rfl rfl ?_
            refine w_r (v := .bool _) (fun _ => R_pickF rfl rfl) rfl rfl ?_; refine w_move (v := .bool _) rfl ?_; refine w_want rfl rfl rfl ?_; refine w_move (v := .int _ _) rfl ?_
            refine w_want rfl rfl rfl ?_; refine w_r (fun _ => R_eq rfl rfl) rfl rfl ?_; refine w_want rfl rfl rfl ?_; refine w_move (v := .bool _) rfl ?_
            refine w_splitD (t := 46) rfl (fun h40 => ?_) (fun h40 => ?_)
            · (try (have qh40 := h40; norm_cast at qh40))
              refine w_want rfl rfl (bT h40) ?_; refine w_fa fa37_1 rfl ?_; refine w_want rfl rfl (bT h40) ?_
              refine w_load z34 rfl (fun _ h => cel_own 0 rfl rfl h) ?_; refine w_want rfl rfl (bT h40) ?_; refine w_r (fun _ => R_len sl34 rfl) rfl rfl ?_
              refine w_want rfl rfl (bT h40) ?_; refine w_r (fun _ => R_gt rfl rfl) rfl rfl ?_; refine w_want rfl rfl rfl ?_; refine w_r (v := .bool _) (fun _ => R_pickT (bT h40) rfl) rfl rfl ?_
              refine w_r (v := .bool _) (fun _ => R_pickF rfl rfl) rfl rfl ?_; refine w_move (v := .bool _) rfl ?_
              refine w_splitD (t := 53) rfl (fun h41 => ?_) (fun h41 => ?_)
              · (try (have qh41 := h41; norm_cast at qh41))
                refine w_skip rfl rfl (bT h41) ?_; refine w_skip rfl rfl (bT h41) ?_; refine w_skip rfl rfl (bT h41) ?_
                refine w_skip rfl rfl (bT h41) ?_; refine w_r (v := .bool _) (fun _ => R_pickT (bT h41) rfl) rfl rfl ?_
                refine w_asg (v := .bool _) rfl ?_; refine w_nil ?_; refine k_on ?_; refine c_condT rfl ?_; refine c_seq ?_; refine c_region ?_; refine w_asg (v := .int _ _) rfl ?_
                refine w_nil ?_; refine k_on ?_; refine c_ret ?_; refine b_ret (k_ret (b_ret (k_ret (k_ret (b_ret (k_ret (?_)))))))
                refine r_one (v := .int _ _) rfl rfl rfl ?_
                exact fun w' hw => ⟨by first | (rw [pgOk_yes hm.six (fun j b h => hj j b (by omega))]; rfl) | (rw [pgOk_no hi6 hb (by first | (unfold bkOk; rw [all_no hxk (by (try clear hw); (try clear hm); (try clear hds); (try clear hss); (try clear hcb); (try clear hp); (try clear hW); (try clear hj); (try clear hA); (try clear hE); (try clear hsz); (try clear hlo); (try clear hup); (try clear hini); (try clear e10_1); (try clear e10_2); (try clear e10_3); (try clear e3_2); (try clear e3_3); (try clear e4_2); (try clear e5_2); (try clear e5_3); (try clear e60_3); (try clear e61_3); (try clear e62_3); (try clear e9_1); (try clear e9_2); (try clear e9_3); (try clear gt1b); (try clear gt4b); (try clear gt7b); (try clear ut1b); (try clear ut4b); (try clear ut7b); simp only [dgood]; grind)]; simp; done) | ((try clear hw); (try clear hm); (try clear hds); (try clear hss); (try clear hcb); (try clear hp); (try clear hW); (try clear hj); (try clear hA); (try clear hE); (try clear hsz); (try clear hlo); (try clear hup); (try clear hini); (try clear e10_1); (try clear e10_2); (try clear e10_3); (try clear e3_2); (try clear e3_3); (try clear e4_2); (try clear e5_2); (try clear e5_3); (try clear e60_3); (try clear e61_3); (try clear e62_3); (try clear e9_1); (try clear e9_2); (try clear e9_3); (try clear gt1b); (try clear gt4b); (try clear gt7b); (try clear ut1b); (try clear ut4b); (try clear ut7b); simp only [bkOk, headB, gv]; grind))]; rfl), hw.fr _ (.head _)⟩
              · (try (have qh41 := h41; norm_cast at qh41))
                refine w_want rfl rfl (bF h41) ?_; refine w_fa fa37_2 rfl ?_; refine w_want rfl rfl (bF h41) ?_
                refine w_load z35 rfl (fun _ h => cel_own 0 rfl rfl h) ?_; refine w_want rfl rfl (bF h41) ?_; refine w_call (fun w => R_call Tryz.func40 rfl rfl rfl) rfl rfl (fun w h => stmts_ok b.stmts sa sc N w (by omega) (by omega) (hss.now (fun _ _ hh => hh) (.head _) h) (hW.now (.head _) h)) ?_
                refine w_want rfl rfl (bF h41) ?_; refine w_r (fun _ => R_not rfl) rfl rfl ?_; refine w_r (v := .bool _) (fun _ => R_pickF (bF h41) rfl) rfl rfl ?_
                refine w_asg (v := .bool _) rfl ?_; refine w_nil ?_; refine k_on ?_
                refine c_condN rfl (fun h42 => ?_) (fun h42 => ?_)
                · (try (have qh42 := h42; norm_cast at qh42))
                  refine c_seq ?_; refine c_region ?_; refine w_asg (v := .int _ _) rfl ?_; refine w_nil ?_; refine k_on ?_; refine c_ret ?_; refine b_ret (k_ret (b_ret (k_ret (k_ret (b_ret (k_ret (?_)))))))
                  refine r_one (v := .int _ _) rfl rfl rfl ?_
                  exact fun w' hw => ⟨by first | (rw [pgOk_yes hm.six (fun j b h => hj j b (by omega))]; rfl) | (rw [pgOk_no hi6 hb (by first | (unfold bkOk; rw [all_no hxk (by (try clear hw); (try clear hm); (try clear hds); (try clear hss); (try clear hcb); (try clear hp); (try clear hW); (try clear hj); (try clear hA); (try clear hE); (try clear hsz); (try clear hlo); (try clear hup); (try clear hini); (try clear e10_1); (try clear e10_2); (try clear e10_3); (try clear e3_2); (try clear e3_3); (try clear e4_2); (try clear e5_2); (try clear e5_3); (try clear e60_3); (try clear e61_3); (try clear e62_3); (try clear e9_1); (try clear e9_2); (try clear e9_3); (try clear gt1b); (try clear gt4b); (try clear gt7b); (try clear ut1b); (try clear ut4b); (try clear ut7b); simp only [dgood]; grind)]; simp; done) | ((try clear hw); (try clear hm); (try clear hds); (try clear hss); (try clear hcb); (try clear hp); (try clear hW); (try clear hj); (try clear hA); (try clear hE); (try clear hsz); (try clear hlo); (try clear hup); (try clear hini); (try clear e10_1); (try clear e10_2); (try clear e10_3); (try clear e3_2); (try clear e3_3); (try clear e4_2); (try clear e5_2); (try clear e5_3); (try clear e60_3); (try clear e61_3); (try clear e62_3); (try clear e9_1); (try clear e9_2); (try clear e9_3); (try clear gt1b); (try clear gt4b); (try clear gt7b); (try clear ut1b); (try clear ut4b); (try clear ut7b); simp only [bkOk, headB, gv]; grind))]; rfl), hw.fr _ (.head _)⟩
                · (try (have qh42 := h42; norm_cast at qh42))
                  refine c_skip ?_; refine b_on (?_)
                  exact k_mid ⟨rfl, rfl, (congrArg Value.bool (by (try clear hw); (try clear hm); (try clear hds); (try clear hss); (try clear hcb); (try clear hp); (try clear hW); (try clear hj); (try clear hA); (try clear hE); (try clear hsz); (try clear hlo); (try clear hup); (try clear hini); (try clear e10_1); (try clear e10_2); (try clear e10_3); (try clear e3_2); (try clear e3_3); (try clear e4_2); (try clear e5_2); (try clear e5_3); (try clear e60_3); (try clear e61_3); (try clear e62_3); (try clear e9_1); (try clear e9_2); (try clear e9_3); (try clear gt1b); (try clear gt4b); (try clear gt7b); (try clear ut1b); (try clear ut4b); (try clear ut7b); simp only [gv]; grind)), e9_1, e10_1, rfl, rfl, by (try clear hw); (try clear hm); (try clear hds); (try clear hss); (try clear hcb); (try clear hp); (try clear hW); (try clear hj); (try clear hA); (try clear hE); (try clear hsz); (try clear hlo); (try clear hup); (try clear hini); (try clear e10_1); (try clear e10_2); (try clear e10_3); (try clear e3_2); (try clear e3_3); (try clear e4_2); (try clear e5_2); (try clear e5_3); (try clear e60_3); (try clear e61_3); (try clear e62_3); (try clear e9_1); (try clear e9_2); (try clear e9_3); (try clear gt1b); (try clear gt4b); (try clear gt7b); (try clear ut1b); (try clear ut4b); (try clear ut7b); simp only [headB, gv]; grind⟩
            · (try (have qh40 := h40; norm_cast at qh40))
              refine w_skip rfl rfl (bF h40) ?_; refine w_skip rfl rfl (bF h40) ?_; refine w_skip rfl rfl (bF h40) ?_
              refine w_skip rfl rfl (bF h40) ?_; refine w_want rfl rfl rfl ?_; refine w_r (v := .bool _) (fun _ => R_pickF (bF h40) rfl) rfl rfl ?_
              refine w_r (v := .bool _) (fun _ => R_pickF rfl rfl) rfl rfl ?_; refine w_move (v := .bool _) rfl ?_; refine w_want rfl rfl rfl ?_; refine w_fa fa37_2 rfl ?_
              refine w_want rfl rfl rfl ?_; refine w_load z35 rfl (fun _ h => cel_own 0 rfl rfl h) ?_; refine w_want rfl rfl rfl ?_; refine w_call (fun w => R_call Tryz.func40 rfl rfl rfl) rfl rfl (fun w h => stmts_ok b.stmts sa sc N w (by omega) (by omega) (hss.now (fun _ _ hh => hh) (.head _) h) (hW.now (.head _) h)) ?_
              refine w_want rfl rfl rfl ?_; refine w_r (fun _ => R_not rfl) rfl rfl ?_; refine w_r (v := .bool _) (fun _ => R_pickF rfl rfl) rfl rfl ?_; refine w_asg (v := .bool _) rfl ?_
              refine w_nil ?_; refine k_on ?_
              refine c_condN rfl (fun h43 => ?_) (fun h43 => ?_)
              · (try (have qh43 := h43; norm_cast at qh43))
                refine c_seq ?_; refine c_region ?_; refine w_asg (v := .int _ _) rfl ?_; refine w_nil ?_; refine k_on ?_; refine c_ret ?_; refine b_ret (k_ret (b_ret (k_ret (k_ret (b_ret (k_ret (?_)))))))
                refine r_one (v := .int _ _) rfl rfl rfl ?_
                exact fun w' hw => ⟨by first | (rw [pgOk_yes hm.six (fun j b h => hj j b (by omega))]; rfl) | (rw [pgOk_no hi6 hb (by first | (unfold bkOk; rw [all_no hxk (by (try clear hw); (try clear hm); (try clear hds); (try clear hss); (try clear hcb); (try clear hp); (try clear hW); (try clear hj); (try clear hA); (try clear hE); (try clear hsz); (try clear hlo); (try clear hup); (try clear hini); (try clear e10_1); (try clear e10_2); (try clear e10_3); (try clear e3_2); (try clear e3_3); (try clear e4_2); (try clear e5_2); (try clear e5_3); (try clear e60_3); (try clear e61_3); (try clear e62_3); (try clear e9_1); (try clear e9_2); (try clear e9_3); (try clear gt1b); (try clear gt4b); (try clear gt7b); (try clear ut1b); (try clear ut4b); (try clear ut7b); simp only [dgood]; grind)]; simp; done) | ((try clear hw); (try clear hm); (try clear hds); (try clear hss); (try clear hcb); (try clear hp); (try clear hW); (try clear hj); (try clear hA); (try clear hE); (try clear hsz); (try clear hlo); (try clear hup); (try clear hini); (try clear e10_1); (try clear e10_2); (try clear e10_3); (try clear e3_2); (try clear e3_3); (try clear e4_2); (try clear e5_2); (try clear e5_3); (try clear e60_3); (try clear e61_3); (try clear e62_3); (try clear e9_1); (try clear e9_2); (try clear e9_3); (try clear gt1b); (try clear gt4b); (try clear gt7b); (try clear ut1b); (try clear ut4b); (try clear ut7b); simp only [bkOk, headB, gv]; grind))]; rfl), hw.fr _ (.head _)⟩
              · (try (have qh43 := h43; norm_cast at qh43))
                refine c_skip ?_; refine b_on (?_)
                exact k_mid ⟨rfl, rfl, (congrArg Value.bool (by (try clear hw); (try clear hm); (try clear hds); (try clear hss); (try clear hcb); (try clear hp); (try clear hW); (try clear hj); (try clear hA); (try clear hE); (try clear hsz); (try clear hlo); (try clear hup); (try clear hini); (try clear e10_1); (try clear e10_2); (try clear e10_3); (try clear e3_2); (try clear e3_3); (try clear e4_2); (try clear e5_2); (try clear e5_3); (try clear e60_3); (try clear e61_3); (try clear e62_3); (try clear e9_1); (try clear e9_2); (try clear e9_3); (try clear gt1b); (try clear gt4b); (try clear gt7b); (try clear ut1b); (try clear ut4b); (try clear ut7b); simp only [gv]; grind)), e9_1, e10_1, rfl, rfl, by (try clear hw); (try clear hm); (try clear hds); (try clear hss); (try clear hcb); (try clear hp); (try clear hW); (try clear hj); (try clear hA); (try clear hE); (try clear hsz); (try clear hlo); (try clear hup); (try clear hini); (try clear e10_1); (try clear e10_2); (try clear e10_3); (try clear e3_2); (try clear e3_3); (try clear e4_2); (try clear e5_2); (try clear e5_3); (try clear e60_3); (try clear e61_3); (try clear e62_3); (try clear e9_1); (try clear e9_2); (try clear e9_3); (try clear gt1b); (try clear gt4b); (try clear gt7b); (try clear ut1b); (try clear ut4b); (try clear ut7b); simp only [headB, gv]; grind⟩
      rintro e B L ⟨e3_4, e4_4, e5_4, e9_4, e10_4, rfl, rfl, hd⟩
      refine c_seq ?_; refine c_region ?_; refine w_fa fa37_1 e4_4 ?_; refine w_load z34 rfl (fun _ h => cel_own 0 rfl rfl h) ?_; refine w_r (fun _ => R_len sl34 rfl) rfl rfl ?_
      refine w_move (v := .int _ _) rfl ?_; refine w_nil ?_; refine k_on ?_; refine c_block ?_
      refine c_loop (fun m e B L => ∃ (k : Nat), e 3 = .int .i64 (i : Nat) ∧ e 5 = .bool (gv i) ∧ e 9 = .agg cs.toArray ∧ e 10 = .int .i64 (i : Nat) ∧ e 60 = .slice da b.decls.length dc ∧ e 61 = .int .i64 (b.decls.length : Nat) ∧ e 62 = .int .i64 (k : Nat) ∧ B = [(w, No)] ∧ L = [(t4b, cel [.bool b.is, .slice da b.decls.length dc, .slice sa b.stmts.length sc] 37), (t1b, cel cs 40)] ∧ k ≤ b.decls.length ∧ (∀ y ∈ b.decls.take k, (!dgood i y) = false) ∧ m = b.decls.length - k) _ ⟨0, e3_4, e5_4, e9_4, e10_4, rfl, rfl, rfl, rfl, rfl, Nat.zero_le _, (by simp), rfl⟩ ?_
      rintro m e B L ⟨k, e3_5, e5_5, e9_5, e10_5, e60_5, e61_5, e62_5, rfl, rfl, hk, hy, rfl⟩
      refine c_seq ?_; refine c_region ?_; refine w_r (fun _ => R_lt e62_5 e61_5) rfl rfl ?_; refine w_nil ?_; refine k_on ?_; refine c_seq ?_
      refine c_condD rfl (fun h44 => ?_) (fun h44 => ?_)
      · (try (have qh44 := h44; norm_cast at qh44))
        have hlt : k < b.decls.length := (by omega); obtain ⟨x, hxk⟩ : ∃ x, b.decls[k]? = some x := ⟨_, List.getElem?_eq_getElem hlt⟩; obtain ⟨cs2, hA, hE⟩ := hds k x hxk; have hxn := dcsW_mem (List.mem_of_getElem? hxk); obtain ⟨b1, o1, rfl⟩ := hA.ptr; have hE2 := hE; obtain ⟨ty, at_, nm, sz, lo, up, ini⟩ := x; unfold dcM at hE2; obtain ⟨xa, xc, la, lc, ua, uc, ia, ic, hcs, hsz, hlo, hup, hini⟩ := hE2; simp only [] at hcs; subst hcs
        refine c_skip ?_; refine k_on ?_; refine c_seq ?_; refine c_block ?_; refine c_seq ?_; refine c_region ?_; refine w_r (fun _ => R_iaN (i := k) sl34 e60_5 e62_5 (by first | omega | decide)) rfl rfl ?_
        refine w_loadC (l := [.int .u8 (ty : Nat), .int .i64 at_, str nm, .slice xa sz.length xc, .slice la lo.length lc, .slice ua up.length uc, .slice ia ini.length ic]) z52 rfl rfl (fun w h j v hj => hA.cell (fun _ _ hh => hh) (.head _) h j v hj) ?_
        refine w_alloc zr52 (fun t7b gt7b ut7b => ?_)
        refine w_store 0 rfl z52 rfl rfl rfl rfl rfl rfl rfl ?_; refine w_nil ?_; refine k_on ?_; refine c_seq ?_; refine c_region ?_; refine w_loadA z52 rfl (fun _ h => h.at_ 0 rfl) rfl ?_
        refine w_call (fun w => R_call Tryz.func41 rfl rfl rfl) rfl rfl (fun w h => decl_spec _ _ N w (by omega) (hE.now (fun _ _ hh => hh) (.head _) h) (hW.now (.head _) h)) ?_
        refine w_r (fun _ => R_not rfl) rfl rfl ?_; refine w_move (v := .bool _) rfl ?_
        refine w_split (t := 69) rfl (fun h46 => ?_) (fun h46 => ?_)
        · (try (have qh46 := h46; norm_cast at qh46))
          refine w_skip rfl rfl (bV h46) ?_; refine w_skip rfl rfl (bV h46) ?_; refine w_skipU rfl rfl rfl ?_; refine w_skipU rfl rfl rfl ?_
          refine w_skipU rfl rfl rfl ?_; refine w_skipU rfl rfl rfl ?_; refine w_skip rfl rfl (bV h46) ?_; refine w_r (v := .bool _) (fun _ => R_pickT (bV h46) rfl) rfl rfl ?_
          refine w_nil ?_; refine k_on ?_; refine c_condT rfl ?_; refine c_seq ?_; refine c_region ?_; refine w_asg (v := .int _ _) rfl ?_; refine w_nil ?_; refine k_on ?_; refine c_ret ?_
          refine b_ret (k_ret (k_ret (b_ret (b_ret (k_ret (k_ret (b_ret (k_ret (?_)))))))))
          refine r_one (v := .int _ _) rfl rfl rfl ?_
          exact fun w' hw => ⟨by first | (rw [pgOk_yes hm.six (fun j b h => hj j b (by omega))]; rfl) | (rw [pgOk_no hi6 hb (by first | (unfold bkOk; rw [all_no hxk (by (try clear hw); (try clear hm); (try clear hds); (try clear hss); (try clear hcb); (try clear hp); (try clear hW); (try clear hj); (try clear hA); (try clear hE); (try clear hsz); (try clear hlo); (try clear hup); (try clear hini); (try clear e10_1); (try clear e10_2); (try clear e10_3); (try clear e10_4); (try clear e10_5); (try clear e3_2); (try clear e3_3); (try clear e3_4); (try clear e3_5); (try clear e4_2); (try clear e4_4); (try clear e5_2); (try clear e5_3); (try clear e5_4); (try clear e5_5); (try clear e60_3); (try clear e60_5); (try clear e61_3); (try clear e61_5); (try clear e62_3); (try clear e62_5); (try clear e9_1); (try clear e9_2); (try clear e9_3); (try clear e9_4); (try clear e9_5); (try clear gt1b); (try clear gt4b); (try clear gt7b); (try clear ut1b); (try clear ut4b); (try clear ut7b); simp only [dgood]; grind)]; simp; done) | ((try clear hw); (try clear hm); (try clear hds); (try clear hss); (try clear hcb); (try clear hp); (try clear hW); (try clear hj); (try clear hA); (try clear hE); (try clear hsz); (try clear hlo); (try clear hup); (try clear hini); (try clear e10_1); (try clear e10_2); (try clear e10_3); (try clear e10_4); (try clear e10_5); (try clear e3_2); (try clear e3_3); (try clear e3_4); (try clear e3_5); (try clear e4_2); (try clear e4_4); (try clear e5_2); (try clear e5_3); (try clear e5_4); (try clear e5_5); (try clear e60_3); (try clear e60_5); (try clear e61_3); (try clear e61_5); (try clear e62_3); (try clear e62_5); (try clear e9_1); (try clear e9_2); (try clear e9_3); (try clear e9_4); (try clear e9_5); (try clear gt1b); (try clear gt4b); (try clear gt7b); (try clear ut1b); (try clear ut4b); (try clear ut7b); simp only [bkOk, headB, gv]; grind))]; rfl), hw.fr _ (.head _)⟩
        · (try (have qh46 := h46; norm_cast at qh46))
          refine w_want rfl rfl (bV h46) ?_; refine w_move (v := .bool _) e5_5 ?_; refine w_want rfl rfl (bV h46) ?_; refine w_move (v := .bool _) rfl ?_
          refine w_split (t := 71) rfl (fun h47 => ?_) (fun h47 => ?_)
          · (try (have qh47 := h47; norm_cast at qh47))
            refine w_want rfl rfl (bV h47) ?_; refine w_fa fa52_6 rfl ?_; refine w_want rfl rfl (bV h47) ?_; refine w_load z22 rfl (fun _ h => cel_own 0 rfl rfl h) ?_
            refine w_want rfl rfl (bV h47) ?_; refine w_r (fun _ => R_len sl22 rfl) rfl rfl ?_; refine w_want rfl rfl (bV h47) ?_; refine w_r (fun _ => R_gt rfl rfl) rfl rfl ?_
            refine w_want rfl rfl (bV h46) ?_; refine w_r (v := .bool _) (fun _ => R_pickT (bV h47) rfl) rfl rfl ?_; refine w_r (v := .bool _) (fun _ => R_pickF (bV h46) rfl) rfl rfl ?_
            refine w_nil ?_; refine k_on ?_
            refine c_condD rfl (fun h48 => ?_) (fun h48 => ?_)
            · (try (have qh48 := h48; norm_cast at qh48))
              refine c_seq ?_; refine c_region ?_; refine w_asg (v := .int _ _) rfl ?_; refine w_nil ?_; refine k_on ?_; refine c_ret ?_; refine b_ret (k_ret (k_ret (b_ret (b_ret (k_ret (k_ret (b_ret (k_ret (?_)))))))))
              refine r_one (v := .int _ _) rfl rfl rfl ?_
              exact fun w' hw => ⟨by first | (rw [pgOk_yes hm.six (fun j b h => hj j b (by omega))]; rfl) | (rw [pgOk_no hi6 hb (by first | (unfold bkOk; rw [all_no hxk (by (try clear hw); (try clear hm); (try clear hds); (try clear hss); (try clear hcb); (try clear hp); (try clear hW); (try clear hj); (try clear hA); (try clear hE); (try clear hsz); (try clear hlo); (try clear hup); (try clear hini); (try clear e10_1); (try clear e10_2); (try clear e10_3); (try clear e10_4); (try clear e10_5); (try clear e3_2); (try clear e3_3); (try clear e3_4); (try clear e3_5); (try clear e4_2); (try clear e4_4); (try clear e5_2); (try clear e5_3); (try clear e5_4); (try clear e5_5); (try clear e60_3); (try clear e60_5); (try clear e61_3); (try clear e61_5); (try clear e62_3); (try clear e62_5); (try clear e9_1); (try clear e9_2); (try clear e9_3); (try clear e9_4); (try clear e9_5); (try clear gt1b); (try clear gt4b); (try clear gt7b); (try clear ut1b); (try clear ut4b); (try clear ut7b); simp only [dgood]; grind)]; simp; done) | ((try clear hw); (try clear hm); (try clear hds); (try clear hss); (try clear hcb); (try clear hp); (try clear hW); (try clear hj); (try clear hA); (try clear hE); (try clear hsz); (try clear hlo); (try clear hup); (try clear hini); (try clear e10_1); (try clear e10_2); (try clear e10_3); (try clear e10_4); (try clear e10_5); (try clear e3_2); (try clear e3_3); (try clear e3_4); (try clear e3_5); (try clear e4_2); (try clear e4_4); (try clear e5_2); (try clear e5_3); (try clear e5_4); (try clear e5_5); (try clear e60_3); (try clear e60_5); (try clear e61_3); (try clear e61_5); (try clear e62_3); (try clear e62_5); (try clear e9_1); (try clear e9_2); (try clear e9_3); (try clear e9_4); (try clear e9_5); (try clear gt1b); (try clear gt4b); (try clear gt7b); (try clear ut1b); (try clear ut4b); (try clear ut7b); simp only [bkOk, headB, gv]; grind))]; rfl), hw.fr _ (.head _)⟩
            · (try (have qh48 := h48; norm_cast at qh48))
              refine c_skip ?_; refine b_on (k_on ?_); refine c_region ?_; refine w_r (fun _ => R_addi e62_5 rfl (by omega)) rfl rfl ?_; refine w_move (v := .int _ _) rfl ?_
              refine w_nil ?_
              refine k_st (B' := [(w, No)]) (L' := _) (fun w h => h.drop (List.sublist_cons_self _ _)) ?_
              exact k_again _ (by omega) ⟨k + 1, e3_5, e5_5, e9_5, e10_5, e60_5, e61_5, rfl, rfl, rfl, by omega, take_all hy hxk (by (try clear hw); (try clear hm); (try clear hds); (try clear hss); (try clear hcb); (try clear hp); (try clear hW); (try clear hj); (try clear hA); (try clear hE); (try clear hsz); (try clear hlo); (try clear hup); (try clear hini); (try clear e10_1); (try clear e10_2); (try clear e10_3); (try clear e10_4); (try clear e10_5); (try clear e3_2); (try clear e3_3); (try clear e3_4); (try clear e3_5); (try clear e4_2); (try clear e4_4); (try clear e5_2); (try clear e5_3); (try clear e5_4); (try clear e5_5); (try clear e60_3); (try clear e60_5); (try clear e61_3); (try clear e61_5); (try clear e62_3); (try clear e62_5); (try clear e9_1); (try clear e9_2); (try clear e9_3); (try clear e9_4); (try clear e9_5); (try clear gt1b); (try clear gt4b); (try clear gt7b); (try clear ut1b); (try clear ut4b); (try clear ut7b); simp only [dgood]; grind), rfl⟩
          · (try (have qh47 := h47; norm_cast at qh47))
            refine w_skip rfl rfl (bV h47) ?_; refine w_skip rfl rfl (bV h47) ?_; refine w_skip rfl rfl (bV h47) ?_; refine w_skip rfl rfl (bV h47) ?_
            refine w_want rfl rfl (bV h46) ?_; refine w_r (v := .bool _) (fun _ => R_pickF (bV h47) rfl) rfl rfl ?_; refine w_r (v := .bool _) (fun _ => R_pickF (bV h46) rfl) rfl rfl ?_
            refine w_nil ?_; refine k_on ?_; refine c_condF rfl ?_; refine c_skip ?_; refine b_on (k_on ?_); refine c_region ?_; refine w_r (fun _ => R_addi e62_5 rfl (by omega)) rfl rfl ?_
            refine w_move (v := .int _ _) rfl ?_; refine w_nil ?_
            refine k_st (B' := [(w, No)]) (L' := _) (fun w h => h.drop (List.sublist_cons_self _ _)) ?_
            exact k_again _ (by omega) ⟨k + 1, e3_5, e5_5, e9_5, e10_5, e60_5, e61_5, rfl, rfl, rfl, by omega, take_all hy hxk (by (try clear hw); (try clear hm); (try clear hds); (try clear hss); (try clear hcb); (try clear hp); (try clear hW); (try clear hj); (try clear hA); (try clear hE); (try clear hsz); (try clear hlo); (try clear hup); (try clear hini); (try clear e10_1); (try clear e10_2); (try clear e10_3); (try clear e10_4); (try clear e10_5); (try clear e3_2); (try clear e3_3); (try clear e3_4); (try clear e3_5); (try clear e4_2); (try clear e4_4); (try clear e5_2); (try clear e5_3); (try clear e5_4); (try clear e5_5); (try clear e60_3); (try clear e60_5); (try clear e61_3); (try clear e61_5); (try clear e62_3); (try clear e62_5); (try clear e9_1); (try clear e9_2); (try clear e9_3); (try clear e9_4); (try clear e9_5); (try clear gt1b); (try clear gt4b); (try clear gt7b); (try clear ut1b); (try clear ut4b); (try clear ut7b); simp only [dgood]; grind), rfl⟩
      · (try (have qh44 := h44; norm_cast at qh44))
        have hall : b.decls.all (dgood i) = true := all_of_take hy (by omega)
        refine c_exit ?_; refine k_exit (k_exit (b_here rfl (b_on (k_on ?_)))); refine c_region ?_; refine w_r (fun _ => R_addi e10_5 rfl (by omega)) rfl rfl ?_; refine w_move (v := .int _ _) rfl ?_
        refine w_nil ?_
        refine k_st (B' := [(w, No)]) (L' := [(t1b, cel cs 40)]) (fun w h => h.drop (List.sublist_cons_self _ _)) ?_
        exact k_again _ (by omega) ⟨i + 1, e9_5, rfl, rfl, rfl, by omega, bk_next hj hb (by unfold bkOk; rw [hd, hall]; rfl), rfl⟩
  · (try (have qh2 := h2; norm_cast at qh2))
    refine c_exit ?_; refine k_exit (k_exit (b_here rfl (k_on ?_))); refine c_seq ?_; refine c_region ?_; refine w_asg (v := .int _ _) rfl ?_; refine w_nil ?_; refine k_on ?_
    refine c_ret ?_
    refine r_one (v := .int _ _) rfl rfl rfl ?_
    exact fun w' hw => ⟨by first | (rw [pgOk_yes hm.six (fun j b h => hj j b (by omega))]; rfl) | (rw [pgOk_no hi6 hb (by first | (unfold bkOk; rw [all_no hxk (by (try clear hw); (try clear hm); (try clear hds); (try clear hss); (try clear hcb); (try clear hp); (try clear hW); (try clear hj); (try clear hA); (try clear hE); (try clear hsz); (try clear hlo); (try clear hup); (try clear hini); (try clear e10_1); (try clear e10_2); (try clear e10_3); (try clear e10_4); (try clear e10_5); (try clear e3_2); (try clear e3_3); (try clear e3_4); (try clear e3_5); (try clear e4_2); (try clear e4_4); (try clear e5_2); (try clear e5_3); (try clear e5_4); (try clear e5_5); (try clear e60_3); (try clear e60_5); (try clear e61_3); (try clear e61_5); (try clear e62_3); (try clear e62_5); (try clear e9_1); (try clear e9_2); (try clear e9_3); (try clear e9_4); (try clear e9_5); (try clear gt1b); (try clear gt4b); (try clear gt7b); (try clear ut1b); (try clear ut4b); (try clear ut7b); simp only [dgood]; grind)]; simp; done) | ((try clear hw); (try clear hm); (try clear hds); (try clear hss); (try clear hcb); (try clear hp); (try clear hW); (try clear hj); (try clear hA); (try clear hE); (try clear hsz); (try clear hlo); (try clear hup); (try clear hini); (try clear e10_1); (try clear e10_2); (try clear e10_3); (try clear e10_4); (try clear e10_5); (try clear e3_2); (try clear e3_3); (try clear e3_4); (try clear e3_5); (try clear e4_2); (try clear e4_4); (try clear e5_2); (try clear e5_3); (try clear e5_4); (try clear e5_5); (try clear e60_3); (try clear e60_5); (try clear e61_3); (try clear e61_5); (try clear e62_3); (try clear e62_5); (try clear e9_1); (try clear e9_2); (try clear e9_3); (try clear e9_4); (try clear e9_5); (try clear gt1b); (try clear gt4b); (try clear gt7b); (try clear ut1b); (try clear ut4b); (try clear ut7b); simp only [bkOk, headB, gv]; grind))]; rfl), hw.fr _ (.head _)⟩
end Go.Proofs.YtcmcdgkjipnfnaaGreatDoor
end
