import Derived.Test.YtmcajoiembfjiaaDoorTok2T
import Derived.Test.YtmcajoiembfjiaaDoorTok
import Derived.Test.YtmcajoiembfjiaaDoorTokL
namespace Go.Proofs.YtmcajoiembfjiaaDoor
open Go.RowKit Go.Sx
open Go.Tok
variable {σ : Type}
/-- what a round over the tokens does, for whoever calls yield: the caller's own blocks are Lc, told by J -/
def Rounds (J : Bool → σ → Heap → Prop) (nx : σ → Nat → List UInt8 → Nat → Bool → σ × Bool) (l : Nat) : Prop :=
  ∀ (x : σ) (k : Nat) (t : List UInt8) (a : Nat) (b : Bool) (Lc Lr : Heap) (B : Base) (w : World), t.length ≤ 100000 → J true x Lc → St B (Lc ++ Lr) w →
    YieldAt (fw none) 0 Tryd.prog l #[.agg #[.int .u8 (k : Nat), str t, .int .i64 (a : Nat)], .bool b] w (fun en w' => ∃ v, en = .returned v ∧ ∃ Lc', v = .bool (nx x k t a b).2 ∧ J (nx x k t a b).2 (nx x k t a b).1 Lc' ∧ St B (Lc' ++ Lr) w')

set_option maxRecDepth 100000 in
set_option maxHeartbeats 400000 in
theorem all1_spec (J : Bool → σ → Heap → Prop) (nx : σ → Nat → List UInt8 → Nat → Bool → σ × Bool) (hn : ∀ x k t a, (nx x k t a false).2 = false) (l p vb : Nat) (s : List UInt8) (hs : s.length ≤ 100000) (hy : Rounds J nx l) (wb : World) (Sb : Nat → Prop) (ht : Tb wb) (hgl : ¬ Sb 1) (hg : 1 < p) (x0 : σ) (Lc0 Lr : Heap) (Bs : Base) (hB : (wb, Sb) ∈ Bs) (hJ0 : J true x0 Lc0) (w : World) (hw : St Bs ((vb, cel [.pointer (some ⟨p, 0, none⟩)] 40) :: (p, cel [str s, .int .i64 (0 : Nat)] 42) :: (Lc0 ++ Lr)) w) :
    Ret Tryd.prog 22 #[.func (.yield l) #[] #[], .pointer (some ⟨vb, 0, none⟩)] w (fun v w' => v = .tuple #[] ∧ ∃ (j : Nat) (g : Bool) (Lc' : Heap), J g (lexS nx s (skipTo s 0) x0) Lc' ∧ St Bs ((vb, cel [.pointer (some ⟨p, 0, none⟩)] 40) :: (p, cel [str s, .int .i64 (j : Nat)] 42) :: (Lc' ++ Lr)) w') := by
  have g0 := skipTo_le (s := s) (Nat.zero_le _)
  refine enterB (l := [_, _]) 67 Tryd.func22 rfl rfl rfl (hw) ?_
  refine c_seq ?_; refine c_region ?_; refine w_r (fun _ => R_buildA ar53 zr53 rfl) rfl rfl ?_
  refine w_alloc zr53 (fun b1 gb1 ub1 => ?_)
  refine w_store 0 rfl z53 rfl rfl rfl rfl rfl rfl rfl ?_; refine w_nil ?_; refine k_on ?_; refine c_seq ?_; refine c_region ?_; refine w_load z40 rfl (fun _ h => cel_own 1 rfl rfl h) ?_
  refine w_call1 2 rfl (fun w => R_call Tryd.func26 rfl rfl rfl) rfl rfl (fun w h => skip_spec p s _ w (h.at_ 2 rfl) hs (Nat.zero_le _)) ?_
  refine w_nil ?_; refine k_on ?_; refine c_block ?_
  refine c_loop (fun m e B L => ∃ (k : Nat) (x : σ) (Lc : Heap), e 0 = .func (.yield l) #[] #[] ∧ e 1 = .pointer (some ⟨vb, 0, none⟩) ∧ e 3 = .pointer (some ⟨b1, 0, none⟩) ∧ Bs = B ∧ L = (b1, cel [.func (.func 23) #[] #[], .func (.func 24) #[] #[], .func (.func 25) #[] #[]] 53) :: (vb, cel [.pointer (some ⟨p, 0, none⟩)] 40) :: (p, cel [str s, .int .i64 (k : Nat)] 42) :: (Lc ++ Lr) ∧ k ≤ s.length ∧ J true x Lc ∧ lexS nx s k x = lexS nx s (skipTo s 0) x0 ∧ m = s.length - k) _ ⟨skipTo s 0, x0, Lc0, rfl, rfl, rfl, rfl, rfl, g0.1, hJ0, rfl, rfl⟩ ?_
  rintro m e B L ⟨k, x, Lc, e0_1, e1_1, e3_1, rfl, rfl, hk, hJ, hl, rfl⟩
  have g2 := tok_le hk
  refine c_seq ?_; refine c_seq ?_; refine c_draw mixed (by kernel_rfl) ?_; refine w_load z40 e1_1 (fun _ h => cel_own 1 rfl rfl h) ?_; refine w_nilc rfl ?_; refine w_fa fa42_1 rfl ?_
  refine w_load z3 rfl (fun _ h => cel_own 2 rfl rfl h) ?_; refine w_load z40 e1_1 (fun _ h => cel_own 1 rfl rfl h) ?_; refine w_nilc rfl ?_; refine w_fa fa42_0 rfl ?_
  refine w_load z9 rfl (fun _ h => cel_own 2 rfl rfl h) ?_; refine w_r (fun _ => R_slen st9 rfl (by omega)) rfl rfl ?_; refine w_r (fun _ => R_lt rfl rfl) rfl rfl ?_
  refine w_nil ?_; refine k_on ?_
  refine c_condD rfl (fun h2 => ?_) (fun h2 => ?_)
  · have hlt : k < s.length := by omega
    refine c_skip ?_; refine k_on ?_; refine c_seq ?_; refine c_block ?_; refine c_seq ?_; refine c_region ?_; refine w_load z40 e1_1 (fun _ h => cel_own 1 rfl rfl h) ?_
    refine w_nilc rfl ?_; refine w_fa fa42_1 rfl ?_; refine w_load z3 rfl (fun _ h => cel_own 2 rfl rfl h) ?_; refine w_r (fun _ => R_build bt35 rfl) rfl rfl ?_
    refine w_alloc zr35 (fun t4b gt4b ut4b => ?_)
    refine w_store 0 rfl z35 rfl rfl rfl rfl rfl rfl rfl ?_; refine w_nil ?_; refine k_on ?_; refine c_seq ?_; refine c_region ?_; refine w_asg (v := .bool _) rfl ?_
    refine w_nil ?_; refine k_on ?_
    refine c_cut (fun e B L => e 0 = .func (.yield l) #[] #[] ∧ e 1 = .pointer (some ⟨vb, 0, none⟩) ∧ e 3 = .pointer (some ⟨b1, 0, none⟩) ∧ e 4 = .pointer (some ⟨t4b, 0, none⟩) ∧ e 5 = .bool (tokAt s k).2.2 ∧ Bs = B ∧ L = (t4b, cel [.int .u8 ((tokAt s k).1 : Nat), str ([]), .int .i64 (k : Nat)] 35) :: (b1, cel [.func (.func 23) #[] #[], .func (.func 24) #[] #[], .func (.func 25) #[] #[]] 53) :: (vb, cel [.pointer (some ⟨p, 0, none⟩)] 40) :: (p, cel [str s, .int .i64 ((tokAt s k).2.1 : Nat)] 42) :: (Lc ++ Lr)) ?_ ?_
    · refine c_seq ?_; refine c_region ?_; refine w_loadA z53 e3_1 (fun _ h => h.at_ 1 rfl) rfl ?_; refine w_move (v := .int _ _) rfl ?_; refine w_nil ?_; refine k_on ?_
      refine c_block ?_
      refine c_rounds 4 ?_
      refine c_seq ?_; refine c_region ?_; refine w_r (fun _ => R_lt rfl rfl) rfl rfl ?_; refine w_nil ?_; refine k_on ?_; refine c_seq ?_; refine c_condT (congrArg Value.bool (decide_eq_true (by decide))) ?_
      refine c_skip ?_; refine k_on ?_; refine c_seq ?_; refine c_block ?_; refine c_seq ?_; refine c_region ?_; refine w_r (fun _ => R_aidx (i := 0) ar53 rfl rfl rfl rfl) rfl rfl ?_
      refine w_asg rfl ?_; refine w_nil ?_; refine k_on ?_; refine c_seq ?_; refine c_region ?_; refine w_move rfl ?_; refine w_load z40 e1_1 (fun _ h => cel_own 2 rfl rfl h) ?_
      cases hN : nameB s k
      · refine w_call1 3 rfl (fun w => R_callv rfl Tryd.func23 rfl rfl) rfl rfl (fun w h => by have hh := name_spec p s _ w (h.at_ 3 rfl) hs (by omega); simp only [hN, Bool.false_eq_true, if_false, if_true, ↓reduceIte, decide_true, decide_false, Bool.not_true, Bool.not_false, Nat.add_zero] at hh; exact hh) ?_
        refine w_move rfl ?_; refine w_r (fun _ => R_extract rfl rfl) rfl rfl ?_; refine w_r (fun _ => R_extract rfl rfl) rfl rfl ?_; refine w_fa fa35_0 rfl ?_; refine w_store 0 rfl z5 rfl rfl rfl rfl rfl rfl rfl ?_
        refine w_asg (v := .bool _) rfl ?_; refine w_nil ?_; refine k_on ?_; refine c_seq ?_; refine c_draw mixed (by kernel_rfl) ?_; refine w_move (v := .bool _) rfl ?_
        refine w_move (v := .bool _) rfl ?_; refine w_want rfl rfl rfl ?_; refine w_load z40 e1_1 (fun _ h => cel_own 2 rfl rfl h) ?_; refine w_want rfl rfl rfl ?_; refine w_nilc rfl ?_
        refine w_want rfl rfl rfl ?_; refine w_fa fa42_1 rfl ?_; refine w_want rfl rfl rfl ?_; refine w_load z3 rfl (fun _ h => cel_own 3 rfl rfl h) ?_; refine w_want rfl rfl rfl ?_
        refine w_fa fa35_2 rfl ?_; refine w_want rfl rfl rfl ?_; refine w_load z3 rfl (fun _ h => cel_own 0 rfl rfl h) ?_; refine w_want rfl rfl rfl ?_; refine w_r (fun _ => R_gt rfl rfl) rfl rfl ?_
        refine w_r (v := .bool _) (fun _ => R_pickF rfl rfl) rfl rfl ?_; refine w_nil ?_; refine k_on ?_
        refine c_condD rfl (fun h4 => ?_) (fun h4 => ?_)
        · omega
        · refine c_skip ?_; refine b_on (k_on ?_); refine c_region ?_; refine w_r (fun _ => R_addi rfl rfl (by omega)) rfl rfl ?_; refine w_move (v := .int _ _) rfl ?_; refine w_nil ?_
          refine k_rounds ?_; refine c_seq ?_; refine c_region ?_; refine w_r (fun _ => R_lt rfl rfl) rfl rfl ?_; refine w_nil ?_; refine k_on ?_; refine c_seq ?_; refine c_condT (congrArg Value.bool (decide_eq_true (by decide))) ?_
          refine c_skip ?_; refine k_on ?_; refine c_seq ?_; refine c_block ?_; refine c_seq ?_; refine c_region ?_; refine w_r (fun _ => R_aidx (i := 1) ar53 rfl rfl rfl rfl) rfl rfl ?_
          refine w_asg rfl ?_; refine w_nil ?_; refine k_on ?_; refine c_seq ?_; refine c_region ?_; refine w_move rfl ?_; refine w_load z40 e1_1 (fun _ h => cel_own 2 rfl rfl h) ?_
          cases hD : atP digitB s k
          · refine w_call1 3 rfl (fun w => R_callv rfl Tryd.func24 rfl rfl) rfl rfl (fun w h => by have hh := number_spec p s _ w (h.at_ 3 rfl) hs (by omega); simp only [hD, Bool.false_eq_true, if_false, if_true, ↓reduceIte, decide_true, decide_false, Bool.not_true, Bool.not_false, Nat.add_zero] at hh; exact hh) ?_
            refine w_move rfl ?_; refine w_r (fun _ => R_extract rfl rfl) rfl rfl ?_; refine w_r (fun _ => R_extract rfl rfl) rfl rfl ?_; refine w_fa fa35_0 rfl ?_; refine w_store 0 rfl z5 rfl rfl rfl rfl rfl rfl rfl ?_
            refine w_asg (v := .bool _) rfl ?_; refine w_nil ?_; refine k_on ?_; refine c_seq ?_; refine c_draw mixed (by kernel_rfl) ?_; refine w_move (v := .bool _) rfl ?_
            refine w_move (v := .bool _) rfl ?_; refine w_want rfl rfl rfl ?_; refine w_load z40 e1_1 (fun _ h => cel_own 2 rfl rfl h) ?_; refine w_want rfl rfl rfl ?_; refine w_nilc rfl ?_
            refine w_want rfl rfl rfl ?_; refine w_fa fa42_1 rfl ?_; refine w_want rfl rfl rfl ?_; refine w_load z3 rfl (fun _ h => cel_own 3 rfl rfl h) ?_; refine w_want rfl rfl rfl ?_
            refine w_fa fa35_2 rfl ?_; refine w_want rfl rfl rfl ?_; refine w_load z3 rfl (fun _ h => cel_own 0 rfl rfl h) ?_; refine w_want rfl rfl rfl ?_; refine w_r (fun _ => R_gt rfl rfl) rfl rfl ?_
            refine w_r (v := .bool _) (fun _ => R_pickF rfl rfl) rfl rfl ?_; refine w_nil ?_; refine k_on ?_
            refine c_condD rfl (fun h5 => ?_) (fun h5 => ?_)
            · omega
            · refine c_skip ?_; refine b_on (k_on ?_); refine c_region ?_; refine w_r (fun _ => R_addi rfl rfl (by omega)) rfl rfl ?_; refine w_move (v := .int _ _) rfl ?_; refine w_nil ?_
              refine k_rounds ?_; refine c_seq ?_; refine c_region ?_; refine w_r (fun _ => R_lt rfl rfl) rfl rfl ?_; refine w_nil ?_; refine k_on ?_; refine c_seq ?_; refine c_condT (congrArg Value.bool (decide_eq_true (by decide))) ?_
              refine c_skip ?_; refine k_on ?_; refine c_seq ?_; refine c_block ?_; refine c_seq ?_; refine c_region ?_; refine w_r (fun _ => R_aidx (i := 2) ar53 rfl rfl rfl rfl) rfl rfl ?_
              refine w_asg rfl ?_; refine w_nil ?_; refine k_on ?_; refine c_seq ?_; refine c_region ?_; refine w_move rfl ?_; refine w_load z40 e1_1 (fun _ h => cel_own 2 rfl rfl h) ?_
              rcases Classical.em (signLen s k = 0) with hS | hS
              · refine w_call1 3 rfl (fun w => R_callv rfl Tryd.func25 rfl rfl) rfl rfl (fun w h => by have hh := sign_spec p s _ w (h.at_ 3 rfl) hs (by omega) (ht.fr (h.fr _ hB) hgl) hg; simp only [hS, Bool.false_eq_true, if_false, if_true, ↓reduceIte, decide_true, decide_false, Bool.not_true, Bool.not_false, Nat.add_zero] at hh; exact hh) ?_
                refine w_move rfl ?_; refine w_r (fun _ => R_extract rfl rfl) rfl rfl ?_; refine w_r (fun _ => R_extract rfl rfl) rfl rfl ?_; refine w_fa fa35_0 rfl ?_; refine w_store 0 rfl z5 rfl rfl rfl rfl rfl rfl rfl ?_
                refine w_asg (v := .bool _) rfl ?_; refine w_nil ?_; refine k_on ?_; refine c_seq ?_; refine c_draw mixed (by kernel_rfl) ?_; refine w_move (v := .bool _) rfl ?_
                refine w_move (v := .bool _) rfl ?_; refine w_want rfl rfl rfl ?_; refine w_load z40 e1_1 (fun _ h => cel_own 2 rfl rfl h) ?_; refine w_want rfl rfl rfl ?_; refine w_nilc rfl ?_
                refine w_want rfl rfl rfl ?_; refine w_fa fa42_1 rfl ?_; refine w_want rfl rfl rfl ?_; refine w_load z3 rfl (fun _ h => cel_own 3 rfl rfl h) ?_; refine w_want rfl rfl rfl ?_
                refine w_fa fa35_2 rfl ?_; refine w_want rfl rfl rfl ?_; refine w_load z3 rfl (fun _ h => cel_own 0 rfl rfl h) ?_; refine w_want rfl rfl rfl ?_; refine w_r (fun _ => R_gt rfl rfl) rfl rfl ?_
                refine w_r (v := .bool _) (fun _ => R_pickF rfl rfl) rfl rfl ?_; refine w_nil ?_; refine k_on ?_
                refine c_condD rfl (fun h6 => ?_) (fun h6 => ?_)
                · omega
                · refine c_skip ?_; refine b_on (k_on ?_); refine c_region ?_; refine w_r (fun _ => R_addi rfl rfl (by omega)) rfl rfl ?_; refine w_move (v := .int _ _) rfl ?_; refine w_nil ?_
                  refine k_rounds ?_; refine c_seq ?_; refine c_region ?_; refine w_r (fun _ => R_lt rfl rfl) rfl rfl ?_; refine w_nil ?_; refine k_on ?_; refine c_seq ?_; refine c_condF (congrArg Value.bool (decide_eq_false (by decide))) ?_
                  refine c_exit ?_; refine k_exit (k_exit (b_here rfl (?_)))
                  have e0 : tokAt s k = (0, k, false) := by rw [tokAt, if_neg (by rw [hN]; simp), if_neg (by rw [hD]; simp), if_pos hS]
                  exact k_mid ⟨e0_1, e1_1, e3_1, rfl, by rw [e0]; rfl, rfl, by rw [e0]; rfl⟩
              · refine w_call1 3 rfl (fun w => R_callv rfl Tryd.func25 rfl rfl) rfl rfl (fun w h => by have hh := sign_spec p s _ w (h.at_ 3 rfl) hs (by omega) (ht.fr (h.fr _ hB) hgl) hg; simp only [hS, Bool.false_eq_true, if_false, if_true, ↓reduceIte, decide_true, decide_false, Bool.not_true, Bool.not_false, Nat.add_zero] at hh; exact hh) ?_
                refine w_move rfl ?_; refine w_r (fun _ => R_extract rfl rfl) rfl rfl ?_; refine w_r (fun _ => R_extract rfl rfl) rfl rfl ?_; refine w_fa fa35_0 rfl ?_; refine w_store 0 rfl z5 rfl rfl rfl rfl rfl rfl rfl ?_
                refine w_asg (v := .bool _) rfl ?_; refine w_nil ?_; refine k_on ?_; refine c_seq ?_; refine c_draw mixed (by kernel_rfl) ?_; refine w_move (v := .bool _) rfl ?_
                refine w_move (v := .bool _) rfl ?_; refine w_skip rfl rfl rfl ?_; refine w_skip rfl rfl rfl ?_; refine w_skip rfl rfl rfl ?_; refine w_skip rfl rfl rfl ?_; refine w_skip rfl rfl rfl ?_
                refine w_skip rfl rfl rfl ?_; refine w_skip rfl rfl rfl ?_; refine w_r (v := .bool _) (fun _ => R_pickT rfl rfl) rfl rfl ?_; refine w_nil ?_; refine k_on ?_; refine c_condT rfl ?_
                refine c_exit ?_; refine b_past rfl (k_exit (k_exit (b_here rfl (?_))))
                have e0 : tokAt s k = (3, k + signLen s k, true) := by rw [tokAt, if_neg (by rw [hN]; simp), if_neg (by rw [hD]; simp), if_neg hS]
                exact k_mid ⟨e0_1, e1_1, e3_1, rfl, by rw [e0]; rfl, rfl, by rw [e0]; rfl⟩
          · refine w_call1 3 rfl (fun w => R_callv rfl Tryd.func24 rfl rfl) rfl rfl (fun w h => by have hh := number_spec p s _ w (h.at_ 3 rfl) hs (by omega); simp only [hD, Bool.false_eq_true, if_false, if_true, ↓reduceIte, decide_true, decide_false, Bool.not_true, Bool.not_false, Nat.add_zero] at hh; exact hh) ?_
            refine w_move rfl ?_; refine w_r (fun _ => R_extract rfl rfl) rfl rfl ?_; refine w_r (fun _ => R_extract rfl rfl) rfl rfl ?_; refine w_fa fa35_0 rfl ?_; refine w_store 0 rfl z5 rfl rfl rfl rfl rfl rfl rfl ?_
            refine w_asg (v := .bool _) rfl ?_; refine w_nil ?_; refine k_on ?_; refine c_seq ?_; refine c_draw mixed (by kernel_rfl) ?_; refine w_move (v := .bool _) rfl ?_
            refine w_move (v := .bool _) rfl ?_
            refine w_split (t := 40) rfl (fun h7 => ?_) (fun h7 => ?_)
            · refine w_skip rfl rfl (congrArg Value.bool h7) ?_; refine w_skip rfl rfl (congrArg Value.bool h7) ?_; refine w_skip rfl rfl (congrArg Value.bool h7) ?_; refine w_skip rfl rfl (congrArg Value.bool h7) ?_
              refine w_skip rfl rfl (congrArg Value.bool h7) ?_; refine w_skip rfl rfl (congrArg Value.bool h7) ?_; refine w_skip rfl rfl (congrArg Value.bool h7) ?_; refine w_r (v := .bool _) (fun _ => R_pickT (congrArg Value.bool h7) rfl) rfl rfl ?_
              refine w_nil ?_; refine k_on ?_; refine c_condT rfl ?_; refine c_exit ?_; refine b_past rfl (k_exit (k_exit (b_here rfl (?_))))
              have e0 : tokAt s k = (2, numEnd s k, true) := by rw [tokAt, if_neg (by rw [hN]; simp), if_pos hD, h7]
              exact k_mid ⟨e0_1, e1_1, e3_1, rfl, by rw [e0]; exact congrArg Value.bool h7, rfl, by rw [e0]; rfl⟩
            · refine w_want rfl rfl (congrArg Value.bool h7) ?_; refine w_load z40 e1_1 (fun _ h => cel_own 2 rfl rfl h) ?_; refine w_want rfl rfl (congrArg Value.bool h7) ?_
              refine w_nilc rfl ?_; refine w_want rfl rfl (congrArg Value.bool h7) ?_; refine w_fa fa42_1 rfl ?_; refine w_want rfl rfl (congrArg Value.bool h7) ?_; refine w_load z3 rfl (fun _ h => cel_own 3 rfl rfl h) ?_
              refine w_want rfl rfl (congrArg Value.bool h7) ?_; refine w_fa fa35_2 rfl ?_; refine w_want rfl rfl (congrArg Value.bool h7) ?_; refine w_load z3 rfl (fun _ h => cel_own 0 rfl rfl h) ?_
              refine w_want rfl rfl (congrArg Value.bool h7) ?_; refine w_r (fun _ => R_gt rfl rfl) rfl rfl ?_; refine w_r (v := .bool _) (fun _ => R_pickF (congrArg Value.bool h7) rfl) rfl rfl ?_
              refine w_nil ?_; refine k_on ?_
              refine c_condD rfl (fun h8 => ?_) (fun h8 => ?_)
              · refine c_exit ?_; refine b_past rfl (k_exit (k_exit (b_here rfl (?_))))
                have e0 : tokAt s k = (2, numEnd s k, false) := by rw [tokAt, if_neg (by rw [hN]; simp), if_pos hD, h7]
                exact k_mid ⟨e0_1, e1_1, e3_1, rfl, by rw [e0]; exact congrArg Value.bool h7, rfl, by rw [e0]; rfl⟩
              · exfalso; have := digit_run hD; have := numEnd_le hk; omega
      · refine w_call1 3 rfl (fun w => R_callv rfl Tryd.func23 rfl rfl) rfl rfl (fun w h => by have hh := name_spec p s _ w (h.at_ 3 rfl) hs (by omega); simp only [hN, Bool.false_eq_true, if_false, if_true, ↓reduceIte, decide_true, decide_false, Bool.not_true, Bool.not_false, Nat.add_zero] at hh; exact hh) ?_
        refine w_move rfl ?_; refine w_r (fun _ => R_extract rfl rfl) rfl rfl ?_; refine w_r (fun _ => R_extract rfl rfl) rfl rfl ?_; refine w_fa fa35_0 rfl ?_; refine w_store 0 rfl z5 rfl rfl rfl rfl rfl rfl rfl ?_
        refine w_asg (v := .bool _) rfl ?_; refine w_nil ?_; refine k_on ?_; refine c_seq ?_; refine c_draw mixed (by kernel_rfl) ?_; refine w_move (v := .bool _) rfl ?_
        refine w_move (v := .bool _) rfl ?_; refine w_skip rfl rfl rfl ?_; refine w_skip rfl rfl rfl ?_; refine w_skip rfl rfl rfl ?_; refine w_skip rfl rfl rfl ?_; refine w_skip rfl rfl rfl ?_
        refine w_skip rfl rfl rfl ?_; refine w_skip rfl rfl rfl ?_; refine w_r (v := .bool _) (fun _ => R_pickT rfl rfl) rfl rfl ?_; refine w_nil ?_; refine k_on ?_; refine c_condT rfl ?_
        refine c_exit ?_; refine b_past rfl (k_exit (k_exit (b_here rfl (?_))))
        have e0 : tokAt s k = (1, runTo wordB s k, true) := by rw [tokAt, if_pos hN]
        exact k_mid ⟨e0_1, e1_1, e3_1, rfl, by rw [e0]; rfl, rfl, by rw [e0]; rfl⟩
    rintro e B L ⟨e0_2, e1_2, e3_2, e4_2, e5_2, rfl, rfl⟩
    refine c_seq ?_; refine c_tail 12 mixed (by kernel_rfl) ?_; refine w_load z40 e1_2 (fun _ h => cel_own 2 rfl rfl h) ?_; refine w_nilc rfl ?_; refine w_fa fa42_0 rfl ?_
    refine w_load z9 rfl (fun _ h => cel_own 3 rfl rfl h) ?_; refine w_fa fa35_2 e4_2 ?_; refine w_load z3 rfl (fun _ h => cel_own 0 rfl rfl h) ?_; refine w_load z40 e1_2 (fun _ h => cel_own 2 rfl rfl h) ?_
    refine w_nilc rfl ?_; refine w_fa fa42_1 rfl ?_; refine w_load z3 rfl (fun _ h => cel_own 3 rfl rfl h) ?_; refine w_r (fun _ => R_sslN st9 rfl rfl rfl (by omega) (by omega)) rfl rfl ?_
    refine w_fa fa35_1 e4_2 ?_; refine w_tailst 0 rfl z9 rfl rfl rfl rfl rfl rfl rfl ?_; refine k_on ?_; refine c_seq ?_; refine c_region ?_; refine w_move e0_2 ?_; refine w_loadA z35 e4_2 (fun _ h => h.at_ 0 rfl) rfl ?_
    refine w_move (v := .bool _) e5_2 ?_
    refine w_yield rfl (fun w h => hy x (tokAt s k).1 (tokTx s k) k (tokAt s k).2.2 Lc ([(t4b, cel [.int .u8 ((tokAt s k).1 : Nat), str (tokTx s k), .int .i64 (k : Nat)] 35), (b1, cel [.func (.func 23) #[] #[], .func (.func 24) #[] #[], .func (.func 25) #[] #[]] 53), (vb, cel [.pointer (some ⟨p, 0, none⟩)] 40), (p, cel [str s, .int .i64 ((tokAt s k).2.1 : Nat)] 42)] ++ Lr) Bs w (tokTx_len s k hs) hJ (h.perm (perm_mid [(t4b, cel [.int .u8 ((tokAt s k).1 : Nat), str (tokTx s k), .int .i64 (k : Nat)] 35), (b1, cel [.func (.func 23) #[] #[], .func (.func 24) #[] #[], .func (.func 25) #[] #[]] 53), (vb, cel [.pointer (some ⟨p, 0, none⟩)] 40), (p, cel [str s, .int .i64 ((tokAt s k).2.1 : Nat)] 42)] Lc Lr))) ?_
    rintro w h v w' ⟨Lc2, rfl, hJ2, hs2⟩
    refine ⟨Bs, [(t4b, cel [.int .u8 ((tokAt s k).1 : Nat), str (tokTx s k), .int .i64 (k : Nat)] 35), (b1, cel [.func (.func 23) #[] #[], .func (.func 24) #[] #[], .func (.func 25) #[] #[]] 53), (vb, cel [.pointer (some ⟨p, 0, none⟩)] 40), (p, cel [str s, .int .i64 ((tokAt s k).2.1 : Nat)] 42)] ++ (Lc2 ++ Lr), hs2.perm (perm_mid [(t4b, cel [.int .u8 ((tokAt s k).1 : Nat), str (tokTx s k), .int .i64 (k : Nat)] 35), (b1, cel [.func (.func 23) #[] #[], .func (.func 24) #[] #[], .func (.func 25) #[] #[]] 53), (vb, cel [.pointer (some ⟨p, 0, none⟩)] 40), (p, cel [str s, .int .i64 ((tokAt s k).2.1 : Nat)] 42)] Lc2 Lr).symm, ?_⟩
    refine w_r (fun _ => R_not rfl) rfl rfl ?_; refine w_nil ?_; refine k_on ?_
    refine c_condN rfl (fun h9 => ?_) (fun h9 => ?_)
    · refine c_ret ?_; refine b_ret (k_ret (k_ret (b_ret (?_))))
      refine r_none (.inl rfl) rfl ?_
      exact fun w' hw => ⟨rfl, _, _, Lc2, by rw [← hl, lexS_end nx hlt h9]; exact hJ2, hw.drop (.cons _ (.cons _ (List.Sublist.refl _)))⟩
    · have hgo := h9; rw [hgo] at hJ2
      refine c_skip ?_; refine b_on (k_on ?_); refine c_region ?_; refine w_load z40 e1_2 (fun _ h => cel_own 2 rfl rfl h) ?_
      refine w_call1 3 rfl (fun w => R_call Tryd.func26 rfl rfl rfl) rfl rfl (fun w h => skip_spec p s _ w (h.at_ 3 rfl) hs g2.2.1) ?_
      refine w_nil ?_
      refine k_st (B' := Bs) (L' := (b1, cel [.func (.func 23) #[] #[], .func (.func 24) #[] #[], .func (.func 25) #[] #[]] 53) :: (vb, cel [.pointer (some ⟨p, 0, none⟩)] 40) :: (p, cel [str s, .int .i64 (skipTo s (tokAt s k).2.1 : Nat)] 42) :: (Lc2 ++ Lr)) (fun w h => h.drop (List.sublist_cons_self _ _)) ?_
      have g4 := g2.2.2 (fine_of nx hn hgo)
      have g5 := skipTo_le g2.2.1
      exact k_again _ (by omega) ⟨skipTo s (tokAt s k).2.1, (nx x (tokAt s k).1 (tokTx s k) k (tokAt s k).2.2).1, Lc2, e0_2, e1_2, e3_2, rfl, rfl, g5.1, hJ2, by rw [← hl, lexS_go nx hn hlt hgo], rfl⟩
  · refine c_exit ?_; refine k_exit (k_exit (b_here rfl (?_)))
    refine r_none (.inr rfl) rfl ?_
    exact fun w' hw => ⟨rfl, k, true, Lc, by rw [← hl, lexS_stop nx (by omega)]; exact hJ, hw.drop (List.sublist_cons_self _ _)⟩
end Go.Proofs.YtmcajoiembfjiaaDoor
