/- Layer 14, FeedTwice: that Find tells the datum of its name, that Write tells the same twice, and another text where one sign is turned. Part 8 of 12. -/
import Derived.Test.YtikdkendinnalaaGreatDoorT07
section
namespace Go.Proofs.YtikdkendinnalaaGreatDoor
open Go.RowKit Go.Sx
open Go.Tok
variable {σ : Type}
/-- what a round over the tokens does, for whoever calls yield: the caller's own blocks are Lc, told by J -/
def Rounds (J : Bool → σ → Heap → Prop) (nx : σ → Nat → List UInt8 → Nat → Bool → σ × Bool) (l : Nat) : Prop :=
 ∀ (x : σ) (k : Nat) (t : List UInt8) (a : Nat) (b : Bool) (Lc Lr : Heap) (B : Base) (w : World), t.length ≤ 10000000 → J true x Lc → St B (Lc ++ Lr) w →
  YieldAt (fw none) 0 Tryz.prog l #[.agg #[.int .u8 (k : Nat), str t, .int .i64 (a : Nat)], .bool b] w (fun en w' => ∃ v, en = .returned v ∧ ∃ Lc', v = .bool (nx x k t a b).2 ∧ J (nx x k t a b).2 (nx x k t a b).1 Lc' ∧ St B (Lc' ++ Lr) w')
set_option maxRecDepth 100000 in
set_option maxHeartbeats 400000 in
theorem all1_spec (J : Bool → σ → Heap → Prop) (nx : σ → Nat → List UInt8 → Nat → Bool → σ × Bool) (hn : ∀ x k t a, (nx x k t a false).2 = false) (l p vb : Nat) (s : List UInt8) (hs : s.length ≤ 10000000) (hy : Rounds J nx l) (wb : World) (Sb : Nat → Prop) (ht : Tb wb) (hgl : ¬ Sb 2) (hg : 2 < p) (x0 : σ) (Lc0 Lr : Heap) (Bs : Base) (hB : (wb, Sb) ∈ Bs) (hJ0 : J true x0 Lc0) (w : World) (hw : St Bs ((vb, cel [.pointer (some ⟨p, 0, none⟩)] 103) :: (p, cel [str s, .int .i64 (0 : Nat)] 105) :: (Lc0 ++ Lr)) w) :
  Ret Tryz.prog 95 #[.func (.yield l) #[] #[], .pointer (some ⟨vb, 0, none⟩)] w (fun v w' => v = .tuple #[] ∧ ∃ (j : Nat) (g : Bool) (Lc' : Heap), J g (lexS nx s (skipTo s 0) x0) Lc' ∧ St Bs ((vb, cel [.pointer (some ⟨p, 0, none⟩)] 103) :: (p, cel [str s, .int .i64 (j : Nat)] 105) :: (Lc' ++ Lr)) w') := by
 have g0 := skipTo_le (s := s) (Nat.zero_le _)
 refine enterB (l := [_, _]) 67 Tryz.func95 rfl rfl rfl (hw) ?_; refine yA ?_; refine w_r (fun _ => R_buildA ar147 zr147 rfl) rfl rfl ?_; refine w_alloc zr147 (fun b1 gb1 ub1 => ?_)
 refine w_store 0 rfl z147 rfl rfl rfl rfl rfl rfl rfl ?_; refine yC ?_; refine zl z103 rfl (fun _ h => zc 1 rfl rfl h) ?_; refine w_call1 2 rfl (fun w => zR Tryz.func99 rfl rfl rfl) rfl rfl (fun w h => skip_spec p s _ w (h.at_ 2 rfl) hs (Nat.zero_le _)) ?_; refine yB ?_; refine zB ?_
 refine c_loop (fun m e B L => ∃ (k : Nat) (x : σ) (Lc : Heap), e 0 = .func (.yield l) #[] #[] ∧ e 1 = .pointer (some ⟨vb, 0, none⟩) ∧ e 3 = .pointer (some ⟨b1, 0, none⟩) ∧ Bs = B ∧ L = (b1, cel [.func (.func 96) #[] #[], .func (.func 97) #[] #[], .func (.func 98) #[] #[]] 147) :: (vb, cel [.pointer (some ⟨p, 0, none⟩)] 103) :: (p, cel [str s, .int .i64 (k : Nat)] 105) :: (Lc ++ Lr) ∧ k ≤ s.length ∧ J true x Lc ∧ lexS nx s k x = lexS nx s (skipTo s 0) x0 ∧ m = s.length - k) _ ⟨skipTo s 0, x0, Lc0, rfl, rfl, rfl, rfl, rfl, g0.1, hJ0, rfl, rfl⟩ ?_
 rintro m e B L ⟨k, x, Lc, e0_1, e1_1, e3_1, rfl, rfl, hk, hJ, hl, rfl⟩
 have g2 := tok_le hk
 refine zq ?_; refine zq ?_; refine c_draw mixed (by kernel_rfl) ?_; refine zl z103 e1_1 (fun _ h => zc 1 rfl rfl h) ?_; refine w_nilc rfl ?_; refine zf fa105_1 rfl ?_; refine zl z3 rfl (fun _ h => zc 2 rfl rfl h) ?_; refine zl z103 e1_1 (fun _ h => zc 1 rfl rfl h) ?_; refine w_nilc rfl ?_; refine zf fa105_0 rfl ?_; refine zl z9 rfl (fun _ h => zc 2 rfl rfl h) ?_; refine w_r (fun _ => R_slen st9 rfl (by omega)) rfl rfl ?_; refine w_r (fun _ => R_lt rfl rfl) rfl rfl ?_; refine yB ?_; refine zD rfl (fun h2 => ?_) (fun h2 => ?_)
 ·have hlt : k < s.length := by omega
  refine zi ?_; refine zk ?_; refine zq ?_; refine zB ?_; refine yA ?_; refine zl z103 e1_1 (fun _ h => zc 1 rfl rfl h) ?_; refine w_nilc rfl ?_; refine zf fa105_1 rfl ?_; refine zl z3 rfl (fun _ h => zc 2 rfl rfl h) ?_; refine w_r (fun _ => R_build bt64 rfl) rfl rfl ?_; refine w_alloc zr64 (fun t4b gt4b ut4b => ?_)
  refine w_store 0 rfl z64 rfl rfl rfl rfl rfl rfl rfl ?_; refine yC ?_; refine aB rfl ?_; refine yB ?_; refine c_cut (fun e B L => e 0 = .func (.yield l) #[] #[] ∧ e 1 = .pointer (some ⟨vb, 0, none⟩) ∧ e 3 = .pointer (some ⟨b1, 0, none⟩) ∧ e 4 = .pointer (some ⟨t4b, 0, none⟩) ∧ e 5 = .bool (tokAt s k).2.2 ∧ Bs = B ∧ L = (t4b, cel [.int .u8 ((tokAt s k).1 : Nat), str ([]), .int .i64 (k : Nat)] 64) :: (b1, cel [.func (.func 96) #[] #[], .func (.func 97) #[] #[], .func (.func 98) #[] #[]] 147) :: (vb, cel [.pointer (some ⟨p, 0, none⟩)] 103) :: (p, cel [str s, .int .i64 ((tokAt s k).2.1 : Nat)] 105) :: (Lc ++ Lr)) ?_ ?_
  ·refine yA ?_; refine w_loadA z147 e3_1 (fun _ h => h.at_ 1 rfl) rfl ?_; refine mI rfl ?_; refine yB ?_; refine zB ?_; refine c_rounds 4 ?_; refine yA ?_; refine w_r (fun _ => R_lt rfl rfl) rfl rfl ?_; refine yB ?_; refine zq ?_; refine zE (congrArg Value.bool (decide_eq_true (by decide))) ?_; refine zi ?_; refine zk ?_; refine zq ?_; refine zB ?_; refine yA ?_; refine w_r (fun _ => R_aidx (i := 0) ar147 rfl rfl rfl rfl) rfl rfl ?_; refine za rfl ?_; refine yC ?_; refine zm rfl ?_; refine zl z103 e1_1 (fun _ h => zc 2 rfl rfl h) ?_
   cases hN : nameB s k
   ·refine w_call1 3 rfl (fun w => R_callv rfl Tryz.func96 rfl rfl) rfl rfl (fun w h => by have hh := name_spec p s _ w (h.at_ 3 rfl) hs (by omega); simp only [hN, Bool.false_eq_true, if_false, if_true, ↓reduceIte, decide_true, decide_false, Bool.not_true, Bool.not_false, Nat.add_zero] at hh; exact hh) ?_; refine zm rfl ?_; refine w_r (fun _ => R_extract rfl rfl) rfl rfl ?_; refine w_r (fun _ => R_extract rfl rfl) rfl rfl ?_; refine zf fa64_0 rfl ?_; refine w_store 0 rfl z5 rfl rfl rfl rfl rfl rfl rfl ?_; refine aB rfl ?_; refine yB ?_; refine zq ?_; refine c_draw mixed (by kernel_rfl) ?_; refine mB rfl ?_; refine mB rfl ?_; refine zw rfl rfl rfl ?_; refine zl z103 e1_1 (fun _ h => zc 2 rfl rfl h) ?_; refine zw rfl rfl rfl ?_; refine w_nilc rfl ?_
    refine zw rfl rfl rfl ?_; refine zf fa105_1 rfl ?_; refine zw rfl rfl rfl ?_; refine zl z3 rfl (fun _ h => zc 3 rfl rfl h) ?_; refine zw rfl rfl rfl ?_; refine zf fa64_2 rfl ?_; refine zw rfl rfl rfl ?_; refine zl z3 rfl (fun _ h => zc 0 rfl rfl h) ?_; refine zw rfl rfl rfl ?_; refine w_r (fun _ => R_gt rfl rfl) rfl rfl ?_; refine w_r (v := .bool _) (fun _ => zF rfl rfl) rfl rfl ?_; refine yB ?_; refine zD rfl (fun h4 => ?_) (fun h4 => ?_)
    ·omega
    ·refine zi ?_; refine b_on (zk ?_); refine zr ?_; refine w_r (fun _ => R_addi rfl rfl (by omega)) rfl rfl ?_; refine mI rfl ?_; refine zn ?_; refine k_rounds ?_; refine yA ?_; refine w_r (fun _ => R_lt rfl rfl) rfl rfl ?_; refine yB ?_; refine zq ?_; refine zE (congrArg Value.bool (decide_eq_true (by decide))) ?_; refine zi ?_; refine zk ?_; refine zq ?_; refine zB ?_; refine yA ?_; refine w_r (fun _ => R_aidx (i := 1) ar147 rfl rfl rfl rfl) rfl rfl ?_; refine za rfl ?_; refine yC ?_; refine zm rfl ?_; refine zl z103 e1_1 (fun _ h => zc 2 rfl rfl h) ?_
     cases hD : atP digitB s k
     ·refine w_call1 3 rfl (fun w => R_callv rfl Tryz.func97 rfl rfl) rfl rfl (fun w h => by have hh := number_spec p s _ w (h.at_ 3 rfl) hs (by omega); simp only [hD, Bool.false_eq_true, if_false, if_true, ↓reduceIte, decide_true, decide_false, Bool.not_true, Bool.not_false, Nat.add_zero] at hh; exact hh) ?_; refine zm rfl ?_; refine w_r (fun _ => R_extract rfl rfl) rfl rfl ?_; refine w_r (fun _ => R_extract rfl rfl) rfl rfl ?_; refine zf fa64_0 rfl ?_; refine w_store 0 rfl z5 rfl rfl rfl rfl rfl rfl rfl ?_; refine aB rfl ?_; refine yB ?_; refine zq ?_; refine c_draw mixed (by kernel_rfl) ?_; refine mB rfl ?_; refine mB rfl ?_; refine zw rfl rfl rfl ?_; refine zl z103 e1_1 (fun _ h => zc 2 rfl rfl h) ?_; refine zw rfl rfl rfl ?_; refine w_nilc rfl ?_
      refine zw rfl rfl rfl ?_; refine zf fa105_1 rfl ?_; refine zw rfl rfl rfl ?_; refine zl z3 rfl (fun _ h => zc 3 rfl rfl h) ?_; refine zw rfl rfl rfl ?_; refine zf fa64_2 rfl ?_; refine zw rfl rfl rfl ?_; refine zl z3 rfl (fun _ h => zc 0 rfl rfl h) ?_; refine zw rfl rfl rfl ?_; refine w_r (fun _ => R_gt rfl rfl) rfl rfl ?_; refine w_r (v := .bool _) (fun _ => zF rfl rfl) rfl rfl ?_; refine yB ?_; refine zD rfl (fun h5 => ?_) (fun h5 => ?_)
      ·omega
      ·refine zi ?_; refine b_on (zk ?_); refine zr ?_; refine w_r (fun _ => R_addi rfl rfl (by omega)) rfl rfl ?_; refine mI rfl ?_; refine zn ?_; refine k_rounds ?_; refine yA ?_; refine w_r (fun _ => R_lt rfl rfl) rfl rfl ?_; refine yB ?_; refine zq ?_; refine zE (congrArg Value.bool (decide_eq_true (by decide))) ?_; refine zi ?_; refine zk ?_; refine zq ?_; refine zB ?_; refine yA ?_; refine w_r (fun _ => R_aidx (i := 2) ar147 rfl rfl rfl rfl) rfl rfl ?_; refine za rfl ?_; refine yC ?_; refine zm rfl ?_; refine zl z103 e1_1 (fun _ h => zc 2 rfl rfl h) ?_
       rcases Classical.em (signLen s k = 0) with hS | hS
       ·refine w_call1 3 rfl (fun w => R_callv rfl Tryz.func98 rfl rfl) rfl rfl (fun w h => by have hh := sign_spec p s _ w (h.at_ 3 rfl) hs (by omega) (ht.fr (h.fr _ hB) hgl) hg; simp only [hS, Bool.false_eq_true, if_false, if_true, ↓reduceIte, decide_true, decide_false, Bool.not_true, Bool.not_false, Nat.add_zero] at hh; exact hh) ?_; refine zm rfl ?_; refine w_r (fun _ => R_extract rfl rfl) rfl rfl ?_; refine w_r (fun _ => R_extract rfl rfl) rfl rfl ?_; refine zf fa64_0 rfl ?_; refine w_store 0 rfl z5 rfl rfl rfl rfl rfl rfl rfl ?_; refine aB rfl ?_; refine yB ?_; refine zq ?_; refine c_draw mixed (by kernel_rfl) ?_; refine mB rfl ?_; refine mB rfl ?_; refine zw rfl rfl rfl ?_; refine zl z103 e1_1 (fun _ h => zc 2 rfl rfl h) ?_; refine zw rfl rfl rfl ?_; refine w_nilc rfl ?_
        refine zw rfl rfl rfl ?_; refine zf fa105_1 rfl ?_; refine zw rfl rfl rfl ?_; refine zl z3 rfl (fun _ h => zc 3 rfl rfl h) ?_; refine zw rfl rfl rfl ?_; refine zf fa64_2 rfl ?_; refine zw rfl rfl rfl ?_; refine zl z3 rfl (fun _ h => zc 0 rfl rfl h) ?_; refine zw rfl rfl rfl ?_; refine w_r (fun _ => R_gt rfl rfl) rfl rfl ?_; refine w_r (v := .bool _) (fun _ => zF rfl rfl) rfl rfl ?_; refine yB ?_; refine zD rfl (fun h6 => ?_) (fun h6 => ?_)
        ·omega
        ·refine zi ?_; refine b_on (zk ?_); refine zr ?_; refine w_r (fun _ => R_addi rfl rfl (by omega)) rfl rfl ?_; refine mI rfl ?_; refine zn ?_; refine k_rounds ?_; refine yA ?_; refine w_r (fun _ => R_lt rfl rfl) rfl rfl ?_; refine yB ?_; refine zq ?_; refine c_condF (congrArg Value.bool (decide_eq_false (by decide))) ?_; refine c_exit ?_; refine zx (zx (b_here rfl (?_)))
         have e0 : tokAt s k = (0, k, false) := by rw [tokAt, if_neg (by rw [hN]; simp), if_neg (by rw [hD]; simp), if_pos hS]
         exact k_mid ⟨e0_1, e1_1, e3_1, rfl, by rw [e0]; rfl, rfl, by rw [e0]; rfl⟩
       ·refine w_call1 3 rfl (fun w => R_callv rfl Tryz.func98 rfl rfl) rfl rfl (fun w h => by have hh := sign_spec p s _ w (h.at_ 3 rfl) hs (by omega) (ht.fr (h.fr _ hB) hgl) hg; simp only [hS, Bool.false_eq_true, if_false, if_true, ↓reduceIte, decide_true, decide_false, Bool.not_true, Bool.not_false, Nat.add_zero] at hh; exact hh) ?_; refine zm rfl ?_; refine w_r (fun _ => R_extract rfl rfl) rfl rfl ?_; refine w_r (fun _ => R_extract rfl rfl) rfl rfl ?_; refine zf fa64_0 rfl ?_; refine w_store 0 rfl z5 rfl rfl rfl rfl rfl rfl rfl ?_; refine aB rfl ?_; refine yB ?_; refine zq ?_; refine c_draw mixed (by kernel_rfl) ?_; refine mB rfl ?_
        refine mB rfl ?_; refine zs rfl rfl rfl ?_; refine zs rfl rfl rfl ?_; refine zs rfl rfl rfl ?_; refine zs rfl rfl rfl ?_; refine zs rfl rfl rfl ?_; refine zs rfl rfl rfl ?_; refine zs rfl rfl rfl ?_; refine w_r (v := .bool _) (fun _ => zT rfl rfl) rfl rfl ?_; refine yB ?_; refine zE rfl ?_; refine c_exit ?_; refine b_past rfl (zx (zx (b_here rfl (?_))))
        have e0 : tokAt s k = (3, k + signLen s k, true) := by rw [tokAt, if_neg (by rw [hN]; simp), if_neg (by rw [hD]; simp), if_neg hS]
        exact k_mid ⟨e0_1, e1_1, e3_1, rfl, by rw [e0]; rfl, rfl, by rw [e0]; rfl⟩
     ·refine w_call1 3 rfl (fun w => R_callv rfl Tryz.func97 rfl rfl) rfl rfl (fun w h => by have hh := number_spec p s _ w (h.at_ 3 rfl) hs (by omega); simp only [hD, Bool.false_eq_true, if_false, if_true, ↓reduceIte, decide_true, decide_false, Bool.not_true, Bool.not_false, Nat.add_zero] at hh; exact hh) ?_; refine zm rfl ?_; refine w_r (fun _ => R_extract rfl rfl) rfl rfl ?_; refine w_r (fun _ => R_extract rfl rfl) rfl rfl ?_; refine zf fa64_0 rfl ?_; refine w_store 0 rfl z5 rfl rfl rfl rfl rfl rfl rfl ?_; refine aB rfl ?_; refine yB ?_; refine zq ?_; refine c_draw mixed (by kernel_rfl) ?_; refine mB rfl ?_; refine mB rfl ?_; refine zp (t := 40) rfl (fun h7 => ?_) (fun h7 => ?_)
      ·refine zs rfl rfl (bV h7) ?_; refine zs rfl rfl (bV h7) ?_; refine zs rfl rfl (bV h7) ?_; refine zs rfl rfl (bV h7) ?_; refine zs rfl rfl (bV h7) ?_; refine zs rfl rfl (bV h7) ?_; refine zs rfl rfl (bV h7) ?_; refine w_r (v := .bool _) (fun _ => zT (bV h7) rfl) rfl rfl ?_; refine yB ?_; refine zE rfl ?_; refine c_exit ?_; refine b_past rfl (zx (zx (b_here rfl (?_))))
       have e0 : tokAt s k = (2, numEnd s k, true) := by rw [tokAt, if_neg (by rw [hN]; simp), if_pos hD, h7]
       exact k_mid ⟨e0_1, e1_1, e3_1, rfl, by rw [e0]; exact congrArg Value.bool h7, rfl, by rw [e0]; rfl⟩
      ·refine zw rfl rfl (bV h7) ?_; refine zl z103 e1_1 (fun _ h => zc 2 rfl rfl h) ?_; refine zw rfl rfl (bV h7) ?_; refine w_nilc rfl ?_; refine zw rfl rfl (bV h7) ?_; refine zf fa105_1 rfl ?_; refine zw rfl rfl (bV h7) ?_; refine zl z3 rfl (fun _ h => zc 3 rfl rfl h) ?_; refine zw rfl rfl (bV h7) ?_; refine zf fa64_2 rfl ?_; refine zw rfl rfl (bV h7) ?_; refine zl z3 rfl (fun _ h => zc 0 rfl rfl h) ?_; refine zw rfl rfl (bV h7) ?_; refine w_r (fun _ => R_gt rfl rfl) rfl rfl ?_; refine w_r (v := .bool _) (fun _ => zF (bV h7) rfl) rfl rfl ?_; refine yB ?_; refine zD rfl (fun h8 => ?_) (fun h8 => ?_)
       ·refine c_exit ?_; refine b_past rfl (zx (zx (b_here rfl (?_))))
        have e0 : tokAt s k = (2, numEnd s k, false) := by rw [tokAt, if_neg (by rw [hN]; simp), if_pos hD, h7]
        exact k_mid ⟨e0_1, e1_1, e3_1, rfl, by rw [e0]; exact congrArg Value.bool h7, rfl, by rw [e0]; rfl⟩
       ·exfalso; have := digit_run hD; have := numEnd_le hk; omega
   ·refine w_call1 3 rfl (fun w => R_callv rfl Tryz.func96 rfl rfl) rfl rfl (fun w h => by have hh := name_spec p s _ w (h.at_ 3 rfl) hs (by omega); simp only [hN, Bool.false_eq_true, if_false, if_true, ↓reduceIte, decide_true, decide_false, Bool.not_true, Bool.not_false, Nat.add_zero] at hh; exact hh) ?_; refine zm rfl ?_; refine w_r (fun _ => R_extract rfl rfl) rfl rfl ?_; refine w_r (fun _ => R_extract rfl rfl) rfl rfl ?_; refine zf fa64_0 rfl ?_; refine w_store 0 rfl z5 rfl rfl rfl rfl rfl rfl rfl ?_; refine aB rfl ?_; refine yB ?_; refine zq ?_; refine c_draw mixed (by kernel_rfl) ?_; refine mB rfl ?_; refine mB rfl ?_; refine zs rfl rfl rfl ?_; refine zs rfl rfl rfl ?_; refine zs rfl rfl rfl ?_; refine zs rfl rfl rfl ?_; refine zs rfl rfl rfl ?_
    refine zs rfl rfl rfl ?_; refine zs rfl rfl rfl ?_; refine w_r (v := .bool _) (fun _ => zT rfl rfl) rfl rfl ?_; refine yB ?_; refine zE rfl ?_; refine c_exit ?_; refine b_past rfl (zx (zx (b_here rfl (?_))))
    have e0 : tokAt s k = (1, runTo wordB s k, true) := by rw [tokAt, if_pos hN]
    exact k_mid ⟨e0_1, e1_1, e3_1, rfl, by rw [e0]; rfl, rfl, by rw [e0]; rfl⟩
  rintro e B L ⟨e0_2, e1_2, e3_2, e4_2, e5_2, rfl, rfl⟩
  refine zq ?_; refine c_tail 12 mixed (by kernel_rfl) ?_; refine zl z103 e1_2 (fun _ h => zc 2 rfl rfl h) ?_; refine w_nilc rfl ?_; refine zf fa105_0 rfl ?_; refine zl z9 rfl (fun _ h => zc 3 rfl rfl h) ?_; refine zf fa64_2 e4_2 ?_; refine zl z3 rfl (fun _ h => zc 0 rfl rfl h) ?_; refine zl z103 e1_2 (fun _ h => zc 2 rfl rfl h) ?_; refine w_nilc rfl ?_; refine zf fa105_1 rfl ?_; refine zl z3 rfl (fun _ h => zc 3 rfl rfl h) ?_; refine w_r (fun _ => R_sslN st9 rfl rfl rfl (by omega) (by omega)) rfl rfl ?_; refine zf fa64_1 e4_2 ?_; refine w_tailst 0 rfl z9 rfl rfl rfl rfl rfl rfl rfl ?_; refine zk ?_; refine yA ?_; refine zm e0_2 ?_; refine w_loadA z64 e4_2 (fun _ h => h.at_ 0 rfl) rfl ?_; refine mB e5_2 ?_
  refine w_yield rfl (fun w h => hy x (tokAt s k).1 (tokTx s k) k (tokAt s k).2.2 Lc ([(t4b, cel [.int .u8 ((tokAt s k).1 : Nat), str (tokTx s k), .int .i64 (k : Nat)] 64), (b1, cel [.func (.func 96) #[] #[], .func (.func 97) #[] #[], .func (.func 98) #[] #[]] 147), (vb, cel [.pointer (some ⟨p, 0, none⟩)] 103), (p, cel [str s, .int .i64 ((tokAt s k).2.1 : Nat)] 105)] ++ Lr) Bs w (tokTx_len s k hs) hJ (h.perm (perm_mid [(t4b, cel [.int .u8 ((tokAt s k).1 : Nat), str (tokTx s k), .int .i64 (k : Nat)] 64), (b1, cel [.func (.func 96) #[] #[], .func (.func 97) #[] #[], .func (.func 98) #[] #[]] 147), (vb, cel [.pointer (some ⟨p, 0, none⟩)] 103), (p, cel [str s, .int .i64 ((tokAt s k).2.1 : Nat)] 105)] Lc Lr))) ?_
  rintro w h v w' ⟨Lc2, rfl, hJ2, hs2⟩
  refine ⟨Bs, [(t4b, cel [.int .u8 ((tokAt s k).1 : Nat), str (tokTx s k), .int .i64 (k : Nat)] 64), (b1, cel [.func (.func 96) #[] #[], .func (.func 97) #[] #[], .func (.func 98) #[] #[]] 147), (vb, cel [.pointer (some ⟨p, 0, none⟩)] 103), (p, cel [str s, .int .i64 ((tokAt s k).2.1 : Nat)] 105)] ++ (Lc2 ++ Lr), hs2.perm (perm_mid [(t4b, cel [.int .u8 ((tokAt s k).1 : Nat), str (tokTx s k), .int .i64 (k : Nat)] 64), (b1, cel [.func (.func 96) #[] #[], .func (.func 97) #[] #[], .func (.func 98) #[] #[]] 147), (vb, cel [.pointer (some ⟨p, 0, none⟩)] 103), (p, cel [str s, .int .i64 ((tokAt s k).2.1 : Nat)] 105)] Lc2 Lr).symm, ?_⟩
  refine w_r (fun _ => R_not rfl) rfl rfl ?_; refine yB ?_; refine c_condN rfl (fun h9 => ?_) (fun h9 => ?_)
  ·refine ze ?_; refine zb (zt (zt (zb (?_))))
   refine r_none (.inl rfl) rfl ?_; exact fun w' hw => ⟨rfl, _, _, Lc2, by rw [← hl, lexS_end nx hlt h9]; exact hJ2, hw.drop (.cons _ (.cons _ (List.Sublist.refl _)))⟩
  ·have hgo := h9; rw [hgo] at hJ2
   refine zi ?_; refine b_on (zk ?_); refine zr ?_; refine zl z103 e1_2 (fun _ h => zc 2 rfl rfl h) ?_; refine w_call1 3 rfl (fun w => zR Tryz.func99 rfl rfl rfl) rfl rfl (fun w h => skip_spec p s _ w (h.at_ 3 rfl) hs g2.2.1) ?_; refine zn ?_; refine k_st (B' := Bs) (L' := (b1, cel [.func (.func 96) #[] #[], .func (.func 97) #[] #[], .func (.func 98) #[] #[]] 147) :: (vb, cel [.pointer (some ⟨p, 0, none⟩)] 103) :: (p, cel [str s, .int .i64 (skipTo s (tokAt s k).2.1 : Nat)] 105) :: (Lc2 ++ Lr)) (fun w h => h.drop (List.sublist_cons_self _ _)) ?_
   have g4 := g2.2.2 (fine_of nx hn hgo)
   have g5 := skipTo_le g2.2.1
   exact k_again _ (by omega) ⟨skipTo s (tokAt s k).2.1, (nx x (tokAt s k).1 (tokTx s k) k (tokAt s k).2.2).1, Lc2, e0_2, e1_2, e3_2, rfl, rfl, g5.1, hJ2, by rw [← hl, lexS_go nx hn hlt hgo], rfl⟩
 ·refine c_exit ?_; refine zx (zx (b_here rfl (?_)))
  refine r_none (.inr rfl) rfl ?_; exact fun w' hw => ⟨rfl, k, true, Lc, by rw [← hl, lexS_stop nx (by omega)]; exact hJ, hw.drop (List.sublist_cons_self _ _)⟩
end Go.Proofs.YtikdkendinnalaaGreatDoor
end
section
namespace Go.Proofs.YtikdkendinnalaaGreatDoor
open Go.RowKit Go.Sx
open Go.Tok
def rdPs : Array Go.Tmp := #[18, 19]
def rdAs : Go.Code := (Go.Code.seq (Go.Code.region 7 #[(Go.Oper.mk (some 7) (Go.Op.alloc 64) 0 "token.go:123" #[] none), (Go.Oper.mk none (Go.Op.store 64 (Go.Operand.tmp 7) (Go.Operand.tmp 18)) 0 "token.go:123" #[(Go.Edge.mk 0 Go.Ground.data), (Go.Edge.mk 0 Go.Ground.phase)] none)] false) (Go.Code.region 8 #[(Go.Oper.mk (some 8) (Go.Op.assign (Go.Operand.tmp 19)) 4 "token.go:123" #[] none)] false))
def rdBo : Go.Code := (Go.Code.block 1 (Go.Code.seq (Go.Code.block 2 (Go.Code.seq (Go.Code.region 9 #[(Go.Oper.mk (some 21) (Go.Op.move (Go.Operand.tmp 8)) 4 "token.go:125" #[] none), (Go.Oper.mk (some 22) (Go.Op.unOp Go.UnOp.not 4 (Go.Operand.tmp 21)) 4 "token.go:125" #[(Go.Edge.mk 0 Go.Ground.data)] none), (Go.Oper.mk (some 20) (Go.Op.assign (Go.Operand.tmp 22)) 4 "token.go:125" #[(Go.Edge.mk 1 Go.Ground.data)] none)] false) (Go.Code.cond (Go.Operand.tmp 20) (Go.Code.seq (Go.Code.region 10 #[(Go.Oper.mk (some 23) (Go.Op.fieldAddr 64 (Go.Operand.tmp 7) 2) 0 "token.go:126" #[] none), (Go.Oper.mk (some 24) (Go.Op.load 3 (Go.Operand.tmp 23)) 3 "token.go:126" #[(Go.Edge.mk 0 Go.Ground.data)] none), (Go.Oper.mk (some 25) (Go.Op.build 27 #[(0, (Go.Operand.const (Go.Value.int Go.IntKind.i64 110))), (1, (Go.Operand.tmp 24))]) 27 "token.go:126" #[(Go.Edge.mk 1 Go.Ground.data)] none), (Go.Oper.mk none (Go.Op.store 27 (Go.Operand.tmp 6) (Go.Operand.tmp 25)) 0 "token.go:126" #[(Go.Edge.mk 2 Go.Ground.data), (Go.Edge.mk 0 Go.Ground.phase), (Go.Edge.mk 1 Go.Ground.phase), (Go.Edge.mk 2 Go.Ground.phase)] none)] false) (Go.Code.exit 0)) (Go.Code.seq (Go.Code.region 11 #[(Go.Oper.mk (some 27) (Go.Op.load 55 (Go.Operand.tmp 5)) 55 "token.go:128" #[] none), (Go.Oper.mk (some 28) (Go.Op.call (Go.Call.mk (Go.Callee.builtin Go.Builtin.len) #[(Go.Operand.tmp 27)] #[55])) 3 "token.go:128" #[(Go.Edge.mk 0 Go.Ground.data)] none), (Go.Oper.mk (some 29) (Go.Op.binOp Go.BinOp.eql 3 (Go.Operand.tmp 28) (Go.Operand.const (Go.Value.int Go.IntKind.i64 6000)) 3) 4 "token.go:128" #[(Go.Edge.mk 1 Go.Ground.data)] none), (Go.Oper.mk (some 26) (Go.Op.assign (Go.Operand.tmp 29)) 4 "token.go:128" #[(Go.Edge.mk 2 Go.Ground.data)] none)] false) (Go.Code.cond (Go.Operand.tmp 26) (Go.Code.seq (Go.Code.region 12 #[(Go.Oper.mk (some 30) (Go.Op.fieldAddr 64 (Go.Operand.tmp 7) 2) 0 "token.go:129" #[] none), (Go.Oper.mk (some 31) (Go.Op.load 3 (Go.Operand.tmp 30)) 3 "token.go:129" #[(Go.Edge.mk 0 Go.Ground.data)] none), (Go.Oper.mk (some 32) (Go.Op.build 27 #[(0, (Go.Operand.const (Go.Value.int Go.IntKind.i64 6))), (1, (Go.Operand.tmp 31))]) 27 "token.go:129" #[(Go.Edge.mk 1 Go.Ground.data)] none), (Go.Oper.mk none (Go.Op.store 27 (Go.Operand.tmp 6) (Go.Operand.tmp 32)) 0 "token.go:129" #[(Go.Edge.mk 2 Go.Ground.data), (Go.Edge.mk 0 Go.Ground.phase), (Go.Edge.mk 1 Go.Ground.phase), (Go.Edge.mk 2 Go.Ground.phase)] none)] false) (Go.Code.exit 0)) Go.Code.skip))))) (Go.Code.region 13 #[(Go.Oper.mk (some 33) (Go.Op.load 55 (Go.Operand.tmp 5)) 55 "token.go:132" #[] none), (Go.Oper.mk (some 34) (Go.Op.load 64 (Go.Operand.tmp 7)) 64 "token.go:132" #[] none), (Go.Oper.mk (some 35) (Go.Op.buildSlice 55 1 #[(0, (Go.Operand.tmp 34))]) 55 "token.go:132" #[(Go.Edge.mk 1 Go.Ground.data)] none), (Go.Oper.mk (some 36) (Go.Op.call (Go.Call.mk (Go.Callee.builtin Go.Builtin.append) #[(Go.Operand.tmp 33), (Go.Operand.tmp 35)] #[55, 55])) 55 "token.go:132" #[(Go.Edge.mk 0 Go.Ground.data), (Go.Edge.mk 2 Go.Ground.data)] none), (Go.Oper.mk none (Go.Op.store 55 (Go.Operand.tmp 5) (Go.Operand.tmp 36)) 0 "token.go:132" #[(Go.Edge.mk 3 Go.Ground.data), (Go.Edge.mk 3 Go.Ground.chain), (Go.Edge.mk 0 Go.Ground.phase), (Go.Edge.mk 1 Go.Ground.phase), (Go.Edge.mk 2 Go.Ground.phase), (Go.Edge.mk 3 Go.Ground.phase)] none)] false)))
def tkC (t : Tk) : List Value := [.int .u8 (t.1 : Nat), str t.2.1, .int .i64 (t.2.2 : Nat)]
def tksC (l : List Tk) : List Value := l.flatMap tkC
abbrev Toks (v : Value) (l : List Tk) (W : Heap) : Prop := Own 64 3 v (tksC l) l.length W
theorem Toks.more {v : Value} {l : List Tk} {t : Tk} {W : Heap} (h : Own 64 3 v (tksC l ++ tkC t) (l.length + 1) W) : Toks v (l ++ [t]) W := by
  have e1 : tksC (l ++ [t]) = tksC l ++ tkC t := by simp [tksC]
  have e2 : (l ++ [t]).length = l.length + 1 := by simp
  unfold Toks; rw [e1, e2]; exact h
def rdL (t5b t6b l : Nat) (v : Value) (fc fa : Nat) (ob : Obj) (W : Heap) : Heap := (t5b, cel [v] 55) :: (t6b, cel [.int .i64 (fc : Nat), .int .i64 (fa : Nat)] 27) :: (l, ob) :: W
def rdO (e : Env) (fn : FuncId) (r : Nat) : Bool → Obj
  | true => lpO .ready none fn ⟨43, [], none⟩ e rdPs rdAs rdBo r
  | false => lpO .done (some (.exit 0)) fn ⟨43, [], none⟩ e rdPs rdAs rdBo r
def RdJ (e : Env) (fn : FuncId) (r l t5b t6b : Nat) (g : Bool) (x : Rd) (Lc : Heap) : Prop :=
  ∃ a c W, Toks (.slice a x.1.length c) x.1 W ∧ x.1.length ≤ 6000 ∧ (g = true → x.2 = (0, 0)) ∧ (g = false → x.2.1 ≠ 0) ∧ Lc = rdL t5b t6b l (.slice a x.1.length c) x.2.1 x.2.2 (rdO e fn r g) W
/-- what Read hands back -/
def RdV (r : Rd) (v : Value) (W : Heap) : Prop := ∃ a c, v = .tuple #[.slice a r.1.length c, .agg #[.int .i64 (r.2.1 : Nat), .int .i64 (r.2.2 : Nat)]] ∧ Toks (.slice a r.1.length c) r.1 W
set_option maxRecDepth 100000 in
set_option maxHeartbeats 400000 in
theorem all_spec (p : Nat) (w : World) :
    Ret Tryz.prog 58 #[.pointer (some ⟨p, 0, none⟩)] w (fun v w' => ∃ W, (∃ vb, v = .func (.func 95) #[] #[.pointer (some ⟨vb, 0, none⟩)] ∧ W = [(vb, cel [.pointer (some ⟨p, 0, none⟩)] 103)]) ∧ New w w' W) := by
  refine enter (S := No) (l := [_]) (L := []) 4 Tryz.func58 rfl rfl rfl (St.start w No) ?_; refine yA ?_; refine w_box rfl (fun vb gvb uvb => ?_)
  refine za rfl ?_; refine yC ?_; refine w_r (fun _ => R_makeFunc) rfl rfl ?_; refine za rfl ?_; refine yB ?_; refine ze ?_; refine zo rfl rfl rfl ?_; exact fun w' hw => ⟨_, ⟨vb, rfl, rfl⟩, St.made (A := []) hw⟩
set_option maxRecDepth 100000 in
set_option maxHeartbeats 400000 in
theorem Read_round (e : Env) (fn r l t5b t6b : Nat) (he5 : e 5 = .pointer (some ⟨t5b, 0, none⟩)) (he6 : e 6 = .pointer (some ⟨t6b, 0, none⟩)) : Rounds (RdJ e fn r l t5b t6b) readN l := by
  intro x k t a b Lc Lr B w htx hJ hw
  obtain ⟨a0, c0, W, hO, hx6, hxt, -, rfl⟩ := hJ
  have hx0 := hxt rfl
  refine yield_round 2 (L := rdL t5b t6b l _ _ _ _ _ ++ Lr) hw rfl rfl ?_; refine yA ?_; refine w_alloc zr64 (fun t7b gt7b ut7b => ?_)
  refine w_store 0 rfl z64 rfl rfl rfl rfl rfl rfl rfl ?_; refine yB ?_; refine zr ?_; refine aB rfl ?_; refine zn ?_; refine k_begin (l' := 0) 3 rfl ?_; refine zB ?_; refine zq ?_; refine zB ?_; refine yA ?_; refine mB rfl ?_; refine w_r (fun _ => R_not rfl) rfl rfl ?_; refine aB rfl ?_; refine yB ?_; refine c_condN rfl (fun h2 => ?_) (fun h2 => ?_)
  · refine yA ?_; refine zf fa64_2 rfl ?_; refine zl z3 rfl (fun _ h => zc 0 rfl rfl h) ?_; refine w_r (fun _ => R_build bt27 rfl) rfl rfl ?_; refine w_store 2 rfl z27 he6 rfl rfl rfl rfl rfl rfl ?_; refine yB ?_; refine c_exit ?_; refine b_past rfl (zx (b_past rfl (?_)))
    refine k_roundX 3 rfl ?_
    subst h2
    exact fun w h => ⟨_, rfl, rdL t5b t6b l (.slice a0 x.1.length c0) 110 a (rdO e fn r false) W, rfl, ⟨a0, c0, W, hO, hx6, (fun h => by cases h), fun _ => by simp [readN], rfl⟩, h.drop (List.sublist_cons_self _ _)⟩
  · refine yA ?_; refine zl z55 he5 (fun _ h => zc 1 rfl rfl h) ?_; refine w_r (fun _ => R_len sl55 rfl) rfl rfl ?_; refine w_r (fun _ => R_eq rfl rfl) rfl rfl ?_; refine aB rfl ?_; refine yB ?_; refine zD rfl (fun h3 => ?_) (fun h3 => ?_)
    · refine yA ?_; refine zf fa64_2 rfl ?_; refine zl z3 rfl (fun _ h => zc 0 rfl rfl h) ?_; refine w_r (fun _ => R_build bt27 rfl) rfl rfl ?_; refine w_store 2 rfl z27 he6 rfl rfl rfl rfl rfl rfl ?_; refine yB ?_; refine c_exit ?_; refine b_past rfl (zx (b_past rfl (?_)))
      refine k_roundX 3 rfl ?_
      subst h2
      have hN : readN x k t a true = ((x.1, 6, a), false) := by rw [readN, if_neg (by decide), if_pos (by omega)]
      exact fun w h => ⟨_, rfl, rdL t5b t6b l (.slice a0 x.1.length c0) 6 a (rdO e fn r false) W, by rw [hN], by rw [hN]; exact ⟨a0, c0, W, hO, hx6, (fun h => by cases h), fun _ => by simp [readN], rfl⟩, h.drop (List.sublist_cons_self _ _)⟩
    · refine zi ?_; refine b_on (zk ?_); refine zr ?_; refine zl z55 he5 (fun _ h => zc 1 rfl rfl h) ?_; refine w_loadA z64 rfl (fun _ h => h.at_ 0 rfl) rfl ?_; refine zS slt55 (by decide) rfl rfl (fun bs gbs ubs => ?_)
      refine w_app [(bs, _), (t7b, _), (t5b, _), (t6b, _), (l, _)] (news := tkC (k, t, a)) slt55 (by decide) rfl hO rfl rfl (row_own 0 rfl (fun _ _ h => h)) rfl (by decide) (by omega) (by omega) (fun v2 W2 hO2 => ?_)
      obtain ⟨a2, c2, rfl⟩ := hO2.slice
      refine w_store 2 rfl z55 he5 rfl rfl rfl rfl rfl rfl ?_; refine zn ?_; refine b_on (?_)
      refine k_round 4 rfl ?_
      subst h2
      have hN : readN x k t a true = ((x.1 ++ [(k, t, a)], x.2), true) := by rw [readN, if_neg (by decide), if_neg (by omega)]
      exact fun w h => ⟨_, rfl, rdL t5b t6b l (.slice a2 (x.1.length + 1) c2) x.2.1 x.2.2 (rdO e fn r true) W2, by rw [hN], by rw [hN]; exact ⟨a2, c2, W2, by simpa using Toks.more hO2, by simp; omega, fun _ => hx0, (fun h => by cases h), by simp⟩, h.drop (.cons _ (.cons _ (List.Sublist.refl _)))⟩
set_option maxRecDepth 100000 in
set_option maxHeartbeats 400000 in
theorem Read_spec (s : List UInt8) (hs : s.length ≤ 10000000) (w : World) (ht : Tb w) (hgs : 2 < w.heap.size) :
    Ret Tryz.prog 21 #[str s] w (fun v w' => ∃ W, RdV (readP s) v W ∧ New w w' W) := by
  refine enterM (S := No) (l := [_]) (L := []) 43 Tryz.func21 rfl rfl rfl (St.start w No) ?_; refine yA ?_; refine za (v := .slice _ _ _) rfl ?_; refine w_alloc zr27 (fun t3b gt3b ut3b => ?_)
  refine yB ?_; refine c_scope ?_; refine zq ?_; refine yA ?_; refine zm (v := str _) rfl ?_; refine w_r (fun _ => R_slen st9 rfl (by omega)) rfl rfl ?_; refine w_r (fun _ => R_gt rfl rfl) rfl rfl ?_; refine yB ?_; refine zD rfl (fun h2 => ?_) (fun h2 => ?_)
  · refine yA ?_; refine w_r (fun _ => R_build bt27 rfl) rfl rfl ?_; refine za (v := .slice _ _ _) rfl ?_; refine w_store 0 rfl z27 rfl rfl rfl rfl rfl rfl rfl ?_; refine yB ?_; refine ze ?_; refine zt (g_ret (?_))
    refine r_finM (.inl rfl) rfl (.tmp rfl rfl (.agg rfl rfl z27 (fun _ h => h.at_ 0 rfl) rfl .nil)) ?_; exact fun w' hw => ⟨[], by rw [readP_long (by omega)]; exact ⟨none, 0, rfl, Own.nil _ _⟩, .none (hw.fr _ (.head _))⟩
  · refine zi ?_; refine zk ?_; refine yA ?_; refine zm (v := str _) rfl ?_; refine w_r (fun _ => R_build bt105 rfl) rfl rfl ?_; refine w_boxA rfl (fun p gp up => ?_)
    refine za (v := .pointer _) rfl ?_; refine yC ?_; refine w_alloc zr55 (fun t5b gt5b ut5b => ?_)
    refine yC ?_; refine w_alloc zr27 (fun t6b gt6b ut6b => ?_)
    refine yB ?_; refine zq ?_; refine c_label ?_; refine zk ?_; refine zq ?_; refine yA ?_; refine mP rfl ?_; refine w_callW (fun w => zR Tryz.func58 rfl rfl rfl) rfl rfl (fun w _ => all_spec p w) ?_
    rintro u W0 ⟨vb, rfl, rfl⟩
    refine yB ?_; refine zB ?_; refine c_gen fun e he => ?_
    have he3 : e 3 = .pointer (some ⟨t3b, 0, none⟩) := congrFun he 3
    have he5 : e 5 = .pointer (some ⟨t5b, 0, none⟩) := congrFun he 5
    have he6 : e 6 = .pointer (some ⟨t6b, 0, none⟩) := congrFun he 6
    have he17 : e 17 = .func (.func 95) #[] #[.pointer (some ⟨vb, 0, none⟩)] := congrFun he 17
    refine c_range (f := 95) (fi := []) (ca := [.pointer (some ⟨vb, 0, none⟩)]) he17 rfl rfl rfl (fun r l fn w' => ∃ (g : Bool) (j : Nat) (Lc' : Heap), RdJ e fn r l t5b t6b g (readS s) Lc' ∧ St [(w, No)] ((vb, cel [.pointer (some ⟨p, 0, none⟩)] 103) :: (p, cel [str s, .int .i64 (j : Nat)] 105) :: (Lc' ++ [(r, .deferred (some [])), (t3b, cel [.int .i64 0, .int .i64 0] 27)])) w') ?_ ?_
    · intro fn r l hr1 hr2 hl w1 hw1
      refine (all1_spec (RdJ e fn r l t5b t6b) readN readN_no l p vb s (by omega) (Read_round e fn r l t5b t6b he5 he6) w No ht (fun h => h) (Nat.le_trans hgs (up (w, No) (.head _))) ([], 0, 0) (rdL t5b t6b l (.slice none 0 0) 0 0 (rdO e fn r true) []) [(r, .deferred (some [])), (t3b, cel [.int .i64 0, .int .i64 0] 27)] [(w, No)] (.head _) ⟨none, 0, [], Own.nil _ _, Nat.zero_le _, fun _ => rfl, (fun h => by cases h), rfl⟩ w1 (hw1.pick [2, 5, 4, 3, 0, 1, 6] (by decide))).mono ?_
      rintro v w2 ⟨rfl, j, g, Lc', hJ, hs⟩
      exact ⟨g, j, Lc', hJ, hs⟩
    · rintro fn r l hr1 hr2 hl w1 ⟨g, j, Lc', ⟨a0, c0, W, hO, h6, hg1, hg0, rfl⟩, hs⟩
      have hs2 := St.pickT [(vb, cel [.pointer (some ⟨p, 0, none⟩)] 103), (p, cel [str s, .int .i64 (j : Nat)] 105), (t5b, cel [.slice a0 (readS s).1.length c0] 55), (t6b, cel [.int .i64 ((readS s).2.1 : Nat), .int .i64 ((readS s).2.2 : Nat)] 27), (l, rdO e fn r g), (r, .deferred (some [])), (t3b, cel [.int .i64 0, .int .i64 0] 27)] (hs.perm (.cons _ (.cons _ (.cons _ (.cons _ (.cons _ List.perm_append_comm)))))) [4, 2, 3, 5, 6] (by decide)
      cases g
      · have hz : (readS s).2.1 ≠ 0 := hg0 rfl
        refine ⟨_, _, .done, some (.exit 0), (fun h => by cases h), hs2, ?_⟩
        refine c_exit ?_; refine b_here rfl (zk ?_); refine zq ?_; refine yA ?_; refine zf fa27_0 he6 ?_; refine zl z25 rfl (fun _ h => zc 2 rfl rfl h) ?_; refine w_r (fun _ => R_ne rfl rfl) rfl rfl ?_; refine yB ?_; refine zD rfl (fun h6 => ?_) (fun h6 => ?_)
        · refine zq ?_; refine c_tail 2 mixed (by kernel_rfl) ?_; refine w_loadA z27 he6 (fun _ h => h.at_ 2 rfl) rfl ?_; refine za (v := .slice _ _ _) rfl ?_; refine w_tailst 4 rfl z27 he3 rfl rfl rfl rfl rfl rfl ?_; refine zk ?_; refine ze ?_; refine zt (g_ret (?_))
          refine r_finM1 3 rfl (.inl rfl) rfl (.tmp rfl rfl (.agg rfl he3 z27 (fun _ h => h.at_ 4 rfl) rfl .nil)) ?_; exact fun w' hw => ⟨[], by rw [readP_bad (by omega) hz]; exact ⟨none, 0, rfl, Own.nil _ _⟩, .none (hw.fr _ (.head _))⟩
        · exfalso; omega
      · have hz : (readS s).2.1 = 0 := by rw [hg1 rfl]
        refine ⟨_, _, .ready, none, (fun h => by cases h), hs2, ?_⟩
        refine b_on (zk ?_); refine zq ?_; refine yA ?_; refine zf fa27_0 he6 ?_; refine zl z25 rfl (fun _ h => zc 2 rfl rfl h) ?_; refine w_r (fun _ => R_ne rfl rfl) rfl rfl ?_; refine yB ?_; refine zD rfl (fun h7 => ?_) (fun h7 => ?_)
        · exfalso; omega
        · refine zi ?_; refine zk ?_; refine yA ?_; refine zl z55 he5 (fun _ h => zc 1 rfl rfl h) ?_; refine w_r (fun _ => R_build bt27 rfl) rfl rfl ?_; refine za (v := .slice _ _ _) rfl ?_; refine w_store 4 rfl z27 he3 rfl rfl rfl rfl rfl rfl ?_; refine yB ?_; refine ze ?_; refine g_ret (?_)
          refine r_finM1 3 rfl (.inl rfl) rfl (.tmp rfl rfl (.agg rfl he3 z27 (fun _ h => h.at_ 4 rfl) rfl .nil)) ?_; exact fun w' hw => ⟨W, by rw [readP_fine (by omega) hz]; exact ⟨a0, c0, rfl, hO⟩, St.made (A := []) (hw.drop (.cons _ (.cons _ (.cons _ (.cons _ (.cons _ (List.Sublist.refl _)))))))⟩
end Go.Proofs.YtikdkendinnalaaGreatDoor
end
section
namespace Go.Proofs.YtikdkendinnalaaGreatDoor
open Go.RowKit Go.Sx
open Go.Tok
theorem tks_at : ∀ (l : List Tk) (k : Nat) (t : Tk), l[k]? = some t → ∀ (j : Nat) u, (tkC t)[j]? = some u → (tksC l)[k * 3 + j]? = some u
  | [], _, _, h, _, _, _ => by simp at h
  | x :: l, 0, t, h, j, u, hu => by
    obtain rfl : x = t := by simpa using h
    have hj := (List.getElem?_eq_some_iff.1 hu).1
    show ((tkC x) ++ tksC l)[0 * 3 + j]? = some u
    rw [List.getElem?_append_left (by simpa using hj)]
    simpa using hu
  | x :: l, k + 1, t, h, j, u, hu => by
    have ih := tks_at l k t (by simpa using h) j u hu
    show ((tkC x) ++ tksC l)[(k + 1) * 3 + j]? = some u
    have hl : (tkC x).length = 3 := rfl
    rw [List.getElem?_append_right (by rw [hl]; omega), hl, show (k + 1) * 3 + j - 3 = k * 3 + j by omega]
    exact ih
theorem Toks.cell {l : List Tk} {a : Option Addr} {c k : Nat} {W : Heap} {w : World} (h : Toks (.slice a l.length c) l W) (hm : ∀ p ∈ W, w.heap[p.1]? = some p.2) (hk : k < l.length) : ∃ b, a = some ⟨b, 0, none⟩ ∧ ∀ (j : Nat) u, (tkC l[k])[j]? = some u → w.cell? ⟨b, 0 + k * 3 + j, none⟩ = some u := by
  obtain ⟨b, rfl, hc⟩ := Own.cellw h hk
  exact ⟨b, rfl, fun j u hu => by rw [Nat.zero_add]; exact hc w hm _ u (tks_at l k _ (by simp) j u hu)⟩
end Go.Proofs.YtikdkendinnalaaGreatDoor
end
section
namespace Go.Proofs.YtikdkendinnalaaGreatDoor
open Go.RowKit Go.Sx
open Go.Tok Go.Tree
theorem Toks.cellS {l : List Tk} {a : Option Addr} {c k : Nat} {W : Heap} (h : Toks (.slice a l.length c) l W) (hk : k < l.length) : ∃ b, a = some ⟨b, 0, none⟩ ∧ ∀ (B : Base) (L : Heap) (w : World), (∀ p ∈ W, p ∈ L) → St B L w → ∀ (t : Tk), l[k]? = some t → ∀ (j : Nat) u, (tkC t)[j]? = some u → w.cell? ⟨b, 0 + k * 3 + j, none⟩ = some u := by
 obtain ⟨b, rfl, hc⟩ := Own.cell h hk
 exact ⟨b, rfl, fun B L w hW hw t ht j u hu => by rw [Nat.zero_add]; exact hc B L w hW hw _ u (tks_at l k t ht j u hu)⟩
/-- what the world must have: the tables of Go's library -/
structure Wd (w : World) : Prop where
 tb : Tb w
 gs : 2 < w.heap.size
 ml : ∃ m, w.cell? ⟨3, 0, none⟩ = some (.int .i64 m)
theorem Wd.ext {w w' : World} (h : Wd w) (k : Ext w w') : Wd w' := ⟨h.tb.fr k (fun x => x), Nat.le_trans h.gs k.size, by obtain ⟨m, hm⟩ := h.ml; exact ⟨m, k.cell hm (fun x => x)⟩⟩
theorem Wd.now {w w' : World} {B : Base} {L : Heap} (h : Wd w) (hx : (w, No) ∈ B) (hw : St B L w') : Wd w' := h.ext (hw.fr _ hx)
theorem Contains_spec (s t : List UInt8) (w : World) (hs : s.length < 4294967281) (hw : Wd w) : Ret Tryz.prog 60 #[str s, str t] w fun v w' => v = .bool (Lib.contains s t) ∧ Ext w w' := by
 obtain ⟨m, hm⟩ := hw.ml
 exact Calls.mono (Tryz.strings_Contains ⟨s.toArray⟩ ⟨t.toArray⟩ m w hs hm) fun e w' ⟨h1, h2⟩ => ⟨_, h1, by simp, by rw [h2]; exact Fr.refl _ _⟩
set_option maxRecDepth 100000 in
set_option maxHeartbeats 400000 in
theorem one_spec (s : Str) (k : Nat) (hs : s.length ≤ 10000000) (w : World) (hW : Wd w) :
  Ret Tryz.prog 59 #[str s, .int .u8 (k : Nat)] w (fun v w' => v = .bool (oneB k s) ∧ Ext w w') := by
 have ht := hW.tb
 have hgs := hW.gs
 refine enter (S := No) (l := [_, _]) (L := []) 36 Tryz.func59 rfl rfl rfl (St.start w No) ?_; refine yA ?_; refine aB rfl ?_; refine yC ?_; refine zm (v := str _) rfl ?_; refine w_callW (R := RdV (readP s)) (fun w => zR Tryz.func21 rfl rfl rfl) rfl rfl (fun w h => Read_spec s hs w (ht.fr (h.fr _ (.head _)) (fun x => x)) (Nat.le_trans hgs (h.fr _ (.head _)).size)) ?_; refine fun u W1 hR1 => w_st (fun w h => h.perm List.perm_append_comm) ?_
 obtain ⟨a1, c1, rfl, hT1⟩ := hR1
 refine zm rfl ?_; refine w_r (fun _ => R_extract rfl rfl) rfl rfl ?_; refine w_r (fun _ => R_extract rfl rfl) rfl rfl ?_; refine w_alloc zr27 (fun t6b gt6b ut6b => ?_)
 refine za (v := .slice _ _ _) rfl ?_; refine w_store 0 rfl z27 rfl rfl rfl rfl rfl rfl rfl ?_; refine yC ?_; refine zf fa27_0 rfl ?_; refine zl z25 rfl (fun _ h => zc 0 rfl rfl h) ?_; refine w_r (fun _ => R_eq rfl rfl) rfl rfl ?_; refine mB rfl ?_; refine zd (t := 15) rfl (fun h2 => ?_) (fun h2 => ?_)
 ·refine zw rfl rfl (bT h2) ?_; refine mS rfl ?_; refine zw rfl rfl (bT h2) ?_; refine w_r (fun _ => R_len sl55 rfl) rfl rfl ?_; refine zw rfl rfl (bT h2) ?_; refine w_r (fun _ => R_eq rfl rfl) rfl rfl ?_; refine w_r (v := .bool _) (fun _ => zT (bT h2) rfl) rfl rfl ?_; refine mB rfl ?_; refine zd (t := 20) rfl (fun h3 => ?_) (fun h3 => ?_)
  ·obtain ⟨b1, rfl, hc1⟩ := hT1.cellS (k := 0) (by omega); obtain ⟨t, q1⟩ : ∃ t, (readP s).1[0]? = some t := ⟨_, List.getElem?_eq_getElem (by omega)⟩; have e1 := oneB_at (k := k) (by omega) q1 (by omega)
   refine zw rfl rfl (bT h3) ?_; refine mS rfl ?_; refine zw rfl rfl (bT h3) ?_; refine w_r (fun _ => R_iaN (i := 0) sl55 rfl rfl (by first | omega | decide | exact Nat.succ_pos _ | exact Nat.succ_lt_succ (Nat.succ_pos _))) rfl rfl ?_; refine zw rfl rfl (bT h3) ?_; refine zf fa64_0 rfl ?_; refine zw rfl rfl (bT h3) ?_; refine zl z5 rfl (fun _ h => by first | exact zc 0 rfl rfl h | exact hc1 _ _ _ (fun p hp => by simp [hp]) h _ q1 _ _ rfl) ?_; refine zw rfl rfl (bT h3) ?_; refine mI rfl ?_; refine zw rfl rfl (bT h3) ?_; refine w_r (fun _ => R_eq rfl rfl) rfl rfl ?_; refine w_r (v := .bool _) (fun _ => zT (bT h3) rfl) rfl rfl ?_; refine mB rfl ?_; refine zd (t := 28) rfl (fun h4 => ?_) (fun h4 => ?_)
   ·refine zw rfl rfl (bT h4) ?_; refine mS rfl ?_; refine zw rfl rfl (bT h4) ?_; refine w_r (fun _ => R_iaN (i := 0) sl55 rfl rfl (by first | omega | decide | exact Nat.succ_pos _ | exact Nat.succ_lt_succ (Nat.succ_pos _))) rfl rfl ?_; refine zw rfl rfl (bT h4) ?_; refine zf fa64_1 rfl ?_; refine zw rfl rfl (bT h4) ?_; refine zl z9 rfl (fun _ h => by first | exact zc 0 rfl rfl h | exact hc1 _ _ _ (fun p hp => by simp [hp]) h _ q1 _ _ rfl) ?_; refine zw rfl rfl (bT h4) ?_; refine zm (v := str _) rfl ?_; refine zw rfl rfl (bT h4) ?_; refine w_r (fun _ => R_seq rfl rfl) rfl rfl ?_; refine w_r (v := .bool _) (fun _ => zT (bT h4) rfl) rfl rfl ?_; refine aB rfl ?_; refine yB ?_; refine ze ?_; refine zo (v := .bool _) rfl rfl rfl ?_
    exact fun w' hw => ⟨by rw [e1, decide_eq_true h4]; rfl, hw.fr _ (.head _)⟩
   ·refine zs rfl rfl (bF h4) ?_; refine zs rfl rfl (bF h4) ?_; refine zs rfl rfl (bF h4) ?_; refine zs rfl rfl (bF h4) ?_; refine zs rfl rfl (bF h4) ?_; refine zs rfl rfl (bF h4) ?_; refine w_r (v := .bool _) (fun _ => zF (bF h4) rfl) rfl rfl ?_; refine aB rfl ?_; refine yB ?_; refine ze ?_; refine zo (v := .bool _) rfl rfl rfl ?_; exact fun w' hw => ⟨by rw [e1, decide_eq_false h4]; rfl, hw.fr _ (.head _)⟩
  ·refine zs rfl rfl (bF h3) ?_; refine zs rfl rfl (bF h3) ?_; refine zs rfl rfl (bF h3) ?_; refine zs rfl rfl (bF h3) ?_; refine zs rfl rfl (bF h3) ?_; refine zs rfl rfl (bF h3) ?_; refine w_r (v := .bool _) (fun _ => zF (bF h3) rfl) rfl rfl ?_; refine mB rfl ?_; refine zs rfl rfl rfl ?_; refine zs rfl rfl rfl ?_; refine zs rfl rfl rfl ?_; refine zs rfl rfl rfl ?_; refine zs rfl rfl rfl ?_; refine zs rfl rfl rfl ?_; refine w_r (v := .bool _) (fun _ => zF rfl rfl) rfl rfl ?_; refine aB rfl ?_; refine yB ?_; refine ze ?_; refine zo (v := .bool _) rfl rfl rfl ?_; exact fun w' hw => ⟨by rw [oneB_len (by omega)], hw.fr _ (.head _)⟩
 ·refine zs rfl rfl (bF h2) ?_; refine zs rfl rfl (bF h2) ?_; refine zs rfl rfl (bF h2) ?_; refine w_r (v := .bool _) (fun _ => zF (bF h2) rfl) rfl rfl ?_; refine mB rfl ?_; refine zs rfl rfl rfl ?_; refine zs rfl rfl rfl ?_; refine zs rfl rfl rfl ?_; refine zs rfl rfl rfl ?_; refine zs rfl rfl rfl ?_; refine zs rfl rfl rfl ?_; refine w_r (v := .bool _) (fun _ => zF rfl rfl) rfl rfl ?_; refine mB rfl ?_; refine zs rfl rfl rfl ?_; refine zs rfl rfl rfl ?_; refine zs rfl rfl rfl ?_; refine zs rfl rfl rfl ?_; refine zs rfl rfl rfl ?_; refine zs rfl rfl rfl ?_; refine w_r (v := .bool _) (fun _ => zF rfl rfl) rfl rfl ?_; refine aB rfl ?_; refine yB ?_; refine ze ?_; refine zo (v := .bool _) rfl rfl rfl ?_
  exact fun w' hw => ⟨by rw [oneB_E (by omega)], hw.fr _ (.head _)⟩
set_option maxRecDepth 100000 in
set_option maxHeartbeats 400000 in
theorem Name_spec (s : Str) (hs : s.length ≤ 10000000) (w : World) (hW : Wd w) :
  Ret Tryz.prog 23 #[str s] w (fun v w' => v = .bool (nameOk s) ∧ Ext w w') := by
 refine enter (S := No) (l := [_]) (L := []) 12 Tryz.func23 rfl rfl rfl (St.start w No) ?_; refine yA ?_; refine aB rfl ?_; refine yC ?_; refine zm (v := str _) rfl ?_; refine zC (fun w => zR Tryz.func59 rfl rfl rfl) rfl rfl (fun w h => one_spec _ 1 (by omega) w (hW.now (.head _) h)) ?_; refine mB rfl ?_; refine zp (t := 5) rfl (fun h1 => ?_) (fun h1 => ?_)
 ·refine zw rfl rfl (bV h1) ?_; refine zm (v := str _) rfl ?_; refine zw rfl rfl (bV h1) ?_; refine w_r (fun _ => R_cat rfl rfl (by simp only [List.length_append, List.length_cons, List.length_nil]; omega)) rfl rfl ?_; refine zw rfl rfl (bV h1) ?_; refine w_r (fun _ => R_cat rfl rfl (by simp only [List.length_append, List.length_cons, List.length_nil]; omega)) rfl rfl ?_; refine zw rfl rfl (bV h1) ?_; refine zC (fun w => zR Tryz.func60 rfl rfl rfl) rfl rfl (fun w h => Contains_spec wordsT ([32] ++ s ++ [32]) w (by decide) (hW.now (.head _) h)) ?_; refine zw rfl rfl (bV h1) ?_; refine w_r (fun _ => R_not rfl) rfl rfl ?_; refine w_r (v := .bool _) (fun _ => zT (bV h1) rfl) rfl rfl ?_; refine aB rfl ?_; refine yB ?_; refine ze ?_; refine zo (v := .bool _) rfl rfl rfl ?_
  exact fun w' hw => ⟨by rw [nameOk_one h1], hw.fr _ (.head _)⟩
 ·refine zs rfl rfl (bV h1) ?_; refine zs rfl rfl (bV h1) ?_; refine zs rfl rfl (bV h1) ?_; refine zs rfl rfl (bV h1) ?_; refine zs rfl rfl (bV h1) ?_; refine w_r (v := .bool _) (fun _ => zF (bV h1) rfl) rfl rfl ?_; refine aB rfl ?_; refine yB ?_; refine ze ?_; refine zo (v := .bool _) rfl rfl rfl ?_; exact fun w' hw => ⟨by rw [nameOk_no h1], hw.fr _ (.head _)⟩
end Go.Proofs.YtikdkendinnalaaGreatDoor
end
section
/- The plain part of layer feed: what is written of data; data with one number's sign turned are written another way. -/
namespace Go.Feed
open Go.Tok Go.Tree Go.Prs Go.Num Go.Lib
/-- a rational number as it is handed in: its sign, its sizes, how many limbs they have -/
structure Rw where
  s : Bool
  n : Nat
  d : Nat
  p : Nat
  q : Nat
def Rw.r (x : Rw) : Rt := mkR x.s x.n x.d
/-- may it be, and is it an integer? -/
def Rw.ok (x : Rw) : Bool := decide (x.d ≠ 0) && decide (x.r.2 = 1)
structure Di where
  nm : Str
  at_ : Int
  list : Bool
  whole : Bool
  nums : List Rw
/-- a normal number -/
def rwR (x : Rt) : Rw := ⟨ng x.1, x.1.natAbs, x.2, sz x.1.natAbs, sz x.2⟩
def diD (d : Dt) : Di := ⟨d.nm, d.at_, d.list, d.whole, d.nums.map rwR⟩
def okD (d : Di) : Bool := nameOk d.nm && (d.list || decide (d.nums.length = 1))
def okN (d : Di) : Bool := d.nums.all Rw.ok
/-- are data right, behind these names? -/
def okW (seen : List Str) : List Di → Bool
  | [] => true
  | d :: l => okD d && !seen.contains d.nm && okN d && okW (seen ++ [d.nm]) l
def longW (l : List Di) : Bool := decide (1000 < l.length) || l.any (fun d => decide (1000 < d.nums.length))
/-- texts with a comma between each two -/
def joinC : List Str → Str
  | [] => []
  | [x] => x
  | x :: y :: l => x ++ 44 :: joinC (y :: l)
def valT (d : Di) : Str := if d.list = true then 91 :: (joinC (d.nums.map fun x => itoa x.r.1) ++ [93]) else joinC (d.nums.map fun x => itoa x.r.1)
def datT (d : Di) : Str := d.nm ++ 61 :: (valT d ++ [59, 10])
def dataT (l : List Di) : Str := l.flatMap datT
def writeP (l : List Di) : Str × Nat := if okW [] l = true then (if longW l = true then ([], 6) else (dataT l, 0)) else ([], 2)
theorem okW_snoc : ∀ (l : List Di) (seen : List Str) (d : Di), okW seen (l ++ [d]) = (okW seen l && (okD d && !(seen ++ l.map Di.nm).contains d.nm && okN d))
  | [], seen, d => by simp [okW]
  | x :: l, seen, d => by
    rw [List.cons_append, okW, okW, okW_snoc l (seen ++ [x.nm]) d]
    simp only [List.map_cons, List.append_assoc, List.singleton_append, Bool.and_assoc]
theorem okW_take {l : List Di} {i : Nat} {d : Di} (hd : l[i]? = some d) : okW [] (l.take (i + 1)) = (okW [] (l.take i) && (okD d && !((l.take i).map Di.nm).contains d.nm && okN d)) := by
  obtain ⟨h, rfl⟩ := List.getElem?_eq_some_iff.1 hd
  rw [List.take_succ_eq_append_getElem h, okW_snoc, List.nil_append]
theorem okW_pre {l : List Di} {i : Nat} (h : okW [] (l.take i) = false) : okW [] l = false := by
  have key : ∀ (m l' : List Di) (seen : List Str), okW seen m = false → okW seen (m ++ l') = false := by
    intro m
    induction m with
    | nil => intro l' seen h; cases h
    | cons x m ih =>
      intro l' seen h
      rw [List.cons_append, okW] at *
      cases hq : (okD x && !seen.contains x.nm && okN x) with
      | false => rfl
      | true => rw [hq, Bool.true_and] at h; rw [Bool.true_and]; exact ih l' _ h
  have := key (l.take i) (l.drop i) [] h
  rwa [List.take_append_drop] at this
theorem okW_bad {l : List Di} {i : Nat} {d : Di} (hd : l[i]? = some d) (h : (okD d && !((l.take i).map Di.nm).contains d.nm && okN d) = false) : writeP l = ([], 2) := by
  have h1 := okW_take hd
  rw [h, Bool.and_false] at h1
  unfold writeP
  rw [if_neg (by rw [okW_pre h1]; decide)]
/-! names are apart -/
theorem okW_mem : ∀ (l : List Di) (seen : List Str), okW seen l = true → (∀ d ∈ l, okD d = true ∧ okN d = true ∧ d.nm ∉ seen) ∧ (l.map Di.nm).Nodup
  | [], _, _ => ⟨fun d hd => by (cases hd), List.nodup_nil⟩
  | x :: l, seen, h => by
    rw [okW] at h
    simp only [Bool.and_eq_true, Bool.not_eq_true', List.contains_eq_mem, decide_eq_false_iff_not] at h
    obtain ⟨⟨⟨h1, h2⟩, h3⟩, h4⟩ := h
    obtain ⟨h5, h6⟩ := okW_mem l _ h4
    refine ⟨?_, ?_⟩
    · intro d hd
      rcases List.mem_cons.1 hd with rfl | hd
      · exact ⟨h1, h3, h2⟩
      · have := h5 d hd
        refine ⟨this.1, this.2.1, fun hm => this.2.2 (List.mem_append_left _ hm)⟩
    · rw [List.map_cons, List.nodup_cons]
      refine ⟨fun hm => ?_, h6⟩
      obtain ⟨d, hd, he⟩ := List.mem_map.1 hm
      have := (h5 d hd).2.2
      exact this (List.mem_append_right _ (by rw [he]; exact List.mem_singleton.2 rfl))
/-- the first datum of a name -/
def findD (l : List Di) (nm : Str) : Option Di := l.find? (fun d => decide (d.nm = nm))
theorem find_nodup {l : List Di} (h : (l.map Di.nm).Nodup) {i : Nat} {d : Di} (hd : l[i]? = some d) : findD l d.nm = some d := by
  induction l generalizing i with
  | nil => simp at hd
  | cons x l ih =>
    rw [List.map_cons, List.nodup_cons] at h
    unfold findD
    rw [List.find?_cons]
    cases i with
    | zero =>
      obtain rfl : x = d := by simpa using hd
      simp
    | succ i =>
      rw [List.getElem?_cons_succ] at hd
      have hne : x.nm ≠ d.nm := fun he => h.1 (by rw [he]; exact List.mem_map_of_mem (List.mem_of_getElem? hd))
      rw [decide_eq_false hne]
      exact ih h.2 hd
/-! one number's sign turned -/
theorem itoa_head {x : Int} : (x < 0 → ∃ r, itoa x = 45 :: r) ∧ (0 ≤ x → ∃ c r, itoa x = c :: r ∧ isD c = true) := by
  refine ⟨fun h => ?_, fun h => ?_⟩
  · unfold itoa; rw [if_pos h]; exact ⟨_, rfl⟩
  · unfold itoa; rw [if_neg (by omega)]
    have h1 := dec_all x.toNat
    have h2 := dec_ne x.toNat
    cases hd : decDigits x.toNat with
    | nil => exact absurd hd h2
    | cons c r =>
      rw [hd, List.all_cons, Bool.and_eq_true] at h1
      exact ⟨c, r, rfl, h1.1⟩
theorem itoa_turn {x y : Int} (h : ng x ≠ ng y) (a b : Str) : itoa x ++ a ≠ itoa y ++ b := by
  intro he
  have key : ∀ x y : Int, ng x = true → ng y = false → ∀ a b : Str, itoa x ++ a = itoa y ++ b → False := by
    intro x y hx hy a b he
    obtain ⟨r, h1⟩ := itoa_head.1 (ng_true.1 hx)
    obtain ⟨c, r', h2, h3⟩ := itoa_head.2 (ng_false.1 hy)
    rw [h1, h2, List.cons_append, List.cons_append] at he
    injection he with hc _
    subst hc
    exact absurd h3 (by decide)
  cases hx : ng x with
  | true =>
    cases hy : ng y with
    | true => exact h (by rw [hx, hy])
    | false => exact key x y hx hy a b he
  | false =>
    cases hy : ng y with
    | false => exact h (by rw [hx, hy])
    | true => exact key y x hy hx b a he.symm
theorem joinC_cons (l : List Str) : ∃ r, ∀ y, joinC (y :: l) = y ++ r := by
  cases l with
  | nil => exact ⟨[], fun y => by rw [joinC, List.append_nil]⟩
  | cons z l => exact ⟨44 :: joinC (z :: l), fun y => by rw [joinC]⟩
theorem okW_congr : ∀ (l m : List Di) (seen : List Str), l.map (fun d => (d.nm, okD d && okN d)) = m.map (fun d => (d.nm, okD d && okN d)) → okW seen l = okW seen m
  | [], [], _, _ => rfl
  | [], y :: m, _, h => by simp at h
  | x :: l, [], _, h => by simp at h
  | x :: l, y :: m, seen, h => by
    rw [List.map_cons, List.map_cons] at h
    injection h with h1 h2
    have e1 : x.nm = y.nm := congrArg Prod.fst h1
    have e2 : (okD x && okN x) = (okD y && okN y) := congrArg Prod.snd h1
    rw [okW, okW, e1, okW_congr l m _ h2]
    have ac : ∀ a b c d : Bool, (a && b && c && d) = ((a && c) && (b && d)) := by decide
    rw [ac, ac (okD y), e2]
theorem set_map {α β : Type} (f : α → β) {l : List α} {i : Nat} {x y : α} (hx : l[i]? = some x) (h : f y = f x) : (l.set i y).map f = l.map f := by
  obtain ⟨hi, rfl⟩ := List.getElem?_eq_some_iff.1 hx
  rw [List.map_set, h]
  apply List.ext_getElem?
  intro j
  rw [List.getElem?_set]
  split
  · rename_i hj; subst hj; simp [hi]
  · rfl
theorem long_congr {l m : List Di} (h : l.map (fun d => d.nums.length) = m.map (fun d => d.nums.length)) : longW l = longW m := by
  have e1 : l.length = m.length := by have := congrArg List.length h; simpa using this
  have e2 : ∀ l : List Di, l.any (fun d => decide (1000 < d.nums.length)) = (l.map (fun d => d.nums.length)).any (fun k => decide (1000 < k)) := fun l => by rw [List.any_map]; rfl
  unfold longW
  rw [e1, e2 l, e2 m, h]
theorem datT_turn {d d' : Di} {x y : Rw} {xs : List Rw} (h1 : d.nums = x :: xs) (h2 : d' = { d with nums := y :: xs }) (hv : ng x.r.1 ≠ ng y.r.1) (P Q : Str) : datT d ++ P ≠ datT d' ++ Q := by
  subst h2
  obtain ⟨r, hr⟩ := joinC_cons (xs.map fun x => itoa x.r.1)
  unfold datT valT
  simp only [h1, List.map_cons, hr]
  intro he
  cases hL : d.list with
  | true =>
    simp only [hL, if_true, List.cons_append, List.append_assoc] at he
    have he := List.append_cancel_left he
    injection he with _ he
    injection he with _ he
    exact itoa_turn hv _ _ he
  | false =>
    simp only [hL, Bool.false_eq_true, if_false, List.cons_append, List.append_assoc] at he
    have he := List.append_cancel_left he
    injection he with _ he
    exact itoa_turn hv _ _ he
/-- what is written, and what is written with one number's sign turned -/
theorem turn_law {l : List Di} {i : Nat} {d : Di} {x y : Rw} {xs : List Rw} (hl : (writeP l).2 = 0) (hi : l[i]? = some d) (h1 : d.nums = x :: xs) (hy : y.ok = true) (hv : ng x.r.1 ≠ ng y.r.1) :
    (writeP (l.set i { d with nums := y :: xs })).2 = 0 ∧ (writeP (l.set i { d with nums := y :: xs })).1 ≠ (writeP l).1 := by
  have hw : okW [] l = true ∧ longW l = false := by
    unfold writeP at hl
    cases h2 : okW [] l with
    | false => rw [h2] at hl; cases hl
    | true =>
      cases h3 : longW l with
      | false => exact ⟨rfl, rfl⟩
      | true => rw [h2, h3] at hl; cases hl
  have hN : okN d = true := ((okW_mem l [] hw.1).1 d (List.mem_of_getElem? hi)).2.1
  have hN' : okN { d with nums := y :: xs } = true := by
    unfold okN at hN ⊢
    rw [h1, List.all_cons, Bool.and_eq_true] at hN
    rw [List.all_cons, hy, hN.2]; rfl
  have hD : okD { d with nums := y :: xs } = okD d := by unfold okD; simp only [h1, List.length_cons]
  have e1 : okW [] (l.set i { d with nums := y :: xs }) = true := by
    rw [okW_congr _ l [] (set_map _ hi (by rw [hD, hN, hN']))]; exact hw.1
  have e2 : longW (l.set i { d with nums := y :: xs }) = false := by
    rw [long_congr (m := l) (set_map _ hi (by rw [h1]; rfl))]; exact hw.2
  unfold writeP
  rw [e1, e2, hw.1, hw.2]
  refine ⟨rfl, fun he => ?_⟩
  simp only [if_true, Bool.false_eq_true, if_false] at he
  obtain ⟨hlt, hd⟩ := List.getElem?_eq_some_iff.1 hi
  have s1 : l = l.take i ++ d :: l.drop (i + 1) := by rw [← hd, ← List.drop_eq_getElem_cons hlt, List.take_append_drop]
  rw [List.set_eq_take_append_cons_drop, if_pos hlt] at he
  unfold dataT at he
  rw [List.flatMap_append, List.flatMap_cons] at he
  rw [s1, List.flatMap_append, List.flatMap_cons, List.take_append_of_le_length (by rw [List.length_take]; omega), List.take_take, Nat.min_self] at he
  have he := List.append_cancel_left he
  exact datT_turn h1 rfl hv _ _ he.symm
end Go.Feed
end
section
/- Data in memory: rational numbers, rows of them, data. -/
namespace Go.Sx
open Go.RowKit Go.Num Go.Feed
/-- a number, in blocks that may be looked at -/
structure NmN (w : World) (N : Nat → Prop) (a : Option Addr) (k c n : Nat) : Prop where
  nm : Nm w a k c n
  ok : ∀ b o q, a = some ⟨b, o, q⟩ → 0 < k → N b
theorem NmN.fr {w w' : World} {S N : Nat → Prop} {a : Option Addr} {k c n : Nat} (h : NmN w N a k c n) (hf : Fr S w w') (hn : ∀ j, N j → ¬ S j) : NmN w' N a k c n := ⟨h.nm.frS hf (fun b o q ha hk => hn b (h.ok b o q ha hk)), h.ok⟩
theorem NmN.mono {w : World} {N N' : Nat → Prop} {a : Option Addr} {k c n : Nat} (h : NmN w N a k c n) (hn : ∀ j, N j → N' j) : NmN w N' a k c n := ⟨h.nm, fun b o q ha hk => hn b (h.ok b o q ha hk)⟩
theorem NmN.nil {w : World} {N : Nat → Prop} : NmN w N none 0 0 0 := ⟨Nm.nil w, fun _ _ _ h => by cases h⟩
theorem cell_lt {w : World} {b o : Nat} {v : Value} (h : w.cell? ⟨b, o, none⟩ = some v) : b < w.heap.size := by
  unfold World.cell? at h
  cases hb : w.heap[b]? with
  | none => simp [hb] at h
  | some x => exact lt_of_blk hb
theorem Nm.lt_ {w : World} {a : Option Addr} {k c n : Nat} (h : Nm w a k c n) (hk : 0 < k) : ∀ b o q, a = some ⟨b, o, q⟩ → b < w.heap.size := by
  obtain ⟨b', o', rfl, hc⟩ := h.cell 0 hk
  intro b o q he
  cases he
  exact cell_lt hc
theorem Nm.toN {w0 w : World} {a : Option Addr} {k c n : Nat} (h : Nm w a k c n) (hf : Fsh w0.heap.size a k) : NmN w (Nn w0 w) a k c n := ⟨h, fun b o q ha hk => ⟨hf b o q ha hk, h.lt_ hk b o q ha⟩⟩
theorem Kn.toN {x : Bw} {s0 : Nat} {a : Option Addr} {k c n : Nat} (h : Kn x a k c n) (hf : Fsh s0 a k) : NmN x.1 (Nb s0 x) a k c n := ⟨h.1, fun b o q ha hk => ⟨hf b o q ha hk, h.1.lt_ hk b o q ha, h.2 b o q ha hk⟩⟩
theorem NmN.kn {x : Bw} {N : Nat → Prop} {a : Option Addr} {k c n : Nat} (h : NmN x.1 N a k c n) (hn : ∀ j, N j → ¬ x.2 j) : Kn x a k c n := ⟨h.nm, fun b o q ha hk => hn b (h.ok b o q ha hk)⟩
/-- where a rational number's parts lie -/
abbrev A2 := (Option Addr × Nat) × (Option Addr × Nat)
abbrev rwE (x : Rw) (b : A2) : List Value := [.bool x.s, .slice b.1.1 x.p b.1.2, .slice b.2.1 x.q b.2.2]
structure rwT (w : World) (N : Nat → Prop) (x : Rw) (b : A2) : Prop where
  n : NmN w N b.1.1 x.p b.1.2 x.n
  d : NmN w N b.2.1 x.q b.2.2 x.d
theorem TL.rwt : TL rwT := ⟨fun h hf hn => ⟨h.n.fr hf hn, h.d.fr hf hn⟩, fun h hn => ⟨h.n.mono hn, h.d.mono hn⟩⟩
def rwC (w : World) (N : Nat → Prop) (x : Rw) (cs : List Value) : Prop := ∃ b, cs = rwE x b ∧ rwT w N x b
theorem TL.rwc : TL rwC := ⟨fun ⟨b, h, k⟩ hf hn => ⟨b, h, TL.rwt.fr k hf hn⟩, fun ⟨b, h, k⟩ hn => ⟨b, h, TL.rwt.mono k hn⟩⟩
/-- rows -/
def rowM {α : Type} (k : Nat) (M : World → (Nat → Prop) → α → List Value → Prop) (w : World) (N : Nat → Prop) (l : List α) (b : Option Addr × Nat) : Prop :=
  l.length ≤ b.2 ∧ ∀ (j : Nat) e, l[j]? = some e → ∃ cs, At w N b.1 (j * k) cs ∧ M w N e cs
theorem TL.row {α : Type} {k : Nat} {M : World → (Nat → Prop) → α → List Value → Prop} (hM : TL M) : TL (rowM k M) :=
  ⟨fun h hf hn => ⟨h.1, fun j e he => by obtain ⟨cs, h1, h2⟩ := h.2 j e he; exact ⟨cs, h1.fr hf hn, hM.fr h2 hf hn⟩⟩, fun h hn => ⟨h.1, fun j e he => by obtain ⟨cs, h1, h2⟩ := h.2 j e he; exact ⟨cs, h1.mono hn, hM.mono h2 hn⟩⟩⟩
theorem rowM.nil {α : Type} {k : Nat} {M : World → (Nat → Prop) → α → List Value → Prop} {w : World} {N : Nat → Prop} : rowM k M w N [] (none, 0) := ⟨Nat.le_refl _, fun j e h => by simp at h⟩
theorem rowM.take {α : Type} {k : Nat} {M : World → (Nat → Prop) → α → List Value → Prop} {w : World} {N : Nat → Prop} {l : List α} {b : Option Addr × Nat} (h : rowM k M w N l b) (i : Nat) : rowM k M w N (l.take i) b :=
  ⟨Nat.le_trans (by rw [List.length_take]; exact Nat.min_le_right _ _) h.1, fun j e he => h.2 j e (by
    rw [List.getElem?_take] at he
    split at he
    · exact he
    · cases he)⟩
abbrev rwsV := rowM 3 rwC
abbrev diE (d : Di) (b : Option Addr × Nat) : List Value := [str d.nm, .int .i64 d.at_, .bool d.list, .bool d.whole, .slice b.1 d.nums.length b.2]
def diT (w : World) (N : Nat → Prop) (d : Di) (b : Option Addr × Nat) : Prop := rwsV w N d.nums b
theorem TL.dit : TL diT := ⟨fun h hf hn => (TL.row TL.rwc).fr h hf hn, fun h hn => (TL.row TL.rwc).mono h hn⟩
def diC (w : World) (N : Nat → Prop) (d : Di) (cs : List Value) : Prop := ∃ b, cs = diE d b ∧ diT w N d b
theorem TL.dic : TL diC := ⟨fun ⟨b, h, k⟩ hf hn => ⟨b, h, TL.dit.fr k hf hn⟩, fun ⟨b, h, k⟩ hn => ⟨b, h, TL.dit.mono k hn⟩⟩
abbrev disV := rowM 5 diC
/-- a row of the call's own, as a slice -/
theorem own_row {α : Type} {k : Nat} {M : World → (Nat → Prop) → α → List Value → Prop} {w : World} {N : Nat → Prop} {T : TypeId} {l : List α} {v : Value} {xs : List Value} {W : Heap} (h : Own T k v xs l.length W) (hW : ∀ p ∈ W, w.heap[p.1]? = some p.2) (hN : ∀ p ∈ W, N p.1) (hm : Mc k M w N l xs) :
    ∃ b : Option Addr × Nat, v = .slice b.1 l.length b.2 ∧ rowM k M w N l b := by
  obtain ⟨hl, h⟩ := h
  rcases h with ⟨rfl, h0, rfl⟩ | ⟨q, c, sp, rfl, hc, hsp, rfl⟩
  · have : l = [] := List.length_eq_zero_iff.1 h0
    subst this
    exact ⟨(none, 0), rfl, rowM.nil⟩
  · refine ⟨(some ⟨q, 0, none⟩, c), rfl, hc, fun j e he => ⟨(xs.drop (j * k)).take k, ?_, hm j e he⟩⟩
    have hb := hW _ (List.mem_singleton.2 rfl)
    have hq := hN _ (List.mem_singleton.2 rfl)
    refine at_blk hb hq (fun i v hi => ?_)
    have hik : i < k := by have := (List.getElem?_eq_some_iff.1 hi).1; rw [List.length_take] at this; omega
    rw [List.getElem?_take, if_pos hik, List.getElem?_drop] at hi
    rw [List.getElem?_append_left (List.getElem?_eq_some_iff.1 hi).1]; exact hi
theorem Kt.snocW {x : Bw} {s0 : Nat} {e : Rw} {b : A2} {l : List Rw} {xs : List Value} (hl : Kt x s0 (Mc 3 rwC) l xs) (h : Kt x s0 rwT e b) (hx : xs.length = l.length * 3) : Kt x s0 (Mc 3 rwC) (l ++ [e]) (xs ++ rwE e b) := Mc.snoc hl hx rfl ⟨b, rfl, h⟩
theorem Kt.snocI {x : Bw} {s0 : Nat} {e : Di} {b : Option Addr × Nat} {l : List Di} {xs : List Value} (hl : Kt x s0 (Mc 5 diC) l xs) (h : Kt x s0 diT e b) (hx : xs.length = l.length * 5) : Kt x s0 (Mc 5 diC) (l ++ [e]) (xs ++ diE e b) := Mc.snoc hl hx rfl ⟨b, rfl, h⟩
end Go.Sx
end
section
/- Calls that write several blocks in hand; a row of tokens that is read from its front. -/
namespace Go.Sx
open Go.RowKit Go.Num Go.Feed
/-- the place of the element behind k, as slicing tells it (3 cells each) -/
def aK (a : Option Addr) (c k : Nat) : Option Addr := a.map fun z => z.add (3 * min k (c - 1))
theorem add_zero_ (z : Addr) : z.add 0 = z := by obtain ⟨b, o, s⟩ := z; unfold Addr.add; cases s <;> simp
theorem add_add_ (z : Addr) (i j : Nat) : (z.add i).add j = z.add (i + j) := by
  obtain ⟨b, o, s⟩ := z
  unfold Addr.add
  split <;> simp_all <;> first | omega | (split <;> simp_all <;> omega)
theorem aK_zero (a : Option Addr) (c : Nat) : aK a c 0 = a := by
  unfold aK
  cases a with
  | none => rfl
  | some z => simp [add_zero_]
section
variable {P : Program} {ρ : Operand → Value} {w : World} {D : Option Tmp} {t ty yt : TypeId} {pos : String} {aft : Array Edge} {g : Option (Nat × Bool)} {x y : Operand} {a : Option Addr} {k c n i : Nat} {kk kl kh : IntKind}
theorem R_low3 (hu : slB P t 3 = true) (hx : ρ x = .slice (aK a c k) (n - k) (c - k)) {lo : Operand} (hlo : ρ lo = .int kl 1) (h1 : k < n) (h2 : n ≤ c) :
    Run P ⟨D, .slice t x (some lo) none none, ty, pos, aft, g⟩ ρ w (.slice (aK a c (k + 1)) (n - (k + 1)) (c - (k + 1))) w := by
  obtain ⟨e, ti, h3, h4, h5⟩ := slB_spec hu
  have h6 : (1 : Int) ≤ ((n - k : Nat) : Int) := by omega
  have e1 : (if c - k = 1 then aK a c k else (aK a c k).map fun z => z.add 3) = aK a c (k + 1) := by
    unfold aK
    cases a with
    | none => split <;> rfl
    | some z =>
      split
      · rename_i h
        simp only [Option.map_some]
        rw [show min k (c - 1) = min (k + 1) (c - 1) by omega]
      · rename_i h
        simp only [Option.map_some]
        rw [add_add_, show 3 * min k (c - 1) + 3 = 3 * min (k + 1) (c - 1) by omega]
  have e2 : n - k - 1 = n - (k + 1) := by omega
  have e3 : c - k - 1 = c - (k + 1) := by omega
  simp [Run, execOp, hx, hlo, go_sem, Instr.sliceAt, Instr.slice, run_underlying h3, Instr.sliceBounds, Instr.sliceBound, asIntOf, h6, sizeOf, typeInfo, h4, h5, e2, e3]
  exact e1
theorem aK_some {b o c k n : Nat} (h : k < n) (hc : n ≤ c) : aK (some ⟨b, o, none⟩) c k = some ⟨b, o + 3 * k, none⟩ := by
  unfold aK Addr.add
  simp [show min k (c - 1) = k by omega]
end
/-- several blocks in hand, written by a call: o: what holds them then -/
theorem St.modX {B : Base} {A X X' : Heap} {w w' : World} (h : St B (A ++ X) w) (k : Fr (inL X) w w') (hX : ∀ p ∈ X', w'.heap[p.1]? = some p.2 ∧ (inL X p.1 ∨ w.heap.size ≤ p.1)) (hn : (X'.map (·.1)).Nodup) : St B (A ++ X') w' := by
  have hA : ∀ p ∈ A, p.1 < w.heap.size ∧ ¬ inL X p.1 := fun p hp => by
    refine ⟨lt_of_blk (h.own p (List.mem_append_left _ hp)), fun hx => ?_⟩
    have hnd := h.nd
    rw [List.map_append, List.nodup_append] at hnd
    exact hnd.2.2 _ (List.mem_map_of_mem (f := fun q : Nat × Obj => q.1) hp) _ hx rfl
  refine ⟨fun x hx => (h.fr x hx).trans' k (fun _ _ s => s) ?_, ?_, ?_, ?_⟩
  · intro j hj hjX
    obtain ⟨p, hp, rfl⟩ := List.mem_map.1 hjX
    rcases h.ok p (List.mem_append_right _ hp) x hx with hh | hh
    · exact hh
    · omega
  · intro p hp
    rcases List.mem_append.1 hp with hp | hp
    · exact k.get (h.own p (List.mem_append_left _ hp)) (hA p hp).2
    · exact (hX p hp).1
  · have hnd := h.nd
    rw [List.map_append, List.nodup_append] at hnd
    rw [List.map_append, List.nodup_append]
    refine ⟨hnd.1, hn, ?_⟩
    intro i hi j hj hij
    obtain ⟨p, hp, rfl⟩ := List.mem_map.1 hi
    obtain ⟨q, hq, rfl⟩ := List.mem_map.1 hj
    have h1 := hA p hp
    rcases (hX q hq).2 with hh | hh
    · exact h1.2 (by rw [hij]; exact hh)
    · omega
  · intro p hp x hx
    rcases List.mem_append.1 hp with hp | hp
    · exact h.ok p (List.mem_append_left _ hp) x hx
    · rcases (hX p hp).2 with hh | hh
      · obtain ⟨q, hq, he⟩ := List.mem_map.1 hh
        rw [← he]
        exact h.ok q (List.mem_append_right _ hq) x hx
      · exact .inr (Nat.le_trans (h.fr x hx).size hh)
/-- blocks of a kind that may be looked at: old ones, new ones, but those in hand -/
def Nx (N : Nat → Prop) (w w' : World) (X' : Heap) : Nat → Prop := fun j => N j ∨ (Nn w w' j ∧ ¬ inL X' j)
theorem Nx.nb {B : Base} {A X X' : Heap} {w w' : World} {s0 : Nat} (h : St B (A ++ X) w) (k : Fr (inL X) w w') (hX : ∀ p ∈ X', w'.heap[p.1]? = some p.2 ∧ (inL X p.1 ∨ w.heap.size ≤ p.1)) (hs : s0 ≤ w.heap.size) :
    ∀ j, Nx (Nb s0 (w, inL (A ++ X))) w w' X' j → Nb s0 (w', inL (A ++ X')) j := by
  intro j hj
  have hA : ∀ p ∈ A, p.1 < w.heap.size := fun p hp => lt_of_blk (h.own p (List.mem_append_left _ hp))
  rcases hj with ⟨h1, h2, h3⟩ | ⟨⟨h1, h2⟩, h3⟩
  · refine ⟨h1, Nat.lt_of_lt_of_le h2 k.size, fun hm => ?_⟩
    obtain ⟨p, hp, rfl⟩ := List.mem_map.1 hm
    rcases List.mem_append.1 hp with hp | hp
    · exact h3 (List.mem_map_of_mem (f := fun q : Nat × Obj => q.1) (List.mem_append_left _ hp))
    · rcases (hX p hp).2 with hh | hh
      · obtain ⟨q, hq, he⟩ := List.mem_map.1 hh
        exact h3 (by rw [← he]; exact List.mem_map_of_mem (f := fun q : Nat × Obj => q.1) (List.mem_append_right _ hq))
      · have h2' : p.1 < w.heap.size := h2
        omega
  · refine ⟨Nat.le_trans hs h1, h2, fun hm => ?_⟩
    obtain ⟨p, hp, rfl⟩ := List.mem_map.1 hm
    rcases List.mem_append.1 hp with hp | hp
    · have := hA p hp; omega
    · exact h3 (List.mem_map_of_mem hp)
section
variable {P : Program} {ops : Array Oper} {Q : Exit → Act → World → Prop} {c : Cf} {e : Env} {rest : List Oper} {o : Oper} {d : Nat} {B : Base} {A X : Heap} {f : FuncId} {args : Array Value}
/-- what a call that writes blocks in hand tells: R: the value, the blocks, and what is known of the world then -/
def TelX (X : Heap) (R : Value → Heap → (Nat → Prop) → World → Prop) (N : Nat → Prop) (w : World) : Value → World → Prop := fun v w' =>
  ∃ X', R v X' (Nx N w w' X') w' ∧ Fr (inL X) w w' ∧ (∀ p ∈ X', w'.heap[p.1]? = some p.2 ∧ (inL X p.1 ∨ w.heap.size ≤ p.1)) ∧ (X'.map (·.1)).Nodup
theorem w_callX {R : Value → Heap → (Nat → Prop) → World → Prop} {s0 : Nat} (hm : ∀ v X' N N' w, R v X' N w → (∀ j, N j → N' j) → R v X' N' w) (hr : ∀ w, RunE P o (ev c.n e) w f args) (hg : plainB o = true) (hd : o.dst = some d) (hs : ∀ w, St B (A ++ X) w → s0 ≤ w.heap.size)
    (hc : ∀ w, St B (A ++ X) w → Ret P f args w (TelX X R (Nb s0 (w, inL (A ++ X))) w))
    (h : ∀ v X' w1, R v X' (Nb s0 (w1, inL (A ++ X'))) w1 → WX .sq P ops c Q rest (upd e d v) ((w1, inL (A ++ X')) :: B) (A ++ X')) : WX .sq P ops c Q (o :: rest) e B (A ++ X) :=
  w_callR hr hg hd hc fun w hw v w' ⟨X', h1, h2, h3, h4⟩ =>
    ⟨_, _, (hw.modX h2 h3 h4).base1, h v X' w' (hm _ _ _ _ _ h1 (Nx.nb hw h2 h3 (hs w hw)))⟩
end
theorem St.telX {B : Base} {A X X' : Heap} {w w' : World} {R : Value → Heap → (Nat → Prop) → World → Prop} {N : Nat → Prop} {v : Value} (hw : St B (A ++ X') w') (hx : (w, inL X) ∈ B) (hR : R v X' (Nx N w w' X') w') : TelX X R N w v w' :=
  ⟨X', hR, hw.fr _ hx, fun p hp => ⟨hw.own p (List.mem_append_right _ hp), hw.ok p (List.mem_append_right _ hp) _ hx⟩, by
    have := hw.nd
    rw [List.map_append, List.nodup_append] at this
    exact this.2.1⟩
/-- a number that was told meanwhile -/
theorem Kn.nx {B : Base} {A X' : Heap} {w w' : World} {x : Bw} {N : Nat → Prop} {a : Option Addr} {k c n : Nat} (h : Kn x a k c n) (hx : x ∈ B) (hw : St B (A ++ X') w') (hf : Fsh w.heap.size a k) : NmN w' (Nx N w w' X') a k c n := by
  obtain ⟨i, hi⟩ := List.getElem?_of_mem hx
  have hn := h.at_ i hi hw
  refine ⟨hn, fun b o q ha hk => .inr ⟨⟨hf b o q ha hk, hn.lt_ hk b o q ha⟩, fun hm => ?_⟩⟩
  obtain ⟨p, hp, he⟩ := List.mem_map.1 hm
  rcases hw.ok p (List.mem_append_right _ hp) x hx with h1 | h1
  · exact h.2 b o q ha hk (by rw [← he]; exact h1)
  · have := h.1.lt_ hk b o q ha
    omega
theorem Mc.nx {α : Type} {k : Nat} {M : World → (Nat → Prop) → α → List Value → Prop} (hM : TL M) {B : Base} {L X X' : Heap} {w w' : World} {N : Nat → Prop} {l : List α} {xs : List Value} (h : Mc k M w N l xs) (hN : ∀ j, N j → ¬ inL X j) (hx : (w, inL X) ∈ B) (hw : St B L w') : Mc k M w' (Nx N w w' X') l xs :=
  (TL.cells hM).mono ((TL.cells hM).fr h (hw.fr _ hx) hN) fun _ hj => .inl hj
/-- the blocks that a call is to write, alone -/
theorem St.part {B : Base} {A X : Heap} {w : World} (h : St B (A ++ X) w) : St [(w, inL X)] X w :=
  ⟨fun x hx => by rw [List.mem_singleton.1 hx]; exact Fr.refl _ _, fun p hp => h.own p (List.mem_append_right _ hp), by
    have := h.nd
    rw [List.map_append, List.nodup_append] at this
    exact this.2.1, fun p hp x hx => by rw [List.mem_singleton.1 hx]; exact .inl (List.mem_map_of_mem hp)⟩
end Go.Sx
end
section
namespace Go.Proofs.YtikdkendinnalaaGreatDoor
open Go.RowKit Go.Sx
open Go.Tok Go.Tree Go.Prs Go.Feed
abbrev Rr (ta : Option Addr) (tc n z k e a : Nat) : Obj := cel [.slice (aK ta tc k) (n - k) (tc - k), .int .i64 (z : Nat), .int .i64 (e : Nat), .int .i64 (a : Nat)] 61
/-- what the world must have: the library's tables, the tokens -/
structure Pf (w : World) (M : Nat → Prop) (T : List Tk) (ta : Option Addr) (tc z : Nat) : Prop where
  wd : Wd w
  gl : ∀ j, M j → 11 ≤ j
  tk : ∀ k t, T[k]? = some t → At w (fun j => ¬ M j) ta (k * 3) (tkC t)
  le : T.length ≤ tc
  len : T.length ≤ 6000
  zz : z ≤ 10000000
  tb : ∀ t ∈ T, t.2.1.length ≤ 20000 ∧ t.2.2 ≤ 10000000
  nt : ∀ t ∈ T, t.1 = 2 → NumT t.2.1
theorem Wd.frS {w w' : World} {S : Nat → Prop} (h : Wd w) (k : Fr S w w') (hs : ∀ j, S j → 11 ≤ j) : Wd w' := ⟨h.tb.fr k (fun x => absurd (hs _ x) (by decide)), Nat.le_trans h.gs k.size, by obtain ⟨m, hm⟩ := h.ml; exact ⟨m, k.cell hm (fun x => absurd (hs _ x) (by decide))⟩⟩
theorem Pf.fr {w w' : World} {M : Nat → Prop} {tc z : Nat} {ta : Option Addr} {T : List Tk} {S : Nat → Prop} (h : Pf w M T ta tc z) (k : Fr S w w') (hs : ∀ j, S j → M j) : Pf w' M T ta tc z :=
  ⟨h.wd.frS k (fun j hj => h.gl j (hs j hj)), h.gl, fun i t hi => (h.tk i t hi).fr k (fun j hj hS => hj (hs j hS)), h.le, h.len, h.zz, h.tb, h.nt⟩
theorem Pf.now {w w' : World} {M : Nat → Prop} {tc z : Nat} {ta : Option Addr} {T : List Tk} {S : Nat → Prop} {B : Base} {L : Heap} (h : Pf w M T ta tc z) (hx : (w, S) ∈ B) (hs : ∀ j, S j → M j) (hw : St B L w') : Pf w' M T ta tc z := h.fr (hw.fr _ hx) hs
theorem Pf.no {w w' : World} {M : Nat → Prop} {tc z : Nat} {ta : Option Addr} {T : List Tk} {B : Base} {L : Heap} (h : Pf w M T ta tc z) (hx : (w, No) ∈ B) (hw : St B L w') : Pf w' M T ta tc z := h.fr (hw.fr _ hx) (fun _ h => h.elim)
theorem nowT_b {w : World} {M : Nat → Prop} {tc z k : Nat} {ta : Option Addr} {T : List Tk} (h : Pf w M T ta tc z) : (nowT z (T.drop k)).2.1.length ≤ 20000 ∧ (nowT z (T.drop k)).2.2 ≤ 10000000 := by
  cases hd : T.drop k with
  | nil => exact ⟨by simp [nowT], h.zz⟩
  | cons t l => exact h.tb t (List.mem_of_mem_drop (hd ▸ List.mem_cons_self))
theorem place_now (z : Nat) (ts : List Tk) : place z ts = (nowT z ts).2.2 := by cases ts <;> rfl
theorem now_lt {T : List Tk} {k z : Nat} (h : (nowT z (T.drop k)).1 ≠ 0) : k < T.length := by
  rcases Nat.lt_or_ge k T.length with h' | h'
  · exact h'
  · rw [show T.drop k = [] from List.drop_eq_nil_of_le h'] at h; exact absurd rfl h
theorem drop_tl {T : List Tk} {k : Nat} : (T.drop k).tail = T.drop (k + 1) := by rw [List.tail_drop]
theorem isG_now (x : Str) (z : Nat) (ts : List Tk) : isG x ts = (decide ((nowT z ts).1 = 3) && decide ((nowT z ts).2.1 = x)) := by
  cases ts with
  | nil => rfl
  | cons t r => rfl
theorem isG_lt {x : Str} {T : List Tk} {k : Nat} (h : isG x (T.drop k) = true) : k < T.length := by
  rw [isG_now x 0, Bool.and_eq_true, decide_eq_true_eq] at h
  exact now_lt (z := 0) (by rw [h.1]; decide)
set_option maxRecDepth 100000 in
set_option maxHeartbeats 400000 in
theorem fnow_ok (rb z k e9 a9 : Nat) (M : Nat → Prop) (tc : Nat) (ta : Option Addr) (T : List Tk) (w : World) (hP : Pf w M T ta tc z) (hb : w.heap[rb]? = some (Rr ta tc T.length z k e9 a9)) (hk : k ≤ T.length) :
    Ret Tryz.prog 22 #[.pointer (some ⟨rb, 0, none⟩)] w (fun v w' => v = .agg (tkC (nowT z (T.drop k))).toArray ∧ Ext w w') := by
  have hlen := hP.len
  refine enter (S := No) (l := [_]) (L := []) 20 Tryz.func22 rfl rfl rfl (St.start w No) ?_; refine yA ?_; refine w_alloc zr64 (fun t2b gt2b ut2b => ?_)
  refine yB ?_; refine zq ?_; refine yA ?_; refine mP rfl ?_; refine w_nilc rfl ?_; refine zf fa61_0 rfl ?_; refine zl z59 rfl (fun _ h => cel_oldb hb (.head _) (fun x => x) rfl h) ?_; refine w_r (fun _ => R_len sl59 rfl) rfl rfl ?_; refine w_r (fun _ => R_gt rfl rfl) rfl rfl ?_; refine yB ?_; refine zD rfl (fun h2 => ?_) (fun h2 => ?_)
  · have hlt : k < T.length := (by omega); obtain ⟨b1, o1, hta, hne, hc1⟩ := hP.tk k _ (List.getElem?_eq_getElem hlt); subst hta; have hak : aK (some ⟨b1, o1, none⟩) tc k = some ⟨b1, o1 + 3 * k, none⟩ := aK_some hlt hP.le
    refine yA ?_; refine mP rfl ?_; refine w_nilc rfl ?_; refine zf fa61_0 rfl ?_; refine zl (v := .slice (some ⟨b1, o1 + 3 * k, none⟩) (T.length - k) (tc - k)) z59 rfl (fun w h => by rw [← hak]; exact cel_oldb hb (.head _) (fun x => x) rfl h) ?_; refine w_r (fun _ => R_iaN (i := 0) sl59 rfl rfl (by first | omega | decide | exact Nat.succ_pos _ | exact Nat.succ_lt_succ (Nat.succ_pos _))) rfl rfl ?_; refine w_loadC (l := tkC T[k]) z64 rfl rfl (fun w h j v hj => by have h9 := cel_old (.head _) (hc1 j v hj) (fun x => x) h; rwa [show o1 + k * 3 + j = o1 + 3 * k + 0 * 3 + j by omega] at h9) ?_; refine w_store 0 rfl z64 rfl rfl rfl rfl rfl rfl rfl ?_; refine yB ?_; refine ze ?_; refine zt (?_)
    refine r_fin (.inl rfl) rfl (.agg rfl rfl z64 (fun _ h => h.at_ 0 rfl) rfl .nil) ?_; exact fun w' hw => ⟨by rw [List.drop_eq_getElem_cons hlt]; rfl, hw.fr _ (.head _)⟩
  · refine zi ?_; refine zk ?_; refine yA ?_; refine mP rfl ?_; refine w_nilc rfl ?_; refine zf fa61_1 rfl ?_; refine zl z3 rfl (fun _ h => cel_oldb hb (.head _) (fun x => x) rfl h) ?_; refine w_r (fun _ => R_build bt64 rfl) rfl rfl ?_; refine w_store 0 rfl z64 rfl rfl rfl rfl rfl rfl rfl ?_; refine yB ?_; refine ze ?_; refine r_fin (.inl rfl) rfl (.agg rfl rfl z64 (fun _ h => h.at_ 0 rfl) rfl .nil) ?_; exact fun w' hw => ⟨by rw [show T.drop k = [] from List.drop_eq_nil_of_le (by omega)]; rfl, hw.fr _ (.head _)⟩
set_option maxRecDepth 100000 in
set_option maxHeartbeats 400000 in
theorem ffail_ok (e : Nat) (rb z k e9 a9 : Nat) (M : Nat → Prop) (tc : Nat) (ta : Option Addr) (T : List Tk) (w : World) (hP : Pf w M T ta tc z) (hb : w.heap[rb]? = some (Rr ta tc T.length z k e9 a9)) (hk : k ≤ T.length) (hM : M rb) :
    Ret Tryz.prog 24 #[.pointer (some ⟨rb, 0, none⟩), .int .i64 (e : Nat)] w (fun v w' => v = .bool false ∧ Fr (fun j => j = rb) w w' ∧ w'.heap[rb]? = some (Rr ta tc T.length z (k) (e) (place z (T.drop k)))) := by
  refine enter (S := (fun j => j = rb)) (l := [_, _]) (L := [(rb, Rr ta tc T.length z (k) (e9) (a9))]) 13 Tryz.func24 rfl rfl rfl (St.start1 w hb rfl) ?_; refine yA ?_; refine aB rfl ?_; refine yC ?_; refine mP rfl ?_; refine mI rfl ?_; refine mP rfl ?_; refine zC (fun w => zR Tryz.func22 rfl rfl rfl) rfl rfl (fun w h => fnow_ok rb z k e9 a9 M tc ta T w (hP.now (.head _) (fun j hj => by rw [hj]; exact hM) h) (h.at_ 0 rfl) (by omega)) ?_; refine w_r (fun _ => R_fieldA fd64_2 z3 rfl rfl) rfl rfl ?_; refine w_r (fun _ => R_build bt27 rfl) rfl rfl ?_; refine w_nilc rfl ?_; refine zf fa61_2 rfl ?_
  refine w_store 0 rfl z27 rfl rfl rfl rfl rfl rfl rfl ?_; refine yC ?_; refine aB rfl ?_; refine yB ?_; refine ze ?_; refine zo (v := .bool _) rfl rfl rfl ?_; exact fun w' hw => ⟨rfl, hw.fr _ (.head _), by rw [place_now]; exact hw.at_ 0 rfl⟩
set_option maxRecDepth 100000 in
set_option maxHeartbeats 400000 in
theorem ftake_ok (x : Str) (rb z k e9 a9 : Nat) (M : Nat → Prop) (tc : Nat) (ta : Option Addr) (T : List Tk) (w : World) (hP : Pf w M T ta tc z) (hb : w.heap[rb]? = some (Rr ta tc T.length z k e9 a9)) (hk : k ≤ T.length) (hM : M rb) :
    Ret Tryz.prog 61 #[.pointer (some ⟨rb, 0, none⟩), str x] w (fun v w' => v = .bool (isG x (T.drop k)) ∧ Fr (fun j => j = rb) w w' ∧ w'.heap[rb]? = some (Rr ta tc T.length z ((if isG x (T.drop k) = true then k + 1 else k)) (e9) (a9))) := by
  have hlen := hP.len
  refine enter (S := (fun j => j = rb)) (l := [_, _]) (L := [(rb, Rr ta tc T.length z (k) (e9) (a9))]) 25 Tryz.func61 rfl rfl rfl (St.start1 w hb rfl) ?_; refine yA ?_; refine aB rfl ?_; refine yB ?_; refine zq ?_; refine yA ?_; refine mP rfl ?_; refine zC (fun w => zR Tryz.func22 rfl rfl rfl) rfl rfl (fun w h => fnow_ok rb z k e9 a9 M tc ta T w (hP.now (.head _) (fun j hj => by rw [hj]; exact hM) h) (h.at_ 0 rfl) (by omega)) ?_; refine w_alloc zr64 (fun t5b gt5b ut5b => ?_)
  refine w_store 0 rfl z64 rfl rfl rfl rfl rfl rfl rfl ?_; refine yC ?_; refine zf fa64_0 rfl ?_; refine zl z5 rfl (fun _ h => zc 0 rfl rfl h) ?_; refine w_r (fun _ => R_ne rfl rfl) rfl rfl ?_; refine mB rfl ?_; refine zd (t := 11) rfl (fun h2 => ?_) (fun h2 => ?_)
  · refine zs rfl rfl (bT h2) ?_; refine zs rfl rfl (bT h2) ?_; refine zs rfl rfl (bT h2) ?_; refine zs rfl rfl (bT h2) ?_; refine w_r (v := .bool _) (fun _ => zT (bT h2) rfl) rfl rfl ?_; refine yB ?_; refine zE rfl ?_; refine yA ?_; refine aB rfl ?_; refine yB ?_; refine ze ?_; refine zt (?_)
    have ha : isG x (T.drop k) = false := by rw [isG_now x z, decide_eq_false (show ¬ (nowT z (T.drop k)).1 = 3 by omega), Bool.false_and]
    rw [ha, if_neg (by decide)]
    refine zo (v := .bool _) rfl rfl rfl ?_; exact fun w' hw => ⟨rfl, hw.fr _ (.head _), hw.at_ 1 rfl⟩
  · refine zw rfl rfl (bF h2) ?_; refine zf fa64_1 rfl ?_; refine zw rfl rfl (bF h2) ?_; refine zl z9 rfl (fun _ h => zc 0 rfl rfl h) ?_; refine zw rfl rfl (bF h2) ?_; refine zm (v := str _) rfl ?_; refine zw rfl rfl (bF h2) ?_; refine w_r (fun _ => R_sne rfl rfl) rfl rfl ?_; refine w_r (v := .bool _) (fun _ => zF (bF h2) rfl) rfl rfl ?_; refine yB ?_; refine zD rfl (fun h3 => ?_) (fun h3 => ?_)
    · refine yA ?_; refine aB rfl ?_; refine yB ?_; refine ze ?_; refine zt (?_)
      have ha : isG x (T.drop k) = false := by rw [isG_now x z, decide_eq_false h3, Bool.and_false]
      rw [ha, if_neg (by decide)]
      refine zo (v := .bool _) rfl rfl rfl ?_; exact fun w' hw => ⟨rfl, hw.fr _ (.head _), hw.at_ 1 rfl⟩
    · have ha : isG x (T.drop k) = true := (by rw [isG_now x z, decide_eq_true (by omega), decide_eq_true (Decidable.not_not.1 h3)]; rfl); have hlt := isG_lt ha
      refine zi ?_; refine zk ?_; refine yA ?_; refine mP rfl ?_; refine mP rfl ?_; refine w_nilc rfl ?_; refine zf fa61_0 rfl ?_; refine zl z59 rfl (fun _ h => zc 1 rfl rfl h) ?_; refine w_r (fun _ => R_low3 sl59 rfl rfl hlt hP.le) rfl rfl ?_; refine w_nilc rfl ?_; refine zf fa61_0 rfl ?_; refine w_store 1 rfl z59 rfl rfl rfl rfl rfl rfl rfl ?_; refine yC ?_; refine aB rfl ?_; refine yB ?_; refine ze ?_
      rw [ha, if_pos rfl]
      refine zo (v := .bool _) rfl rfl rfl ?_; exact fun w' hw => ⟨rfl, hw.fr _ (.head _), hw.at_ 1 rfl⟩
set_option maxRecDepth 100000 in
set_option maxHeartbeats 400000 in
theorem fwant_ok (x : Str) (rb z k e9 a9 : Nat) (M : Nat → Prop) (tc : Nat) (ta : Option Addr) (T : List Tk) (w : World) (hP : Pf w M T ta tc z) (hb : w.heap[rb]? = some (Rr ta tc T.length z k e9 a9)) (hk : k ≤ T.length) (hM : M rb) :
    Ret Tryz.prog 25 #[.pointer (some ⟨rb, 0, none⟩), str x] w (fun v w' => v = .bool (isG x (T.drop k)) ∧ Fr (fun j => j = rb) w w' ∧ w'.heap[rb]? = some (if isG x (T.drop k) = true then Rr ta tc T.length z (k + 1) (e9) (a9) else Rr ta tc T.length z (k) (130) (place z (T.drop k)))) := by
  refine enter (S := (fun j => j = rb)) (l := [_, _]) (L := [(rb, Rr ta tc T.length z (k) (e9) (a9))]) 12 Tryz.func25 rfl rfl rfl (St.start1 w hb rfl) ?_; refine yA ?_; refine aB rfl ?_; refine yC ?_; refine mP rfl ?_; refine zm (v := str _) rfl ?_
  cases hg1 : isG x (T.drop (k))
  · refine w_call1 0 rfl (fun w => zR Tryz.func61 rfl rfl rfl) rfl rfl (fun w h => by have h9 := ftake_ok x rb z (k) (e9) (a9) M tc ta T w (hP.now (.head _) (fun j hj => by rw [hj]; exact hM) h) (h.at_ 0 rfl) (by omega) hM; rw [hg1, if_neg (by decide)] at h9; exact h9) ?_; refine mB rfl ?_; refine zw rfl rfl rfl ?_; refine mP rfl ?_; refine zw rfl rfl rfl ?_; refine w_call1 0 rfl (fun w => zR Tryz.func24 rfl rfl rfl) rfl rfl (fun w h => ffail_ok 130 rb z (k) (e9) (a9) M tc ta T w (hP.now (.head _) (fun j hj => by rw [hj]; exact hM) h) (h.at_ 0 rfl) (by omega) hM) ?_; refine w_r (v := .bool _) (fun _ => zF rfl rfl) rfl rfl ?_; refine aB rfl ?_; refine yB ?_; refine ze ?_
    rw [if_neg (by decide)]
    refine zo (v := .bool _) rfl rfl rfl ?_; exact fun w' hw => ⟨rfl, hw.fr _ (.head _), hw.at_ 0 rfl⟩
  · refine w_call1 0 rfl (fun w => zR Tryz.func61 rfl rfl rfl) rfl rfl (fun w h => by have h9 := ftake_ok x rb z (k) (e9) (a9) M tc ta T w (hP.now (.head _) (fun j hj => by rw [hj]; exact hM) h) (h.at_ 0 rfl) (by omega) hM; rw [hg1, if_pos rfl] at h9; exact h9) ?_
    have hlt1 := isG_lt hg1
    refine mB rfl ?_; refine zs rfl rfl rfl ?_; refine zs rfl rfl rfl ?_; refine w_r (v := .bool _) (fun _ => zT rfl rfl) rfl rfl ?_; refine aB rfl ?_; refine yB ?_; refine ze ?_
    rw [if_pos rfl]
    refine zo (v := .bool _) rfl rfl rfl ?_; exact fun w' hw => ⟨rfl, hw.fr _ (.head _), hw.at_ 0 rfl⟩
end Go.Proofs.YtikdkendinnalaaGreatDoor
end
section
/- The plain part of layer feed: bytes, sizes of a numeral. -/
namespace Go.Feed
open Go.Tok Go.Tree Go.Prs Go.Num
theorem NumT.ascii {s : Str} (h : NumT s) : ∀ (j : Nat) b, s[j]? = some b → b.toNat < 128 := by
  intro j b hb
  have hj : j < s.length := (List.getElem?_eq_some_iff.1 hb).1
  have key : ∀ p : UInt8 → Bool, (∀ b, p b = true → b.toNat < 128) → atP p s j = true → b.toNat < 128 := fun p hp ha => by
    unfold atP at ha
    rw [hb] at ha
    exact hp b ha
  have hd : ∀ b, digitB b = true → b.toNat < 128 := byte_all (fun b => digitB b = true → b.toNat < 128) (by decide +kernel)
  have hdot : ∀ b, eqB 46 b = true → b.toNat < 128 := byte_all (fun b => eqB 46 b = true → b.toNat < 128) (by decide +kernel)
  have he : ∀ b, eqB 101 b = true → b.toNat < 128 := byte_all (fun b => eqB 101 b = true → b.toNat < 128) (by decide +kernel)
  have hpm : ∀ b, pmB b = true → b.toNat < 128 := byte_all (fun b => pmB b = true → b.toNat < 128) (by decide +kernel)
  rcases Nat.lt_or_ge j (i1 s) with h1 | h1
  · exact key _ hd (run_all _ 0 rfl (Nat.zero_le _) h1)
  · rcases Nat.lt_or_ge j (i2 s) with h2 | h2
    · cases hq : dotB s with
      | false => rw [i2_no hq] at h2; omega
      | true =>
        by_cases hji : j = i1 s
        · subst hji; exact key _ hdot hq
        · exact key _ hd (run_all _ (i1 s + 1) rfl (by omega) (by rw [i2_yes hq]; exact h2))
    · cases hx : exB s with
      | false => have := h.d hx; omega
      | true =>
        have hc := h.c hx
        by_cases hji : j = i2 s
        · subst hji; exact key _ he hx
        · by_cases hk : k0 s ≤ j
          · exact key _ hd (run_all _ (k0 s) rfl hk (by have := hc.2.2; unfold k1 at this; omega))
          · have hk2 : k0 s = i2 s + 2 := by
              unfold k0 at hk ⊢
              split
              · rfl
              · rename_i hh; rw [if_neg hh] at hk; omega
            have hji2 : j = i2 s + 1 := by omega
            refine key _ hpm ?_
            rw [hji2, pm_eq]
            cases hp : (plB s || mnB s) with
            | true => exact hp
            | false =>
              unfold k0 at hk2
              rw [hp, if_neg (by decide)] at hk2
              omega
theorem mkR_pos {s : Bool} {n d : Nat} (h : d ≠ 0) : (mkR s n d).2 ≠ 0 := by
  have h1 : 0 < Nat.gcd n d := Nat.gcd_pos_of_pos_right _ (Nat.pos_of_ne_zero h)
  have h2 := Nat.div_pos (Nat.le_of_dvd (Nat.pos_of_ne_zero h) (Nat.gcd_dvd_right n d)) h1
  unfold mkR
  exact Nat.pos_iff_ne_zero.1 h2
theorem mkR_le (s : Bool) (n d : Nat) : (mkR s n d).1.natAbs ≤ n ∧ (mkR s n d).2 ≤ d := by
  unfold mkR
  rw [iv_abs]
  exact ⟨Nat.div_le_self _ _, Nat.div_le_self _ _⟩
theorem numV_pos (s : Str) : (numV s).2 ≠ 0 := by
  unfold numV
  split
  · exact mkR_pos (Nat.pos_iff_ne_zero.1 (Nat.pow_pos (by decide)))
  · exact mkR_pos (by decide)
theorem ten_mono {x k : Nat} (h : x < 10 ^ k) : sz x ≤ k / 16 + 1 := Nat.le_trans (sz_iff.2 (Nat.lt_of_lt_of_le h (Nat.le_of_lt (sz_iff.1 (sz_ten16 k))))) (Nat.le_refl _)
theorem ten_le {x l k : Nat} (h : x < 10 ^ l) (hl : l ≤ k) : x < 10 ^ k := Nat.lt_of_lt_of_le h (Nat.pow_le_pow_right (by decide) hl)
theorem numV_sz {s : Str} (h : NumT s) (hs : s.length ≤ 400) : sz (numV s).1.natAbs ≤ 1000 ∧ sz (numV s).2 ≤ 1000 := by
  have hp := h.pow_le hs
  have hd := h.dig
  have h1 := pv_bound (digs s) hd.1
  have hdl : (digs s).length ≤ 400 := Nat.le_trans hd.2.2 hs
  obtain ⟨J, hJ⟩ : ∃ J, J = 400 := ⟨_, rfl⟩
  obtain ⟨K, hK⟩ : ∃ K, K = 10399 := ⟨_, rfl⟩
  have h2 := ten_le (k := J) h1 (by omega)
  have mono : ∀ {x y : Nat}, x ≤ y → sz x ≤ sz y := fun hxy => sz_iff.2 (Nat.lt_of_le_of_lt hxy (lt_sz _))
  have hpa : (powr s).natAbs ≤ K := by omega
  have h3 : (10 : Nat) ^ (powr s).natAbs ≤ 10 ^ K := Nat.pow_le_pow_right (by decide) hpa
  unfold numV
  split
  · have hm := mkR_le false (pv 0 (digs s)) (10 ^ (powr s).natAbs)
    refine ⟨Nat.le_trans (mono hm.1) (Nat.le_trans (ten_mono h2) (by omega)), Nat.le_trans (mono hm.2) (Nat.le_trans (sz_ten16 _) (by omega))⟩
  · have hm := mkR_le false (pv 0 (digs s) * 10 ^ (powr s).natAbs) 1
    refine ⟨Nat.le_trans (mono hm.1) ?_, Nat.le_trans (mono hm.2) (by decide)⟩
    have h4 : pv 0 (digs s) * 10 ^ (powr s).natAbs < 10 ^ (J + K) := by
      rw [Nat.pow_add]
      exact Nat.lt_of_le_of_lt (Nat.mul_le_mul_left _ h3) (Nat.mul_lt_mul_of_pos_right h2 (Nat.pow_pos (by decide)))
    exact Nat.le_trans (ten_mono h4) (by omega)
theorem ngR_sz {x : Rt} : sz (ngR x).1.natAbs ≤ sz x.1.natAbs ∧ sz (ngR x).2 ≤ sz x.2 := by
  have hm := mkR_le (!ng x.1) x.1.natAbs x.2
  have mono : ∀ {x y : Nat}, x ≤ y → sz x ≤ sz y := fun hxy => sz_iff.2 (Nat.lt_of_le_of_lt hxy (lt_sz _))
  exact ⟨mono hm.1, mono hm.2⟩
end Go.Feed
end
section
/- Appends in regions that draw their order; maps keyed by texts (parts of SxL, for data). -/
namespace Go.Sx
open Go.RowKit
section
variable {P : Program} {ops : Array Oper} {Q : Exit → Act → World → Prop} {c : Cf} {e : Env} {B : Base} {L : Heap} {rest : List Oper} {d : Nat} {x y : Operand} {T : TypeId} {p : String} {ed : Array Edge} {t te bytes : Nat} {z v : Value} {xs : List Value} {W : Heap}
theorem o_app {q fuel k n m b2 o2 c2 : Nat} {S : World → Prop} {listed : Array Bool} {news : List Value} (A : Heap) (hq : ops[q]? = some ⟨some d, .call ⟨.builtin .append, #[x, y], #[t, t]⟩, T, p, ed, none⟩) (hT : slT P t te k bytes z) (hk : 0 < k) (hx : ev c.n e x = v) (hown : Own te k v xs n W) (hy : ev c.n e y = .slice (some ⟨b2, o2, none⟩) m c2)
    (hl : news.length = m * k) (hnews : ∀ w, St B (A ++ (W ++ L)) w → ∀ (j : Nat) u, news[j]? = some u → w.cell? ⟨b2, o2 + j, none⟩ = some u) (h1 : news.all Value.oneCell' = true) (hm : 0 < m) (h63 : n + m ≤ 9223372036854775807) (hbytes : (n + m) * bytes ≤ 140737488355328)
    (h : ∀ v' W', Own te k v' (xs ++ news) (n + m) W' → WH P ops c Q S fuel (listed.setIfInBounds q true) (upd e d v') B (A ++ (W' ++ L))) : WO P ops c Q S fuel listed q e B (A ++ (W ++ L)) :=
  o_val hq rfl rfl fun w hw => by
    obtain ⟨v', w', L2, k1, k2, k3⟩ := app_run (ρ := ev c.n e) (D := some d) (g := none) (x := x) (y := y) (T := T) (p := p) (ed := ed) (A := A) (L := L) (news := news) hT hk hx (hown.toR A L) hy hl hnews h1 hm h63 hbytes hw
    obtain ⟨W', k4, rfl⟩ := k2.own
    exact ⟨v', w', B, _, k1, k3, h v' W' k4⟩
theorem o_st {q fuel : Nat} {S : World → Prop} {listed : Array Bool} {B' : Base} {L' : Heap} (hc : ∀ w, St B L w → St B' L' w) (h : WO P ops c Q S fuel listed q e B' L') : WO P ops c Q S fuel listed q e B L := by
  unfold WO at *
  exact fun w hw => h w (hc w hw)
end
section
variable {P : Program} {ops : Array Oper} {Q : Exit → Act → World → Prop} {c : Cf} {e : Env} {B : Base} {L : Heap} {rest : List Oper} {v : Value} {d : Nat} {q : Md} {x y z : Operand} {T : TypeId} {p : String} {a : Array Edge}
theorem w_lookS (i : Nat) {b : Nat} {s : List UInt8} {l : List (List UInt8 × Value)} {t te : TypeId} {tk : TypeId} {zv : Value} (hi : L[i]? = some (b, mpS l)) (ht : P.underlying t = some (.map tk te)) (hk : P.underlying tk = some .string) (hz : zeroB P te zv) (hx : ev c.n e x = .map (some b)) (hy : ev c.n e y = str s) (hv : (l.lookup s).getD zv = v)
    (h : WX q P ops c Q rest (upd e d v) B L) : WX q P ops c Q (⟨some d, .lookup t x y false, T, p, a, none⟩ :: rest) e B L := by
  refine w_run (fun w hw => ?_) rfl rfl h
  have hb := hw.at_ i hi
  unfold mpS at hb
  obtain ⟨r, h1, h2⟩ := find_strs s l 0 0
  have hzr : (zeroValue te).run P w = .ok zv w := by
    unfold zeroB at hz
    cases hti : P.info? te with
    | none => rw [hti] at hz; cases hz
    | some j => rw [hti] at hz; simp [zeroValue, typeInfo, hti, show j.zero = some zv by simpa using hz, go_sem]
  have hck : ∀ (em : Bool) (w : World), (Instr.checkKey em 10000 tk (str s)).run P w = .ok () w := fun em w => MapKept.run_checkKey (d := .string) hk (show MapKept.IsKey .string (str s) from True.intro) em 9999
  simp only [Run, execOp, hx, hy]
  subst hv
  rw [← h2]
  cases r with
  | none => simp [Instr.lookup, run_underlying ht, MapKept.run_getObj_map hb, hck, MapKept.run_findKey hk h1, hzr, Result.andThen, go_sem]
  | some r => simp [Instr.lookup, run_underlying ht, MapKept.run_getObj_map hb, hck, MapKept.run_findKey hk h1, Result.andThen, go_sem]
end
end Go.Sx
end
