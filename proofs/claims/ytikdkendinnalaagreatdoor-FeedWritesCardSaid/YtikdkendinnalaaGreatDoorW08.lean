/- Layer 14, FeedWrites: that Write and Find tell what the document says, and that what is written is read as the same data again. Part 8 of 14. -/
import Derived.Test.YtikdkendinnalaaGreatDoorW07
set_option maxRecDepth 100000
set_option maxHeartbeats 16000000
section
namespace Go.Proofs.YtikdkendinnalaaGreatDoor
open Go.RowKit Go.Sx
open Go.Tok
variable {σ : Type}
def Rounds (J : Bool → σ → Heap → Prop) (nx : σ → Nat → List UInt8 → Nat → Bool → σ × Bool) (l : Nat) : Prop :=
 ∀ (x : σ) (k : Nat) (t : List UInt8) (a : Nat) (b : Bool) (Lc Lr : Heap) (B : Base) (w : World), t.length ≤ 10000000 → J true x Lc → St B (Lc ++ Lr) w →
  YieldAt (fw none) 0 Tryz.prog l #[.agg #[.int .u8 (k : Nat), str t, .int .i64 (a : Nat)], .bool b] w (fun en w' => ∃ v, en = .returned v ∧ ∃ Lc', v = .bool (nx x k t a b).2 ∧ J (nx x k t a b).2 (nx x k t a b).1 Lc' ∧ St B (Lc' ++ Lr) w')
theorem all1_spec (J : Bool → σ → Heap → Prop) (nx : σ → Nat → List UInt8 → Nat → Bool → σ × Bool) (hn : ∀ x k t a, (nx x k t a false).2 = false) (l p vb : Nat) (s : List UInt8) (hs : s.length ≤ 10000000) (hy : Rounds J nx l) (wb : World) (Sb : Nat → Prop) (ht : Tb wb) (hgl : ¬ Sb 2) (hg : 2 < p) (x0 : σ) (Lc0 Lr : Heap) (Bs : Base) (hB : (wb, Sb) ∈ Bs) (hJ0 : J true x0 Lc0) (w : World) (hw : St Bs ((vb, cel [pX p] 103) :: (p, cel [str s, .int .i64 (0 : Nat)] 105) :: (Lc0 ++ Lr)) w) :
  Ret Tryz.prog 95 #[.func (.yield l) #[] #[], pX vb] w (fun v w' => v = .tuple #[] ∧ ∃ (j : Nat) (g : Bool) (Lc' : Heap), J g (lexS nx s (skipTo s 0) x0) Lc' ∧ St Bs ((vb, cel [pX p] 103) :: (p, cel [str s, .int .i64 (j : Nat)] 105) :: (Lc' ++ Lr)) w') := by
 have g0 := skipTo_le (s := s) (Nat.zero_le _)
 refine enterB (l := [_, _]) 67 Tryz.func95 rfl rfl rfl (hw) ?_; refine yA ?_; refine zg (fun _ => R_buildA ar147 zr147 rfl) ?_; refine zA zr147 (fun b1 gb1 ub1 => ?_)
 refine jv 0 z147 rfl ?_; refine yC ?_; refine jM 1 z103 rfl ?_; refine w_call1 2 rfl (fun w => zR Tryz.func99 rfl rfl rfl) rfl rfl (fun w h => skip_spec p s _ w (h.at_ 2 rfl) hs (Nat.zero_le _)) ?_; refine yB ?_; refine zB ?_
 refine c_loop (fun m e B L => ∃ (k : Nat) (x : σ) (Lc : Heap), e 0 = .func (.yield l) #[] #[] ∧ e 1 = pX vb ∧ e 3 = pX b1 ∧ Bs = B ∧ L = (b1, cel [.func (.func 96) #[] #[], .func (.func 97) #[] #[], .func (.func 98) #[] #[]] 147) :: (vb, cel [pX p] 103) :: (p, cel [str s, .int .i64 (k : Nat)] 105) :: (Lc ++ Lr) ∧ k ≤ s.length ∧ J true x Lc ∧ lexS nx s k x = lexS nx s (skipTo s 0) x0 ∧ m = s.length - k) _ ⟨skipTo s 0, x0, Lc0, rfl, rfl, rfl, rfl, rfl, g0.1, hJ0, rfl, rfl⟩ ?_
 rintro m e B L ⟨k, x, Lc, e0_1, e1_1, e3_1, rfl, rfl, hk, hJ, hl, rfl⟩
 have g2 := tok_le hk
 refine zq ?_; refine zq ?_; refine c_draw mixed (by kernel_rfl) ?_; refine zL 1 z103 e1_1 rfl rfl ?_; refine zI rfl ?_; refine zf fa105_1 rfl ?_; refine jM 2 z3 rfl ?_; refine zL 1 z103 e1_1 rfl rfl ?_; refine zI rfl ?_; refine zf fa105_0 rfl ?_; refine jM 2 z9 rfl ?_; refine zg (fun _ => R_slen st9 rfl (by omega)) ?_; refine jl rfl rfl ?_; refine yB ?_; refine zD rfl (fun h2 => ?_) (fun h2 => ?_)
 ·have hlt : k < s.length := by omega
  refine zi ?_; refine zk ?_; refine zq ?_; refine zB ?_; refine yA ?_; refine zL 1 z103 e1_1 rfl rfl ?_; refine zI rfl ?_; refine zf fa105_1 rfl ?_; refine jM 2 z3 rfl ?_; refine jb bt64 rfl ?_; refine zA zr64 (fun t4b gt4b ut4b => ?_)
  refine jv 0 z64 rfl ?_; refine yC ?_; refine aB rfl ?_; refine yB ?_; refine c_cut (fun e B L => e 0 = .func (.yield l) #[] #[] ∧ e 1 = pX vb ∧ e 3 = pX b1 ∧ e 4 = pX t4b ∧ e 5 = .bool (tokAt s k).2.2 ∧ Bs = B ∧ L = (t4b, cel [.int .u8 ((tokAt s k).1 : Nat), str ([]), .int .i64 (k : Nat)] 64) :: (b1, cel [.func (.func 96) #[] #[], .func (.func 97) #[] #[], .func (.func 98) #[] #[]] 147) :: (vb, cel [pX p] 103) :: (p, cel [str s, .int .i64 ((tokAt s k).2.1 : Nat)] 105) :: (Lc ++ Lr)) ?_ ?_
  ·refine yA ?_; refine jy 1 z147 e3_1 rfl ?_; refine mI rfl ?_; refine yB ?_; refine zB ?_; refine c_rounds 4 ?_; refine yA ?_; refine jl rfl rfl ?_; refine yB ?_; refine zq ?_; refine zE bD ?_; refine zi ?_; refine zk ?_; refine zq ?_; refine zB ?_; refine yA ?_; refine zg (fun _ => R_aidx (i := 0) ar147 rfl rfl rfl rfl) ?_; refine za rfl ?_; refine yC ?_; refine zm rfl ?_; refine zL 2 z103 e1_1 rfl rfl ?_
   cases hN : nameB s k
   ·refine w_call1 3 rfl (fun w => R_callv rfl Tryz.func96 rfl rfl) rfl rfl (fun w h => by have hh := name_spec p s _ w (h.at_ 3 rfl) hs (by omega); simp only [hN, Bool.false_eq_true, if_false, if_true, ↓reduceIte, decide_true, decide_false, Bool.not_true, Bool.not_false, Nat.add_zero] at hh; exact hh) ?_; refine zm rfl ?_; refine jx rfl rfl ?_; refine jx rfl rfl ?_; refine zf fa64_0 rfl ?_; refine jv 0 z5 rfl ?_; refine aB rfl ?_; refine yB ?_; refine zq ?_; refine c_draw mixed (by kernel_rfl) ?_; refine mB rfl ?_; refine mB rfl ?_; refine zw rfl rfl rfl ?_; refine zL 2 z103 e1_1 rfl rfl ?_; refine zw rfl rfl rfl ?_; refine zI rfl ?_
    refine zw rfl rfl rfl ?_; refine zf fa105_1 rfl ?_; refine zw rfl rfl rfl ?_; refine jM 3 z3 rfl ?_; refine zw rfl rfl rfl ?_; refine zf fa64_2 rfl ?_; refine zw rfl rfl rfl ?_; refine jM 0 z3 rfl ?_; refine zw rfl rfl rfl ?_; refine jg rfl rfl ?_; refine jF rfl rfl ?_; refine yB ?_; refine zD rfl (fun h4 => ?_) (fun h4 => ?_)
    ·omega
    ·refine zi ?_; refine zO (zk ?_); refine zr ?_; refine ji rfl rfl (by omega) ?_; refine mI rfl ?_; refine zn ?_; refine k_rounds ?_; refine yA ?_; refine jl rfl rfl ?_; refine yB ?_; refine zq ?_; refine zE bD ?_; refine zi ?_; refine zk ?_; refine zq ?_; refine zB ?_; refine yA ?_; refine zg (fun _ => R_aidx (i := 1) ar147 rfl rfl rfl rfl) ?_; refine za rfl ?_; refine yC ?_; refine zm rfl ?_; refine zL 2 z103 e1_1 rfl rfl ?_
     cases hD : atP digitB s k
     ·refine w_call1 3 rfl (fun w => R_callv rfl Tryz.func97 rfl rfl) rfl rfl (fun w h => by have hh := number_spec p s _ w (h.at_ 3 rfl) hs (by omega); simp only [hD, Bool.false_eq_true, if_false, if_true, ↓reduceIte, decide_true, decide_false, Bool.not_true, Bool.not_false, Nat.add_zero] at hh; exact hh) ?_; refine zm rfl ?_; refine jx rfl rfl ?_; refine jx rfl rfl ?_; refine zf fa64_0 rfl ?_; refine jv 0 z5 rfl ?_; refine aB rfl ?_; refine yB ?_; refine zq ?_; refine c_draw mixed (by kernel_rfl) ?_; refine mB rfl ?_; refine mB rfl ?_; refine zw rfl rfl rfl ?_; refine zL 2 z103 e1_1 rfl rfl ?_; refine zw rfl rfl rfl ?_; refine zI rfl ?_
      refine zw rfl rfl rfl ?_; refine zf fa105_1 rfl ?_; refine zw rfl rfl rfl ?_; refine jM 3 z3 rfl ?_; refine zw rfl rfl rfl ?_; refine zf fa64_2 rfl ?_; refine zw rfl rfl rfl ?_; refine jM 0 z3 rfl ?_; refine zw rfl rfl rfl ?_; refine jg rfl rfl ?_; refine jF rfl rfl ?_; refine yB ?_; refine zD rfl (fun h5 => ?_) (fun h5 => ?_)
      ·omega
      ·refine zi ?_; refine zO (zk ?_); refine zr ?_; refine ji rfl rfl (by omega) ?_; refine mI rfl ?_; refine zn ?_; refine k_rounds ?_; refine yA ?_; refine jl rfl rfl ?_; refine yB ?_; refine zq ?_; refine zE bD ?_; refine zi ?_; refine zk ?_; refine zq ?_; refine zB ?_; refine yA ?_; refine zg (fun _ => R_aidx (i := 2) ar147 rfl rfl rfl rfl) ?_; refine za rfl ?_; refine yC ?_; refine zm rfl ?_; refine zL 2 z103 e1_1 rfl rfl ?_
       rcases Classical.em (signLen s k = 0) with hS | hS
       ·refine w_call1 3 rfl (fun w => R_callv rfl Tryz.func98 rfl rfl) rfl rfl (fun w h => by have hh := sign_spec p s _ w (h.at_ 3 rfl) hs (by omega) (ht.fr (h.fr _ hB) hgl) hg; simp only [hS, Bool.false_eq_true, if_false, if_true, ↓reduceIte, decide_true, decide_false, Bool.not_true, Bool.not_false, Nat.add_zero] at hh; exact hh) ?_; refine zm rfl ?_; refine jx rfl rfl ?_; refine jx rfl rfl ?_; refine zf fa64_0 rfl ?_; refine jv 0 z5 rfl ?_; refine aB rfl ?_; refine yB ?_; refine zq ?_; refine c_draw mixed (by kernel_rfl) ?_; refine mB rfl ?_; refine mB rfl ?_; refine zw rfl rfl rfl ?_; refine zL 2 z103 e1_1 rfl rfl ?_; refine zw rfl rfl rfl ?_; refine zI rfl ?_
        refine zw rfl rfl rfl ?_; refine zf fa105_1 rfl ?_; refine zw rfl rfl rfl ?_; refine jM 3 z3 rfl ?_; refine zw rfl rfl rfl ?_; refine zf fa64_2 rfl ?_; refine zw rfl rfl rfl ?_; refine jM 0 z3 rfl ?_; refine zw rfl rfl rfl ?_; refine jg rfl rfl ?_; refine jF rfl rfl ?_; refine yB ?_; refine zD rfl (fun h6 => ?_) (fun h6 => ?_)
        ·omega
        ·refine zi ?_; refine zO (zk ?_); refine zr ?_; refine ji rfl rfl (by omega) ?_; refine mI rfl ?_; refine zn ?_; refine k_rounds ?_; refine yA ?_; refine jl rfl rfl ?_; refine yB ?_; refine zq ?_; refine zG bE ?_; refine zX ?_; refine zx (zx (b_here rfl (?_)))
         have e0 : tokAt s k = (0, k, false) := by rw [tokAt, if_neg (by rw [hN]; simp), if_neg (by rw [hD]; simp), if_pos hS]
         exact k_mid ⟨e0_1, e1_1, e3_1, rfl, by rw [e0]; rfl, rfl, by rw [e0]; rfl⟩
       ·refine w_call1 3 rfl (fun w => R_callv rfl Tryz.func98 rfl rfl) rfl rfl (fun w h => by have hh := sign_spec p s _ w (h.at_ 3 rfl) hs (by omega) (ht.fr (h.fr _ hB) hgl) hg; simp only [hS, Bool.false_eq_true, if_false, if_true, ↓reduceIte, decide_true, decide_false, Bool.not_true, Bool.not_false, Nat.add_zero] at hh; exact hh) ?_; refine zm rfl ?_; refine jx rfl rfl ?_; refine jx rfl rfl ?_; refine zf fa64_0 rfl ?_; refine jv 0 z5 rfl ?_; refine aB rfl ?_; refine yB ?_; refine zq ?_; refine c_draw mixed (by kernel_rfl) ?_; refine mB rfl ?_
        refine mB rfl ?_; (iterate 7 refine zs rfl rfl rfl ?_); refine jT rfl rfl ?_; refine yB ?_; refine zE rfl ?_; refine zX ?_; refine b_past rfl (zx (zx (b_here rfl (?_))))
        have e0 : tokAt s k = (3, k + signLen s k, true) := by rw [tokAt, if_neg (by rw [hN]; simp), if_neg (by rw [hD]; simp), if_neg hS]
        exact k_mid ⟨e0_1, e1_1, e3_1, rfl, by rw [e0]; rfl, rfl, by rw [e0]; rfl⟩
     ·refine w_call1 3 rfl (fun w => R_callv rfl Tryz.func97 rfl rfl) rfl rfl (fun w h => by have hh := number_spec p s _ w (h.at_ 3 rfl) hs (by omega); simp only [hD, Bool.false_eq_true, if_false, if_true, ↓reduceIte, decide_true, decide_false, Bool.not_true, Bool.not_false, Nat.add_zero] at hh; exact hh) ?_; refine zm rfl ?_; refine jx rfl rfl ?_; refine jx rfl rfl ?_; refine zf fa64_0 rfl ?_; refine jv 0 z5 rfl ?_; refine aB rfl ?_; refine yB ?_; refine zq ?_; refine c_draw mixed (by kernel_rfl) ?_; refine mB rfl ?_; refine mB rfl ?_; refine zp (t := 40) rfl (fun h7 => ?_) (fun h7 => ?_)
      ·refine zs rfl rfl (bV h7) ?_; refine zs rfl rfl (bV h7) ?_; refine zs rfl rfl (bV h7) ?_; refine zs rfl rfl (bV h7) ?_; refine zs rfl rfl (bV h7) ?_; refine zs rfl rfl (bV h7) ?_; refine zs rfl rfl (bV h7) ?_; refine jT (bV h7) rfl ?_; refine yB ?_; refine zE rfl ?_; refine zX ?_; refine b_past rfl (zx (zx (b_here rfl (?_))))
       have e0 : tokAt s k = (2, numEnd s k, true) := by rw [tokAt, if_neg (by rw [hN]; simp), if_pos hD, h7]
       exact k_mid ⟨e0_1, e1_1, e3_1, rfl, by rw [e0]; exact congrArg Value.bool h7, rfl, by rw [e0]; rfl⟩
      ·refine zw rfl rfl (bV h7) ?_; refine zL 2 z103 e1_1 rfl rfl ?_; refine zw rfl rfl (bV h7) ?_; refine zI rfl ?_; refine zw rfl rfl (bV h7) ?_; refine zf fa105_1 rfl ?_; refine zw rfl rfl (bV h7) ?_; refine jM 3 z3 rfl ?_; refine zw rfl rfl (bV h7) ?_; refine zf fa64_2 rfl ?_; refine zw rfl rfl (bV h7) ?_; refine jM 0 z3 rfl ?_; refine zw rfl rfl (bV h7) ?_; refine jg rfl rfl ?_; refine jF (bV h7) rfl ?_; refine yB ?_; refine zD rfl (fun h8 => ?_) (fun h8 => ?_)
       ·refine zX ?_; refine b_past rfl (zx (zx (b_here rfl (?_))))
        have e0 : tokAt s k = (2, numEnd s k, false) := by rw [tokAt, if_neg (by rw [hN]; simp), if_pos hD, h7]
        exact k_mid ⟨e0_1, e1_1, e3_1, rfl, by rw [e0]; exact congrArg Value.bool h7, rfl, by rw [e0]; rfl⟩
       ·exfalso; have := digit_run hD; have := numEnd_le hk; omega
   ·refine w_call1 3 rfl (fun w => R_callv rfl Tryz.func96 rfl rfl) rfl rfl (fun w h => by have hh := name_spec p s _ w (h.at_ 3 rfl) hs (by omega); simp only [hN, Bool.false_eq_true, if_false, if_true, ↓reduceIte, decide_true, decide_false, Bool.not_true, Bool.not_false, Nat.add_zero] at hh; exact hh) ?_; refine zm rfl ?_; refine jx rfl rfl ?_; refine jx rfl rfl ?_; refine zf fa64_0 rfl ?_; refine jv 0 z5 rfl ?_; refine aB rfl ?_; refine yB ?_; refine zq ?_; refine c_draw mixed (by kernel_rfl) ?_; refine mB rfl ?_; refine mB rfl ?_; (iterate 4 refine zs rfl rfl rfl ?_); refine zs rfl rfl rfl ?_
    (iterate 2 refine zs rfl rfl rfl ?_); refine jT rfl rfl ?_; refine yB ?_; refine zE rfl ?_; refine zX ?_; refine b_past rfl (zx (zx (b_here rfl (?_))))
    have e0 : tokAt s k = (1, runTo wordB s k, true) := by rw [tokAt, if_pos hN]
    exact k_mid ⟨e0_1, e1_1, e3_1, rfl, by rw [e0]; rfl, rfl, by rw [e0]; rfl⟩
  rintro e B L ⟨e0_2, e1_2, e3_2, e4_2, e5_2, rfl, rfl⟩
  refine zq ?_; refine c_tail 12 mixed (by kernel_rfl) ?_; refine zL 2 z103 e1_2 rfl rfl ?_; refine zI rfl ?_; refine zf fa105_0 rfl ?_; refine jM 3 z9 rfl ?_; refine zf fa64_2 e4_2 ?_; refine jM 0 z3 rfl ?_; refine zL 2 z103 e1_2 rfl rfl ?_; refine zI rfl ?_; refine zf fa105_1 rfl ?_; refine jM 3 z3 rfl ?_; refine zg (fun _ => R_sslN st9 rfl rfl rfl (by omega) (by omega)) ?_; refine zf fa64_1 e4_2 ?_; refine w_tailst 0 rfl z9 rfl rfl rfl rfl rfl rfl rfl ?_; refine zk ?_; refine yA ?_; refine zm e0_2 ?_; refine jy 0 z64 e4_2 rfl ?_; refine mB e5_2 ?_
  refine w_yield rfl (fun w h => hy x (tokAt s k).1 (tokTx s k) k (tokAt s k).2.2 Lc ([(t4b, cel [.int .u8 ((tokAt s k).1 : Nat), str (tokTx s k), .int .i64 (k : Nat)] 64), (b1, cel [.func (.func 96) #[] #[], .func (.func 97) #[] #[], .func (.func 98) #[] #[]] 147), (vb, cel [pX p] 103), (p, cel [str s, .int .i64 ((tokAt s k).2.1 : Nat)] 105)] ++ Lr) Bs w (tokTx_len s k hs) hJ (h.perm (perm_mid [(t4b, cel [.int .u8 ((tokAt s k).1 : Nat), str (tokTx s k), .int .i64 (k : Nat)] 64), (b1, cel [.func (.func 96) #[] #[], .func (.func 97) #[] #[], .func (.func 98) #[] #[]] 147), (vb, cel [pX p] 103), (p, cel [str s, .int .i64 ((tokAt s k).2.1 : Nat)] 105)] Lc Lr))) ?_
  rintro w h v w' ⟨Lc2, rfl, hJ2, hs2⟩
  refine ⟨Bs, [(t4b, cel [.int .u8 ((tokAt s k).1 : Nat), str (tokTx s k), .int .i64 (k : Nat)] 64), (b1, cel [.func (.func 96) #[] #[], .func (.func 97) #[] #[], .func (.func 98) #[] #[]] 147), (vb, cel [pX p] 103), (p, cel [str s, .int .i64 ((tokAt s k).2.1 : Nat)] 105)] ++ (Lc2 ++ Lr), hs2.perm (perm_mid [(t4b, cel [.int .u8 ((tokAt s k).1 : Nat), str (tokTx s k), .int .i64 (k : Nat)] 64), (b1, cel [.func (.func 96) #[] #[], .func (.func 97) #[] #[], .func (.func 98) #[] #[]] 147), (vb, cel [pX p] 103), (p, cel [str s, .int .i64 ((tokAt s k).2.1 : Nat)] 105)] Lc2 Lr).symm, ?_⟩
  refine jk rfl ?_; refine yB ?_; refine c_condN rfl (fun h9 => ?_) (fun h9 => ?_)
  ·refine ze ?_; refine zb (zt (zt (zb (?_))))
   refine r_none (.inl rfl) rfl ?_; exact fun w' hw => ⟨rfl, _, _, Lc2, by rw [← hl, lexS_end nx hlt h9]; exact hJ2, hw.drop (.cons _ (.cons _ (List.Sublist.refl _)))⟩
  ·have hgo := h9; rw [hgo] at hJ2
   refine zi ?_; refine zO (zk ?_); refine zr ?_; refine zL 2 z103 e1_2 rfl rfl ?_; refine w_call1 3 rfl (fun w => zR Tryz.func99 rfl rfl rfl) rfl rfl (fun w h => skip_spec p s _ w (h.at_ 3 rfl) hs g2.2.1) ?_; refine zn ?_; refine zK (B' := Bs) (L' := (b1, cel [.func (.func 96) #[] #[], .func (.func 97) #[] #[], .func (.func 98) #[] #[]] 147) :: (vb, cel [pX p] 103) :: (p, cel [str s, .int .i64 (skipTo s (tokAt s k).2.1 : Nat)] 105) :: (Lc2 ++ Lr)) (fun w h => h.d1) ?_
   have g4 := g2.2.2 (fine_of nx hn hgo)
   have g5 := skipTo_le g2.2.1
   exact k_again _ (by omega) ⟨skipTo s (tokAt s k).2.1, (nx x (tokAt s k).1 (tokTx s k) k (tokAt s k).2.2).1, Lc2, e0_2, e1_2, e3_2, rfl, rfl, g5.1, hJ2, by rw [← hl, lexS_go nx hn hlt hgo], rfl⟩
 ·refine zX ?_; refine zx (zx (b_here rfl (?_)))
  refine r_none (.inr rfl) rfl ?_; exact fun w' hw => ⟨rfl, k, true, Lc, by rw [← hl, lexS_stop nx (by omega)]; exact hJ, hw.drop (List.sublist_cons_self _ _)⟩
end Go.Proofs.YtikdkendinnalaaGreatDoor
end
section
namespace Go.Proofs.YtikdkendinnalaaGreatDoor
open Go.RowKit Go.Sx
open Go.Tok
def rdPs : Array Go.Tmp := #[18, 19]
def rdAs : Go.Code := (Go.Code.seq (Go.Code.region 7 #[(Go.Oper.mk (some 7) (Go.Op.alloc 64) 0 "token.go:123" #[] none), (Go.Oper.mk none (Go.Op.store 64 (Go.Operand.tmp 7) (Go.Operand.tmp 18)) 0 "token.go:123" #[(Go.Edge.mk 0 Go.Ground.data), (Go.Edge.mk 0 Go.Ground.phase)] none)] false) (Go.Code.region 8 #[(Go.Oper.mk (some 8) (Go.Op.assign (Go.Operand.tmp 19)) 4 "token.go:123" #[] none)] false))
def rdBo : Go.Code := (Go.Code.block 1 (Go.Code.seq (Go.Code.block 2 (Go.Code.seq (Go.Code.region 9 #[(Go.Oper.mk (some 21) (Go.Op.move (Go.Operand.tmp 8)) 4 "token.go:125" #[] none), (Go.Oper.mk (some 22) (Go.Op.unOp Go.UnOp.not 4 (Go.Operand.tmp 21)) 4 "token.go:125" #[(Go.Edge.mk 0 Go.Ground.data)] none), (Go.Oper.mk (some 20) (Go.Op.assign (Go.Operand.tmp 22)) 4 "token.go:125" #[(Go.Edge.mk 1 Go.Ground.data)] none)] false) (Go.Code.cond (Go.Operand.tmp 20) (Go.Code.seq (Go.Code.region 10 #[(Go.Oper.mk (some 23) (Go.Op.fieldAddr 64 (Go.Operand.tmp 7) 2) 0 "token.go:126" #[] none), (Go.Oper.mk (some 24) (Go.Op.load 3 (Go.Operand.tmp 23)) 3 "token.go:126" #[(Go.Edge.mk 0 Go.Ground.data)] none), (Go.Oper.mk (some 25) (Go.Op.build 27 #[(0, (Go.Operand.const (Go.Value.int Go.IntKind.i64 110))), (1, (Go.Operand.tmp 24))]) 27 "token.go:126" #[(Go.Edge.mk 1 Go.Ground.data)] none), (Go.Oper.mk none (Go.Op.store 27 (Go.Operand.tmp 6) (Go.Operand.tmp 25)) 0 "token.go:126" #[(Go.Edge.mk 2 Go.Ground.data), (Go.Edge.mk 0 Go.Ground.phase), (Go.Edge.mk 1 Go.Ground.phase), (Go.Edge.mk 2 Go.Ground.phase)] none)] false) (Go.Code.exit 0)) (Go.Code.seq (Go.Code.region 11 #[(Go.Oper.mk (some 27) (Go.Op.load 55 (Go.Operand.tmp 5)) 55 "token.go:128" #[] none), (Go.Oper.mk (some 28) (Go.Op.call (Go.Call.mk (Go.Callee.builtin Go.Builtin.len) #[(Go.Operand.tmp 27)] #[55])) 3 "token.go:128" #[(Go.Edge.mk 0 Go.Ground.data)] none), (Go.Oper.mk (some 29) (Go.Op.binOp Go.BinOp.eql 3 (Go.Operand.tmp 28) (Go.Operand.const (Go.Value.int Go.IntKind.i64 6000)) 3) 4 "token.go:128" #[(Go.Edge.mk 1 Go.Ground.data)] none), (Go.Oper.mk (some 26) (Go.Op.assign (Go.Operand.tmp 29)) 4 "token.go:128" #[(Go.Edge.mk 2 Go.Ground.data)] none)] false) (Go.Code.cond (Go.Operand.tmp 26) (Go.Code.seq (Go.Code.region 12 #[(Go.Oper.mk (some 30) (Go.Op.fieldAddr 64 (Go.Operand.tmp 7) 2) 0 "token.go:129" #[] none), (Go.Oper.mk (some 31) (Go.Op.load 3 (Go.Operand.tmp 30)) 3 "token.go:129" #[(Go.Edge.mk 0 Go.Ground.data)] none), (Go.Oper.mk (some 32) (Go.Op.build 27 #[(0, (Go.Operand.const (Go.Value.int Go.IntKind.i64 6))), (1, (Go.Operand.tmp 31))]) 27 "token.go:129" #[(Go.Edge.mk 1 Go.Ground.data)] none), (Go.Oper.mk none (Go.Op.store 27 (Go.Operand.tmp 6) (Go.Operand.tmp 32)) 0 "token.go:129" #[(Go.Edge.mk 2 Go.Ground.data), (Go.Edge.mk 0 Go.Ground.phase), (Go.Edge.mk 1 Go.Ground.phase), (Go.Edge.mk 2 Go.Ground.phase)] none)] false) (Go.Code.exit 0)) Go.Code.skip))))) (Go.Code.region 13 #[(Go.Oper.mk (some 33) (Go.Op.load 55 (Go.Operand.tmp 5)) 55 "token.go:132" #[] none), (Go.Oper.mk (some 34) (Go.Op.load 64 (Go.Operand.tmp 7)) 64 "token.go:132" #[] none), (Go.Oper.mk (some 35) (Go.Op.buildSlice 55 1 #[(0, (Go.Operand.tmp 34))]) 55 "token.go:132" #[(Go.Edge.mk 1 Go.Ground.data)] none), (Go.Oper.mk (some 36) (Go.Op.call (Go.Call.mk (Go.Callee.builtin Go.Builtin.append) #[(Go.Operand.tmp 33), (Go.Operand.tmp 35)] #[55, 55])) 55 "token.go:132" #[(Go.Edge.mk 0 Go.Ground.data), (Go.Edge.mk 2 Go.Ground.data)] none), (Go.Oper.mk none (Go.Op.store 55 (Go.Operand.tmp 5) (Go.Operand.tmp 36)) 0 "token.go:132" #[(Go.Edge.mk 3 Go.Ground.data), (Go.Edge.mk 3 Go.Ground.chain), (Go.Edge.mk 0 Go.Ground.phase), (Go.Edge.mk 1 Go.Ground.phase), (Go.Edge.mk 2 Go.Ground.phase), (Go.Edge.mk 3 Go.Ground.phase)] none)] false)))
def tkC (t : Tk) : List Value := [.int .u8 (t.1 : Nat), str t.2.1, .int .i64 (t.2.2 : Nat)]
def tksC (l : List Tk) : List Value := l.flatMap tkC
abbrev Toks (v : Value) (l : List Tk) (W : Heap) : Prop := Own 64 3 v (tksC l) l.length W
theorem Toks.more {v : Value} {l : List Tk} {t : Tk} {W : Heap} (h : Own 64 3 v (tksC l ++ tkC t) (l.length + 1) W) : Toks v (l ++ [t]) W := by
  have e1 : tksC (l ++ [t]) = tksC l ++ tkC t := by simp [tksC]
  have e2 : (l ++ [t]).length = l.length + 1 := by simp
  unfold Toks; rw [e1, e2]; exact h
def rdL (t5b t6b l : Nat) (v : Value) (fc fa : Nat) (ob : Obj) (W : Heap) : Heap := (t5b, cel [v] 55) :: (t6b, cel [.int .i64 (fc : Nat), .int .i64 (fa : Nat)] 27) :: (l, ob) :: W
def rdO (e : Env) (fn : FuncId) (r : Nat) : Bool → Obj
  | true => lpO .ready none fn ⟨43, [], none⟩ e rdPs rdAs rdBo r
  | false => lpO .done (some (.exit 0)) fn ⟨43, [], none⟩ e rdPs rdAs rdBo r
def RdJ (e : Env) (fn : FuncId) (r l t5b t6b : Nat) (g : Bool) (x : Rd) (Lc : Heap) : Prop :=
  ∃ a c W, Toks (.slice a x.1.length c) x.1 W ∧ x.1.length ≤ 6000 ∧ (g = true → x.2 = (0, 0)) ∧ (g = false → x.2.1 ≠ 0) ∧ Lc = rdL t5b t6b l (.slice a x.1.length c) x.2.1 x.2.2 (rdO e fn r g) W
def RdV (r : Rd) (v : Value) (W : Heap) : Prop := ∃ a c, v = .tuple #[.slice a r.1.length c, .agg #[.int .i64 (r.2.1 : Nat), .int .i64 (r.2.2 : Nat)]] ∧ Toks (.slice a r.1.length c) r.1 W
theorem all_spec (p : Nat) (w : World) :
    Ret Tryz.prog 58 #[pX p] w (fun v w' => ∃ W, (∃ vb, v = .func (.func 95) #[] #[pX vb] ∧ W = [(vb, cel [pX p] 103)]) ∧ New w w' W) := by
  refine enter (S := No) (l := [_]) (L := []) 4 Tryz.func58 rfl rfl rfl (St.start w No) ?_; refine yA ?_; refine w_box rfl (fun vb gvb uvb => ?_)
  refine za rfl ?_; refine yC ?_; refine zg (fun _ => R_makeFunc) ?_; refine za rfl ?_; refine yB ?_; refine ze ?_; refine zo rfl rfl rfl ?_; exact fun w' hw => ⟨_, ⟨vb, rfl, rfl⟩, St.made (A := []) hw⟩
theorem Read_round (e : Env) (fn r l t5b t6b : Nat) (he5 : e 5 = pX t5b) (he6 : e 6 = pX t6b) : Rounds (RdJ e fn r l t5b t6b) readN l := by
  intro x k t a b Lc Lr B w htx hJ hw
  obtain ⟨a0, c0, W, hO, hx6, hxt, -, rfl⟩ := hJ
  have hx0 := hxt rfl
  refine yield_round 2 (L := rdL t5b t6b l _ _ _ _ _ ++ Lr) hw rfl rfl ?_; refine yA ?_; refine zA zr64 (fun t7b gt7b ut7b => ?_)
  refine jv 0 z64 rfl ?_; refine yB ?_; refine zr ?_; refine aB rfl ?_; refine zn ?_; refine k_begin (l' := 0) 3 rfl ?_; refine zB ?_; refine zq ?_; refine zB ?_; refine yA ?_; refine mB rfl ?_; refine jk rfl ?_; refine aB rfl ?_; refine yB ?_; refine c_condN rfl (fun h2 => ?_) (fun h2 => ?_)
  · refine yA ?_; refine zf fa64_2 rfl ?_; refine jM 0 z3 rfl ?_; refine jb bt27 rfl ?_; refine ju 2 z27 he6 rfl rfl ?_; refine yB ?_; refine zX ?_; refine b_past rfl (zx (b_past rfl (?_)))
    refine k_roundX 3 rfl ?_
    subst h2
    exact fun w h => ⟨_, rfl, rdL t5b t6b l (.slice a0 x.1.length c0) 110 a (rdO e fn r false) W, rfl, ⟨a0, c0, W, hO, hx6, (fun h => by cases h), fun _ => by simp [readN], rfl⟩, h.d1⟩
  refine yA ?_; refine zL 1 z55 he5 rfl rfl ?_; refine jj sl55 rfl ?_; refine je rfl rfl ?_; refine aB rfl ?_; refine yB ?_; refine zD rfl (fun h3 => ?_) (fun h3 => ?_)
  · refine yA ?_; refine zf fa64_2 rfl ?_; refine jM 0 z3 rfl ?_; refine jb bt27 rfl ?_; refine ju 2 z27 he6 rfl rfl ?_; refine yB ?_; refine zX ?_; refine b_past rfl (zx (b_past rfl (?_)))
    refine k_roundX 3 rfl ?_
    subst h2
    have hN : readN x k t a true = ((x.1, 6, a), false) := by rw [readN, if_neg (by decide), if_pos (by omega)]
    exact fun w h => ⟨_, rfl, rdL t5b t6b l (.slice a0 x.1.length c0) 6 a (rdO e fn r false) W, by rw [hN], by rw [hN]; exact ⟨a0, c0, W, hO, hx6, (fun h => by cases h), fun _ => by simp [readN], rfl⟩, h.d1⟩
  refine zi ?_; refine zO (zk ?_); refine zr ?_; refine zL 1 z55 he5 rfl rfl ?_; refine jy 0 z64 rfl rfl ?_; refine zS slt55 (by decide) rfl rfl (fun bs gbs ubs => ?_)
  refine w_app [(bs, _), (t7b, _), (t5b, _), (t6b, _), (l, _)] (news := tkC (k, t, a)) slt55 (by decide) rfl hO rfl rfl (row_own 0 rfl (fun _ _ h => h)) rfl (by decide) (by omega) (by omega) (fun v2 W2 hO2 => ?_)
  obtain ⟨a2, c2, rfl⟩ := hO2.slice
  refine ju 2 z55 he5 rfl rfl ?_; refine zn ?_; refine zO (?_)
  refine k_round 4 rfl ?_
  subst h2
  have hN : readN x k t a true = ((x.1 ++ [(k, t, a)], x.2), true) := by rw [readN, if_neg (by decide), if_neg (by omega)]
  exact fun w h => ⟨_, rfl, rdL t5b t6b l (.slice a2 (x.1.length + 1) c2) x.2.1 x.2.2 (rdO e fn r true) W2, by rw [hN], by rw [hN]; exact ⟨a2, c2, W2, by simpa using Toks.more hO2, by simp; omega, fun _ => hx0, (fun h => by cases h), by simp⟩, h.drop (.cons _ (.cons _ (List.Sublist.refl _)))⟩
theorem Read_spec (s : List UInt8) (hs : s.length ≤ 10000000) (w : World) (ht : Tb w) (hgs : 2 < w.heap.size) :
    Ret Tryz.prog 21 #[str s] w (fun v w' => ∃ W, RdV (readP s) v W ∧ New w w' W) := by
  refine enterM (S := No) (l := [_]) (L := []) 43 Tryz.func21 rfl rfl rfl (St.start w No) ?_; refine yA ?_; refine za (v := .slice _ _ _) rfl ?_; refine zA zr27 (fun t3b gt3b ut3b => ?_)
  refine yB ?_; refine c_scope ?_; refine zq ?_; refine yA ?_; refine zm (v := str _) rfl ?_; refine zg (fun _ => R_slen st9 rfl (by omega)) ?_; refine jg rfl rfl ?_; refine yB ?_; refine zD rfl (fun h2 => ?_) (fun h2 => ?_)
  · refine yA ?_; refine jb bt27 rfl ?_; refine za (v := .slice _ _ _) rfl ?_; refine jv 0 z27 rfl ?_; refine yB ?_; refine ze ?_; refine zt (g_ret (?_))
    refine r_finM (.inl rfl) rfl (.tmp rfl rfl (.agg rfl rfl z27 (fun _ h => h.at_ 0 rfl) rfl .nil)) ?_; exact fun w' hw => ⟨[], by rw [readP_long (by omega)]; exact ⟨none, 0, rfl, Own.nil _ _⟩, .none (hw.f0)⟩
  refine zi ?_; refine zk ?_; refine yA ?_; refine zm (v := str _) rfl ?_; refine jb bt105 rfl ?_; refine w_boxA rfl (fun p gp up => ?_)
  refine za (v := .pointer _) rfl ?_; refine yC ?_; refine zA zr55 (fun t5b gt5b ut5b => ?_)
  refine yC ?_; refine zA zr27 (fun t6b gt6b ut6b => ?_)
  refine yB ?_; refine zq ?_; refine c_label ?_; refine zk ?_; refine zq ?_; refine yA ?_; refine mP rfl ?_; refine w_callW (fun w => zR Tryz.func58 rfl rfl rfl) rfl rfl (fun w _ => all_spec p w) ?_
  rintro u W0 ⟨vb, rfl, rfl⟩
  refine yB ?_; refine zB ?_; refine c_gen fun e he => ?_
  have he3 : e 3 = pX t3b := congrFun he 3
  have he5 : e 5 = pX t5b := congrFun he 5
  have he6 : e 6 = pX t6b := congrFun he 6
  have he17 : e 17 = .func (.func 95) #[] #[pX vb] := congrFun he 17
  refine c_range (f := 95) (fi := []) (ca := [pX vb]) he17 rfl rfl rfl (fun r l fn w' => ∃ (g : Bool) (j : Nat) (Lc' : Heap), RdJ e fn r l t5b t6b g (readS s) Lc' ∧ St [(w, No)] ((vb, cel [pX p] 103) :: (p, cel [str s, .int .i64 (j : Nat)] 105) :: (Lc' ++ [(r, .deferred (some [])), (t3b, cel [.int .i64 0, .int .i64 0] 27)])) w') ?_ ?_
  · intro fn r l hr1 hr2 hl w1 hw1
    refine (all1_spec (RdJ e fn r l t5b t6b) readN readN_no l p vb s (by omega) (Read_round e fn r l t5b t6b he5 he6) w No ht (fun h => h) (Nat.le_trans hgs (up (w, No) zm0)) ([], 0, 0) (rdL t5b t6b l (.slice none 0 0) 0 0 (rdO e fn r true) []) [(r, .deferred (some [])), (t3b, cel [.int .i64 0, .int .i64 0] 27)] [(w, No)] zm0 ⟨none, 0, [], Own.nil _ _, Nat.zero_le _, fun _ => rfl, (fun h => by cases h), rfl⟩ w1 (hw1.pick [2, 5, 4, 3, 0, 1, 6] (by decide))).mono ?_
    rintro v w2 ⟨rfl, j, g, Lc', hJ, hs⟩
    exact ⟨g, j, Lc', hJ, hs⟩
  rintro fn r l hr1 hr2 hl w1 ⟨g, j, Lc', ⟨a0, c0, W, hO, h6, hg1, hg0, rfl⟩, hs⟩
  have hs2 := St.pickT [(vb, cel [pX p] 103), (p, cel [str s, .int .i64 (j : Nat)] 105), (t5b, cel [.slice a0 (readS s).1.length c0] 55), (t6b, cel [.int .i64 ((readS s).2.1 : Nat), .int .i64 ((readS s).2.2 : Nat)] 27), (l, rdO e fn r g), (r, .deferred (some [])), (t3b, cel [.int .i64 0, .int .i64 0] 27)] (hs.perm (.cons _ (.cons _ (.cons _ (.cons _ (.cons _ List.perm_append_comm)))))) [4, 2, 3, 5, 6] (by decide)
  cases g
  · have hz : (readS s).2.1 ≠ 0 := hg0 rfl
    refine ⟨_, _, .done, some (.exit 0), (fun h => by cases h), hs2, ?_⟩
    refine zX ?_; refine b_here rfl (zk ?_); refine zq ?_; refine yA ?_; refine zf fa27_0 he6 ?_; refine jM 2 z25 rfl ?_; refine jn rfl rfl ?_; refine yB ?_; refine zD rfl (fun h6 => ?_) (fun h6 => ?_)
    · refine zq ?_; refine c_tail 2 mixed (by kernel_rfl) ?_; refine jy 2 z27 he6 rfl ?_; refine za (v := .slice _ _ _) rfl ?_; refine w_tailst 4 rfl z27 he3 rfl rfl rfl rfl rfl rfl ?_; refine zk ?_; refine ze ?_; refine zt (g_ret (?_))
      refine r_finM1 3 rfl (.inl rfl) rfl (.tmp rfl rfl (.agg rfl he3 z27 (fun _ h => h.at_ 4 rfl) rfl .nil)) ?_; exact fun w' hw => ⟨[], by rw [readP_bad (by omega) hz]; exact ⟨none, 0, rfl, Own.nil _ _⟩, .none (hw.f0)⟩
    exfalso; omega
  have hz : (readS s).2.1 = 0 := by rw [hg1 rfl]
  refine ⟨_, _, .ready, none, (fun h => by cases h), hs2, ?_⟩
  refine zO (zk ?_); refine zq ?_; refine yA ?_; refine zf fa27_0 he6 ?_; refine jM 2 z25 rfl ?_; refine jn rfl rfl ?_; refine yB ?_; refine zD rfl (fun h7 => ?_) (fun h7 => ?_)
  · exfalso; omega
  refine zi ?_; refine zk ?_; refine yA ?_; refine zL 1 z55 he5 rfl rfl ?_; refine jb bt27 rfl ?_; refine za (v := .slice _ _ _) rfl ?_; refine ju 4 z27 he3 rfl rfl ?_; refine yB ?_; refine ze ?_; refine g_ret (?_)
  refine r_finM1 3 rfl (.inl rfl) rfl (.tmp rfl rfl (.agg rfl he3 z27 (fun _ h => h.at_ 4 rfl) rfl .nil)) ?_; exact fun w' hw => ⟨W, by rw [readP_fine (by omega) hz]; exact ⟨a0, c0, rfl, hO⟩, St.made (A := []) (hw.drop (.cons _ (.cons _ (.cons _ (.cons _ (.cons _ (List.Sublist.refl _)))))))⟩
end Go.Proofs.YtikdkendinnalaaGreatDoor
end
section
namespace Go.Proofs.YtikdkendinnalaaGreatDoor
open Go.RowKit Go.Sx
open Go.Tok
theorem two_at {k : Nat} (h : k < 5) : ([str [61, 61], str [33, 61], str [60, 61], str [62, 61], str [43, 61]] : List Value)[0 + k * 1]? = some (str (signsL.getD k [])) := by
  match k, h with
  | 0, _ => rfl
  | 1, _ => rfl
  | 2, _ => rfl
  | 3, _ => rfl
  | 4, _ => rfl
theorem rdigit_spec (s : List UInt8) (i : Nat) (hs : s.length ≤ 10000000) (hi : i ≤ 20000000) (w : World) :
    Ret Tryz.prog 65 #[str s, .int .i64 (i : Nat)] w (fun v w' => v = .bool (atP digitB s i) ∧ Ext w w') := by
  refine enter (S := No) (l := [_, _]) (L := []) 21 Tryz.func65 rfl rfl rfl (St.start w No) ?_; refine yA ?_; refine aB rfl ?_; refine yC ?_; refine mI rfl ?_; refine zm (v := str _) rfl ?_; refine zg (fun _ => R_slen st9 rfl (by omega)) ?_; refine jl rfl rfl ?_; refine mB rfl ?_; refine w_gT (v := str _) rfl rfl rfl (fun hc w h => R_move rfl) rfl ?_; refine w_gT (v := .int _ _) rfl rfl rfl (fun hc w h => R_move rfl) rfl ?_; refine gTx rfl (fun hc w h => R_sidxD st9 (gvl_t hc) (gvl_t hc) (by have h9 := hc; simp only [Bool.and_eq_true, decide_eq_true_eq, Bool.not_eq_true', decide_eq_false_iff_not] at h9; omega)) rfl ?_
  refine gTx rfl (fun hc w h => R_ge (gvl_t hc) rfl) rfl ?_; refine zg (v := .bool _) (fun _ => R_pickA rfl rfl rfl) ?_; refine mB rfl ?_; refine w_gT (v := str _) rfl rfl rfl (fun hc w h => R_move rfl) rfl ?_; refine w_gT (v := .int _ _) rfl rfl rfl (fun hc w h => R_move rfl) rfl ?_; refine gTx rfl (fun hc w h => R_sidxD st9 (gvl_t hc) (gvl_t hc) (by have h9 := hc; simp only [Bool.and_eq_true, decide_eq_true_eq, Bool.not_eq_true', decide_eq_false_iff_not] at h9; omega)) rfl ?_; refine gTx rfl (fun hc w h => R_le (gvl_t hc) rfl) rfl ?_; refine zg (v := .bool _) (fun _ => R_pickA rfl rfl rfl) ?_; refine aB rfl ?_; refine yB ?_; refine ze ?_; refine zo (v := .bool _) rfl rfl rfl ?_
  exact fun w' hw => ⟨congrArg Value.bool (by by_cases hl : i < s.length; exact (by rw [atP_in hl, digit_int, decide_eq_true (show (i : Int) < (s.length : Int) by omega), List.getD_eq_getElem?_getD, List.getElem?_eq_getElem hl]; rfl); exact (by rw [atP_out (by omega), decide_eq_false (show ¬ (i : Int) < (s.length : Int) by omega)]; rfl)), hw.f0⟩
theorem rletter_spec (s : List UInt8) (i : Nat) (hs : s.length ≤ 10000000) (hi : i ≤ 20000000) (w : World) :
    Ret Tryz.prog 64 #[str s, .int .i64 (i : Nat)] w (fun v w' => v = .bool (atP letterB s i) ∧ Ext w w') := by
  refine enter (S := No) (l := [_, _]) (L := []) 39 Tryz.func64 rfl rfl rfl (St.start w No) ?_; refine yA ?_; refine aB rfl ?_; refine yC ?_; refine mI rfl ?_; refine zm (v := str _) rfl ?_; refine zg (fun _ => R_slen st9 rfl (by omega)) ?_; refine jl rfl rfl ?_; refine mB rfl ?_; refine w_gT (v := str _) rfl rfl rfl (fun hc w h => R_move rfl) rfl ?_; refine w_gT (v := .int _ _) rfl rfl rfl (fun hc w h => R_move rfl) rfl ?_; refine gTx rfl (fun hc w h => R_sidxD st9 (gvl_t hc) (gvl_t hc) (by have h9 := hc; simp only [Bool.and_eq_true, decide_eq_true_eq, Bool.not_eq_true', decide_eq_false_iff_not] at h9; omega)) rfl ?_
  refine gTx rfl (fun hc w h => R_ge (gvl_t hc) rfl) rfl ?_; refine gTx (v := .bool _) rfl (fun hc w h => R_move (gvl_t hc)) rfl ?_; refine w_hT (v := str _) rfl rfl rfl (fun hc w h => R_move rfl) rfl ?_
  refine w_hT (v := .int _ _) rfl rfl rfl (fun hc w h => R_move rfl) rfl ?_; refine hTx rfl (fun hc w h => R_sidxD st9 (gvl_t hc) (gvl_t hc) (by have h9 := hc; simp only [Bool.and_eq_true, decide_eq_true_eq, Bool.not_eq_true', decide_eq_false_iff_not] at h9; omega)) rfl ?_; refine hTx rfl (fun hc w h => R_le (gvl_t hc) rfl) rfl ?_; refine gTx (v := .bool _) rfl (fun hc w h => R_pickA (gvl_t hc) (gvl_and hc) rfl) rfl ?_
  refine gTx (v := .bool _) rfl (fun hc w h => R_move (gvl_t hc)) rfl ?_; refine w_hF (v := str _) rfl rfl rfl (fun hc w h => R_move rfl) rfl ?_; refine w_hF (v := .int _ _) rfl rfl rfl (fun hc w h => R_move rfl) rfl ?_
  refine hFx rfl (fun hc w h => R_sidxD st9 (gvl_t hc) (gvl_t hc) (by have h9 := hc; simp only [Bool.and_eq_true, decide_eq_true_eq, Bool.not_eq_true', decide_eq_false_iff_not] at h9; omega)) rfl ?_; refine hFx rfl (fun hc w h => R_ge (gvl_t hc) rfl) rfl ?_; refine hFx (v := .bool _) rfl (fun hc w h => R_move (gvl_t hc)) rfl ?_; refine w_hT (v := str _) rfl rfl rfl (fun hc w h => R_move rfl) rfl ?_
  refine w_hT (v := .int _ _) rfl rfl rfl (fun hc w h => R_move rfl) rfl ?_; refine hTx rfl (fun hc w h => R_sidxD st9 (gvl_t hc) (gvl_t hc) (by have h9 := hc; simp only [Bool.and_eq_true, decide_eq_true_eq, Bool.not_eq_true', decide_eq_false_iff_not] at h9; omega)) rfl ?_; refine hTx rfl (fun hc w h => R_le (gvl_t hc) rfl) rfl ?_; refine hFx (v := .bool _) rfl (fun hc w h => R_pickA (gvl_t hc) (gvl_and hc) rfl) rfl ?_
  refine gTx (v := .bool _) rfl (fun hc w h => R_pickO (gvl_t hc) (gvl_and hc) rfl) rfl ?_; refine gTx (v := .bool _) rfl (fun hc w h => R_move (gvl_t hc)) rfl ?_
  refine w_hF (v := str _) rfl rfl rfl (fun hc w h => R_move rfl) rfl ?_; refine w_hF (v := .int _ _) rfl rfl rfl (fun hc w h => R_move rfl) rfl ?_; refine hFx rfl (fun hc w h => R_sidxD st9 (gvl_t hc) (gvl_t hc) (by have h9 := hc; simp only [Bool.and_eq_true, decide_eq_true_eq, Bool.not_eq_true', decide_eq_false_iff_not] at h9; omega)) rfl ?_; refine hFx rfl (fun hc w h => R_eq (gvl_t hc) rfl) rfl ?_; refine gTx (v := .bool _) rfl (fun hc w h => R_pickO (gvl_t hc) (gvl_and hc) rfl) rfl ?_
  refine zg (v := .bool _) (fun _ => R_pickA rfl rfl rfl) ?_; refine aB rfl ?_; refine yB ?_; refine ze ?_; refine zo (v := .bool _) rfl rfl rfl ?_; exact fun w' hw => ⟨congrArg Value.bool (by by_cases hl : i < s.length; exact (by rw [atP_in hl, letter_int, decide_eq_true (show (i : Int) < (s.length : Int) by omega), List.getD_eq_getElem?_getD, List.getElem?_eq_getElem hl]; rfl); exact (by rw [atP_out (by omega), decide_eq_false (show ¬ (i : Int) < (s.length : Int) by omega)]; rfl)), hw.f0⟩
theorem rblank_spec (s : List UInt8) (i : Nat) (hs : s.length ≤ 10000000) (hi : i ≤ 20000000) (w : World) :
    Ret Tryz.prog 104 #[str s, .int .i64 (i : Nat)] w (fun v w' => v = .bool (atP blankB s i) ∧ Ext w w') := by
  refine enter (S := No) (l := [_, _]) (L := []) 33 Tryz.func104 rfl rfl rfl (St.start w No) ?_; refine yA ?_; refine aB rfl ?_; refine yC ?_; refine mI rfl ?_; refine zm (v := str _) rfl ?_; refine zg (fun _ => R_slen st9 rfl (by omega)) ?_; refine jl rfl rfl ?_; refine mB rfl ?_; refine w_gT (v := str _) rfl rfl rfl (fun hc w h => R_move rfl) rfl ?_; refine w_gT (v := .int _ _) rfl rfl rfl (fun hc w h => R_move rfl) rfl ?_; refine gTx rfl (fun hc w h => R_sidxD st9 (gvl_t hc) (gvl_t hc) (by have h9 := hc; simp only [Bool.and_eq_true, decide_eq_true_eq, Bool.not_eq_true', decide_eq_false_iff_not] at h9; omega)) rfl ?_
  refine gTx rfl (fun hc w h => R_eq (gvl_t hc) rfl) rfl ?_; refine gTx (v := .bool _) rfl (fun hc w h => R_move (gvl_t hc)) rfl ?_; refine w_hF (v := str _) rfl rfl rfl (fun hc w h => R_move rfl) rfl ?_
  refine w_hF (v := .int _ _) rfl rfl rfl (fun hc w h => R_move rfl) rfl ?_; refine hFx rfl (fun hc w h => R_sidxD st9 (gvl_t hc) (gvl_t hc) (by have h9 := hc; simp only [Bool.and_eq_true, decide_eq_true_eq, Bool.not_eq_true', decide_eq_false_iff_not] at h9; omega)) rfl ?_; refine hFx rfl (fun hc w h => R_eq (gvl_t hc) rfl) rfl ?_; refine gTx (v := .bool _) rfl (fun hc w h => R_pickO (gvl_t hc) (gvl_and hc) rfl) rfl ?_
  refine gTx (v := .bool _) rfl (fun hc w h => R_move (gvl_t hc)) rfl ?_; refine w_hF (v := str _) rfl rfl rfl (fun hc w h => R_move rfl) rfl ?_; refine w_hF (v := .int _ _) rfl rfl rfl (fun hc w h => R_move rfl) rfl ?_
  refine hFx rfl (fun hc w h => R_sidxD st9 (gvl_t hc) (gvl_t hc) (by have h9 := hc; simp only [Bool.and_eq_true, decide_eq_true_eq, Bool.not_eq_true', decide_eq_false_iff_not] at h9; omega)) rfl ?_; refine hFx rfl (fun hc w h => R_eq (gvl_t hc) rfl) rfl ?_; refine gTx (v := .bool _) rfl (fun hc w h => R_pickO (gvl_t hc) (gvl_and hc) rfl) rfl ?_
  refine gTx (v := .bool _) rfl (fun hc w h => R_move (gvl_t hc)) rfl ?_; refine w_hF (v := str _) rfl rfl rfl (fun hc w h => R_move rfl) rfl ?_; refine w_hF (v := .int _ _) rfl rfl rfl (fun hc w h => R_move rfl) rfl ?_
  refine hFx rfl (fun hc w h => R_sidxD st9 (gvl_t hc) (gvl_t hc) (by have h9 := hc; simp only [Bool.and_eq_true, decide_eq_true_eq, Bool.not_eq_true', decide_eq_false_iff_not] at h9; omega)) rfl ?_; refine hFx rfl (fun hc w h => R_eq (gvl_t hc) rfl) rfl ?_; refine gTx (v := .bool _) rfl (fun hc w h => R_pickO (gvl_t hc) (gvl_and hc) rfl) rfl ?_
  refine zg (v := .bool _) (fun _ => R_pickA rfl rfl rfl) ?_; refine aB rfl ?_; refine yB ?_; refine ze ?_; refine zo (v := .bool _) rfl rfl rfl ?_; exact fun w' hw => ⟨congrArg Value.bool (by by_cases hl : i < s.length; exact (by rw [atP_in hl, blank_int, decide_eq_true (show (i : Int) < (s.length : Int) by omega), List.getD_eq_getElem?_getD, List.getElem?_eq_getElem hl]; rfl); exact (by rw [atP_out (by omega), decide_eq_false (show ¬ (i : Int) < (s.length : Int) by omega)]; rfl)), hw.f0⟩
theorem ris_spec (s : List UInt8) (i : Nat) (b : UInt8) (hs : s.length ≤ 10000000) (hi : i ≤ 20000000) (w : World) :
    Ret Tryz.prog 105 #[str s, .int .i64 (i : Nat), .int .u8 (b.toNat : Nat)] w (fun v w' => v = .bool (atP (eqB b) s i) ∧ Ext w w') := by
  refine enter (S := No) (l := [_, _, _]) (L := []) 18 Tryz.func105 rfl rfl rfl (St.start w No) ?_; refine yA ?_; refine aB rfl ?_; refine yC ?_; refine mI rfl ?_; refine zm (v := str _) rfl ?_; refine zg (fun _ => R_slen st9 rfl (by omega)) ?_; refine jl rfl rfl ?_; refine mB rfl ?_; refine w_gT (v := str _) rfl rfl rfl (fun hc w h => R_move rfl) rfl ?_; refine w_gT (v := .int _ _) rfl rfl rfl (fun hc w h => R_move rfl) rfl ?_; refine gTx rfl (fun hc w h => R_sidxD st9 (gvl_t hc) (gvl_t hc) (by have h9 := hc; simp only [Bool.and_eq_true, decide_eq_true_eq, Bool.not_eq_true', decide_eq_false_iff_not] at h9; omega)) rfl ?_
  refine w_gT (v := .int _ _) rfl rfl rfl (fun hc w h => R_move rfl) rfl ?_; refine gTx rfl (fun hc w h => R_eq (gvl_t hc) (gvl_t hc)) rfl ?_; refine zg (v := .bool _) (fun _ => R_pickA rfl rfl rfl) ?_; refine aB rfl ?_; refine yB ?_; refine ze ?_; refine zo (v := .bool _) rfl rfl rfl ?_; exact fun w' hw => ⟨congrArg Value.bool (by by_cases hl : i < s.length; exact (by rw [atP_in hl, eq_int, decide_eq_true (show (i : Int) < (s.length : Int) by omega), List.getD_eq_getElem?_getD, List.getElem?_eq_getElem hl]; rfl); exact (by rw [atP_out (by omega), decide_eq_false (show ¬ (i : Int) < (s.length : Int) by omega)]; rfl)), hw.f0⟩
theorem rdigits_spec (s : List UInt8) (i : Nat) (hs : s.length ≤ 10000000) (hi : i ≤ s.length) (w : World) :
    Ret Tryz.prog 106 #[str s, .int .i64 (i : Nat)] w (fun v w' => v = .int .i64 (runTo digitB s i : Nat) ∧ Ext w w') := by
  refine enter (S := No) (l := [_, _]) (L := []) 11 Tryz.func106 rfl rfl rfl (St.start w No) ?_; refine yA ?_; refine aI rfl ?_; refine yB ?_; refine zq ?_; refine zB ?_; refine c_loop (fun m e B L => ∃ (k : Nat), e 0 = str s ∧ e 1 = .int .i64 (k : Nat) ∧ B = [(w, No)] ∧ L = [] ∧ k ≤ s.length ∧ runTo digitB s k = runTo digitB s i ∧ m = s.length - k) _ ⟨i, rfl, rfl, rfl, rfl, hi, rfl, rfl⟩ ?_
  rintro m e B L ⟨k, e0_1, e1_1, rfl, rfl, hk, hr, rfl⟩
  refine zq ?_; refine yA ?_; refine zm (v := str _) e0_1 ?_; refine mI e1_1 ?_; refine jD Tryz.func65 (fun w h => rdigit_spec s k hs (by omega) w) ?_; refine yB ?_; refine c_cond rfl (fun h1 => ?_) (fun h1 => ?_)
  · refine zi ?_; refine zk ?_; refine zB ?_; refine zr ?_; refine mI e1_1 ?_; refine ji rfl rfl (by omega) ?_; refine aI rfl ?_; refine zn ?_; refine zO (?_)
    have hl := atP_lt h1
    exact k_again _ (by omega) ⟨k + 1, e0_1, rfl, rfl, rfl, by omega, by rw [← hr, runTo_step h1], rfl⟩
  refine zX ?_; refine zx (zx (b_here rfl (zk ?_))); refine yA ?_; refine mI e1_1 ?_; refine aI rfl ?_; refine yB ?_; refine ze ?_; refine zo (v := .int _ _) rfl rfl rfl ?_; exact fun w' hw => ⟨by rw [← hr, runTo_stop h1], hw.f0⟩
theorem rskip_spec (s : List UInt8) (i : Nat) (hs : s.length ≤ 10000000) (hi : i ≤ s.length) (w : World) :
    Ret Tryz.prog 63 #[str s, .int .i64 (i : Nat)] w (fun v w' => v = .int .i64 (skipTo s i : Nat) ∧ Ext w w') := by
  refine enter (S := No) (l := [_, _]) (L := []) 34 Tryz.func63 rfl rfl rfl (St.start w No) ?_; refine yA ?_; refine aI rfl ?_; refine yB ?_; refine zB ?_; refine c_loop (fun m e B L => ∃ (k : Nat), e 0 = str s ∧ e 1 = .int .i64 (k : Nat) ∧ B = [(w, No)] ∧ L = [] ∧ k ≤ s.length ∧ skipTo s k = skipTo s i ∧ m = s.length - k) _ ⟨i, rfl, rfl, rfl, rfl, hi, rfl, rfl⟩ ?_
  rintro m e B L ⟨k, e0_1, e1_1, rfl, rfl, hk, hr, rfl⟩
  refine zB ?_; refine zq ?_; refine yA ?_; refine zm (v := str _) e0_1 ?_; refine mI e1_1 ?_; refine jD Tryz.func104 (fun w h => rblank_spec s k hs (by omega) w) ?_; refine yB ?_; refine c_cond rfl (fun h1 => ?_) (fun h1 => ?_)
  · refine yA ?_; refine mI e1_1 ?_; refine ji rfl rfl (by omega) ?_; refine aI rfl ?_; refine yB ?_; refine zX ?_; refine zx (b_here rfl (?_))
    have hl := atP_lt h1
    exact k_again _ (by omega) ⟨k + 1, e0_1, rfl, rfl, rfl, by omega, by rw [← hr, skip_blank hl h1], rfl⟩
  refine zi ?_; refine zk ?_; refine zq ?_; refine yA ?_; refine zm (v := str _) e0_1 ?_; refine mI e1_1 ?_; refine jD Tryz.func105 (fun w h => ris_spec s k 47 hs (by omega) w) ?_; refine jk rfl ?_; refine mB rfl ?_; refine zp (t := 14) rfl (fun h2 => ?_) (fun h2 => ?_)
  · refine zs rfl rfl (bV h2) ?_; refine zs rfl rfl (bV h2) ?_; refine zs rfl rfl (bV h2) ?_; refine zs rfl rfl (bV h2) ?_; refine zs rfl rfl (bV h2) ?_; refine jT (bV h2) rfl ?_; refine yB ?_; refine zE rfl ?_; refine yA ?_; refine mI e1_1 ?_; refine aI rfl ?_; refine yB ?_; refine ze ?_; refine zt (zb (zt (zb (?_))))
    refine zo (v := .int _ _) rfl rfl rfl ?_; exact fun w' hw => ⟨by rw [← hr, skip_stop hk (by simpa using h1) (by simp_all [cmt])], hw.f0⟩
  refine zw rfl rfl (bV h2) ?_; refine zm (v := str _) e0_1 ?_; refine zw rfl rfl (bV h2) ?_; refine mI e1_1 ?_; refine zw rfl rfl (bV h2) ?_; refine ji rfl rfl (by omega) ?_; refine zw rfl rfl (bV h2) ?_; refine jD Tryz.func105 (fun w h => ris_spec s (k + 1) 47 hs (by omega) w) ?_; refine zw rfl rfl (bV h2) ?_; refine jk rfl ?_; refine jF (bV h2) rfl ?_; refine yB ?_; refine c_condN rfl (fun h3 => ?_) (fun h3 => ?_)
  · refine yA ?_; refine mI e1_1 ?_; refine aI rfl ?_; refine yB ?_; refine ze ?_; refine zt (zb (zt (zb (?_))))
    refine zo (v := .int _ _) rfl rfl rfl ?_; exact fun w' hw => ⟨by rw [← hr, skip_stop hk (by simpa using h1) (by simp_all [cmt])], hw.f0⟩
  refine zi ?_; refine zk ?_; refine zB ?_; refine c_loop (fun m e B L => ∃ (q : Nat), e 0 = str s ∧ e 1 = .int .i64 (q : Nat) ∧ B = [(w, No)] ∧ L = [] ∧ k ≤ q ∧ q ≤ s.length ∧ runTo notNl s q = runTo notNl s k ∧ m = s.length - q) _ ⟨k, e0_1, e1_1, rfl, rfl, by omega, hk, rfl, rfl⟩ ?_
  rintro m e B L ⟨q, e0_2, e1_2, rfl, rfl, hkq, hq, hn, rfl⟩
  refine zq ?_; refine yA ?_; refine mI e1_2 ?_; refine zm (v := str _) e0_2 ?_; refine zg (fun _ => R_slen st9 rfl (by omega)) ?_; refine jl rfl rfl ?_; refine mB rfl ?_; refine zd (t := 26) rfl (fun h4 => ?_) (fun h4 => ?_)
  · refine zw rfl rfl (bT h4) ?_; refine zm (v := str _) e0_2 ?_; refine zw rfl rfl (bT h4) ?_; refine mI e1_2 ?_; refine zw rfl rfl (bT h4) ?_; refine w_sidx st9 rfl rfl (by omega) ?_; refine zw rfl rfl (bT h4) ?_; refine jn rfl rfl ?_; refine jT (bT h4) rfl ?_; refine yB ?_; refine zD rfl (fun h5 => ?_) (fun h5 => ?_)
    · refine zi ?_; refine zk ?_; refine zB ?_; refine zr ?_; refine mI e1_2 ?_; refine ji rfl rfl (by omega) ?_; refine aI rfl ?_; refine zn ?_; refine zO (?_)
      exact k_again _ (by omega) ⟨q + 1, e0_2, rfl, rfl, rfl, by omega, by omega, by rw [← hn, runTo_step (show atP notNl s q = true by rw [atP_in (by omega), notNl_int]; simp; omega)], rfl⟩
    refine zX ?_; refine zx (zx (b_here rfl (zO (?_))))
    have hc : cmt s k = true := by simp_all [cmt]
    have hc2 := cmt_run hc
    have hx : atP notNl s q = false := by rw [atP_in (by omega), notNl_int]; simp; omega
    rw [runTo_stop hx] at hn
    exact k_again _ (by omega) ⟨q, e0_2, e1_2, rfl, rfl, by omega, by rw [← hr, skip_cmt hk (by simpa using h1) hc, ← hn], rfl⟩
  refine zs rfl rfl (bF h4) ?_; refine zs rfl rfl (bF h4) ?_; refine zs rfl rfl (bF h4) ?_; refine zs rfl rfl (bF h4) ?_; refine jF (bF h4) rfl ?_; refine yB ?_; refine zG rfl ?_; refine zX ?_; refine zx (zx (b_here rfl (zO (?_))))
  have hc : cmt s k = true := by simp_all [cmt]
  have hc2 := cmt_run hc
  have hx : atP notNl s q = false := atP_out (by omega)
  rw [runTo_stop hx] at hn
  exact k_again _ (by omega) ⟨q, e0_2, e1_2, rfl, rfl, by omega, by rw [← hr, skip_cmt hk (by simpa using h1) hc, ← hn], rfl⟩
theorem numT_1 {s : List UInt8} {D : Nat} (h : (atP (eqB 101) s D && atP digitB s (D + 1)) = true) : numTens s D = (runTo digitB s (D + 1) - (D + 1), runTo digitB s (D + 1)) := by unfold numTens; rw [if_pos h]
theorem numT_2 {s : List UInt8} {D : Nat} (h1 : (atP (eqB 101) s D && atP digitB s (D + 1)) = false) (h2 : (atP (eqB 101) s D && (atP (eqB 43) s (D + 1) || atP (eqB 45) s (D + 1)) && atP digitB s (D + 2)) = true) : numTens s D = (runTo digitB s (D + 2) - (D + 2), runTo digitB s (D + 2)) := by
  unfold numTens; rw [if_neg (by rw [h1]; exact Bool.false_ne_true), at_pm, ← Bool.and_assoc, if_pos h2]
theorem numT_0 {s : List UInt8} {D : Nat} (h1 : (atP (eqB 101) s D && atP digitB s (D + 1)) = false) (h2 : (atP (eqB 101) s D && (atP (eqB 43) s (D + 1) || atP (eqB 45) s (D + 1)) && atP digitB s (D + 2)) = false) : numTens s D = (0, D) := by
  unfold numTens; rw [if_neg (by rw [h1]; exact Bool.false_ne_true), at_pm, ← Bool.and_assoc, if_neg (by rw [h2]; exact Bool.false_ne_true)]
theorem rnumber_spec (s : List UInt8) (i : Nat) (hs : s.length ≤ 10000000) (hi : i ≤ s.length) (w : World) :
    Ret Tryz.prog 66 #[str s, .int .i64 (i : Nat)] w (fun v w' => v = .tuple #[.int .i64 (numEnd s i : Nat), .bool (numFine s i)] ∧ Ext w w') := by
  have g1 := runTo_le (p := digitB) hi
  have g2 := numDot_le g1
  have g3 := numTens_le g2.1
  have g0 : numEnd s i = (numTens s (numDot s (runTo digitB s i))).2 := rfl
  refine enter (S := No) (l := [_, _]) (L := []) 87 Tryz.func66 rfl rfl rfl (St.start w No) ?_; refine yA ?_; refine aI rfl ?_; refine aB rfl ?_; refine yC ?_; refine zm (v := str _) rfl ?_; refine mI rfl ?_
  have q1 := runTo_le (p := digitB) (s := s) (i := i) (by first | omega | (have := atP_lt (by assumption); omega) | (have := atP_lt (gr (by assumption)); omega))
  have q2 := runTo_ge digitB s i
  refine jD Tryz.func106 (fun w h => rdigits_spec s i hs (by omega) w) ?_; refine aI rfl ?_; refine yB ?_; refine c_cut (fun e B L => e 0 = str s ∧ e 1 = .int .i64 (numDot s (runTo digitB s i) : Nat) ∧ B = [(w, No)] ∧ L = []) ?_ ?_
  · refine yA ?_; refine zm (v := str _) rfl ?_; refine mI rfl ?_; refine jD Tryz.func105 (fun w h => ris_spec s (runTo digitB s i) 46 hs (by omega) w) ?_; refine mB rfl ?_; refine w_gT (v := str _) rfl rfl rfl (fun hc w h => R_move rfl) rfl ?_; refine w_gT (v := .int _ _) rfl rfl rfl (fun hc w h => R_move rfl) rfl ?_
    refine gTx rfl (fun hc w h => R_addi (gvl_t hc) rfl (by omega)) rfl ?_; refine w_cT rfl rfl rfl (fun hc w => runE_as (zR Tryz.func65 rfl rfl rfl) (arr2 (gvl_t hc) (gvl_t hc))) rfl (fun hc w h => rdigit_spec s ((runTo digitB s i) + 1) hs (by omega) w) ?_; refine zg (v := .bool _) (fun _ => R_pickA rfl rfl rfl) ?_; refine yB ?_; refine c_cond rfl (fun h1 => ?_) (fun h1 => ?_)
    · refine zr ?_; refine zm (v := str _) rfl ?_; refine mI rfl ?_; refine ji rfl rfl (by omega) ?_
      have q1 := runTo_le (p := digitB) (s := s) (i := ((runTo digitB s i) + 1)) (by first | omega | (have := atP_lt (by assumption); omega) | (have := atP_lt (gr (by assumption)); omega))
      have q2 := runTo_ge digitB s ((runTo digitB s i) + 1)
      refine jD Tryz.func106 (fun w h => rdigits_spec s ((runTo digitB s i) + 1) hs (by omega) w) ?_; refine aI rfl ?_; refine zn ?_
      have hd : numDot s (runTo digitB s i) = runTo digitB s (runTo digitB s i + 1) := by simp [numDot, h1]
      exact k_mid ⟨rfl, by rw [hd]; rfl, rfl, rfl⟩
    refine zi ?_
    have hd : numDot s (runTo digitB s i) = runTo digitB s i := by simp [numDot, h1]
    exact k_mid ⟨rfl, by rw [hd]; rfl, rfl, rfl⟩
  rintro e B L ⟨e0_1, e1_1, rfl, rfl⟩
  refine yA ?_; refine mI e1_1 ?_; refine aI rfl ?_; refine yB ?_; refine c_cut (fun e B L => ∃ (q : Nat), e 0 = str s ∧ e 1 = .int .i64 (numEnd s i : Nat) ∧ e 6 = .int .i64 (q : Nat) ∧ B = [(w, No)] ∧ L = [] ∧ q ≤ numEnd s i ∧ (numTens s (numDot s (runTo digitB s i))).1 = numEnd s i - q) ?_ ?_
  · refine yA ?_; refine zm (v := str _) e0_1 ?_; refine mI e1_1 ?_; refine jD Tryz.func105 (fun w h => ris_spec s (numDot s (runTo digitB s i)) 101 hs (by omega) w) ?_; refine mB rfl ?_; refine w_gT (v := str _) rfl rfl rfl (fun hc w h => R_move e0_1) rfl ?_; refine w_gT (v := .int _ _) rfl rfl rfl (fun hc w h => R_move e1_1) rfl ?_
    refine gTx rfl (fun hc w h => R_addi (gvl_t hc) rfl (by omega)) rfl ?_; refine w_cT rfl rfl rfl (fun hc w => runE_as (zR Tryz.func65 rfl rfl rfl) (arr2 (gvl_t hc) (gvl_t hc))) rfl (fun hc w h => rdigit_spec s ((numDot s (runTo digitB s i)) + 1) hs (by omega) w) ?_; refine zg (v := .bool _) (fun _ => R_pickA rfl rfl rfl) ?_; refine yB ?_; refine c_cond rfl (fun h2 => ?_) (fun h2 => ?_)
    · refine yA ?_; refine mI e1_1 ?_; refine ji rfl rfl (by omega) ?_; refine aI rfl ?_; refine yB ?_; refine zr ?_; refine zm (v := str _) e0_1 ?_; refine mI rfl ?_
      have q1 := runTo_le (p := digitB) (s := s) (i := ((numDot s (runTo digitB s i)) + 1)) (by first | omega | (have := atP_lt (by assumption); omega) | (have := atP_lt (gr (by assumption)); omega))
      have q2 := runTo_ge digitB s ((numDot s (runTo digitB s i)) + 1)
      refine jD Tryz.func106 (fun w h => rdigits_spec s ((numDot s (runTo digitB s i)) + 1) hs (by omega) w) ?_; refine aI rfl ?_; refine zn ?_
      have hT : numTens s (numDot s (runTo digitB s i)) = (runTo digitB s ((numDot s (runTo digitB s i)) + 1) - ((numDot s (runTo digitB s i)) + 1), runTo digitB s ((numDot s (runTo digitB s i)) + 1)) := numT_1 (by assumption)
      exact k_mid ⟨((numDot s (runTo digitB s i)) + 1), e0_1, by rw [g0, hT]; rfl, rfl, rfl, rfl, by rw [g0, hT]; exact runTo_ge _ _ _, by rw [g0, hT]⟩
    refine yA ?_; refine zm (v := str _) e0_1 ?_; refine mI e1_1 ?_; refine jD Tryz.func105 (fun w h => ris_spec s (numDot s (runTo digitB s i)) 101 hs (by omega) w) ?_; refine mB rfl ?_; refine w_gT (v := str _) rfl rfl rfl (fun hc w h => R_move e0_1) rfl ?_; refine w_gT (v := .int _ _) rfl rfl rfl (fun hc w h => R_move e1_1) rfl ?_
    refine gTx rfl (fun hc w h => R_addi (gvl_t hc) rfl (by omega)) rfl ?_; refine w_cT rfl rfl rfl (fun hc w => runE_as (zR Tryz.func105 rfl rfl rfl) (arr3 (gvl_t hc) (gvl_t hc) rfl)) rfl (fun hc w h => ris_spec s ((numDot s (runTo digitB s i)) + 1) 43 hs (by omega) w) ?_; refine gTx (v := .bool _) rfl (fun hc w h => R_move (gvl_t hc)) rfl ?_; refine w_hF (v := str _) rfl rfl rfl (fun hc w h => R_move e0_1) rfl ?_; refine w_hF (v := .int _ _) rfl rfl rfl (fun hc w h => R_move e1_1) rfl ?_
    refine hFx rfl (fun hc w h => R_addi (gvl_t hc) rfl (by omega)) rfl ?_; refine w_dF rfl rfl rfl (fun hc w => runE_as (zR Tryz.func105 rfl rfl rfl) (arr3 (gvl_t hc) (gvl_t hc) rfl)) rfl (fun hc w h => ris_spec s ((numDot s (runTo digitB s i)) + 1) 45 hs (by omega) w) ?_; refine gTx (v := .bool _) rfl (fun hc w h => R_pickO (gvl_t hc) (gvl_and hc) rfl) rfl ?_; refine zg (v := .bool _) (fun _ => R_pickA rfl rfl rfl) ?_; refine mB rfl ?_; refine w_gT (v := str _) rfl rfl rfl (fun hc w h => R_move e0_1) rfl ?_; refine w_gT (v := .int _ _) rfl rfl rfl (fun hc w h => R_move e1_1) rfl ?_
    refine gTx rfl (fun hc w h => R_addi (gvl_t hc) rfl (by omega)) rfl ?_; refine w_cT rfl rfl rfl (fun hc w => runE_as (zR Tryz.func65 rfl rfl rfl) (arr2 (gvl_t hc) (gvl_t hc))) rfl (fun hc w h => rdigit_spec s ((numDot s (runTo digitB s i)) + 2) hs (by omega) w) ?_; refine zg (v := .bool _) (fun _ => R_pickA rfl rfl rfl) ?_; refine yB ?_; refine c_cond rfl (fun h3 => ?_) (fun h3 => ?_)
    · refine yA ?_; refine mI e1_1 ?_; refine ji rfl rfl (by omega) ?_; refine aI rfl ?_; refine yB ?_; refine zr ?_; refine zm (v := str _) e0_1 ?_; refine mI rfl ?_
      have q1 := runTo_le (p := digitB) (s := s) (i := ((numDot s (runTo digitB s i)) + 2)) (by first | omega | (have := atP_lt (by assumption); omega) | (have := atP_lt (gr (by assumption)); omega))
      have q2 := runTo_ge digitB s ((numDot s (runTo digitB s i)) + 2)
      refine jD Tryz.func106 (fun w h => rdigits_spec s ((numDot s (runTo digitB s i)) + 2) hs (by omega) w) ?_; refine aI rfl ?_; refine zn ?_
      have hT : numTens s (numDot s (runTo digitB s i)) = (runTo digitB s ((numDot s (runTo digitB s i)) + 2) - ((numDot s (runTo digitB s i)) + 2), runTo digitB s ((numDot s (runTo digitB s i)) + 2)) := numT_2 (by assumption) (by assumption)
      exact k_mid ⟨((numDot s (runTo digitB s i)) + 2), e0_1, by rw [g0, hT]; rfl, rfl, rfl, rfl, by rw [g0, hT]; exact runTo_ge _ _ _, by rw [g0, hT]⟩
    refine zi ?_
    have hT : numTens s (numDot s (runTo digitB s i)) = (0, (numDot s (runTo digitB s i))) := numT_0 (by assumption) (by assumption)
    exact k_mid ⟨(numDot s (runTo digitB s i)), e0_1, by rw [g0, hT]; exact e1_1, rfl, rfl, rfl, by rw [g0, hT]; exact Nat.le_refl _, by rw [g0, hT]; simp⟩
  rintro e B L ⟨q, e0_2, e1_2, e6_2, rfl, rfl, hq, hf⟩
  refine yA ?_; refine mI e1_2 ?_; refine mI e1_2 ?_; refine mI e6_2 ?_; refine zg (fun _ => R_subi rfl rfl (by omega)) ?_; refine jm rfl rfl ?_; refine mB rfl ?_; refine w_gT (v := str _) rfl rfl rfl (fun hc w h => R_move e0_2) rfl ?_
  refine w_gT (v := .int _ _) rfl rfl rfl (fun hc w h => R_move e1_2) rfl ?_; refine w_cT rfl rfl rfl (fun hc w => runE_as (zR Tryz.func64 rfl rfl rfl) (arr2 (gvl_t hc) (gvl_t hc))) rfl (fun hc w h => rletter_spec s (numEnd s i) hs (by omega) w) ?_; refine gTx rfl (fun hc w h => R_not (gvl_t hc)) rfl ?_; refine zg (v := .bool _) (fun _ => R_pickA rfl rfl rfl) ?_; refine mB rfl ?_; refine w_gT (v := str _) rfl rfl rfl (fun hc w h => R_move e0_2) rfl ?_; refine w_gT (v := .int _ _) rfl rfl rfl (fun hc w h => R_move e1_2) rfl ?_; refine w_cT rfl rfl rfl (fun hc w => runE_as (zR Tryz.func65 rfl rfl rfl) (arr2 (gvl_t hc) (gvl_t hc))) rfl (fun hc w h => rdigit_spec s (numEnd s i) hs (by omega) w) ?_
  refine gTx rfl (fun hc w h => R_not (gvl_t hc)) rfl ?_; refine zg (v := .bool _) (fun _ => R_pickA rfl rfl rfl) ?_; refine mB rfl ?_; refine w_gT (v := str _) rfl rfl rfl (fun hc w h => R_move e0_2) rfl ?_; refine w_gT (v := .int _ _) rfl rfl rfl (fun hc w h => R_move e1_2) rfl ?_; refine w_cT rfl rfl rfl (fun hc w => runE_as (zR Tryz.func105 rfl rfl rfl) (arr3 (gvl_t hc) (gvl_t hc) rfl)) rfl (fun hc w h => ris_spec s (numEnd s i) 46 hs (by omega) w) ?_
  refine gTx rfl (fun hc w h => R_not (gvl_t hc)) rfl ?_; refine zg (v := .bool _) (fun _ => R_pickA rfl rfl rfl) ?_; refine aI rfl ?_; refine aB rfl ?_; refine yB ?_; refine ze ?_
  have hx : decide (numEnd s i - q ≤ 4) = decide (((numEnd s i : Nat) : Int) - (q : Int) ≤ 4) := by congr 1; apply propext; omega
  refine r_two (v := .int _ _) (v2 := .bool _) rfl rfl rfl rfl rfl ?_; exact fun w' hw => ⟨by rw [numFine, hf, at_tail, hx]; clear hx hf g0 g3; first | (simp only [Bool.not_or, Bool.and_assoc]; done) | (simp_all; done) | (simp_all; intros; omega), hw.f0⟩
theorem rsign_spec (s : List UInt8) (i : Nat) (hs : s.length ≤ 10000000) (hi : i < s.length) (w : World) :
    Ret Tryz.prog 67 #[str s, .int .i64 (i : Nat)] w (fun v w' => v = .int .i64 (signLen s i : Nat) ∧ Ext w w') := by
  refine enter (S := No) (l := [_, _]) (L := []) 46 Tryz.func67 rfl rfl rfl (St.start w No) ?_; refine yA ?_; refine aI rfl ?_; refine yC ?_; refine zS slt81 (by decide) rfl rfl (fun fb gfb ufb => ?_)
  refine za (v := .slice _ _ _) rfl ?_; refine yB ?_; refine zq ?_; refine yA ?_; refine aI rfl ?_; refine yB ?_; refine zB ?_; refine c_loop (fun m e B L => ∃ (k : Nat), e 0 = str s ∧ e 1 = .int .i64 (i : Nat) ∧ e 5 = .slice (some ⟨fb, 0, none⟩) 5 5 ∧ e 6 = .int .i64 (k : Nat) ∧ B = [(w, No)] ∧ L = [(fb, cel [str [61, 61], str [33, 61], str [60, 61], str [62, 61], str [43, 61]] 9)] ∧ k ≤ 5 ∧ (signsL.take k).find? (fun t => t.isPrefixOf (s.drop i)) = none ∧ m = 5 - k) _ ⟨0, rfl, rfl, rfl, rfl, rfl, rfl, by omega, rfl, rfl⟩ ?_
  rintro m e B L ⟨k, e0_1, e1_1, e5_1, e6_1, rfl, rfl, hk, hn, rfl⟩
  refine zq ?_; refine yA ?_; refine mI e6_1 ?_; refine mS e5_1 ?_; refine jj sl81 rfl ?_; refine jl rfl rfl ?_; refine yB ?_; refine zD rfl (fun h1 => ?_) (fun h1 => ?_)
  · refine zi ?_; refine zk ?_; refine zq ?_; refine zB ?_; refine zq ?_; refine c_draw mixed (by kernel_rfl) ?_; refine mI e1_1 ?_; refine ji rfl rfl (by omega) ?_; refine zm (v := str _) e0_1 ?_; refine zg (fun _ => R_slen st9 rfl (by omega)) ?_; refine jm rfl rfl ?_; refine mB rfl ?_; refine zd (t := 21) rfl (fun h2 => ?_) (fun h2 => ?_)
    · refine zw rfl rfl (bT h2) ?_; refine zm (v := str _) e0_1 ?_; refine zw rfl rfl (bT h2) ?_; refine mI e1_1 ?_; refine zw rfl rfl (bT h2) ?_; refine mI e1_1 ?_; refine zw rfl rfl (bT h2) ?_; refine ji rfl rfl (by omega) ?_; refine zw rfl rfl (bT h2) ?_; refine zg (fun _ => R_sslN (l := i) (h := (i + 2)) st9 rfl rfl rfl (by omega) (by omega)) ?_; refine zw rfl rfl (bT h2) ?_; refine mS e5_1 ?_; refine zw rfl rfl (bT h2) ?_; refine mI e6_1 ?_; refine zw rfl rfl (bT h2) ?_; refine zg (fun _ => R_iaN (i := k) sl81 rfl rfl (by first | omega | decide | exact Nat.succ_pos _ | exact Nat.succ_lt_succ (Nat.succ_pos _))) ?_
      refine zw rfl rfl (bT h2) ?_; refine zl z9 rfl (fun _ h => by first | exact zc 0 rfl rfl h | exact zc 0 rfl (two_at (by omega)) h) ?_; refine zw rfl rfl (bT h2) ?_; refine js rfl rfl ?_; refine jT (bT h2) rfl ?_; refine yB ?_; refine zD rfl (fun h3 => ?_) (fun h3 => ?_)
      · refine yA ?_; refine aI rfl ?_; refine yB ?_; refine ze ?_; refine zb (zt (zt (zb (zt (?_)))))
        have r2 := sig_found (by omega) hn (show (signsL.getD k []).isPrefixOf (s.drop i) = true by rw [pre_two _ (sig_two k (by omega)), Bool.and_eq_true, decide_eq_true_eq, decide_eq_true_eq]; rw [show i + 2 - i = 2 by omega] at h3; exact ⟨by omega, h3⟩)
        refine zo (v := .int _ _) rfl rfl rfl ?_; exact fun w' hw => ⟨by rw [r2, sig_two k (by omega)]; rfl, hw.f0⟩
      refine zi ?_; refine zO (zk ?_); refine zr ?_; refine mI e6_1 ?_; refine ji rfl rfl (by omega) ?_; refine aI rfl ?_; refine zn ?_; exact k_again _ (by omega) ⟨k + 1, e0_1, e1_1, e5_1, rfl, rfl, rfl, by omega, sig_step (by omega) hn (by rw [pre_two _ (sig_two k (by omega))]; simp only [Bool.and_eq_false_iff, decide_eq_false_iff_not]; first | exact .inl (by omega) | exact .inr (by rw [show i + 2 - i = 2 by omega] at h3; exact h3)), rfl⟩
    refine zs rfl rfl (bF h2) ?_; refine zs rfl rfl (bF h2) ?_; refine zs rfl rfl (bF h2) ?_; refine zs rfl rfl (bF h2) ?_; refine zs rfl rfl (bF h2) ?_; refine zs rfl rfl (bF h2) ?_; refine zs rfl rfl (bF h2) ?_; refine zs rfl rfl (bF h2) ?_; refine zs rfl rfl (bF h2) ?_; refine zs rfl rfl (bF h2) ?_; refine jF (bF h2) rfl ?_; refine yB ?_; refine zG rfl ?_; refine zi ?_; refine zO (zk ?_); refine zr ?_; refine mI e6_1 ?_; refine ji rfl rfl (by omega) ?_; refine aI rfl ?_; refine zn ?_
    exact k_again _ (by omega) ⟨k + 1, e0_1, e1_1, e5_1, rfl, rfl, rfl, by omega, sig_step (by omega) hn (by rw [pre_two _ (sig_two k (by omega))]; simp only [Bool.and_eq_false_iff, decide_eq_false_iff_not]; first | exact .inl (by omega) | exact .inr (by rw [show i + 2 - i = 2 by omega] at h3; exact h3)), rfl⟩
  refine zX ?_; refine zx (zx (b_here rfl (zk ?_))); refine yA ?_; refine za (v := str _) rfl ?_; refine yB ?_; refine zq ?_; refine yA ?_; refine aI rfl ?_; refine yB ?_; refine zB ?_
  obtain rfl : k = 5 := by omega
  refine c_loop (fun m e B L => ∃ (k : Nat), e 0 = str s ∧ e 1 = .int .i64 (i : Nat) ∧ e 7 = str oneT ∧ e 8 = .int .i64 (k : Nat) ∧ B = [(w, No)] ∧ L = [(fb, cel [str [61, 61], str [33, 61], str [60, 61], str [62, 61], str [43, 61]] 9)] ∧ k ≤ 17 ∧ (signsL.take (5 + k)).find? (fun t => t.isPrefixOf (s.drop i)) = none ∧ m = 17 - k) _ ⟨0, e0_1, e1_1, rfl, rfl, rfl, rfl, by omega, hn, rfl⟩ ?_
  rintro m e B L ⟨k, e0_2, e1_2, e7_2, e8_2, rfl, rfl, hk, hn, rfl⟩
  have hL : oneT.length = 17 := rfl
  refine zq ?_; refine yA ?_; refine mI e8_2 ?_; refine zm (v := str _) e7_2 ?_; refine zg (fun _ => R_slen st9 rfl (by omega)) ?_; refine jl rfl rfl ?_; refine yB ?_; refine zD rfl (fun h4 => ?_) (fun h4 => ?_)
  · have hkl : k < oneT.length := by omega
    refine zi ?_; refine zk ?_; refine zq ?_; refine zB ?_; refine zq ?_; refine c_draw mixed (by kernel_rfl) ?_; refine zm (v := str _) e0_2 ?_; refine mI e1_2 ?_; refine w_sidx st9 rfl rfl (by omega) ?_; refine zm (v := str _) e7_2 ?_; refine mI e8_2 ?_; refine w_sidx st9 rfl rfl (by omega) ?_; refine je rfl rfl ?_; refine yB ?_; refine zD rfl (fun h5 => ?_) (fun h5 => ?_)
    · refine yA ?_; refine aI rfl ?_; refine yB ?_; refine ze ?_; refine zb (zt (zt (zb (zt (?_)))))
      have r2 := sig_found (k := 5 + k) (by omega) hn (by rw [sig_one k (by omega), pre_one _ hi]; simpa [List.getD_eq_getElem?_getD, hkl] using h5)
      refine zo (v := .int _ _) rfl rfl rfl ?_; exact fun w' hw => ⟨by rw [r2, sig_one k (by omega)]; rfl, hw.f0⟩
    refine zi ?_; refine zO (zk ?_); refine zr ?_; refine mI e8_2 ?_; refine ji rfl rfl (by omega) ?_; refine aI rfl ?_; refine zn ?_; exact k_again _ (by omega) ⟨k + 1, e0_2, e1_2, e7_2, rfl, rfl, rfl, by omega, sig_step (k := 5 + k) (by omega) hn (by rw [sig_one k (by omega), pre_one _ hi]; simpa [List.getD_eq_getElem?_getD, hkl] using h5), rfl⟩
  refine zX ?_; refine zx (zx (b_here rfl (zk ?_))); refine yA ?_; refine aI rfl ?_; refine yB ?_; refine ze ?_
  have r2 := sig_none (k := 5 + k) (by omega) hn
  refine zo (v := .int _ _) rfl rfl rfl ?_; exact fun w' hw => ⟨by rw [r2]; rfl, hw.f0⟩
end Go.Proofs.YtikdkendinnalaaGreatDoor
end
section
namespace Go.Proofs.YtikdkendinnalaaGreatDoor
open Go.RowKit Go.Sx
open Go.Tok
theorem rRead_spec (s : List UInt8) (hs : s.length ≤ 10000000) (w : World) :
  Ret Tryz.prog 27 #[str s] w (fun v w' => ∃ W, RdV (readP s) v W ∧ New w w' W) := by
 have g0 := skipTo_le (s := s) (Nat.zero_le _)
 refine enter (S := No) (l := [_]) (L := []) 84 Tryz.func27 rfl rfl rfl (St.start w No) ?_; refine yA ?_; refine za (v := .slice _ _ _) rfl ?_; refine zA zr27 (fun t3b gt3b ut3b => ?_)
 refine yB ?_; refine zq ?_; refine yA ?_; refine zm (v := str _) rfl ?_; refine zg (fun _ => R_slen st9 rfl (by omega)) ?_; refine jg rfl rfl ?_; refine yB ?_; refine zD rfl (fun h2 => ?_) (fun h2 => ?_)
 ·refine yA ?_; refine jb bt27 rfl ?_; refine za (v := .slice _ _ _) rfl ?_; refine jv 0 z27 rfl ?_; refine yB ?_; refine ze ?_; refine zt (?_)
  refine r_fin (.inl rfl) rfl (.tmp rfl rfl (.agg rfl rfl z27 (fun _ h => h.at_ 0 rfl) rfl .nil)) ?_; exact fun w' hw => ⟨[], by rw [readP_long (by omega)]; exact ⟨none, 0, rfl, Own.nil _ _⟩, .none (hw.f0)⟩
 ·refine zi ?_; refine zk ?_; refine yA ?_; refine za (v := .slice _ _ _) rfl ?_; refine yC ?_; refine zm (v := str _) rfl ?_; refine jD Tryz.func63 (fun w h => rskip_spec s 0 hs (by omega) w) ?_; refine aI rfl ?_; refine yB ?_; refine zq ?_; refine zB ?_
  refine c_loop (fun m e B L => ∃ (k : Nat) (x : Rd) (a0 : Option Addr) (c0 : Nat) (W : Heap), e 0 = str s ∧ e 3 = pX t3b ∧ e 4 = .slice a0 x.1.length c0 ∧ e 5 = .int .i64 (k : Nat) ∧ B = [(w, No)] ∧ L = (t3b, cel [.int .i64 0, .int .i64 0] 27) :: (W ++ []) ∧ k ≤ s.length ∧ Toks (.slice a0 x.1.length c0) x.1 W ∧ x.1.length ≤ 6000 ∧ x.2 = (0, 0) ∧ lexS readN s k x = readS s ∧ m = s.length - k) _ ⟨skipTo s 0, ([], 0, 0), none, 0, [], rfl, rfl, rfl, rfl, rfl, rfl, g0.1, Own.nil _ _, Nat.zero_le _, rfl, rfl, rfl⟩ ?_
  rintro m e B L ⟨k, x, a0, c0, W, e0_1, e3_1, e4_1, e5_1, rfl, rfl, hk, hT, hx6, hx0, hr, rfl⟩
  have g2 := tok_le hk
  have g6 := signLen_le hk
  refine zq ?_; refine yA ?_; refine mI e5_1 ?_; refine zm (v := str _) e0_1 ?_; refine zg (fun _ => R_slen st9 rfl (by omega)) ?_; refine jl rfl rfl ?_; refine yB ?_; refine zD rfl (fun h3 => ?_) (fun h3 => ?_)
  ·have hlt : k < s.length := by omega
   refine zi ?_; refine zk ?_; refine zB ?_; refine yA ?_; refine mI e5_1 ?_; refine jb bt64 rfl ?_; refine zA zr64 (fun t6b gt6b ut6b => ?_)
   refine jv 0 z64 rfl ?_; refine yC ?_; refine mI e5_1 ?_; refine aI rfl ?_; refine aB rfl ?_; refine yB ?_; refine c_cut (fun e B L => ∃ (kd q : Nat), e 0 = str s ∧ e 3 = pX t3b ∧ e 4 = .slice a0 x.1.length c0 ∧ e 5 = .int .i64 (k : Nat) ∧ e 6 = pX t6b ∧ e 7 = .int .i64 (q : Nat) ∧ e 8 = .bool (tokAt s k).2.2 ∧ B = [(w, No)] ∧ L = (t6b, cel [.int .u8 (kd : Nat), str ([]), .int .i64 (k : Nat)] 64) :: (t3b, cel [.int .i64 0, .int .i64 0] 27) :: (W ++ []) ∧ ((tokAt s k).2.2 = true → kd = (tokAt s k).1 ∧ q = (tokAt s k).2.1)) ?_ ?_
   ·refine yA ?_; refine zm (v := str _) e0_1 ?_; refine mI e5_1 ?_; refine jD Tryz.func64 (fun w h => rletter_spec s k hs (by omega) w) ?_; refine mB rfl ?_; refine zp (t := 25) rfl (fun h5 => ?_) (fun h5 => ?_)
    ·refine zw rfl rfl (bV h5) ?_; refine zm (v := str _) e0_1 ?_; refine zw rfl rfl (bV h5) ?_; refine mI e5_1 ?_; refine zw rfl rfl (bV h5) ?_; refine w_sidx st9 rfl rfl (by omega) ?_; refine zw rfl rfl (bV h5) ?_; refine jn rfl rfl ?_; refine jT (bV h5) rfl ?_; refine yB ?_; refine zD rfl (fun h6 => ?_) (fun h6 => ?_)
     ·have hnb : nameB s k = true := by rw [nameB, h5, atP_in hlt, eq_int' 95 95 rfl, decide_eq_false (by omega)]; rfl
      refine yA ?_; refine zf fa64_0 rfl ?_; refine jv 0 z5 rfl ?_; refine yB ?_; refine zB ?_; refine c_loop (fun m e B L => ∃ (q : Nat), e 0 = str s ∧ e 3 = pX t3b ∧ e 4 = .slice a0 x.1.length c0 ∧ e 5 = .int .i64 (k : Nat) ∧ e 6 = pX t6b ∧ e 7 = .int .i64 (q : Nat) ∧ e 8 = .bool true ∧ B = [(w, No)] ∧ L = (t6b, cel [.int .u8 (1 : Nat), str ([]), .int .i64 (k : Nat)] 64) :: (t3b, cel [.int .i64 0, .int .i64 0] 27) :: (W ++ []) ∧ k ≤ q ∧ q ≤ s.length ∧ runTo wordB s q = runTo wordB s k ∧ m = s.length - q) _ ⟨k, e0_1, e3_1, e4_1, e5_1, rfl, rfl, rfl, rfl, rfl, by omega, hk, rfl, rfl⟩ ?_
      rintro m e B L ⟨q, e0_3, e3_3, e4_3, e5_3, e6_3, e7_3, e8_3, rfl, rfl, hkq, hq, hw0, rfl⟩
      refine zq ?_; refine yA ?_; refine zm (v := str _) e0_3 ?_; refine mI e7_3 ?_; refine jD Tryz.func64 (fun w h => rletter_spec s q hs (by omega) w) ?_; refine mB rfl ?_; refine zp (t := 35) rfl (fun h7 => ?_) (fun h7 => ?_)
      ·refine zs rfl rfl (bV h7) ?_; refine zs rfl rfl (bV h7) ?_; refine zs rfl rfl (bV h7) ?_; refine jT (bV h7) rfl ?_; refine yB ?_; refine zE rfl ?_; refine zi ?_; refine zk ?_; refine zB ?_; refine zr ?_; refine mI e7_3 ?_; refine ji rfl rfl (by omega) ?_; refine aI rfl ?_; refine zn ?_; refine zO (?_)
       have hw1 : atP wordB s q = true := by rw [at_word]; simp [*]
       have hw2 := atP_lt hw1
       exact k_again _ (by omega) ⟨q + 1, e0_3, e3_3, e4_3, e5_3, e6_3, rfl, e8_3, rfl, rfl, by omega, by omega, by rw [← hw0, runTo_step hw1], rfl⟩
      ·refine zw rfl rfl (bV h7) ?_; refine zm (v := str _) e0_3 ?_; refine zw rfl rfl (bV h7) ?_; refine mI e7_3 ?_; refine zw rfl rfl (bV h7) ?_; refine jD Tryz.func65 (fun w h => rdigit_spec s q hs (by omega) w) ?_; refine jF (bV h7) rfl ?_; refine yB ?_; refine c_cond rfl (fun h8 => ?_) (fun h8 => ?_)
       ·refine zi ?_; refine zk ?_; refine zB ?_; refine zr ?_; refine mI e7_3 ?_; refine ji rfl rfl (by omega) ?_; refine aI rfl ?_; refine zn ?_; refine zO (?_)
        have hw1 : atP wordB s q = true := by rw [at_word]; simp [*]
        have hw2 := atP_lt hw1
        exact k_again _ (by omega) ⟨q + 1, e0_3, e3_3, e4_3, e5_3, e6_3, rfl, e8_3, rfl, rfl, by omega, by omega, by rw [← hw0, runTo_step hw1], rfl⟩
       ·refine zX ?_; refine zx (zx (b_here rfl (?_)))
        have hx : atP wordB s q = false := by rw [at_word]; simp [*]
        rw [runTo_stop hx] at hw0
        have e0 : tokAt s k = (1, q, true) := by rw [tokAt, if_pos hnb, ← hw0]
        exact k_mid ⟨1, q, e0_3, e3_3, e4_3, e5_3, e6_3, e7_3, by rw [e0]; exact e8_3, rfl, rfl, by rw [e0]; exact fun _ => ⟨rfl, rfl⟩⟩
     ·have hnb : nameB s k = false := by rw [nameB, h5, atP_in hlt, eq_int' 95 95 rfl, decide_eq_true (by omega)]; rfl
      refine yA ?_; refine zm (v := str _) e0_1 ?_; refine mI e5_1 ?_; refine jD Tryz.func65 (fun w h => rdigit_spec s k hs (by omega) w) ?_; refine yB ?_; refine c_cond rfl (fun h9 => ?_) (fun h9 => ?_)
      ·refine yA ?_; refine zf fa64_0 rfl ?_; refine jv 0 z5 rfl ?_; refine yB ?_; refine zr ?_; refine zm (v := str _) e0_1 ?_; refine mI e5_1 ?_; refine jD Tryz.func66 (fun w h => rnumber_spec s k hs (by omega) w) ?_; refine zm rfl ?_; refine jx rfl rfl ?_; refine jx rfl rfl ?_; refine aI rfl ?_; refine aB rfl ?_; refine zn ?_
       have e0 : tokAt s k = (2, numEnd s k, numFine s k) := by rw [tokAt, if_neg (by rw [hnb]; simp), if_pos h9]
       exact k_mid ⟨2, numEnd s k, e0_1, e3_1, e4_1, e5_1, rfl, rfl, by rw [e0]; rfl, rfl, rfl, by rw [e0]; exact fun _ => ⟨rfl, rfl⟩⟩
      ·refine yA ?_; refine zf fa64_0 rfl ?_; refine jv 0 z5 rfl ?_; refine yC ?_; refine mI e5_1 ?_; refine zm (v := str _) e0_1 ?_; refine mI e5_1 ?_; refine jD Tryz.func67 (fun w h => rsign_spec s k hs (by omega) w) ?_; refine ji rfl rfl (by omega) ?_; refine aI rfl ?_; refine yB ?_; refine zr ?_; refine mI rfl ?_; refine mI e5_1 ?_; refine jg rfl rfl ?_; refine aB rfl ?_; refine zn ?_
       have e0 : tokAt s k = if signLen s k = 0 then (0, k, false) else (3, k + signLen s k, true) := by rw [tokAt, if_neg (by rw [hnb]; simp), if_neg (by rw [h9]; simp)]
       have e8 : (tokAt s k).2.2 = decide (((k : Nat) : Int) + (signLen s k : Int) > (k : Int)) := by rw [e0]; split <;> simp <;> omega
       exact k_mid ⟨3, (k + signLen s k), e0_1, e3_1, e4_1, e5_1, rfl, rfl, by rw [e8]; rfl, rfl, rfl, by rw [e0]; split <;> simp⟩
    ·have hnb : nameB s k = false := by rw [nameB, h5]; rfl
     refine zs rfl rfl (bV h5) ?_; refine zs rfl rfl (bV h5) ?_; refine zs rfl rfl (bV h5) ?_; refine zs rfl rfl (bV h5) ?_; refine jF (bV h5) rfl ?_; refine yB ?_; refine zG rfl ?_; refine yA ?_; refine zm (v := str _) e0_1 ?_; refine mI e5_1 ?_; refine jD Tryz.func65 (fun w h => rdigit_spec s k hs (by omega) w) ?_; refine yB ?_; refine c_cond rfl (fun h10 => ?_) (fun h10 => ?_)
     ·refine yA ?_; refine zf fa64_0 rfl ?_; refine jv 0 z5 rfl ?_; refine yB ?_; refine zr ?_; refine zm (v := str _) e0_1 ?_; refine mI e5_1 ?_; refine jD Tryz.func66 (fun w h => rnumber_spec s k hs (by omega) w) ?_; refine zm rfl ?_; refine jx rfl rfl ?_; refine jx rfl rfl ?_; refine aI rfl ?_; refine aB rfl ?_; refine zn ?_
      have e0 : tokAt s k = (2, numEnd s k, numFine s k) := by rw [tokAt, if_neg (by rw [hnb]; simp), if_pos h10]
      exact k_mid ⟨2, numEnd s k, e0_1, e3_1, e4_1, e5_1, rfl, rfl, by rw [e0]; rfl, rfl, rfl, by rw [e0]; exact fun _ => ⟨rfl, rfl⟩⟩
     ·refine yA ?_; refine zf fa64_0 rfl ?_; refine jv 0 z5 rfl ?_; refine yC ?_; refine mI e5_1 ?_; refine zm (v := str _) e0_1 ?_; refine mI e5_1 ?_; refine jD Tryz.func67 (fun w h => rsign_spec s k hs (by omega) w) ?_; refine ji rfl rfl (by omega) ?_; refine aI rfl ?_; refine yB ?_; refine zr ?_; refine mI rfl ?_; refine mI e5_1 ?_; refine jg rfl rfl ?_; refine aB rfl ?_; refine zn ?_
      have e0 : tokAt s k = if signLen s k = 0 then (0, k, false) else (3, k + signLen s k, true) := by rw [tokAt, if_neg (by rw [hnb]; simp), if_neg (by rw [h10]; simp)]
      have e8 : (tokAt s k).2.2 = decide (((k : Nat) : Int) + (signLen s k : Int) > (k : Int)) := by rw [e0]; split <;> simp <;> omega
      exact k_mid ⟨3, (k + signLen s k), e0_1, e3_1, e4_1, e5_1, rfl, rfl, by rw [e8]; rfl, rfl, rfl, by rw [e0]; split <;> simp⟩
   rintro e B L ⟨kd, q, e0_2, e3_2, e4_2, e5_2, e6_2, e7_2, e8_2, rfl, rfl, hfine⟩
   refine zq ?_; refine yA ?_; refine mB e8_2 ?_; refine jk rfl ?_; refine yB ?_; refine c_condN rfl (fun h11 => ?_) (fun h11 => ?_)
   ·refine yA ?_; refine mI e5_2 ?_; refine jb bt27 rfl ?_; refine za (v := .slice _ _ _) rfl ?_; refine ju 1 z27 e3_2 rfl rfl ?_; refine yB ?_; refine ze ?_; refine zt (zb (zt (zb (zt (?_)))))
    have hrS : readS s = (x.1, 110, k) := by rw [← hr, lexS_end readN hlt (by rw [h11]; rfl), h11]; rfl
    refine r_fin (.inl rfl) rfl (.tmp rfl rfl (.agg rfl e3_2 z27 (fun _ h => h.at_ 1 rfl) rfl .nil)) ?_; exact fun w' hw => ⟨[], by rw [readP_bad (by omega) (by rw [hrS]; simp), hrS]; exact ⟨none, 0, rfl, Own.nil _ _⟩, .none (hw.f0)⟩
   ·have hgo := h11; have hkd := (hfine hgo).1; have hq := (hfine hgo).2; have hqk := g2.2.2 hgo; have hql : q ≤ s.length := by omega
    refine zi ?_; refine zk ?_; refine zq ?_; refine yA ?_; refine mS e4_2 ?_; refine jj sl55 rfl ?_; refine je rfl rfl ?_; refine yB ?_; refine zD rfl (fun h12 => ?_) (fun h12 => ?_)
    ·refine yA ?_; refine mI e5_2 ?_; refine jb bt27 rfl ?_; refine za (v := .slice _ _ _) rfl ?_; refine ju 1 z27 e3_2 rfl rfl ?_; refine yB ?_; refine ze ?_; refine zt (zb (zt (zb (zt (?_)))))
     have hN : readN x (tokAt s k).1 (tokTx s k) k (tokAt s k).2.2 = ((x.1, 6, k), false) := by rw [readN, if_neg (by rw [h11]; simp), if_pos (by omega)]
     have hrS : readS s = (x.1, 6, k) := by rw [← hr, lexS_end readN hlt (by rw [hN]), hN]
     refine r_fin (.inl rfl) rfl (.tmp rfl rfl (.agg rfl e3_2 z27 (fun _ h => h.at_ 1 rfl) rfl .nil)) ?_; exact fun w' hw => ⟨[], by rw [readP_bad (by omega) (by rw [hrS]; simp), hrS]; exact ⟨none, 0, rfl, Own.nil _ _⟩, .none (hw.f0)⟩
    ·refine zi ?_; refine zk ?_; refine yA ?_; refine zm (v := str _) e0_2 ?_; refine mI e5_2 ?_; refine mI e7_2 ?_; refine zg (fun _ => R_sslN (l := k) (h := q) st9 rfl rfl rfl (by omega) (by omega)) ?_; refine zf fa64_1 e6_2 ?_; refine jv 0 z9 rfl ?_; refine yC ?_; refine mS e4_2 ?_; refine jy 0 z64 e6_2 rfl ?_; refine zS slt55 (by decide) rfl rfl (fun bs gbs ubs => ?_)
     refine w_app [(bs, _), (t6b, _), (t3b, _)] (news := tkC (kd, (s.drop k).take (q - k), k)) slt55 (by decide) rfl hT rfl rfl (row_own 0 rfl (fun _ _ h => h)) rfl (by decide) (by omega) (by omega) (fun v2 W2 hO2 => ?_)
     obtain ⟨a2, c2, rfl⟩ := hO2.slice
     refine za (v := .slice _ _ _) rfl ?_; refine yB ?_; refine zr ?_; refine zm (v := str _) e0_2 ?_; refine mI e7_2 ?_; refine jD Tryz.func63 (fun w h => rskip_spec s q hs (by omega) w) ?_; refine aI rfl ?_; refine zn ?_; refine zO (?_)
     have hN : readN x (tokAt s k).1 (tokTx s k) k (tokAt s k).2.2 = ((x.1 ++ [(kd, (s.drop k).take (q - k), k)], x.2), true) := by rw [readN, if_neg (by rw [hgo]; simp), if_neg (by omega), tokTx, ← hq, ← hkd]
     refine zK (B' := [(w, No)]) (L' := (t3b, cel [.int .i64 0, .int .i64 0] 27) :: (W2 ++ [])) (fun w h => h.drop (.cons _ (.cons _ (List.Sublist.refl _)))) ?_
     have g5 := skipTo_le hql
     exact k_again _ (by omega) ⟨skipTo s q, (x.1 ++ [(kd, (s.drop k).take (q - k), k)], x.2), a2, c2, W2, e0_2, e3_2, (congrArg (fun n : Nat => Value.slice a2 n c2) (show x.1.length + 1 = (x.1 ++ [(kd, (s.drop k).take (q - k), k)]).length by simp)), rfl, rfl, rfl, g5.1, by simpa using Toks.more hO2, by simp; omega, hx0, by rw [← hr, lexS_go readN readN_no hlt (by rw [hN]), hN, ← hq], rfl⟩
  ·refine zX ?_; refine zx (zx (b_here rfl (zk ?_))); refine yA ?_; refine mS e4_1 ?_; refine jb bt27 rfl ?_; refine za (v := .slice _ _ _) rfl ?_; refine ju 0 z27 e3_1 rfl rfl ?_; refine yB ?_; refine ze ?_
   have hrS : readS s = x := by rw [← hr, lexS_stop readN (by omega)]
   refine r_fin (.inl rfl) rfl (.tmp rfl rfl (.agg rfl e3_1 z27 (fun _ h => h.at_ 0 rfl) rfl .nil)) ?_; exact fun w' hw => ⟨W, by rw [readP_fine (by omega) (by rw [hrS, hx0]), hrS]; exact ⟨a0, c0, rfl, hT⟩, St.made (A := []) (by simpa using hw.drop (L' := W ++ []) (List.sublist_cons_self _ _))⟩
end Go.Proofs.YtikdkendinnalaaGreatDoor
end
section
namespace Go.Proofs.YtikdkendinnalaaGreatDoor
open Go.RowKit Go.Sx
open Go.Tok
theorem tks_at : ∀ (l : List Tk) (k : Nat) (t : Tk), l[k]? = some t → ∀ (j : Nat) u, (tkC t)[j]? = some u → (tksC l)[k * 3 + j]? = some u
  | [], _, _, h, _, _, _ => by simp at h
  | x :: l, 0, t, h, j, u, hu => by
    obtain rfl : x = t := by simpa using h
    have hj := (List.getElem?_eq_some_iff.1 hu).1
    show ((tkC x) ++ tksC l)[0 * 3 + j]? = some u
    rw [List.getElem?_append_left (by simpa using hj)]
    simpa using hu
  | x :: l, k + 1, t, h, j, u, hu => by
    have ih := tks_at l k t (by simpa using h) j u hu
    show ((tkC x) ++ tksC l)[(k + 1) * 3 + j]? = some u
    have hl : (tkC x).length = 3 := rfl
    rw [List.getElem?_append_right (by rw [hl]; omega), hl, show (k + 1) * 3 + j - 3 = k * 3 + j by omega]
    exact ih
theorem Toks.cell {l : List Tk} {a : Option Addr} {c k : Nat} {W : Heap} {w : World} (h : Toks (.slice a l.length c) l W) (hm : ∀ p ∈ W, w.heap[p.1]? = some p.2) (hk : k < l.length) : ∃ b, a = some ⟨b, 0, none⟩ ∧ ∀ (j : Nat) u, (tkC l[k])[j]? = some u → w.cell? ⟨b, 0 + k * 3 + j, none⟩ = some u := by
  obtain ⟨b, rfl, hc⟩ := Own.cellw h hk
  exact ⟨b, rfl, fun j u hu => by rw [Nat.zero_add]; exact hc w hm _ u (tks_at l k _ (by simp) j u hu)⟩
end Go.Proofs.YtikdkendinnalaaGreatDoor
end
section
namespace Go.Proofs.YtikdkendinnalaaGreatDoor
open Go.RowKit Go.Sx
open Go.Tok Go.Tree
theorem Toks.cellS {l : List Tk} {a : Option Addr} {c k : Nat} {W : Heap} (h : Toks (.slice a l.length c) l W) (hk : k < l.length) : ∃ b, a = some ⟨b, 0, none⟩ ∧ ∀ (B : Base) (L : Heap) (w : World), (∀ p ∈ W, p ∈ L) → St B L w → ∀ (t : Tk), l[k]? = some t → ∀ (j : Nat) u, (tkC t)[j]? = some u → w.cell? ⟨b, 0 + k * 3 + j, none⟩ = some u := by
  obtain ⟨b, rfl, hc⟩ := Own.cell h hk
  exact ⟨b, rfl, fun B L w hW hw t ht j u hu => by rw [Nat.zero_add]; exact hc B L w hW hw _ u (tks_at l k t ht j u hu)⟩
structure Wd (w : World) : Prop where
  tb : Tb w
  gs : 2 < w.heap.size
  ml : ∃ m, w.cell? ⟨3, 0, none⟩ = some (.int .i64 m)
theorem Wd.ext {w w' : World} (h : Wd w) (k : Ext w w') : Wd w' := ⟨h.tb.fr k (fun x => x), Nat.le_trans h.gs k.size, by obtain ⟨m, hm⟩ := h.ml; exact ⟨m, k.cell hm (fun x => x)⟩⟩
theorem Wd.now {w w' : World} {B : Base} {L : Heap} (h : Wd w) (hx : (w, No) ∈ B) (hw : St B L w') : Wd w' := h.ext (hw.fr _ hx)
theorem Contains_spec (s t : List UInt8) (w : World) (hs : s.length < 4294967281) (hw : Wd w) : Ret Tryz.prog 60 #[str s, str t] w fun v w' => v = .bool (Lib.contains s t) ∧ Ext w w' := by
  obtain ⟨m, hm⟩ := hw.ml
  exact Calls.mono (Tryz.strings_Contains ⟨s.toArray⟩ ⟨t.toArray⟩ m w hs hm) fun e w' ⟨h1, h2⟩ => ⟨_, h1, by simp, by rw [h2]; exact Fr.refl _ _⟩
theorem celEq {B : Base} {b : Nat} {l l' : List Value} {T : TypeId} {L : Heap} {w : World} (h : St B ((b, cel l T) :: L) w) (e : l = l') : St B ((b, cel l' T) :: L) w := e ▸ h
theorem words_next {s x : Str} {k : Nat} (h : ∀ y ∈ wordsL.take k, ¬ y = s) (hx : wordsL[k]? = some x) (hs : ¬ x = s) : ∀ y ∈ wordsL.take (k + 1), ¬ y = s := by
  obtain ⟨hk, rfl⟩ := List.getElem?_eq_some_iff.1 hx
  intro y hy
  rw [List.take_succ_eq_append_getElem hk, List.mem_append] at hy
  rcases hy with hy | hy
  · exact h y hy
  obtain rfl : y = wordsL[k] := by simpa using hy
  exact hs
theorem words_no {s : Str} (h : ∀ y ∈ wordsL.take 17, ¬ y = s) : wordsL.contains s = false := by
  have h17 : wordsL.take 17 = wordsL := rfl
  rw [h17] at h
  cases hc : wordsL.contains s with
  | false => rfl
  | true => exact absurd rfl (h s (List.contains_iff_mem.1 hc))
theorem words_yes {s x : Str} {k : Nat} (hx : wordsL[k]? = some x) (hs : x = s) : wordsL.contains s = true := by
  subst hs
  exact List.contains_iff_mem.2 (List.mem_of_getElem? hx)
theorem one_spec (s : Str) (k : Nat) (hs : s.length ≤ 10000000) (w : World) (hW : Wd w) :
    Ret Tryz.prog 59 #[str s, .int .u8 (k : Nat)] w (fun v w' => v = .bool (oneB k s) ∧ Ext w w') := by
  have ht := hW.tb
  have hgs := hW.gs
  refine enter (S := No) (l := [_, _]) (L := []) 36 Tryz.func59 rfl rfl rfl (St.start w No) ?_; refine yA ?_; refine aB rfl ?_; refine yC ?_; refine zm (v := str _) rfl ?_; refine w_callW (R := RdV (readP s)) (fun w => zR Tryz.func21 rfl rfl rfl) rfl rfl (fun w h => Read_spec s hs w (ht.fr (h.fr _ zm0) (fun x => x)) (Nat.le_trans hgs (h.fr _ zm0).size)) ?_; refine fun u W1 hR1 => w_st (fun w h => h.perm List.perm_append_comm) ?_
  obtain ⟨a1, c1, rfl, hT1⟩ := hR1
  refine zm rfl ?_; refine jx rfl rfl ?_; refine jx rfl rfl ?_; refine zA zr27 (fun t6b gt6b ut6b => ?_)
  refine za (v := .slice _ _ _) rfl ?_; refine jv 0 z27 rfl ?_; refine yC ?_; refine zf fa27_0 rfl ?_; refine jM 0 z25 rfl ?_; refine je rfl rfl ?_; refine mB rfl ?_; refine zd (t := 15) rfl (fun h2 => ?_) (fun h2 => ?_)
  · refine zw rfl rfl (bT h2) ?_; refine mS rfl ?_; refine zw rfl rfl (bT h2) ?_; refine jj sl55 rfl ?_; refine zw rfl rfl (bT h2) ?_; refine je rfl rfl ?_; refine jT (bT h2) rfl ?_; refine mB rfl ?_; refine zd (t := 20) rfl (fun h3 => ?_) (fun h3 => ?_)
    · obtain ⟨b1, rfl, hc1⟩ := hT1.cellS (k := 0) (by omega); obtain ⟨t, q1⟩ : ∃ t, (readP s).1[0]? = some t := ⟨_, List.getElem?_eq_getElem (by omega)⟩; have e1 := oneB_at (k := k) (by omega) q1 (by omega)
      refine zw rfl rfl (bT h3) ?_; refine mS rfl ?_; refine zw rfl rfl (bT h3) ?_; refine zg (fun _ => R_iaN (i := 0) sl55 rfl rfl (by first | omega | decide | exact Nat.succ_pos _ | exact Nat.succ_lt_succ (Nat.succ_pos _))) ?_; refine zw rfl rfl (bT h3) ?_; refine zf fa64_0 rfl ?_; refine zw rfl rfl (bT h3) ?_; refine zl z5 rfl (fun _ h => by first | exact zc 0 rfl rfl h | exact hc1 _ _ _ (fun p hp => by simp [hp]) h _ q1 _ _ rfl) ?_; refine zw rfl rfl (bT h3) ?_; refine mI rfl ?_; refine zw rfl rfl (bT h3) ?_; refine je rfl rfl ?_; refine jT (bT h3) rfl ?_; refine mB rfl ?_; refine zd (t := 28) rfl (fun h4 => ?_) (fun h4 => ?_)
      · refine zw rfl rfl (bT h4) ?_; refine mS rfl ?_; refine zw rfl rfl (bT h4) ?_; refine zg (fun _ => R_iaN (i := 0) sl55 rfl rfl (by first | omega | decide | exact Nat.succ_pos _ | exact Nat.succ_lt_succ (Nat.succ_pos _))) ?_; refine zw rfl rfl (bT h4) ?_; refine zf fa64_1 rfl ?_; refine zw rfl rfl (bT h4) ?_; refine zl z9 rfl (fun _ h => by first | exact zc 0 rfl rfl h | exact hc1 _ _ _ (fun p hp => by simp [hp]) h _ q1 _ _ rfl) ?_; refine zw rfl rfl (bT h4) ?_; refine zm (v := str _) rfl ?_; refine zw rfl rfl (bT h4) ?_; refine js rfl rfl ?_; refine jT (bT h4) rfl ?_; refine aB rfl ?_; refine yB ?_; refine ze ?_; refine zo (v := .bool _) rfl rfl rfl ?_
        exact fun w' hw => ⟨by rw [e1, decide_eq_true h4]; rfl, hw.f0⟩
      refine zs rfl rfl (bF h4) ?_; refine zs rfl rfl (bF h4) ?_; refine zs rfl rfl (bF h4) ?_; refine zs rfl rfl (bF h4) ?_; refine zs rfl rfl (bF h4) ?_; refine zs rfl rfl (bF h4) ?_; refine jF (bF h4) rfl ?_; refine aB rfl ?_; refine yB ?_; refine ze ?_; refine zo (v := .bool _) rfl rfl rfl ?_; exact fun w' hw => ⟨by rw [e1, decide_eq_false h4]; rfl, hw.f0⟩
    refine zs rfl rfl (bF h3) ?_; refine zs rfl rfl (bF h3) ?_; refine zs rfl rfl (bF h3) ?_; refine zs rfl rfl (bF h3) ?_; refine zs rfl rfl (bF h3) ?_; refine zs rfl rfl (bF h3) ?_; refine jF (bF h3) rfl ?_; refine mB rfl ?_; (iterate 6 refine zs rfl rfl rfl ?_); refine jF rfl rfl ?_; refine aB rfl ?_; refine yB ?_; refine ze ?_; refine zo (v := .bool _) rfl rfl rfl ?_; exact fun w' hw => ⟨by rw [oneB_len (by omega)], hw.f0⟩
  refine zs rfl rfl (bF h2) ?_; refine zs rfl rfl (bF h2) ?_; refine zs rfl rfl (bF h2) ?_; refine jF (bF h2) rfl ?_; refine mB rfl ?_; (iterate 6 refine zs rfl rfl rfl ?_); refine jF rfl rfl ?_; refine mB rfl ?_; (iterate 6 refine zs rfl rfl rfl ?_); refine jF rfl rfl ?_; refine aB rfl ?_; refine yB ?_; refine ze ?_; refine zo (v := .bool _) rfl rfl rfl ?_
  exact fun w' hw => ⟨by rw [oneB_E (by omega)], hw.f0⟩
theorem Name_spec (s : Str) (hs : s.length ≤ 10000000) (w : World) (hW : Wd w) :
    Ret Tryz.prog 23 #[str s] w (fun v w' => v = .bool (nameOk s) ∧ Ext w w') := by
  refine enter (S := No) (l := [_]) (L := []) 12 Tryz.func23 rfl rfl rfl (St.start w No) ?_; refine yA ?_; refine aB rfl ?_; refine yC ?_; refine zm (v := str _) rfl ?_; refine jD Tryz.func59 (fun w h => one_spec _ 1 (by omega) w (hW.now zm0 h)) ?_; refine mB rfl ?_; refine zp (t := 5) rfl (fun h1 => ?_) (fun h1 => ?_)
  · refine zw rfl rfl (bV h1) ?_; refine zm (v := str _) rfl ?_; refine zw rfl rfl (bV h1) ?_; refine zg (fun _ => R_cat rfl rfl (by simp only [List.length_append, List.length_cons, List.length_nil]; omega)) ?_; refine zw rfl rfl (bV h1) ?_; refine zg (fun _ => R_cat rfl rfl (by simp only [List.length_append, List.length_cons, List.length_nil]; omega)) ?_; refine zw rfl rfl (bV h1) ?_; refine jD Tryz.func60 (fun w h => Contains_spec wordsT ([32] ++ s ++ [32]) w (by decide) (hW.now zm0 h)) ?_; refine zw rfl rfl (bV h1) ?_; refine jk rfl ?_; refine jT (bV h1) rfl ?_; refine aB rfl ?_; refine yB ?_; refine ze ?_; refine zo (v := .bool _) rfl rfl rfl ?_
    exact fun w' hw => ⟨by rw [nameOk_one h1], hw.f0⟩
  refine zs rfl rfl (bV h1) ?_; refine zs rfl rfl (bV h1) ?_; refine zs rfl rfl (bV h1) ?_; refine zs rfl rfl (bV h1) ?_; refine zs rfl rfl (bV h1) ?_; refine jF (bV h1) rfl ?_; refine aB rfl ?_; refine yB ?_; refine ze ?_; refine zo (v := .bool _) rfl rfl rfl ?_; exact fun w' hw => ⟨by rw [nameOk_no h1], hw.f0⟩
theorem rone_spec (s : Str) (k : Nat) (hs : s.length ≤ 10000000) (w : World) :
    Ret Tryz.prog 68 #[str s, .int .u8 (k : Nat)] w (fun v w' => v = .bool (oneB k s) ∧ Ext w w') := by
  refine enter (S := No) (l := [_, _]) (L := []) 36 Tryz.func68 rfl rfl rfl (St.start w No) ?_; refine yA ?_; refine aB rfl ?_; refine yC ?_; refine zm (v := str _) rfl ?_; refine w_callW (R := RdV (readP s)) (fun w => zR Tryz.func27 rfl rfl rfl) rfl rfl (fun w h => rRead_spec s (by omega) w) ?_; refine fun u W1 hR1 => w_st (fun w h => h.perm List.perm_append_comm) ?_
  obtain ⟨a1, c1, rfl, hT1⟩ := hR1
  refine zm rfl ?_; refine jx rfl rfl ?_; refine jx rfl rfl ?_; refine zA zr27 (fun t6b gt6b ut6b => ?_)
  refine za (v := .slice _ _ _) rfl ?_; refine jv 0 z27 rfl ?_; refine yC ?_; refine zf fa27_0 rfl ?_; refine jM 0 z25 rfl ?_; refine je rfl rfl ?_; refine mB rfl ?_; refine zd (t := 15) rfl (fun h2 => ?_) (fun h2 => ?_)
  · refine zw rfl rfl (bT h2) ?_; refine mS rfl ?_; refine zw rfl rfl (bT h2) ?_; refine jj sl55 rfl ?_; refine zw rfl rfl (bT h2) ?_; refine je rfl rfl ?_; refine jT (bT h2) rfl ?_; refine mB rfl ?_; refine zd (t := 20) rfl (fun h3 => ?_) (fun h3 => ?_)
    · obtain ⟨b1, rfl, hc1⟩ := hT1.cellS (k := 0) (by omega); obtain ⟨t, q1⟩ : ∃ t, (readP s).1[0]? = some t := ⟨_, List.getElem?_eq_getElem (by omega)⟩; have e1 := oneB_at (k := k) (by omega) q1 (by omega)
      refine zw rfl rfl (bT h3) ?_; refine mS rfl ?_; refine zw rfl rfl (bT h3) ?_; refine zg (fun _ => R_iaN (i := 0) sl55 rfl rfl (by first | omega | decide | exact Nat.succ_pos _ | exact Nat.succ_lt_succ (Nat.succ_pos _))) ?_; refine zw rfl rfl (bT h3) ?_; refine zf fa64_0 rfl ?_; refine zw rfl rfl (bT h3) ?_; refine zl z5 rfl (fun _ h => by first | exact zc 0 rfl rfl h | exact hc1 _ _ _ (fun p hp => by simp [hp]) h _ q1 _ _ rfl) ?_; refine zw rfl rfl (bT h3) ?_; refine mI rfl ?_; refine zw rfl rfl (bT h3) ?_; refine je rfl rfl ?_; refine jT (bT h3) rfl ?_; refine mB rfl ?_; refine zd (t := 28) rfl (fun h4 => ?_) (fun h4 => ?_)
      · refine zw rfl rfl (bT h4) ?_; refine mS rfl ?_; refine zw rfl rfl (bT h4) ?_; refine zg (fun _ => R_iaN (i := 0) sl55 rfl rfl (by first | omega | decide | exact Nat.succ_pos _ | exact Nat.succ_lt_succ (Nat.succ_pos _))) ?_; refine zw rfl rfl (bT h4) ?_; refine zf fa64_1 rfl ?_; refine zw rfl rfl (bT h4) ?_; refine zl z9 rfl (fun _ h => by first | exact zc 0 rfl rfl h | exact hc1 _ _ _ (fun p hp => by simp [hp]) h _ q1 _ _ rfl) ?_; refine zw rfl rfl (bT h4) ?_; refine zm (v := str _) rfl ?_; refine zw rfl rfl (bT h4) ?_; refine js rfl rfl ?_; refine jT (bT h4) rfl ?_; refine aB rfl ?_; refine yB ?_; refine ze ?_; refine zo (v := .bool _) rfl rfl rfl ?_
        exact fun w' hw => ⟨by rw [e1, decide_eq_true h4]; rfl, hw.f0⟩
      refine zs rfl rfl (bF h4) ?_; refine zs rfl rfl (bF h4) ?_; refine zs rfl rfl (bF h4) ?_; refine zs rfl rfl (bF h4) ?_; refine zs rfl rfl (bF h4) ?_; refine zs rfl rfl (bF h4) ?_; refine jF (bF h4) rfl ?_; refine aB rfl ?_; refine yB ?_; refine ze ?_; refine zo (v := .bool _) rfl rfl rfl ?_; exact fun w' hw => ⟨by rw [e1, decide_eq_false h4]; rfl, hw.f0⟩
    refine zs rfl rfl (bF h3) ?_; refine zs rfl rfl (bF h3) ?_; refine zs rfl rfl (bF h3) ?_; refine zs rfl rfl (bF h3) ?_; refine zs rfl rfl (bF h3) ?_; refine zs rfl rfl (bF h3) ?_; refine jF (bF h3) rfl ?_; refine mB rfl ?_; (iterate 6 refine zs rfl rfl rfl ?_); refine jF rfl rfl ?_; refine aB rfl ?_; refine yB ?_; refine ze ?_; refine zo (v := .bool _) rfl rfl rfl ?_; exact fun w' hw => ⟨by rw [oneB_len (by omega)], hw.f0⟩
  refine zs rfl rfl (bF h2) ?_; refine zs rfl rfl (bF h2) ?_; refine zs rfl rfl (bF h2) ?_; refine jF (bF h2) rfl ?_; refine mB rfl ?_; (iterate 6 refine zs rfl rfl rfl ?_); refine jF rfl rfl ?_; refine mB rfl ?_; (iterate 6 refine zs rfl rfl rfl ?_); refine jF rfl rfl ?_; refine aB rfl ?_; refine yB ?_; refine ze ?_; refine zo (v := .bool _) rfl rfl rfl ?_
  exact fun w' hw => ⟨by rw [oneB_E (by omega)], hw.f0⟩
theorem rWord_spec (s : Str) (w : World) :
    Ret Tryz.prog 69 #[str s] w (fun v w' => v = .bool (wordsL.contains s) ∧ Ext w w') := by
  refine enter (S := No) (l := [_]) (L := []) 18 Tryz.func69 rfl rfl rfl (St.start w No) ?_; refine yA ?_; refine aB rfl ?_; refine yC ?_; refine zS slt81 (by decide) rfl rfl (fun bw gbw ubw => ?_)
  refine za (v := .slice _ _ _) rfl ?_; refine yB ?_; refine zq ?_; refine yA ?_; refine aI rfl ?_; refine yB ?_; refine zB ?_; refine c_st (B' := _) (L' := [(bw, cel (wordsL.map str) 9)]) (fun w h => celEq h (by kernel_rfl)) ?_; refine c_loop (fun m e B L => ∃ (k : Nat), e 0 = str s ∧ e 3 = .slice (some ⟨bw, 0, none⟩) 17 17 ∧ e 4 = .int .i64 (k : Nat) ∧ B = [(w, No)] ∧ L = [(bw, cel (wordsL.map str) 9)] ∧ k ≤ 17 ∧ (∀ x ∈ wordsL.take k, ¬ x = s) ∧ m = 17 - k) _ ⟨0, rfl, rfl, rfl, rfl, rfl, Nat.zero_le _, (by simp), rfl⟩ ?_
  rintro m e B L ⟨k, e0_1, e3_1, e4_1, rfl, rfl, hk, hn, rfl⟩
  refine zq ?_; refine yA ?_; refine mI e4_1 ?_; refine mS e3_1 ?_; refine jj sl81 rfl ?_; refine jl rfl rfl ?_; refine yB ?_; refine zD rfl (fun h1 => ?_) (fun h1 => ?_)
  · have hlt : k < 17 := (by omega); obtain ⟨x, hx⟩ : ∃ x, wordsL[k]? = some x := ⟨_, List.getElem?_eq_getElem hlt⟩
    refine zi ?_; refine zk ?_; refine zq ?_; refine zB ?_; refine yA ?_; refine mS e3_1 ?_; refine mI e4_1 ?_; refine zg (fun _ => R_iaN (i := k) sl81 rfl rfl (by first | omega | decide | exact Nat.succ_pos _ | exact Nat.succ_lt_succ (Nat.succ_pos _))) ?_; refine zl (v := str x) z9 rfl (fun w h => zc 0 (cs := wordsL.map str) rfl (by rw [Nat.zero_add, Nat.mul_one, List.getElem?_map, hx]; rfl) h) ?_; refine zm (v := str _) e0_1 ?_; refine js rfl rfl ?_; refine yB ?_; refine zD rfl (fun h2 => ?_) (fun h2 => ?_)
    · refine yA ?_; refine aB rfl ?_; refine yB ?_; refine ze ?_; refine zb (zt (zt (zb (zt (?_)))))
      refine zo (v := .bool _) rfl rfl rfl ?_; exact fun w' hw => ⟨by rw [words_yes hx h2], hw.f0⟩
    refine zi ?_; refine zO (zk ?_); refine zr ?_; refine mI e4_1 ?_; refine ji rfl rfl (by omega) ?_; refine aI rfl ?_; refine zn ?_; exact k_again _ (by omega) ⟨k + 1, e0_1, e3_1, rfl, rfl, rfl, by omega, words_next hn hx h2, rfl⟩
  refine zX ?_; refine zx (zx (b_here rfl (zk ?_))); refine yA ?_; refine aB rfl ?_; refine yB ?_; refine ze ?_; refine zo (v := .bool _) rfl rfl rfl ?_; exact fun w' hw => ⟨by rw [words_no (by rw [show 17 = k by omega]; exact hn)], hw.f0⟩
theorem rName_spec (s : Str) (hs : s.length ≤ 10000000) (w : World) :
    Ret Tryz.prog 28 #[str s] w (fun v w' => v = .bool (nameOk s) ∧ Ext w w') := by
  refine enter (S := No) (l := [_]) (L := []) 10 Tryz.func28 rfl rfl rfl (St.start w No) ?_; refine yA ?_; refine aB rfl ?_; refine yC ?_; refine zm (v := str _) rfl ?_; refine jD Tryz.func68 (fun w h => rone_spec _ 1 (by omega) w) ?_; refine mB rfl ?_; refine zp (t := 5) rfl (fun h1 => ?_) (fun h1 => ?_)
  · refine zw rfl rfl (bV h1) ?_; refine zm (v := str _) rfl ?_; refine zw rfl rfl (bV h1) ?_; refine jD Tryz.func69 (fun w h => rWord_spec s w) ?_; refine zw rfl rfl (bV h1) ?_; refine jk rfl ?_; refine jT (bV h1) rfl ?_; refine aB rfl ?_; refine yB ?_; refine ze ?_; refine zo (v := .bool _) rfl rfl rfl ?_; exact fun w' hw => ⟨by unfold nameOk; simp_all, hw.f0⟩
  refine zs rfl rfl (bV h1) ?_; refine zs rfl rfl (bV h1) ?_; refine zs rfl rfl (bV h1) ?_; refine jF (bV h1) rfl ?_; refine aB rfl ?_; refine yB ?_; refine ze ?_; refine zo (v := .bool _) rfl rfl rfl ?_; exact fun w' hw => ⟨by unfold nameOk; simp_all, hw.f0⟩
end Go.Proofs.YtikdkendinnalaaGreatDoor
end
section
namespace Go.Feed
open Go.Tok Go.Tree Go.Prs Go.Num Go.Lib
structure Rw where
  s : Bool
  n : Nat
  d : Nat
  p : Nat
  q : Nat
def Rw.r (x : Rw) : Rt := mkR x.s x.n x.d
def Rw.ok (x : Rw) : Bool := decide (x.d ≠ 0) && decide (x.r.2 = 1)
structure Di where
  nm : Str
  at_ : Int
  list : Bool
  whole : Bool
  nums : List Rw
def rwR (x : Rt) : Rw := ⟨ng x.1, x.1.natAbs, x.2, sz x.1.natAbs, sz x.2⟩
def diD (d : Dt) : Di := ⟨d.nm, d.at_, d.list, d.whole, d.nums.map rwR⟩
def okD (d : Di) : Bool := nameOk d.nm && (d.list || decide (d.nums.length = 1))
def okN (d : Di) : Bool := d.nums.all Rw.ok
def okW (seen : List Str) : List Di → Bool
  | [] => true
  | d :: l => okD d && !seen.contains d.nm && okN d && okW (seen ++ [d.nm]) l
def longW (l : List Di) : Bool := decide (1000 < l.length) || l.any (fun d => decide (1000 < d.nums.length))
def joinC : List Str → Str
  | [] => []
  | [x] => x
  | x :: y :: l => x ++ 44 :: joinC (y :: l)
def valT (d : Di) : Str := if d.list = true then 91 :: (joinC (d.nums.map fun x => itoa x.r.1) ++ [93]) else joinC (d.nums.map fun x => itoa x.r.1)
def datT (d : Di) : Str := d.nm ++ 61 :: (valT d ++ [59, 10])
def dataT (l : List Di) : Str := l.flatMap datT
def writeP (l : List Di) : Str × Nat := if okW [] l = true then (if longW l = true then ([], 6) else (dataT l, 0)) else ([], 2)
theorem okW_snoc : ∀ (l : List Di) (seen : List Str) (d : Di), okW seen (l ++ [d]) = (okW seen l && (okD d && !(seen ++ l.map Di.nm).contains d.nm && okN d))
  | [], seen, d => by simp [okW]
  | x :: l, seen, d => by
    rw [List.cons_append, okW, okW, okW_snoc l (seen ++ [x.nm]) d]
    simp only [List.map_cons, List.append_assoc, List.singleton_append, Bool.and_assoc]
theorem okW_take {l : List Di} {i : Nat} {d : Di} (hd : l[i]? = some d) : okW [] (l.take (i + 1)) = (okW [] (l.take i) && (okD d && !((l.take i).map Di.nm).contains d.nm && okN d)) := by
  obtain ⟨h, rfl⟩ := List.getElem?_eq_some_iff.1 hd
  rw [List.take_succ_eq_append_getElem h, okW_snoc, List.nil_append]
theorem okW_pre {l : List Di} {i : Nat} (h : okW [] (l.take i) = false) : okW [] l = false := by
  have key : ∀ (m l' : List Di) (seen : List Str), okW seen m = false → okW seen (m ++ l') = false := by
    intro m
    induction m with
    | nil => intro l' seen h; cases h
    | cons x m ih =>
      intro l' seen h
      rw [List.cons_append, okW] at *
      cases hq : (okD x && !seen.contains x.nm && okN x) with
      | false => rfl
      | true => rw [hq, Bool.true_and] at h; rw [Bool.true_and]; exact ih l' _ h
  have := key (l.take i) (l.drop i) [] h
  rwa [List.take_append_drop] at this
theorem okW_bad {l : List Di} {i : Nat} {d : Di} (hd : l[i]? = some d) (h : (okD d && !((l.take i).map Di.nm).contains d.nm && okN d) = false) : writeP l = ([], 2) := by
  have h1 := okW_take hd
  rw [h, Bool.and_false] at h1
  unfold writeP
  rw [if_neg (by rw [okW_pre h1]; decide)]
theorem okW_mem : ∀ (l : List Di) (seen : List Str), okW seen l = true → (∀ d ∈ l, okD d = true ∧ okN d = true ∧ d.nm ∉ seen) ∧ (l.map Di.nm).Nodup
  | [], _, _ => ⟨fun d hd => by (cases hd), List.nodup_nil⟩
  | x :: l, seen, h => by
    rw [okW] at h
    simp only [Bool.and_eq_true, Bool.not_eq_true', List.contains_eq_mem, decide_eq_false_iff_not] at h
    obtain ⟨⟨⟨h1, h2⟩, h3⟩, h4⟩ := h
    obtain ⟨h5, h6⟩ := okW_mem l _ h4
    refine ⟨?_, ?_⟩
    · intro d hd
      rcases List.mem_cons.1 hd with rfl | hd
      · exact ⟨h1, h3, h2⟩
      · have := h5 d hd
        refine ⟨this.1, this.2.1, fun hm => this.2.2 (List.mem_append_left _ hm)⟩
    · rw [List.map_cons, List.nodup_cons]
      refine ⟨fun hm => ?_, h6⟩
      obtain ⟨d, hd, he⟩ := List.mem_map.1 hm
      have := (h5 d hd).2.2
      exact this (List.mem_append_right _ (by rw [he]; exact List.mem_singleton.2 rfl))
def findD (l : List Di) (nm : Str) : Option Di := l.find? (fun d => decide (d.nm = nm))
theorem itoa_head {x : Int} : (x < 0 → ∃ r, itoa x = 45 :: r) ∧ (0 ≤ x → ∃ c r, itoa x = c :: r ∧ isD c = true) := by
  refine ⟨fun h => ?_, fun h => ?_⟩
  · unfold itoa; rw [if_pos h]; exact ⟨_, rfl⟩
  · unfold itoa; rw [if_neg (by omega)]
    have h1 := dec_all x.toNat
    have h2 := dec_ne x.toNat
    cases hd : decDigits x.toNat with
    | nil => exact absurd hd h2
    | cons c r =>
      rw [hd, List.all_cons, Bool.and_eq_true] at h1
      exact ⟨c, r, rfl, h1.1⟩
theorem mkR_one (s : Bool) (n : Nat) : mkR s n 1 = (iv s n, 1) := by unfold mkR; rw [Nat.gcd_one_right, Nat.div_one, Nat.div_one]
end Go.Feed
end
section
namespace Go.Sx
open Go.RowKit Go.Num Go.Feed
structure NmN (w : World) (N : Nat → Prop) (a : Option Addr) (k c n : Nat) : Prop where
  nm : Nm w a k c n
  ok : ∀ b o q, a = some ⟨b, o, q⟩ → 0 < k → N b
theorem NmN.fr {w w' : World} {S N : Nat → Prop} {a : Option Addr} {k c n : Nat} (h : NmN w N a k c n) (hf : Fr S w w') (hn : ∀ j, N j → ¬ S j) : NmN w' N a k c n := ⟨h.nm.frS hf (fun b o q ha hk => hn b (h.ok b o q ha hk)), h.ok⟩
theorem NmN.mono {w : World} {N N' : Nat → Prop} {a : Option Addr} {k c n : Nat} (h : NmN w N a k c n) (hn : ∀ j, N j → N' j) : NmN w N' a k c n := ⟨h.nm, fun b o q ha hk => hn b (h.ok b o q ha hk)⟩
theorem NmN.nil {w : World} {N : Nat → Prop} : NmN w N none 0 0 0 := ⟨Nm.nil w, fun _ _ _ h => by cases h⟩
theorem cell_lt {w : World} {b o : Nat} {v : Value} (h : w.cell? ⟨b, o, none⟩ = some v) : b < w.heap.size := by
  unfold World.cell? at h
  cases hb : w.heap[b]? with
  | none => simp [hb] at h
  | some x => exact lt_of_blk hb
theorem Nm.lt_ {w : World} {a : Option Addr} {k c n : Nat} (h : Nm w a k c n) (hk : 0 < k) : ∀ b o q, a = some ⟨b, o, q⟩ → b < w.heap.size := by
  obtain ⟨b', o', rfl, hc⟩ := h.cell 0 hk
  intro b o q he
  cases he
  exact cell_lt hc
theorem Nm.toN {w0 w : World} {a : Option Addr} {k c n : Nat} (h : Nm w a k c n) (hf : Fsh w0.heap.size a k) : NmN w (Nn w0 w) a k c n := ⟨h, fun b o q ha hk => ⟨hf b o q ha hk, h.lt_ hk b o q ha⟩⟩
theorem Kn.toN {x : Bw} {s0 : Nat} {a : Option Addr} {k c n : Nat} (h : Kn x a k c n) (hf : Fsh s0 a k) : NmN x.1 (Nb s0 x) a k c n := ⟨h.1, fun b o q ha hk => ⟨hf b o q ha hk, h.1.lt_ hk b o q ha, h.2 b o q ha hk⟩⟩
abbrev A2 := (Option Addr × Nat) × (Option Addr × Nat)
abbrev rwE (x : Rw) (b : A2) : List Value := [.bool x.s, .slice b.1.1 x.p b.1.2, .slice b.2.1 x.q b.2.2]
structure rwT (w : World) (N : Nat → Prop) (x : Rw) (b : A2) : Prop where
  n : NmN w N b.1.1 x.p b.1.2 x.n
  d : NmN w N b.2.1 x.q b.2.2 x.d
theorem TL.rwt : TL rwT := ⟨fun h hf hn => ⟨h.n.fr hf hn, h.d.fr hf hn⟩, fun h hn => ⟨h.n.mono hn, h.d.mono hn⟩⟩
def rwC (w : World) (N : Nat → Prop) (x : Rw) (cs : List Value) : Prop := ∃ b, cs = rwE x b ∧ rwT w N x b
theorem TL.rwc : TL rwC := ⟨fun ⟨b, h, k⟩ hf hn => ⟨b, h, TL.rwt.fr k hf hn⟩, fun ⟨b, h, k⟩ hn => ⟨b, h, TL.rwt.mono k hn⟩⟩
def rowM {α : Type} (k : Nat) (M : World → (Nat → Prop) → α → List Value → Prop) (w : World) (N : Nat → Prop) (l : List α) (b : Option Addr × Nat) : Prop :=
  l.length ≤ b.2 ∧ ∀ (j : Nat) e, l[j]? = some e → ∃ cs, At w N b.1 (j * k) cs ∧ M w N e cs
theorem TL.row {α : Type} {k : Nat} {M : World → (Nat → Prop) → α → List Value → Prop} (hM : TL M) : TL (rowM k M) :=
  ⟨fun h hf hn => ⟨h.1, fun j e he => by obtain ⟨cs, h1, h2⟩ := h.2 j e he; exact ⟨cs, h1.fr hf hn, hM.fr h2 hf hn⟩⟩, fun h hn => ⟨h.1, fun j e he => by obtain ⟨cs, h1, h2⟩ := h.2 j e he; exact ⟨cs, h1.mono hn, hM.mono h2 hn⟩⟩⟩
theorem rowM.nil {α : Type} {k : Nat} {M : World → (Nat → Prop) → α → List Value → Prop} {w : World} {N : Nat → Prop} : rowM k M w N [] (none, 0) := ⟨Nat.le_refl _, fun j e h => by simp at h⟩
theorem rowM.take {α : Type} {k : Nat} {M : World → (Nat → Prop) → α → List Value → Prop} {w : World} {N : Nat → Prop} {l : List α} {b : Option Addr × Nat} (h : rowM k M w N l b) (i : Nat) : rowM k M w N (l.take i) b :=
  ⟨Nat.le_trans (by rw [List.length_take]; exact Nat.min_le_right _ _) h.1, fun j e he => h.2 j e (by
    rw [List.getElem?_take] at he
    split at he
    · exact he
    cases he)⟩
abbrev rwsV := rowM 3 rwC
abbrev diE (d : Di) (b : Option Addr × Nat) : List Value := [str d.nm, .int .i64 d.at_, .bool d.list, .bool d.whole, .slice b.1 d.nums.length b.2]
def diT (w : World) (N : Nat → Prop) (d : Di) (b : Option Addr × Nat) : Prop := rwsV w N d.nums b
theorem TL.dit : TL diT := ⟨fun h hf hn => (TL.row TL.rwc).fr h hf hn, fun h hn => (TL.row TL.rwc).mono h hn⟩
def diC (w : World) (N : Nat → Prop) (d : Di) (cs : List Value) : Prop := ∃ b, cs = diE d b ∧ diT w N d b
theorem TL.dic : TL diC := ⟨fun ⟨b, h, k⟩ hf hn => ⟨b, h, TL.dit.fr k hf hn⟩, fun ⟨b, h, k⟩ hn => ⟨b, h, TL.dit.mono k hn⟩⟩
abbrev disV := rowM 5 diC
theorem own_row {α : Type} {k : Nat} {M : World → (Nat → Prop) → α → List Value → Prop} {w : World} {N : Nat → Prop} {T : TypeId} {l : List α} {v : Value} {xs : List Value} {W : Heap} (h : Own T k v xs l.length W) (hW : ∀ p ∈ W, w.heap[p.1]? = some p.2) (hN : ∀ p ∈ W, N p.1) (hm : Mc k M w N l xs) :
    ∃ b : Option Addr × Nat, v = .slice b.1 l.length b.2 ∧ rowM k M w N l b := by
  obtain ⟨hl, h⟩ := h
  rcases h with ⟨rfl, h0, rfl⟩ | ⟨q, c, sp, rfl, hc, hsp, rfl⟩
  · have : l = [] := List.length_eq_zero_iff.1 h0
    subst this
    exact ⟨(none, 0), rfl, rowM.nil⟩
  refine ⟨(some ⟨q, 0, none⟩, c), rfl, hc, fun j e he => ⟨(xs.drop (j * k)).take k, ?_, hm j e he⟩⟩
  have hb := hW _ (List.mem_singleton.2 rfl)
  have hq := hN _ (List.mem_singleton.2 rfl)
  refine at_blk hb hq (fun i v hi => ?_)
  have hik : i < k := by have := (List.getElem?_eq_some_iff.1 hi).1; rw [List.length_take] at this; omega
  rw [List.getElem?_take, if_pos hik, List.getElem?_drop] at hi
  rw [List.getElem?_append_left (List.getElem?_eq_some_iff.1 hi).1]; exact hi
theorem Kt.snocW {x : Bw} {s0 : Nat} {e : Rw} {b : A2} {l : List Rw} {xs : List Value} (hl : Kt x s0 (Mc 3 rwC) l xs) (h : Kt x s0 rwT e b) (hx : xs.length = l.length * 3) : Kt x s0 (Mc 3 rwC) (l ++ [e]) (xs ++ rwE e b) := Mc.snoc hl hx rfl ⟨b, rfl, h⟩
theorem Kt.snocI {x : Bw} {s0 : Nat} {e : Di} {b : Option Addr × Nat} {l : List Di} {xs : List Value} (hl : Kt x s0 (Mc 5 diC) l xs) (h : Kt x s0 diT e b) (hx : xs.length = l.length * 5) : Kt x s0 (Mc 5 diC) (l ++ [e]) (xs ++ diE e b) := Mc.snoc hl hx rfl ⟨b, rfl, h⟩
end Go.Sx
end
