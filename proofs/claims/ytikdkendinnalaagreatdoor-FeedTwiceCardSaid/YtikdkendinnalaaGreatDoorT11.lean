/- Layer 14, FeedTwice: that Find tells the datum of its name, that Write tells the same twice, and another text where one sign is turned. Part 11 of 12. -/
import Derived.Test.YtikdkendinnalaaGreatDoorT10
section
namespace Go.Proofs.YtikdkendinnalaaGreatDoor
open Go.RowKit Go.Sx
open Go.Num
set_option maxRecDepth 100000 in
set_option maxHeartbeats 400000 in
theorem rNorm_ok {a : Option Addr} {k c n : Nat} (w : World) (hA : Nm w a k c n) (hk : k ≤ 4000000) :
  Ret Tryz.prog 80 #[.slice a k c] w (Tel (fun a c => .slice a (sz n) c) (sz n) n w) := by
 refine enter (S := No) (l := [_]) (L := []) 24 Tryz.func80 rfl rfl rfl (St.start w No) ?_; refine yA ?_; refine za (v := .slice _ _ _) rfl ?_; refine yC ?_; refine mS rfl ?_; refine w_r (fun _ => R_len sl42 rfl) rfl rfl ?_; refine aI rfl ?_; refine yB ?_; refine zq ?_; refine zB ?_; refine c_loop (fun m9 e B L => ∃ (j : Nat), e 0 = .slice a k c ∧ e 3 = .int .i64 (j : Nat) ∧ B = [(w, No)] ∧ L = [] ∧ j ≤ k ∧ n < Go.Num.B ^ j ∧ m9 = j + 1) _ ⟨k, rfl, rfl, rfl, rfl, Nat.le_refl _, hA.lt, rfl⟩ ?_
 rintro m9 e B L ⟨j, e0_1, e3_1, rfl, rfl, hj, hlt, rfl⟩
 refine zq ?_; refine yA ?_; refine mI e3_1 ?_; refine w_r (fun _ => R_gtN (a := j) (b := 0) rfl rfl) rfl rfl ?_; refine mB rfl ?_; refine zd (t := 9) rfl (fun h1 => ?_) (fun h1 => ?_)
 ·obtain ⟨i, rfl⟩ : ∃ i, j = i + 1 := ⟨j - 1, by omega⟩
  refine zw rfl rfl (bT h1) ?_; refine mS e0_1 ?_; refine zw rfl rfl (bT h1) ?_; refine mI e3_1 ?_; refine zw rfl rfl (bT h1) ?_; refine w_r (fun _ => R_subN (n := (i + 1)) (b := 1) rfl rfl (by omega) (by omega)) rfl rfl ?_; refine zw rfl rfl (bT h1) ?_; refine w_r (fun _ => R_iaK (i := ((i + 1) - 1)) sl42 rfl ((Kn.old hA).ptr (by omega)) rfl (by omega)) rfl rfl ?_; refine zw rfl rfl (bT h1) ?_; refine zl (v := .int .u64 ((dg Go.Num.B n ((i + 1) - 1)) : Nat)) z75 rfl (fun w h => (Kn.old hA).ca 0 rfl (by omega) h) ?_; refine zw rfl rfl (bT h1) ?_; refine w_r (fun _ => R_eqN (a := (dg Go.Num.B n ((i + 1) - 1))) (b := 0) rfl rfl) rfl rfl ?_; refine w_r (v := .bool _) (fun _ => zT (bT h1) rfl) rfl rfl ?_; refine yB ?_; refine zD rfl (fun h2 => ?_) (fun h2 => ?_)
  ·refine zi ?_; refine zk ?_; refine zB ?_; refine zr ?_; refine mI e3_1 ?_; refine w_r (fun _ => R_subN (n := (i + 1)) (b := 1) rfl rfl (by omega) (by omega)) rfl rfl ?_; refine aI rfl ?_; refine zn ?_; refine b_on (?_)
   exact k_again _ (by omega) ⟨i, e0_1, rfl, rfl, rfl, by omega, lt_of_dg hlt h2, rfl⟩
  ·have hz : i + 1 = sz n := (sz_of_top hlt h2).symm
   refine c_exit ?_; refine zx (zx (b_here rfl (zk ?_))); refine yA ?_; refine za (v := .slice _ _ _) rfl ?_; refine yC ?_; refine mS rfl ?_; refine mS e0_1 ?_; refine mI e3_1 ?_; refine w_r (fun _ => R_hiN (q := (i + 1)) sl42 rfl rfl (Nat.le_trans (by omega) (Kn.old hA).kc)) rfl rfl ?_; refine w_st (B' := _) (L' := [] ++ ([] ++ [])) (fun w h => h) ?_; refine w_appN (z := 0) (k := 0) [] slt42 rfl (Own.nil _ _) (by decide) rfl (fun w h => (((Kn.old hA).cut (q := (i + 1)) (by omega) hlt _ (Nat.le_trans (by omega) (Kn.old hA).kc)).at_ 0 rfl h)) (by omega) (fun v1 W1 hO1 => ?_)
   refine za (v := v1) rfl ?_; refine yB ?_; refine ze ?_
   rw [← hz]
   refine zo (v := v1) rfl rfl rfl ?_; exact fun w' hw => Own.tel (k := i + 1) (n := n) (by simpa using hO1) hlt [] [] (.head _) hw (fun a c h => h)
 ·have hz : j = sz n := (by have hj0 : j = 0 := (by omega); subst hj0; exact (sz_eq_zero.2 (by simpa using hlt)).symm)
  refine zs rfl rfl (bF h1) ?_; refine zs rfl rfl (bF h1) ?_; refine zs rfl rfl (bF h1) ?_; refine zs rfl rfl (bF h1) ?_; refine zs rfl rfl (bF h1) ?_; refine zs rfl rfl (bF h1) ?_; refine w_r (v := .bool _) (fun _ => zF (bF h1) rfl) rfl rfl ?_; refine yB ?_; refine c_condF rfl ?_; refine c_exit ?_; refine zx (zx (b_here rfl (zk ?_))); refine yA ?_; refine za (v := .slice _ _ _) rfl ?_; refine yC ?_; refine mS rfl ?_; refine mS e0_1 ?_; refine mI e3_1 ?_; refine w_r (fun _ => R_hiN (q := j) sl42 rfl rfl (Nat.le_trans (by omega) (Kn.old hA).kc)) rfl rfl ?_; refine w_st (B' := _) (L' := [] ++ ([] ++ [])) (fun w h => h) ?_
  refine w_appN (z := 0) (k := 0) [] slt42 rfl (Own.nil _ _) (by decide) rfl (fun w h => (((Kn.old hA).cut (q := j) (by omega) hlt _ (Nat.le_trans (by omega) (Kn.old hA).kc)).at_ 0 rfl h)) (by omega) (fun v1 W1 hO1 => ?_)
  refine za (v := v1) rfl ?_; refine yB ?_; refine ze ?_
  rw [← hz]
  refine zo (v := v1) rfl rfl rfl ?_; exact fun w' hw => Own.tel (k := j) (n := n) (by simpa using hO1) hlt [] [] (.head _) hw (fun a c h => h)
theorem bit_out {n k i : Nat} (hn : n < Go.Num.B ^ k) (h : k ≤ i / 64) : n / 2 ^ i % 2 = 0 := by
 rw [Nat.div_eq_of_lt, Nat.zero_mod]
 refine Nat.lt_of_lt_of_le hn ?_
 rw [B_pow]
 exact Nat.pow_le_pow_right (by decide) (by omega)
set_option maxRecDepth 100000 in
set_option maxHeartbeats 400000 in
theorem rbit_ok {a : Option Addr} {k c n : Nat} (w : World) (hA : Nm w a k c n) (i : Nat) (hs : k ≤ 4000000 ∧ i ≤ 1000000000) :
  Ret Tryz.prog 120 #[.slice a k c, .int .i64 (i : Nat)] w (fun v w' => v = .int .u64 (n / 2 ^ i % 2 : Nat) ∧ Ext w w') := by
 have hBv : Go.Num.B = 18446744073709551616 := rfl
 refine enter (S := No) (l := [_, _]) (L := []) 24 Tryz.func120 rfl rfl rfl (St.start w No) ?_; refine yA ?_; refine aI rfl ?_; refine yB ?_; refine zq ?_; refine yA ?_; refine mI rfl ?_; refine w_r (fun _ => R_ltN (a := i) (b := 0) rfl rfl) rfl rfl ?_; refine mB rfl ?_; refine zd (t := 7) rfl (fun h1 => ?_) (fun h1 => ?_)
 ·omega
 ·refine zw rfl rfl (bF h1) ?_; refine mI rfl ?_; refine zw rfl rfl (bF h1) ?_; refine w_r (fun _ => R_quoN (a := i) (b := 64) rfl rfl (by omega) (by omega)) rfl rfl ?_; refine zw rfl rfl (bF h1) ?_; refine mS rfl ?_; refine zw rfl rfl (bF h1) ?_; refine w_r (fun _ => R_len sl42 rfl) rfl rfl ?_; refine zw rfl rfl (bF h1) ?_; refine w_r (fun _ => R_geN (a := (i / 64)) (b := k) rfl rfl) rfl rfl ?_; refine w_r (v := .bool _) (fun _ => zF (bF h1) rfl) rfl rfl ?_; refine yB ?_; refine zD rfl (fun h2 => ?_) (fun h2 => ?_)
  ·have hz := bit_out hA.lt h2
   refine yA ?_; refine aI rfl ?_; refine yB ?_; refine ze ?_; refine zt (?_)
   refine zo (v := .int _ _) rfl rfl rfl ?_; exact fun w' hw => ⟨by rw [hz]; rfl, hw.fr (w, No) (.head _)⟩
  ·refine zi ?_; refine zk ?_; refine yA ?_; refine mS rfl ?_; refine mI rfl ?_; refine w_r (fun _ => R_quoN (a := i) (b := 64) rfl rfl (by omega) (by omega)) rfl rfl ?_; refine w_r (fun _ => R_iaK (i := (i / 64)) sl42 rfl ((Kn.old hA).ptr (by omega)) rfl (by omega)) rfl rfl ?_; refine zl (v := .int .u64 ((dg Go.Num.B n (i / 64)) : Nat)) z75 rfl (fun w h => (Kn.old hA).ca 0 rfl (by omega) h) ?_; refine mI rfl ?_; refine w_r (fun _ => R_remU (a := i) (b := 64) rfl rfl (by omega)) rfl rfl ?_; refine w_r (fun _ => R_convK (n := (i % 64)) un3 un191 rfl (wrap_u (by omega))) rfl rfl ?_
   refine w_r (fun _ => R_shrU (a := (dg Go.Num.B n (i / 64))) (n := (i % 64)) rfl rfl (by omega)) rfl rfl ?_; refine w_r (fun _ => R_and1 (a := ((dg Go.Num.B n (i / 64)) / 2 ^ (i % 64))) rfl rfl (by exact Nat.lt_of_le_of_lt (Nat.div_le_self _ _) (dg_lt B_pos _ _))) rfl rfl ?_; refine aI rfl ?_; refine yB ?_; refine ze ?_; refine zo (v := .int _ _) rfl rfl rfl ?_; exact fun w' hw => ⟨by rw [limb_bit], hw.fr (w, No) (.head _)⟩
theorem bl_cap {n k : Nat} (h : n < Go.Num.B ^ k) : bl n ≤ 64 * k := bl_iff.2 (by rw [← B_pow]; exact h)
set_option maxRecDepth 100000 in
set_option maxHeartbeats 400000 in
theorem rBits_ok {a : Option Addr} {k c n : Nat} (w : World) (hA : Nm w a k c n) (hk : k ≤ 4000000) :
  Ret Tryz.prog 76 #[.slice a k c] w (fun v w' => v = .int .i64 (bl n : Nat) ∧ Ext w w') := by
 refine enter (S := No) (l := [_]) (L := []) 19 Tryz.func76 rfl rfl rfl (St.start w No) ?_; refine yA ?_; refine aI rfl ?_; refine yC ?_; refine mS rfl ?_; refine w_r (fun _ => R_len sl42 rfl) rfl rfl ?_; refine w_r (fun _ => R_mulN (n := 64) (b := k) rfl rfl (by omega)) rfl rfl ?_; refine aI rfl ?_; refine yB ?_; refine zq ?_; refine zB ?_; refine c_loop (fun m9 e B L => ∃ (j : Nat), e 0 = .slice a k c ∧ e 3 = .int .i64 (j : Nat) ∧ B = [(w, No)] ∧ L = [] ∧ j ≤ 64 * k ∧ bl n ≤ j ∧ m9 = j + 1) _ ⟨64 * k, rfl, rfl, rfl, rfl, Nat.le_refl _, bl_cap hA.lt, rfl⟩ ?_
 rintro m9 e B L ⟨j, e0_1, e3_1, rfl, rfl, hj, hlt, rfl⟩
 refine zq ?_; refine yA ?_; refine mI e3_1 ?_; refine w_r (fun _ => R_gtN (a := j) (b := 0) rfl rfl) rfl rfl ?_; refine mB rfl ?_; refine zd (t := 9) rfl (fun h1 => ?_) (fun h1 => ?_)
 ·obtain ⟨i, rfl⟩ : ∃ i, j = i + 1 := ⟨j - 1, by omega⟩
  refine zw rfl rfl (bT h1) ?_; refine mS e0_1 ?_; refine zw rfl rfl (bT h1) ?_; refine mI e3_1 ?_; refine zw rfl rfl (bT h1) ?_; refine w_r (fun _ => R_subN (n := (i + 1)) (b := 1) rfl rfl (by omega) (by omega)) rfl rfl ?_; refine zw rfl rfl (bT h1) ?_; refine zC (fun w => zR Tryz.func120 rfl rfl rfl) rfl rfl (fun w h => rbit_ok w ((Kn.old hA).at_ 0 rfl h) ((i + 1) - 1) ⟨by omega, by omega⟩) ?_; refine zw rfl rfl (bT h1) ?_; refine w_r (fun _ => R_eqN (a := (n / 2 ^ ((i + 1) - 1) % 2)) (b := 0) rfl rfl) rfl rfl ?_; refine w_r (v := .bool _) (fun _ => zT (bT h1) rfl) rfl rfl ?_; refine yB ?_; refine zD rfl (fun h2 => ?_) (fun h2 => ?_)
  ·refine zi ?_; refine zk ?_; refine zB ?_; refine zr ?_; refine mI e3_1 ?_; refine w_r (fun _ => R_subN (n := (i + 1)) (b := 1) rfl rfl (by omega) (by omega)) rfl rfl ?_; refine aI rfl ?_; refine zn ?_; refine b_on (?_)
   exact k_again _ (by omega) ⟨i, e0_1, rfl, rfl, rfl, by omega, bl_down hlt h2, rfl⟩
  ·have hz : bl n = i + 1 := bl_up hlt h2
   refine c_exit ?_; refine zx (zx (b_here rfl (zk ?_))); refine yA ?_; refine mI e3_1 ?_; refine aI rfl ?_; refine yB ?_; refine ze ?_; refine zo (v := .int _ _) rfl rfl rfl ?_; exact fun w' hw => ⟨by rw [hz], hw.fr (w, No) (.head _)⟩
 ·have hz : bl n = j := (by omega)
  refine zs rfl rfl (bF h1) ?_; refine zs rfl rfl (bF h1) ?_; refine zs rfl rfl (bF h1) ?_; refine zs rfl rfl (bF h1) ?_; refine zs rfl rfl (bF h1) ?_; refine w_r (v := .bool _) (fun _ => zF (bF h1) rfl) rfl rfl ?_; refine yB ?_; refine c_condF rfl ?_; refine c_exit ?_; refine zx (zx (b_here rfl (zk ?_))); refine yA ?_; refine mI e3_1 ?_; refine aI rfl ?_; refine yB ?_; refine ze ?_; refine zo (v := .int _ _) rfl rfl rfl ?_; exact fun w' hw => ⟨by rw [hz], hw.fr (w, No) (.head _)⟩
theorem dg32_out {n k i : Nat} (hn : n < Go.Num.B ^ k) (h : k ≤ i / 2) : dg b32 n i = 0 := by
 refine dg_out (Nat.lt_of_lt_of_le hn ?_)
 rw [B_b32]
 exact Nat.pow_le_pow_right b32_pos (by omega)
theorem dg32_even {i : Nat} (n : Nat) (h : i % 2 = 0) : dg Go.Num.B n (i / 2) % 4294967296 = dg b32 n i := by
 have := (dg_half n (i / 2)).1
 rw [show 2 * (i / 2) = i by omega] at this
 exact this.symm
theorem dg32_odd {i : Nat} (n : Nat) (h : ¬ i % 2 = 0) : dg Go.Num.B n (i / 2) / 4294967296 = dg b32 n i := by
 have := (dg_half n (i / 2)).2
 rw [show 2 * (i / 2) + 1 = i by omega] at this
 exact this.symm
set_option maxRecDepth 100000 in
set_option maxHeartbeats 400000 in
theorem rdigit_ok {a : Option Addr} {k c n : Nat} (w : World) (hA : Nm w a k c n) (i : Nat) (hs : k ≤ 4000000 ∧ i ≤ 1000000000) :
  Ret Tryz.prog 125 #[.slice a k c, .int .i64 (i : Nat)] w (fun v w' => v = .int .u64 (dg b32 n i : Nat) ∧ Ext w w') := by
 refine enter (S := No) (l := [_, _]) (L := []) 29 Tryz.func125 rfl rfl rfl (St.start w No) ?_; refine yA ?_; refine aI rfl ?_; refine yB ?_; refine zq ?_; refine yA ?_; refine mI rfl ?_; refine w_r (fun _ => R_ltN (a := i) (b := 0) rfl rfl) rfl rfl ?_; refine mB rfl ?_; refine zd (t := 7) rfl (fun h1 => ?_) (fun h1 => ?_)
 ·omega
 ·refine zw rfl rfl (bF h1) ?_; refine mI rfl ?_; refine zw rfl rfl (bF h1) ?_; refine w_r (fun _ => R_quoN (a := i) (b := 2) rfl rfl (by omega) (by omega)) rfl rfl ?_; refine zw rfl rfl (bF h1) ?_; refine mS rfl ?_; refine zw rfl rfl (bF h1) ?_; refine w_r (fun _ => R_len sl42 rfl) rfl rfl ?_; refine zw rfl rfl (bF h1) ?_; refine w_r (fun _ => R_geN (a := (i / 2)) (b := k) rfl rfl) rfl rfl ?_; refine w_r (v := .bool _) (fun _ => zF (bF h1) rfl) rfl rfl ?_; refine yB ?_; refine zD rfl (fun h2 => ?_) (fun h2 => ?_)
  ·refine yA ?_; refine aI rfl ?_; refine yB ?_; refine ze ?_; refine zt (?_)
   refine zo (v := .int _ _) rfl rfl rfl ?_; exact fun w' hw => ⟨by rw [dg32_out hA.lt h2]; rfl, hw.fr (w, No) (.head _)⟩
  ·refine zi ?_; refine zk ?_; refine zq ?_; refine yA ?_; refine mI rfl ?_; refine w_r (fun _ => R_remU (a := i) (b := 2) rfl rfl (by omega)) rfl rfl ?_; refine w_r (fun _ => R_eqN (a := (i % 2)) (b := 0) rfl rfl) rfl rfl ?_; refine yB ?_; refine zD rfl (fun h3 => ?_) (fun h3 => ?_)
   ·refine yA ?_; refine mS rfl ?_; refine mI rfl ?_; refine w_r (fun _ => R_quoN (a := i) (b := 2) rfl rfl (by omega) (by omega)) rfl rfl ?_; refine w_r (fun _ => R_iaK (i := (i / 2)) sl42 rfl ((Kn.old hA).ptr (by omega)) rfl (by omega)) rfl rfl ?_; refine zl (v := .int .u64 ((dg Go.Num.B n (i / 2)) : Nat)) z75 rfl (fun w h => (Kn.old hA).ca 0 rfl (by omega) h) ?_; refine w_r (fun _ => R_remU (a := (dg Go.Num.B n (i / 2))) (b := 4294967296) rfl rfl (by omega)) rfl rfl ?_; refine aI rfl ?_; refine yB ?_; refine ze ?_; refine zt (?_)
    refine zo (v := .int _ _) rfl rfl rfl ?_; exact fun w' hw => ⟨by rw [dg32_even n h3], hw.fr (w, No) (.head _)⟩
   ·refine zi ?_; refine zk ?_; refine yA ?_; refine mS rfl ?_; refine mI rfl ?_; refine w_r (fun _ => R_quoN (a := i) (b := 2) rfl rfl (by omega) (by omega)) rfl rfl ?_; refine w_r (fun _ => R_iaK (i := (i / 2)) sl42 rfl ((Kn.old hA).ptr (by omega)) rfl (by omega)) rfl rfl ?_; refine zl (v := .int .u64 ((dg Go.Num.B n (i / 2)) : Nat)) z75 rfl (fun w h => (Kn.old hA).ca 0 rfl (by omega) h) ?_; refine w_r (fun _ => R_quoU (a := (dg Go.Num.B n (i / 2))) (b := 4294967296) rfl rfl (by omega) (by exact dg_lt B_pos _ _)) rfl rfl ?_; refine aI rfl ?_; refine yB ?_; refine ze ?_; refine zo (v := .int _ _) rfl rfl rfl ?_; exact fun w' hw => ⟨by rw [dg32_odd n h3], hw.fr (w, No) (.head _)⟩
/-- a row of k digits of 32 bits, each in a limb of its own -/
def wid (n k : Nat) : Nat := vlb Go.Num.B (dgs b32 n k)
theorem dig_up (n k : Nat) : Dig Go.Num.B (dgs b32 n k) := fun x hx => Nat.lt_trans (dgs_dig b32_pos n k x hx) (by decide)
theorem wid_lt (n k : Nat) : wid n k < Go.Num.B ^ k := by have := vlb_lt (dig_up n k); rwa [dgs_len] at this
theorem wid_succ (n k : Nat) : wid n k + Go.Num.B ^ k * dg b32 n k = wid n (k + 1) := by unfold wid; rw [dgs_succ, vlb_snoc, dgs_len]
theorem wid_dg {n k i : Nat} (h : i < k) : dg Go.Num.B (wid n k) i = dg b32 n i := dg_vlb B_pos (dig_up n k) (dgs_get h)
theorem wid_congr {n m k : Nat} (h : ∀ i, i < k → dg b32 n i = dg b32 m i) : wid n k = wid m k := lmV_inj (wid_lt n k) (wid_lt m k) fun j hj => by rw [wid_dg hj, wid_dg hj, h j hj]
theorem wid_set {n k j d : Nat} (hd : d < b32) (hj : j < k) : setd Go.Num.B (wid n k) j d = wid (setd b32 n j d) k := by
 have hdB : d < Go.Num.B := Nat.lt_trans hd (by decide)
 refine lmV_inj (setd_lt B_pos hdB (wid_lt n k) hj) (wid_lt _ k) fun i hi => ?_
 rw [wid_dg hi]
 by_cases h : i = j
 ·subst h; rw [setd_same B_pos hdB, setd_same b32_pos hd]
 ·rw [setd_other B_pos hdB h, setd_other b32_pos hd h, wid_dg hi]
theorem made_e {N i k : Nat} (hi : i < k) (h : i % 2 = 0) : setd Go.Num.B (N % b32 ^ i) (i / 2) (dg Go.Num.B (wid N k) i) = N % b32 ^ (i + 1) := by
 have e : Go.Num.B ^ (i / 2) = b32 ^ i := by rw [B_b32, show 2 * (i / 2) = i by omega]
 rw [setd_zero (dg_out (by rw [e]; exact Nat.mod_lt _ (b32pow_pos i))), e, wid_dg hi, mod_step]
theorem made_o {N i k : Nat} (hi : i < k) (h : ¬ i % 2 = 0) : setd Go.Num.B (N % b32 ^ i) (i / 2) (dg Go.Num.B (N % b32 ^ i) (i / 2) + dg Go.Num.B (wid N k) i * 4294967296) = N % b32 ^ (i + 1) ∧ dg Go.Num.B (N % b32 ^ i) (i / 2) + dg Go.Num.B (wid N k) i * 4294967296 < Go.Num.B := by
 have e : Go.Num.B ^ (i / 2) * 4294967296 = b32 ^ i := by
  rw [B_b32, show (4294967296 : Nat) = b32 ^ 1 by decide, ← Nat.pow_add, show 2 * (i / 2) + 1 = i by omega]
 refine ⟨?_, ?_⟩
 ·rw [setd_add, Nat.mul_comm (dg _ _ i), ← Nat.mul_assoc, e, wid_dg hi, mod_step]
 ·have h1 : dg Go.Num.B (N % b32 ^ i) (i / 2) < 4294967296 := by
   unfold dg
   refine Nat.lt_of_le_of_lt (Nat.mod_le _ _) ((Nat.div_lt_iff_lt_mul (Bpow_pos _)).2 ?_)
   rw [Nat.mul_comm, e]; exact Nat.mod_lt _ (b32pow_pos i)
  have h2 : dg Go.Num.B (wid N k) i < 4294967296 := by rw [wid_dg hi]; exact dg_lt b32_pos _ _
  have hBv : Go.Num.B = 18446744073709551616 := rfl
  omega
theorem made_lti {N k i : Nat} (h : i ≤ k) : N % b32 ^ i < Go.Num.B ^ ((k + 1) / 2) := by
 refine Nat.lt_of_lt_of_le (Nat.mod_lt _ (b32pow_pos i)) ?_
 rw [B_b32]; exact Nat.pow_le_pow_right b32_pos (by omega)
section
variable {P : Program} {ops : Array Oper} {Q : Exit → Act → World → Prop} {c : Cf} {e : Env} {B : Base} {L : Heap} {S : World → Prop} {fuel : Nat} {listed : Array Bool} {x y : Operand} {z k : Nat} {t : TypeId}
theorem o_putU {T2 ty : TypeId} {b j dv z' q : Nat} {pp : String} {aa : Array Edge} (i : Nat) (ho : ops[q]? = some ⟨none, .store t x y, ty, pp, aa, none⟩) (hi : L[i]? = some (b, cel (lmV z k) T2)) (hz : szB P t 1 false = true) (hx : ev c.n e x = .pointer (some ⟨b, 0 + j * 1, none⟩)) (hy : ev c.n e y = .int .u64 (dv : Nat)) (hd : dv < Go.Num.B) (hj : j < k) (he : setd Go.Num.B z j dv = z')
  (h : WH P ops c Q S fuel (listed.setIfInBounds q true) e B (L.set i (b, cel (lmV z' k) T2))) : WO P ops c Q S fuel listed q e B L :=
 o_store (v := .int .u64 (dv : Nat)) (vs := [.int .u64 (dv : Nat)]) i ho hi hz hx hy rfl rfl rfl (by rw [lmV_len, Nat.ble_eq]; omega) (lmV_putE hd hj he) h
end
set_option maxRecDepth 100000 in
set_option maxHeartbeats 400000 in
theorem made_ok {a : Option Addr} {k c N : Nat} (w : World) (hA : Nm w a k c (wid N k)) (hk : k ≤ 4000000) :
  Ret Tryz.prog 129 #[.slice a k c] w (Tel (fun a c => .slice a (sz (N % b32 ^ k)) c) (sz (N % b32 ^ k)) (N % b32 ^ k) w) := by
 refine enter (S := No) (l := [_]) (L := []) 44 Tryz.func129 rfl rfl rfl (St.start w No) ?_; refine yA ?_; refine za (v := .slice _ _ _) rfl ?_; refine yC ?_; refine mS rfl ?_; refine w_r (fun _ => R_len sl41 rfl) rfl rfl ?_; refine w_r (fun _ => R_addN (n := k) (b := 1) rfl rfl (by omega)) rfl rfl ?_; refine w_r (fun _ => R_quoN (a := (k + 1)) (b := 2) rfl rfl (by omega) (by omega)) rfl rfl ?_; refine w_makeU (n := ((k + 1) / 2)) slt42 rfl rfl (by omega) (by omega) (fun ob gob uob => ?_)
 refine za (v := .slice _ _ _) rfl ?_; refine yB ?_; refine zq ?_; refine yA ?_; refine aI rfl ?_; refine yB ?_; refine zB ?_; refine c_st (B' := _) (L' := [(ob, cel (lmV (N % b32 ^ 0) ((k + 1) / 2)) 75)]) (fun w h => by rw [Nat.pow_zero, Nat.mod_one]; exact h) ?_; refine c_loop (fun m9 e B L => ∃ (i : Nat), e 0 = .slice a k c ∧ e 3 = .slice (some ⟨ob, 0, none⟩) ((k + 1) / 2) ((k + 1) / 2) ∧ e 4 = .int .i64 (i : Nat) ∧ B = [(w, No)] ∧ L = [(ob, cel (lmV (N % b32 ^ i) ((k + 1) / 2)) 75)] ∧ i ≤ k ∧ m9 = k - i) _ ⟨0, rfl, rfl, rfl, rfl, rfl, Nat.zero_le _, rfl⟩ ?_
 rintro m9 e B L ⟨i, e0_1, e3_1, e4_1, rfl, rfl, hi, rfl⟩
 refine zq ?_; refine yA ?_; refine mI e4_1 ?_; refine mS e0_1 ?_; refine w_r (fun _ => R_len sl41 rfl) rfl rfl ?_; refine w_r (fun _ => R_ltN (a := i) (b := k) rfl rfl) rfl rfl ?_; refine yB ?_; refine zD rfl (fun h1 => ?_) (fun h1 => ?_)
 ·have hik := h1
  refine zi ?_; refine zk ?_; refine zq ?_; refine zB ?_; refine yA ?_; refine mI e4_1 ?_; refine w_r (fun _ => R_remU (a := i) (b := 2) rfl rfl (by omega)) rfl rfl ?_; refine w_r (fun _ => R_eqN (a := (i % 2)) (b := 0) rfl rfl) rfl rfl ?_; refine yB ?_; refine zD rfl (fun h2 => ?_) (fun h2 => ?_)
  ·refine zr ?_; refine mS e3_1 ?_; refine mI e4_1 ?_; refine w_r (fun _ => R_quoN (a := i) (b := 2) rfl rfl (by omega) (by omega)) rfl rfl ?_; refine mS e0_1 ?_; refine mI e4_1 ?_; refine w_r (fun _ => R_iaK (i := i) sl41 rfl ((Kn.old hA).ptr (by omega)) rfl (by omega)) rfl rfl ?_; refine zl (v := .int .u64 ((dg Go.Num.B (wid N k) i) : Nat)) z75 rfl (fun w h => (Kn.old hA).ca 0 rfl (by omega) h) ?_; refine w_r (fun _ => R_iaN (i := (i / 2)) sl42 rfl rfl (by omega)) rfl rfl ?_; refine w_putU (dv := (dg Go.Num.B (wid N k) i)) (z' := (N % b32 ^ (i + 1))) (j := (i / 2)) 0 rfl z75 rfl rfl (by exact dg_lt B_pos _ _) (by omega) (made_e hik h2) ?_
   refine zn ?_; refine b_on (zk ?_); refine zr ?_; refine mI e4_1 ?_; refine w_r (fun _ => R_addN (n := i) (b := 1) rfl rfl (by omega)) rfl rfl ?_; refine aI rfl ?_; refine zn ?_; exact k_again _ (by omega) ⟨i + 1, e0_1, e3_1, rfl, rfl, rfl, by omega, rfl⟩
  ·have hmo := made_o (N := N) hik h2
   refine c_held (St [(w, No)] []) mixed ?_; refine zh (v := .slice _ _ _) 0 rfl (by kernel_rfl) rfl rfl (fun w h => (h).drop (List.nil_sublist _)) (fun w h => R_move e3_1) ?_; refine zh (v := .int _ _) 1 rfl (by kernel_rfl) rfl rfl (fun w h => (h).drop (List.nil_sublist _)) (fun w h => R_move e4_1) ?_; refine zh 2 rfl (by kernel_rfl) rfl rfl (fun w h => (h).drop (List.nil_sublist _)) (fun w h => R_quoN (a := i) (b := 2) rfl rfl (by omega) (by omega)) ?_; refine zh (v := .slice _ _ _) 3 rfl (by kernel_rfl) rfl rfl (fun w h => (h).drop (List.nil_sublist _)) (fun w h => R_move e3_1) ?_; refine zh (v := .int _ _) 4 rfl (by kernel_rfl) rfl rfl (fun w h => (h).drop (List.nil_sublist _)) (fun w h => R_move e4_1) ?_; refine zh 5 rfl (by kernel_rfl) rfl rfl (fun w h => (h).drop (List.nil_sublist _)) (fun w h => R_quoN (a := i) (b := 2) rfl rfl (by omega) (by omega)) ?_
   refine zh 6 rfl (by kernel_rfl) rfl rfl (fun w h => (h).drop (List.nil_sublist _)) (fun w h => R_iaN (i := (i / 2)) sl42 rfl rfl (by omega)) ?_; refine zh (v := .slice _ _ _) 8 rfl (by kernel_rfl) rfl rfl (fun w h => (h).drop (List.nil_sublist _)) (fun w h => R_move e0_1) ?_; refine zh (v := .int _ _) 9 rfl (by kernel_rfl) rfl rfl (fun w h => (h).drop (List.nil_sublist _)) (fun w h => R_move e4_1) ?_; refine zh 10 rfl (by kernel_rfl) rfl rfl (fun w h => (h).drop (List.nil_sublist _)) (fun w h => R_iaK (i := i) sl41 rfl ((Kn.old hA).ptr (by omega)) rfl (by omega)) ?_; refine zh (v := .int .u64 ((dg Go.Num.B (wid N k) i) : Nat)) 11 rfl (by kernel_rfl) rfl rfl (fun w h => (h).drop (List.nil_sublist _)) (fun w h => R_ld1 z75 rfl ((Kn.old hA).ca 0 rfl (by omega) h)) ?_
   refine zh 12 rfl (by kernel_rfl) rfl rfl (fun w h => (h).drop (List.nil_sublist _)) (fun w h => R_mulU (a := (dg Go.Num.B (wid N k) i)) (b := 4294967296) rfl rfl (by omega)) ?_; refine h_one 7 (by kernel_rfl) (fun w h => (h).drop (List.nil_sublist _)) ?_; refine o_run (v := .int .u64 ((dg Go.Num.B (N % b32 ^ i) (i / 2)) : Nat)) rfl rfl rfl (fun w h => R_ld1 z75 rfl (cel_lm 0 rfl (by omega) h)) ?_; refine zh 13 rfl (by kernel_rfl) rfl rfl (fun w h => (h).drop (List.nil_sublist _)) (fun w h => R_addU (a := (dg Go.Num.B (N % b32 ^ i) (i / 2))) (b := ((dg Go.Num.B (wid N k) i) * 4294967296)) rfl rfl (by omega)) ?_; refine zh 14 rfl (by kernel_rfl) rfl rfl (fun w h => (h).drop (List.nil_sublist _)) (fun w h => R_iaN (i := (i / 2)) sl42 rfl rfl (by omega)) ?_; refine h_one 15 (by kernel_rfl) (fun w h => (h).drop (List.nil_sublist _)) ?_
   refine o_putU (dv := ((dg Go.Num.B (N % b32 ^ i) (i / 2)) + ((dg Go.Num.B (wid N k) i) * 4294967296))) (z' := (N % b32 ^ (i + 1))) (j := (i / 2)) 0 rfl rfl z75 rfl rfl (by exact hmo.2) (by omega) (by exact hmo.1) ?_
   clear hmo
   refine h_done (by kernel_rfl) (fun w h => (h).drop (List.nil_sublist _)) ?_; refine b_on (zk ?_); refine zr ?_; refine mI e4_1 ?_; refine w_r (fun _ => R_addN (n := i) (b := 1) rfl rfl (by omega)) rfl rfl ?_; refine aI rfl ?_; refine zn ?_; exact k_again _ (by omega) ⟨i + 1, e0_1, e3_1, rfl, rfl, rfl, by omega, rfl⟩
 ·obtain rfl : i = k := (by omega)
  refine c_exit ?_; refine zx (zx (b_here rfl (zk ?_))); refine yA ?_; refine mS e3_1 ?_; refine w_tel (fun w => zR Tryz.func80 rfl rfl rfl) rfl rfl (fun w h => rNorm_ok w (Nm.own 0 rfl (made_lti (Nat.le_refl _)) (Nat.le_refl _) h) (by omega)) (fun x3 a3 c3 hK3 hN3 => ?_)
  refine za (v := .slice _ _ _) rfl ?_; refine yB ?_; refine ze ?_; refine zo (v := .slice _ _ _) rfl rfl rfl ?_; exact fun w' hw => ⟨_, _, rfl, (hK3.at_ 0 rfl hw), (hN3 _ (.head _)), hw.fr (w, No) (.tail _ (.head _))⟩
end Go.Proofs.YtikdkendinnalaaGreatDoor
end
section
namespace Go.Proofs.YtikdkendinnalaaGreatDoor
open Go.RowKit Go.Sx
open Go.Num
theorem top0 {n k m : Nat} (h : n < Go.Num.B ^ k) (hk : k ≤ m) : n / b32 ^ (2 * m) = 0 := Nat.div_eq_of_lt (Nat.lt_of_lt_of_le h (by rw [B_b32]; exact Nat.pow_le_pow_right b32_pos (by omega)))
theorem cmpN_ng {n m : Nat} (h : n < m) : cmpN n m = -1 := by unfold cmpN; rw [if_pos h]
theorem cmpN_gt {n m : Nat} (h : m < n) : cmpN n m = 1 := by unfold cmpN; rw [if_neg (by omega), if_pos h]
set_option maxRecDepth 100000 in
set_option maxHeartbeats 400000 in
theorem rCmp_ok {a a2 : Option Addr} {k c k2 c2 n m : Nat} (w : World) (hA : Nm w a k c n) (hB : Nm w a2 k2 c2 m) (hs : k ≤ 4000000 ∧ k2 ≤ 4000000) :
  Ret Tryz.prog 127 #[.slice a k c, .slice a2 k2 c2] w (fun v w' => v = .int .i64 (cmpN n m) ∧ Ext w w') := by
 refine enter (S := No) (l := [_, _]) (L := []) 31 Tryz.func127 rfl rfl rfl (St.start w No) ?_; refine yA ?_; refine aI rfl ?_; refine yB ?_; refine zq ?_; refine yA ?_; refine mS rfl ?_; refine w_r (fun _ => R_len sl42 rfl) rfl rfl ?_; refine mS rfl ?_; refine w_r (fun _ => R_len sl42 rfl) rfl rfl ?_; refine w_r (fun _ => R_maxN (a := k) (b := k2) rfl rfl) rfl rfl ?_; refine w_r (fun _ => R_mulN (n := 2) (b := (max k k2)) rfl rfl (by omega)) rfl rfl ?_; refine w_r (fun _ => R_subi rfl rfl (by omega)) rfl rfl ?_; refine aI rfl ?_; refine yB ?_; refine zB ?_
 refine c_loop (fun m9 e B L => ∃ (j : Nat), e 0 = .slice a k c ∧ e 1 = .slice a2 k2 c2 ∧ e 5 = .int .i64 ((j : Nat) - 1 : Int) ∧ B = [(w, No)] ∧ L = [] ∧ j ≤ (2 * max k k2) ∧ n / b32 ^ j = m / b32 ^ j ∧ m9 = j + 1) _ ⟨(2 * max k k2), rfl, rfl, rfl, rfl, rfl, Nat.le_refl _, (top0 hA.lt (Nat.le_max_left _ _)).trans (top0 hB.lt (Nat.le_max_right _ _)).symm, rfl⟩ ?_
 rintro m9 e B L ⟨j, e0_1, e1_1, e5_1, rfl, rfl, hj, hE, rfl⟩
 refine zq ?_; refine yA ?_; refine mI e5_1 ?_; refine w_r (fun _ => R_ge rfl rfl) rfl rfl ?_; refine yB ?_; refine zD rfl (fun h1 => ?_) (fun h1 => ?_)
 ·obtain ⟨i, rfl⟩ : ∃ i, j = i + 1 := ⟨j - 1, by omega⟩
  refine zi ?_; refine zk ?_; refine zq ?_; refine zB ?_; refine zq ?_; refine yA ?_; refine mS e0_1 ?_; refine mI (e5_1.trans (congrArg (Value.int .i64) (show (((i + 1 : Nat) : Int) - 1) = (i : Nat) by omega))) ?_; refine zC (fun w => zR Tryz.func125 rfl rfl rfl) rfl rfl (fun w h => rdigit_ok w ((Kn.old hA).at_ 0 rfl h) i ⟨by omega, by omega⟩) ?_; refine mS e1_1 ?_; refine mI (e5_1.trans (congrArg (Value.int .i64) (show (((i + 1 : Nat) : Int) - 1) = (i : Nat) by omega))) ?_; refine zC (fun w => zR Tryz.func125 rfl rfl rfl) rfl rfl (fun w h => rdigit_ok w ((Kn.old hB).at_ 0 rfl h) i ⟨by omega, by omega⟩) ?_; refine w_r (fun _ => R_ltN (a := (dg b32 n i)) (b := (dg b32 m i)) rfl rfl) rfl rfl ?_; refine yB ?_
  refine zD rfl (fun h2 => ?_) (fun h2 => ?_)
  ·have hc : cmpN n m = -1 := cmpN_ng (top_lt hE h2)
   refine yA ?_; refine aI rfl ?_; refine yB ?_; refine ze ?_; refine zt (zb (zt (zt (zb (zt (?_))))))
   refine zo (v := .int _ _) rfl rfl rfl ?_; exact fun w' hw => ⟨by rw [hc], hw.fr (w, No) (.head _)⟩
  ·refine zi ?_; refine zk ?_; refine yA ?_; refine mS e0_1 ?_; refine mI (e5_1.trans (congrArg (Value.int .i64) (show (((i + 1 : Nat) : Int) - 1) = (i : Nat) by omega))) ?_; refine zC (fun w => zR Tryz.func125 rfl rfl rfl) rfl rfl (fun w h => rdigit_ok w ((Kn.old hA).at_ 0 rfl h) i ⟨by omega, by omega⟩) ?_; refine mS e1_1 ?_; refine mI (e5_1.trans (congrArg (Value.int .i64) (show (((i + 1 : Nat) : Int) - 1) = (i : Nat) by omega))) ?_; refine zC (fun w => zR Tryz.func125 rfl rfl rfl) rfl rfl (fun w h => rdigit_ok w ((Kn.old hB).at_ 0 rfl h) i ⟨by omega, by omega⟩) ?_; refine w_r (fun _ => R_gtN (a := (dg b32 n i)) (b := (dg b32 m i)) rfl rfl) rfl rfl ?_; refine yB ?_; refine zD rfl (fun h3 => ?_) (fun h3 => ?_)
   ·have hc : cmpN n m = 1 := cmpN_gt (top_lt hE.symm h3)
    refine yA ?_; refine aI rfl ?_; refine yB ?_; refine ze ?_; refine zb (zt (zt (zb (zt (?_)))))
    refine zo (v := .int _ _) rfl rfl rfl ?_; exact fun w' hw => ⟨by rw [hc], hw.fr (w, No) (.head _)⟩
   ·refine zi ?_; refine b_on (zk ?_); refine zr ?_; refine mI (e5_1.trans (congrArg (Value.int .i64) (show (((i + 1 : Nat) : Int) - 1) = (i : Nat) by omega))) ?_; refine w_r (fun _ => R_subi rfl rfl (by omega)) rfl rfl ?_; refine aI rfl ?_; refine zn ?_; exact k_again _ (by omega) ⟨i, e0_1, e1_1, rfl, rfl, rfl, by omega, top_eq hE (by omega), rfl⟩
 ·obtain rfl : j = 0 := (by omega); rw [Nat.pow_zero, Nat.div_one, Nat.div_one] at hE; have hc : cmpN n m = 0 := (by rw [hE]; exact cmpN_self m)
  refine c_exit ?_; refine zx (zx (b_here rfl (zk ?_))); refine yA ?_; refine aI rfl ?_; refine yB ?_; refine ze ?_; refine zo (v := .int _ _) rfl rfl rfl ?_; exact fun w' hw => ⟨by rw [hc], hw.fr (w, No) (.head _)⟩
theorem add_dig (n m i : Nat) : (dg b32 n i + dg b32 m i + (n % b32 ^ i + m % b32 ^ i) / b32 ^ i) % 4294967296 = dg b32 (n + m) i ∧ (dg b32 n i + dg b32 m i + (n % b32 ^ i + m % b32 ^ i) / b32 ^ i) / 4294967296 = (n % b32 ^ (i + 1) + m % b32 ^ (i + 1)) / b32 ^ (i + 1) ∧ (n % b32 ^ i + m % b32 ^ i) / b32 ^ i ≤ 1 := by
 have hp := b32pow_pos i
 have h1 := mod_step b32 n i
 have h2 := mod_step b32 m i
 have hn := Nat.div_add_mod n (b32 ^ i)
 have hm := Nat.div_add_mod m (b32 ^ i)
 have hl1 := Nat.mod_lt n hp
 have hl2 := Nat.mod_lt m hp
 have e1 : (n + m) / b32 ^ i = n / b32 ^ i + m / b32 ^ i + (n % b32 ^ i + m % b32 ^ i) / b32 ^ i := by
  have : n + m = (n % b32 ^ i + m % b32 ^ i) + b32 ^ i * (n / b32 ^ i + m / b32 ^ i) := by rw [Nat.mul_add]; omega
  conv => lhs; rw [this]
  rw [Nat.add_mul_div_left _ _ hp]; omega
 have e2 : (n % b32 ^ (i + 1) + m % b32 ^ (i + 1)) / b32 ^ (i + 1) = (dg b32 n i + dg b32 m i + (n % b32 ^ i + m % b32 ^ i) / b32 ^ i) / b32 := by
  have : n % b32 ^ (i + 1) + m % b32 ^ (i + 1) = (n % b32 ^ i + m % b32 ^ i) + b32 ^ i * (dg b32 n i + dg b32 m i) := by rw [h1, h2, Nat.mul_add]; omega
  rw [this, Nat.pow_succ, ← Nat.div_div_eq_div_mul, Nat.add_mul_div_left _ _ hp]
  congr 1; omega
 refine ⟨?_, e2.symm, ?_⟩
 ·show _ = (n + m) / b32 ^ i % b32
  rw [e1]
  unfold dg
  show _ % b32 = _
  rw [Nat.add_mod, ← Nat.add_mod (n / b32 ^ i), ← Nat.add_mod]
 ·have : (n % b32 ^ i + m % b32 ^ i) / b32 ^ i < 2 := (Nat.div_lt_iff_lt_mul hp).2 (by omega)
  omega
theorem sum_lt {n m k k2 : Nat} (hn : n < Go.Num.B ^ k) (hm : m < Go.Num.B ^ k2) : (n + m) % b32 ^ (2 * max k k2 + 1) = n + m := by
 refine Nat.mod_eq_of_lt ?_
 rw [B_b32] at hn hm
 have h1 := Nat.lt_of_lt_of_le hn (Nat.pow_le_pow_right b32_pos (show 2 * k ≤ 2 * max k k2 by omega))
 have h2 := Nat.lt_of_lt_of_le hm (Nat.pow_le_pow_right b32_pos (show 2 * k2 ≤ 2 * max k k2 by omega))
 rw [Nat.pow_succ]
 have h3 : b32 ^ (2 * max k k2) * 2 ≤ b32 ^ (2 * max k k2) * b32 := Nat.mul_le_mul_left _ (by decide)
 omega
set_option maxRecDepth 100000 in
set_option maxHeartbeats 400000 in
theorem rAdd0_ok {a a2 : Option Addr} {k c k2 c2 n m : Nat} (w : World) (hA : Nm w a k c n) (hB : Nm w a2 k2 c2 m) (hs : k ≤ 1000000 ∧ k2 ≤ 1000000) :
  Ret Tryz.prog 124 #[.slice a k c, .slice a2 k2 c2] w (Tel (fun a c => .slice a (sz ((n + m) % b32 ^ (2 * max k k2 + 1))) c) (sz ((n + m) % b32 ^ (2 * max k k2 + 1))) ((n + m) % b32 ^ (2 * max k k2 + 1)) w) := by
 refine enter (S := No) (l := [_, _]) (L := []) 37 Tryz.func124 rfl rfl rfl (St.start w No) ?_; refine yA ?_; refine za (v := .slice _ _ _) rfl ?_; refine yC ?_; refine za (v := .slice _ _ _) rfl ?_; refine yC ?_; refine aI rfl ?_; refine yB ?_; refine zq ?_; refine yA ?_; refine aI rfl ?_; refine yB ?_; refine zB ?_; refine c_st (B' := _) (L' := [] ++ []) (fun w h => h) ?_
 refine c_loop (fun m9 e B L => ∃ (cy i : Nat) (oa : Option Addr) (oc : Nat) (W : Heap), e 0 = .slice a k c ∧ e 1 = .slice a2 k2 c2 ∧ e 5 = .slice oa i oc ∧ e 6 = .int .u64 (cy : Nat) ∧ e 7 = .int .i64 (i : Nat) ∧ B = [(w, No)] ∧ L = W ++ [] ∧ i ≤ 2 * max k k2 + 1 ∧ cy = (n % b32 ^ i + m % b32 ^ i) / b32 ^ i ∧ Own 75 1 (.slice oa (i) oc) (lmV (wid (n + m) (i)) (i)) (i) W ∧ m9 = 2 * max k k2 + 1 - i) _ ⟨0, 0, none, 0, [], rfl, rfl, rfl, rfl, rfl, rfl, rfl, Nat.zero_le _, by simp [Nat.mod_one], Own.nil _ _, rfl⟩ ?_
 rintro m9 e B L ⟨cy, i, oa, oc, W, e0_1, e1_1, e5_1, e6_1, e7_1, rfl, rfl, hi, hcy, hO, rfl⟩
 refine zq ?_; refine yA ?_; refine mI e7_1 ?_; refine mS e0_1 ?_; refine w_r (fun _ => R_len sl42 rfl) rfl rfl ?_; refine mS e1_1 ?_; refine w_r (fun _ => R_len sl42 rfl) rfl rfl ?_; refine w_r (fun _ => R_maxN (a := k) (b := k2) rfl rfl) rfl rfl ?_; refine w_r (fun _ => R_mulN (n := 2) (b := (max k k2)) rfl rfl (by omega)) rfl rfl ?_; refine w_r (fun _ => R_leN (a := i) (b := (2 * (max k k2))) rfl rfl) rfl rfl ?_; refine yB ?_; refine zD rfl (fun h1 => ?_) (fun h1 => ?_)
 ·have had := add_dig n m i; have hd1 := dg_lt b32_pos n i; have hd2 := dg_lt b32_pos m i; have hBv : Go.Num.B = 18446744073709551616 := rfl; have hb9 : b32 = 4294967296 := rfl; rw [← hcy] at had; have hdig := had.1; have hdB : (dg b32 n i + dg b32 m i + cy) % 4294967296 < Go.Num.B := Nat.lt_trans (Nat.mod_lt _ (by decide)) (by decide); have hcl := had.2.2
  refine zi ?_; refine zk ?_; refine zq ?_; refine zB ?_; refine yA ?_; refine mS e0_1 ?_; refine mI e7_1 ?_; refine zC (fun w => zR Tryz.func125 rfl rfl rfl) rfl rfl (fun w h => rdigit_ok w ((Kn.old hA).at_ 0 rfl h) i ⟨by omega, by omega⟩) ?_; refine mS e1_1 ?_; refine mI e7_1 ?_; refine zC (fun w => zR Tryz.func125 rfl rfl rfl) rfl rfl (fun w h => rdigit_ok w ((Kn.old hB).at_ 0 rfl h) i ⟨by omega, by omega⟩) ?_; refine w_r (fun _ => R_addU (a := (dg b32 n i)) (b := (dg b32 m i)) rfl rfl (by omega)) rfl rfl ?_; refine mI e6_1 ?_; refine w_r (fun _ => R_addU (a := ((dg b32 n i) + (dg b32 m i))) (b := cy) rfl rfl (by omega)) rfl rfl ?_
  refine aI rfl ?_; refine yC ?_; refine mS e5_1 ?_; refine mI rfl ?_; refine w_r (fun _ => R_remU (a := (((dg b32 n i) + (dg b32 m i)) + cy)) (b := 4294967296) rfl rfl (by omega)) rfl rfl ?_; refine zS slt41 (by decide) rfl rfl (fun lb glb ulb => ?_)
  refine w_st (B' := _) (L' := [_] ++ (W ++ [])) (fun w h => h) ?_; refine w_appN (z := wid (n + m) (i)) (k := i) [_] slt41 rfl hO (wid_lt _ _) rfl (fun w h => Nm.one (h.at_ 0 rfl) (by first | omega | exact hdB)) (by omega) (fun v1 W1 hO1 => ?_)
  rw [hdig, wid_succ] at hO1; obtain ⟨a1, c1, rfl⟩ := hO1.slice
  refine za (v := .slice _ _ _) rfl ?_; refine yB ?_; refine zr ?_; refine mI rfl ?_; refine w_r (fun _ => R_quoU (a := (((dg b32 n i) + (dg b32 m i)) + cy)) (b := 4294967296) rfl rfl (by omega) (by omega)) rfl rfl ?_; refine aI rfl ?_; refine zn ?_; refine b_on (zk ?_); refine zr ?_; refine mI e7_1 ?_; refine w_r (fun _ => R_addN (n := i) (b := 1) rfl rfl (by omega)) rfl rfl ?_; refine aI rfl ?_; refine zn ?_; refine k_st (B' := [(w, No)]) (L' := W1 ++ []) (fun w h => h.drop (List.sublist_cons_self _ _)) ?_; exact k_again _ (by omega) ⟨_, i + 1, a1, c1, W1, e0_1, e1_1, rfl, rfl, rfl, rfl, rfl, by omega, had.2.1, hO1, rfl⟩
 ·obtain rfl : i = 2 * max k k2 + 1 := (by omega); obtain ⟨a8, c8, h8, hM, _⟩ := hO.nm (wid_lt _ _); cases h8
  refine c_exit ?_; refine zx (zx (b_here rfl (zk ?_))); refine yA ?_; refine mS e5_1 ?_; refine w_tel (fun w => zR Tryz.func129 rfl rfl rfl) rfl rfl (fun w h => made_ok w (hM w (fun p hp => h.own p (List.mem_append_left _ hp))) (by omega)) (fun x2 a2 c2 hK2 hN2 => ?_)
  refine za (v := .slice _ _ _) rfl ?_; refine yB ?_; refine ze ?_; refine zo (v := .slice _ _ _) rfl rfl rfl ?_; exact fun w' hw => ⟨_, _, rfl, (hK2.at_ 0 rfl hw), (hN2 _ (.head _)), hw.fr (w, No) (.tail _ (.head _))⟩
theorem rAdd_ok {a a2 : Option Addr} {k c k2 c2 n m : Nat} (w : World) (hA : Nm w a k c n) (hB : Nm w a2 k2 c2 m) (hs : k ≤ 1000000 ∧ k2 ≤ 1000000) : Ret Tryz.prog 124 #[.slice a k c, .slice a2 k2 c2] w (Tel (fun a c => .slice a (sz (n + m)) c) (sz (n + m)) (n + m) w) := by
 have := rAdd0_ok w hA hB hs
 rwa [sum_lt hA.lt hB.lt] at this
theorem sub_mod9 {n m i : Nat} (h : m ≤ n) : (n - m) % b32 ^ i + m % b32 ^ i = n % b32 ^ i + b32 ^ i * (if n % b32 ^ i < m % b32 ^ i then 1 else 0) := by
 have hp := b32pow_pos i
 have h1 : ((n - m) % b32 ^ i + m % b32 ^ i) % b32 ^ i = n % b32 ^ i := by rw [← Nat.add_mod, Nat.sub_add_cancel h]
 have h2 := Nat.mod_lt (n - m) hp
 have h3 := Nat.mod_lt m hp
 have h4 := Nat.mod_lt n hp
 generalize hx : (n - m) % b32 ^ i = x at *
 generalize hy : m % b32 ^ i = y at *
 generalize hz : n % b32 ^ i = z at *
 generalize hpp : b32 ^ i = p at *
 by_cases hs : x + y < p
 ·rw [Nat.mod_eq_of_lt hs] at h1
  rw [if_neg (by omega)]; omega
 ·have h5 : (x + y) % p = x + y - p := by
   rw [Nat.mod_eq_sub_mod (by omega), Nat.mod_eq_of_lt (by omega)]
  rw [h5] at h1
  rw [if_pos (by omega)]; omega
theorem sub_dig {n m : Nat} (h : m ≤ n) (i : Nat) : dg b32 (n - m) i + dg b32 m i + (if n % b32 ^ i < m % b32 ^ i then 1 else 0) = dg b32 n i + b32 * (if n % b32 ^ (i + 1) < m % b32 ^ (i + 1) then 1 else 0) := by
 have hp := b32pow_pos i
 have h1 := sub_mod9 (i := i) h
 have h2 := sub_mod9 (i := i + 1) h
 obtain ⟨r, hr⟩ : ∃ r, r = (if n % b32 ^ i < m % b32 ^ i then 1 else 0) := ⟨_, rfl⟩
 obtain ⟨r2, hr2⟩ : ∃ r, r = (if n % b32 ^ (i + 1) < m % b32 ^ (i + 1) then 1 else 0) := ⟨_, rfl⟩
 rw [← hr] at h1 ⊢
 rw [← hr2] at h2 ⊢
 rw [mod_step, mod_step b32 m, mod_step b32 n, Nat.pow_succ, Nat.mul_assoc] at h2
 refine Nat.eq_of_mul_eq_mul_left hp ?_
 rw [Nat.mul_add, Nat.mul_add, Nat.mul_add]
 omega
theorem sub_prog {n m : Nat} (h : m ≤ n) (i : Nat) {r : Nat} (hr : r = (if n % b32 ^ i < m % b32 ^ i then 1 else 0)) : (4294967296 + dg b32 n i - dg b32 m i - r) % 4294967296 = dg b32 (n - m) i ∧ 1 - (4294967296 + dg b32 n i - dg b32 m i - r) / 4294967296 = (if n % b32 ^ (i + 1) < m % b32 ^ (i + 1) then 1 else 0) ∧ r ≤ 1 ∧ (4294967296 + dg b32 n i - dg b32 m i - r) / 4294967296 ≤ 1 := by
 have h1 := sub_dig h i
 rw [← hr] at h1
 have hr1 : r ≤ 1 := by rw [hr]; split <;> omega
 have h2 := dg_lt b32_pos (n - m) i
 have h3 := dg_lt b32_pos m i
 have h4 := dg_lt b32_pos n i
 have hb : b32 = 4294967296 := rfl
 obtain ⟨r2, hr2⟩ : ∃ r2, r2 = (if n % b32 ^ (i + 1) < m % b32 ^ (i + 1) then 1 else 0) := ⟨_, rfl⟩
 have hr3 : r2 ≤ 1 := by rw [hr2]; split <;> omega
 rw [← hr2] at h1 ⊢
 rw [hb] at h1 h2 h3 h4
 generalize dg b32 (n - m) i = x at *
 generalize dg b32 n i = y at *
 generalize dg b32 m i = z at *
 omega
theorem sub_lt2 {n m k : Nat} (hn : n < Go.Num.B ^ k) : (n - m) % b32 ^ (2 * k) = n - m := by
 rw [B_b32] at hn
 exact Nat.mod_eq_of_lt (Nat.lt_of_le_of_lt (Nat.sub_le _ _) hn)
set_option maxRecDepth 100000 in
set_option maxHeartbeats 400000 in
theorem rSub0_ok {a a2 : Option Addr} {k c k2 c2 n m : Nat} (w : World) (hA : Nm w a k c n) (hB : Nm w a2 k2 c2 m) (hs : k ≤ 1000000 ∧ k2 ≤ 1000000) (hle : m ≤ n) :
  Ret Tryz.prog 128 #[.slice a k c, .slice a2 k2 c2] w (Tel (fun a c => .slice a (sz ((n - m) % b32 ^ (2 * k))) c) (sz ((n - m) % b32 ^ (2 * k))) ((n - m) % b32 ^ (2 * k)) w) := by
 refine enter (S := No) (l := [_, _]) (L := []) 36 Tryz.func128 rfl rfl rfl (St.start w No) ?_; refine yA ?_; refine za (v := .slice _ _ _) rfl ?_; refine yC ?_; refine za (v := .slice _ _ _) rfl ?_; refine yC ?_; refine aI rfl ?_; refine yB ?_; refine zq ?_; refine yA ?_; refine aI rfl ?_; refine yB ?_; refine zB ?_; refine c_st (B' := _) (L' := [] ++ []) (fun w h => h) ?_
 refine c_loop (fun m9 e B L => ∃ (cy i : Nat) (oa : Option Addr) (oc : Nat) (W : Heap), e 0 = .slice a k c ∧ e 1 = .slice a2 k2 c2 ∧ e 5 = .slice oa i oc ∧ e 6 = .int .u64 (cy : Nat) ∧ e 7 = .int .i64 (i : Nat) ∧ B = [(w, No)] ∧ L = W ++ [] ∧ i ≤ 2 * k ∧ cy = (if n % b32 ^ i < m % b32 ^ i then 1 else 0) ∧ Own 75 1 (.slice oa (i) oc) (lmV (wid (n - m) (i)) (i)) (i) W ∧ m9 = 2 * k - i) _ ⟨0, 0, none, 0, [], rfl, rfl, rfl, rfl, rfl, rfl, rfl, Nat.zero_le _, by simp [Nat.mod_one], Own.nil _ _, rfl⟩ ?_
 rintro m9 e B L ⟨cy, i, oa, oc, W, e0_1, e1_1, e5_1, e6_1, e7_1, rfl, rfl, hi, hcy, hO, rfl⟩
 refine zq ?_; refine yA ?_; refine mI e7_1 ?_; refine mS e0_1 ?_; refine w_r (fun _ => R_len sl42 rfl) rfl rfl ?_; refine w_r (fun _ => R_mulN (n := 2) (b := k) rfl rfl (by omega)) rfl rfl ?_; refine w_r (fun _ => R_ltN (a := i) (b := (2 * k)) rfl rfl) rfl rfl ?_; refine yB ?_; refine zD rfl (fun h1 => ?_) (fun h1 => ?_)
 ·have had := sub_prog hle i hcy; have hd1 := dg_lt b32_pos n i; have hd2 := dg_lt b32_pos m i; have hBv : Go.Num.B = 18446744073709551616 := rfl; have hb9 : b32 = 4294967296 := rfl; have hdig := had.1; have hdB : (4294967296 + dg b32 n i - dg b32 m i - cy) % 4294967296 < Go.Num.B := Nat.lt_trans (Nat.mod_lt _ (by decide)) (by decide); have hcl := had.2.2.1; have hcm := had.2.2.2
  refine zi ?_; refine zk ?_; refine zq ?_; refine zB ?_; refine yA ?_; refine mS e0_1 ?_; refine mI e7_1 ?_; refine zC (fun w => zR Tryz.func125 rfl rfl rfl) rfl rfl (fun w h => rdigit_ok w ((Kn.old hA).at_ 0 rfl h) i ⟨by omega, by omega⟩) ?_; refine w_r (fun _ => R_addU (a := 4294967296) (b := (dg b32 n i)) rfl rfl (by omega)) rfl rfl ?_; refine mS e1_1 ?_; refine mI e7_1 ?_; refine zC (fun w => zR Tryz.func125 rfl rfl rfl) rfl rfl (fun w h => rdigit_ok w ((Kn.old hB).at_ 0 rfl h) i ⟨by omega, by omega⟩) ?_; refine w_r (fun _ => R_subU (a := (4294967296 + (dg b32 n i))) (b := (dg b32 m i)) rfl rfl (by omega) (by omega)) rfl rfl ?_; refine mI e6_1 ?_
  refine w_r (fun _ => R_subU (a := ((4294967296 + (dg b32 n i)) - (dg b32 m i))) (b := cy) rfl rfl (by omega) (by omega)) rfl rfl ?_; refine aI rfl ?_; refine yC ?_; refine mS e5_1 ?_; refine mI rfl ?_; refine w_r (fun _ => R_remU (a := (((4294967296 + (dg b32 n i)) - (dg b32 m i)) - cy)) (b := 4294967296) rfl rfl (by omega)) rfl rfl ?_; refine zS slt41 (by decide) rfl rfl (fun lb glb ulb => ?_)
  refine w_st (B' := _) (L' := [_] ++ (W ++ [])) (fun w h => h) ?_; refine w_appN (z := wid (n - m) (i)) (k := i) [_] slt41 rfl hO (wid_lt _ _) rfl (fun w h => Nm.one (h.at_ 0 rfl) (by first | omega | exact hdB)) (by omega) (fun v1 W1 hO1 => ?_)
  rw [hdig, wid_succ] at hO1; obtain ⟨a1, c1, rfl⟩ := hO1.slice
  refine za (v := .slice _ _ _) rfl ?_; refine yB ?_; refine zr ?_; refine mI rfl ?_; refine w_r (fun _ => R_quoU (a := (((4294967296 + (dg b32 n i)) - (dg b32 m i)) - cy)) (b := 4294967296) rfl rfl (by omega) (by omega)) rfl rfl ?_; refine w_r (fun _ => R_subU (a := 1) (b := ((((4294967296 + (dg b32 n i)) - (dg b32 m i)) - cy) / 4294967296)) rfl rfl (by omega) (by omega)) rfl rfl ?_; refine aI rfl ?_; refine zn ?_; refine b_on (zk ?_); refine zr ?_; refine mI e7_1 ?_; refine w_r (fun _ => R_addN (n := i) (b := 1) rfl rfl (by omega)) rfl rfl ?_; refine aI rfl ?_; refine zn ?_; refine k_st (B' := [(w, No)]) (L' := W1 ++ []) (fun w h => h.drop (List.sublist_cons_self _ _)) ?_
  exact k_again _ (by omega) ⟨_, i + 1, a1, c1, W1, e0_1, e1_1, rfl, rfl, rfl, rfl, rfl, by omega, had.2.1, hO1, rfl⟩
 ·obtain rfl : i = 2 * k := (by omega); obtain ⟨a8, c8, h8, hM, _⟩ := hO.nm (wid_lt _ _); cases h8
  refine c_exit ?_; refine zx (zx (b_here rfl (zk ?_))); refine yA ?_; refine mS e5_1 ?_; refine w_tel (fun w => zR Tryz.func129 rfl rfl rfl) rfl rfl (fun w h => made_ok w (hM w (fun p hp => h.own p (List.mem_append_left _ hp))) (by omega)) (fun x2 a2 c2 hK2 hN2 => ?_)
  refine za (v := .slice _ _ _) rfl ?_; refine yB ?_; refine ze ?_; refine zo (v := .slice _ _ _) rfl rfl rfl ?_; exact fun w' hw => ⟨_, _, rfl, (hK2.at_ 0 rfl hw), (hN2 _ (.head _)), hw.fr (w, No) (.tail _ (.head _))⟩
theorem rSub_ok {a a2 : Option Addr} {k c k2 c2 n m : Nat} (w : World) (hA : Nm w a k c n) (hB : Nm w a2 k2 c2 m) (hs : k ≤ 1000000 ∧ k2 ≤ 1000000) (hle : m ≤ n) : Ret Tryz.prog 128 #[.slice a k c, .slice a2 k2 c2] w (Tel (fun a c => .slice a (sz (n - m)) c) (sz (n - m)) (n - m) w) := by
 have := rSub0_ok w hA hB hs hle
 rwa [sub_lt2 hA.lt] at this
theorem made2_ok {a : Option Addr} {k c N : Nat} (w : World) (hA : Nm w a k c (wid N k)) (hk : k ≤ 4000000) (hN : N % b32 ^ k = N) : Ret Tryz.prog 129 #[.slice a k c] w (Tel (fun a c => .slice a (sz N) c) (sz N) N w) := by
 have := made_ok w hA hk
 rwa [hN] at this
theorem own_row {T : TypeId} {ob q z : Nat} : Own T 1 (.slice (some ⟨ob, 0, none⟩) q q) (lmV z q) q [(ob, cel (lmV z q) T)] := ⟨by simp [lmV_len], .inr ⟨ob, q, [], rfl, Nat.le_refl _, by simp, by simp⟩⟩
theorem shl_row (n h i : Nat) : dg b32 (n * 2 ^ h) (h / 32 + i) = dg b32 (n * 2 ^ (h % 32)) i := by
 have h1 := shl32 n h
 have h2 := dg_high (b := b32) (x := 0) (y := n * 2 ^ (h % 32)) (i := i) (b32pow_pos (h / 32))
 rw [Nat.zero_add] at h2
 rw [h1]; exact h2
theorem shl_low (n h : Nat) : wid (n * 2 ^ h) (h / 32) = 0 := by
 have : wid (n * 2 ^ h) (h / 32) = wid 0 (h / 32) := wid_congr fun i hi => by
  rw [shl32, dg_zero, ← Nat.zero_add (b32 ^ _ * _), dg_low b32_pos hi, dg_zero]
 rw [this]
 exact lmV_inj (k := h / 32) (wid_lt _ _) (Bpow_pos _) fun j hj => by rw [wid_dg hj, dg_zero, dg_zero]
theorem shl_dig (n i : Nat) {r : Nat} (hr : r < 32) : (dg b32 n i * 2 ^ r + n % b32 ^ i * 2 ^ r / b32 ^ i) % 4294967296 = dg b32 (n * 2 ^ r) i ∧ (dg b32 n i * 2 ^ r + n % b32 ^ i * 2 ^ r / b32 ^ i) / 4294967296 = n % b32 ^ (i + 1) * 2 ^ r / b32 ^ (i + 1) ∧ dg b32 n i * 2 ^ r < 9223372036854775808 ∧ n % b32 ^ i * 2 ^ r / b32 ^ i < 2147483648 := by
 have hp := b32pow_pos i
 have h2r : 2 ^ r ≤ 2147483648 := Nat.pow_le_pow_right (n := 2) (by decide) (show r ≤ 31 by omega)
 have e1 : n % b32 ^ (i + 1) * 2 ^ r / b32 ^ i = dg b32 n i * 2 ^ r + n % b32 ^ i * 2 ^ r / b32 ^ i := by
  rw [mod_step, Nat.add_mul, Nat.mul_assoc, Nat.add_mul_div_left _ _ hp, Nat.add_comm]
 have e2 : n * 2 ^ r / b32 ^ i = n / b32 ^ i * 2 ^ r + n % b32 ^ i * 2 ^ r / b32 ^ i := by
  have hn := Nat.div_add_mod n (b32 ^ i)
  conv => lhs; rw [← hn]
  rw [Nat.add_mul, Nat.mul_assoc, Nat.add_comm, Nat.add_mul_div_left _ _ hp, Nat.add_comm]
 refine ⟨?_, ?_, ?_, ?_⟩
 ·show _ = n * 2 ^ r / b32 ^ i % b32
  rw [e2]
  unfold dg
  show _ % b32 = _
  rw [Nat.add_mod, Nat.mod_mul_mod, ← Nat.add_mod]
 ·rw [← e1, Nat.pow_succ, ← Nat.div_div_eq_div_mul]
 ·have h3 := dg_lt b32_pos n i
  have h5 : dg b32 n i * 2 ^ r ≤ 4294967295 * 2147483648 := Nat.mul_le_mul (Nat.le_of_lt_succ h3) h2r
  omega
 ·rw [Nat.div_lt_iff_lt_mul hp]
  have h3 := Nat.mod_lt n hp
  calc n % b32 ^ i * 2 ^ r < b32 ^ i * 2 ^ r := Nat.mul_lt_mul_of_pos_right h3 (Nat.pow_pos (by decide))
   _ ≤ b32 ^ i * 2147483648 := Nat.mul_le_mul_left _ h2r
   _ = 2147483648 * b32 ^ i := Nat.mul_comm _ _
theorem shl_end {n k : Nat} (h : Nat) (hn : n < Go.Num.B ^ k) : n * 2 ^ h % b32 ^ (h / 32 + (2 * k + 1)) = n * 2 ^ h := by
 refine Nat.mod_eq_of_lt ?_
 rw [B_b32] at hn
 rw [shl32, Nat.pow_add, Nat.pow_succ]
 refine Nat.mul_lt_mul_of_pos_left ?_ (b32pow_pos _)
 have h2r : 2 ^ (h % 32) ≤ b32 := by rw [b32_two]; exact Nat.pow_le_pow_right (by decide) (by omega)
 exact Nat.lt_of_lt_of_le (Nat.mul_lt_mul_of_pos_right hn (Nat.pow_pos (by decide))) (Nat.mul_le_mul_left _ h2r)
theorem shr_end {n k h j : Nat} (hn : n < Go.Num.B ^ k) (hj : 2 * k ≤ h / 32 + j) : n / 2 ^ h % b32 ^ j = n / 2 ^ h := by
 refine Nat.mod_eq_of_lt ((Nat.div_lt_iff_lt_mul (Nat.pow_pos (by decide))).2 (Nat.lt_of_lt_of_le hn ?_))
 rw [B_pow, b32_pow, ← Nat.pow_add]
 exact Nat.pow_le_pow_right (by decide) (by omega)
set_option maxRecDepth 100000 in
set_option maxHeartbeats 1000000 in
theorem rShl_ok {a : Option Addr} {k c n : Nat} (w : World) (hA : Nm w a k c n) (h9 : Nat) (hs : k ≤ 1000000 ∧ h9 ≤ 131072) :
  Ret Tryz.prog 121 #[.slice a k c, .int .i64 (h9 : Nat)] w (Tel (fun a c => .slice a (sz ((n * 2 ^ h9))) c) (sz ((n * 2 ^ h9))) ((n * 2 ^ h9)) w) := by
 refine enter (S := No) (l := [_, _]) (L := []) 37 Tryz.func121 rfl rfl rfl (St.start w No) ?_; refine yA ?_; refine za (v := .slice _ _ _) rfl ?_; refine yC ?_; refine mI rfl ?_; refine w_r (fun _ => R_quoN (a := h9) (b := 32) rfl rfl (by omega) (by omega)) rfl rfl ?_; refine w_makeU (n := (h9 / 32)) slt41 rfl rfl (by omega) (by omega) (fun ob gob uob => ?_)
 refine za (v := .slice _ _ _) rfl ?_; refine yC ?_; refine aI rfl ?_; refine yB ?_; refine zq ?_; refine yA ?_; refine aI rfl ?_; refine yB ?_; refine zB ?_; refine c_st (B' := _) (L' := [(ob, cel (lmV 0 (h9 / 32)) 75)] ++ []) (fun w h => h) ?_
 refine c_loop (fun m9 e B L => ∃ (cy i : Nat) (oa : Option Addr) (oc : Nat) (W : Heap), e 0 = .slice a k c ∧ e 1 = .int .i64 (h9 : Nat) ∧ e 5 = .slice oa (h9 / 32 + i) oc ∧ e 6 = .int .u64 (cy : Nat) ∧ e 7 = .int .i64 (i : Nat) ∧ B = [(w, No)] ∧ L = W ++ [] ∧ i ≤ 2 * k + 1 ∧ cy = n % b32 ^ i * 2 ^ (h9 % 32) / b32 ^ i ∧ Own 75 1 (.slice oa (h9 / 32 + i) oc) (lmV (wid (n * 2 ^ h9) (h9 / 32 + i)) (h9 / 32 + i)) (h9 / 32 + i) W ∧ m9 = 2 * k + 1 - i) _ ⟨0, 0, (some ⟨ob, 0, none⟩), (h9 / 32), [(ob, cel (lmV 0 (h9 / 32)) 75)], rfl, rfl, rfl, rfl, rfl, rfl, rfl, Nat.zero_le _, by simp [Nat.mod_one], by rw [Nat.add_zero, shl_low]; exact own_row, rfl⟩ ?_
 rintro m9 e B L ⟨cy, i, oa, oc, W, e0_1, e1_1, e5_1, e6_1, e7_1, rfl, rfl, hi, hcy, hO, rfl⟩
 refine zq ?_; refine yA ?_; refine mI e7_1 ?_; refine mS e0_1 ?_; refine w_r (fun _ => R_len sl42 rfl) rfl rfl ?_; refine w_r (fun _ => R_mulN (n := 2) (b := k) rfl rfl (by omega)) rfl rfl ?_; refine w_r (fun _ => R_leN (a := i) (b := (2 * k)) rfl rfl) rfl rfl ?_; refine yB ?_; refine zD rfl (fun h1 => ?_) (fun h1 => ?_)
 ·have had := shl_dig n i (show h9 % 32 < 32 by omega); have hd1 := dg_lt b32_pos n i; have hBv : Go.Num.B = 18446744073709551616 := rfl; have hb9 : b32 = 4294967296 := rfl; rw [← hcy, ← shl_row] at had; have hdig := had.1; have hdB : (dg b32 n i * 2 ^ (h9 % 32) + cy) % 4294967296 < Go.Num.B := Nat.lt_trans (Nat.mod_lt _ (by decide)) (by decide); have hcl := had.2.2.2; have hcm := had.2.2.1
  refine zi ?_; refine zk ?_; refine zq ?_; refine zB ?_; refine yA ?_; refine mS e0_1 ?_; refine mI e7_1 ?_; refine zC (fun w => zR Tryz.func125 rfl rfl rfl) rfl rfl (fun w h => rdigit_ok w ((Kn.old hA).at_ 0 rfl h) i ⟨by omega, by omega⟩) ?_; refine mI e1_1 ?_; refine w_r (fun _ => R_remU (a := h9) (b := 32) rfl rfl (by omega)) rfl rfl ?_; refine w_r (fun _ => R_convK (n := (h9 % 32)) un3 un191 rfl (wrap_u (by omega))) rfl rfl ?_; refine w_r (fun _ => R_shlU (a := (dg b32 n i)) (n := (h9 % 32)) rfl rfl (by omega)) rfl rfl ?_
  rw [Nat.mod_eq_of_lt (show (dg b32 n i) * 2 ^ (h9 % 32) < Go.Num.B by omega)]
  refine mI e6_1 ?_; refine w_r (fun _ => R_addU (a := ((dg b32 n i) * 2 ^ (h9 % 32))) (b := cy) rfl rfl (by omega)) rfl rfl ?_; refine aI rfl ?_; refine yC ?_; refine mS e5_1 ?_; refine mI rfl ?_; refine w_r (fun _ => R_remU (a := (((dg b32 n i) * 2 ^ (h9 % 32)) + cy)) (b := 4294967296) rfl rfl (by omega)) rfl rfl ?_; refine zS slt41 (by decide) rfl rfl (fun lb glb ulb => ?_)
  refine w_st (B' := _) (L' := [_] ++ (W ++ [])) (fun w h => h) ?_; refine w_appN (z := wid (n * 2 ^ h9) (h9 / 32 + i)) (k := h9 / 32 + i) [_] slt41 rfl hO (wid_lt _ _) rfl (fun w h => Nm.one (h.at_ 0 rfl) (by first | omega | exact hdB)) (by omega) (fun v1 W1 hO1 => ?_)
  rw [hdig, wid_succ] at hO1; obtain ⟨a1, c1, rfl⟩ := hO1.slice
  refine za (v := .slice _ _ _) rfl ?_; refine yB ?_; refine zr ?_; refine mI rfl ?_; refine w_r (fun _ => R_quoU (a := (((dg b32 n i) * 2 ^ (h9 % 32)) + cy)) (b := 4294967296) rfl rfl (by omega) (by omega)) rfl rfl ?_; refine aI rfl ?_; refine zn ?_; refine b_on (zk ?_); refine zr ?_; refine mI e7_1 ?_; refine w_r (fun _ => R_addN (n := i) (b := 1) rfl rfl (by omega)) rfl rfl ?_; refine aI rfl ?_; refine zn ?_; refine k_st (B' := [(w, No)]) (L' := W1 ++ []) (fun w h => h.drop (List.sublist_cons_self _ _)) ?_; exact k_again _ (by omega) ⟨_, i + 1, a1, c1, W1, e0_1, e1_1, rfl, rfl, rfl, rfl, rfl, by omega, had.2.1, hO1, rfl⟩
 ·obtain rfl : i = 2 * k + 1 := (by omega); have hend := shl_end h9 hA.lt; obtain ⟨a8, c8, h8, hM, _⟩ := hO.nm (wid_lt _ _); cases h8
  refine c_exit ?_; refine zx (zx (b_here rfl (zk ?_))); refine yA ?_; refine mS e5_1 ?_; refine w_tel (fun w => zR Tryz.func129 rfl rfl rfl) rfl rfl (fun w h => made2_ok w (hM w (fun p hp => h.own p (List.mem_append_left _ hp))) (by omega) hend) (fun x2 a2 c2 hK2 hN2 => ?_)
  refine za (v := .slice _ _ _) rfl ?_; refine yB ?_; refine ze ?_; refine zo (v := .slice _ _ _) rfl rfl rfl ?_; exact fun w' hw => ⟨_, _, rfl, (hK2.at_ 0 rfl hw), (hN2 _ (.head _)), hw.fr (w, No) (.tail _ (.head _))⟩
set_option maxRecDepth 100000 in
set_option maxHeartbeats 1000000 in
theorem rShr_ok {a : Option Addr} {k c n : Nat} (w : World) (hA : Nm w a k c n) (h9 : Nat) (hs : k ≤ 1000000 ∧ h9 ≤ 10000000) :
  Ret Tryz.prog 123 #[.slice a k c, .int .i64 (h9 : Nat)] w (Tel (fun a c => .slice a (sz ((n / 2 ^ h9))) c) (sz ((n / 2 ^ h9))) ((n / 2 ^ h9)) w) := by
 refine enter (S := No) (l := [_, _]) (L := []) 37 Tryz.func123 rfl rfl rfl (St.start w No) ?_; refine yA ?_; refine za (v := .slice _ _ _) rfl ?_; refine yC ?_; refine za (v := .slice _ _ _) rfl ?_; refine yB ?_; refine zq ?_; refine yA ?_; refine mI rfl ?_; refine w_r (fun _ => R_quoN (a := h9) (b := 32) rfl rfl (by omega) (by omega)) rfl rfl ?_; refine aI rfl ?_; refine yB ?_; refine zB ?_; refine c_st (B' := _) (L' := [] ++ []) (fun w h => h) ?_
 refine c_loop (fun m9 e B L => ∃ (j : Nat) (oa : Option Addr) (oc : Nat) (W : Heap), e 0 = .slice a k c ∧ e 1 = .int .i64 (h9 : Nat) ∧ e 5 = .slice oa j oc ∧ e 6 = .int .i64 (h9 / 32 + j : Nat) ∧ B = [(w, No)] ∧ L = W ++ [] ∧ j ≤ 2 * k ∧ Own 75 1 (.slice oa (j) oc) (lmV (wid (n / 2 ^ h9) (j)) (j)) (j) W ∧ m9 = 2 * k - j) _ ⟨0, none, 0, [], rfl, rfl, rfl, rfl, rfl, rfl, Nat.zero_le _, Own.nil _ _, rfl⟩ ?_
 rintro m9 e B L ⟨j, oa, oc, W, e0_1, e1_1, e5_1, e6_1, rfl, rfl, hj, hO, rfl⟩
 refine zq ?_; refine yA ?_; refine mI e6_1 ?_; refine mS e0_1 ?_; refine w_r (fun _ => R_len sl42 rfl) rfl rfl ?_; refine w_r (fun _ => R_mulN (n := 2) (b := k) rfl rfl (by omega)) rfl rfl ?_; refine w_r (fun _ => R_ltN (a := (h9 / 32 + j)) (b := (2 * k)) rfl rfl) rfl rfl ?_; refine yB ?_; refine zD rfl (fun h1 => ?_) (fun h1 => ?_)
 ·have hdig := (shr32 n h9 j).symm; have hd1 := dg_lt b32_pos n (h9 / 32 + j); have hd2 := dg_lt b32_pos n (h9 / 32 + j + 1); have hBv : Go.Num.B = 18446744073709551616 := rfl; have hb9 : b32 = 4294967296 := rfl; have hdB : (dg b32 n (h9 / 32 + j) + dg b32 n (h9 / 32 + j + 1) * 4294967296) / 2 ^ (h9 % 32) % 4294967296 < Go.Num.B := Nat.lt_trans (Nat.mod_lt _ (by decide)) (by decide)
  refine zi ?_; refine zk ?_; refine zq ?_; refine zB ?_; refine yA ?_; refine mS e0_1 ?_; refine mI e6_1 ?_; refine zC (fun w => zR Tryz.func125 rfl rfl rfl) rfl rfl (fun w h => rdigit_ok w ((Kn.old hA).at_ 0 rfl h) (h9 / 32 + j) ⟨by omega, by omega⟩) ?_; refine mS e0_1 ?_; refine mI e6_1 ?_; refine w_r (fun _ => R_addN (n := (h9 / 32 + j)) (b := 1) rfl rfl (by omega)) rfl rfl ?_; refine zC (fun w => zR Tryz.func125 rfl rfl rfl) rfl rfl (fun w h => rdigit_ok w ((Kn.old hA).at_ 0 rfl h) ((h9 / 32 + j) + 1) ⟨by omega, by omega⟩) ?_
  refine w_r (fun _ => R_mulU (a := (dg b32 n ((h9 / 32 + j) + 1))) (b := 4294967296) rfl rfl (by omega)) rfl rfl ?_; refine w_r (fun _ => R_addU (a := (dg b32 n (h9 / 32 + j))) (b := ((dg b32 n ((h9 / 32 + j) + 1)) * 4294967296)) rfl rfl (by omega)) rfl rfl ?_; refine aI rfl ?_; refine yB ?_; refine zr ?_; refine mS e5_1 ?_; refine mI rfl ?_; refine mI e1_1 ?_; refine w_r (fun _ => R_remU (a := h9) (b := 32) rfl rfl (by omega)) rfl rfl ?_; refine w_r (fun _ => R_convK (n := (h9 % 32)) un3 un191 rfl (wrap_u (by omega))) rfl rfl ?_; refine w_r (fun _ => R_shrU (a := ((dg b32 n (h9 / 32 + j)) + ((dg b32 n ((h9 / 32 + j) + 1)) * 4294967296))) (n := (h9 % 32)) rfl rfl (by omega)) rfl rfl ?_
  refine w_r (fun _ => R_remU (a := (((dg b32 n (h9 / 32 + j)) + ((dg b32 n ((h9 / 32 + j) + 1)) * 4294967296)) / 2 ^ (h9 % 32))) (b := 4294967296) rfl rfl (by omega)) rfl rfl ?_; refine zS slt41 (by decide) rfl rfl (fun b2 gb2 ub2 => ?_)
  refine w_st (B' := _) (L' := [_] ++ (W ++ [])) (fun w h => h) ?_; refine w_appN (z := wid (n / 2 ^ h9) (j)) (k := j) [_] slt41 rfl hO (wid_lt _ _) rfl (fun w h => Nm.one (h.at_ 0 rfl) (by first | omega | exact hdB)) (by omega) (fun v1 W1 hO1 => ?_)
  rw [hdig, wid_succ] at hO1; obtain ⟨a1, c1, rfl⟩ := hO1.slice
  refine za (v := .slice _ _ _) rfl ?_; refine zn ?_; refine b_on (zk ?_); refine zr ?_; refine mI e6_1 ?_; refine w_r (fun _ => R_addN (n := (h9 / 32 + j)) (b := 1) rfl rfl (by omega)) rfl rfl ?_; refine aI rfl ?_; refine zn ?_; refine k_st (B' := [(w, No)]) (L' := W1 ++ []) (fun w h => h.drop (List.sublist_cons_self _ _)) ?_; exact k_again _ (by omega) ⟨j + 1, a1, c1, W1, e0_1, e1_1, rfl, rfl, rfl, rfl, by omega, hO1, rfl⟩
 ·have hend := shr_end (h := h9) (j := j) hA.lt (by omega); obtain ⟨a8, c8, h8, hM, _⟩ := hO.nm (wid_lt _ _); cases h8
  refine c_exit ?_; refine zx (zx (b_here rfl (zk ?_))); refine yA ?_; refine mS e5_1 ?_; refine w_tel (fun w => zR Tryz.func129 rfl rfl rfl) rfl rfl (fun w h => made2_ok w (hM w (fun p hp => h.own p (List.mem_append_left _ hp))) (by omega) hend) (fun x3 a3 c3 hK3 hN3 => ?_)
  refine za (v := .slice _ _ _) rfl ?_; refine yB ?_; refine ze ?_; refine zo (v := .slice _ _ _) rfl rfl rfl ?_; exact fun w' hw => ⟨_, _, rfl, (hK3.at_ 0 rfl hw), (hN3 _ (.head _)), hw.fr (w, No) (.tail _ (.head _))⟩
end Go.Proofs.YtikdkendinnalaaGreatDoor
end
section
namespace Go.Proofs.YtikdkendinnalaaGreatDoor
open Go.RowKit Go.Sx
open Go.Num
theorem sz_shl (n h : Nat) : sz (n * 2 ^ h) ≤ (64 * sz n + h + 63) / 64 := by
 by_cases hn : n = 0
 ·subst hn; rw [Nat.zero_mul, sz_zero]; exact Nat.zero_le _
 ·have h1 := bl_mul hn h
  have h2 := bl_sz (Nat.le_refl (sz n))
  have h3 : sz (n * 2 ^ h) = (bl (n * 2 ^ h) + 63) / 64 := rfl
  rw [h3, h1]; omega
theorem div_next32 {z z0 j : Nat} (h : z / b32 ^ j = z0 / b32 ^ j) : dg b32 z j = dg b32 z0 j ∧ z / b32 ^ (j + 1) = z0 / b32 ^ (j + 1) := by
 refine ⟨?_, ?_⟩
 ·unfold dg; rw [h]
 ·rw [Nat.pow_succ, ← Nat.div_div_eq_div_mul, h, Nat.div_div_eq_div_mul]
theorem mul_row {n m i : Nat} {K : Nat} (hm : m < b32 ^ K) : n % b32 ^ i * m < b32 ^ (i + K) := by
 rw [Nat.pow_add]
 rcases Nat.eq_zero_or_pos m with h | h
 ·subst h; rw [Nat.mul_zero]; exact Nat.mul_pos (b32pow_pos i) (b32pow_pos K)
 ·exact Nat.lt_of_lt_of_le (Nat.mul_lt_mul_of_pos_right (Nat.mod_lt _ (b32pow_pos i)) h) (Nat.mul_le_mul_left _ (Nat.le_of_lt hm))
theorem row_end32 {n m i K z c : Nat} (hm : m < b32 ^ K) (h : z % b32 ^ (i + (K + 1)) + b32 ^ (i + (K + 1)) * c = n % b32 ^ i * m % b32 ^ (i + (K + 1)) + dg b32 n i * (m % b32 ^ (K + 1)) * b32 ^ i) (hz : z / b32 ^ (i + (K + 1)) = n % b32 ^ i * m / b32 ^ (i + (K + 1))) :
  z = n % b32 ^ (i + 1) * m := by
 have h0 := mul_row (n := n) (i := i) hm
 have hle : b32 ^ (i + K) ≤ b32 ^ (i + (K + 1)) := Nat.pow_le_pow_right b32_pos (by omega)
 have h0' := Nat.lt_of_lt_of_le h0 hle
 rw [Nat.div_eq_of_lt h0'] at hz
 have hz2 : z < b32 ^ (i + (K + 1)) := by
  rcases Nat.lt_or_ge z (b32 ^ (i + (K + 1))) with h5 | h5
  ·exact h5
  ·have := Nat.div_pos h5 (b32pow_pos (i + (K + 1))); omega
 have hm2 : m < b32 ^ (K + 1) := Nat.lt_of_lt_of_le hm (Nat.pow_le_pow_right b32_pos (by omega))
 rw [Nat.mod_eq_of_lt hz2, Nat.mod_eq_of_lt h0', Nat.mod_eq_of_lt hm2] at h
 have e : n % b32 ^ i * m + dg b32 n i * m * b32 ^ i = n % b32 ^ (i + 1) * m := by
  rw [mod_step, Nat.add_mul, Nat.mul_comm (b32 ^ i), Nat.mul_right_comm (dg b32 n i)]
 rw [e] at h
 have h1 := mul_row (n := n) (i := i + 1) hm
 rw [show i + 1 + K = i + (K + 1) by omega] at h1
 have hc : c = 0 := by
  rcases Nat.eq_zero_or_pos c with h5 | h5
  ·exact h5
  ·have := Nat.le_mul_of_pos_right (b32 ^ (i + (K + 1))) h5; omega
 subst hc
 rw [Nat.mul_zero, Nat.add_zero] at h
 exact h
theorem mul_end {n m k k2 : Nat} (hn : n < Go.Num.B ^ k) (hm : m < Go.Num.B ^ k2) : n * m % b32 ^ (2 * k + 2 * k2 + 1) = n * m := by
 refine Nat.mod_eq_of_lt ?_
 rw [B_b32] at hn hm
 have h0 := mul_row (n := n) (i := 2 * k) hm
 rw [Nat.mod_eq_of_lt hn] at h0
 exact Nat.lt_of_lt_of_le h0 (Nat.pow_le_pow_right b32_pos (by omega))
theorem mul_z0 (n m K : Nat) : wid (n % b32 ^ 0 * m) K = 0 := by
 rw [Nat.pow_zero, Nat.mod_one, Nat.zero_mul]
 exact lmV_inj (k := K) (wid_lt _ _) (Bpow_pos _) fun j hj => by rw [wid_dg hj, dg_zero, dg_zero]
set_option maxRecDepth 100000 in
set_option maxHeartbeats 2000000 in
theorem rMul_ok {a a2 : Option Addr} {k c k2 c2 n m : Nat} (w : World) (hA : Nm w a k c n) (hB : Nm w a2 k2 c2 m) (hs : k ≤ 500000 ∧ k2 ≤ 500000) :
  Ret Tryz.prog 126 #[.slice a k c, .slice a2 k2 c2] w (Tel (fun a c => .slice a (sz (n * m)) c) (sz (n * m)) (n * m) w) := by
 refine enter (S := No) (l := [_, _]) (L := []) 61 Tryz.func126 rfl rfl rfl (St.start w No) ?_; refine yA ?_; refine za (v := .slice _ _ _) rfl ?_; refine yC ?_; refine mS rfl ?_; refine w_r (fun _ => R_len sl42 rfl) rfl rfl ?_; refine w_r (fun _ => R_mulN (n := 2) (b := k) rfl rfl (by omega)) rfl rfl ?_; refine mS rfl ?_; refine w_r (fun _ => R_len sl42 rfl) rfl rfl ?_; refine w_r (fun _ => R_mulN (n := 2) (b := k2) rfl rfl (by omega)) rfl rfl ?_; refine w_r (fun _ => R_addN (n := (2 * k)) (b := (2 * k2)) rfl rfl (by omega)) rfl rfl ?_; refine w_r (fun _ => R_addN (n := ((2 * k) + (2 * k2))) (b := 1) rfl rfl (by omega)) rfl rfl ?_; refine w_makeU (n := (((2 * k) + (2 * k2)) + 1)) slt41 rfl rfl (by omega) (by omega) (fun ob gob uob => ?_)
 refine za (v := .slice _ _ _) rfl ?_; refine yB ?_; refine zq ?_; refine yA ?_; refine aI rfl ?_; refine yB ?_; refine zB ?_; refine c_st (B' := _) (L' := [(ob, cel (lmV (wid (n % b32 ^ 0 * m) (2 * k + 2 * k2 + 1)) (2 * k + 2 * k2 + 1)) 75)]) (fun w h => by rw [mul_z0]; exact h) ?_; refine c_loop (fun m9 e B L => ∃ (i : Nat), e 0 = .slice a k c ∧ e 1 = .slice a2 k2 c2 ∧ e 5 = .slice (some ⟨ob, 0, none⟩) (2 * k + 2 * k2 + 1) (2 * k + 2 * k2 + 1) ∧ e 6 = .int .i64 (i : Nat) ∧ B = [(w, No)] ∧ L = [(ob, cel (lmV (wid (n % b32 ^ i * m) (2 * k + 2 * k2 + 1)) (2 * k + 2 * k2 + 1)) 75)] ∧ i ≤ 2 * k ∧ m9 = 2 * k - i) _ ⟨0, rfl, rfl, rfl, rfl, rfl, rfl, Nat.zero_le _, rfl⟩ ?_
 rintro m9 e B L ⟨i, e0_1, e1_1, e5_1, e6_1, rfl, rfl, hi, rfl⟩
 refine zq ?_; refine yA ?_; refine mI e6_1 ?_; refine mS e0_1 ?_; refine w_r (fun _ => R_len sl42 rfl) rfl rfl ?_; refine w_r (fun _ => R_mulN (n := 2) (b := k) rfl rfl (by omega)) rfl rfl ?_; refine w_r (fun _ => R_ltN (a := i) (b := (2 * k)) rfl rfl) rfl rfl ?_; refine yB ?_; refine zD rfl (fun h1 => ?_) (fun h1 => ?_)
 ·refine zi ?_; refine zk ?_; refine zq ?_; refine zB ?_; refine yA ?_; refine aI rfl ?_; refine yC ?_; refine aI rfl ?_; refine yB ?_; refine zB ?_
  refine c_loop (fun m9 e B L => ∃ (z cy q : Nat), e 0 = .slice a k c ∧ e 1 = .slice a2 k2 c2 ∧ e 5 = .slice (some ⟨ob, 0, none⟩) (2 * k + 2 * k2 + 1) (2 * k + 2 * k2 + 1) ∧ e 6 = .int .i64 (i : Nat) ∧ e 7 = .int .u64 (cy : Nat) ∧ e 8 = .int .i64 (q : Nat) ∧ B = [(w, No)] ∧ L = [(ob, cel (lmV (wid z (2 * k + 2 * k2 + 1)) (2 * k + 2 * k2 + 1)) 75)] ∧ q ≤ 2 * k2 + 1 ∧ z % b32 ^ (i + q) + b32 ^ (i + q) * cy = (n % b32 ^ i * m) % b32 ^ (i + q) + dg b32 n i * (m % b32 ^ q) * b32 ^ i ∧ z / b32 ^ (i + q) = (n % b32 ^ i * m) / b32 ^ (i + q) ∧ cy < b32 ∧ m9 = 2 * k2 + 1 - q) _ ⟨(n % b32 ^ i * m), 0, 0, e0_1, e1_1, e5_1, e6_1, rfl, rfl, rfl, rfl, Nat.zero_le _, by simp [Nat.mod_one], rfl, by decide, rfl⟩ ?_
  rintro m9 e B L ⟨z, cy, q, e0_2, e1_2, e5_2, e6_2, e7_2, e8_2, rfl, rfl, hq, hE, hD, hcy, rfl⟩
  refine zq ?_; refine yA ?_; refine mI e8_2 ?_; refine mS e1_2 ?_; refine w_r (fun _ => R_len sl42 rfl) rfl rfl ?_; refine w_r (fun _ => R_mulN (n := 2) (b := k2) rfl rfl (by omega)) rfl rfl ?_; refine w_r (fun _ => R_addN (n := (2 * k2)) (b := 1) rfl rfl (by omega)) rfl rfl ?_; refine w_r (fun _ => R_ltN (a := q) (b := ((2 * k2) + 1)) rfl rfl) rfl rfl ?_; refine yB ?_; refine zD rfl (fun h2 => ?_) (fun h2 => ?_)
  ·have hdn := div_next32 hD; have hd1 := dg_lt b32_pos n i; have hd2 := dg_lt b32_pos m q; have hd3 := dg_lt b32_pos z (i + q); have hmm : dg b32 n i * dg b32 m q ≤ 4294967295 * 4294967295 := Nat.mul_le_mul (Nat.le_of_lt_succ hd1) (Nat.le_of_lt_succ hd2); have hBv : Go.Num.B = 18446744073709551616 := rfl; have hb9 : b32 = 4294967296 := rfl
   refine zi ?_; refine zk ?_; refine zq ?_; refine zB ?_; refine zq ?_; refine c_heldS mixed ?_; refine zh (v := .slice _ _ _) 0 rfl (by kernel_rfl) rfl rfl (fun w h => h) (fun w h => R_move e5_2) ?_; refine zh (v := .int _ _) 1 rfl (by kernel_rfl) rfl rfl (fun w h => h) (fun w h => R_move e6_2) ?_; refine zh (v := .int _ _) 2 rfl (by kernel_rfl) rfl rfl (fun w h => h) (fun w h => R_move e8_2) ?_; refine zh 3 rfl (by kernel_rfl) rfl rfl (fun w h => h) (fun w h => R_addN (n := i) (b := q) rfl rfl (by omega)) ?_; refine zh 4 rfl (by kernel_rfl) rfl rfl (fun w h => h) (fun w h => R_iaN (i := (i + q)) sl41 rfl rfl (by omega)) ?_; refine zh (v := .int .u64 ((dg Go.Num.B (wid z (2 * k + 2 * k2 + 1)) (i + q)) : Nat)) 5 rfl (by kernel_rfl) rfl rfl (fun w h => h) (fun w h => R_ld1 z75 rfl (cel_lm 0 rfl (by omega) h)) ?_
   rw [wid_dg (n := z) (show i + q < (2 * k + 2 * k2 + 1) by omega)]
   refine zh (v := .slice _ _ _) 6 rfl (by kernel_rfl) rfl rfl (fun w h => h) (fun w h => R_move e0_2) ?_; refine zh (v := .int _ _) 7 rfl (by kernel_rfl) rfl rfl (fun w h => h) (fun w h => R_move e6_2) ?_; refine zh (v := .slice _ _ _) 9 rfl (by kernel_rfl) rfl rfl (fun w h => h) (fun w h => R_move e1_2) ?_; refine zh (v := .int _ _) 10 rfl (by kernel_rfl) rfl rfl (fun w h => h) (fun w h => R_move e8_2) ?_; refine zh (v := .int _ _) 14 rfl (by kernel_rfl) rfl rfl (fun w h => h) (fun w h => R_move e7_2) ?_; refine h_one 8 (by kernel_rfl) (fun w h => h) ?_; refine o_pureW rfl (wn_none rfl) rfl (fun w => zR Tryz.func125 rfl rfl rfl) (fun w h => rdigit_ok w ((Kn.old hA).at_ 0 rfl h) i ⟨by omega, by omega⟩) ?_; refine h_one 11 (by kernel_rfl) (fun w h => h) ?_
   refine o_pureW rfl (wn_none rfl) rfl (fun w => zR Tryz.func125 rfl rfl rfl) (fun w h => rdigit_ok w ((Kn.old hB).at_ 0 rfl h) q ⟨by omega, by omega⟩) ?_; refine zh 12 rfl (by kernel_rfl) rfl rfl (fun w h => h) (fun w h => R_mulU (a := (dg b32 n i)) (b := (dg b32 m q)) rfl rfl (by omega)) ?_; refine zh 13 rfl (by kernel_rfl) rfl rfl (fun w h => h) (fun w h => R_addU (a := (dg b32 z (i + q))) (b := ((dg b32 n i) * (dg b32 m q))) rfl rfl (by omega)) ?_; refine zh 15 rfl (by kernel_rfl) rfl rfl (fun w h => h) (fun w h => R_addU (a := ((dg b32 z (i + q)) + ((dg b32 n i) * (dg b32 m q)))) (b := cy) rfl rfl (by omega)) ?_
   rw [show dg b32 z (i + q) + dg b32 n i * dg b32 m q + cy = (dg b32 n i * dg b32 m q + dg b32 z (i + q) + cy) by omega]
   refine zh (v := .int _ _) 16 rfl (by kernel_rfl) rfl rfl (fun w h => h) (fun w h => R_assign rfl) ?_; refine h_done (by kernel_rfl) (fun w h => h) ?_; refine zk ?_; refine yA ?_; refine mS e5_2 ?_; refine mI e6_2 ?_; refine mI e8_2 ?_; refine w_r (fun _ => R_addN (n := i) (b := q) rfl rfl (by omega)) rfl rfl ?_; refine mI rfl ?_; refine w_r (fun _ => R_remU (a := (dg b32 n i * dg b32 m q + dg b32 z (i + q) + cy)) (b := 4294967296) rfl rfl (by omega)) rfl rfl ?_; refine w_r (fun _ => R_iaN (i := (i + q)) sl41 rfl rfl (by omega)) rfl rfl ?_
   refine w_putU (dv := ((dg b32 n i * dg b32 m q + dg b32 z (i + q) + cy) % 4294967296)) (z' := (wid (setd b32 z (i + q) ((dg b32 n i * dg b32 m q + dg b32 z (i + q) + cy) % b32)) (2 * k + 2 * k2 + 1))) (j := (i + q)) 0 rfl z75 rfl rfl (by exact Nat.lt_trans (Nat.mod_lt _ b32_pos) (by decide)) (by omega) (wid_set (Nat.mod_lt _ b32_pos) (by omega)) ?_; refine yB ?_; refine zr ?_; refine mI rfl ?_; refine w_r (fun _ => R_quoU (a := (dg b32 n i * dg b32 m q + dg b32 z (i + q) + cy)) (b := 4294967296) rfl rfl (by omega) (by omega)) rfl rfl ?_; refine aI rfl ?_; refine zn ?_; refine b_on (zk ?_); refine zr ?_; refine mI e8_2 ?_; refine w_r (fun _ => R_addN (n := q) (b := 1) rfl rfl (by omega)) rfl rfl ?_; refine aI rfl ?_; refine zn ?_
   exact k_again _ (by omega) ⟨(setd b32 z (i + q) ((dg b32 n i * dg b32 m q + dg b32 z (i + q) + cy) % b32)), ((dg b32 n i * dg b32 m q + dg b32 z (i + q) + cy) / b32), q + 1, e0_2, e1_2, e5_2, e6_2, rfl, rfl, rfl, rfl, by omega, mul_step b32_pos hE hdn.1, (setd_div b32_pos (Nat.mod_lt _ b32_pos)).trans hdn.2, mul_digit hd1 hd2 hd3 hcy, rfl⟩
  ·obtain rfl : q = 2 * k2 + 1 := (by omega); obtain rfl := row_end32 (by have := hB.lt; rwa [B_b32] at this) hE hD
   refine c_exit ?_; refine zx (zx (b_here rfl (b_on (zk ?_)))); refine zr ?_; refine mI e6_2 ?_; refine w_r (fun _ => R_addN (n := i) (b := 1) rfl rfl (by omega)) rfl rfl ?_; refine aI rfl ?_; refine zn ?_; exact k_again _ (by omega) ⟨i + 1, e0_2, e1_2, e5_2, rfl, rfl, rfl, by omega, rfl⟩
 ·obtain rfl : i = 2 * k := (by omega); rw [Nat.mod_eq_of_lt (show n < b32 ^ (2 * k) by have := hA.lt; rwa [B_b32] at this)]
  refine c_exit ?_; refine zx (zx (b_here rfl (zk ?_))); refine yA ?_; refine mS e5_1 ?_; refine w_tel (fun w => zR Tryz.func129 rfl rfl rfl) rfl rfl (fun w h => made2_ok w (Nm.own 0 rfl (wid_lt _ _) (Nat.le_refl _) h) (by omega) (mul_end hA.lt hB.lt)) (fun x3 a3 c3 hK3 hN3 => ?_)
  refine za (v := .slice _ _ _) rfl ?_; refine yB ?_; refine ze ?_; refine zo (v := .slice _ _ _) rfl rfl rfl ?_; exact fun w' hw => ⟨_, _, rfl, (hK3.at_ 0 rfl hw), (hN3 _ (.head _)), hw.fr (w, No) (.tail _ (.head _))⟩
set_option maxRecDepth 100000 in
set_option maxHeartbeats 400000 in
theorem rdigits_ok {a : Option Addr} {k c n : Nat} (w : World) (hA : Nm w a k c n) (hk : k ≤ 4000000) :
  Ret Tryz.prog 122 #[.slice a k c] w (fun v w' => v = .int .i64 ((bl n + 31) / 32 : Nat) ∧ Ext w w') := by
 have hbc := bl_cap hA.lt
 refine enter (S := No) (l := [_]) (L := []) 7 Tryz.func122 rfl rfl rfl (St.start w No) ?_; refine yA ?_; refine aI rfl ?_; refine yC ?_; refine mS rfl ?_; refine zC (fun w => zR Tryz.func76 rfl rfl rfl) rfl rfl (fun w h => rBits_ok w ((Kn.old hA).at_ 0 rfl h) (by omega)) ?_; refine w_r (fun _ => R_addN (n := (bl n)) (b := 31) rfl rfl (by omega)) rfl rfl ?_; refine w_r (fun _ => R_quoN (a := ((bl n) + 31)) (b := 32) rfl rfl (by omega) (by omega)) rfl rfl ?_; refine aI rfl ?_; refine yB ?_; refine ze ?_; refine zo (v := .int _ _) rfl rfl rfl ?_; exact fun w' hw => ⟨rfl, hw.fr (w, No) (.head _)⟩
theorem digs_lt (n : Nat) : n < b32 ^ ((bl n + 31) / 32) := by
 rw [b32_pow]
 exact Nat.lt_of_lt_of_le (lt_bl n) (Nat.pow_le_pow_right (by decide) (by omega))
theorem digs_ge {n : Nat} (h : n ≠ 0) : b32 ^ ((bl n + 31) / 32 - 1) ≤ n ∧ 0 < (bl n + 31) / 32 := by
 have h1 := bl_pos h
 refine ⟨?_, by omega⟩
 rw [b32_pow]
 exact Nat.le_trans (Nat.pow_le_pow_right (by decide) (by omega)) (bl_ge h)
theorem digs_sz (n : Nat) : (bl n + 31) / 32 ≤ 2 * sz n := by unfold sz; omega
/-- the rest above place j, the quotient's digits from place j on -/
def rj (X Y j : Nat) : Nat := X / b32 ^ j % Y
def qz (X Y j : Nat) : Nat := X / Y / b32 ^ j * b32 ^ j
def sh32 (R : Nat) : Nat := R * 2 ^ 32
def uj (X Y i : Nat) : Nat := sh32 (rj X Y (i + 1)) + dg b32 X i
theorem sh32_sz (R : Nat) : sz (sh32 R) ≤ (64 * sz R + 32 + 63) / 64 := sz_shl R 32
theorem lt_B {g : Nat} (h : g < b32) : g < Go.Num.B := Nat.lt_trans h (by decide)
theorem dg_B (n i : Nat) : dg b32 n i < Go.Num.B := lt_B (dg_lt b32_pos n i)
theorem min_b (x : Nat) : min x 4294967295 < b32 := Nat.lt_of_le_of_lt (Nat.min_le_right _ _) (by decide)
theorem min_B (x : Nat) : min x 4294967295 < Go.Num.B := lt_B (min_b x)
theorem rj0 (X Y : Nat) : rj X Y 0 = X % Y := by unfold rj; rw [Nat.pow_zero, Nat.div_one]
theorem qz0 (X Y : Nat) : qz X Y 0 = X / Y := by unfold qz; rw [Nat.pow_zero, Nat.div_one, Nat.mul_one]
theorem rj_lt (X : Nat) {Y : Nat} (h : 0 < Y) (j : Nat) : rj X Y j < Y := Nat.mod_lt _ h
section
variable {X Y mm nn : Nat}
theorem rdiv_r0 (hX : X < b32 ^ mm) (hY : b32 ^ (nn - 1) ≤ Y) (h0 : 0 < nn) (hn : nn ≤ mm) : X / 2 ^ (32 * (mm - nn + 1)) = rj X Y (mm - nn + 1) := by
 unfold rj
 rw [← b32_pow, Nat.mod_eq_of_lt]
 rw [Nat.div_lt_iff_lt_mul (b32pow_pos _)]
 refine Nat.lt_of_lt_of_le hX ?_
 have h1 : b32 ^ mm = b32 ^ (nn - 1) * b32 ^ (mm - nn + 1) := by rw [← Nat.pow_add]; congr 1; omega
 rw [h1]
 exact Nat.mul_le_mul_right _ hY
theorem rdiv_q (hX : X < b32 ^ mm) (hY : b32 ^ (nn - 1) ≤ Y) (h0 : 0 < nn) (hn : nn ≤ mm) : X / Y < b32 ^ (mm - nn + 1) := by
 have hp : 0 < Y := Nat.lt_of_lt_of_le (b32pow_pos _) hY
 rw [Nat.div_lt_iff_lt_mul hp]
 refine Nat.lt_of_lt_of_le hX ?_
 have h1 : b32 ^ mm = b32 ^ (mm - nn + 1) * b32 ^ (nn - 1) := by rw [← Nat.pow_add]; congr 1; omega
 rw [h1]
 exact Nat.mul_le_mul_left _ hY
theorem rdiv_z0 (hX : X < b32 ^ mm) (hY : b32 ^ (nn - 1) ≤ Y) (h0 : 0 < nn) (hn : nn ≤ mm) : wid (qz X Y (mm - nn + 1)) (mm - nn + 1) = 0 := by
 unfold qz
 rw [Nat.div_eq_of_lt (rdiv_q hX hY h0 hn), Nat.zero_mul]
 exact lmV_inj (wid_lt _ _) (Bpow_pos _) fun j hj => by rw [wid_dg hj, dg_zero, dg_zero]
/-- a digit of the quotient -/
theorem rdiv_dig (hY : b32 ^ (nn - 1) ≤ Y) (hY2 : Y < b32 ^ nn) (h0 : 0 < nn) (i : Nat) {U : Nat} (hU : U = rj X Y (i + 1) * 2 ^ 32 + dg b32 X i) : U / Y ≤ min ((dg b32 U nn * 4294967296 + dg b32 U (nn - 1)) / dg b32 Y (nn - 1)) 4294967295 ∧ dg b32 Y (nn - 1) ≠ 0 ∧ dg b32 (X / Y) i = U / Y ∧ U % Y = rj X Y i ∧ U < b32 ^ (nn + 1) := by
 unfold rj at hU ⊢
 have hp : 0 < Y := Nat.lt_of_lt_of_le (b32pow_pos _) hY
 rw [← b32_two] at hU
 have hs := small_digit b32_pos hp X i
 have hst : X / b32 ^ i % Y = (X / b32 ^ (i + 1) % Y * b32 + dg b32 X i) % Y := (small_step b32_pos hp X i).2
 rw [← hU] at hs hst
 have hUl : U < b32 ^ (nn + 1) := by
  have h1 := Nat.mod_lt (X / b32 ^ (i + 1)) hp
  have h2 := dg_lt b32_pos X i
  rw [Nat.pow_succ]
  have h3 : (X / b32 ^ (i + 1) % Y + 1) * b32 ≤ Y * b32 := Nat.mul_le_mul_right _ h1
  have h4 : Y * b32 ≤ b32 ^ nn * b32 := Nat.mul_le_mul_right _ (Nat.le_of_lt hY2)
  rw [Nat.add_mul, Nat.one_mul] at h3
  omega
 have ht1 := top_one h0 hY2
 have htp : 0 < dg b32 Y (nn - 1) := by rw [← ht1]; exact Nat.div_pos hY (b32pow_pos _)
 have ht2 := top_two (b := b32) (i := nn) h0 hUl
 have hg := guess_ge (u := U) (v := Y) (q := U / Y) (p := b32 ^ (nn - 1)) (b32pow_pos _) (by rw [ht1]; exact htp) (Nat.div_mul_le_self _ _)
 rw [ht1, ht2] at hg
 refine ⟨Nat.le_min.2 ⟨hg, Nat.le_of_lt_succ hs.1⟩, by omega, hs.2, hst.symm, hUl⟩
theorem rdiv_put (X Y : Nat) {i K : Nat} (hi : i < K) : setd Go.Num.B (wid (qz X Y (i + 1)) K) i (dg b32 (X / Y) i) = wid (qz X Y i) K := by
 unfold qz
 generalize X / Y = Q
 rw [wid_set (dg_lt b32_pos _ _) hi]
 congr 1
 have h0 := high_dg (b := b32) b32_pos Q i
 have h1 := setd_add (b := b32) (n := Q / b32 ^ (i + 1) * b32 ^ (i + 1)) (j := i) (y := dg b32 Q i)
 rw [h0, Nat.zero_add] at h1
 rw [h1, ← high_step]
theorem rdiv_small {n m s : Nat} (h : (bl (n * 2 ^ s) + 31) / 32 < (bl (m * 2 ^ s) + 31) / 32) : n / m = 0 ∧ n % m = n := by
 have hm : m * 2 ^ s ≠ 0 := fun h0 => by rw [h0] at h; exact absurd h (by rw [show (bl 0 + 31) / 32 = 0 from rfl]; exact Nat.not_lt_zero _)
 have h1 := digs_lt (n * 2 ^ s)
 have h2 := (digs_ge hm).1
 have h3 : n * 2 ^ s < m * 2 ^ s := Nat.lt_of_lt_of_le h1 (Nat.le_trans (Nat.pow_le_pow_right b32_pos (by omega)) h2)
 have h4 : n < m := Nat.lt_of_mul_lt_mul_right h3
 exact ⟨Nat.div_eq_of_lt h4, Nat.mod_eq_of_lt h4⟩
end
theorem u_sz {R Y d : Nat} (h : R ≤ Y) (hd : d < b32) : sz (R * 2 ^ 32 + d) ≤ sz Y + 1 := by
 refine sz_iff.2 ?_
 have h1 : R < Go.Num.B ^ sz Y := Nat.lt_of_le_of_lt h (lt_sz Y)
 have h0 : Go.Num.B ^ (sz Y + 1) = Go.Num.B ^ sz Y * Go.Num.B := Nat.pow_succ _ _
 have h2 : (R + 1) * 2 ^ 32 ≤ Go.Num.B ^ sz Y * 2 ^ 32 := Nat.mul_le_mul_right _ h1
 have h3 : Go.Num.B ^ sz Y * 2 ^ 32 ≤ Go.Num.B ^ sz Y * Go.Num.B := Nat.mul_le_mul_left _ (by decide)
 have hb9 : b32 = 2 ^ 32 := b32_two
 rw [hb9] at hd
 rw [Nat.add_mul, Nat.one_mul] at h2
 omega
theorem rShl32_ok {a : Option Addr} {k c n : Nat} (w : World) (hA : Nm w a k c n) (hs : k ≤ 1000000) : Ret Tryz.prog 121 #[.slice a k c, .int .i64 32] w (Tel (fun a c => .slice a (sz (sh32 n)) c) (sz (sh32 n)) (sh32 n) w) := rShl_ok w hA 32 ⟨hs, by decide⟩
theorem rAddU_ok {a a2 : Option Addr} {k c k2 c2 X Y i : Nat} (w : World) (hA : Nm w a k c (sh32 (rj X Y (i + 1)))) (hB : Nm w a2 k2 c2 (dg b32 X i)) (hs : k ≤ 1000000 ∧ k2 ≤ 1000000) : Ret Tryz.prog 124 #[.slice a k c, .slice a2 k2 c2] w (Tel (fun a c => .slice a (sz (uj X Y i)) c) (sz (uj X Y i)) (uj X Y i) w) := rAdd_ok w hA hB hs
theorem cmpN_gt0 {n m : Nat} (h : (0 : Int) < cmpN n m) : m < n := by
 unfold cmpN at h
 split at h
 ·exact absurd h (by decide)
 ·split at h
  ·assumption
  ·exact absurd h (by decide)
theorem cmpN_le0 {n m : Nat} (h : ¬ (0 : Int) < cmpN n m) : n ≤ m := by
 rcases Nat.lt_or_ge m n with h1 | h1
 ·rw [cmpN_gt h1] at h; exact absurd (by decide) h
 ·exact h1
set_option maxRecDepth 100000 in
set_option maxHeartbeats 4000000 in
theorem rDiv_ok {a a2 : Option Addr} {k c k2 c2 n m : Nat} (w : World) (hA : Nm w a k c n) (hB : Nm w a2 k2 c2 m) (hs : k ≤ 10000 ∧ k2 ≤ 10000 ∧ m ≠ 0) :
  Ret Tryz.prog 78 #[.slice a k c, .slice a2 k2 c2] w (Tel2 (fun a c a2 c2 => .tuple #[.slice a (sz (n / m)) c, .slice a2 (sz (n % m)) c2]) (sz (n / m)) (n / m) (sz (n % m)) (n % m) w) := by
 have hzn : sz n ≤ k := sz_iff.2 hA.lt; have hzm : sz m ≤ k2 := sz_iff.2 hB.lt; have hx9 := sz_shl n ((32 - bl m % 32) % 32); have hy9 := sz_shl m ((32 - bl m % 32) % 32); have hdx := digs_sz (n * 2 ^ ((32 - bl m % 32) % 32)); have hdy := digs_sz (m * 2 ^ ((32 - bl m % 32) % 32))
 have hm9 : m * 2 ^ ((32 - bl m % 32) % 32) ≠ 0 := Nat.mul_ne_zero hs.2.2 (Nat.pos_iff_ne_zero.1 (Nat.pow_pos (by decide)))
 refine enter (S := No) (l := [_, _]) (L := []) 106 Tryz.func78 rfl rfl rfl (St.start w No) ?_; refine yA ?_; refine za (v := .slice _ _ _) rfl ?_; refine za (v := .slice _ _ _) rfl ?_; refine yC ?_; refine mS rfl ?_; refine zC (fun w => zR Tryz.func76 rfl rfl rfl) rfl rfl (fun w h => rBits_ok w ((Kn.old hB).at_ 0 rfl h) (by omega)) ?_; refine w_r (fun _ => R_remU (a := (bl m)) (b := 32) rfl rfl (by omega)) rfl rfl ?_; refine w_r (fun _ => R_subN (n := 32) (b := ((bl m) % 32)) rfl rfl (by omega) (by omega)) rfl rfl ?_; refine w_r (fun _ => R_remU (a := (32 - ((bl m) % 32))) (b := 32) rfl rfl (by omega)) rfl rfl ?_; refine aI rfl ?_; refine yB ?_
 refine yA ?_; refine mS rfl ?_; refine mI rfl ?_; refine w_tel (fun w => zR Tryz.func121 rfl rfl rfl) rfl rfl (fun w h => rShl_ok w ((Kn.old hA).at_ 0 rfl h) ((32 - ((bl m) % 32)) % 32) ⟨by omega, by omega⟩) (fun xX aX cX hKX hNX => ?_)
 refine mS rfl ?_; refine mI rfl ?_; refine w_tel (fun w => zR Tryz.func121 rfl rfl rfl) rfl rfl (fun w h => rShl_ok w ((Kn.old hB).at_ 1 rfl h) ((32 - ((bl m) % 32)) % 32) ⟨by omega, by omega⟩) (fun xY aY cY hKY hNY => ?_)
 refine za (v := .slice _ _ _) rfl ?_; refine za (v := .slice _ _ _) rfl ?_; refine yC ?_; refine mS rfl ?_; refine zC (fun w => zR Tryz.func122 rfl rfl rfl) rfl rfl (fun w h => rdigits_ok w (hKX.at_ 1 rfl h) (by omega)) ?_; refine mS rfl ?_; refine zC (fun w => zR Tryz.func122 rfl rfl rfl) rfl rfl (fun w h => rdigits_ok w (hKY.at_ 0 rfl h) (by omega)) ?_; refine aI rfl ?_; refine aI rfl ?_; refine yB ?_
 refine c_cut (fun e B L => ∃ (s mm nn X Y : Nat), e 6 = .int .i64 (s : Nat) ∧ e 7 = .slice aX (sz X) cX ∧ e 8 = .slice aY (sz Y) cY ∧ e 9 = .int .i64 (mm : Nat) ∧ e 10 = .int .i64 (nn : Nat) ∧ B = [xY, xX, (w, No)] ∧ L = [] ∧ s < 32 ∧ X = n * 2 ^ s ∧ Y = m * 2 ^ s ∧ X < b32 ^ mm ∧ b32 ^ (nn - 1) ≤ Y ∧ Y < b32 ^ nn ∧ 0 < nn ∧ nn ≤ mm ∧ Kn xX aX (sz X) cX X ∧ Kn xY aY (sz Y) cY Y ∧ sz X ≤ 10010 ∧ sz Y ≤ 10010 ∧ mm ≤ 20020) ?_ ?_
 ·refine yA ?_; refine mI rfl ?_; refine w_r (fun _ => R_eqN (a := ((bl (m * 2 ^ ((32 - ((bl m) % 32)) % 32)) + 31) / 32)) (b := 0) rfl rfl) rfl rfl ?_; refine mB rfl ?_; refine zd (t := 33) rfl (fun h3 => ?_) (fun h3 => ?_)
  ·exact absurd h3 (Nat.pos_iff_ne_zero.1 (digs_ge hm9).2)
  ·refine zw rfl rfl (bF h3) ?_; refine mI rfl ?_; refine zw rfl rfl (bF h3) ?_; refine mI rfl ?_; refine zw rfl rfl (bF h3) ?_; refine w_r (fun _ => R_ltN (a := ((bl (n * 2 ^ ((32 - ((bl m) % 32)) % 32)) + 31) / 32)) (b := ((bl (m * 2 ^ ((32 - ((bl m) % 32)) % 32)) + 31) / 32)) rfl rfl) rfl rfl ?_; refine w_r (v := .bool _) (fun _ => zF (bF h3) rfl) rfl rfl ?_; refine yB ?_; refine zD rfl (fun h4 => ?_) (fun h4 => ?_)
   ·have hsm := rdiv_small h4
    refine yA ?_; refine mS rfl ?_; refine w_tel (fun w => zR Tryz.func80 rfl rfl rfl) rfl rfl (fun w h => rNorm_ok w ((Kn.old hA).at_ 2 rfl h) (by omega)) (fun x5 a5 c5 hK5 hN5 => ?_)
    refine za (v := .slice _ _ _) rfl ?_; refine za (v := .slice _ _ _) rfl ?_; refine yB ?_; refine ze ?_; refine zt (?_)
    rw [hsm.1, hsm.2]
    refine r_two (v := .slice _ _ _) (v2 := .slice _ _ _) rfl rfl rfl rfl rfl ?_; exact fun w' hw => ⟨_, _, _, _, rfl, Nm.nil _, (hK5.at_ 0 rfl hw), Fsh.nil _ _, (hN5 _ (.tail _ (.tail _ (.head _)))), hw.fr (w, No) (.tail _ (.tail _ (.tail _ (.head _))))⟩
   ·refine zi ?_; exact k_mid ⟨((32 - bl m % 32) % 32), ((bl (n * 2 ^ ((32 - bl m % 32) % 32)) + 31) / 32), ((bl (m * 2 ^ ((32 - bl m % 32) % 32)) + 31) / 32), _, _, rfl, rfl, rfl, rfl, rfl, rfl, rfl, by omega, rfl, rfl, digs_lt _, (digs_ge hm9).1, digs_lt _, (digs_ge hm9).2, by omega, hKX, hKY, by omega, by omega, by omega⟩
 rintro e B L ⟨s, mm, nn, X, Y, e6_1, e7_1, e8_1, e9_1, e10_1, rfl, rfl, hs32, hXe, hYe, hXl, hYg, hYl, hn0, hnm, hKX9, hKY9, hXs, hYs, hms⟩
 have hY0 : 0 < Y := Nat.lt_of_lt_of_le (b32pow_pos _) hYg
 refine yA ?_; refine mI e9_1 ?_; refine mI e10_1 ?_; refine w_r (fun _ => R_subN (n := mm) (b := nn) rfl rfl (by omega) (by omega)) rfl rfl ?_; refine w_r (fun _ => R_addN (n := (mm - nn)) (b := 1) rfl rfl (by omega)) rfl rfl ?_; refine w_makeU (n := ((mm - nn) + 1)) slt41 rfl rfl (by omega) (by omega) (fun ob gob uob => ?_)
 refine za (v := .slice _ _ _) rfl ?_; refine yC ?_; refine mS e7_1 ?_; refine mI e9_1 ?_; refine mI e10_1 ?_; refine w_r (fun _ => R_subN (n := mm) (b := nn) rfl rfl (by omega) (by omega)) rfl rfl ?_; refine w_r (fun _ => R_addN (n := (mm - nn)) (b := 1) rfl rfl (by omega)) rfl rfl ?_; refine w_r (fun _ => R_mulN (n := 32) (b := ((mm - nn) + 1)) rfl rfl (by omega)) rfl rfl ?_; refine w_tel (fun w => zR Tryz.func123 rfl rfl rfl) rfl rfl (fun w h => (by have := rShr_ok w (hKX9.at_ 1 rfl h) (32 * (mm - nn + 1)) ⟨by omega, by omega⟩; rwa [rdiv_r0 hXl hYg hn0 hnm] at this)) (fun xr0 ar0 cr0 hKr0 hNr0 => ?_)
 refine za (v := .slice _ _ _) rfl ?_; refine yB ?_; refine zq ?_; refine yA ?_; refine mI e9_1 ?_; refine mI e10_1 ?_; refine w_r (fun _ => R_subN (n := mm) (b := nn) rfl rfl (by omega) (by omega)) rfl rfl ?_; refine aI rfl ?_; refine yB ?_; refine zB ?_; refine c_st (B' := _) (L' := [(ob, cel (lmV (wid (qz X Y (mm - nn + 1)) (mm - nn + 1)) (mm - nn + 1)) 75)]) (fun w h => by rw [rdiv_z0 hXl hYg hn0 hnm]; exact h) ?_
 refine c_loop (fun m9 e B L => ∃ (j : Nat) (xr : BaseW) (ar : Option Addr) (cr : Nat), e 6 = .int .i64 (s : Nat) ∧ e 7 = .slice aX (sz X) cX ∧ e 8 = .slice aY (sz Y) cY ∧ e 9 = .int .i64 (mm : Nat) ∧ e 10 = .int .i64 (nn : Nat) ∧ e 11 = .slice (some ⟨ob, 0, none⟩) (mm - nn + 1) (mm - nn + 1) ∧ e 12 = .slice ar (sz (rj X Y j)) cr ∧ e 13 = .int .i64 ((j : Nat) - 1 : Int) ∧ B = [xr, xY, xX, (w, No)] ∧ L = [(ob, cel (lmV (wid (qz X Y j) (mm - nn + 1)) (mm - nn + 1)) 75)] ∧ j ≤ (mm - nn + 1) ∧ Kn xr ar (sz (rj X Y j)) cr (rj X Y j) ∧ m9 = j + 1) _ ⟨(mm - nn + 1), xr0, ar0, cr0, e6_1, e7_1, e8_1, e9_1, e10_1, rfl, rfl, (congrArg (fun z : Int => Value.int .i64 z) (by omega)), rfl, rfl, Nat.le_refl _, hKr0, rfl⟩ ?_
 rintro m9 e B L ⟨j, xr, ar, cr, e6_2, e7_2, e8_2, e9_2, e10_2, e11_2, e12_2, e13_2, rfl, rfl, hj, hKr, rfl⟩
 refine zq ?_; refine yA ?_; refine mI e13_2 ?_; refine w_r (fun _ => R_ge rfl rfl) rfl rfl ?_; refine yB ?_; refine zD rfl (fun h7 => ?_) (fun h7 => ?_)
 ·obtain ⟨i, rfl⟩ : ∃ i, j = i + 1 := ⟨j - 1, by omega⟩; obtain ⟨hg0, hg1, hg2, hg3, -⟩ := rdiv_dig (X := X) hYg hYl hn0 i (U := (uj X Y i)) rfl; have hRl := rj_lt X hY0 (i + 1); have hUs : sz (uj X Y i) ≤ sz Y + 1 := u_sz (R := (rj X Y (i + 1))) (d := dg b32 X i) (Nat.le_of_lt hRl) (dg_lt b32_pos _ _); have hRs := sz_mono (Nat.le_of_lt hRl); have hRs2 := sh32_sz (rj X Y (i + 1)); have hd9 := dg_lt b32_pos X i; have hBv : Go.Num.B = 18446744073709551616 := rfl; have hb9 : b32 = 4294967296 := rfl; have hdU := dg_lt b32_pos (uj X Y i) nn; have hdU2 := dg_lt b32_pos (uj X Y i) (nn - 1)
  refine zi ?_; refine zk ?_; refine zq ?_; refine zB ?_; refine yA ?_; refine mS e12_2 ?_; refine w_tel (fun w => zR Tryz.func121 rfl rfl rfl) rfl rfl (fun w h => rShl32_ok w (hKr.at_ 0 rfl h) (by omega)) (fun xl al cl hKl hNl => ?_)
  refine mS e7_2 ?_; refine mI (e13_2.trans (congrArg (Value.int .i64) (show (((i + 1 : Nat) : Int) - 1) = (i : Nat) by omega))) ?_; refine zC (fun w => zR Tryz.func125 rfl rfl rfl) rfl rfl (fun w h => rdigit_ok w (hKX9.at_ 3 rfl h) i ⟨by omega, by omega⟩) ?_; refine zS slt42 (by decide) rfl rfl (fun b9 gb9 ub9 => ?_)
  refine w_tel (fun w => zR Tryz.func124 rfl rfl rfl) rfl rfl (fun w h => rAddU_ok w (hKl.at_ 0 rfl h) (Nm.one (h.at_ 0 rfl) (dg_B _ _)) ⟨by omega, by omega⟩) (fun xu au cu hKu hNu => ?_)
  refine za (v := .slice _ _ _) rfl ?_; refine yC ?_; refine mS rfl ?_; refine mI e10_2 ?_; refine zC (fun w => zR Tryz.func125 rfl rfl rfl) rfl rfl (fun w h => rdigit_ok w (hKu.at_ 0 rfl h) nn ⟨by omega, by omega⟩) ?_; refine w_r (fun _ => R_mulU (a := (dg b32 (uj X Y i) nn)) (b := 4294967296) rfl rfl (by omega)) rfl rfl ?_; refine mS rfl ?_; refine mI e10_2 ?_; refine w_r (fun _ => R_subN (n := nn) (b := 1) rfl rfl (by omega) (by omega)) rfl rfl ?_; refine zC (fun w => zR Tryz.func125 rfl rfl rfl) rfl rfl (fun w h => rdigit_ok w (hKu.at_ 0 rfl h) (nn - 1) ⟨by omega, by omega⟩) ?_; refine w_r (fun _ => R_addU (a := ((dg b32 (uj X Y i) nn) * 4294967296)) (b := (dg b32 (uj X Y i) (nn - 1))) rfl rfl (by omega)) rfl rfl ?_
  refine mS e8_2 ?_; refine mI e10_2 ?_; refine w_r (fun _ => R_subN (n := nn) (b := 1) rfl rfl (by omega) (by omega)) rfl rfl ?_; refine zC (fun w => zR Tryz.func125 rfl rfl rfl) rfl rfl (fun w h => rdigit_ok w (hKY9.at_ 3 rfl h) (nn - 1) ⟨by omega, by omega⟩) ?_; refine w_r (fun _ => R_quoU (a := (((dg b32 (uj X Y i) nn) * 4294967296) + (dg b32 (uj X Y i) (nn - 1)))) (b := (dg b32 Y (nn - 1))) rfl rfl (by omega) (by omega)) rfl rfl ?_; refine w_r (fun _ => R_minN (a := ((((dg b32 (uj X Y i) nn) * 4294967296) + (dg b32 (uj X Y i) (nn - 1))) / (dg b32 Y (nn - 1)))) (b := 4294967295) rfl rfl) rfl rfl ?_; refine aI rfl ?_; refine yC ?_; refine mS e8_2 ?_; refine mI rfl ?_
  refine zS slt42 (by decide) rfl rfl (fun b11 gb11 ub11 => ?_)
  refine w_tel (fun w => zR Tryz.func126 rfl rfl rfl) rfl rfl (fun w h => rMul_ok w (hKY9.at_ 3 rfl h) (Nm.one (h.at_ 0 rfl) (min_B _)) ⟨by omega, by omega⟩) (fun xp0 ap0 cp0 hKp0 hNp0 => ?_)
  refine za (v := .slice _ _ _) rfl ?_; refine yB ?_; refine zq ?_; refine zB ?_; refine c_st (B' := [xp0, xu, xY, xX, (w, No)]) (L' := [(ob, cel (lmV (wid (qz X Y (i + 1)) (mm - nn + 1)) (mm - nn + 1)) 75)]) (fun w h => (h.pick [2] (by decide)).unbase (fun x hx => by rcases List.mem_cons.1 hx with rfl | hx; (exact (.head _)); rcases List.mem_cons.1 hx with rfl | hx; (exact (.tail _ (.head _))); rcases List.mem_cons.1 hx with rfl | hx; (exact (.tail _ (.tail _ (.tail _ (.tail _ (.head _)))))); rcases List.mem_cons.1 hx with rfl | hx; (exact (.tail _ (.tail _ (.tail _ (.tail _ (.tail _ (.head _))))))); rcases List.mem_cons.1 hx with rfl | hx; (exact (.tail _ (.tail _ (.tail _ (.tail _ (.tail _ (.tail _ (.head _)))))))); exact absurd hx (by simp))) ?_
  refine c_loop (fun m9 e B L => ∃ (g : Nat) (xp : BaseW) (ap : Option Addr) (cp : Nat), e 6 = .int .i64 (s : Nat) ∧ e 7 = .slice aX (sz X) cX ∧ e 8 = .slice aY (sz Y) cY ∧ e 9 = .int .i64 (mm : Nat) ∧ e 10 = .int .i64 (nn : Nat) ∧ e 11 = .slice (some ⟨ob, 0, none⟩) (mm - nn + 1) (mm - nn + 1) ∧ e 12 = .slice au (sz (uj X Y i)) cu ∧ e 13 = .int .i64 (i : Nat) ∧ e 14 = .int .u64 (g : Nat) ∧ e 15 = .slice ap (sz (Y * g)) cp ∧ B = [xp, xu, xY, xX, (w, No)] ∧ L = [(ob, cel (lmV (wid (qz X Y (i + 1)) (mm - nn + 1)) (mm - nn + 1)) 75)] ∧ Kn xp ap (sz (Y * g)) cp (Y * g) ∧ (uj X Y i) / Y ≤ g ∧ g < b32 ∧ m9 = g + 1) _ ⟨(min ((dg b32 (uj X Y i) nn * 4294967296 + dg b32 (uj X Y i) (nn - 1)) / dg b32 Y (nn - 1)) 4294967295), xp0, ap0, cp0, e6_2, e7_2, e8_2, e9_2, e10_2, e11_2, rfl, (e13_2.trans (congrArg (Value.int .i64) (show (((i + 1 : Nat) : Int) - 1) = (i : Nat) by omega))), rfl, rfl, rfl, rfl, hKp0, hg0, min_b _, rfl⟩ ?_
  rintro m9 e B L ⟨g, xp, ap, cp, e6_3, e7_3, e8_3, e9_3, e10_3, e11_3, e12_3, e13_3, e14_3, e15_3, rfl, rfl, hKp, hq, hg9, rfl⟩
  have hYg9 := times_lt (V := Y) (lt_B hg9)
  refine zq ?_; refine yA ?_; refine mS e15_3 ?_; refine mS e12_3 ?_; refine zC (fun w => zR Tryz.func127 rfl rfl rfl) rfl rfl (fun w h => rCmp_ok w (hKp.at_ 0 rfl h) (hKu.at_ 1 rfl h) ⟨by omega, by omega⟩) ?_; refine w_r (fun _ => R_gt rfl rfl) rfl rfl ?_; refine yB ?_; refine zD rfl (fun h13 => ?_) (fun h13 => ?_)
  ·have hgt := cmpN_gt0 h13; have hgq : (uj X Y i) / Y < g := (Nat.div_lt_iff_lt_mul hY0).2 (by rw [Nat.mul_comm]; exact hgt); have hle9 : Y ≤ Y * g := Nat.le_mul_of_pos_right _ (by omega)
   refine zi ?_; refine zk ?_; refine zB ?_; refine yA ?_; refine mS e15_3 ?_; refine mS e8_3 ?_; refine w_tel (fun w => zR Tryz.func128 rfl rfl rfl) rfl rfl (fun w h => (by have := rSub_ok w (hKp.at_ 0 rfl h) (hKY9.at_ 2 rfl h) ⟨by omega, by omega⟩ hle9; rwa [← Nat.mul_sub_one] at this)) (fun xv av cv hKv hNv => ?_)
   refine za (v := .slice _ _ _) rfl ?_; refine yB ?_; refine zr ?_; refine mI e14_3 ?_; refine w_r (fun _ => R_subU (a := g) (b := 1) rfl rfl (by omega) (by omega)) rfl rfl ?_; refine aI rfl ?_; refine zn ?_; refine b_on (?_)
   refine k_st (B' := [xv, xu, xY, xX, (w, No)]) (L' := [(ob, cel (lmV (wid (qz X Y (i + 1)) (mm - nn + 1)) (mm - nn + 1)) 75)]) (fun w h => (h.pick [0] (by decide)).unbase (fun x hx => by rcases List.mem_cons.1 hx with rfl | hx; (exact (.head _)); rcases List.mem_cons.1 hx with rfl | hx; (exact (.tail _ (.tail _ (.head _)))); rcases List.mem_cons.1 hx with rfl | hx; (exact (.tail _ (.tail _ (.tail _ (.head _))))); rcases List.mem_cons.1 hx with rfl | hx; (exact (.tail _ (.tail _ (.tail _ (.tail _ (.head _)))))); rcases List.mem_cons.1 hx with rfl | hx; (exact (.tail _ (.tail _ (.tail _ (.tail _ (.tail _ (.head _))))))); exact absurd hx (by simp))) ?_; exact k_again _ (by omega) ⟨(g - 1), xv, av, cv, e6_3, e7_3, e8_3, e9_3, e10_3, e11_3, e12_3, e13_3, rfl, rfl, rfl, rfl, hKv, by omega, by omega, rfl⟩
  ·have hle8 := cmpN_le0 h13; have hgq := digit_eq hY0 hq (by rw [Nat.mul_comm]; exact hle8); have hrest : (uj X Y i) - Y * g = (rj X Y i) := (by rw [← hg3]; have := Nat.div_add_mod ((uj X Y i)) (Y); rw [← hgq] at this; omega)
   refine c_exit ?_; refine zx (zx (b_here rfl (zk ?_))); refine yA ?_; refine mS e12_3 ?_; refine mS e15_3 ?_; refine w_tel (fun w => zR Tryz.func128 rfl rfl rfl) rfl rfl (fun w h => (by have := rSub_ok w (hKu.at_ 1 rfl h) (hKp.at_ 0 rfl h) ⟨by omega, by omega⟩ hle8; rwa [hrest] at this)) (fun xq9 aq9 cq9 hKq9 hNq9 => ?_)
   refine za (v := .slice _ _ _) rfl ?_; refine yB ?_; refine zr ?_; refine mS e11_3 ?_; refine mI e13_3 ?_; refine mI e14_3 ?_; refine w_r (fun _ => R_iaN (i := i) sl41 rfl rfl (by omega)) rfl rfl ?_; refine w_putU (dv := g) (z' := (wid (qz X Y i) (mm - nn + 1))) (j := i) 0 rfl z75 rfl rfl (by exact lt_B hg9) (by omega) (by rw [hgq, ← hg2]; exact rdiv_put _ _ (by omega)) ?_; refine zn ?_; refine b_on (zk ?_); refine zr ?_; refine mI e13_3 ?_; refine w_r (fun _ => R_subi rfl rfl (by omega)) rfl rfl ?_; refine aI rfl ?_; refine zn ?_
   refine k_st (B' := [xq9, xY, xX, (w, No)]) (L' := [(ob, cel (lmV (wid (qz X Y i) (mm - nn + 1)) (mm - nn + 1)) 75)]) (fun w h => (h.pick [0] (by decide)).unbase (fun x hx => by rcases List.mem_cons.1 hx with rfl | hx; (exact (.head _)); rcases List.mem_cons.1 hx with rfl | hx; (exact (.tail _ (.tail _ (.tail _ (.head _))))); rcases List.mem_cons.1 hx with rfl | hx; (exact (.tail _ (.tail _ (.tail _ (.tail _ (.head _)))))); rcases List.mem_cons.1 hx with rfl | hx; (exact (.tail _ (.tail _ (.tail _ (.tail _ (.tail _ (.head _))))))); exact absurd hx (by simp))) ?_; exact k_again _ (by omega) ⟨i, xq9, aq9, cq9, e6_3, e7_3, e8_3, e9_3, e10_3, e11_3, rfl, rfl, rfl, rfl, by omega, hKq9, rfl⟩
 ·obtain rfl : j = 0 := (by omega); rw [qz0]; have hsd : X / Y = n / m ∧ rj X Y 0 / 2 ^ s = n % m := (by rw [rj0, hXe, hYe]; exact shl_div n m s); have hRs := sz_mono (Nat.le_of_lt (rj_lt X hY0 0))
  refine c_exit ?_; refine zx (zx (b_here rfl (zk ?_))); refine yA ?_; refine mS e11_2 ?_; refine w_tel (fun w => zR Tryz.func129 rfl rfl rfl) rfl rfl (fun w h => made2_ok w (Nm.own 0 rfl (wid_lt _ _) (Nat.le_refl _) h) (by omega) (Nat.mod_eq_of_lt (rdiv_q hXl hYg hn0 hnm))) (fun x16 a16 c16 hK16 hN16 => ?_)
  refine mS e12_2 ?_; refine mI e6_2 ?_; refine w_tel (fun w => zR Tryz.func123 rfl rfl rfl) rfl rfl (fun w h => rShr_ok w (hKr.at_ 1 rfl h) s ⟨by omega, by omega⟩) (fun x17 a17 c17 hK17 hN17 => ?_)
  refine za (v := .slice _ _ _) rfl ?_; refine za (v := .slice _ _ _) rfl ?_; refine yB ?_; refine ze ?_
  rw [← hsd.1, ← hsd.2]
  refine r_two (v := .slice _ _ _) (v2 := .slice _ _ _) rfl rfl rfl rfl rfl ?_; exact fun w' hw => ⟨_, _, _, _, rfl, (hK16.at_ 1 rfl hw), (hK17.at_ 0 rfl hw), (hN16 _ (.tail _ (.tail _ (.tail _ (.head _))))), (hN17 _ (.tail _ (.tail _ (.tail _ (.tail _ (.head _)))))), hw.fr (w, No) (.tail _ (.tail _ (.tail _ (.tail _ (.tail _ (.head _))))))⟩
end Go.Proofs.YtikdkendinnalaaGreatDoor
end
section
namespace Go.Proofs.YtikdkendinnalaaGreatDoor
open Go.RowKit Go.Sx
open Go.Num
set_option maxRecDepth 100000 in
set_option maxHeartbeats 400000 in
theorem iNorm_ok (s : Bool) {a : Option Addr} {k c n : Nat} (w : World) (hA : Nm w a k c n) (hk : k ≤ 4000000) :
  Ret Tryz.prog 79 #[.agg #[.bool s, .slice a k c]] w (Tel (fun a c => .agg #[.bool (ng (iv s n)), .slice a (sz (iv s n).natAbs) c]) (sz (iv s n).natAbs) (iv s n).natAbs w) := by
 rw [ng_iv, iv_abs]
 refine enter (S := No) (l := [_]) (L := []) 16 Tryz.func79 rfl rfl rfl (St.start w No) ?_; refine yA ?_; refine w_boxA rfl (fun p gp up => ?_)
 refine w_alloc zr44 (fun r gr ur => ?_)
 refine yC ?_; refine zf fa44_1 rfl ?_; refine zl z42 rfl (fun _ h => zc 1 rfl rfl h) ?_; refine w_tel (fun w => zR Tryz.func80 rfl rfl rfl) rfl rfl (fun w h => rNorm_ok w ((Kn.old hA).at_ 0 rfl h) (by omega)) (fun x3 a3 c3 hK3 hN3 => ?_)
 refine za (v := .slice _ _ _) rfl ?_; refine yC ?_; refine zf fa44_0 rfl ?_; refine zl z4 rfl (fun _ h => zc 1 rfl rfl h) ?_; refine mB rfl ?_; refine zp (t := 9) rfl (fun h4 => ?_) (fun h4 => ?_)
 ·refine zw rfl rfl (bV h4) ?_; refine mS rfl ?_; refine zw rfl rfl (bV h4) ?_; refine w_r (fun _ => R_len sl42 rfl) rfl rfl ?_; refine zw rfl rfl (bV h4) ?_; refine w_r (fun _ => R_gtN (a := (sz n)) (b := 0) rfl rfl) rfl rfl ?_; refine w_r (v := .bool _) (fun _ => zT (bV h4) rfl) rfl rfl ?_; refine mS rfl ?_; refine w_r (fun _ => R_build bt44 rfl) rfl rfl ?_; refine w_store 0 rfl z44 rfl rfl rfl rfl rfl rfl rfl ?_; refine yB ?_; refine ze ?_
  subst h4
  refine r_fin (.inl rfl) rfl (.agg rfl rfl z44 (fun _ h => h.at_ 0 rfl) rfl .nil) ?_; exact fun w' hw => ⟨_, _, by rw [Bool.true_and, ← sz_gt]; rfl, (hK3.at_ 0 rfl hw), (hN3 _ (.head _)), hw.fr (w, No) (.tail _ (.head _))⟩
 ·refine zs rfl rfl (bV h4) ?_; refine zs rfl rfl (bV h4) ?_; refine zs rfl rfl (bV h4) ?_; refine w_r (v := .bool _) (fun _ => zF (bV h4) rfl) rfl rfl ?_; refine mS rfl ?_; refine w_r (fun _ => R_build bt44 rfl) rfl rfl ?_; refine w_store 0 rfl z44 rfl rfl rfl rfl rfl rfl rfl ?_; refine yB ?_; refine ze ?_
  subst h4
  refine r_fin (.inl rfl) rfl (.agg rfl rfl z44 (fun _ h => h.at_ 0 rfl) rfl .nil) ?_; exact fun w' hw => ⟨_, _, rfl, (hK3.at_ 0 rfl hw), (hN3 _ (.head _)), hw.fr (w, No) (.tail _ (.head _))⟩
set_option maxRecDepth 100000 in
set_option maxHeartbeats 400000 in
theorem iSign_ok (s : Bool) {a : Option Addr} {k c n : Nat} (w : World) (hA : Nm w a k c n) (hk : k ≤ 4000000) :
  Ret Tryz.prog 42 #[.agg #[.bool s, .slice a k c]] w (fun v w' => v = .int .i64 (iv s n).sign ∧ Ext w w') := by
 refine enter (S := No) (l := [_]) (L := []) 9 Tryz.func42 rfl rfl rfl (St.start w No) ?_; refine yA ?_; refine w_boxA rfl (fun p gp up => ?_)
 refine aI rfl ?_; refine yB ?_; refine zq ?_; refine yA ?_; refine zf fa44_1 rfl ?_; refine zl z42 rfl (fun _ h => zc 0 rfl rfl h) ?_; refine zC (fun w => zR Tryz.func76 rfl rfl rfl) rfl rfl (fun w h => rBits_ok w ((Kn.old hA).at_ 0 rfl h) (by omega)) ?_; refine w_r (fun _ => R_eqN (a := (bl n)) (b := 0) rfl rfl) rfl rfl ?_; refine yB ?_; refine zD rfl (fun h2 => ?_) (fun h2 => ?_)
 ·refine yA ?_; refine aI rfl ?_; refine yB ?_; refine ze ?_; refine zt (?_)
  refine zo (v := .int _ _) rfl rfl rfl ?_; exact fun w' hw => ⟨by rw [iv_sign, if_pos ((bl_zero_iff n).1 h2)], hw.fr (w, No) (.head _)⟩
 ·have hn0 : n ≠ 0 := fun h => h2 ((bl_zero_iff n).2 h)
  refine zi ?_; refine zk ?_; refine zq ?_; refine yA ?_; refine zf fa44_0 rfl ?_; refine zl z4 rfl (fun _ h => zc 0 rfl rfl h) ?_; refine yB ?_; refine c_cond rfl (fun h3 => ?_) (fun h3 => ?_)
  ·refine yA ?_; refine aI rfl ?_; refine yB ?_; refine ze ?_; refine zt (?_)
   refine zo (v := .int _ _) rfl rfl rfl ?_; exact fun w' hw => ⟨by rw [iv_sign, if_neg hn0, if_pos h3], hw.fr (w, No) (.head _)⟩
  ·refine zi ?_; refine zk ?_; refine yA ?_; refine aI rfl ?_; refine yB ?_; refine ze ?_; refine zo (v := .int _ _) rfl rfl rfl ?_; exact fun w' hw => ⟨by rw [iv_sign, if_neg hn0, if_neg (by rw [h3]; decide)], hw.fr (w, No) (.head _)⟩
set_option maxRecDepth 100000 in
set_option maxHeartbeats 400000 in
theorem iNeg_ok (s : Bool) {a : Option Addr} {k c n : Nat} (w : World) (hA : Nm w a k c n) (hk : k ≤ 4000000) :
  Ret Tryz.prog 44 #[.agg #[.bool s, .slice a k c]] w (Tel (fun a c => .agg #[.bool (ng (-iv s n)), .slice a (sz (-iv s n).natAbs) c]) (sz (-iv s n).natAbs) (-iv s n).natAbs w) := by
 rw [← iv_not]
 refine enter (S := No) (l := [_]) (L := []) 10 Tryz.func44 rfl rfl rfl (St.start w No) ?_; refine yA ?_; refine w_boxA rfl (fun p gp up => ?_)
 refine w_alloc zr44 (fun r gr ur => ?_)
 refine yC ?_; refine zf fa44_0 rfl ?_; refine zl z4 rfl (fun _ h => zc 1 rfl rfl h) ?_; refine w_r (fun _ => R_not rfl) rfl rfl ?_; refine zf fa44_1 rfl ?_; refine zl z42 rfl (fun _ h => zc 1 rfl rfl h) ?_; refine w_r (fun _ => R_build bt44 rfl) rfl rfl ?_; refine w_tel (fun w => zR Tryz.func79 rfl rfl rfl) rfl rfl (fun w h => iNorm_ok _ w ((Kn.old hA).at_ 0 rfl h) (by omega)) (fun x3 a3 c3 hK3 hN3 => ?_)
 refine w_store 0 rfl z44 rfl rfl rfl rfl rfl rfl rfl ?_; refine yB ?_; refine ze ?_; refine r_fin (.inl rfl) rfl (.agg rfl rfl z44 (fun _ h => h.at_ 0 rfl) rfl .nil) ?_; exact fun w' hw => ⟨_, _, rfl, (hK3.at_ 0 rfl hw), (hN3 _ (.head _)), hw.fr (w, No) (.tail _ (.head _))⟩
end Go.Proofs.YtikdkendinnalaaGreatDoor
end
section
namespace Go.Proofs.YtikdkendinnalaaGreatDoor
open Go.RowKit Go.Sx
open Go.Num Go.Feed
theorem gcd_step (N M : Nat) : Nat.gcd M (N % M) = Nat.gcd N M := by
 rw [Nat.gcd_comm N M, Nat.gcd_rec M N, Nat.gcd_comm]
set_option maxRecDepth 100000 in
set_option maxHeartbeats 1000000 in
theorem rGcd_ok {a : Option Addr} {k c n : Nat} {a8 : Option Addr} {k8 c8 m : Nat} (w : World) (hA : Nm w a k c n) (hA8 : Nm w a8 k8 c8 m) (hs : k ≤ 10000 ∧ k8 ≤ 10000) :
  Ret Tryz.prog 77 #[.slice a k c, .slice a8 k8 c8] w (Tel (fun a c => .slice a (sz (Nat.gcd n m)) c) (sz (Nat.gcd n m)) (Nat.gcd n m) w) := by
 have hzn : sz n ≤ k := sz_iff.2 hA.lt
 have hzm : sz m ≤ k8 := sz_iff.2 hA8.lt
 refine enter (S := No) (l := [_, _]) (L := []) 23 Tryz.func77 rfl rfl rfl (St.start w No) ?_; refine yA ?_; refine za (v := .slice _ _ _) rfl ?_; refine yC ?_; refine mS rfl ?_; refine w_tel (fun w => zR Tryz.func80 rfl rfl rfl) rfl rfl (fun w h => rNorm_ok w ((Kn.old hA).at_ 0 rfl h) (by omega)) (fun x0 a0 c0 hK0 hN0 => ?_)
 refine mS rfl ?_; refine w_tel (fun w => zR Tryz.func80 rfl rfl rfl) rfl rfl (fun w h => rNorm_ok w ((Kn.old hA8).at_ 1 rfl h) (by omega)) (fun x1 a1 c1 hK1 hN1 => ?_)
 refine za (v := .slice _ _ _) rfl ?_; refine za (v := .slice _ _ _) rfl ?_; refine yB ?_; refine zq ?_; refine zB ?_; refine c_st (B' := _) (L' := []) (fun w h => h) ?_; refine c_loop (fun m9 e B L => ∃ (N M : Nat) (xN xM : BaseW) (aN : Option Addr) (cN : Nat) (aM : Option Addr) (cM : Nat), e 0 = .slice aN (sz N) cN ∧ e 1 = .slice aM (sz M) cM ∧ B = [xM, xN, (w, No)] ∧ L = [] ∧ Kn xN aN (sz N) cN N ∧ Kn xM aM (sz M) cM M ∧ New_ [(w, No)] aN (sz N) ∧ New_ [(w, No)] aM (sz M) ∧ Nat.gcd N M = Nat.gcd n m ∧ sz N ≤ 10000 ∧ sz M ≤ 10000 ∧ m9 = M + 1) _ ⟨n, m, x0, x1, a0, c0, a1, c1, rfl, rfl, rfl, rfl, hK0, hK1, hN0, fun y hy => hN1 y (.tail _ hy), rfl, by omega, by omega, rfl⟩ ?_
 rintro m9 e B L ⟨N, M, xN, xM, aN, cN, aM, cM, e0_1, e1_1, rfl, rfl, hKN, hKM, hNN, hNM, hG, hsN, hsM, rfl⟩
 refine zq ?_; refine yA ?_; refine mS e1_1 ?_; refine w_r (fun _ => R_len sl42 rfl) rfl rfl ?_; refine w_r (fun _ => R_gtN (a := (sz M)) (b := 0) rfl rfl) rfl rfl ?_; refine yB ?_; refine zD rfl (fun h3 => ?_) (fun h3 => ?_)
 ·have hM0 : M ≠ 0 := (fun h => by rw [h] at h3; exact absurd h3 (by decide))
  refine zi ?_; refine zk ?_; refine zB ?_; refine yA ?_; refine mS e0_1 ?_; refine mS e1_1 ?_; refine w_tel2 (fun w => zR Tryz.func78 rfl rfl rfl) rfl rfl (fun w h => rDiv_ok w (hKN.at_ 1 rfl h) (hKM.at_ 0 rfl h) ⟨by omega, by omega, hM0⟩) (fun x4 a4 c4 a4' c4' hK4 hN4 hK4' hN4' => ?_)
  refine zm rfl ?_; refine w_r (fun _ => R_extract rfl rfl) rfl rfl ?_; refine w_r (fun _ => R_extract rfl rfl) rfl rfl ?_; refine za (v := .slice _ _ _) rfl ?_; refine za (v := .slice _ _ _) rfl ?_; refine yC ?_; refine mS e1_1 ?_; refine za (v := .slice _ _ _) rfl ?_; refine yB ?_; refine zr ?_; refine mS rfl ?_; refine za (v := .slice _ _ _) rfl ?_; refine zn ?_; refine b_on (?_)
  refine k_st (B' := [x4, xM, (w, No)]) (L' := []) (fun w h => (h.drop (List.nil_sublist _)).unbase (fun x hx => by rcases List.mem_cons.1 hx with rfl | hx; (exact (.head _)); rcases List.mem_cons.1 hx with rfl | hx; (exact (.tail _ (.head _))); rcases List.mem_cons.1 hx with rfl | hx; (exact (.tail _ (.tail _ (.tail _ (.head _))))); exact absurd hx (by simp))) ?_; exact k_again _ (by have := Nat.mod_lt N (Nat.pos_of_ne_zero hM0); omega) ⟨M, (N % M), xM, x4, aM, cM, a4', c4', rfl, rfl, rfl, rfl, hKM, hK4', hNM, fun y hy => hN4' y (.tail _ (.tail _ hy)), (by rw [gcd_step]; exact hG), hsM, Nat.le_trans (sz_mono (Nat.le_of_lt (Nat.mod_lt _ (Nat.pos_of_ne_zero hM0)))) hsM, rfl⟩
 ·obtain rfl : M = 0 := sz_eq_zero.1 (by omega); rw [Nat.gcd_zero_right] at hG; subst hG
  refine c_exit ?_; refine zx (zx (b_here rfl (zk ?_))); refine yA ?_; refine mS e0_1 ?_; refine za (v := .slice _ _ _) rfl ?_; refine yB ?_; refine ze ?_; refine zo (v := .slice _ _ _) rfl rfl rfl ?_; exact fun w' hw => ⟨aN, cN, rfl, hKN.at_ 1 rfl hw, hNN _ (.head _), hw.fr (w, No) (.tail _ (.tail _ (.head _)))⟩
set_option maxRecDepth 100000 in
set_option maxHeartbeats 400000 in
theorem jWhole_ok (a : Option Addr) (k c : Nat) (w : World) :
  Ret Tryz.prog 45 #[.slice a k c] w (fun v w' => v = .agg #[.bool false, .slice a k c] ∧ Ext w w') := by
 refine enter (S := No) (l := [_]) (L := []) 5 Tryz.func45 rfl rfl rfl (St.start w No) ?_; refine yA ?_; refine w_alloc zr44 (fun r gr ur => ?_)
 refine yC ?_; refine mS rfl ?_; refine w_r (fun _ => R_build bt44 rfl) rfl rfl ?_; refine w_store 0 rfl z44 rfl rfl rfl rfl rfl rfl rfl ?_; refine yB ?_; refine ze ?_; refine r_fin (.inl rfl) rfl (.agg rfl rfl z44 (fun _ h => h.at_ 0 rfl) rfl .nil) ?_; exact fun w' hw => ⟨rfl, hw.fr (w, No) (.head _)⟩
set_option maxRecDepth 100000 in
set_option maxHeartbeats 2000000 in
theorem jMake_ok (s : Bool) {a : Option Addr} {k c n : Nat} {a8 : Option Addr} {k8 c8 m : Nat} (w : World) (hA : Nm w a k c n) (hA8 : Nm w a8 k8 c8 m) (hs : k ≤ 10000 ∧ k8 ≤ 10000 ∧ m ≠ 0) :
  Ret Tryz.prog 43 #[.agg #[.bool s, .slice a k c], .agg #[.bool false, .slice a8 k8 c8]] w (Tel2 (fun a c a2 c2 => .agg #[.bool (ng (mkR s n m).1), .slice a (sz (mkR s n m).1.natAbs) c, .slice a2 (sz (mkR s n m).2) c2]) (sz (mkR s n m).1.natAbs) (mkR s n m).1.natAbs (sz (mkR s n m).2) (mkR s n m).2 w) := by
 have hg0 : (Nat.gcd n m) ≠ 0 := fun h => hs.2.2 (Nat.eq_zero_of_gcd_eq_zero_right h)
 have hzn : sz n ≤ k := sz_iff.2 hA.lt
 have hzm : sz m ≤ k8 := sz_iff.2 hA8.lt
 have hgm : sz (Nat.gcd n m) ≤ sz m := sz_mono (Nat.le_of_dvd (Nat.pos_of_ne_zero hs.2.2) (Nat.gcd_dvd_right n m))
 have hd1 : sz (n / (Nat.gcd n m)) ≤ sz n := sz_mono (Nat.div_le_self _ _)
 have hd2 : sz (m / (Nat.gcd n m)) ≤ sz m := sz_mono (Nat.div_le_self _ _)
 refine enter (S := No) (l := [_, _]) (L := []) 40 Tryz.func43 rfl rfl rfl (St.start w No) ?_; refine yA ?_; refine w_boxA rfl (fun p gp up => ?_)
 refine w_boxA rfl (fun p2 gp2 up2 => ?_)
 refine w_alloc zr46 (fun r gr ur => ?_)
 refine yC ?_; refine zf fa44_1 rfl ?_; refine zl z42 rfl (fun _ h => zc 2 rfl rfl h) ?_; refine zf fa44_1 rfl ?_; refine zl z42 rfl (fun _ h => zc 1 rfl rfl h) ?_; refine w_tel (fun w => zR Tryz.func77 rfl rfl rfl) rfl rfl (fun w h => rGcd_ok w ((Kn.old hA).at_ 0 rfl h) ((Kn.old hA8).at_ 0 rfl h) ⟨by omega, by omega⟩) (fun x4 a4 c4 hK4 hN4 => ?_)
 refine za (v := .slice _ _ _) rfl ?_; refine yC ?_; refine zf fa44_1 rfl ?_; refine zl z42 rfl (fun _ h => zc 2 rfl rfl h) ?_; refine mS rfl ?_; refine w_tel2 (fun w => zR Tryz.func78 rfl rfl rfl) rfl rfl (fun w h => rDiv_ok w ((Kn.old hA).at_ 1 rfl h) (hK4.at_ 0 rfl h) ⟨by omega, by omega, hg0⟩) (fun x5 a5 c5 a5' c5' hK5 hN5 hK5' hN5' => ?_)
 refine zm rfl ?_; refine w_r (fun _ => R_extract rfl rfl) rfl rfl ?_; refine w_r (fun _ => R_extract rfl rfl) rfl rfl ?_; refine za (v := .slice _ _ _) rfl ?_; refine za (v := .slice _ _ _) rfl ?_; refine yC ?_; refine zf fa44_1 rfl ?_; refine zl z42 rfl (fun _ h => zc 1 rfl rfl h) ?_; refine mS rfl ?_; refine w_tel2 (fun w => zR Tryz.func78 rfl rfl rfl) rfl rfl (fun w h => rDiv_ok w ((Kn.old hA8).at_ 2 rfl h) (hK4.at_ 1 rfl h) ⟨by omega, by omega, hg0⟩) (fun x6 a6 c6 a6' c6' hK6 hN6 hK6' hN6' => ?_)
 refine zm rfl ?_; refine w_r (fun _ => R_extract rfl rfl) rfl rfl ?_; refine w_r (fun _ => R_extract rfl rfl) rfl rfl ?_; refine za (v := .slice _ _ _) rfl ?_; refine za (v := .slice _ _ _) rfl ?_; refine yC ?_; refine zf fa44_0 rfl ?_; refine zl z4 rfl (fun _ h => zc 2 rfl rfl h) ?_; refine zf fa44_0 rfl ?_; refine zl z4 rfl (fun _ h => zc 1 rfl rfl h) ?_; refine w_r (fun _ => R_bne unb4 rfl rfl) rfl rfl ?_
 rw [show (!(s == false)) = s by cases s <;> rfl]
 refine mS rfl ?_; refine w_r (fun _ => R_build bt44 rfl) rfl rfl ?_; refine w_tel (fun w => zR Tryz.func79 rfl rfl rfl) rfl rfl (fun w h => iNorm_ok s w (hK5.at_ 1 rfl h) (by omega)) (fun x7 a7 c7 hK7 hN7 => ?_)
 refine mS rfl ?_; refine w_tel (fun w => zR Tryz.func80 rfl rfl rfl) rfl rfl (fun w h => rNorm_ok w (hK6.at_ 1 rfl h) (by omega)) (fun x8 a8 c8 hK8 hN8 => ?_)
 refine w_r (fun _ => R_build bt46 rfl) rfl rfl ?_; refine w_store 0 rfl z46 rfl rfl rfl rfl rfl rfl rfl ?_; refine yB ?_; refine ze ?_; refine r_fin (.inl rfl) rfl (.agg rfl rfl z46 (fun _ h => h.at_ 0 rfl) rfl .nil) ?_; exact fun w' hw => ⟨_, _, _, _, rfl, (hK7.at_ 1 rfl hw), (hK8.at_ 0 rfl hw), (hN7 _ (.tail _ (.tail _ (.tail _ (.head _))))), (hN8 _ (.tail _ (.tail _ (.tail _ (.tail _ (.head _)))))), hw.fr (w, No) (.tail _ (.tail _ (.tail _ (.tail _ (.tail _ (.head _))))))⟩
set_option maxRecDepth 100000 in
set_option maxHeartbeats 400000 in
theorem jSign6_ok (s : Bool) {a : Option Addr} {k c n : Nat} {a8 : Option Addr} {k8 c8 m : Nat} (w : World) (hA : Nm w a k c n) (hA8 : Nm w a8 k8 c8 m) (hk : k ≤ 4000000) :
  Ret Tryz.prog 15 #[.agg #[.bool s, .slice a k c, .slice a8 k8 c8]] w (fun v w' => v = .int .i64 (iv s n).sign ∧ Ext w w') := by
 refine enter (S := No) (l := [_]) (L := []) 6 Tryz.func15 rfl rfl rfl (St.start w No) ?_; refine yA ?_; refine w_boxA rfl (fun p gp up => ?_)
 refine aI rfl ?_; refine yC ?_; refine zf fa46_0 rfl ?_; refine w_loadA z44 rfl (fun _ h => h.at_ 0 rfl) rfl ?_; refine zC (fun w => zR Tryz.func42 rfl rfl rfl) rfl rfl (fun w h => iSign_ok _ w ((Kn.old hA).at_ 0 rfl h) (by omega)) ?_; refine aI rfl ?_; refine yB ?_; refine ze ?_; refine zo (v := .int _ _) rfl rfl rfl ?_; exact fun w' hw => ⟨rfl, hw.fr (w, No) (.head _)⟩
theorem mkR_iv (s : Bool) (n m : Nat) : mkR (ng (-iv s n)) (-iv s n).natAbs m = mkR (!s) n m := by
 rw [← iv_not, ng_iv, iv_abs]
 unfold mkR
 by_cases h : n = 0
 ·subst h; simp [iv_zero]
 ·rw [decide_eq_true h, Bool.and_true]
set_option maxRecDepth 100000 in
set_option maxHeartbeats 2000000 in
theorem jNeg6_ok (s : Bool) {a : Option Addr} {k c n : Nat} {a8 : Option Addr} {k8 c8 m : Nat} (w : World) (hA : Nm w a k c n) (hA8 : Nm w a8 k8 c8 m) (hs : k ≤ 10000 ∧ k8 ≤ 10000 ∧ m ≠ 0) :
  Ret Tryz.prog 16 #[.agg #[.bool s, .slice a k c, .slice a8 k8 c8]] w (Tel2 (fun a c a2 c2 => .agg #[.bool (ng (mkR (!s) n m).1), .slice a (sz (mkR (!s) n m).1.natAbs) c, .slice a2 (sz (mkR (!s) n m).2) c2]) (sz (mkR (!s) n m).1.natAbs) (mkR (!s) n m).1.natAbs (sz (mkR (!s) n m).2) (mkR (!s) n m).2 w) := by
 rw [← mkR_iv]
 have hzn : sz n ≤ k := sz_iff.2 hA.lt
 have hab : (-iv s n).natAbs = n := by rw [Int.natAbs_neg, iv_abs]
 refine enter (S := No) (l := [_]) (L := []) 10 Tryz.func16 rfl rfl rfl (St.start w No) ?_; refine yA ?_; refine w_boxA rfl (fun p gp up => ?_)
 refine w_alloc zr46 (fun r gr ur => ?_)
 refine yB ?_; refine zq ?_; refine c_heldI [1] mixed ?_; refine zh 0 rfl (by kernel_rfl) rfl rfl (fun w h => (h).pick [1] (by decide)) (fun w h => R_fa fa46_0 rfl) ?_; refine h_loadA 1 rfl (by kernel_rfl) (fun w h => (h).pick [1] (by decide)) z44 rfl (fun _ h => h.at_ 0 rfl) rfl ?_; refine zh 3 rfl (by kernel_rfl) rfl rfl (fun w h => (h).pick [1] (by decide)) (fun w h => R_fa fa46_1 rfl) ?_; refine zh (v := .slice _ _ _) 4 rfl (by kernel_rfl) rfl rfl (fun w h => (h).pick [1] (by decide)) (fun w h => R_ld1 z42 rfl (zc 0 rfl rfl h)) ?_; refine h_one 2 (by kernel_rfl) (fun w h => (h).pick [1] (by decide)) ?_; refine o_tel rfl (wn_none rfl) rfl (fun w => zR Tryz.func44 rfl rfl rfl) (fun w h => iNeg_ok s w ((Kn.old hA).at_ 0 rfl h) (by omega)) (fun x3 a3 c3 hK3 hN3 => ?_)
 refine h_one 5 (by kernel_rfl) (fun w h => (h.unbase (fun x hx => .tail _ (hx))).pick [1] (by decide)) ?_; refine o_pureW rfl (wn_none rfl) rfl (fun w => zR Tryz.func45 rfl rfl rfl) (fun w h => jWhole_ok _ _ _ w) ?_; refine h_one 6 (by kernel_rfl) (fun w h => (h.unbase (fun x hx => .tail _ (hx))).pick [1] (by decide)) ?_; refine o_tel2 rfl (wn_none rfl) rfl (fun w => zR Tryz.func43 rfl rfl rfl) (fun w h => jMake_ok _ w (hK3.at_ 0 rfl h) ((Kn.old hA8).at_ 1 rfl h) ⟨by rw [hab]; omega, by omega, hs.2.2⟩) (fun x4 a4 c4 a4' c4' hK4 hN4 hK4' hN4' => ?_)
 refine h_one 7 (by kernel_rfl) (fun w h => (h.unbase (fun x hx => .tail _ (.tail _ (hx)))).pick [1] (by decide)) ?_; refine o_store 0 rfl rfl z46 rfl rfl rfl rfl rfl rfl rfl ?_; refine h_done (by kernel_rfl) (fun w h => (h.unbase (fun x hx => .tail _ (.tail _ (hx)))).pick [1] (by decide)) ?_; refine zk ?_; refine ze ?_; refine r_fin (.inl rfl) rfl (.agg rfl rfl z46 (fun _ h => h.at_ 0 rfl) rfl .nil) ?_; exact fun w' hw => ⟨_, _, _, _, rfl, (hK4.at_ 0 rfl hw), (hK4'.at_ 0 rfl hw), (hN4 _ (.tail _ (.head _))), (hN4' _ (.tail _ (.head _))), hw.fr (w, No) (.tail _ (.tail _ (.head _)))⟩
set_option maxRecDepth 100000 in
set_option maxHeartbeats 400000 in
theorem jSmall6_ok (s : Bool) {a : Option Addr} {k c n : Nat} {a8 : Option Addr} {k8 c8 m : Nat} (w : World) (hA : Nm w a k c n) (hA8 : Nm w a8 k8 c8 m) :
  Ret Tryz.prog 35 #[.agg #[.bool s, .slice a k c, .slice a8 k8 c8]] w (fun v w' => v = .bool (decide (k ≤ 3 ∧ k8 ≤ 3)) ∧ Ext w w') := by
 refine enter (S := No) (l := [_]) (L := []) 14 Tryz.func35 rfl rfl rfl (St.start w No) ?_; refine yA ?_; refine w_boxA rfl (fun p gp up => ?_)
 refine aB rfl ?_; refine yC ?_; refine zf fa46_0 rfl ?_; refine zf fa44_1 rfl ?_; refine zl z42 rfl (fun _ h => zc 0 rfl rfl h) ?_; refine w_r (fun _ => R_len sl42 rfl) rfl rfl ?_; refine w_r (fun _ => R_leN (a := k) (b := 3) rfl rfl) rfl rfl ?_; refine mB rfl ?_; refine w_gT rfl rfl rfl (fun hc w h => R_fa fa46_1 rfl) rfl ?_
 refine w_gT rfl rfl rfl (fun hc w h => R_ld1 z42 (gvl_t hc) (zc 0 rfl rfl h)) rfl ?_; refine w_gT rfl rfl rfl (fun hc w h => R_len sl42 (gvl_t hc)) rfl ?_
 refine w_gT rfl rfl rfl (fun hc w h => R_leN (a := k8) (b := 3) (gvl_t hc) rfl) rfl ?_; refine w_r (v := .bool _) (fun _ => R_pickA rfl rfl rfl) rfl rfl ?_; refine aB rfl ?_; refine yB ?_; refine ze ?_; refine zo (v := .bool _) rfl rfl rfl ?_; exact fun w' hw => ⟨by simp [Bool.decide_and], hw.fr (w, No) (.head _)⟩
end Go.Proofs.YtikdkendinnalaaGreatDoor
end
section
namespace Go.Proofs.YtikdkendinnalaaGreatDoor
open Go.RowKit Go.Sx
open Go.Tok Go.Tree Go.Prs Go.Feed Go.Num
/-- data that a statement looks at -/
def SmB (l : List Di) : Prop := l.length ≤ 12 ∧ ∀ d ∈ l, d.nm.length ≤ 200 ∧ d.nums.length ≤ 20 ∧ ∀ x ∈ d.nums, x.p ≤ 3 ∧ x.q ≤ 3
theorem smB_take {l : List Di} {i : Nat} {d : Di} (hd : l[i]? = some d) (h : ∀ x ∈ l.take i, x.nm.length ≤ 200 ∧ x.nums.length ≤ 20 ∧ ∀ y ∈ x.nums, y.p ≤ 3 ∧ y.q ≤ 3) (h1 : d.nm.length ≤ 200) (h2 : d.nums.length ≤ 20) (h3 : ∀ y ∈ d.nums, y.p ≤ 3 ∧ y.q ≤ 3) : ∀ x ∈ l.take (i + 1), x.nm.length ≤ 200 ∧ x.nums.length ≤ 20 ∧ ∀ y ∈ x.nums, y.p ≤ 3 ∧ y.q ≤ 3 := fun x hx => by
 obtain ⟨hi, rfl⟩ := List.getElem?_eq_some_iff.1 hd
 rw [List.take_succ_eq_append_getElem hi] at hx
 rcases List.mem_append.1 hx with hx | hx
 ·exact h x hx
 ·rw [List.mem_singleton.1 hx]; exact ⟨h1, h2, h3⟩
theorem nums_take {l : List Rw} {i : Nat} {d : Rw} (hd : l[i]? = some d) (h : ∀ x ∈ l.take i, x.p ≤ 3 ∧ x.q ≤ 3) (h1 : d.p ≤ 3 ∧ d.q ≤ 3) : ∀ x ∈ l.take (i + 1), x.p ≤ 3 ∧ x.q ≤ 3 := fun x hx => by
 obtain ⟨hi, rfl⟩ := List.getElem?_eq_some_iff.1 hd
 rw [List.take_succ_eq_append_getElem hi] at hx
 rcases List.mem_append.1 hx with hx | hx
 ·exact h x hx
 ·rw [List.mem_singleton.1 hx]; exact h1
set_option maxRecDepth 100000 in
set_option maxHeartbeats 2000000 in
theorem great_ok (l : List Di) (va : Option Addr) (vc : Nat) (w : World) (hD : disV w (fun _ => True) l (va, vc)) (hl : l.length ≤ 9223372036854775807) (hnl : ∀ d ∈ l, d.nums.length ≤ 9223372036854775807 ∧ d.nm.length ≤ 9223372036854775807) :
  Ret Tryz.prog 13 #[.slice va l.length vc] w (fun v w' => (∃ b, v = .bool b ∧ (b = false → SmB l)) ∧ Ext w w') := by
 refine enter (S := No) (l := [_]) (L := []) 50 Tryz.func13 rfl rfl rfl (St.start w No) ?_; refine yA ?_; refine aB rfl ?_; refine yB ?_; refine zq ?_; refine yA ?_; refine mS rfl ?_; refine w_r (fun _ => R_len sl24 rfl) rfl rfl ?_; refine w_r (fun _ => R_gtN (a := (l.length)) (b := 12) rfl rfl) rfl rfl ?_; refine yB ?_; refine zD rfl (fun h1 => ?_) (fun h1 => ?_)
 ·refine yA ?_; refine aB rfl ?_; refine yB ?_; refine ze ?_; refine zt (?_)
  refine zo (v := .bool _) rfl rfl rfl ?_; exact fun w' hw => ⟨⟨true, rfl, fun h => by cases h⟩, hw.fr (w, No) (.head _)⟩
 ·refine zi ?_; refine zk ?_; refine zq ?_; refine yA ?_; refine aI rfl ?_; refine yB ?_; refine zB ?_; refine c_loop (fun m9 e B L => ∃ (i : Nat), e 0 = .slice va l.length vc ∧ e 3 = .int .i64 (i : Nat) ∧ B = [(w, No)] ∧ L = [] ∧ i ≤ l.length ∧ (∀ x ∈ l.take i, x.nm.length ≤ 200 ∧ x.nums.length ≤ 20 ∧ ∀ y ∈ x.nums, y.p ≤ 3 ∧ y.q ≤ 3) ∧ m9 = l.length - i) _ ⟨0, rfl, rfl, rfl, rfl, Nat.zero_le _, fun x hx => absurd hx (by simp), rfl⟩ ?_
  rintro m9 e B L ⟨i, e0_1, e3_1, rfl, rfl, hi, hps, rfl⟩
  refine zq ?_; refine yA ?_; refine mI e3_1 ?_; refine mS e0_1 ?_; refine w_r (fun _ => R_len sl24 rfl) rfl rfl ?_; refine w_r (fun _ => R_ltN (a := i) (b := (l.length)) rfl rfl) rfl rfl ?_; refine yB ?_; refine zD rfl (fun h2 => ?_) (fun h2 => ?_)
  ·have hi2 : i < l.length := (by omega); obtain ⟨d7, hd7⟩ : ∃ d, l[i]? = some d := ⟨_, List.getElem?_eq_getElem hi2⟩; obtain ⟨cs7, hA7, ⟨an7, cn7⟩, rfl, hT7⟩ := hD.2 i d7 hd7; obtain ⟨q7, o7, rfl, hne7, hc7⟩ := hA7; have hnl7 := hnl d7 (List.mem_of_getElem? hd7)
   refine zi ?_; refine zk ?_; refine zq ?_; refine zB ?_; refine zq ?_; refine yA ?_; refine mS e0_1 ?_; refine mI e3_1 ?_; refine w_r (fun _ => R_iaN (i := i) sl24 rfl rfl (by first | omega | decide | exact Nat.succ_pos _ | exact Nat.succ_lt_succ (Nat.succ_pos _))) rfl rfl ?_; refine zf fa33_0 rfl ?_; refine zl (v := str d7.nm) z9 rfl (fun w h => cel_old (.head _) (hc7 0 _ rfl) (fun x => x) h) ?_; refine w_r (fun _ => R_slen st9 rfl (by omega)) rfl rfl ?_; refine w_r (fun _ => R_gt rfl rfl) rfl rfl ?_; refine mB rfl ?_; refine zd (t := 21) rfl (fun h3 => ?_) (fun h3 => ?_)
   ·refine zs rfl rfl (bT h3) ?_; refine zs rfl rfl (bT h3) ?_; refine zs rfl rfl (bT h3) ?_; refine zs rfl rfl (bT h3) ?_; refine zs rfl rfl (bT h3) ?_; refine zs rfl rfl (bT h3) ?_; refine zs rfl rfl (bT h3) ?_; refine w_r (v := .bool _) (fun _ => zT (bT h3) rfl) rfl rfl ?_; refine yB ?_; refine zE rfl ?_; refine yA ?_; refine aB rfl ?_; refine yB ?_; refine ze ?_; refine zt (zb (zt (zt (zb (zt (?_))))))
    refine zo (v := .bool _) rfl rfl rfl ?_; exact fun w' hw => ⟨⟨true, rfl, fun h => by cases h⟩, hw.fr (w, No) (.head _)⟩
   ·refine zw rfl rfl (bF h3) ?_; refine mS e0_1 ?_; refine zw rfl rfl (bF h3) ?_; refine mI e3_1 ?_; refine zw rfl rfl (bF h3) ?_; refine w_r (fun _ => R_iaN (i := i) sl24 rfl rfl (by first | omega | decide | exact Nat.succ_pos _ | exact Nat.succ_lt_succ (Nat.succ_pos _))) rfl rfl ?_; refine zw rfl rfl (bF h3) ?_; refine zf fa33_4 rfl ?_; refine zw rfl rfl (bF h3) ?_; refine zl (v := .slice an7 d7.nums.length cn7) z31 rfl (fun w h => cel_old (.head _) (hc7 4 _ rfl) (fun x => x) h) ?_; refine zw rfl rfl (bF h3) ?_; refine w_r (fun _ => R_len sl31 rfl) rfl rfl ?_; refine zw rfl rfl (bF h3) ?_; refine w_r (fun _ => R_gtN (a := (d7.nums.length)) (b := 20) rfl rfl) rfl rfl ?_; refine w_r (v := .bool _) (fun _ => zF (bF h3) rfl) rfl rfl ?_; refine yB ?_
    refine zD rfl (fun h4 => ?_) (fun h4 => ?_)
    ·refine yA ?_; refine aB rfl ?_; refine yB ?_; refine ze ?_; refine zt (zb (zt (zt (zb (zt (?_))))))
     refine zo (v := .bool _) rfl rfl rfl ?_; exact fun w' hw => ⟨⟨true, rfl, fun h => by cases h⟩, hw.fr (w, No) (.head _)⟩
    ·refine zi ?_; refine zk ?_; refine yA ?_; refine aI rfl ?_; refine yB ?_; refine zB ?_; refine c_loop (fun m9 e B L => ∃ (k : Nat), e 0 = .slice (some ⟨q7, o7, none⟩) l.length vc ∧ e 3 = .int .i64 (i : Nat) ∧ e 4 = .int .i64 (k : Nat) ∧ B = [(w, No)] ∧ L = [] ∧ k ≤ d7.nums.length ∧ (∀ x ∈ d7.nums.take k, x.p ≤ 3 ∧ x.q ≤ 3) ∧ m9 = d7.nums.length - k) _ ⟨0, e0_1, e3_1, rfl, rfl, rfl, Nat.zero_le _, fun x hx => absurd hx (by simp), rfl⟩ ?_
     rintro m9 e B L ⟨k, e0_2, e3_2, e4_2, rfl, rfl, hk, hpn, rfl⟩
     refine zq ?_; refine yA ?_; refine mI e4_2 ?_; refine mS e0_2 ?_; refine mI e3_2 ?_; refine w_r (fun _ => R_iaN (i := i) sl24 rfl rfl (by first | omega | decide | exact Nat.succ_pos _ | exact Nat.succ_lt_succ (Nat.succ_pos _))) rfl rfl ?_; refine zf fa33_4 rfl ?_; refine zl (v := .slice an7 d7.nums.length cn7) z31 rfl (fun w h => cel_old (.head _) (hc7 4 _ rfl) (fun x => x) h) ?_; refine w_r (fun _ => R_len sl31 rfl) rfl rfl ?_; refine w_r (fun _ => R_ltN (a := k) (b := (d7.nums.length)) rfl rfl) rfl rfl ?_; refine yB ?_; refine zD rfl (fun h5 => ?_) (fun h5 => ?_)
     ·have hk2 : k < d7.nums.length := (by omega); obtain ⟨xr, hxr⟩ : ∃ x, d7.nums[k]? = some x := ⟨_, List.getElem?_eq_getElem hk2⟩; obtain ⟨cs8, hA8, br, rfl, hTr⟩ := hT7.2 k xr hxr; obtain ⟨q8, o8, hq8, hne8, hc8⟩ := hA8; dsimp only at hq8
      refine zi ?_; refine zk ?_; refine zq ?_; refine zB ?_; refine yA ?_; refine mS e0_2 ?_; refine mI e3_2 ?_; refine w_r (fun _ => R_iaN (i := i) sl24 rfl rfl (by first | omega | decide | exact Nat.succ_pos _ | exact Nat.succ_lt_succ (Nat.succ_pos _))) rfl rfl ?_; refine zf fa33_4 rfl ?_; refine zl (v := .slice an7 d7.nums.length cn7) z31 rfl (fun w h => cel_old (.head _) (hc7 4 _ rfl) (fun x => x) h) ?_; refine mI e4_2 ?_; refine w_r (fun _ => R_iaN (i := k) sl31 (congrArg (fun z => Value.slice z d7.nums.length cn7) hq8) rfl hk2) rfl rfl ?_; refine w_loadC (l := rwE xr br) z46 rfl rfl (fun w h j v hj => cel_old (.head _) (hc8 j v hj) (fun x => x) h) ?_
      refine zC (v := .bool (decide (xr.p ≤ 3 ∧ xr.q ≤ 3))) (fun w => zR Tryz.func35 rfl rfl rfl) rfl rfl (fun w h => jSmall6_ok xr.s w (hTr.ext_ (h.fr (_, No) (.head _))).n.nm (hTr.ext_ (h.fr (_, No) (.head _))).d.nm) ?_; refine w_r (fun _ => R_not rfl) rfl rfl ?_; refine yB ?_; refine c_condND rfl (fun h6 => ?_) (fun h6 => ?_)
      ·refine yA ?_; refine aB rfl ?_; refine yB ?_; refine ze ?_; refine zb (zt (zt (zb (zb (zt (zt (zb (zt (?_)))))))))
       refine zo (v := .bool _) rfl rfl rfl ?_; exact fun w' hw => ⟨⟨true, rfl, fun h => by cases h⟩, hw.fr (w, No) (.head _)⟩
      ·refine zi ?_; refine b_on (zk ?_); refine zr ?_; refine mI e4_2 ?_; refine w_r (fun _ => R_addN (n := k) (b := 1) rfl rfl (by omega)) rfl rfl ?_; refine aI rfl ?_; refine zn ?_; exact k_again _ (by omega) ⟨k + 1, e0_2, e3_2, rfl, rfl, rfl, by omega, nums_take hxr hpn (by simpa using h6), rfl⟩
     ·refine c_exit ?_; refine zx (zx (b_here rfl (b_on (zk ?_)))); refine zr ?_; refine mI e3_2 ?_; refine w_r (fun _ => R_addN (n := i) (b := 1) rfl rfl (by omega)) rfl rfl ?_; refine aI rfl ?_; refine zn ?_; exact k_again _ (by omega) ⟨i + 1, e0_2, rfl, rfl, rfl, by omega, smB_take hd7 hps (by omega) (by omega) (by rw [← List.take_length (l := d7.nums), show d7.nums.length = k by omega]; exact hpn), rfl⟩
  ·obtain rfl : i = l.length := (by omega)
   refine c_exit ?_; refine zx (zx (b_here rfl (zk ?_))); refine yA ?_; refine aB rfl ?_; refine yB ?_; refine ze ?_
   rw [List.take_length] at hps
   refine zo (v := .bool _) rfl rfl rfl ?_; exact fun w' hw => ⟨⟨false, rfl, fun _ => ⟨by omega, hps⟩⟩, hw.fr (w, No) (.head _)⟩
end Go.Proofs.YtikdkendinnalaaGreatDoor
end
