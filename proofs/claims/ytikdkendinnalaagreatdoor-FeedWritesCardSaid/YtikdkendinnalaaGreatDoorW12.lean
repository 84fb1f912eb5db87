/- Layer 14, FeedWrites: that Write and Find tell what the document says, and that what is written is read as the same data again. Part 12 of 14. -/
import Derived.Test.YtikdkendinnalaaGreatDoorW11
set_option maxRecDepth 100000
set_option maxHeartbeats 16000000
section
namespace Go.Proofs.YtikdkendinnalaaGreatDoor
open Go.RowKit Go.Sx
open Go.Num
theorem sz_shl (n h : Nat) : sz (n * 2 ^ h) ≤ (64 * sz n + h + 63) / 64 := by
 by_cases hn : n = 0
 ·subst hn; rw [Nat.zero_mul, sz_zero]; exact Nat.zero_le _
 ·have h1 := bl_mul hn h
  have h2 := bl_sz (Nat.le_refl (sz n))
  have h3 : sz (n * 2 ^ h) = (bl (n * 2 ^ h) + 63) / 64 := rfl
  rw [h3, h1]; omega
theorem div_next32 {z z0 j : Nat} (h : z / b32 ^ j = z0 / b32 ^ j) : dg b32 z j = dg b32 z0 j ∧ z / b32 ^ (j + 1) = z0 / b32 ^ (j + 1) := by
 refine ⟨?_, ?_⟩
 ·unfold dg; rw [h]
 ·rw [Nat.pow_succ, ← Nat.div_div_eq_div_mul, h, Nat.div_div_eq_div_mul]
theorem mul_row {n m i : Nat} {K : Nat} (hm : m < b32 ^ K) : n % b32 ^ i * m < b32 ^ (i + K) := by
 rw [Nat.pow_add]
 rcases Nat.eq_zero_or_pos m with h | h
 ·subst h; rw [Nat.mul_zero]; exact Nat.mul_pos (b32pow_pos i) (b32pow_pos K)
 ·exact Nat.lt_of_lt_of_le (Nat.mul_lt_mul_of_pos_right (Nat.mod_lt _ (b32pow_pos i)) h) (Nat.mul_le_mul_left _ (Nat.le_of_lt hm))
theorem row_end32 {n m i K z c : Nat} (hm : m < b32 ^ K) (h : z % b32 ^ (i + (K + 1)) + b32 ^ (i + (K + 1)) * c = n % b32 ^ i * m % b32 ^ (i + (K + 1)) + dg b32 n i * (m % b32 ^ (K + 1)) * b32 ^ i) (hz : z / b32 ^ (i + (K + 1)) = n % b32 ^ i * m / b32 ^ (i + (K + 1))) :
  z = n % b32 ^ (i + 1) * m := by
 have h0 := mul_row (n := n) (i := i) hm
 have hle : b32 ^ (i + K) ≤ b32 ^ (i + (K + 1)) := Nat.pow_le_pow_right b32_pos (by omega)
 have h0' := Nat.lt_of_lt_of_le h0 hle
 rw [Nat.div_eq_of_lt h0'] at hz
 have hz2 : z < b32 ^ (i + (K + 1)) := by
  rcases Nat.lt_or_ge z (b32 ^ (i + (K + 1))) with h5 | h5
  ·exact h5
  ·have := Nat.div_pos h5 (b32pow_pos (i + (K + 1))); omega
 have hm2 : m < b32 ^ (K + 1) := Nat.lt_of_lt_of_le hm (Nat.pow_le_pow_right b32_pos (by omega))
 rw [Nat.mod_eq_of_lt hz2, Nat.mod_eq_of_lt h0', Nat.mod_eq_of_lt hm2] at h
 have e : n % b32 ^ i * m + dg b32 n i * m * b32 ^ i = n % b32 ^ (i + 1) * m := by
  rw [mod_step, Nat.add_mul, Nat.mul_comm (b32 ^ i), Nat.mul_right_comm (dg b32 n i)]
 rw [e] at h
 have h1 := mul_row (n := n) (i := i + 1) hm
 rw [show i + 1 + K = i + (K + 1) by omega] at h1
 have hc : c = 0 := by
  rcases Nat.eq_zero_or_pos c with h5 | h5
  ·exact h5
  ·have := Nat.le_mul_of_pos_right (b32 ^ (i + (K + 1))) h5; omega
 subst hc
 rw [Nat.mul_zero, Nat.add_zero] at h
 exact h
theorem mul_end {n m k k2 : Nat} (hn : n < Go.Num.B ^ k) (hm : m < Go.Num.B ^ k2) : n * m % b32 ^ (2 * k + 2 * k2 + 1) = n * m := by
 refine Nat.mod_eq_of_lt ?_
 rw [B_b32] at hn hm
 have h0 := mul_row (n := n) (i := 2 * k) hm
 rw [Nat.mod_eq_of_lt hn] at h0
 exact Nat.lt_of_lt_of_le h0 (Nat.pow_le_pow_right b32_pos (by omega))
theorem mul_z0 (n m K : Nat) : wid (n % b32 ^ 0 * m) K = 0 := by
 rw [Nat.pow_zero, Nat.mod_one, Nat.zero_mul]
 exact lmV_inj (k := K) (wid_lt _ _) (Bpow_pos _) fun j hj => by rw [wid_dg hj, dg_zero, dg_zero]
theorem rMul_ok {a a2 : Option Addr} {k c k2 c2 n m : Nat} (w : World) (hA : Nm w a k c n) (hB : Nm w a2 k2 c2 m) (hs : k ≤ 500000 ∧ k2 ≤ 500000) :
  Ret Tryz.prog 126 #[.slice a k c, .slice a2 k2 c2] w (Tel (fun a c => .slice a (sz (n * m)) c) (sz (n * m)) (n * m) w) := by
 refine enter (S := No) (l := [_, _]) (L := []) 61 Tryz.func126 rfl rfl rfl (St.start w No) ?_; refine yA ?_; refine za (v := .slice _ _ _) rfl ?_; refine yC ?_; refine mS rfl ?_; refine jj sl42 rfl ?_; refine zg (fun _ => R_mulN (n := 2) (b := k) rfl rfl (by omega)) ?_; refine mS rfl ?_; refine jj sl42 rfl ?_; refine zg (fun _ => R_mulN (n := 2) (b := k2) rfl rfl (by omega)) ?_; refine zg (fun _ => R_addN (n := (2 * k)) (b := (2 * k2)) rfl rfl (by omega)) ?_; refine zg (fun _ => R_addN (n := ((2 * k) + (2 * k2))) (b := 1) rfl rfl (by omega)) ?_; refine w_makeU (n := (((2 * k) + (2 * k2)) + 1)) slt41 rfl rfl (by omega) (by omega) (fun ob gob uob => ?_)
 refine za (v := .slice _ _ _) rfl ?_; refine yB ?_; refine zq ?_; refine yA ?_; refine aI rfl ?_; refine yB ?_; refine zB ?_; refine c_st (B' := _) (L' := [(ob, cel (lmV (wid (n % b32 ^ 0 * m) (2 * k + 2 * k2 + 1)) (2 * k + 2 * k2 + 1)) 75)]) (fun w h => by rw [mul_z0]; exact h) ?_; refine c_loop (fun m9 e B L => ∃ (i : Nat), e 0 = .slice a k c ∧ e 1 = .slice a2 k2 c2 ∧ e 5 = .slice (some ⟨ob, 0, none⟩) (2 * k + 2 * k2 + 1) (2 * k + 2 * k2 + 1) ∧ e 6 = .int .i64 (i : Nat) ∧ B = [(w, No)] ∧ L = [(ob, cel (lmV (wid (n % b32 ^ i * m) (2 * k + 2 * k2 + 1)) (2 * k + 2 * k2 + 1)) 75)] ∧ i ≤ 2 * k ∧ m9 = 2 * k - i) _ ⟨0, rfl, rfl, rfl, rfl, rfl, rfl, Nat.zero_le _, rfl⟩ ?_
 rintro m9 e B L ⟨i, e0_1, e1_1, e5_1, e6_1, rfl, rfl, hi, rfl⟩
 refine zq ?_; refine yA ?_; refine mI e6_1 ?_; refine mS e0_1 ?_; refine jj sl42 rfl ?_; refine zg (fun _ => R_mulN (n := 2) (b := k) rfl rfl (by omega)) ?_; refine zg (fun _ => R_ltN (a := i) (b := (2 * k)) rfl rfl) ?_; refine yB ?_; refine zD rfl (fun h1 => ?_) (fun h1 => ?_)
 ·refine zi ?_; refine zk ?_; refine zq ?_; refine zB ?_; refine yA ?_; refine aI rfl ?_; refine yC ?_; refine aI rfl ?_; refine yB ?_; refine zB ?_
  refine c_loop (fun m9 e B L => ∃ (z cy q : Nat), e 0 = .slice a k c ∧ e 1 = .slice a2 k2 c2 ∧ e 5 = .slice (some ⟨ob, 0, none⟩) (2 * k + 2 * k2 + 1) (2 * k + 2 * k2 + 1) ∧ e 6 = .int .i64 (i : Nat) ∧ e 7 = .int .u64 (cy : Nat) ∧ e 8 = .int .i64 (q : Nat) ∧ B = [(w, No)] ∧ L = [(ob, cel (lmV (wid z (2 * k + 2 * k2 + 1)) (2 * k + 2 * k2 + 1)) 75)] ∧ q ≤ 2 * k2 + 1 ∧ z % b32 ^ (i + q) + b32 ^ (i + q) * cy = (n % b32 ^ i * m) % b32 ^ (i + q) + dg b32 n i * (m % b32 ^ q) * b32 ^ i ∧ z / b32 ^ (i + q) = (n % b32 ^ i * m) / b32 ^ (i + q) ∧ cy < b32 ∧ m9 = 2 * k2 + 1 - q) _ ⟨(n % b32 ^ i * m), 0, 0, e0_1, e1_1, e5_1, e6_1, rfl, rfl, rfl, rfl, Nat.zero_le _, by simp [Nat.mod_one], rfl, by decide, rfl⟩ ?_
  rintro m9 e B L ⟨z, cy, q, e0_2, e1_2, e5_2, e6_2, e7_2, e8_2, rfl, rfl, hq, hE, hD, hcy, rfl⟩
  refine zq ?_; refine yA ?_; refine mI e8_2 ?_; refine mS e1_2 ?_; refine jj sl42 rfl ?_; refine zg (fun _ => R_mulN (n := 2) (b := k2) rfl rfl (by omega)) ?_; refine zg (fun _ => R_addN (n := (2 * k2)) (b := 1) rfl rfl (by omega)) ?_; refine zg (fun _ => R_ltN (a := q) (b := ((2 * k2) + 1)) rfl rfl) ?_; refine yB ?_; refine zD rfl (fun h2 => ?_) (fun h2 => ?_)
  ·have hdn := div_next32 hD; have hd1 := dg_lt b32_pos n i; have hd2 := dg_lt b32_pos m q; have hd3 := dg_lt b32_pos z (i + q); have hmm : dg b32 n i * dg b32 m q ≤ 4294967295 * 4294967295 := Nat.mul_le_mul (Nat.le_of_lt_succ hd1) (Nat.le_of_lt_succ hd2); have hBv : Go.Num.B = 18446744073709551616 := rfl; have hb9 : b32 = 4294967296 := rfl
   refine zi ?_; refine zk ?_; refine zq ?_; refine zB ?_; refine zq ?_; refine c_heldS mixed ?_; refine zh (v := .slice _ _ _) 0 rfl (by kernel_rfl) rfl rfl (fun w h => h) (fun w h => R_move e5_2) ?_; refine zh (v := .int _ _) 1 rfl (by kernel_rfl) rfl rfl (fun w h => h) (fun w h => R_move e6_2) ?_; refine zh (v := .int _ _) 2 rfl (by kernel_rfl) rfl rfl (fun w h => h) (fun w h => R_move e8_2) ?_; refine zh2 3 rfl rfl (fun w h => h) (fun w h => R_addN (n := i) (b := q) rfl rfl (by omega)) ?_; refine zh2 4 rfl rfl (fun w h => h) (fun w h => R_iaN (i := (i + q)) sl41 rfl rfl (by omega)) ?_; refine zh (v := .int .u64 ((dg Go.Num.B (wid z (2 * k + 2 * k2 + 1)) (i + q)) : Nat)) 5 rfl (by kernel_rfl) rfl rfl (fun w h => h) (fun w h => R_ld1 z75 rfl (cel_lm 0 rfl (by omega) h)) ?_
   rw [wid_dg (n := z) (show i + q < (2 * k + 2 * k2 + 1) by omega)]
   refine zh (v := .slice _ _ _) 6 rfl (by kernel_rfl) rfl rfl (fun w h => h) (fun w h => R_move e0_2) ?_; refine zh (v := .int _ _) 7 rfl (by kernel_rfl) rfl rfl (fun w h => h) (fun w h => R_move e6_2) ?_; refine zh (v := .slice _ _ _) 9 rfl (by kernel_rfl) rfl rfl (fun w h => h) (fun w h => R_move e1_2) ?_; refine zh (v := .int _ _) 10 rfl (by kernel_rfl) rfl rfl (fun w h => h) (fun w h => R_move e8_2) ?_; refine zh (v := .int _ _) 14 rfl (by kernel_rfl) rfl rfl (fun w h => h) (fun w h => R_move e7_2) ?_; refine zH2 8 (fun w h => h) ?_; refine o_pureW rfl (wn_none rfl) rfl (fun w => zR Tryz.func125 rfl rfl rfl) (fun w h => rdigit_ok w ((Kn.old hA).at_ 0 rfl h) i ⟨by omega, by omega⟩) ?_; refine zH2 11 (fun w h => h) ?_
   refine o_pureW rfl (wn_none rfl) rfl (fun w => zR Tryz.func125 rfl rfl rfl) (fun w h => rdigit_ok w ((Kn.old hB).at_ 0 rfl h) q ⟨by omega, by omega⟩) ?_; refine zh2 12 rfl rfl (fun w h => h) (fun w h => R_mulU (a := (dg b32 n i)) (b := (dg b32 m q)) rfl rfl (by omega)) ?_; refine zh2 13 rfl rfl (fun w h => h) (fun w h => R_addU (a := (dg b32 z (i + q))) (b := ((dg b32 n i) * (dg b32 m q))) rfl rfl (by omega)) ?_; refine zh2 15 rfl rfl (fun w h => h) (fun w h => R_addU (a := ((dg b32 z (i + q)) + ((dg b32 n i) * (dg b32 m q)))) (b := cy) rfl rfl (by omega)) ?_
   rw [show dg b32 z (i + q) + dg b32 n i * dg b32 m q + cy = (dg b32 n i * dg b32 m q + dg b32 z (i + q) + cy) by omega]
   refine zh (v := .int _ _) 16 rfl (by kernel_rfl) rfl rfl (fun w h => h) (fun w h => R_assign rfl) ?_; refine zN2 (fun w h => h) ?_; refine zk ?_; refine yA ?_; refine mS e5_2 ?_; refine mI e6_2 ?_; refine mI e8_2 ?_; refine zg (fun _ => R_addN (n := i) (b := q) rfl rfl (by omega)) ?_; refine mI rfl ?_; refine zg (fun _ => R_remU (a := (dg b32 n i * dg b32 m q + dg b32 z (i + q) + cy)) (b := 4294967296) rfl rfl (by omega)) ?_; refine zg (fun _ => R_iaN (i := (i + q)) sl41 rfl rfl (by omega)) ?_
   refine w_putU (dv := ((dg b32 n i * dg b32 m q + dg b32 z (i + q) + cy) % 4294967296)) (z' := (wid (setd b32 z (i + q) ((dg b32 n i * dg b32 m q + dg b32 z (i + q) + cy) % b32)) (2 * k + 2 * k2 + 1))) (j := (i + q)) 0 rfl z75 rfl rfl (by exact Nat.lt_trans (Nat.mod_lt _ b32_pos) (by decide)) (by omega) (wid_set (Nat.mod_lt _ b32_pos) (by omega)) ?_; refine yB ?_; refine zr ?_; refine mI rfl ?_; refine zg (fun _ => R_quoU (a := (dg b32 n i * dg b32 m q + dg b32 z (i + q) + cy)) (b := 4294967296) rfl rfl (by omega) (by omega)) ?_; refine aI rfl ?_; refine zn ?_; refine zO (zk ?_); refine zr ?_; refine mI e8_2 ?_; refine zg (fun _ => R_addN (n := q) (b := 1) rfl rfl (by omega)) ?_; refine aI rfl ?_; refine zn ?_
   exact k_again _ (by omega) ⟨(setd b32 z (i + q) ((dg b32 n i * dg b32 m q + dg b32 z (i + q) + cy) % b32)), ((dg b32 n i * dg b32 m q + dg b32 z (i + q) + cy) / b32), q + 1, e0_2, e1_2, e5_2, e6_2, rfl, rfl, rfl, rfl, by omega, mul_step b32_pos hE hdn.1, (setd_div b32_pos (Nat.mod_lt _ b32_pos)).trans hdn.2, mul_digit hd1 hd2 hd3 hcy, rfl⟩
  ·obtain rfl : q = 2 * k2 + 1 := (by omega); obtain rfl := row_end32 (by have := hB.lt; rwa [B_b32] at this) hE hD
   refine zX ?_; refine zx (zx (b_here rfl (zO (zk ?_)))); refine zr ?_; refine mI e6_2 ?_; refine zg (fun _ => R_addN (n := i) (b := 1) rfl rfl (by omega)) ?_; refine aI rfl ?_; refine zn ?_; exact k_again _ (by omega) ⟨i + 1, e0_2, e1_2, e5_2, rfl, rfl, rfl, by omega, rfl⟩
 ·obtain rfl : i = 2 * k := (by omega); rw [Nat.mod_eq_of_lt (show n < b32 ^ (2 * k) by have := hA.lt; rwa [B_b32] at this)]
  refine zX ?_; refine zx (zx (b_here rfl (zk ?_))); refine yA ?_; refine mS e5_1 ?_; refine w_tel (fun w => zR Tryz.func129 rfl rfl rfl) rfl rfl (fun w h => made2_ok w (Nm.own 0 rfl (wid_lt _ _) (Nat.le_refl _) h) (by omega) (mul_end hA.lt hB.lt)) (fun x3 a3 c3 hK3 hN3 => ?_)
  refine za (v := .slice _ _ _) rfl ?_; refine yB ?_; refine ze ?_; refine zo (v := .slice _ _ _) rfl rfl rfl ?_; exact fun w' hw => ⟨_, _, rfl, (hK3.at_ 0 rfl hw), (hN3 _ zm0), hw.fr (w, No) zm1⟩
theorem rdigits_ok {a : Option Addr} {k c n : Nat} (w : World) (hA : Nm w a k c n) (hk : k ≤ 4000000) :
  Ret Tryz.prog 122 #[.slice a k c] w (fun v w' => v = .int .i64 ((bl n + 31) / 32 : Nat) ∧ Ext w w') := by
 have hbc := bl_cap hA.lt
 refine enter (S := No) (l := [_]) (L := []) 7 Tryz.func122 rfl rfl rfl (St.start w No) ?_; refine yA ?_; refine aI rfl ?_; refine yC ?_; refine mS rfl ?_; refine jD Tryz.func76 (fun w h => rBits_ok w ((Kn.old hA).at_ 0 rfl h) (by omega)) ?_; refine zg (fun _ => R_addN (n := (bl n)) (b := 31) rfl rfl (by omega)) ?_; refine zg (fun _ => R_quoN (a := ((bl n) + 31)) (b := 32) rfl rfl (by omega) (by omega)) ?_; refine aI rfl ?_; refine yB ?_; refine ze ?_; refine zo (v := .int _ _) rfl rfl rfl ?_; exact fun w' hw => ⟨rfl, hw.fr (w, No) zm0⟩
theorem digs_lt (n : Nat) : n < b32 ^ ((bl n + 31) / 32) := by
 rw [b32_pow]
 exact Nat.lt_of_lt_of_le (lt_bl n) (Nat.pow_le_pow_right (by decide) (by omega))
theorem digs_ge {n : Nat} (h : n ≠ 0) : b32 ^ ((bl n + 31) / 32 - 1) ≤ n ∧ 0 < (bl n + 31) / 32 := by
 have h1 := bl_pos h
 refine ⟨?_, by omega⟩
 rw [b32_pow]
 exact Nat.le_trans (Nat.pow_le_pow_right (by decide) (by omega)) (bl_ge h)
theorem digs_sz (n : Nat) : (bl n + 31) / 32 ≤ 2 * sz n := by unfold sz; omega
def rj (X Y j : Nat) : Nat := X / b32 ^ j % Y
def qz (X Y j : Nat) : Nat := X / Y / b32 ^ j * b32 ^ j
def sh32 (R : Nat) : Nat := R * 2 ^ 32
def uj (X Y i : Nat) : Nat := sh32 (rj X Y (i + 1)) + dg b32 X i
theorem sh32_sz (R : Nat) : sz (sh32 R) ≤ (64 * sz R + 32 + 63) / 64 := sz_shl R 32
theorem lt_B {g : Nat} (h : g < b32) : g < Go.Num.B := Nat.lt_trans h (by decide)
theorem dg_B (n i : Nat) : dg b32 n i < Go.Num.B := lt_B (dg_lt b32_pos n i)
theorem min_b (x : Nat) : min x 4294967295 < b32 := Nat.lt_of_le_of_lt (Nat.min_le_right _ _) (by decide)
theorem min_B (x : Nat) : min x 4294967295 < Go.Num.B := lt_B (min_b x)
theorem rj0 (X Y : Nat) : rj X Y 0 = X % Y := by unfold rj; rw [Nat.pow_zero, Nat.div_one]
theorem qz0 (X Y : Nat) : qz X Y 0 = X / Y := by unfold qz; rw [Nat.pow_zero, Nat.div_one, Nat.mul_one]
theorem rj_lt (X : Nat) {Y : Nat} (h : 0 < Y) (j : Nat) : rj X Y j < Y := Nat.mod_lt _ h
section
variable {X Y mm nn : Nat}
theorem rdiv_r0 (hX : X < b32 ^ mm) (hY : b32 ^ (nn - 1) ≤ Y) (h0 : 0 < nn) (hn : nn ≤ mm) : X / 2 ^ (32 * (mm - nn + 1)) = rj X Y (mm - nn + 1) := by
 unfold rj
 rw [← b32_pow, Nat.mod_eq_of_lt]
 rw [Nat.div_lt_iff_lt_mul (b32pow_pos _)]
 refine Nat.lt_of_lt_of_le hX ?_
 have h1 : b32 ^ mm = b32 ^ (nn - 1) * b32 ^ (mm - nn + 1) := by rw [← Nat.pow_add]; congr 1; omega
 rw [h1]
 exact Nat.mul_le_mul_right _ hY
theorem rdiv_q (hX : X < b32 ^ mm) (hY : b32 ^ (nn - 1) ≤ Y) (h0 : 0 < nn) (hn : nn ≤ mm) : X / Y < b32 ^ (mm - nn + 1) := by
 have hp : 0 < Y := Nat.lt_of_lt_of_le (b32pow_pos _) hY
 rw [Nat.div_lt_iff_lt_mul hp]
 refine Nat.lt_of_lt_of_le hX ?_
 have h1 : b32 ^ mm = b32 ^ (mm - nn + 1) * b32 ^ (nn - 1) := by rw [← Nat.pow_add]; congr 1; omega
 rw [h1]
 exact Nat.mul_le_mul_left _ hY
theorem rdiv_z0 (hX : X < b32 ^ mm) (hY : b32 ^ (nn - 1) ≤ Y) (h0 : 0 < nn) (hn : nn ≤ mm) : wid (qz X Y (mm - nn + 1)) (mm - nn + 1) = 0 := by
 unfold qz
 rw [Nat.div_eq_of_lt (rdiv_q hX hY h0 hn), Nat.zero_mul]
 exact lmV_inj (wid_lt _ _) (Bpow_pos _) fun j hj => by rw [wid_dg hj, dg_zero, dg_zero]
theorem rdiv_dig (hY : b32 ^ (nn - 1) ≤ Y) (hY2 : Y < b32 ^ nn) (h0 : 0 < nn) (i : Nat) {U : Nat} (hU : U = rj X Y (i + 1) * 2 ^ 32 + dg b32 X i) : U / Y ≤ min ((dg b32 U nn * 4294967296 + dg b32 U (nn - 1)) / dg b32 Y (nn - 1)) 4294967295 ∧ dg b32 Y (nn - 1) ≠ 0 ∧ dg b32 (X / Y) i = U / Y ∧ U % Y = rj X Y i ∧ U < b32 ^ (nn + 1) := by
 unfold rj at hU ⊢
 have hp : 0 < Y := Nat.lt_of_lt_of_le (b32pow_pos _) hY
 rw [← b32_two] at hU
 have hs := small_digit b32_pos hp X i
 have hst : X / b32 ^ i % Y = (X / b32 ^ (i + 1) % Y * b32 + dg b32 X i) % Y := (small_step b32_pos hp X i).2
 rw [← hU] at hs hst
 have hUl : U < b32 ^ (nn + 1) := by
  have h1 := Nat.mod_lt (X / b32 ^ (i + 1)) hp
  have h2 := dg_lt b32_pos X i
  rw [Nat.pow_succ]
  have h3 : (X / b32 ^ (i + 1) % Y + 1) * b32 ≤ Y * b32 := Nat.mul_le_mul_right _ h1
  have h4 : Y * b32 ≤ b32 ^ nn * b32 := Nat.mul_le_mul_right _ (Nat.le_of_lt hY2)
  rw [Nat.add_mul, Nat.one_mul] at h3
  omega
 have ht1 := top_one h0 hY2
 have htp : 0 < dg b32 Y (nn - 1) := by rw [← ht1]; exact Nat.div_pos hY (b32pow_pos _)
 have ht2 := top_two (b := b32) (i := nn) h0 hUl
 have hg := guess_ge (u := U) (v := Y) (q := U / Y) (p := b32 ^ (nn - 1)) (b32pow_pos _) (by rw [ht1]; exact htp) (Nat.div_mul_le_self _ _)
 rw [ht1, ht2] at hg
 refine ⟨Nat.le_min.2 ⟨hg, Nat.le_of_lt_succ hs.1⟩, by omega, hs.2, hst.symm, hUl⟩
theorem rdiv_put (X Y : Nat) {i K : Nat} (hi : i < K) : setd Go.Num.B (wid (qz X Y (i + 1)) K) i (dg b32 (X / Y) i) = wid (qz X Y i) K := by
 unfold qz
 generalize X / Y = Q
 rw [wid_set (dg_lt b32_pos _ _) hi]
 congr 1
 have h0 := high_dg (b := b32) b32_pos Q i
 have h1 := setd_add (b := b32) (n := Q / b32 ^ (i + 1) * b32 ^ (i + 1)) (j := i) (y := dg b32 Q i)
 rw [h0, Nat.zero_add] at h1
 rw [h1, ← high_step]
theorem rdiv_small {n m s : Nat} (h : (bl (n * 2 ^ s) + 31) / 32 < (bl (m * 2 ^ s) + 31) / 32) : n / m = 0 ∧ n % m = n := by
 have hm : m * 2 ^ s ≠ 0 := fun h0 => by rw [h0] at h; exact absurd h (by rw [show (bl 0 + 31) / 32 = 0 from rfl]; exact Nat.not_lt_zero _)
 have h1 := digs_lt (n * 2 ^ s)
 have h2 := (digs_ge hm).1
 have h3 : n * 2 ^ s < m * 2 ^ s := Nat.lt_of_lt_of_le h1 (Nat.le_trans (Nat.pow_le_pow_right b32_pos (by omega)) h2)
 have h4 : n < m := Nat.lt_of_mul_lt_mul_right h3
 exact ⟨Nat.div_eq_of_lt h4, Nat.mod_eq_of_lt h4⟩
end
theorem u_sz {R Y d : Nat} (h : R ≤ Y) (hd : d < b32) : sz (R * 2 ^ 32 + d) ≤ sz Y + 1 := by
 refine sz_iff.2 ?_
 have h1 : R < Go.Num.B ^ sz Y := Nat.lt_of_le_of_lt h (lt_sz Y)
 have h0 : Go.Num.B ^ (sz Y + 1) = Go.Num.B ^ sz Y * Go.Num.B := Nat.pow_succ _ _
 have h2 : (R + 1) * 2 ^ 32 ≤ Go.Num.B ^ sz Y * 2 ^ 32 := Nat.mul_le_mul_right _ h1
 have h3 : Go.Num.B ^ sz Y * 2 ^ 32 ≤ Go.Num.B ^ sz Y * Go.Num.B := Nat.mul_le_mul_left _ (by decide)
 have hb9 : b32 = 2 ^ 32 := b32_two
 rw [hb9] at hd
 rw [Nat.add_mul, Nat.one_mul] at h2
 omega
theorem rShl32_ok {a : Option Addr} {k c n : Nat} (w : World) (hA : Nm w a k c n) (hs : k ≤ 1000000) : Ret Tryz.prog 121 #[.slice a k c, .int .i64 32] w (Tel (fun a c => .slice a (sz (sh32 n)) c) (sz (sh32 n)) (sh32 n) w) := rShl_ok w hA 32 ⟨hs, by decide⟩
theorem rAddU_ok {a a2 : Option Addr} {k c k2 c2 X Y i : Nat} (w : World) (hA : Nm w a k c (sh32 (rj X Y (i + 1)))) (hB : Nm w a2 k2 c2 (dg b32 X i)) (hs : k ≤ 1000000 ∧ k2 ≤ 1000000) : Ret Tryz.prog 124 #[.slice a k c, .slice a2 k2 c2] w (Tel (fun a c => .slice a (sz (uj X Y i)) c) (sz (uj X Y i)) (uj X Y i) w) := rAdd_ok w hA hB hs
theorem cmpN_gt0 {n m : Nat} (h : (0 : Int) < cmpN n m) : m < n := by
 unfold cmpN at h
 split at h
 ·exact absurd h (by decide)
 ·split at h
  ·assumption
  ·exact absurd h (by decide)
theorem cmpN_le0 {n m : Nat} (h : ¬ (0 : Int) < cmpN n m) : n ≤ m := by
 rcases Nat.lt_or_ge m n with h1 | h1
 ·rw [cmpN_gt h1] at h; exact absurd (by decide) h
 ·exact h1
theorem rDiv_ok {a a2 : Option Addr} {k c k2 c2 n m : Nat} (w : World) (hA : Nm w a k c n) (hB : Nm w a2 k2 c2 m) (hs : k ≤ 10000 ∧ k2 ≤ 10000 ∧ m ≠ 0) :
  Ret Tryz.prog 78 #[.slice a k c, .slice a2 k2 c2] w (Tel2 (fun a c a2 c2 => .tuple #[.slice a (sz (n / m)) c, .slice a2 (sz (n % m)) c2]) (sz (n / m)) (n / m) (sz (n % m)) (n % m) w) := by
 have hzn : sz n ≤ k := sz_iff.2 hA.lt; have hzm : sz m ≤ k2 := sz_iff.2 hB.lt; have hx9 := sz_shl n ((32 - bl m % 32) % 32); have hy9 := sz_shl m ((32 - bl m % 32) % 32); have hdx := digs_sz (n * 2 ^ ((32 - bl m % 32) % 32)); have hdy := digs_sz (m * 2 ^ ((32 - bl m % 32) % 32))
 have hm9 : m * 2 ^ ((32 - bl m % 32) % 32) ≠ 0 := Nat.mul_ne_zero hs.2.2 (Nat.pos_iff_ne_zero.1 (Nat.pow_pos (by decide)))
 refine enter (S := No) (l := [_, _]) (L := []) 106 Tryz.func78 rfl rfl rfl (St.start w No) ?_; refine yA ?_; refine za (v := .slice _ _ _) rfl ?_; refine za (v := .slice _ _ _) rfl ?_; refine yC ?_; refine mS rfl ?_; refine jD Tryz.func76 (fun w h => rBits_ok w ((Kn.old hB).at_ 0 rfl h) (by omega)) ?_; refine zg (fun _ => R_remU (a := (bl m)) (b := 32) rfl rfl (by omega)) ?_; refine zg (fun _ => R_subN (n := 32) (b := ((bl m) % 32)) rfl rfl (by omega) (by omega)) ?_; refine zg (fun _ => R_remU (a := (32 - ((bl m) % 32))) (b := 32) rfl rfl (by omega)) ?_; refine aI rfl ?_; refine yB ?_
 refine yA ?_; refine mS rfl ?_; refine mI rfl ?_; refine w_tel (fun w => zR Tryz.func121 rfl rfl rfl) rfl rfl (fun w h => rShl_ok w ((Kn.old hA).at_ 0 rfl h) ((32 - ((bl m) % 32)) % 32) ⟨by omega, by omega⟩) (fun xX aX cX hKX hNX => ?_)
 refine mS rfl ?_; refine mI rfl ?_; refine w_tel (fun w => zR Tryz.func121 rfl rfl rfl) rfl rfl (fun w h => rShl_ok w ((Kn.old hB).at_ 1 rfl h) ((32 - ((bl m) % 32)) % 32) ⟨by omega, by omega⟩) (fun xY aY cY hKY hNY => ?_)
 refine za (v := .slice _ _ _) rfl ?_; refine za (v := .slice _ _ _) rfl ?_; refine yC ?_; refine mS rfl ?_; refine jD Tryz.func122 (fun w h => rdigits_ok w (hKX.at_ 1 rfl h) (by omega)) ?_; refine mS rfl ?_; refine jD Tryz.func122 (fun w h => rdigits_ok w (hKY.at_ 0 rfl h) (by omega)) ?_; refine aI rfl ?_; refine aI rfl ?_; refine yB ?_
 refine c_cut (fun e B L => ∃ (s mm nn X Y : Nat), e 6 = .int .i64 (s : Nat) ∧ e 7 = .slice aX (sz X) cX ∧ e 8 = .slice aY (sz Y) cY ∧ e 9 = .int .i64 (mm : Nat) ∧ e 10 = .int .i64 (nn : Nat) ∧ B = [xY, xX, (w, No)] ∧ L = [] ∧ s < 32 ∧ X = n * 2 ^ s ∧ Y = m * 2 ^ s ∧ X < b32 ^ mm ∧ b32 ^ (nn - 1) ≤ Y ∧ Y < b32 ^ nn ∧ 0 < nn ∧ nn ≤ mm ∧ Kn xX aX (sz X) cX X ∧ Kn xY aY (sz Y) cY Y ∧ sz X ≤ 10010 ∧ sz Y ≤ 10010 ∧ mm ≤ 20020) ?_ ?_
 ·refine yA ?_; refine mI rfl ?_; refine zg (fun _ => R_eqN (a := ((bl (m * 2 ^ ((32 - ((bl m) % 32)) % 32)) + 31) / 32)) (b := 0) rfl rfl) ?_; refine mB rfl ?_; refine zd (t := 33) rfl (fun h3 => ?_) (fun h3 => ?_)
  ·exact absurd h3 (Nat.pos_iff_ne_zero.1 (digs_ge hm9).2)
  ·refine zw rfl rfl (bF h3) ?_; refine mI rfl ?_; refine zw rfl rfl (bF h3) ?_; refine mI rfl ?_; refine zw rfl rfl (bF h3) ?_; refine zg (fun _ => R_ltN (a := ((bl (n * 2 ^ ((32 - ((bl m) % 32)) % 32)) + 31) / 32)) (b := ((bl (m * 2 ^ ((32 - ((bl m) % 32)) % 32)) + 31) / 32)) rfl rfl) ?_; refine jF (bF h3) rfl ?_; refine yB ?_; refine zD rfl (fun h4 => ?_) (fun h4 => ?_)
   ·have hsm := rdiv_small h4
    refine yA ?_; refine mS rfl ?_; refine w_tel (fun w => zR Tryz.func80 rfl rfl rfl) rfl rfl (fun w h => rNorm_ok w ((Kn.old hA).at_ 2 rfl h) (by omega)) (fun x5 a5 c5 hK5 hN5 => ?_)
    refine za (v := .slice _ _ _) rfl ?_; refine za (v := .slice _ _ _) rfl ?_; refine yB ?_; refine ze ?_; refine zt (?_)
    rw [hsm.1, hsm.2]
    refine r_two (v := .slice _ _ _) (v2 := .slice _ _ _) rfl rfl rfl rfl rfl ?_; exact fun w' hw => ⟨_, _, _, _, rfl, Nm.nil _, (hK5.at_ 0 rfl hw), Fsh.nil _ _, (hN5 _ zm2), hw.fr (w, No) zm3⟩
   ·refine zi ?_; exact k_mid ⟨((32 - bl m % 32) % 32), ((bl (n * 2 ^ ((32 - bl m % 32) % 32)) + 31) / 32), ((bl (m * 2 ^ ((32 - bl m % 32) % 32)) + 31) / 32), _, _, rfl, rfl, rfl, rfl, rfl, rfl, rfl, by omega, rfl, rfl, digs_lt _, (digs_ge hm9).1, digs_lt _, (digs_ge hm9).2, by omega, hKX, hKY, by omega, by omega, by omega⟩
 rintro e B L ⟨s, mm, nn, X, Y, e6_1, e7_1, e8_1, e9_1, e10_1, rfl, rfl, hs32, hXe, hYe, hXl, hYg, hYl, hn0, hnm, hKX9, hKY9, hXs, hYs, hms⟩
 have hY0 : 0 < Y := Nat.lt_of_lt_of_le (b32pow_pos _) hYg
 refine yA ?_; refine mI e9_1 ?_; refine mI e10_1 ?_; refine zg (fun _ => R_subN (n := mm) (b := nn) rfl rfl (by omega) (by omega)) ?_; refine zg (fun _ => R_addN (n := (mm - nn)) (b := 1) rfl rfl (by omega)) ?_; refine w_makeU (n := ((mm - nn) + 1)) slt41 rfl rfl (by omega) (by omega) (fun ob gob uob => ?_)
 refine za (v := .slice _ _ _) rfl ?_; refine yC ?_; refine mS e7_1 ?_; refine mI e9_1 ?_; refine mI e10_1 ?_; refine zg (fun _ => R_subN (n := mm) (b := nn) rfl rfl (by omega) (by omega)) ?_; refine zg (fun _ => R_addN (n := (mm - nn)) (b := 1) rfl rfl (by omega)) ?_; refine zg (fun _ => R_mulN (n := 32) (b := ((mm - nn) + 1)) rfl rfl (by omega)) ?_; refine w_tel (fun w => zR Tryz.func123 rfl rfl rfl) rfl rfl (fun w h => (by have := rShr_ok w (hKX9.at_ 1 rfl h) (32 * (mm - nn + 1)) ⟨by omega, by omega⟩; rwa [rdiv_r0 hXl hYg hn0 hnm] at this)) (fun xr0 ar0 cr0 hKr0 hNr0 => ?_)
 refine za (v := .slice _ _ _) rfl ?_; refine yB ?_; refine zq ?_; refine yA ?_; refine mI e9_1 ?_; refine mI e10_1 ?_; refine zg (fun _ => R_subN (n := mm) (b := nn) rfl rfl (by omega) (by omega)) ?_; refine aI rfl ?_; refine yB ?_; refine zB ?_; refine c_st (B' := _) (L' := [(ob, cel (lmV (wid (qz X Y (mm - nn + 1)) (mm - nn + 1)) (mm - nn + 1)) 75)]) (fun w h => by rw [rdiv_z0 hXl hYg hn0 hnm]; exact h) ?_
 refine c_loop (fun m9 e B L => ∃ (j : Nat) (xr : BaseW) (ar : Option Addr) (cr : Nat), e 6 = .int .i64 (s : Nat) ∧ e 7 = .slice aX (sz X) cX ∧ e 8 = .slice aY (sz Y) cY ∧ e 9 = .int .i64 (mm : Nat) ∧ e 10 = .int .i64 (nn : Nat) ∧ e 11 = .slice (some ⟨ob, 0, none⟩) (mm - nn + 1) (mm - nn + 1) ∧ e 12 = .slice ar (sz (rj X Y j)) cr ∧ e 13 = .int .i64 ((j : Nat) - 1 : Int) ∧ B = [xr, xY, xX, (w, No)] ∧ L = [(ob, cel (lmV (wid (qz X Y j) (mm - nn + 1)) (mm - nn + 1)) 75)] ∧ j ≤ (mm - nn + 1) ∧ Kn xr ar (sz (rj X Y j)) cr (rj X Y j) ∧ m9 = j + 1) _ ⟨(mm - nn + 1), xr0, ar0, cr0, e6_1, e7_1, e8_1, e9_1, e10_1, rfl, rfl, (congrArg (fun z : Int => Value.int .i64 z) (by omega)), rfl, rfl, Nat.le_refl _, hKr0, rfl⟩ ?_
 rintro m9 e B L ⟨j, xr, ar, cr, e6_2, e7_2, e8_2, e9_2, e10_2, e11_2, e12_2, e13_2, rfl, rfl, hj, hKr, rfl⟩
 refine zq ?_; refine yA ?_; refine mI e13_2 ?_; refine jh rfl rfl ?_; refine yB ?_; refine zD rfl (fun h7 => ?_) (fun h7 => ?_)
 ·obtain ⟨i, rfl⟩ : ∃ i, j = i + 1 := ⟨j - 1, by omega⟩; obtain ⟨hg0, hg1, hg2, hg3, -⟩ := rdiv_dig (X := X) hYg hYl hn0 i (U := (uj X Y i)) rfl; have hRl := rj_lt X hY0 (i + 1); have hUs : sz (uj X Y i) ≤ sz Y + 1 := u_sz (R := (rj X Y (i + 1))) (d := dg b32 X i) (Nat.le_of_lt hRl) (dg_lt b32_pos _ _); have hRs := sz_mono (Nat.le_of_lt hRl); have hRs2 := sh32_sz (rj X Y (i + 1)); have hd9 := dg_lt b32_pos X i; have hBv : Go.Num.B = 18446744073709551616 := rfl; have hb9 : b32 = 4294967296 := rfl; have hdU := dg_lt b32_pos (uj X Y i) nn; have hdU2 := dg_lt b32_pos (uj X Y i) (nn - 1)
  refine zi ?_; refine zk ?_; refine zq ?_; refine zB ?_; refine yA ?_; refine mS e12_2 ?_; refine w_tel (fun w => zR Tryz.func121 rfl rfl rfl) rfl rfl (fun w h => rShl32_ok w (hKr.at_ 0 rfl h) (by omega)) (fun xl al cl hKl hNl => ?_)
  refine mS e7_2 ?_; refine mI (e13_2.trans (congrArg (Value.int .i64) (show (((i + 1 : Nat) : Int) - 1) = (i : Nat) by omega))) ?_; refine jD Tryz.func125 (fun w h => rdigit_ok w (hKX9.at_ 3 rfl h) i ⟨by omega, by omega⟩) ?_; refine zS slt42 (by decide) rfl rfl (fun b9 gb9 ub9 => ?_)
  refine w_tel (fun w => zR Tryz.func124 rfl rfl rfl) rfl rfl (fun w h => rAddU_ok w (hKl.at_ 0 rfl h) (Nm.one (h.at_ 0 rfl) (dg_B _ _)) ⟨by omega, by omega⟩) (fun xu au cu hKu hNu => ?_)
  refine za (v := .slice _ _ _) rfl ?_; refine yC ?_; refine mS rfl ?_; refine mI e10_2 ?_; refine jD Tryz.func125 (fun w h => rdigit_ok w (hKu.at_ 0 rfl h) nn ⟨by omega, by omega⟩) ?_; refine zg (fun _ => R_mulU (a := (dg b32 (uj X Y i) nn)) (b := 4294967296) rfl rfl (by omega)) ?_; refine mS rfl ?_; refine mI e10_2 ?_; refine zg (fun _ => R_subN (n := nn) (b := 1) rfl rfl (by omega) (by omega)) ?_; refine jD Tryz.func125 (fun w h => rdigit_ok w (hKu.at_ 0 rfl h) (nn - 1) ⟨by omega, by omega⟩) ?_; refine zg (fun _ => R_addU (a := ((dg b32 (uj X Y i) nn) * 4294967296)) (b := (dg b32 (uj X Y i) (nn - 1))) rfl rfl (by omega)) ?_
  refine mS e8_2 ?_; refine mI e10_2 ?_; refine zg (fun _ => R_subN (n := nn) (b := 1) rfl rfl (by omega) (by omega)) ?_; refine jD Tryz.func125 (fun w h => rdigit_ok w (hKY9.at_ 3 rfl h) (nn - 1) ⟨by omega, by omega⟩) ?_; refine zg (fun _ => R_quoU (a := (((dg b32 (uj X Y i) nn) * 4294967296) + (dg b32 (uj X Y i) (nn - 1)))) (b := (dg b32 Y (nn - 1))) rfl rfl (by omega) (by omega)) ?_; refine zg (fun _ => R_minN (a := ((((dg b32 (uj X Y i) nn) * 4294967296) + (dg b32 (uj X Y i) (nn - 1))) / (dg b32 Y (nn - 1)))) (b := 4294967295) rfl rfl) ?_; refine aI rfl ?_; refine yC ?_; refine mS e8_2 ?_; refine mI rfl ?_
  refine zS slt42 (by decide) rfl rfl (fun b11 gb11 ub11 => ?_)
  refine w_tel (fun w => zR Tryz.func126 rfl rfl rfl) rfl rfl (fun w h => rMul_ok w (hKY9.at_ 3 rfl h) (Nm.one (h.at_ 0 rfl) (min_B _)) ⟨by omega, by omega⟩) (fun xp0 ap0 cp0 hKp0 hNp0 => ?_)
  refine za (v := .slice _ _ _) rfl ?_; refine yB ?_; refine zq ?_; refine zB ?_; refine c_st (B' := [xp0, xu, xY, xX, (w, No)]) (L' := [(ob, cel (lmV (wid (qz X Y (i + 1)) (mm - nn + 1)) (mm - nn + 1)) 75)]) (fun w h => (h.pick [2] (by decide)).unbase (fun x hx => by rcases List.mem_cons.1 hx with rfl | hx; (exact zm0); rcases List.mem_cons.1 hx with rfl | hx; (exact zm1); rcases List.mem_cons.1 hx with rfl | hx; (exact zm4); rcases List.mem_cons.1 hx with rfl | hx; (exact (.tail _ zm4)); rcases List.mem_cons.1 hx with rfl | hx; (exact (.tail _ (.tail _ zm4))); exact absurd hx (by simp))) ?_
  refine c_loop (fun m9 e B L => ∃ (g : Nat) (xp : BaseW) (ap : Option Addr) (cp : Nat), e 6 = .int .i64 (s : Nat) ∧ e 7 = .slice aX (sz X) cX ∧ e 8 = .slice aY (sz Y) cY ∧ e 9 = .int .i64 (mm : Nat) ∧ e 10 = .int .i64 (nn : Nat) ∧ e 11 = .slice (some ⟨ob, 0, none⟩) (mm - nn + 1) (mm - nn + 1) ∧ e 12 = .slice au (sz (uj X Y i)) cu ∧ e 13 = .int .i64 (i : Nat) ∧ e 14 = .int .u64 (g : Nat) ∧ e 15 = .slice ap (sz (Y * g)) cp ∧ B = [xp, xu, xY, xX, (w, No)] ∧ L = [(ob, cel (lmV (wid (qz X Y (i + 1)) (mm - nn + 1)) (mm - nn + 1)) 75)] ∧ Kn xp ap (sz (Y * g)) cp (Y * g) ∧ (uj X Y i) / Y ≤ g ∧ g < b32 ∧ m9 = g + 1) _ ⟨(min ((dg b32 (uj X Y i) nn * 4294967296 + dg b32 (uj X Y i) (nn - 1)) / dg b32 Y (nn - 1)) 4294967295), xp0, ap0, cp0, e6_2, e7_2, e8_2, e9_2, e10_2, e11_2, rfl, (e13_2.trans (congrArg (Value.int .i64) (show (((i + 1 : Nat) : Int) - 1) = (i : Nat) by omega))), rfl, rfl, rfl, rfl, hKp0, hg0, min_b _, rfl⟩ ?_
  rintro m9 e B L ⟨g, xp, ap, cp, e6_3, e7_3, e8_3, e9_3, e10_3, e11_3, e12_3, e13_3, e14_3, e15_3, rfl, rfl, hKp, hq, hg9, rfl⟩
  have hYg9 := times_lt (V := Y) (lt_B hg9)
  refine zq ?_; refine yA ?_; refine mS e15_3 ?_; refine mS e12_3 ?_; refine jD Tryz.func127 (fun w h => rCmp_ok w (hKp.at_ 0 rfl h) (hKu.at_ 1 rfl h) ⟨by omega, by omega⟩) ?_; refine jg rfl rfl ?_; refine yB ?_; refine zD rfl (fun h13 => ?_) (fun h13 => ?_)
  ·have hgt := cmpN_gt0 h13; have hgq : (uj X Y i) / Y < g := (Nat.div_lt_iff_lt_mul hY0).2 (by rw [Nat.mul_comm]; exact hgt); have hle9 : Y ≤ Y * g := Nat.le_mul_of_pos_right _ (by omega)
   refine zi ?_; refine zk ?_; refine zB ?_; refine yA ?_; refine mS e15_3 ?_; refine mS e8_3 ?_; refine w_tel (fun w => zR Tryz.func128 rfl rfl rfl) rfl rfl (fun w h => (by have := rSub_ok w (hKp.at_ 0 rfl h) (hKY9.at_ 2 rfl h) ⟨by omega, by omega⟩ hle9; rwa [← Nat.mul_sub_one] at this)) (fun xv av cv hKv hNv => ?_)
   refine za (v := .slice _ _ _) rfl ?_; refine yB ?_; refine zr ?_; refine mI e14_3 ?_; refine zg (fun _ => R_subU (a := g) (b := 1) rfl rfl (by omega) (by omega)) ?_; refine aI rfl ?_; refine zn ?_; refine zO (?_)
   refine zK (B' := [xv, xu, xY, xX, (w, No)]) (L' := [(ob, cel (lmV (wid (qz X Y (i + 1)) (mm - nn + 1)) (mm - nn + 1)) 75)]) (fun w h => (h.pick [0] (by decide)).unbase (fun x hx => by rcases List.mem_cons.1 hx with rfl | hx; (exact zm0); rcases List.mem_cons.1 hx with rfl | hx; (exact zm2); rcases List.mem_cons.1 hx with rfl | hx; (exact zm3); rcases List.mem_cons.1 hx with rfl | hx; (exact zm4); rcases List.mem_cons.1 hx with rfl | hx; (exact (.tail _ zm4)); exact absurd hx (by simp))) ?_; exact k_again _ (by omega) ⟨(g - 1), xv, av, cv, e6_3, e7_3, e8_3, e9_3, e10_3, e11_3, e12_3, e13_3, rfl, rfl, rfl, rfl, hKv, by omega, by omega, rfl⟩
  ·have hle8 := cmpN_le0 h13; have hgq := digit_eq hY0 hq (by rw [Nat.mul_comm]; exact hle8); have hrest : (uj X Y i) - Y * g = (rj X Y i) := (by rw [← hg3]; have := Nat.div_add_mod ((uj X Y i)) (Y); rw [← hgq] at this; omega)
   refine zX ?_; refine zx (zx (b_here rfl (zk ?_))); refine yA ?_; refine mS e12_3 ?_; refine mS e15_3 ?_; refine w_tel (fun w => zR Tryz.func128 rfl rfl rfl) rfl rfl (fun w h => (by have := rSub_ok w (hKu.at_ 1 rfl h) (hKp.at_ 0 rfl h) ⟨by omega, by omega⟩ hle8; rwa [hrest] at this)) (fun xq9 aq9 cq9 hKq9 hNq9 => ?_)
   refine za (v := .slice _ _ _) rfl ?_; refine yB ?_; refine zr ?_; refine mS e11_3 ?_; refine mI e13_3 ?_; refine mI e14_3 ?_; refine zg (fun _ => R_iaN (i := i) sl41 rfl rfl (by omega)) ?_; refine w_putU (dv := g) (z' := (wid (qz X Y i) (mm - nn + 1))) (j := i) 0 rfl z75 rfl rfl (by exact lt_B hg9) (by omega) (by rw [hgq, ← hg2]; exact rdiv_put _ _ (by omega)) ?_; refine zn ?_; refine zO (zk ?_); refine zr ?_; refine mI e13_3 ?_; refine zg (fun _ => R_subi rfl rfl (by omega)) ?_; refine aI rfl ?_; refine zn ?_
   refine zK (B' := [xq9, xY, xX, (w, No)]) (L' := [(ob, cel (lmV (wid (qz X Y i) (mm - nn + 1)) (mm - nn + 1)) 75)]) (fun w h => (h.pick [0] (by decide)).unbase (fun x hx => by rcases List.mem_cons.1 hx with rfl | hx; (exact zm0); rcases List.mem_cons.1 hx with rfl | hx; (exact zm3); rcases List.mem_cons.1 hx with rfl | hx; (exact zm4); rcases List.mem_cons.1 hx with rfl | hx; (exact (.tail _ zm4)); exact absurd hx (by simp))) ?_; exact k_again _ (by omega) ⟨i, xq9, aq9, cq9, e6_3, e7_3, e8_3, e9_3, e10_3, e11_3, rfl, rfl, rfl, rfl, by omega, hKq9, rfl⟩
 ·obtain rfl : j = 0 := (by omega); rw [qz0]; have hsd : X / Y = n / m ∧ rj X Y 0 / 2 ^ s = n % m := (by rw [rj0, hXe, hYe]; exact shl_div n m s); have hRs := sz_mono (Nat.le_of_lt (rj_lt X hY0 0))
  refine zX ?_; refine zx (zx (b_here rfl (zk ?_))); refine yA ?_; refine mS e11_2 ?_; refine w_tel (fun w => zR Tryz.func129 rfl rfl rfl) rfl rfl (fun w h => made2_ok w (Nm.own 0 rfl (wid_lt _ _) (Nat.le_refl _) h) (by omega) (Nat.mod_eq_of_lt (rdiv_q hXl hYg hn0 hnm))) (fun x16 a16 c16 hK16 hN16 => ?_)
  refine mS e12_2 ?_; refine mI e6_2 ?_; refine w_tel (fun w => zR Tryz.func123 rfl rfl rfl) rfl rfl (fun w h => rShr_ok w (hKr.at_ 1 rfl h) s ⟨by omega, by omega⟩) (fun x17 a17 c17 hK17 hN17 => ?_)
  refine za (v := .slice _ _ _) rfl ?_; refine za (v := .slice _ _ _) rfl ?_; refine yB ?_; refine ze ?_
  rw [← hsd.1, ← hsd.2]
  refine r_two (v := .slice _ _ _) (v2 := .slice _ _ _) rfl rfl rfl rfl rfl ?_; exact fun w' hw => ⟨_, _, _, _, rfl, (hK16.at_ 1 rfl hw), (hK17.at_ 0 rfl hw), (hN16 _ zm3), (hN17 _ zm4), hw.fr (w, No) (.tail _ zm4)⟩
end Go.Proofs.YtikdkendinnalaaGreatDoor
end
section
namespace Go.Proofs.YtikdkendinnalaaGreatDoor
open Go.RowKit Go.Sx
open Go.Num
theorem text_zero {n : Nat} {pre : List UInt8} (hr : rdec n = pre) (h : pre.reverse = []) : Lib.decDigits n = [48] := by
 have h0 : pre = [] := by simpa using h
 rw [h0] at hr
 by_cases hn : n = 0
 ·subst hn; exact decDigits_zero
 ·rw [rdec_pos hn] at hr; cases hr
theorem text_rev {n : Nat} {pre : List UInt8} (hr : rdec n = pre) (h : ¬ pre.reverse = []) : Lib.decDigits n = pre.reverse := by
 by_cases hn : n = 0
 ·subst hn; rw [rdec_zero] at hr; rw [← hr] at h; exact absurd rfl h
 ·rw [dec_rev hn, hr]
theorem rText_ok {a : Option Addr} {k c n : Nat} (w : World) (hA : Nm w a k c n) (hs : k ≤ 10000) :
  Ret Tryz.prog 82 #[.slice a k c] w (fun v w' => v = str (Lib.decDigits n) ∧ Ext w w') := by
 have hzn : sz n ≤ k := sz_iff.2 hA.lt; have hln := Nat.le_trans (rdec_len n) (bl_sz hzn); have hBv : Go.Num.B = 18446744073709551616 := rfl
 refine enter (S := No) (l := [_]) (L := []) 35 Tryz.func82 rfl rfl rfl (St.start w No) ?_; refine yA ?_; refine za (v := str _) rfl ?_; refine yC ?_; refine za (v := str _) rfl ?_; refine yC ?_; refine mS rfl ?_; refine w_tel (fun w => zR Tryz.func80 rfl rfl rfl) rfl rfl (fun w h => rNorm_ok w ((Kn.old hA).at_ 0 rfl h) (by omega)) (fun x0 a0 c0 hK0 hN0 => ?_)
 refine za (v := .slice _ _ _) rfl ?_; refine yB ?_; refine zq ?_; refine zB ?_; refine c_st (B' := _) (L' := []) (fun w h => h) ?_; refine c_loop (fun m9 e B L => ∃ (N : Nat) (xN : BaseW) (aN : Option Addr) (cN : Nat) (pre : List UInt8), e 0 = .slice aN (sz N) cN ∧ e 3 = str pre.reverse ∧ B = [xN, (w, No)] ∧ L = [] ∧ Kn xN aN (sz N) cN N ∧ rdec n = pre ++ rdec N ∧ N ≤ n ∧ m9 = N + 1) _ ⟨n, x0, a0, c0, [], rfl, rfl, rfl, rfl, hK0, rfl, Nat.le_refl _, rfl⟩ ?_
 rintro m9 e B L ⟨N, xN, aN, cN, pre, e0_1, e3_1, rfl, rfl, hKN, hr, hNle, rfl⟩
 refine zq ?_; refine yA ?_; refine mS e0_1 ?_; refine jj sl42 rfl ?_; refine zg (fun _ => R_gtN (a := (sz N)) (b := 0) rfl rfl) ?_; refine yB ?_; refine zD rfl (fun h2 => ?_) (fun h2 => ?_)
 ·have hN0 : N ≠ 0 := (fun h => by rw [h] at h2; exact absurd h2 (by decide)); have hrd := rdec_pos hN0; rw [hrd] at hr; have hpl : pre.length + 1 ≤ (rdec n).length := (by rw [hr, List.length_append, List.length_cons]; omega); have hlr : pre.reverse.length = pre.length := List.length_reverse; have hsN := sz_mono hNle
  refine zi ?_; refine zk ?_; refine zB ?_; refine yA ?_; refine mS e0_1 ?_; refine zS slt42 (by decide) rfl rfl (fun b3 gb3 ub3 => ?_)
  refine w_tel2 (fun w => zR Tryz.func78 rfl rfl rfl) rfl rfl (fun w h => rDiv_ok w (hKN.at_ 0 rfl h) (Nm.one (h.at_ 0 rfl) (by decide)) ⟨by omega, by omega, by decide⟩) (fun x4 a4 c4 a4' c4' hK4 hN4 hK4' hN4' => ?_)
  refine zm rfl ?_; refine jx rfl rfl ?_; refine jx rfl rfl ?_; refine za (v := .slice _ _ _) rfl ?_; refine za (v := .slice _ _ _) rfl ?_; refine yC ?_; refine aI rfl ?_; refine yB ?_; refine zq ?_; refine yA ?_; refine mS rfl ?_; refine jj sl42 rfl ?_; refine zg (fun _ => R_gtN (a := (sz (N % 10))) (b := 0) rfl rfl) ?_; refine yB ?_; refine zD rfl (fun h5 => ?_) (fun h5 => ?_)
  ·have hz1 : N % 10 < 10 := Nat.mod_lt _ (by decide); have hsz1 : sz (N % 10) ≤ 1 := sz_iff.2 (by rw [Nat.pow_one]; omega)
   refine zr ?_; refine mS rfl ?_; refine zg (fun _ => R_iaK (i := 0) sl42 rfl (hK4'.ptr (by omega)) rfl (by omega)) ?_; refine zl (v := .int .u64 ((dg Go.Num.B (N % 10) 0) : Nat)) z75 rfl (fun w h => hK4'.ca 0 rfl (by omega) h) ?_
   rw [dg_self (show N % 10 < Go.Num.B by omega)]
   refine aI rfl ?_; refine yC ?_; refine mI rfl ?_; refine zg (fun _ => R_addU (a := 48) (b := (N % 10)) rfl rfl (by omega)) ?_; refine zg (fun _ => R_convK (n := (48 + (N % 10))) un75 un5 rfl (wrap_u8 (by omega))) ?_
   rw [show (48 + (N % 10)) = (lt10 N).toNat by rw [lt10_nat] <;> omega]
   refine zS slt78 (by decide) rfl rfl (fun b6 gb6 ub6 => ?_)
   refine w_convT (l := [lt10 N]) (cs := []) 0 rfl un78 un5 un9 rfl ?_; refine zm (v := str _) e3_1 ?_; refine zg (fun _ => R_cat rfl rfl (by (try simp only [List.length_append, List.length_cons, List.length_nil]); omega)) ?_; refine za (v := str _) rfl ?_; refine yB ?_; refine zr ?_; refine mS rfl ?_; refine za (v := .slice _ _ _) rfl ?_; refine zn ?_; refine zO (?_)
   refine zK (B' := [x4, (w, No)]) (L' := []) (fun w h => (h.drop (List.nil_sublist _)).unbase (fun x hx => by rcases List.mem_cons.1 hx with rfl | hx; (exact zm0); rcases List.mem_cons.1 hx with rfl | hx; (exact zm2); exact absurd hx (by simp))) ?_; exact k_again _ (by have := Nat.div_lt_self (Nat.pos_of_ne_zero hN0) (show 1 < 10 by decide); omega) ⟨(N / 10), x4, a4, c4, (pre ++ [lt10 N]), rfl, (by rw [List.reverse_append]; rfl), rfl, rfl, hK4, (by rw [hr]; simp), Nat.le_trans (Nat.div_le_self _ _) hNle, rfl⟩
  ·have hz0 : N % 10 = 0 := sz_eq_zero.1 (by omega)
   refine zi ?_; refine zk ?_; refine yA ?_; refine mI rfl ?_; refine zg (fun _ => R_addU (a := 48) (b := 0) rfl rfl (by omega)) ?_; refine zg (fun _ => R_convK (n := (48 + 0)) un75 un5 rfl (wrap_u8 (by omega))) ?_
   rw [show (48 + 0) = (lt10 N).toNat by rw [lt10_nat] <;> omega]
   refine zS slt78 (by decide) rfl rfl (fun b7 gb7 ub7 => ?_)
   refine w_convT (l := [lt10 N]) (cs := []) 0 rfl un78 un5 un9 rfl ?_; refine zm (v := str _) e3_1 ?_; refine zg (fun _ => R_cat rfl rfl (by (try simp only [List.length_append, List.length_cons, List.length_nil]); omega)) ?_; refine za (v := str _) rfl ?_; refine yB ?_; refine zr ?_; refine mS rfl ?_; refine za (v := .slice _ _ _) rfl ?_; refine zn ?_; refine zO (?_)
   refine zK (B' := [x4, (w, No)]) (L' := []) (fun w h => (h.drop (List.nil_sublist _)).unbase (fun x hx => by rcases List.mem_cons.1 hx with rfl | hx; (exact zm0); rcases List.mem_cons.1 hx with rfl | hx; (exact zm2); exact absurd hx (by simp))) ?_; exact k_again _ (by have := Nat.div_lt_self (Nat.pos_of_ne_zero hN0) (show 1 < 10 by decide); omega) ⟨(N / 10), x4, a4, c4, (pre ++ [lt10 N]), rfl, (by rw [List.reverse_append]; rfl), rfl, rfl, hK4, (by rw [hr]; simp), Nat.le_trans (Nat.div_le_self _ _) hNle, rfl⟩
 ·obtain rfl : N = 0 := sz_eq_zero.1 (by omega); rw [rdec_zero, List.append_nil] at hr
  refine zX ?_; refine zx (zx (b_here rfl (zk ?_))); refine zq ?_; refine yA ?_; refine zm (v := str _) e3_1 ?_; refine js rfl rfl ?_; refine yB ?_; refine zD rfl (fun h8 => ?_) (fun h8 => ?_)
  ·refine yA ?_; refine za (v := str _) rfl ?_; refine yB ?_; refine ze ?_; refine zt (?_)
   refine zo (v := str _) rfl rfl rfl ?_; exact fun w' hw => ⟨by rw [text_zero hr h8], hw.fr (w, No) zm1⟩
  ·refine zi ?_; refine zk ?_; refine yA ?_; refine zm (v := str _) e3_1 ?_; refine za (v := str _) rfl ?_; refine yB ?_; refine ze ?_; refine zo (v := str _) rfl rfl rfl ?_; exact fun w' hw => ⟨by rw [text_rev hr h8], hw.fr (w, No) zm1⟩
end Go.Proofs.YtikdkendinnalaaGreatDoor
end
section
namespace Go.Proofs.YtikdkendinnalaaGreatDoor
open Go.RowKit Go.Sx
open Go.Num
theorem iNorm_ok (s : Bool) {a : Option Addr} {k c n : Nat} (w : World) (hA : Nm w a k c n) (hk : k ≤ 4000000) :
  Ret Tryz.prog 79 #[.agg #[.bool s, .slice a k c]] w (Tel (fun a c => .agg #[.bool (ng (iv s n)), .slice a (sz (iv s n).natAbs) c]) (sz (iv s n).natAbs) (iv s n).natAbs w) := by
 rw [ng_iv, iv_abs]
 refine enter (S := No) (l := [_]) (L := []) 16 Tryz.func79 rfl rfl rfl (St.start w No) ?_; refine yA ?_; refine w_boxA rfl (fun p gp up => ?_)
 refine zA zr44 (fun r gr ur => ?_)
 refine yC ?_; refine zf fa44_1 rfl ?_; refine jM 1 z42 rfl ?_; refine w_tel (fun w => zR Tryz.func80 rfl rfl rfl) rfl rfl (fun w h => rNorm_ok w ((Kn.old hA).at_ 0 rfl h) (by omega)) (fun x3 a3 c3 hK3 hN3 => ?_)
 refine za (v := .slice _ _ _) rfl ?_; refine yC ?_; refine zf fa44_0 rfl ?_; refine jM 1 z4 rfl ?_; refine mB rfl ?_; refine zp (t := 9) rfl (fun h4 => ?_) (fun h4 => ?_)
 ·refine zw rfl rfl (bV h4) ?_; refine mS rfl ?_; refine zw rfl rfl (bV h4) ?_; refine jj sl42 rfl ?_; refine zw rfl rfl (bV h4) ?_; refine zg (fun _ => R_gtN (a := (sz n)) (b := 0) rfl rfl) ?_; refine jT (bV h4) rfl ?_; refine mS rfl ?_; refine jb bt44 rfl ?_; refine jv 0 z44 rfl ?_; refine yB ?_; refine ze ?_
  subst h4
  refine r_fin (.inl rfl) rfl (.agg rfl rfl z44 (fun _ h => h.at_ 0 rfl) rfl .nil) ?_; exact fun w' hw => ⟨_, _, by rw [Bool.true_and, ← sz_gt]; rfl, (hK3.at_ 0 rfl hw), (hN3 _ zm0), hw.fr (w, No) zm1⟩
 ·refine zs rfl rfl (bV h4) ?_; refine zs rfl rfl (bV h4) ?_; refine zs rfl rfl (bV h4) ?_; refine jF (bV h4) rfl ?_; refine mS rfl ?_; refine jb bt44 rfl ?_; refine jv 0 z44 rfl ?_; refine yB ?_; refine ze ?_
  subst h4
  refine r_fin (.inl rfl) rfl (.agg rfl rfl z44 (fun _ h => h.at_ 0 rfl) rfl .nil) ?_; exact fun w' hw => ⟨_, _, rfl, (hK3.at_ 0 rfl hw), (hN3 _ zm0), hw.fr (w, No) zm1⟩
theorem iSign_ok (s : Bool) {a : Option Addr} {k c n : Nat} (w : World) (hA : Nm w a k c n) (hk : k ≤ 4000000) :
  Ret Tryz.prog 42 #[.agg #[.bool s, .slice a k c]] w (fun v w' => v = .int .i64 (iv s n).sign ∧ Ext w w') := by
 refine enter (S := No) (l := [_]) (L := []) 9 Tryz.func42 rfl rfl rfl (St.start w No) ?_; refine yA ?_; refine w_boxA rfl (fun p gp up => ?_)
 refine aI rfl ?_; refine yB ?_; refine zq ?_; refine yA ?_; refine zf fa44_1 rfl ?_; refine jM 0 z42 rfl ?_; refine jD Tryz.func76 (fun w h => rBits_ok w ((Kn.old hA).at_ 0 rfl h) (by omega)) ?_; refine zg (fun _ => R_eqN (a := (bl n)) (b := 0) rfl rfl) ?_; refine yB ?_; refine zD rfl (fun h2 => ?_) (fun h2 => ?_)
 ·refine yA ?_; refine aI rfl ?_; refine yB ?_; refine ze ?_; refine zt (?_)
  refine zo (v := .int _ _) rfl rfl rfl ?_; exact fun w' hw => ⟨by rw [iv_sign, if_pos ((bl_zero_iff n).1 h2)], hw.fr (w, No) zm0⟩
 ·have hn0 : n ≠ 0 := fun h => h2 ((bl_zero_iff n).2 h)
  refine zi ?_; refine zk ?_; refine zq ?_; refine yA ?_; refine zf fa44_0 rfl ?_; refine jM 0 z4 rfl ?_; refine yB ?_; refine c_cond rfl (fun h3 => ?_) (fun h3 => ?_)
  ·refine yA ?_; refine aI rfl ?_; refine yB ?_; refine ze ?_; refine zt (?_)
   refine zo (v := .int _ _) rfl rfl rfl ?_; exact fun w' hw => ⟨by rw [iv_sign, if_neg hn0, if_pos h3], hw.fr (w, No) zm0⟩
  ·refine zi ?_; refine zk ?_; refine yA ?_; refine aI rfl ?_; refine yB ?_; refine ze ?_; refine zo (v := .int _ _) rfl rfl rfl ?_; exact fun w' hw => ⟨by rw [iv_sign, if_neg hn0, if_neg (by rw [h3]; decide)], hw.fr (w, No) zm0⟩
theorem sign_neg {s : Bool} {n : Nat} (h : (iv s n).sign < 0) : (s && decide (n ≠ 0)) = true := by
 rw [← ng_iv, ng_true]; exact Int.sign_neg_iff.1 h
theorem sign_pos {s : Bool} {n : Nat} (h : ¬ (iv s n).sign < 0) : (s && decide (n ≠ 0)) = false := by
 rw [← ng_iv, ng_false]; exact Int.not_lt.1 (fun h2 => h (Int.sign_neg_iff.2 h2))
theorem iText_ok (s : Bool) {a : Option Addr} {k c n : Nat} (w : World) (hA : Nm w a k c n) (hs : k ≤ 1000) :
  Ret Tryz.prog 48 #[.agg #[.bool s, .slice a k c]] w (fun v w' => v = str (Lib.itoa (iv s n)) ∧ Ext w w') := by
 have hdl := Nat.le_trans (dec_len n) (Nat.succ_le_succ (bl_sz (sz_iff.2 hA.lt)))
 refine enter (S := No) (l := [_]) (L := []) 13 Tryz.func48 rfl rfl rfl (St.start w No) ?_; refine yA ?_; refine w_boxA rfl (fun p gp up => ?_)
 refine za (v := str _) rfl ?_; refine yB ?_; refine zq ?_; refine yA ?_; refine jy 0 z44 rfl rfl ?_; refine jD Tryz.func42 (fun w h => iSign_ok _ w ((Kn.old hA).at_ 0 rfl h) (by omega)) ?_; refine jl rfl rfl ?_; refine yB ?_; refine zD rfl (fun h2 => ?_) (fun h2 => ?_)
 ·have hsg := sign_neg h2
  refine yA ?_; refine zf fa44_1 rfl ?_; refine jM 0 z42 rfl ?_; refine jD Tryz.func82 (fun w h => rText_ok w ((Kn.old hA).at_ 0 rfl h) (by omega)) ?_; refine zg (fun _ => R_cat rfl rfl (by (try simp only [List.length_append, List.length_cons, List.length_nil]); omega)) ?_; refine za (v := str _) rfl ?_; refine yB ?_; refine ze ?_; refine zt (?_)
  refine zo (v := str _) rfl rfl rfl ?_; exact fun w' hw => ⟨by rw [itoa_neg hsg], hw.fr (w, No) zm0⟩
 ·have hsg := sign_pos h2
  refine zi ?_; refine zk ?_; refine yA ?_; refine zf fa44_1 rfl ?_; refine jM 0 z42 rfl ?_; refine jD Tryz.func82 (fun w h => rText_ok w ((Kn.old hA).at_ 0 rfl h) (by omega)) ?_; refine za (v := str _) rfl ?_; refine yB ?_; refine ze ?_; refine zo (v := str _) rfl rfl rfl ?_; exact fun w' hw => ⟨by rw [itoa_pos hsg], hw.fr (w, No) zm0⟩
end Go.Proofs.YtikdkendinnalaaGreatDoor
end
section
namespace Go.Proofs.YtikdkendinnalaaGreatDoor
open Go.RowKit Go.Sx
open Go.Num Go.Feed
theorem gcd_step (N M : Nat) : Nat.gcd M (N % M) = Nat.gcd N M := by
 rw [Nat.gcd_comm N M, Nat.gcd_rec M N, Nat.gcd_comm]
theorem rGcd_ok {a : Option Addr} {k c n : Nat} {a8 : Option Addr} {k8 c8 m : Nat} (w : World) (hA : Nm w a k c n) (hA8 : Nm w a8 k8 c8 m) (hs : k ≤ 10000 ∧ k8 ≤ 10000) :
  Ret Tryz.prog 77 #[.slice a k c, .slice a8 k8 c8] w (Tel (fun a c => .slice a (sz (Nat.gcd n m)) c) (sz (Nat.gcd n m)) (Nat.gcd n m) w) := by
 have hzn : sz n ≤ k := sz_iff.2 hA.lt
 have hzm : sz m ≤ k8 := sz_iff.2 hA8.lt
 refine enter (S := No) (l := [_, _]) (L := []) 23 Tryz.func77 rfl rfl rfl (St.start w No) ?_; refine yA ?_; refine za (v := .slice _ _ _) rfl ?_; refine yC ?_; refine mS rfl ?_; refine w_tel (fun w => zR Tryz.func80 rfl rfl rfl) rfl rfl (fun w h => rNorm_ok w ((Kn.old hA).at_ 0 rfl h) (by omega)) (fun x0 a0 c0 hK0 hN0 => ?_)
 refine mS rfl ?_; refine w_tel (fun w => zR Tryz.func80 rfl rfl rfl) rfl rfl (fun w h => rNorm_ok w ((Kn.old hA8).at_ 1 rfl h) (by omega)) (fun x1 a1 c1 hK1 hN1 => ?_)
 refine za (v := .slice _ _ _) rfl ?_; refine za (v := .slice _ _ _) rfl ?_; refine yB ?_; refine zq ?_; refine zB ?_; refine c_st (B' := _) (L' := []) (fun w h => h) ?_; refine c_loop (fun m9 e B L => ∃ (N M : Nat) (xN xM : BaseW) (aN : Option Addr) (cN : Nat) (aM : Option Addr) (cM : Nat), e 0 = .slice aN (sz N) cN ∧ e 1 = .slice aM (sz M) cM ∧ B = [xM, xN, (w, No)] ∧ L = [] ∧ Kn xN aN (sz N) cN N ∧ Kn xM aM (sz M) cM M ∧ New_ [(w, No)] aN (sz N) ∧ New_ [(w, No)] aM (sz M) ∧ Nat.gcd N M = Nat.gcd n m ∧ sz N ≤ 10000 ∧ sz M ≤ 10000 ∧ m9 = M + 1) _ ⟨n, m, x0, x1, a0, c0, a1, c1, rfl, rfl, rfl, rfl, hK0, hK1, hN0, fun y hy => hN1 y (.tail _ hy), rfl, by omega, by omega, rfl⟩ ?_
 rintro m9 e B L ⟨N, M, xN, xM, aN, cN, aM, cM, e0_1, e1_1, rfl, rfl, hKN, hKM, hNN, hNM, hG, hsN, hsM, rfl⟩
 refine zq ?_; refine yA ?_; refine mS e1_1 ?_; refine jj sl42 rfl ?_; refine zg (fun _ => R_gtN (a := (sz M)) (b := 0) rfl rfl) ?_; refine yB ?_; refine zD rfl (fun h3 => ?_) (fun h3 => ?_)
 ·have hM0 : M ≠ 0 := (fun h => by rw [h] at h3; exact absurd h3 (by decide))
  refine zi ?_; refine zk ?_; refine zB ?_; refine yA ?_; refine mS e0_1 ?_; refine mS e1_1 ?_; refine w_tel2 (fun w => zR Tryz.func78 rfl rfl rfl) rfl rfl (fun w h => rDiv_ok w (hKN.at_ 1 rfl h) (hKM.at_ 0 rfl h) ⟨by omega, by omega, hM0⟩) (fun x4 a4 c4 a4' c4' hK4 hN4 hK4' hN4' => ?_)
  refine zm rfl ?_; refine jx rfl rfl ?_; refine jx rfl rfl ?_; refine za (v := .slice _ _ _) rfl ?_; refine za (v := .slice _ _ _) rfl ?_; refine yC ?_; refine mS e1_1 ?_; refine za (v := .slice _ _ _) rfl ?_; refine yB ?_; refine zr ?_; refine mS rfl ?_; refine za (v := .slice _ _ _) rfl ?_; refine zn ?_; refine zO (?_)
  refine zK (B' := [x4, xM, (w, No)]) (L' := []) (fun w h => (h.drop (List.nil_sublist _)).unbase (fun x hx => by rcases List.mem_cons.1 hx with rfl | hx; (exact zm0); rcases List.mem_cons.1 hx with rfl | hx; (exact zm1); rcases List.mem_cons.1 hx with rfl | hx; (exact zm3); exact absurd hx (by simp))) ?_; exact k_again _ (by have := Nat.mod_lt N (Nat.pos_of_ne_zero hM0); omega) ⟨M, (N % M), xM, x4, aM, cM, a4', c4', rfl, rfl, rfl, rfl, hKM, hK4', hNM, fun y hy => hN4' y (.tail _ (.tail _ hy)), (by rw [gcd_step]; exact hG), hsM, Nat.le_trans (sz_mono (Nat.le_of_lt (Nat.mod_lt _ (Nat.pos_of_ne_zero hM0)))) hsM, rfl⟩
 ·obtain rfl : M = 0 := sz_eq_zero.1 (by omega); rw [Nat.gcd_zero_right] at hG; subst hG
  refine zX ?_; refine zx (zx (b_here rfl (zk ?_))); refine yA ?_; refine mS e0_1 ?_; refine za (v := .slice _ _ _) rfl ?_; refine yB ?_; refine ze ?_; refine zo (v := .slice _ _ _) rfl rfl rfl ?_; exact fun w' hw => ⟨aN, cN, rfl, hKN.at_ 1 rfl hw, hNN _ zm0, hw.fr (w, No) zm2⟩
theorem jWhole_ok (a : Option Addr) (k c : Nat) (w : World) :
  Ret Tryz.prog 45 #[.slice a k c] w (fun v w' => v = .agg #[.bool false, .slice a k c] ∧ Ext w w') := by
 refine enter (S := No) (l := [_]) (L := []) 5 Tryz.func45 rfl rfl rfl (St.start w No) ?_; refine yA ?_; refine zA zr44 (fun r gr ur => ?_)
 refine yC ?_; refine mS rfl ?_; refine jb bt44 rfl ?_; refine jv 0 z44 rfl ?_; refine yB ?_; refine ze ?_; refine r_fin (.inl rfl) rfl (.agg rfl rfl z44 (fun _ h => h.at_ 0 rfl) rfl .nil) ?_; exact fun w' hw => ⟨rfl, hw.fr (w, No) zm0⟩
theorem jMake_ok (s : Bool) {a : Option Addr} {k c n : Nat} {a8 : Option Addr} {k8 c8 m : Nat} (w : World) (hA : Nm w a k c n) (hA8 : Nm w a8 k8 c8 m) (hs : k ≤ 10000 ∧ k8 ≤ 10000 ∧ m ≠ 0) :
  Ret Tryz.prog 43 #[.agg #[.bool s, .slice a k c], .agg #[.bool false, .slice a8 k8 c8]] w (Tel2 (fun a c a2 c2 => .agg #[.bool (ng (mkR s n m).1), .slice a (sz (mkR s n m).1.natAbs) c, .slice a2 (sz (mkR s n m).2) c2]) (sz (mkR s n m).1.natAbs) (mkR s n m).1.natAbs (sz (mkR s n m).2) (mkR s n m).2 w) := by
 have hg0 : (Nat.gcd n m) ≠ 0 := fun h => hs.2.2 (Nat.eq_zero_of_gcd_eq_zero_right h)
 have hzn : sz n ≤ k := sz_iff.2 hA.lt
 have hzm : sz m ≤ k8 := sz_iff.2 hA8.lt
 have hgm : sz (Nat.gcd n m) ≤ sz m := sz_mono (Nat.le_of_dvd (Nat.pos_of_ne_zero hs.2.2) (Nat.gcd_dvd_right n m))
 have hd1 : sz (n / (Nat.gcd n m)) ≤ sz n := sz_mono (Nat.div_le_self _ _)
 have hd2 : sz (m / (Nat.gcd n m)) ≤ sz m := sz_mono (Nat.div_le_self _ _)
 refine enter (S := No) (l := [_, _]) (L := []) 40 Tryz.func43 rfl rfl rfl (St.start w No) ?_; refine yA ?_; refine w_boxA rfl (fun p gp up => ?_)
 refine w_boxA rfl (fun p2 gp2 up2 => ?_)
 refine zA zr46 (fun r gr ur => ?_)
 refine yC ?_; refine zf fa44_1 rfl ?_; refine jM 2 z42 rfl ?_; refine zf fa44_1 rfl ?_; refine jM 1 z42 rfl ?_; refine w_tel (fun w => zR Tryz.func77 rfl rfl rfl) rfl rfl (fun w h => rGcd_ok w ((Kn.old hA).at_ 0 rfl h) ((Kn.old hA8).at_ 0 rfl h) ⟨by omega, by omega⟩) (fun x4 a4 c4 hK4 hN4 => ?_)
 refine za (v := .slice _ _ _) rfl ?_; refine yC ?_; refine zf fa44_1 rfl ?_; refine jM 2 z42 rfl ?_; refine mS rfl ?_; refine w_tel2 (fun w => zR Tryz.func78 rfl rfl rfl) rfl rfl (fun w h => rDiv_ok w ((Kn.old hA).at_ 1 rfl h) (hK4.at_ 0 rfl h) ⟨by omega, by omega, hg0⟩) (fun x5 a5 c5 a5' c5' hK5 hN5 hK5' hN5' => ?_)
 refine zm rfl ?_; refine jx rfl rfl ?_; refine jx rfl rfl ?_; refine za (v := .slice _ _ _) rfl ?_; refine za (v := .slice _ _ _) rfl ?_; refine yC ?_; refine zf fa44_1 rfl ?_; refine jM 1 z42 rfl ?_; refine mS rfl ?_; refine w_tel2 (fun w => zR Tryz.func78 rfl rfl rfl) rfl rfl (fun w h => rDiv_ok w ((Kn.old hA8).at_ 2 rfl h) (hK4.at_ 1 rfl h) ⟨by omega, by omega, hg0⟩) (fun x6 a6 c6 a6' c6' hK6 hN6 hK6' hN6' => ?_)
 refine zm rfl ?_; refine jx rfl rfl ?_; refine jx rfl rfl ?_; refine za (v := .slice _ _ _) rfl ?_; refine za (v := .slice _ _ _) rfl ?_; refine yC ?_; refine zf fa44_0 rfl ?_; refine jM 2 z4 rfl ?_; refine zf fa44_0 rfl ?_; refine jM 1 z4 rfl ?_; refine zg (fun _ => R_bne unb4 rfl rfl) ?_
 rw [show (!(s == false)) = s by cases s <;> rfl]
 refine mS rfl ?_; refine jb bt44 rfl ?_; refine w_tel (fun w => zR Tryz.func79 rfl rfl rfl) rfl rfl (fun w h => iNorm_ok s w (hK5.at_ 1 rfl h) (by omega)) (fun x7 a7 c7 hK7 hN7 => ?_)
 refine mS rfl ?_; refine w_tel (fun w => zR Tryz.func80 rfl rfl rfl) rfl rfl (fun w h => rNorm_ok w (hK6.at_ 1 rfl h) (by omega)) (fun x8 a8 c8 hK8 hN8 => ?_)
 refine jb bt46 rfl ?_; refine jv 0 z46 rfl ?_; refine yB ?_; refine ze ?_; refine r_fin (.inl rfl) rfl (.agg rfl rfl z46 (fun _ h => h.at_ 0 rfl) rfl .nil) ?_; exact fun w' hw => ⟨_, _, _, _, rfl, (hK7.at_ 1 rfl hw), (hK8.at_ 0 rfl hw), (hN7 _ zm3), (hN8 _ zm4), hw.fr (w, No) (.tail _ zm4)⟩
theorem jNorm_ok (s : Bool) {a : Option Addr} {k c n : Nat} {a8 : Option Addr} {k8 c8 m : Nat} (w : World) (hA : Nm w a k c n) (hA8 : Nm w a8 k8 c8 m) (hs : k ≤ 10000 ∧ k8 ≤ 10000 ∧ m ≠ 0) :
  Ret Tryz.prog 47 #[.agg #[.bool s, .slice a k c, .slice a8 k8 c8]] w (Tel2 (fun a c a2 c2 => .agg #[.bool (ng (mkR s n m).1), .slice a (sz (mkR s n m).1.natAbs) c, .slice a2 (sz (mkR s n m).2) c2]) (sz (mkR s n m).1.natAbs) (mkR s n m).1.natAbs (sz (mkR s n m).2) (mkR s n m).2 w) := by
 refine enter (S := No) (l := [_]) (L := []) 9 Tryz.func47 rfl rfl rfl (St.start w No) ?_; refine yA ?_; refine w_boxA rfl (fun p gp up => ?_)
 refine zA zr46 (fun r gr ur => ?_)
 refine yB ?_; refine zq ?_; refine c_heldI [1] mixed ?_; refine zh2 0 rfl rfl (pk [1]) (fun w h => R_fa fa46_0 rfl) ?_; refine h_loadA 1 rfl (by kernel_rfl) (pk [1]) z44 rfl (fun _ h => h.at_ 0 rfl) rfl ?_; refine zh2 2 rfl rfl (pk [1]) (fun w h => R_fa fa46_1 rfl) ?_; refine zh (v := .slice _ _ _) 3 rfl (by kernel_rfl) rfl rfl (pk [1]) (fun w h => R_ld1 z42 rfl (zc 0 rfl rfl h)) ?_; refine zH2 4 (pk [1]) ?_; refine o_pureW rfl (wn_none rfl) rfl (fun w => zR Tryz.func45 rfl rfl rfl) (fun w h => jWhole_ok _ _ _ w) ?_; refine zH2 5 (pk [1]) ?_
 refine o_tel2 rfl (wn_none rfl) rfl (fun w => zR Tryz.func43 rfl rfl rfl) (fun w h => jMake_ok _ w ((Kn.old hA).at_ 0 rfl h) ((Kn.old hA8).at_ 0 rfl h) ⟨by omega, by omega, hs.2.2⟩) (fun x3 a3 c3 a3' c3' hK3 hN3 hK3' hN3' => ?_)
 refine zH2 6 (fun w h => (h.unbase (fun x hx => .tail _ (hx))).pick [1] (by decide)) ?_; refine zJ 0 rfl rfl z46 rfl rfl rfl rfl rfl rfl rfl ?_; refine zN2 (fun w h => (h.unbase (fun x hx => .tail _ (hx))).pick [1] (by decide)) ?_; refine zk ?_; refine ze ?_; refine r_fin (.inl rfl) rfl (.agg rfl rfl z46 (fun _ h => h.at_ 0 rfl) rfl .nil) ?_; exact fun w' hw => ⟨_, _, _, _, rfl, (hK3.at_ 0 rfl hw), (hK3'.at_ 0 rfl hw), (hN3 _ zm0), (hN3' _ zm0), hw.fr (w, No) zm1⟩
theorem jSmall6_ok (s : Bool) {a : Option Addr} {k c n : Nat} {a8 : Option Addr} {k8 c8 m : Nat} (w : World) (hA : Nm w a k c n) (hA8 : Nm w a8 k8 c8 m) :
  Ret Tryz.prog 35 #[.agg #[.bool s, .slice a k c, .slice a8 k8 c8]] w (fun v w' => v = .bool (decide (k ≤ 3 ∧ k8 ≤ 3)) ∧ Ext w w') := by
 refine enter (S := No) (l := [_]) (L := []) 14 Tryz.func35 rfl rfl rfl (St.start w No) ?_; refine yA ?_; refine w_boxA rfl (fun p gp up => ?_)
 refine aB rfl ?_; refine yC ?_; refine zf fa46_0 rfl ?_; refine zf fa44_1 rfl ?_; refine jM 0 z42 rfl ?_; refine jj sl42 rfl ?_; refine zg (fun _ => R_leN (a := k) (b := 3) rfl rfl) ?_; refine mB rfl ?_; refine gTx rfl (fun hc w h => R_fa fa46_1 rfl) rfl ?_
 refine gTx rfl (fun hc w h => R_ld1 z42 (gvl_t hc) (zc 0 rfl rfl h)) rfl ?_; refine gTx rfl (fun hc w h => R_len sl42 (gvl_t hc)) rfl ?_
 refine gTx rfl (fun hc w h => R_leN (a := k8) (b := 3) (gvl_t hc) rfl) rfl ?_; refine zg (v := .bool _) (fun _ => R_pickA rfl rfl rfl) ?_; refine aB rfl ?_; refine yB ?_; refine ze ?_; refine zo (v := .bool _) rfl rfl rfl ?_; exact fun w' hw => ⟨by simp [Bool.decide_and], hw.fr (w, No) zm0⟩
end Go.Proofs.YtikdkendinnalaaGreatDoor
end
section
namespace Go.Proofs.YtikdkendinnalaaGreatDoor
open Go.RowKit Go.Sx
open Go.Tok Go.Tree Go.Prs Go.Feed Go.Num
def SmB (l : List Di) : Prop := l.length ≤ 12 ∧ ∀ d ∈ l, d.nm.length ≤ 200 ∧ d.nums.length ≤ 20 ∧ ∀ x ∈ d.nums, x.p ≤ 3 ∧ x.q ≤ 3
theorem smB_take {l : List Di} {i : Nat} {d : Di} (hd : l[i]? = some d) (h : ∀ x ∈ l.take i, x.nm.length ≤ 200 ∧ x.nums.length ≤ 20 ∧ ∀ y ∈ x.nums, y.p ≤ 3 ∧ y.q ≤ 3) (h1 : d.nm.length ≤ 200) (h2 : d.nums.length ≤ 20) (h3 : ∀ y ∈ d.nums, y.p ≤ 3 ∧ y.q ≤ 3) : ∀ x ∈ l.take (i + 1), x.nm.length ≤ 200 ∧ x.nums.length ≤ 20 ∧ ∀ y ∈ x.nums, y.p ≤ 3 ∧ y.q ≤ 3 := fun x hx => by
 obtain ⟨hi, rfl⟩ := List.getElem?_eq_some_iff.1 hd
 rw [List.take_succ_eq_append_getElem hi] at hx
 rcases List.mem_append.1 hx with hx | hx
 ·exact h x hx
 ·rw [List.mem_singleton.1 hx]; exact ⟨h1, h2, h3⟩
theorem nums_take {l : List Rw} {i : Nat} {d : Rw} (hd : l[i]? = some d) (h : ∀ x ∈ l.take i, x.p ≤ 3 ∧ x.q ≤ 3) (h1 : d.p ≤ 3 ∧ d.q ≤ 3) : ∀ x ∈ l.take (i + 1), x.p ≤ 3 ∧ x.q ≤ 3 := fun x hx => by
 obtain ⟨hi, rfl⟩ := List.getElem?_eq_some_iff.1 hd
 rw [List.take_succ_eq_append_getElem hi] at hx
 rcases List.mem_append.1 hx with hx | hx
 ·exact h x hx
 ·rw [List.mem_singleton.1 hx]; exact h1
theorem great_ok (l : List Di) (va : Option Addr) (vc : Nat) (w : World) (hD : disV w (fun _ => True) l (va, vc)) (hl : l.length ≤ 9223372036854775807) (hnl : ∀ d ∈ l, d.nums.length ≤ 9223372036854775807 ∧ d.nm.length ≤ 9223372036854775807) :
  Ret Tryz.prog 13 #[.slice va l.length vc] w (fun v w' => (∃ b, v = .bool b ∧ (b = false → SmB l)) ∧ Ext w w') := by
 refine enter (S := No) (l := [_]) (L := []) 50 Tryz.func13 rfl rfl rfl (St.start w No) ?_; refine yA ?_; refine aB rfl ?_; refine yB ?_; refine zq ?_; refine yA ?_; refine mS rfl ?_; refine jj sl24 rfl ?_; refine zg (fun _ => R_gtN (a := (l.length)) (b := 12) rfl rfl) ?_; refine yB ?_; refine zD rfl (fun h1 => ?_) (fun h1 => ?_)
 ·refine yA ?_; refine aB rfl ?_; refine yB ?_; refine ze ?_; refine zt (?_)
  refine zo (v := .bool _) rfl rfl rfl ?_; exact fun w' hw => ⟨⟨true, rfl, fun h => by cases h⟩, hw.fr (w, No) zm0⟩
 ·refine zi ?_; refine zk ?_; refine zq ?_; refine yA ?_; refine aI rfl ?_; refine yB ?_; refine zB ?_; refine c_loop (fun m9 e B L => ∃ (i : Nat), e 0 = .slice va l.length vc ∧ e 3 = .int .i64 (i : Nat) ∧ B = [(w, No)] ∧ L = [] ∧ i ≤ l.length ∧ (∀ x ∈ l.take i, x.nm.length ≤ 200 ∧ x.nums.length ≤ 20 ∧ ∀ y ∈ x.nums, y.p ≤ 3 ∧ y.q ≤ 3) ∧ m9 = l.length - i) _ ⟨0, rfl, rfl, rfl, rfl, Nat.zero_le _, fun x hx => absurd hx (by simp), rfl⟩ ?_
  rintro m9 e B L ⟨i, e0_1, e3_1, rfl, rfl, hi, hps, rfl⟩
  refine zq ?_; refine yA ?_; refine mI e3_1 ?_; refine mS e0_1 ?_; refine jj sl24 rfl ?_; refine zg (fun _ => R_ltN (a := i) (b := (l.length)) rfl rfl) ?_; refine yB ?_; refine zD rfl (fun h2 => ?_) (fun h2 => ?_)
  ·have hi2 : i < l.length := (by omega); obtain ⟨d7, hd7⟩ : ∃ d, l[i]? = some d := ⟨_, List.getElem?_eq_getElem hi2⟩; obtain ⟨cs7, hA7, ⟨an7, cn7⟩, rfl, hT7⟩ := hD.2 i d7 hd7; obtain ⟨q7, o7, rfl, hne7, hc7⟩ := hA7; have hnl7 := hnl d7 (List.mem_of_getElem? hd7)
   refine zi ?_; refine zk ?_; refine zq ?_; refine zB ?_; refine zq ?_; refine yA ?_; refine mS e0_1 ?_; refine mI e3_1 ?_; refine zg (fun _ => R_iaN (i := i) sl24 rfl rfl (by first | omega | decide | exact Nat.succ_pos _ | exact Nat.succ_lt_succ (Nat.succ_pos _))) ?_; refine zf fa33_0 rfl ?_; refine zl (v := str d7.nm) z9 rfl (fun w h => cel_old zm0 (hc7 0 _ rfl) (fun x => x) h) ?_; refine zg (fun _ => R_slen st9 rfl (by omega)) ?_; refine jg rfl rfl ?_; refine mB rfl ?_; refine zd (t := 21) rfl (fun h3 => ?_) (fun h3 => ?_)
   ·refine zs rfl rfl (bT h3) ?_; refine zs rfl rfl (bT h3) ?_; refine zs rfl rfl (bT h3) ?_; refine zs rfl rfl (bT h3) ?_; refine zs rfl rfl (bT h3) ?_; refine zs rfl rfl (bT h3) ?_; refine zs rfl rfl (bT h3) ?_; refine jT (bT h3) rfl ?_; refine yB ?_; refine zE rfl ?_; refine yA ?_; refine aB rfl ?_; refine yB ?_; refine ze ?_; refine zt (zb (zt (zt (zb (zt (?_))))))
    refine zo (v := .bool _) rfl rfl rfl ?_; exact fun w' hw => ⟨⟨true, rfl, fun h => by cases h⟩, hw.fr (w, No) zm0⟩
   ·refine zw rfl rfl (bF h3) ?_; refine mS e0_1 ?_; refine zw rfl rfl (bF h3) ?_; refine mI e3_1 ?_; refine zw rfl rfl (bF h3) ?_; refine zg (fun _ => R_iaN (i := i) sl24 rfl rfl (by first | omega | decide | exact Nat.succ_pos _ | exact Nat.succ_lt_succ (Nat.succ_pos _))) ?_; refine zw rfl rfl (bF h3) ?_; refine zf fa33_4 rfl ?_; refine zw rfl rfl (bF h3) ?_; refine zl (v := .slice an7 d7.nums.length cn7) z31 rfl (fun w h => cel_old zm0 (hc7 4 _ rfl) (fun x => x) h) ?_; refine zw rfl rfl (bF h3) ?_; refine jj sl31 rfl ?_; refine zw rfl rfl (bF h3) ?_; refine zg (fun _ => R_gtN (a := (d7.nums.length)) (b := 20) rfl rfl) ?_; refine jF (bF h3) rfl ?_; refine yB ?_
    refine zD rfl (fun h4 => ?_) (fun h4 => ?_)
    ·refine yA ?_; refine aB rfl ?_; refine yB ?_; refine ze ?_; refine zt (zb (zt (zt (zb (zt (?_))))))
     refine zo (v := .bool _) rfl rfl rfl ?_; exact fun w' hw => ⟨⟨true, rfl, fun h => by cases h⟩, hw.fr (w, No) zm0⟩
    ·refine zi ?_; refine zk ?_; refine yA ?_; refine aI rfl ?_; refine yB ?_; refine zB ?_; refine c_loop (fun m9 e B L => ∃ (k : Nat), e 0 = .slice (some ⟨q7, o7, none⟩) l.length vc ∧ e 3 = .int .i64 (i : Nat) ∧ e 4 = .int .i64 (k : Nat) ∧ B = [(w, No)] ∧ L = [] ∧ k ≤ d7.nums.length ∧ (∀ x ∈ d7.nums.take k, x.p ≤ 3 ∧ x.q ≤ 3) ∧ m9 = d7.nums.length - k) _ ⟨0, e0_1, e3_1, rfl, rfl, rfl, Nat.zero_le _, fun x hx => absurd hx (by simp), rfl⟩ ?_
     rintro m9 e B L ⟨k, e0_2, e3_2, e4_2, rfl, rfl, hk, hpn, rfl⟩
     refine zq ?_; refine yA ?_; refine mI e4_2 ?_; refine mS e0_2 ?_; refine mI e3_2 ?_; refine zg (fun _ => R_iaN (i := i) sl24 rfl rfl (by first | omega | decide | exact Nat.succ_pos _ | exact Nat.succ_lt_succ (Nat.succ_pos _))) ?_; refine zf fa33_4 rfl ?_; refine zl (v := .slice an7 d7.nums.length cn7) z31 rfl (fun w h => cel_old zm0 (hc7 4 _ rfl) (fun x => x) h) ?_; refine jj sl31 rfl ?_; refine zg (fun _ => R_ltN (a := k) (b := (d7.nums.length)) rfl rfl) ?_; refine yB ?_; refine zD rfl (fun h5 => ?_) (fun h5 => ?_)
     ·have hk2 : k < d7.nums.length := (by omega); obtain ⟨xr, hxr⟩ : ∃ x, d7.nums[k]? = some x := ⟨_, List.getElem?_eq_getElem hk2⟩; obtain ⟨cs8, hA8, br, rfl, hTr⟩ := hT7.2 k xr hxr; obtain ⟨q8, o8, hq8, hne8, hc8⟩ := hA8; dsimp only at hq8
      refine zi ?_; refine zk ?_; refine zq ?_; refine zB ?_; refine yA ?_; refine mS e0_2 ?_; refine mI e3_2 ?_; refine zg (fun _ => R_iaN (i := i) sl24 rfl rfl (by first | omega | decide | exact Nat.succ_pos _ | exact Nat.succ_lt_succ (Nat.succ_pos _))) ?_; refine zf fa33_4 rfl ?_; refine zl (v := .slice an7 d7.nums.length cn7) z31 rfl (fun w h => cel_old zm0 (hc7 4 _ rfl) (fun x => x) h) ?_; refine mI e4_2 ?_; refine zg (fun _ => R_iaN (i := k) sl31 (congrArg (fun z => Value.slice z d7.nums.length cn7) hq8) rfl hk2) ?_; refine w_loadC (l := rwE xr br) z46 rfl rfl (fun w h j v hj => cel_old zm0 (hc8 j v hj) (fun x => x) h) ?_
      refine jD (v := .bool (decide (xr.p ≤ 3 ∧ xr.q ≤ 3))) Tryz.func35 (fun w h => jSmall6_ok xr.s w (hTr.ext_ (h.fr (_, No) zm0)).n.nm (hTr.ext_ (h.fr (_, No) zm0)).d.nm) ?_; refine jk rfl ?_; refine yB ?_; refine c_condND rfl (fun h6 => ?_) (fun h6 => ?_)
      ·refine yA ?_; refine aB rfl ?_; refine yB ?_; refine ze ?_; refine zb (zt (zt (zb (zb (zt (zt (zb (zt (?_)))))))))
       refine zo (v := .bool _) rfl rfl rfl ?_; exact fun w' hw => ⟨⟨true, rfl, fun h => by cases h⟩, hw.fr (w, No) zm0⟩
      ·refine zi ?_; refine zO (zk ?_); refine zr ?_; refine mI e4_2 ?_; refine zg (fun _ => R_addN (n := k) (b := 1) rfl rfl (by omega)) ?_; refine aI rfl ?_; refine zn ?_; exact k_again _ (by omega) ⟨k + 1, e0_2, e3_2, rfl, rfl, rfl, by omega, nums_take hxr hpn (by simpa using h6), rfl⟩
     ·refine zX ?_; refine zx (zx (b_here rfl (zO (zk ?_)))); refine zr ?_; refine mI e3_2 ?_; refine zg (fun _ => R_addN (n := i) (b := 1) rfl rfl (by omega)) ?_; refine aI rfl ?_; refine zn ?_; exact k_again _ (by omega) ⟨i + 1, e0_2, rfl, rfl, rfl, by omega, smB_take hd7 hps (by omega) (by omega) (by rw [← List.take_length (l := d7.nums), show d7.nums.length = k by omega]; exact hpn), rfl⟩
  ·obtain rfl : i = l.length := (by omega)
   refine zX ?_; refine zx (zx (b_here rfl (zk ?_))); refine yA ?_; refine aB rfl ?_; refine yB ?_; refine ze ?_
   rw [List.take_length] at hps
   refine zo (v := .bool _) rfl rfl rfl ?_; exact fun w' hw => ⟨⟨false, rfl, fun _ => ⟨by omega, hps⟩⟩, hw.fr (w, No) zm0⟩
end Go.Proofs.YtikdkendinnalaaGreatDoor
end
section
namespace Go.Sx
open Go.RowKit Go.Num Go.Feed
theorem rowM.cells {α : Type} {k : Nat} {M : World → (Nat → Prop) → α → List Value → Prop} {w : World} {N : Nat → Prop} {l : List α} {va : Option Addr} {vc : Nat} (h : rowM k M w N l (va, vc)) (hk : ∀ e cs, M w N e cs → cs.length = k ∧ cs.all Value.oneCell' = true) (h0 : 0 < l.length) :
    ∃ q o ys, va = some ⟨q, o, none⟩ ∧ N q ∧ ys.length = l.length * k ∧ ys.all Value.oneCell' = true ∧ (∀ (j : Nat) u, ys[j]? = some u → w.cell? ⟨q, o + j, none⟩ = some u) ∧ Mc k M w N l ys := by
  obtain ⟨cs0, ⟨q, o, hq, hN, _⟩, _⟩ := h.2 0 _ (List.getElem?_eq_getElem h0)
  dsimp only at hq
  subst hq
  have key : ∀ n, n ≤ l.length → ∃ ys : List Value, ys.length = n * k ∧ ys.all Value.oneCell' = true ∧ (∀ (j : Nat) u, ys[j]? = some u → w.cell? ⟨q, o + j, none⟩ = some u) ∧ Mc k M w N (l.take n) ys := by
    intro n
    induction n with
    | zero => intro _; exact ⟨[], (Nat.zero_mul k).symm, rfl, fun j u hj => by simp at hj, by rw [List.take_zero]; exact Mc.nil⟩
    | succ n ih =>
      intro hn
      obtain ⟨ys, h1, h2, h3, h4⟩ := ih (by omega)
      obtain ⟨cs, ⟨q2, o2, hq2, _, hc⟩, hM⟩ := h.2 n _ (List.getElem?_eq_getElem (by omega))
      cases hq2
      obtain ⟨h5, h6⟩ := hk _ _ hM
      refine ⟨ys ++ cs, by rw [List.length_append, h1, h5, Nat.succ_mul], by rw [List.all_append, h2, h6]; rfl, fun j u hj => ?_, ?_⟩
      · rcases Nat.lt_or_ge j (n * k) with hlt | hge
        · rw [List.getElem?_append_left (by omega)] at hj; exact h3 j u hj
        · rw [List.getElem?_append_right (by omega), h1] at hj
          have := hc _ u hj
          rwa [show o + n * k + (j - n * k) = o + j by omega] at this
      · rw [List.take_succ_eq_append_getElem (by omega)]
        exact h4.snoc (by rw [h1, List.length_take, Nat.min_eq_left (by omega)]) h5 hM
  obtain ⟨ys, h1, h2, h3, h4⟩ := key l.length (Nat.le_refl _)
  rw [List.take_length] at h4
  exact ⟨q, o, ys, rfl, hN, h1, h2, h3, h4⟩
theorem Own.one {T : TypeId} {k : Nat} {a : Option Addr} {n c : Nat} {ys : List Value} {W : Heap} (h : Own T k (.slice a n c) ys n W) (hn : 0 < n) : ∃ q sp, a = some ⟨q, 0, none⟩ ∧ W = [(q, cel (ys ++ sp) T)] ∧ ∀ (o : Nat) (v : Value), o < ys.length → Own T k (.slice (some ⟨q, 0, none⟩) n c) (ys.set o v) n [(q, cel ((ys ++ sp).set o v) T)] := by
  rcases h.2 with ⟨_, h2, _⟩ | ⟨q, c', sp, h1, h2, h3, rfl⟩
  · omega
  simp only [Value.slice.injEq] at h1
  obtain ⟨rfl, _, rfl⟩ := h1
  refine ⟨q, sp, rfl, rfl, fun o v ho => ⟨by rw [List.length_set]; exact h.1, .inr ⟨q, c, sp, rfl, h2, h3, ?_⟩⟩⟩
  rw [List.set_append_left _ _ ho]
end Go.Sx
end
section
namespace Go.Proofs.YtikdkendinnalaaGreatDoor
open Go.RowKit Go.Sx
open Go.Tok Go.Tree Go.Prs Go.Feed Go.Num
structure FB (l : List Di) : Prop where
  sm : SmB l
  lt : ∀ d ∈ l, ∀ x ∈ d.nums, x.n < Go.Num.B ^ 3 ∧ x.d < Go.Num.B ^ 3
theorem FB.dis {l : List Di} (h : FB l) : DisB l := ⟨Nat.le_trans h.sm.1 (by decide), fun d hd => ⟨Nat.le_trans (h.sm.2 d hd).2.1 (by decide), Nat.le_trans (h.sm.2 d hd).1 (by decide), fun x hx => ⟨Nat.le_trans ((h.sm.2 d hd).2.2 x hx).1 (by decide), Nat.le_trans ((h.sm.2 d hd).2.2 x hx).2 (by decide)⟩⟩⟩
theorem FB.sz {l : List Di} (h : FB l) : ∀ d ∈ l, ∀ x ∈ d.nums, sz x.n ≤ 2000 ∧ sz x.d ≤ 2000 := fun d hd x hx => ⟨Nat.le_trans (sz_iff.2 (h.lt d hd x hx).1) (by decide), Nat.le_trans (sz_iff.2 (h.lt d hd x hx).2) (by decide)⟩
theorem FB.small {l : List Di} (h : FB l) : smallD l := ⟨h.sm.1, fun d hd => ⟨(h.sm.2 d hd).1, (h.sm.2 d hd).2.1, fun x hx => (h.lt d hd x hx).1⟩⟩
theorem FB.len {l : List Di} (h : FB l) : (dataT l).length ≤ 1000000000 := by
  have h1 := flat_len datT 1405 l (fun d hd => (dat_small (h.small.2 d hd)).1)
  have h2 := h.sm.1
  have h3 : l.length * 1405 ≤ 12 * 1405 := Nat.mul_le_mul_right _ h2
  unfold dataT; omega
theorem FB.of {l : List Di} {w : World} {N : Nat → Prop} {b : Option Addr × Nat} (hD : disV w N l b) (h : SmB l) : FB l := ⟨h, fun d hd x hx => by
  obtain ⟨i, hi⟩ := List.getElem?_of_mem hd
  obtain ⟨cs, _, b7, rfl, hT⟩ := hD.2 i d hi
  obtain ⟨j, hj⟩ := List.getElem?_of_mem hx
  obtain ⟨cs2, _, b8, rfl, hr⟩ := hT.2 j x hj
  have h1 := (h.2 d hd).2.2 x hx
  have hB : 0 < Go.Num.B := B_pos
  exact ⟨Nat.lt_of_lt_of_le hr.n.nm.lt (Nat.pow_le_pow_right hB h1.1), Nat.lt_of_lt_of_le hr.d.nm.lt (Nat.pow_le_pow_right hB h1.2)⟩⟩
theorem FB.set {l : List Di} (h : FB l) {i : Nat} {d : Di} {x y : Rw} {xs : List Rw} (hd : l[i]? = some d) (hx : d.nums = x :: xs) (hp : y.p ≤ 3 ∧ y.q ≤ 3) (hy : y.n < Go.Num.B ^ 3 ∧ y.d < Go.Num.B ^ 3) : FB (l.set i { d with nums := y :: xs }) := by
  have hm := List.mem_of_getElem? hd
  have key : ∀ e ∈ l.set i { d with nums := y :: xs }, e ∈ l ∨ e = { d with nums := y :: xs } := fun e he => (List.mem_or_eq_of_mem_set he)
  have hxs : ∀ z ∈ xs, z ∈ d.nums := fun z hz => by rw [hx]; exact .tail _ hz
  refine ⟨⟨by rw [List.length_set]; exact h.sm.1, fun e he => ?_⟩, fun e he => ?_⟩
  · rcases key e he with he | rfl
    · exact h.sm.2 e he
    have h1 := h.sm.2 d hm
    refine ⟨h1.1, by have h2 := h1.2.1; rw [hx] at h2; exact h2, fun z hz => ?_⟩
    rcases List.mem_cons.1 hz with rfl | hz
    · exact hp
    exact h1.2.2 z (hxs z hz)
  rcases key e he with he | rfl
  · exact h.lt e he
  intro z hz
  rcases List.mem_cons.1 hz with rfl | hz
  · exact hy
  exact h.lt d hm z (hxs z hz)
theorem ok_of {l : List Di} (h : (writeP l).2 = 0) : okW [] l = true := by
  unfold writeP at h
  cases h2 : okW [] l with
  | true => rfl
  | false => rw [h2] at h; cases h
end Go.Proofs.YtikdkendinnalaaGreatDoor
end
section
namespace Go.Proofs.YtikdkendinnalaaGreatDoor
open Go.RowKit Go.Sx
open Go.Tok Go.Tree Go.Prs Go.Feed Go.Num
theorem iTextI_ok (x : Int) {a : Option Addr} {c : Nat} (w : World) (hA : Nm w a (sz x.natAbs) c x.natAbs) (hs : sz x.natAbs ≤ 1000) : Ret Tryz.prog 48 #[.agg #[.bool (ng x), .slice a (sz x.natAbs) c]] w fun v w' => v = str (Lib.itoa x) ∧ Ext w w' := by
  have := iText_ok (ng x) w hA hs
  rwa [iv_ng] at this
def RFindF (X : Option Di) (w : World) : Value → World → Prop := fun v w' =>
  (match X with
  | some d => ∃ b : Option Addr × Nat, v = .tuple #[.agg (diE d b).toArray, .bool true]
  | none => v = .tuple #[.agg #[str [], .int .i64 0, .bool false, .bool false, .slice none 0 0], .bool false]) ∧ Ext w w'
theorem rFind_ok (l : List Di) (nm : Str) (va : Option Addr) (vc : Nat) (w : World) (hD : disV w (fun _ => True) l (va, vc)) (hl : l.length ≤ 9223372036854775807) :
    Ret Tryz.prog 18 #[.slice va l.length vc, str nm] w (RFindF (findD l nm) w) := by
  refine enter (S := No) (l := [_, _]) (L := []) 25 Tryz.func18 rfl rfl rfl (St.start w No) ?_; refine yA ?_; refine zA zr33 (fun t4b gt4b ut4b => ?_)
  refine aB rfl ?_; refine yB ?_; refine zq ?_; refine yA ?_; refine aI rfl ?_; refine yB ?_; refine zB ?_; refine c_loop (fun m9 e B L => ∃ (i : Nat), e 4 = pX t4b ∧ e 0 = .slice va l.length vc ∧ e 6 = .int .i64 (i : Nat) ∧ e 1 = str nm ∧ B = [(w, No)] ∧ L = [(t4b, cel [str [], .int .i64 0, .bool false, .bool false, .slice none 0 0] 33)] ∧ i ≤ l.length ∧ findD (l.take i) nm = none ∧ m9 = l.length - i) _ ⟨0, rfl, rfl, rfl, rfl, rfl, rfl, Nat.zero_le _, rfl, rfl⟩ ?_
  rintro m9 e B L ⟨i, e4_1, e0_1, e6_1, e1_1, rfl, rfl, hi, hf, rfl⟩
  refine zq ?_; refine yA ?_; refine mI e6_1 ?_; refine mS e0_1 ?_; refine jj sl24 rfl ?_; refine zg (fun _ => R_ltN (a := i) (b := (l.length)) rfl rfl) ?_; refine yB ?_; refine zD rfl (fun h2 => ?_) (fun h2 => ?_)
  · have hi2 : i < l.length := (by omega); obtain ⟨d7, hd7⟩ : ∃ d, l[i]? = some d := ⟨_, List.getElem?_eq_getElem hi2⟩; obtain ⟨cs7, hA7, ⟨an7, cn7⟩, rfl, hT7⟩ := hD.2 i d7 hd7; obtain ⟨q7, o7, rfl, hne7, hc7⟩ := hA7
    refine zi ?_; refine zk ?_; refine zq ?_; refine zB ?_; refine yA ?_; refine mS e0_1 ?_; refine mI e6_1 ?_; refine zg (fun _ => R_iaN (i := i) sl24 rfl rfl (by first | omega | decide | exact Nat.succ_pos _ | exact Nat.succ_lt_succ (Nat.succ_pos _))) ?_; refine zf fa33_0 rfl ?_; refine zl (v := str d7.nm) z9 rfl (fun w h => cel_old zm0 (hc7 0 _ rfl) (fun x => x) h) ?_; refine zm (v := str _) e1_1 ?_; refine js rfl rfl ?_; refine yB ?_; refine zD rfl (fun h3 => ?_) (fun h3 => ?_)
    · have heq : d7.nm = nm := (by simpa using h3)
      refine yA ?_; refine mS e0_1 ?_; refine mI e6_1 ?_; refine zg (fun _ => R_iaN (i := i) sl24 rfl rfl (by first | omega | decide | exact Nat.succ_pos _ | exact Nat.succ_lt_succ (Nat.succ_pos _))) ?_; refine w_loadC (l := diE d7 (an7, cn7)) z33 rfl rfl (fun w h j v hj => cel_old zm0 (hc7 j v hj) (fun x => x) h) ?_; refine ju 0 z33 e4_1 rfl rfl ?_; refine aB rfl ?_; refine yB ?_; refine ze ?_; refine zb (zt (zt (zb (zt (?_)))))
      rw [findD_hit hd7 hf heq]
      refine r_fin (.inl rfl) rfl (.agg rfl e4_1 z33 (fun _ h => h.at_ 0 rfl) rfl (.tmp rfl rfl .nil)) ?_; exact fun w' hw => ⟨⟨(an7, cn7), rfl⟩, hw.fr (w, No) zm0⟩
    refine zi ?_; refine zO (zk ?_); refine zr ?_; refine mI e6_1 ?_; refine zg (fun _ => R_addN (n := i) (b := 1) rfl rfl (by omega)) ?_; refine aI rfl ?_; refine zn ?_; exact k_again _ (by omega) ⟨i + 1, e4_1, e0_1, rfl, e1_1, rfl, rfl, by omega, by rw [findD_take hd7 hf, if_neg (by simpa using h3)], rfl⟩
  refine zX ?_; refine zx (zx (b_here rfl (zk ?_))); refine yA ?_; refine jb bt33 rfl ?_; refine ju 0 z33 e4_1 rfl rfl ?_; refine aB rfl ?_; refine yB ?_; refine ze ?_
  have hF : findD l nm = none := by rw [← hf, List.take_of_length_le (by omega)]
  rw [hF]
  refine r_fin (.inl rfl) rfl (.agg rfl e4_1 z33 (fun _ h => h.at_ 0 rfl) rfl (.tmp rfl rfl .nil)) ?_; exact fun w' hw => ⟨rfl, hw.fr (w, No) zm0⟩
theorem may_b {n m : Nat} (h1 : sz n ≤ 2048) (h2 : sz m ≤ 2048) : decide (m ≠ 0) = (!decide (2048 < sz n) && !decide (2048 < sz m) && decide (0 < bl m)) := by
  rw [decide_eq_false (Nat.not_lt.2 h1), decide_eq_false (Nat.not_lt.2 h2)]
  exact decide_eq_decide.2 ⟨fun h => bl_pos h, fun h h0 => by rw [h0] at h; exact absurd h (by decide)⟩
theorem jMay_ok (s : Bool) {a : Option Addr} {k c n : Nat} {a8 : Option Addr} {k8 c8 m : Nat} (w : World) (hA : Nm w a k c n) (hA8 : Nm w a8 k8 c8 m) (hs : k ≤ 10000 ∧ k8 ≤ 10000 ∧ sz n ≤ 2048 ∧ sz m ≤ 2048) :
    Ret Tryz.prog 46 #[.agg #[.bool s, .slice a k c, .slice a8 k8 c8]] w (fun v w' => v = .bool (decide (m ≠ 0)) ∧ Ext w w') := by
  refine enter (S := No) (l := [_]) (L := []) 20 Tryz.func46 rfl rfl rfl (St.start w No) ?_; refine yA ?_; refine w_boxA rfl (fun p gp up => ?_)
  refine aB rfl ?_; refine yC ?_; refine zf fa46_0 rfl ?_; refine zf fa44_1 rfl ?_; refine jM 0 z42 rfl ?_; refine jD Tryz.func81 (fun w h => rLong_ok w ((Kn.old hA).at_ 0 rfl h) (by omega)) ?_; refine jk rfl ?_; refine mB rfl ?_; refine gTx rfl (fun hc w h => R_fa fa46_1 rfl) rfl ?_; refine gTx rfl (fun hc w h => R_ld1 z42 (gvl_t hc) (zc 0 rfl rfl h)) rfl ?_; refine w_cT rfl rfl rfl (fun hc w => runE_as (zR Tryz.func81 rfl rfl rfl) (arr1 (gvl_t hc))) rfl (fun hc w h => rLong_ok w ((Kn.old hA8).at_ 0 rfl h) (by omega)) ?_
  refine gTx rfl (fun hc w h => R_not (gvl_t hc)) rfl ?_; refine zg (v := .bool _) (fun _ => R_pickA rfl rfl rfl) ?_; refine mB rfl ?_; refine gTx rfl (fun hc w h => R_fa fa46_1 rfl) rfl ?_; refine gTx rfl (fun hc w h => R_ld1 z42 (gvl_t hc) (zc 0 rfl rfl h)) rfl ?_; refine w_cT rfl rfl rfl (fun hc w => runE_as (zR Tryz.func76 rfl rfl rfl) (arr1 (gvl_t hc))) rfl (fun hc w h => rBits_ok w ((Kn.old hA8).at_ 0 rfl h) (by omega)) ?_; refine gTx rfl (fun hc w h => R_gtN (a := (bl m)) (b := 0) (gvl_t hc) rfl) rfl ?_; refine zg (v := .bool _) (fun _ => R_pickA rfl rfl rfl) ?_; refine aB rfl ?_; refine yB ?_; refine ze ?_; refine zo (v := .bool _) rfl rfl rfl ?_; exact fun w' hw => ⟨by rw [may_b hs.2.2.1 hs.2.2.2], hw.fr (w, No) zm0⟩
end Go.Proofs.YtikdkendinnalaaGreatDoor
end
section
namespace Go.Proofs.YtikdkendinnalaaGreatDoor
open Go.RowKit Go.Sx
open Go.Tok Go.Tree Go.Prs Go.Feed Go.Num
theorem dg_one {n : Nat} (h : sz n = 1) : dg Go.Num.B n 0 = n := by
  have h1 : n < Go.Num.B := by have := sz_iff.1 (Nat.le_of_eq h); rwa [Nat.pow_one] at this
  unfold dg; rw [Nat.pow_zero, Nat.div_one, Nat.mod_eq_of_lt h1]
theorem seen_step {l : List Di} {k : Nat} {d : Di} {x : Str} (hd : l[k]? = some d) (h : ((l.take k).map Di.nm).contains x = false) (hn : ¬ d.nm = x) : ((l.take (k + 1)).map Di.nm).contains x = false := by
  obtain ⟨hi, rfl⟩ := List.getElem?_eq_some_iff.1 hd
  rw [List.take_succ_eq_append_getElem hi, List.map_append]
  simp only [List.contains_eq_mem, decide_eq_false_iff_not, List.mem_append, List.map_cons, List.map_nil, List.mem_singleton] at h ⊢
  rintro (h1 | h1)
  · exact h h1
  exact hn h1.symm
theorem seen_hit {l : List Di} {i k : Nat} {d : Di} {x : Str} (hd : l[k]? = some d) (hk : k < i) (hn : d.nm = x) : ((l.take i).map Di.nm).contains x = true := by
  simp only [List.contains_eq_mem, decide_eq_true_eq]
  exact List.mem_map.2 ⟨d, List.mem_of_getElem? (i := k) (by rw [List.getElem?_take, if_pos hk]; exact hd), hn⟩
abbrev numsT (l : List Rw) : List Str := l.map fun x => Lib.itoa x.r.1
theorem joinC_snoc : ∀ (l : List Str) (x : Str), joinC (l ++ [x]) = joinC l ++ ((if 0 < l.length then [44] else []) ++ x)
  | [], x => by simp [joinC]
  | [y], x => by simp [joinC]
  | y :: z :: l, x => by
    have ih := joinC_snoc (z :: l) x
    simp only [List.cons_append, joinC] at ih ⊢
    rw [ih]
    simp [List.append_assoc]
theorem nums_snoc {l : List Rw} {k : Nat} {x : Rw} (hx : l[k]? = some x) : joinC (numsT (l.take (k + 1))) = joinC (numsT (l.take k)) ++ ((if 0 < k then [44] else []) ++ Lib.itoa x.r.1) := by
  obtain ⟨hi, rfl⟩ := List.getElem?_eq_some_iff.1 hx
  rw [List.take_succ_eq_append_getElem hi]
  show joinC (List.map _ _) = _
  rw [List.map_append]
  refine (joinC_snoc _ _).trans ?_
  rw [List.length_map, List.length_take, Nat.min_eq_left (Nat.le_of_lt hi)]
theorem joinC_pre : ∀ (l m : List Str), (joinC l).length ≤ (joinC (l ++ m)).length
  | l, [] => by rw [List.append_nil]; exact Nat.le_refl _
  | l, x :: m => by
    have h1 := joinC_pre (l ++ [x]) m
    rw [List.append_assoc, List.singleton_append] at h1
    refine Nat.le_trans ?_ h1
    rw [joinC_snoc, List.length_append]
    exact Nat.le_add_right _ _
theorem nums_le (l : List Rw) (k : Nat) : (joinC (numsT (l.take k))).length ≤ (joinC (numsT l)).length := by
  have h := joinC_pre (numsT (l.take k)) (numsT (l.drop k))
  have e : numsT (l.take k) ++ numsT (l.drop k) = numsT l := by show List.map _ _ ++ List.map _ _ = _; rw [← List.map_append, List.take_append_drop]
  rwa [e] at h
theorem rok_one {x : Rw} (hd : x.d ≠ 0) (h : sz x.r.2 = 1) (h1 : dg Go.Num.B x.r.2 0 = 1) : x.ok = true := by
  rw [dg_one h] at h1
  unfold Rw.ok; simp [hd, h1]
theorem rok_sz {x : Rw} (h : sz x.r.2 ≠ 1) : x.ok = false := by
  unfold Rw.ok
  rw [decide_eq_false (p := x.r.2 = 1) (fun h1 => h (by rw [h1]; rfl)), Bool.and_false]
theorem rok_dg {x : Rw} (h : sz x.r.2 = 1) (h1 : dg Go.Num.B x.r.2 0 ≠ 1) : x.ok = false := by
  rw [dg_one h] at h1
  unfold Rw.ok
  rw [decide_eq_false h1, Bool.and_false]
theorem rok_z {x : Rw} (h : ¬ x.d ≠ 0) : x.ok = false := by unfold Rw.ok; rw [decide_eq_false h, Bool.false_and]
def preT (l : List Di) (i : Nat) (d : Di) : Str := dataT (l.take i) ++ d.nm ++ [61] ++ (if d.list = true then [91] else [])
theorem preT_len (l : List Di) (i : Nat) (d : Di) : (preT l i d).length ≤ (dataT (l.take i)).length + d.nm.length + 2 := by
  unfold preT
  simp only [List.length_append, List.length_cons, List.length_nil]
  split <;> simp <;> omega
theorem datT_of (l : List Di) (i : Nat) (d : Di) : dataT (l.take i) ++ datT d = preT l i d ++ joinC (numsT d.nums) ++ ((if d.list = true then [93] else []) ++ [59, 10]) := by
  unfold preT datT valT
  split <;> simp [List.append_assoc]
theorem rWrite_ok (l : List Di) (va : Option Addr) (vc : Nat) (w : World) (hD : disV w (fun _ => True) l (va, vc)) (hB : DisB l) (hS : ∀ d ∈ l, ∀ x ∈ d.nums, x.p ≤ 900 ∧ x.q ≤ 900) (hL : (dataT l).length ≤ 1000000000) :
    Ret Tryz.prog 17 #[.slice va l.length vc] w (fun v w' => v = .tuple #[str (writeP l).1, .int .i64 ((writeP l).2 : Nat)] ∧ Ext w w') := by
  have hlB := hB.1
  refine enter (S := No) (l := [_]) (L := []) 165 Tryz.func17 rfl rfl rfl (St.start w No) ?_; refine yA ?_; refine za (v := str _) rfl ?_; refine aI rfl ?_; refine yC ?_; refine mS rfl ?_; refine jj sl24 rfl ?_; refine zg (fun _ => R_gtN (a := (l.length)) (b := 1000) rfl rfl) ?_; refine aB rfl ?_; refine yB ?_; refine zq ?_; refine yA ?_; refine aI rfl ?_; refine yB ?_; refine zB ?_
  refine c_loop (fun m9 e B L => ∃ (i : Nat), e 0 = .slice va l.length vc ∧ e 4 = .bool (longT l i) ∧ e 5 = .int .i64 (i : Nat) ∧ B = [(w, No)] ∧ L = [] ∧ i ≤ l.length ∧ okW [] (l.take i) = true ∧ m9 = l.length - i) _ ⟨0, rfl, (congrArg Value.bool (by unfold longT; simp)), rfl, rfl, rfl, Nat.zero_le _, rfl, rfl⟩ ?_
  rintro m9 e B L ⟨i, e0_1, e4_1, e5_1, rfl, rfl, hi, hokl, rfl⟩
  refine zq ?_; refine yA ?_; refine mI e5_1 ?_; refine mS e0_1 ?_; refine jj sl24 rfl ?_; refine zg (fun _ => R_ltN (a := i) (b := (l.length)) rfl rfl) ?_; refine yB ?_; refine zD rfl (fun h1 => ?_) (fun h1 => ?_)
  · have hi2 : i < l.length := (by omega); obtain ⟨d7, hd7⟩ : ∃ d, l[i]? = some d := ⟨_, List.getElem?_eq_getElem hi2⟩; obtain ⟨cs7, hA7, ⟨an7, cn7⟩, rfl, hT7⟩ := hD.2 i d7 hd7; obtain ⟨q7, o7, rfl, hne7, hc7⟩ := hA7; obtain ⟨hB7, hBn7, hBx7⟩ := hB.2 d7 (List.mem_of_getElem? hd7)
    refine zi ?_; refine zk ?_; refine zq ?_; refine zB ?_; refine c_cut (fun e B L => e 0 = .slice (some ⟨q7, o7, none⟩) l.length vc ∧ e 4 = .bool (longT l i) ∧ e 5 = .int .i64 (i : Nat) ∧ B = [(w, No)] ∧ L = [] ∧ okD d7 = true) ?_ ?_
    · refine yA ?_; refine mS e0_1 ?_; refine mI e5_1 ?_; refine zg (fun _ => R_iaN (i := i) sl24 rfl rfl (by first | omega | decide | exact Nat.succ_pos _ | exact Nat.succ_lt_succ (Nat.succ_pos _))) ?_; refine zf fa33_0 rfl ?_; refine zl (v := str d7.nm) z9 rfl (fun w h => cel_old zm0 (hc7 0 _ rfl) (fun x => x) h) ?_
      cases hnm : nameOk d7.nm
      · refine jD (v := .bool false) Tryz.func28 (fun w9 h => by have h9 := rName_spec d7.nm (by omega) w9; rw [hnm] at h9; exact h9) ?_; refine jk rfl ?_; refine mB rfl ?_; (iterate 7 refine zs rfl rfl rfl ?_); refine zU rfl rfl rfl ?_; refine zU rfl rfl rfl ?_; refine zU rfl rfl rfl ?_; refine zU rfl rfl rfl ?_; refine zU rfl rfl rfl ?_; refine zU rfl rfl rfl ?_; refine zU rfl rfl rfl ?_; refine zs rfl rfl rfl ?_
        refine jT rfl rfl ?_; refine yB ?_; refine zE rfl ?_; refine yA ?_; refine za (v := str _) rfl ?_; refine aI rfl ?_; refine yB ?_; refine ze ?_; refine zt (zb (zt (zt (zb (zt (?_))))))
        rw [okW_bad hd7 (by first | (simp [okD, hnm]; done) | (simp [okD, hli]; omega) | (simp [okD, hli]; done))]
        refine r_two (v := str _) (v2 := .int _ _) rfl rfl rfl rfl rfl ?_; exact fun w' hw => ⟨rfl, hw.fr (w, No) zm0⟩
      refine jD (v := .bool true) Tryz.func28 (fun w9 h => by have h9 := rName_spec d7.nm (by omega) w9; rw [hnm] at h9; exact h9) ?_; refine jk rfl ?_; refine mB rfl ?_; refine zw rfl rfl rfl ?_; refine mS e0_1 ?_; refine zw rfl rfl rfl ?_; refine mI e5_1 ?_; refine zw rfl rfl rfl ?_; refine zg (fun _ => R_iaN (i := i) sl24 rfl rfl (by first | omega | decide | exact Nat.succ_pos _ | exact Nat.succ_lt_succ (Nat.succ_pos _))) ?_; refine zw rfl rfl rfl ?_; refine zf fa33_2 rfl ?_; refine zw rfl rfl rfl ?_
      cases hli : d7.list
      · refine zl (v := .bool false) z4 rfl (fun w h => (cel_old zm0 (hc7 2 _ rfl) (fun x => x) h).trans (congrArg (fun z => some (Value.bool z)) hli)) ?_; refine zw rfl rfl rfl ?_; refine jk rfl ?_; refine zw rfl rfl rfl ?_; refine mB rfl ?_; refine zw rfl rfl rfl ?_; refine mS e0_1 ?_; refine zw rfl rfl rfl ?_; refine mI e5_1 ?_; refine zw rfl rfl rfl ?_; refine zg (fun _ => R_iaN (i := i) sl24 rfl rfl (by first | omega | decide | exact Nat.succ_pos _ | exact Nat.succ_lt_succ (Nat.succ_pos _))) ?_; refine zw rfl rfl rfl ?_; refine zf fa33_4 rfl ?_; refine zw rfl rfl rfl ?_; refine zl (v := .slice an7 d7.nums.length cn7) z31 rfl (fun w h => cel_old zm0 (hc7 4 _ rfl) (fun x => x) h) ?_
        refine zw rfl rfl rfl ?_; refine jj sl31 rfl ?_; refine zw rfl rfl rfl ?_; refine zg (fun _ => R_neN (a := (d7.nums.length)) (b := 1) rfl rfl) ?_; refine zw rfl rfl rfl ?_; refine jT rfl rfl ?_; refine jF rfl rfl ?_; refine yB ?_; refine zD rfl (fun h2 => ?_) (fun h2 => ?_)
        · refine yA ?_; refine za (v := str _) rfl ?_; refine aI rfl ?_; refine yB ?_; refine ze ?_; refine zt (zb (zt (zt (zb (zt (?_))))))
          rw [okW_bad hd7 (by first | (simp [okD, hnm]; done) | (simp [okD, hli]; omega) | (simp [okD, hli]; done))]
          refine r_two (v := str _) (v2 := .int _ _) rfl rfl rfl rfl rfl ?_; exact fun w' hw => ⟨rfl, hw.fr (w, No) zm0⟩
        refine zi ?_; exact k_mid ⟨e0_1, e4_1, e5_1, rfl, rfl, (by unfold okD; rw [hnm, hli]; first | rfl | (simp; omega))⟩
      refine zl (v := .bool true) z4 rfl (fun w h => (cel_old zm0 (hc7 2 _ rfl) (fun x => x) h).trans (congrArg (fun z => some (Value.bool z)) hli)) ?_; refine zw rfl rfl rfl ?_; refine jk rfl ?_; refine zw rfl rfl rfl ?_; refine mB rfl ?_; (iterate 7 refine zs rfl rfl rfl ?_); refine zw rfl rfl rfl ?_; refine jF rfl rfl ?_; refine jF rfl rfl ?_; refine yB ?_; refine zG rfl ?_; refine zi ?_; exact k_mid ⟨e0_1, e4_1, e5_1, rfl, rfl, (by unfold okD; rw [hnm, hli]; first | rfl | (simp; omega))⟩
    rintro e B L ⟨e0_2, e4_2, e5_2, rfl, rfl, hkd⟩
    refine zq ?_; refine yA ?_; refine aI rfl ?_; refine yB ?_; refine zB ?_; refine c_loop (fun m9 e B L => ∃ (k : Nat), e 0 = .slice (some ⟨q7, o7, none⟩) l.length vc ∧ e 4 = .bool (longT l i) ∧ e 5 = .int .i64 (i : Nat) ∧ e 6 = .int .i64 (k : Nat) ∧ B = [(w, No)] ∧ L = [] ∧ k ≤ i ∧ ((l.take k).map Di.nm).contains d7.nm = false ∧ m9 = i - k) _ ⟨0, e0_2, e4_2, e5_2, rfl, rfl, rfl, Nat.zero_le _, rfl, rfl⟩ ?_
    rintro m9 e B L ⟨k, e0_3, e4_3, e5_3, e6_3, rfl, rfl, hk, hse, rfl⟩
    refine zq ?_; refine yA ?_; refine mI e6_3 ?_; refine mI e5_3 ?_; refine zg (fun _ => R_ltN (a := k) (b := i) rfl rfl) ?_; refine yB ?_; refine zD rfl (fun h3 => ?_) (fun h3 => ?_)
    · have hk2 : k < l.length := (by omega); obtain ⟨d6, hd6⟩ : ∃ d, l[k]? = some d := ⟨_, List.getElem?_eq_getElem hk2⟩; obtain ⟨cs6, hA6, ⟨an6, cn6⟩, rfl, hT6⟩ := hD.2 k d6 hd6; obtain ⟨q6, o6, hq6, hne6, hc6⟩ := hA6; cases hq6
      refine zi ?_; refine zk ?_; refine zq ?_; refine zB ?_; refine zq ?_; refine c_heldS mixed ?_; refine zh (v := .slice _ _ _) 0 rfl (by kernel_rfl) rfl rfl (fun w h => h) (fun w h => R_move e0_3) ?_; refine zh (v := .int _ _) 1 rfl (by kernel_rfl) rfl rfl (fun w h => h) (fun w h => R_move e6_3) ?_; refine zh2 2 rfl rfl (fun w h => h) (fun w h => R_iaN (i := k) sl24 rfl rfl (by first | omega | decide | exact Nat.succ_pos _ | exact Nat.succ_lt_succ (Nat.succ_pos _))) ?_; refine zh2 3 rfl rfl (fun w h => h) (fun w h => R_fa fa33_0 rfl) ?_; refine zh2 4 rfl rfl (fun w h => h) (fun w h => R_ld1 z9 rfl (cel_old zm0 (hc6 0 _ rfl) (fun x => x) h)) ?_; refine zh (v := .slice _ _ _) 5 rfl (by kernel_rfl) rfl rfl (fun w h => h) (fun w h => R_move e0_3) ?_
      refine zh (v := .int _ _) 6 rfl (by kernel_rfl) rfl rfl (fun w h => h) (fun w h => R_move e5_3) ?_; refine zh2 7 rfl rfl (fun w h => h) (fun w h => R_iaN (i := i) sl24 rfl rfl (by first | omega | decide | exact Nat.succ_pos _ | exact Nat.succ_lt_succ (Nat.succ_pos _))) ?_; refine zh2 8 rfl rfl (fun w h => h) (fun w h => R_fa fa33_0 rfl) ?_; refine zh2 9 rfl rfl (fun w h => h) (fun w h => R_ld1 z9 rfl (cel_old zm0 (hc7 0 _ rfl) (fun x => x) h)) ?_; refine zh2 10 rfl rfl (fun w h => h) (fun w h => R_seq rfl rfl) ?_; refine zN2 (fun w h => h) ?_; refine zk ?_; refine zD rfl (fun h4 => ?_) (fun h4 => ?_)
      · have heq : d6.nm = d7.nm := (by simpa using h4)
        refine yA ?_; refine za (v := str _) rfl ?_; refine aI rfl ?_; refine yB ?_; refine ze ?_; refine zb (zt (zt (zb (zt (zb (zt (zt (zb (zt (?_))))))))))
        rw [okW_bad hd7 (by rw [seen_hit hd6 (by omega) heq]; simp)]
        refine r_two (v := str _) (v2 := .int _ _) rfl rfl rfl rfl rfl ?_; exact fun w' hw => ⟨rfl, hw.fr (w, No) zm0⟩
      refine zi ?_; refine zO (zk ?_); refine zr ?_; refine mI e6_3 ?_; refine zg (fun _ => R_addN (n := k) (b := 1) rfl rfl (by omega)) ?_; refine aI rfl ?_; refine zn ?_; exact k_again _ (by omega) ⟨k + 1, e0_3, e4_3, e5_3, rfl, rfl, rfl, by omega, seen_step hd6 hse (by simpa using h4), rfl⟩
    obtain rfl : i = k := (by omega)
    refine zX ?_; refine zx (zx (b_here rfl (zk ?_))); refine zq ?_; refine yA ?_; refine aI rfl ?_; refine yB ?_; refine zB ?_; refine c_loop (fun m9 e B L => ∃ (k : Nat), e 0 = .slice (some ⟨q7, o7, none⟩) l.length vc ∧ e 4 = .bool (longT l i) ∧ e 5 = .int .i64 (i : Nat) ∧ e 7 = .int .i64 (k : Nat) ∧ B = [(w, No)] ∧ L = [] ∧ k ≤ d7.nums.length ∧ (d7.nums.take k).all Rw.ok = true ∧ m9 = d7.nums.length - k) _ ⟨0, e0_3, e4_3, e5_3, rfl, rfl, rfl, Nat.zero_le _, rfl, rfl⟩ ?_
    rintro m9 e B L ⟨k, e0_4, e4_4, e5_4, e7_4, rfl, rfl, hk, hall, rfl⟩
    refine zq ?_; refine yA ?_; refine mI e7_4 ?_; refine mS e0_4 ?_; refine mI e5_4 ?_; refine zg (fun _ => R_iaN (i := i) sl24 rfl rfl (by first | omega | decide | exact Nat.succ_pos _ | exact Nat.succ_lt_succ (Nat.succ_pos _))) ?_; refine zf fa33_4 rfl ?_; refine zl (v := .slice an7 d7.nums.length cn7) z31 rfl (fun w h => cel_old zm0 (hc7 4 _ rfl) (fun x => x) h) ?_; refine jj sl31 rfl ?_; refine zg (fun _ => R_ltN (a := k) (b := (d7.nums.length)) rfl rfl) ?_; refine yB ?_; refine zD rfl (fun h5 => ?_) (fun h5 => ?_)
    · have hk2 : k < d7.nums.length := (by omega); obtain ⟨xr, hxr⟩ : ∃ x, d7.nums[k]? = some x := ⟨_, List.getElem?_eq_getElem hk2⟩; obtain ⟨cs8, hA8, br, rfl, hTr⟩ := hT7.2 k xr hxr; obtain ⟨q8, o8, hq8, hne8, hc8⟩ := hA8; dsimp only at hq8; have hBxr := hBx7 xr (List.mem_of_getElem? hxr); have hSxr := hS d7 (List.mem_of_getElem? hd7) xr (List.mem_of_getElem? hxr); have hsn := sz_iff.2 hTr.n.nm.lt; have hsd := sz_iff.2 hTr.d.nm.lt
      refine zi ?_; refine zk ?_; refine zq ?_; refine zB ?_; refine yA ?_; refine mS e0_4 ?_; refine mI e5_4 ?_; refine zg (fun _ => R_iaN (i := i) sl24 rfl rfl (by first | omega | decide | exact Nat.succ_pos _ | exact Nat.succ_lt_succ (Nat.succ_pos _))) ?_; refine zf fa33_4 rfl ?_; refine zl (v := .slice an7 d7.nums.length cn7) z31 rfl (fun w h => cel_old zm0 (hc7 4 _ rfl) (fun x => x) h) ?_; refine mI e7_4 ?_; refine zg (fun _ => R_iaN (i := k) sl31 (congrArg (fun z => Value.slice z d7.nums.length cn7) hq8) rfl hk2) ?_; refine w_loadC (l := rwE xr br) z46 rfl rfl (fun w h j v hj => cel_old zm0 (hc8 j v hj) (fun x => x) h) ?_; refine zA zr46 (fun t8b gt8b ut8b => ?_)
      refine jv 0 z46 rfl ?_; refine yB ?_; refine zq ?_; refine yA ?_; refine jy 0 z46 rfl rfl ?_; refine jD (v := .bool (decide (xr.d ≠ 0))) Tryz.func46 (fun w h => jMay_ok xr.s w ((Kn.old hTr.n.nm).at_ 0 rfl h) ((Kn.old hTr.d.nm).at_ 0 rfl h) ⟨by omega, by omega, by omega, by omega⟩) ?_; refine jk rfl ?_; refine yB ?_; refine c_condND rfl (fun h7 => ?_) (fun h7 => ?_)
      · have hdz : ¬ xr.d ≠ 0 := (by simpa using h7)
        refine yA ?_; refine za (v := str _) rfl ?_; refine aI rfl ?_; refine yB ?_; refine ze ?_; refine zt (zb (zt (zt (zb (zt (zb (zt (zt (zb (zt (?_)))))))))))
        rw [okW_bad hd7 (by rw [okN_bad (List.mem_of_getElem? hxr) (rok_z hdz), Bool.and_false])]
        refine r_two (v := str _) (v2 := .int _ _) rfl rfl rfl rfl rfl ?_; exact fun w' hw => ⟨rfl, hw.fr (w, No) zm0⟩
      have hdz : xr.d ≠ 0 := (by simpa using h7)
      refine zi ?_; refine zk ?_; refine yA ?_; refine jy 0 z46 rfl rfl ?_; refine w_tel2 (fun w => zR Tryz.func47 rfl rfl rfl) rfl rfl (fun w h => jNorm_ok xr.s w ((Kn.old hTr.n.nm).at_ 0 rfl h) ((Kn.old hTr.d.nm).at_ 0 rfl h) ⟨by omega, by omega, hdz⟩) (fun x8 a8 c8 a8' c8' hK8 hN8 hK8' hN8' => ?_)
      have hxs := mkR_sz xr.s xr.n xr.d; have hxs1 : sz xr.r.1.natAbs ≤ sz xr.n := hxs.1; have hxs2 : sz xr.r.2 ≤ sz xr.d := hxs.2
      refine zA zr46 (fun t9b gt9b ut9b => ?_)
      refine jv 0 z46 rfl ?_; refine yC ?_; refine zf fa46_1 rfl ?_; refine jM 0 z42 rfl ?_; refine jj sl42 rfl ?_; refine zg (fun _ => R_neN (a := (sz (xr.r.2))) (b := 1) rfl rfl) ?_; refine mB rfl ?_; refine zd (t := 89) rfl (fun h10 => ?_) (fun h10 => ?_)
      · have hz1 : sz xr.r.2 ≠ 1 := h10
        refine zs rfl rfl (bT h10) ?_; refine zs rfl rfl (bT h10) ?_; refine zs rfl rfl (bT h10) ?_; refine zs rfl rfl (bT h10) ?_; refine zs rfl rfl (bT h10) ?_; refine jT (bT h10) rfl ?_; refine yB ?_; refine zE rfl ?_; refine yA ?_; refine za (v := str _) rfl ?_; refine aI rfl ?_; refine yB ?_; refine ze ?_; refine zb (zt (zt (zb (zt (zb (zt (zt (zb (zt (?_))))))))))
        rw [okW_bad hd7 (by rw [okN_bad (List.mem_of_getElem? hxr) (rok_sz hz1), Bool.and_false])]
        refine r_two (v := str _) (v2 := .int _ _) rfl rfl rfl rfl rfl ?_; exact fun w' hw => ⟨rfl, hw.fr (w, No) zm1⟩
      have hz1 : sz xr.r.2 = 1 := Decidable.not_not.1 h10; have hz1m : sz (mkR xr.s xr.n xr.d).2 = 1 := hz1
      refine zw rfl rfl (bF h10) ?_; refine zf fa46_1 rfl ?_; refine zw rfl rfl (bF h10) ?_; refine jM 0 z42 rfl ?_; refine zw rfl rfl (bF h10) ?_; refine zg (fun _ => R_iaK (i := 0) sl42 rfl (hK8'.ptr (by omega)) rfl (by omega)) ?_; refine zw rfl rfl (bF h10) ?_; refine zl (v := .int .u64 ((dg Go.Num.B (xr.r.2) 0) : Nat)) z75 rfl (fun w h => hK8'.ca 0 rfl (by omega) h) ?_; refine zw rfl rfl (bF h10) ?_; refine zg (fun _ => R_neN (a := (dg Go.Num.B (xr.r.2) 0)) (b := 1) rfl rfl) ?_; refine jF (bF h10) rfl ?_; refine yB ?_; refine zD rfl (fun h11 => ?_) (fun h11 => ?_)
      · have hz2 : dg Go.Num.B xr.r.2 0 ≠ 1 := h11
        refine yA ?_; refine za (v := str _) rfl ?_; refine aI rfl ?_; refine yB ?_; refine ze ?_; refine zb (zt (zt (zb (zt (zb (zt (zt (zb (zt (?_))))))))))
        rw [okW_bad hd7 (by rw [okN_bad (List.mem_of_getElem? hxr) (rok_dg hz1 hz2), Bool.and_false])]
        refine r_two (v := str _) (v2 := .int _ _) rfl rfl rfl rfl rfl ?_; exact fun w' hw => ⟨rfl, hw.fr (w, No) zm1⟩
      have hz2 : dg Go.Num.B xr.r.2 0 = 1 := Decidable.not_not.1 h11
      refine zi ?_; refine zO (zk ?_); refine zr ?_; refine mI e7_4 ?_; refine zg (fun _ => R_addN (n := k) (b := 1) rfl rfl (by omega)) ?_; refine aI rfl ?_; refine zn ?_; refine zK (B' := [(w, No)]) (L' := []) (fun w h => (h.drop (List.nil_sublist _)).unbase (fun x hx => by rcases List.mem_cons.1 hx with rfl | hx; (exact zm1); exact absurd hx (by simp))) ?_; exact k_again _ (by omega) ⟨k + 1, e0_4, e4_4, e5_4, rfl, rfl, rfl, by omega, by rw [okN_take hxr, hall, rok_one hdz hz1 hz2]; rfl, rfl⟩
    refine zX ?_; refine zx (zx (b_here rfl (zk ?_))); refine zr ?_
    cases hlg : longT l i
    · refine zm (v := .bool false) (e4_4.trans (congrArg Value.bool hlg)) ?_; refine mB rfl ?_; refine zw rfl rfl rfl ?_; refine mS e0_4 ?_; refine zw rfl rfl rfl ?_; refine mI e5_4 ?_; refine zw rfl rfl rfl ?_; refine zg (fun _ => R_iaN (i := i) sl24 rfl rfl (by first | omega | decide | exact Nat.succ_pos _ | exact Nat.succ_lt_succ (Nat.succ_pos _))) ?_; refine zw rfl rfl rfl ?_; refine zf fa33_4 rfl ?_; refine zw rfl rfl rfl ?_; refine zl (v := .slice an7 d7.nums.length cn7) z31 rfl (fun w h => cel_old zm0 (hc7 4 _ rfl) (fun x => x) h) ?_; refine zw rfl rfl rfl ?_; refine jj sl31 rfl ?_; refine zw rfl rfl rfl ?_; refine zg (fun _ => R_gtN (a := (d7.nums.length)) (b := 1000) rfl rfl) ?_
      refine jF rfl rfl ?_; refine aB rfl ?_; refine zn ?_; refine zO (zk ?_); refine zr ?_; refine mI e5_4 ?_; refine zg (fun _ => R_addN (n := i) (b := 1) rfl rfl (by omega)) ?_; refine aI rfl ?_; refine zn ?_; exact k_again _ (by omega) ⟨i + 1, e0_4, (congrArg Value.bool (by simp only [longT_succ hd7, hlg, Bool.true_or, Bool.false_or])), rfl, rfl, rfl, by omega, (by rw [okW_take hd7, hokl, Bool.true_and, hkd, Bool.true_and, hse]; unfold okN; rw [show d7.nums.all Rw.ok = true from by rw [← List.take_length (l := d7.nums), show d7.nums.length = k by omega]; exact hall]; rfl), rfl⟩
    refine zm (v := .bool true) (e4_4.trans (congrArg Value.bool hlg)) ?_; refine mB rfl ?_; (iterate 7 refine zs rfl rfl rfl ?_); refine jT rfl rfl ?_; refine aB rfl ?_; refine zn ?_; refine zO (zk ?_); refine zr ?_; refine mI e5_4 ?_; refine zg (fun _ => R_addN (n := i) (b := 1) rfl rfl (by omega)) ?_; refine aI rfl ?_; refine zn ?_
    exact k_again _ (by omega) ⟨i + 1, e0_4, (congrArg Value.bool (by simp only [longT_succ hd7, hlg, Bool.true_or, Bool.false_or])), rfl, rfl, rfl, by omega, (by rw [okW_take hd7, hokl, Bool.true_and, hkd, Bool.true_and, hse]; unfold okN; rw [show d7.nums.all Rw.ok = true from by rw [← List.take_length (l := d7.nums), show d7.nums.length = k by omega]; exact hall]; rfl), rfl⟩
  obtain rfl : i = l.length := (by omega); rw [List.take_length] at hokl
  refine zX ?_; refine zx (zx (b_here rfl (zk ?_))); refine zq ?_; refine yA ?_
  cases hlg : longT l l.length
  · refine zm (v := .bool false) (e4_1.trans (congrArg Value.bool hlg)) ?_; refine yB ?_; refine zG rfl ?_; refine zi ?_; refine zk ?_; refine yA ?_; refine za (v := str _) rfl ?_; refine yB ?_; refine zq ?_; refine yA ?_; refine aI rfl ?_; refine yB ?_; refine zB ?_; refine c_loop (fun m9 e B L => ∃ (i : Nat), e 0 = .slice va l.length vc ∧ e 11 = .int .i64 (i : Nat) ∧ e 10 = str (dataT (l.take i)) ∧ B = [(w, No)] ∧ L = [] ∧ i ≤ l.length ∧ m9 = l.length - i) _ ⟨0, e0_1, rfl, rfl, rfl, rfl, Nat.zero_le _, rfl⟩ ?_
    rintro m9 e B L ⟨i, e0_5, e11_5, e10_5, rfl, rfl, hi, rfl⟩
    refine zq ?_; refine yA ?_; refine mI e11_5 ?_; refine mS e0_5 ?_; refine jj sl24 rfl ?_; refine zg (fun _ => R_ltN (a := i) (b := (l.length)) rfl rfl) ?_; refine yB ?_; refine zD rfl (fun h12 => ?_) (fun h12 => ?_)
    · have hi2 : i < l.length := (by omega); obtain ⟨d7, hd7⟩ : ∃ d, l[i]? = some d := ⟨_, List.getElem?_eq_getElem hi2⟩; obtain ⟨cs7, hA7, ⟨an7, cn7⟩, rfl, hT7⟩ := hD.2 i d7 hd7; obtain ⟨q7, o7, rfl, hne7, hc7⟩ := hA7; obtain ⟨hB7, hBn7, hBx7⟩ := hB.2 d7 (List.mem_of_getElem? hd7); have hdt := dataT_take hd7; have hle7 := dataT_le l (i + 1); have hdl := datT_len d7; have hvl : (joinC (numsT d7.nums)).length ≤ (valT d7).length := valT_len d7; rw [hdt, List.length_append] at hle7; have hpl := preT_len l i d7
      refine zi ?_; refine zk ?_; refine zq ?_; refine zB ?_; refine yA ?_; refine zm (v := str _) e10_5 ?_; refine mS e0_5 ?_; refine mI e11_5 ?_; refine zg (fun _ => R_iaN (i := i) sl24 rfl rfl (by first | omega | decide | exact Nat.succ_pos _ | exact Nat.succ_lt_succ (Nat.succ_pos _))) ?_; refine zf fa33_0 rfl ?_; refine zl (v := str d7.nm) z9 rfl (fun w h => cel_old zm0 (hc7 0 _ rfl) (fun x => x) h) ?_; refine zg (fun _ => R_cat rfl rfl (by (try simp only [List.length_append, List.length_cons, List.length_nil]); omega)) ?_; refine zg (fun _ => R_cat rfl rfl (by (try simp only [List.length_append, List.length_cons, List.length_nil]); omega)) ?_; refine za (v := str _) rfl ?_; refine yB ?_
      refine c_cut (fun e B L => e 0 = .slice (some ⟨q7, o7, none⟩) l.length vc ∧ e 11 = .int .i64 (i : Nat) ∧ e 10 = str (preT l i d7) ∧ B = [(w, No)] ∧ L = []) ?_ ?_
      · refine yA ?_; refine mS e0_5 ?_; refine mI e11_5 ?_; refine zg (fun _ => R_iaN (i := i) sl24 rfl rfl (by first | omega | decide | exact Nat.succ_pos _ | exact Nat.succ_lt_succ (Nat.succ_pos _))) ?_; refine zf fa33_2 rfl ?_
        cases hli : d7.list
        · refine zl (v := .bool false) z4 rfl (fun w h => (cel_old zm0 (hc7 2 _ rfl) (fun x => x) h).trans (congrArg (fun z => some (Value.bool z)) hli)) ?_; refine yB ?_; refine zG rfl ?_; refine zi ?_; exact k_mid ⟨e0_5, e11_5, (congrArg str (by unfold preT; rw [hli]; simp)), rfl, rfl⟩
        refine zl (v := .bool true) z4 rfl (fun w h => (cel_old zm0 (hc7 2 _ rfl) (fun x => x) h).trans (congrArg (fun z => some (Value.bool z)) hli)) ?_; refine yB ?_; refine zE rfl ?_; refine zr ?_; refine zm (v := str _) rfl ?_; refine zg (fun _ => R_cat rfl rfl (by (try simp only [List.length_append, List.length_cons, List.length_nil]); omega)) ?_; refine za (v := str _) rfl ?_; refine zn ?_; exact k_mid ⟨e0_5, e11_5, (congrArg str (by unfold preT; rw [hli]; simp)), rfl, rfl⟩
      rintro e B L ⟨e0_6, e11_6, e10_6, rfl, rfl⟩
      refine zq ?_; refine yA ?_; refine aI rfl ?_; refine yB ?_; refine zB ?_; refine c_loop (fun m9 e B L => ∃ (k : Nat) (q : Str), e 0 = .slice (some ⟨q7, o7, none⟩) l.length vc ∧ e 11 = .int .i64 (i : Nat) ∧ e 12 = .int .i64 (k : Nat) ∧ e 10 = str q ∧ B = [(w, No)] ∧ L = [] ∧ k ≤ d7.nums.length ∧ q = preT l i d7 ++ joinC (numsT (d7.nums.take k)) ∧ m9 = d7.nums.length - k) _ ⟨0, _, e0_6, e11_6, rfl, e10_6, rfl, rfl, Nat.zero_le _, (by rw [List.take_zero]; exact (List.append_nil _).symm), rfl⟩ ?_
      rintro m9 e B L ⟨k, q, e0_7, e11_7, e12_7, e10_7, rfl, rfl, hk, hqe, rfl⟩
      refine zq ?_; refine yA ?_; refine mI e12_7 ?_; refine mS e0_7 ?_; refine mI e11_7 ?_; refine zg (fun _ => R_iaN (i := i) sl24 rfl rfl (by first | omega | decide | exact Nat.succ_pos _ | exact Nat.succ_lt_succ (Nat.succ_pos _))) ?_; refine zf fa33_4 rfl ?_; refine zl (v := .slice an7 d7.nums.length cn7) z31 rfl (fun w h => cel_old zm0 (hc7 4 _ rfl) (fun x => x) h) ?_; refine jj sl31 rfl ?_; refine zg (fun _ => R_ltN (a := k) (b := (d7.nums.length)) rfl rfl) ?_; refine yB ?_; refine zD rfl (fun h13 => ?_) (fun h13 => ?_)
      · have hk2 : k < d7.nums.length := (by omega); obtain ⟨xr, hxr⟩ : ∃ x, d7.nums[k]? = some x := ⟨_, List.getElem?_eq_getElem hk2⟩; obtain ⟨cs8, hA8, br, rfl, hTr⟩ := hT7.2 k xr hxr; obtain ⟨q8, o8, hq8, hne8, hc8⟩ := hA8; dsimp only at hq8; have hBxr := hBx7 xr (List.mem_of_getElem? hxr); have hSxr := hS d7 (List.mem_of_getElem? hd7) xr (List.mem_of_getElem? hxr); have hsn := sz_iff.2 hTr.n.nm.lt; have hsd := sz_iff.2 hTr.d.nm.lt; have hql := congrArg List.length hqe; rw [List.length_append] at hql; have hnl := nums_le d7.nums k; have hnl1 := nums_le d7.nums (k + 1); have hsn2 := congrArg List.length (nums_snoc hxr); rw [List.length_append, List.length_append] at hsn2
        refine zi ?_; refine zk ?_; refine zq ?_; refine zB ?_; refine c_cut (fun e B L => ∃ (q2 : Str), e 0 = .slice (some ⟨q7, o7, none⟩) l.length vc ∧ e 11 = .int .i64 (i : Nat) ∧ e 12 = .int .i64 (k : Nat) ∧ e 10 = str q2 ∧ B = [(w, No)] ∧ L = [] ∧ q2 = preT l i d7 ++ joinC (numsT (d7.nums.take k)) ++ (if 0 < k then [44] else [])) ?_ ?_
        · refine yA ?_; refine mI e12_7 ?_; refine zg (fun _ => R_gtN (a := k) (b := 0) rfl rfl) ?_; refine yB ?_; refine zD rfl (fun h14 => ?_) (fun h14 => ?_)
          · refine zr ?_; refine zm (v := str _) e10_7 ?_; refine zg (fun _ => R_cat rfl rfl (by (try simp only [List.length_append, List.length_cons, List.length_nil]); omega)) ?_; refine za (v := str _) rfl ?_; refine zn ?_; exact k_mid ⟨_, e0_7, e11_7, e12_7, rfl, rfl, rfl, (by rw [hqe, if_pos h14])⟩
          refine zi ?_; exact k_mid ⟨_, e0_7, e11_7, e12_7, e10_7, rfl, rfl, (by rw [hqe, if_neg h14, List.append_nil])⟩
        rintro e B L ⟨q2, e0_8, e11_8, e12_8, e10_8, rfl, rfl, hq2⟩
        refine zr ?_; refine zm (v := str _) e10_8 ?_; refine mS e0_8 ?_; refine mI e11_8 ?_; refine zg (fun _ => R_iaN (i := i) sl24 rfl rfl (by first | omega | decide | exact Nat.succ_pos _ | exact Nat.succ_lt_succ (Nat.succ_pos _))) ?_; refine zf fa33_4 rfl ?_; refine zl (v := .slice an7 d7.nums.length cn7) z31 rfl (fun w h => cel_old zm0 (hc7 4 _ rfl) (fun x => x) h) ?_; refine mI e12_8 ?_; refine zg (fun _ => R_iaN (i := k) sl31 (congrArg (fun z => Value.slice z d7.nums.length cn7) hq8) rfl hk2) ?_; refine w_loadC (l := rwE xr br) z46 rfl rfl (fun w h j v hj => cel_old zm0 (hc8 j v hj) (fun x => x) h) ?_
        refine w_tel2 (fun w => zR Tryz.func47 rfl rfl rfl) rfl rfl (fun w h => jNorm_ok xr.s w ((Kn.old hTr.n.nm).at_ 0 rfl h) ((Kn.old hTr.d.nm).at_ 0 rfl h) ⟨by omega, by omega, okN_mem hokl (List.mem_of_getElem? hd7) (List.mem_of_getElem? hxr)⟩) (fun x15 a15 c15 a15' c15' hK15 hN15 hK15' hN15' => ?_)
        have hxs := mkR_sz xr.s xr.n xr.d; have hxs1 : sz xr.r.1.natAbs ≤ sz xr.n := hxs.1; have hxs2 : sz xr.r.2 ≤ sz xr.d := hxs.2
        refine zg (fun _ => R_fieldG fd46_0 z44 rfl rfl) ?_
        have hq2l := congrArg List.length hq2; simp only [List.length_append] at hq2l
        refine jD Tryz.func48 (fun w h => iTextI_ok xr.r.1 w (hK15.at_ 0 rfl h) (by omega)) ?_; refine zg (fun _ => R_cat rfl rfl (by (try simp only [List.length_append, List.length_cons, List.length_nil]); omega)) ?_; refine za (v := str _) rfl ?_; refine zn ?_; refine zO (zk ?_); refine zr ?_; refine mI e12_8 ?_; refine zg (fun _ => R_addN (n := k) (b := 1) rfl rfl (by omega)) ?_; refine aI rfl ?_; refine zn ?_; refine zK (B' := [(w, No)]) (L' := []) (fun w h => (h.drop (List.nil_sublist _)).unbase (fun x hx => by rcases List.mem_cons.1 hx with rfl | hx; (exact zm1); exact absurd hx (by simp))) ?_; exact k_again _ (by omega) ⟨k + 1, _, e0_8, e11_8, rfl, rfl, rfl, rfl, by omega, (by rw [hq2, nums_snoc hxr]; simp only [List.append_assoc]), rfl⟩
      obtain rfl : k = d7.nums.length := (by omega); rw [List.take_length] at hqe; have hql := congrArg List.length hqe; rw [List.length_append] at hql
      refine zX ?_; refine zx (zx (b_here rfl (zk ?_))); refine zq ?_; refine yA ?_; refine mS e0_7 ?_; refine mI e11_7 ?_; refine zg (fun _ => R_iaN (i := i) sl24 rfl rfl (by first | omega | decide | exact Nat.succ_pos _ | exact Nat.succ_lt_succ (Nat.succ_pos _))) ?_; refine zf fa33_2 rfl ?_
      cases hli : d7.list
      · refine zl (v := .bool false) z4 rfl (fun w h => (cel_old zm0 (hc7 2 _ rfl) (fun x => x) h).trans (congrArg (fun z => some (Value.bool z)) hli)) ?_; refine yB ?_; refine zG rfl ?_; refine zi ?_; refine zk ?_; refine zr ?_; refine zm (v := str _) e10_7 ?_; refine zg (fun _ => R_cat rfl rfl (by (try simp only [List.length_append, List.length_cons, List.length_nil]); omega)) ?_; refine za (v := str _) rfl ?_; refine zn ?_; refine zO (zk ?_); refine zr ?_; refine mI e11_7 ?_; refine zg (fun _ => R_addN (n := i) (b := 1) rfl rfl (by omega)) ?_; refine aI rfl ?_; refine zn ?_; exact k_again _ (by omega) ⟨i + 1, e0_7, rfl, (congrArg str (by rw [hqe, hdt, datT_of, hli]; simp)), rfl, rfl, by omega, rfl⟩
      refine zl (v := .bool true) z4 rfl (fun w h => (cel_old zm0 (hc7 2 _ rfl) (fun x => x) h).trans (congrArg (fun z => some (Value.bool z)) hli)) ?_; refine yB ?_; refine zE rfl ?_; refine zr ?_; refine zm (v := str _) e10_7 ?_; refine zg (fun _ => R_cat rfl rfl (by (try simp only [List.length_append, List.length_cons, List.length_nil]); omega)) ?_; refine za (v := str _) rfl ?_; refine yB ?_; refine zr ?_; refine zm (v := str _) rfl ?_; refine zg (fun _ => R_cat rfl rfl (by (try simp only [List.length_append, List.length_cons, List.length_nil]); omega)) ?_; refine za (v := str _) rfl ?_; refine zn ?_; refine zO (zk ?_); refine zr ?_; refine mI e11_7 ?_; refine zg (fun _ => R_addN (n := i) (b := 1) rfl rfl (by omega)) ?_
      refine aI rfl ?_; refine zn ?_; exact k_again _ (by omega) ⟨i + 1, e0_7, rfl, (congrArg str (by rw [hqe, hdt, datT_of, hli]; simp)), rfl, rfl, by omega, rfl⟩
    obtain rfl : i = l.length := (by omega)
    refine zX ?_; refine zx (zx (b_here rfl (zk ?_))); refine yA ?_; refine zm (v := str _) e10_5 ?_; refine za (v := str _) rfl ?_; refine aI rfl ?_; refine yB ?_; refine ze ?_
    rw [writeP_ok hokl (by rw [← longT_all]; exact hlg)]
    refine r_two (v := str _) (v2 := .int _ _) rfl rfl rfl rfl rfl ?_; exact fun w' hw => ⟨by rw [List.take_length]; rfl, hw.fr (w, No) zm0⟩
  refine zm (v := .bool true) (e4_1.trans (congrArg Value.bool hlg)) ?_; refine yB ?_; refine zE rfl ?_; refine yA ?_; refine za (v := str _) rfl ?_; refine aI rfl ?_; refine yB ?_; refine ze ?_; refine zt (?_)
  rw [writeP_long hokl (by rw [← longT_all]; exact hlg)]
  refine r_two (v := str _) (v2 := .int _ _) rfl rfl rfl rfl rfl ?_; exact fun w' hw => ⟨rfl, hw.fr (w, No) zm0⟩
end Go.Proofs.YtikdkendinnalaaGreatDoor
end
