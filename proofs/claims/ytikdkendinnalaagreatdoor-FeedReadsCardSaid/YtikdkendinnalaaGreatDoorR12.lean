/- Layer 14, FeedReads: that Read tells the data, or the fault, that the document tells. Part 12 of 14. -/
import Derived.Test.YtikdkendinnalaaGreatDoorR11
set_option maxRecDepth 100000
set_option maxHeartbeats 16000000
section
namespace Go.Proofs.YtikdkendinnalaaGreatDoor
open Go.RowKit Go.Sx
open Go.Num
theorem top0 {n k m : Nat} (h : n < Go.Num.B ^ k) (hk : k ≤ m) : n / b32 ^ (2 * m) = 0 := Nat.div_eq_of_lt (Nat.lt_of_lt_of_le h (by rw [B_b32]; exact Nat.pow_le_pow_right b32_pos (by omega)))
theorem cmpN_ng {n m : Nat} (h : n < m) : cmpN n m = -1 := by unfold cmpN; rw [if_pos h]
theorem cmpN_gt {n m : Nat} (h : m < n) : cmpN n m = 1 := by unfold cmpN; rw [if_neg (by omega), if_pos h]
theorem rCmp_ok {a a2 : Option Addr} {k c k2 c2 n m : Nat} (w : World) (hA : Nm w a k c n) (hB : Nm w a2 k2 c2 m) (hs : k ≤ 4000000 ∧ k2 ≤ 4000000) :
  Ret Tryz.prog 127 #[.slice a k c, .slice a2 k2 c2] w (fun v w' => v = .int .i64 (cmpN n m) ∧ Ext w w') := by
 refine enter (S := No) (l := [_, _]) (L := []) 31 Tryz.func127 rfl rfl rfl (St.start w No) ?_; refine yA ?_; refine aI rfl ?_; refine yB ?_; refine zq ?_; refine yA ?_; refine mS rfl ?_; refine jj sl42 rfl ?_; refine mS rfl ?_; refine jj sl42 rfl ?_; refine zg (fun _ => R_maxN (a := k) (b := k2) rfl rfl) ?_; refine zg (fun _ => R_mulN (n := 2) (b := (max k k2)) rfl rfl (by omega)) ?_; refine zg (fun _ => R_subi rfl rfl (by omega)) ?_; refine aI rfl ?_; refine yB ?_; refine zB ?_
 refine c_loop (fun m9 e B L => ∃ (j : Nat), e 0 = .slice a k c ∧ e 1 = .slice a2 k2 c2 ∧ e 5 = .int .i64 ((j : Nat) - 1 : Int) ∧ B = [(w, No)] ∧ L = [] ∧ j ≤ (2 * max k k2) ∧ n / b32 ^ j = m / b32 ^ j ∧ m9 = j + 1) _ ⟨(2 * max k k2), rfl, rfl, rfl, rfl, rfl, Nat.le_refl _, (top0 hA.lt (Nat.le_max_left _ _)).trans (top0 hB.lt (Nat.le_max_right _ _)).symm, rfl⟩ ?_
 rintro m9 e B L ⟨j, e0_1, e1_1, e5_1, rfl, rfl, hj, hE, rfl⟩
 refine zq ?_; refine yA ?_; refine mI e5_1 ?_; refine jh rfl rfl ?_; refine yB ?_; refine zD rfl (fun h1 => ?_) (fun h1 => ?_)
 ·obtain ⟨i, rfl⟩ : ∃ i, j = i + 1 := ⟨j - 1, by omega⟩
  refine zi ?_; refine zk ?_; refine zq ?_; refine zB ?_; refine zq ?_; refine yA ?_; refine mS e0_1 ?_; refine mI (e5_1.trans (congrArg (Value.int .i64) (show (((i + 1 : Nat) : Int) - 1) = (i : Nat) by omega))) ?_; refine jD Tryz.func125 (fun w h => rdigit_ok w ((Kn.old hA).at_ 0 rfl h) i ⟨by omega, by omega⟩) ?_; refine mS e1_1 ?_; refine mI (e5_1.trans (congrArg (Value.int .i64) (show (((i + 1 : Nat) : Int) - 1) = (i : Nat) by omega))) ?_; refine jD Tryz.func125 (fun w h => rdigit_ok w ((Kn.old hB).at_ 0 rfl h) i ⟨by omega, by omega⟩) ?_; refine zg (fun _ => R_ltN (a := (dg b32 n i)) (b := (dg b32 m i)) rfl rfl) ?_; refine yB ?_
  refine zD rfl (fun h2 => ?_) (fun h2 => ?_)
  ·have hc : cmpN n m = -1 := cmpN_ng (top_lt hE h2)
   refine yA ?_; refine aI rfl ?_; refine yB ?_; refine ze ?_; refine zt (zb (zt (zt (zb (zt (?_))))))
   refine zo (v := .int _ _) rfl rfl rfl ?_; exact fun w' hw => ⟨by rw [hc], hw.fr (w, No) zm0⟩
  ·refine zi ?_; refine zk ?_; refine yA ?_; refine mS e0_1 ?_; refine mI (e5_1.trans (congrArg (Value.int .i64) (show (((i + 1 : Nat) : Int) - 1) = (i : Nat) by omega))) ?_; refine jD Tryz.func125 (fun w h => rdigit_ok w ((Kn.old hA).at_ 0 rfl h) i ⟨by omega, by omega⟩) ?_; refine mS e1_1 ?_; refine mI (e5_1.trans (congrArg (Value.int .i64) (show (((i + 1 : Nat) : Int) - 1) = (i : Nat) by omega))) ?_; refine jD Tryz.func125 (fun w h => rdigit_ok w ((Kn.old hB).at_ 0 rfl h) i ⟨by omega, by omega⟩) ?_; refine zg (fun _ => R_gtN (a := (dg b32 n i)) (b := (dg b32 m i)) rfl rfl) ?_; refine yB ?_; refine zD rfl (fun h3 => ?_) (fun h3 => ?_)
   ·have hc : cmpN n m = 1 := cmpN_gt (top_lt hE.symm h3)
    refine yA ?_; refine aI rfl ?_; refine yB ?_; refine ze ?_; refine zb (zt (zt (zb (zt (?_)))))
    refine zo (v := .int _ _) rfl rfl rfl ?_; exact fun w' hw => ⟨by rw [hc], hw.fr (w, No) zm0⟩
   ·refine zi ?_; refine zO (zk ?_); refine zr ?_; refine mI (e5_1.trans (congrArg (Value.int .i64) (show (((i + 1 : Nat) : Int) - 1) = (i : Nat) by omega))) ?_; refine zg (fun _ => R_subi rfl rfl (by omega)) ?_; refine aI rfl ?_; refine zn ?_; exact k_again _ (by omega) ⟨i, e0_1, e1_1, rfl, rfl, rfl, by omega, top_eq hE (by omega), rfl⟩
 ·obtain rfl : j = 0 := (by omega); rw [Nat.pow_zero, Nat.div_one, Nat.div_one] at hE; have hc : cmpN n m = 0 := (by rw [hE]; exact cmpN_self m)
  refine zX ?_; refine zx (zx (b_here rfl (zk ?_))); refine yA ?_; refine aI rfl ?_; refine yB ?_; refine ze ?_; refine zo (v := .int _ _) rfl rfl rfl ?_; exact fun w' hw => ⟨by rw [hc], hw.fr (w, No) zm0⟩
theorem add_dig (n m i : Nat) : (dg b32 n i + dg b32 m i + (n % b32 ^ i + m % b32 ^ i) / b32 ^ i) % 4294967296 = dg b32 (n + m) i ∧ (dg b32 n i + dg b32 m i + (n % b32 ^ i + m % b32 ^ i) / b32 ^ i) / 4294967296 = (n % b32 ^ (i + 1) + m % b32 ^ (i + 1)) / b32 ^ (i + 1) ∧ (n % b32 ^ i + m % b32 ^ i) / b32 ^ i ≤ 1 := by
 have hp := b32pow_pos i
 have h1 := mod_step b32 n i
 have h2 := mod_step b32 m i
 have hn := Nat.div_add_mod n (b32 ^ i)
 have hm := Nat.div_add_mod m (b32 ^ i)
 have hl1 := Nat.mod_lt n hp
 have hl2 := Nat.mod_lt m hp
 have e1 : (n + m) / b32 ^ i = n / b32 ^ i + m / b32 ^ i + (n % b32 ^ i + m % b32 ^ i) / b32 ^ i := by
  have : n + m = (n % b32 ^ i + m % b32 ^ i) + b32 ^ i * (n / b32 ^ i + m / b32 ^ i) := by rw [Nat.mul_add]; omega
  conv => lhs; rw [this]
  rw [Nat.add_mul_div_left _ _ hp]; omega
 have e2 : (n % b32 ^ (i + 1) + m % b32 ^ (i + 1)) / b32 ^ (i + 1) = (dg b32 n i + dg b32 m i + (n % b32 ^ i + m % b32 ^ i) / b32 ^ i) / b32 := by
  have : n % b32 ^ (i + 1) + m % b32 ^ (i + 1) = (n % b32 ^ i + m % b32 ^ i) + b32 ^ i * (dg b32 n i + dg b32 m i) := by rw [h1, h2, Nat.mul_add]; omega
  rw [this, Nat.pow_succ, ← Nat.div_div_eq_div_mul, Nat.add_mul_div_left _ _ hp]
  congr 1; omega
 refine ⟨?_, e2.symm, ?_⟩
 ·show _ = (n + m) / b32 ^ i % b32
  rw [e1]
  unfold dg
  show _ % b32 = _
  rw [Nat.add_mod, ← Nat.add_mod (n / b32 ^ i), ← Nat.add_mod]
 ·have : (n % b32 ^ i + m % b32 ^ i) / b32 ^ i < 2 := (Nat.div_lt_iff_lt_mul hp).2 (by omega)
  omega
theorem sum_lt {n m k k2 : Nat} (hn : n < Go.Num.B ^ k) (hm : m < Go.Num.B ^ k2) : (n + m) % b32 ^ (2 * max k k2 + 1) = n + m := by
 refine Nat.mod_eq_of_lt ?_
 rw [B_b32] at hn hm
 have h1 := Nat.lt_of_lt_of_le hn (Nat.pow_le_pow_right b32_pos (show 2 * k ≤ 2 * max k k2 by omega))
 have h2 := Nat.lt_of_lt_of_le hm (Nat.pow_le_pow_right b32_pos (show 2 * k2 ≤ 2 * max k k2 by omega))
 rw [Nat.pow_succ]
 have h3 : b32 ^ (2 * max k k2) * 2 ≤ b32 ^ (2 * max k k2) * b32 := Nat.mul_le_mul_left _ (by decide)
 omega
theorem rAdd0_ok {a a2 : Option Addr} {k c k2 c2 n m : Nat} (w : World) (hA : Nm w a k c n) (hB : Nm w a2 k2 c2 m) (hs : k ≤ 1000000 ∧ k2 ≤ 1000000) :
  Ret Tryz.prog 124 #[.slice a k c, .slice a2 k2 c2] w (Tel (fun a c => .slice a (sz ((n + m) % b32 ^ (2 * max k k2 + 1))) c) (sz ((n + m) % b32 ^ (2 * max k k2 + 1))) ((n + m) % b32 ^ (2 * max k k2 + 1)) w) := by
 refine enter (S := No) (l := [_, _]) (L := []) 37 Tryz.func124 rfl rfl rfl (St.start w No) ?_; refine yA ?_; refine za (v := .slice _ _ _) rfl ?_; refine yC ?_; refine za (v := .slice _ _ _) rfl ?_; refine yC ?_; refine aI rfl ?_; refine yB ?_; refine zq ?_; refine yA ?_; refine aI rfl ?_; refine yB ?_; refine zB ?_; refine c_st (B' := _) (L' := [] ++ []) (fun w h => h) ?_
 refine c_loop (fun m9 e B L => ∃ (cy i : Nat) (oa : Option Addr) (oc : Nat) (W : Heap), e 0 = .slice a k c ∧ e 1 = .slice a2 k2 c2 ∧ e 5 = .slice oa i oc ∧ e 6 = .int .u64 (cy : Nat) ∧ e 7 = .int .i64 (i : Nat) ∧ B = [(w, No)] ∧ L = W ++ [] ∧ i ≤ 2 * max k k2 + 1 ∧ cy = (n % b32 ^ i + m % b32 ^ i) / b32 ^ i ∧ Own 75 1 (.slice oa (i) oc) (lmV (wid (n + m) (i)) (i)) (i) W ∧ m9 = 2 * max k k2 + 1 - i) _ ⟨0, 0, none, 0, [], rfl, rfl, rfl, rfl, rfl, rfl, rfl, Nat.zero_le _, by simp [Nat.mod_one], Own.nil _ _, rfl⟩ ?_
 rintro m9 e B L ⟨cy, i, oa, oc, W, e0_1, e1_1, e5_1, e6_1, e7_1, rfl, rfl, hi, hcy, hO, rfl⟩
 refine zq ?_; refine yA ?_; refine mI e7_1 ?_; refine mS e0_1 ?_; refine jj sl42 rfl ?_; refine mS e1_1 ?_; refine jj sl42 rfl ?_; refine zg (fun _ => R_maxN (a := k) (b := k2) rfl rfl) ?_; refine zg (fun _ => R_mulN (n := 2) (b := (max k k2)) rfl rfl (by omega)) ?_; refine zg (fun _ => R_leN (a := i) (b := (2 * (max k k2))) rfl rfl) ?_; refine yB ?_; refine zD rfl (fun h1 => ?_) (fun h1 => ?_)
 ·have had := add_dig n m i; have hd1 := dg_lt b32_pos n i; have hd2 := dg_lt b32_pos m i; have hBv : Go.Num.B = 18446744073709551616 := rfl; have hb9 : b32 = 4294967296 := rfl; rw [← hcy] at had; have hdig := had.1; have hdB : (dg b32 n i + dg b32 m i + cy) % 4294967296 < Go.Num.B := Nat.lt_trans (Nat.mod_lt _ (by decide)) (by decide); have hcl := had.2.2
  refine zi ?_; refine zk ?_; refine zq ?_; refine zB ?_; refine yA ?_; refine mS e0_1 ?_; refine mI e7_1 ?_; refine jD Tryz.func125 (fun w h => rdigit_ok w ((Kn.old hA).at_ 0 rfl h) i ⟨by omega, by omega⟩) ?_; refine mS e1_1 ?_; refine mI e7_1 ?_; refine jD Tryz.func125 (fun w h => rdigit_ok w ((Kn.old hB).at_ 0 rfl h) i ⟨by omega, by omega⟩) ?_; refine zg (fun _ => R_addU (a := (dg b32 n i)) (b := (dg b32 m i)) rfl rfl (by omega)) ?_; refine mI e6_1 ?_; refine zg (fun _ => R_addU (a := ((dg b32 n i) + (dg b32 m i))) (b := cy) rfl rfl (by omega)) ?_
  refine aI rfl ?_; refine yC ?_; refine mS e5_1 ?_; refine mI rfl ?_; refine zg (fun _ => R_remU (a := (((dg b32 n i) + (dg b32 m i)) + cy)) (b := 4294967296) rfl rfl (by omega)) ?_; refine zS slt41 (by decide) rfl rfl (fun lb glb ulb => ?_)
  refine w_st (B' := _) (L' := [_] ++ (W ++ [])) (fun w h => h) ?_; refine w_appN (z := wid (n + m) (i)) (k := i) [_] slt41 rfl hO (wid_lt _ _) rfl (fun w h => Nm.one (h.at_ 0 rfl) (by first | omega | exact hdB)) (by omega) (fun v1 W1 hO1 => ?_)
  rw [hdig, wid_succ] at hO1; obtain ⟨a1, c1, rfl⟩ := hO1.slice
  refine za (v := .slice _ _ _) rfl ?_; refine yB ?_; refine zr ?_; refine mI rfl ?_; refine zg (fun _ => R_quoU (a := (((dg b32 n i) + (dg b32 m i)) + cy)) (b := 4294967296) rfl rfl (by omega) (by omega)) ?_; refine aI rfl ?_; refine zn ?_; refine zO (zk ?_); refine zr ?_; refine mI e7_1 ?_; refine zg (fun _ => R_addN (n := i) (b := 1) rfl rfl (by omega)) ?_; refine aI rfl ?_; refine zn ?_; refine zK (B' := [(w, No)]) (L' := W1 ++ []) (fun w h => h.d1) ?_; exact k_again _ (by omega) ⟨_, i + 1, a1, c1, W1, e0_1, e1_1, rfl, rfl, rfl, rfl, rfl, by omega, had.2.1, hO1, rfl⟩
 ·obtain rfl : i = 2 * max k k2 + 1 := (by omega); obtain ⟨a8, c8, h8, hM, _⟩ := hO.nm (wid_lt _ _); cases h8
  refine zX ?_; refine zx (zx (b_here rfl (zk ?_))); refine yA ?_; refine mS e5_1 ?_; refine w_tel (fun w => zR Tryz.func129 rfl rfl rfl) rfl rfl (fun w h => made_ok w (hM w (fun p hp => h.own p (List.mem_append_left _ hp))) (by omega)) (fun x2 a2 c2 hK2 hN2 => ?_)
  refine za (v := .slice _ _ _) rfl ?_; refine yB ?_; refine ze ?_; refine zo (v := .slice _ _ _) rfl rfl rfl ?_; exact fun w' hw => ⟨_, _, rfl, (hK2.at_ 0 rfl hw), (hN2 _ zm0), hw.fr (w, No) zm1⟩
theorem rAdd_ok {a a2 : Option Addr} {k c k2 c2 n m : Nat} (w : World) (hA : Nm w a k c n) (hB : Nm w a2 k2 c2 m) (hs : k ≤ 1000000 ∧ k2 ≤ 1000000) : Ret Tryz.prog 124 #[.slice a k c, .slice a2 k2 c2] w (Tel (fun a c => .slice a (sz (n + m)) c) (sz (n + m)) (n + m) w) := by
 have := rAdd0_ok w hA hB hs
 rwa [sum_lt hA.lt hB.lt] at this
theorem sub_mod9 {n m i : Nat} (h : m ≤ n) : (n - m) % b32 ^ i + m % b32 ^ i = n % b32 ^ i + b32 ^ i * (if n % b32 ^ i < m % b32 ^ i then 1 else 0) := by
 have hp := b32pow_pos i
 have h1 : ((n - m) % b32 ^ i + m % b32 ^ i) % b32 ^ i = n % b32 ^ i := by rw [← Nat.add_mod, Nat.sub_add_cancel h]
 have h2 := Nat.mod_lt (n - m) hp
 have h3 := Nat.mod_lt m hp
 have h4 := Nat.mod_lt n hp
 generalize hx : (n - m) % b32 ^ i = x at *
 generalize hy : m % b32 ^ i = y at *
 generalize hz : n % b32 ^ i = z at *
 generalize hpp : b32 ^ i = p at *
 by_cases hs : x + y < p
 ·rw [Nat.mod_eq_of_lt hs] at h1
  rw [if_neg (by omega)]; omega
 ·have h5 : (x + y) % p = x + y - p := by
   rw [Nat.mod_eq_sub_mod (by omega), Nat.mod_eq_of_lt (by omega)]
  rw [h5] at h1
  rw [if_pos (by omega)]; omega
theorem sub_dig {n m : Nat} (h : m ≤ n) (i : Nat) : dg b32 (n - m) i + dg b32 m i + (if n % b32 ^ i < m % b32 ^ i then 1 else 0) = dg b32 n i + b32 * (if n % b32 ^ (i + 1) < m % b32 ^ (i + 1) then 1 else 0) := by
 have hp := b32pow_pos i
 have h1 := sub_mod9 (i := i) h
 have h2 := sub_mod9 (i := i + 1) h
 obtain ⟨r, hr⟩ : ∃ r, r = (if n % b32 ^ i < m % b32 ^ i then 1 else 0) := ⟨_, rfl⟩
 obtain ⟨r2, hr2⟩ : ∃ r, r = (if n % b32 ^ (i + 1) < m % b32 ^ (i + 1) then 1 else 0) := ⟨_, rfl⟩
 rw [← hr] at h1 ⊢
 rw [← hr2] at h2 ⊢
 rw [mod_step, mod_step b32 m, mod_step b32 n, Nat.pow_succ, Nat.mul_assoc] at h2
 refine Nat.eq_of_mul_eq_mul_left hp ?_
 rw [Nat.mul_add, Nat.mul_add, Nat.mul_add]
 omega
theorem sub_prog {n m : Nat} (h : m ≤ n) (i : Nat) {r : Nat} (hr : r = (if n % b32 ^ i < m % b32 ^ i then 1 else 0)) : (4294967296 + dg b32 n i - dg b32 m i - r) % 4294967296 = dg b32 (n - m) i ∧ 1 - (4294967296 + dg b32 n i - dg b32 m i - r) / 4294967296 = (if n % b32 ^ (i + 1) < m % b32 ^ (i + 1) then 1 else 0) ∧ r ≤ 1 ∧ (4294967296 + dg b32 n i - dg b32 m i - r) / 4294967296 ≤ 1 := by
 have h1 := sub_dig h i
 rw [← hr] at h1
 have hr1 : r ≤ 1 := by rw [hr]; split <;> omega
 have h2 := dg_lt b32_pos (n - m) i
 have h3 := dg_lt b32_pos m i
 have h4 := dg_lt b32_pos n i
 have hb : b32 = 4294967296 := rfl
 obtain ⟨r2, hr2⟩ : ∃ r2, r2 = (if n % b32 ^ (i + 1) < m % b32 ^ (i + 1) then 1 else 0) := ⟨_, rfl⟩
 have hr3 : r2 ≤ 1 := by rw [hr2]; split <;> omega
 rw [← hr2] at h1 ⊢
 rw [hb] at h1 h2 h3 h4
 generalize dg b32 (n - m) i = x at *
 generalize dg b32 n i = y at *
 generalize dg b32 m i = z at *
 omega
theorem sub_lt2 {n m k : Nat} (hn : n < Go.Num.B ^ k) : (n - m) % b32 ^ (2 * k) = n - m := by
 rw [B_b32] at hn
 exact Nat.mod_eq_of_lt (Nat.lt_of_le_of_lt (Nat.sub_le _ _) hn)
theorem rSub0_ok {a a2 : Option Addr} {k c k2 c2 n m : Nat} (w : World) (hA : Nm w a k c n) (hB : Nm w a2 k2 c2 m) (hs : k ≤ 1000000 ∧ k2 ≤ 1000000) (hle : m ≤ n) :
  Ret Tryz.prog 128 #[.slice a k c, .slice a2 k2 c2] w (Tel (fun a c => .slice a (sz ((n - m) % b32 ^ (2 * k))) c) (sz ((n - m) % b32 ^ (2 * k))) ((n - m) % b32 ^ (2 * k)) w) := by
 refine enter (S := No) (l := [_, _]) (L := []) 36 Tryz.func128 rfl rfl rfl (St.start w No) ?_; refine yA ?_; refine za (v := .slice _ _ _) rfl ?_; refine yC ?_; refine za (v := .slice _ _ _) rfl ?_; refine yC ?_; refine aI rfl ?_; refine yB ?_; refine zq ?_; refine yA ?_; refine aI rfl ?_; refine yB ?_; refine zB ?_; refine c_st (B' := _) (L' := [] ++ []) (fun w h => h) ?_
 refine c_loop (fun m9 e B L => ∃ (cy i : Nat) (oa : Option Addr) (oc : Nat) (W : Heap), e 0 = .slice a k c ∧ e 1 = .slice a2 k2 c2 ∧ e 5 = .slice oa i oc ∧ e 6 = .int .u64 (cy : Nat) ∧ e 7 = .int .i64 (i : Nat) ∧ B = [(w, No)] ∧ L = W ++ [] ∧ i ≤ 2 * k ∧ cy = (if n % b32 ^ i < m % b32 ^ i then 1 else 0) ∧ Own 75 1 (.slice oa (i) oc) (lmV (wid (n - m) (i)) (i)) (i) W ∧ m9 = 2 * k - i) _ ⟨0, 0, none, 0, [], rfl, rfl, rfl, rfl, rfl, rfl, rfl, Nat.zero_le _, by simp [Nat.mod_one], Own.nil _ _, rfl⟩ ?_
 rintro m9 e B L ⟨cy, i, oa, oc, W, e0_1, e1_1, e5_1, e6_1, e7_1, rfl, rfl, hi, hcy, hO, rfl⟩
 refine zq ?_; refine yA ?_; refine mI e7_1 ?_; refine mS e0_1 ?_; refine jj sl42 rfl ?_; refine zg (fun _ => R_mulN (n := 2) (b := k) rfl rfl (by omega)) ?_; refine zg (fun _ => R_ltN (a := i) (b := (2 * k)) rfl rfl) ?_; refine yB ?_; refine zD rfl (fun h1 => ?_) (fun h1 => ?_)
 ·have had := sub_prog hle i hcy; have hd1 := dg_lt b32_pos n i; have hd2 := dg_lt b32_pos m i; have hBv : Go.Num.B = 18446744073709551616 := rfl; have hb9 : b32 = 4294967296 := rfl; have hdig := had.1; have hdB : (4294967296 + dg b32 n i - dg b32 m i - cy) % 4294967296 < Go.Num.B := Nat.lt_trans (Nat.mod_lt _ (by decide)) (by decide); have hcl := had.2.2.1; have hcm := had.2.2.2
  refine zi ?_; refine zk ?_; refine zq ?_; refine zB ?_; refine yA ?_; refine mS e0_1 ?_; refine mI e7_1 ?_; refine jD Tryz.func125 (fun w h => rdigit_ok w ((Kn.old hA).at_ 0 rfl h) i ⟨by omega, by omega⟩) ?_; refine zg (fun _ => R_addU (a := 4294967296) (b := (dg b32 n i)) rfl rfl (by omega)) ?_; refine mS e1_1 ?_; refine mI e7_1 ?_; refine jD Tryz.func125 (fun w h => rdigit_ok w ((Kn.old hB).at_ 0 rfl h) i ⟨by omega, by omega⟩) ?_; refine zg (fun _ => R_subU (a := (4294967296 + (dg b32 n i))) (b := (dg b32 m i)) rfl rfl (by omega) (by omega)) ?_; refine mI e6_1 ?_
  refine zg (fun _ => R_subU (a := ((4294967296 + (dg b32 n i)) - (dg b32 m i))) (b := cy) rfl rfl (by omega) (by omega)) ?_; refine aI rfl ?_; refine yC ?_; refine mS e5_1 ?_; refine mI rfl ?_; refine zg (fun _ => R_remU (a := (((4294967296 + (dg b32 n i)) - (dg b32 m i)) - cy)) (b := 4294967296) rfl rfl (by omega)) ?_; refine zS slt41 (by decide) rfl rfl (fun lb glb ulb => ?_)
  refine w_st (B' := _) (L' := [_] ++ (W ++ [])) (fun w h => h) ?_; refine w_appN (z := wid (n - m) (i)) (k := i) [_] slt41 rfl hO (wid_lt _ _) rfl (fun w h => Nm.one (h.at_ 0 rfl) (by first | omega | exact hdB)) (by omega) (fun v1 W1 hO1 => ?_)
  rw [hdig, wid_succ] at hO1; obtain ⟨a1, c1, rfl⟩ := hO1.slice
  refine za (v := .slice _ _ _) rfl ?_; refine yB ?_; refine zr ?_; refine mI rfl ?_; refine zg (fun _ => R_quoU (a := (((4294967296 + (dg b32 n i)) - (dg b32 m i)) - cy)) (b := 4294967296) rfl rfl (by omega) (by omega)) ?_; refine zg (fun _ => R_subU (a := 1) (b := ((((4294967296 + (dg b32 n i)) - (dg b32 m i)) - cy) / 4294967296)) rfl rfl (by omega) (by omega)) ?_; refine aI rfl ?_; refine zn ?_; refine zO (zk ?_); refine zr ?_; refine mI e7_1 ?_; refine zg (fun _ => R_addN (n := i) (b := 1) rfl rfl (by omega)) ?_; refine aI rfl ?_; refine zn ?_; refine zK (B' := [(w, No)]) (L' := W1 ++ []) (fun w h => h.d1) ?_
  exact k_again _ (by omega) ⟨_, i + 1, a1, c1, W1, e0_1, e1_1, rfl, rfl, rfl, rfl, rfl, by omega, had.2.1, hO1, rfl⟩
 ·obtain rfl : i = 2 * k := (by omega); obtain ⟨a8, c8, h8, hM, _⟩ := hO.nm (wid_lt _ _); cases h8
  refine zX ?_; refine zx (zx (b_here rfl (zk ?_))); refine yA ?_; refine mS e5_1 ?_; refine w_tel (fun w => zR Tryz.func129 rfl rfl rfl) rfl rfl (fun w h => made_ok w (hM w (fun p hp => h.own p (List.mem_append_left _ hp))) (by omega)) (fun x2 a2 c2 hK2 hN2 => ?_)
  refine za (v := .slice _ _ _) rfl ?_; refine yB ?_; refine ze ?_; refine zo (v := .slice _ _ _) rfl rfl rfl ?_; exact fun w' hw => ⟨_, _, rfl, (hK2.at_ 0 rfl hw), (hN2 _ zm0), hw.fr (w, No) zm1⟩
theorem rSub_ok {a a2 : Option Addr} {k c k2 c2 n m : Nat} (w : World) (hA : Nm w a k c n) (hB : Nm w a2 k2 c2 m) (hs : k ≤ 1000000 ∧ k2 ≤ 1000000) (hle : m ≤ n) : Ret Tryz.prog 128 #[.slice a k c, .slice a2 k2 c2] w (Tel (fun a c => .slice a (sz (n - m)) c) (sz (n - m)) (n - m) w) := by
 have := rSub0_ok w hA hB hs hle
 rwa [sub_lt2 hA.lt] at this
theorem made2_ok {a : Option Addr} {k c N : Nat} (w : World) (hA : Nm w a k c (wid N k)) (hk : k ≤ 4000000) (hN : N % b32 ^ k = N) : Ret Tryz.prog 129 #[.slice a k c] w (Tel (fun a c => .slice a (sz N) c) (sz N) N w) := by
 have := made_ok w hA hk
 rwa [hN] at this
theorem own_row {T : TypeId} {ob q z : Nat} : Own T 1 (.slice (some ⟨ob, 0, none⟩) q q) (lmV z q) q [(ob, cel (lmV z q) T)] := ⟨by simp [lmV_len], .inr ⟨ob, q, [], rfl, Nat.le_refl _, by simp, by simp⟩⟩
theorem shl_row (n h i : Nat) : dg b32 (n * 2 ^ h) (h / 32 + i) = dg b32 (n * 2 ^ (h % 32)) i := by
 have h1 := shl32 n h
 have h2 := dg_high (b := b32) (x := 0) (y := n * 2 ^ (h % 32)) (i := i) (b32pow_pos (h / 32))
 rw [Nat.zero_add] at h2
 rw [h1]; exact h2
theorem shl_low (n h : Nat) : wid (n * 2 ^ h) (h / 32) = 0 := by
 have : wid (n * 2 ^ h) (h / 32) = wid 0 (h / 32) := wid_congr fun i hi => by
  rw [shl32, dg_zero, ← Nat.zero_add (b32 ^ _ * _), dg_low b32_pos hi, dg_zero]
 rw [this]
 exact lmV_inj (k := h / 32) (wid_lt _ _) (Bpow_pos _) fun j hj => by rw [wid_dg hj, dg_zero, dg_zero]
theorem shl_dig (n i : Nat) {r : Nat} (hr : r < 32) : (dg b32 n i * 2 ^ r + n % b32 ^ i * 2 ^ r / b32 ^ i) % 4294967296 = dg b32 (n * 2 ^ r) i ∧ (dg b32 n i * 2 ^ r + n % b32 ^ i * 2 ^ r / b32 ^ i) / 4294967296 = n % b32 ^ (i + 1) * 2 ^ r / b32 ^ (i + 1) ∧ dg b32 n i * 2 ^ r < 9223372036854775808 ∧ n % b32 ^ i * 2 ^ r / b32 ^ i < 2147483648 := by
 have hp := b32pow_pos i
 have h2r : 2 ^ r ≤ 2147483648 := Nat.pow_le_pow_right (n := 2) (by decide) (show r ≤ 31 by omega)
 have e1 : n % b32 ^ (i + 1) * 2 ^ r / b32 ^ i = dg b32 n i * 2 ^ r + n % b32 ^ i * 2 ^ r / b32 ^ i := by
  rw [mod_step, Nat.add_mul, Nat.mul_assoc, Nat.add_mul_div_left _ _ hp, Nat.add_comm]
 have e2 : n * 2 ^ r / b32 ^ i = n / b32 ^ i * 2 ^ r + n % b32 ^ i * 2 ^ r / b32 ^ i := by
  have hn := Nat.div_add_mod n (b32 ^ i)
  conv => lhs; rw [← hn]
  rw [Nat.add_mul, Nat.mul_assoc, Nat.add_comm, Nat.add_mul_div_left _ _ hp, Nat.add_comm]
 refine ⟨?_, ?_, ?_, ?_⟩
 ·show _ = n * 2 ^ r / b32 ^ i % b32
  rw [e2]
  unfold dg
  show _ % b32 = _
  rw [Nat.add_mod, Nat.mod_mul_mod, ← Nat.add_mod]
 ·rw [← e1, Nat.pow_succ, ← Nat.div_div_eq_div_mul]
 ·have h3 := dg_lt b32_pos n i
  have h5 : dg b32 n i * 2 ^ r ≤ 4294967295 * 2147483648 := Nat.mul_le_mul (Nat.le_of_lt_succ h3) h2r
  omega
 ·rw [Nat.div_lt_iff_lt_mul hp]
  have h3 := Nat.mod_lt n hp
  calc n % b32 ^ i * 2 ^ r < b32 ^ i * 2 ^ r := Nat.mul_lt_mul_of_pos_right h3 (Nat.pow_pos (by decide))
   _ ≤ b32 ^ i * 2147483648 := Nat.mul_le_mul_left _ h2r
   _ = 2147483648 * b32 ^ i := Nat.mul_comm _ _
theorem shl_end {n k : Nat} (h : Nat) (hn : n < Go.Num.B ^ k) : n * 2 ^ h % b32 ^ (h / 32 + (2 * k + 1)) = n * 2 ^ h := by
 refine Nat.mod_eq_of_lt ?_
 rw [B_b32] at hn
 rw [shl32, Nat.pow_add, Nat.pow_succ]
 refine Nat.mul_lt_mul_of_pos_left ?_ (b32pow_pos _)
 have h2r : 2 ^ (h % 32) ≤ b32 := by rw [b32_two]; exact Nat.pow_le_pow_right (by decide) (by omega)
 exact Nat.lt_of_lt_of_le (Nat.mul_lt_mul_of_pos_right hn (Nat.pow_pos (by decide))) (Nat.mul_le_mul_left _ h2r)
theorem shr_end {n k h j : Nat} (hn : n < Go.Num.B ^ k) (hj : 2 * k ≤ h / 32 + j) : n / 2 ^ h % b32 ^ j = n / 2 ^ h := by
 refine Nat.mod_eq_of_lt ((Nat.div_lt_iff_lt_mul (Nat.pow_pos (by decide))).2 (Nat.lt_of_lt_of_le hn ?_))
 rw [B_pow, b32_pow, ← Nat.pow_add]
 exact Nat.pow_le_pow_right (by decide) (by omega)
theorem rShl_ok {a : Option Addr} {k c n : Nat} (w : World) (hA : Nm w a k c n) (h9 : Nat) (hs : k ≤ 1000000 ∧ h9 ≤ 131072) :
  Ret Tryz.prog 121 #[.slice a k c, .int .i64 (h9 : Nat)] w (Tel (fun a c => .slice a (sz ((n * 2 ^ h9))) c) (sz ((n * 2 ^ h9))) ((n * 2 ^ h9)) w) := by
 refine enter (S := No) (l := [_, _]) (L := []) 37 Tryz.func121 rfl rfl rfl (St.start w No) ?_; refine yA ?_; refine za (v := .slice _ _ _) rfl ?_; refine yC ?_; refine mI rfl ?_; refine zg (fun _ => R_quoN (a := h9) (b := 32) rfl rfl (by omega) (by omega)) ?_; refine w_makeU (n := (h9 / 32)) slt41 rfl rfl (by omega) (by omega) (fun ob gob uob => ?_)
 refine za (v := .slice _ _ _) rfl ?_; refine yC ?_; refine aI rfl ?_; refine yB ?_; refine zq ?_; refine yA ?_; refine aI rfl ?_; refine yB ?_; refine zB ?_; refine c_st (B' := _) (L' := [(ob, cel (lmV 0 (h9 / 32)) 75)] ++ []) (fun w h => h) ?_
 refine c_loop (fun m9 e B L => ∃ (cy i : Nat) (oa : Option Addr) (oc : Nat) (W : Heap), e 0 = .slice a k c ∧ e 1 = .int .i64 (h9 : Nat) ∧ e 5 = .slice oa (h9 / 32 + i) oc ∧ e 6 = .int .u64 (cy : Nat) ∧ e 7 = .int .i64 (i : Nat) ∧ B = [(w, No)] ∧ L = W ++ [] ∧ i ≤ 2 * k + 1 ∧ cy = n % b32 ^ i * 2 ^ (h9 % 32) / b32 ^ i ∧ Own 75 1 (.slice oa (h9 / 32 + i) oc) (lmV (wid (n * 2 ^ h9) (h9 / 32 + i)) (h9 / 32 + i)) (h9 / 32 + i) W ∧ m9 = 2 * k + 1 - i) _ ⟨0, 0, (some ⟨ob, 0, none⟩), (h9 / 32), [(ob, cel (lmV 0 (h9 / 32)) 75)], rfl, rfl, rfl, rfl, rfl, rfl, rfl, Nat.zero_le _, by simp [Nat.mod_one], by rw [Nat.add_zero, shl_low]; exact own_row, rfl⟩ ?_
 rintro m9 e B L ⟨cy, i, oa, oc, W, e0_1, e1_1, e5_1, e6_1, e7_1, rfl, rfl, hi, hcy, hO, rfl⟩
 refine zq ?_; refine yA ?_; refine mI e7_1 ?_; refine mS e0_1 ?_; refine jj sl42 rfl ?_; refine zg (fun _ => R_mulN (n := 2) (b := k) rfl rfl (by omega)) ?_; refine zg (fun _ => R_leN (a := i) (b := (2 * k)) rfl rfl) ?_; refine yB ?_; refine zD rfl (fun h1 => ?_) (fun h1 => ?_)
 ·have had := shl_dig n i (show h9 % 32 < 32 by omega); have hd1 := dg_lt b32_pos n i; have hBv : Go.Num.B = 18446744073709551616 := rfl; have hb9 : b32 = 4294967296 := rfl; rw [← hcy, ← shl_row] at had; have hdig := had.1; have hdB : (dg b32 n i * 2 ^ (h9 % 32) + cy) % 4294967296 < Go.Num.B := Nat.lt_trans (Nat.mod_lt _ (by decide)) (by decide); have hcl := had.2.2.2; have hcm := had.2.2.1
  refine zi ?_; refine zk ?_; refine zq ?_; refine zB ?_; refine yA ?_; refine mS e0_1 ?_; refine mI e7_1 ?_; refine jD Tryz.func125 (fun w h => rdigit_ok w ((Kn.old hA).at_ 0 rfl h) i ⟨by omega, by omega⟩) ?_; refine mI e1_1 ?_; refine zg (fun _ => R_remU (a := h9) (b := 32) rfl rfl (by omega)) ?_; refine zg (fun _ => R_convK (n := (h9 % 32)) un3 un191 rfl (wrap_u (by omega))) ?_; refine zg (fun _ => R_shlU (a := (dg b32 n i)) (n := (h9 % 32)) rfl rfl (by omega)) ?_
  rw [Nat.mod_eq_of_lt (show (dg b32 n i) * 2 ^ (h9 % 32) < Go.Num.B by omega)]
  refine mI e6_1 ?_; refine zg (fun _ => R_addU (a := ((dg b32 n i) * 2 ^ (h9 % 32))) (b := cy) rfl rfl (by omega)) ?_; refine aI rfl ?_; refine yC ?_; refine mS e5_1 ?_; refine mI rfl ?_; refine zg (fun _ => R_remU (a := (((dg b32 n i) * 2 ^ (h9 % 32)) + cy)) (b := 4294967296) rfl rfl (by omega)) ?_; refine zS slt41 (by decide) rfl rfl (fun lb glb ulb => ?_)
  refine w_st (B' := _) (L' := [_] ++ (W ++ [])) (fun w h => h) ?_; refine w_appN (z := wid (n * 2 ^ h9) (h9 / 32 + i)) (k := h9 / 32 + i) [_] slt41 rfl hO (wid_lt _ _) rfl (fun w h => Nm.one (h.at_ 0 rfl) (by first | omega | exact hdB)) (by omega) (fun v1 W1 hO1 => ?_)
  rw [hdig, wid_succ] at hO1; obtain ⟨a1, c1, rfl⟩ := hO1.slice
  refine za (v := .slice _ _ _) rfl ?_; refine yB ?_; refine zr ?_; refine mI rfl ?_; refine zg (fun _ => R_quoU (a := (((dg b32 n i) * 2 ^ (h9 % 32)) + cy)) (b := 4294967296) rfl rfl (by omega) (by omega)) ?_; refine aI rfl ?_; refine zn ?_; refine zO (zk ?_); refine zr ?_; refine mI e7_1 ?_; refine zg (fun _ => R_addN (n := i) (b := 1) rfl rfl (by omega)) ?_; refine aI rfl ?_; refine zn ?_; refine zK (B' := [(w, No)]) (L' := W1 ++ []) (fun w h => h.d1) ?_; exact k_again _ (by omega) ⟨_, i + 1, a1, c1, W1, e0_1, e1_1, rfl, rfl, rfl, rfl, rfl, by omega, had.2.1, hO1, rfl⟩
 ·obtain rfl : i = 2 * k + 1 := (by omega); have hend := shl_end h9 hA.lt; obtain ⟨a8, c8, h8, hM, _⟩ := hO.nm (wid_lt _ _); cases h8
  refine zX ?_; refine zx (zx (b_here rfl (zk ?_))); refine yA ?_; refine mS e5_1 ?_; refine w_tel (fun w => zR Tryz.func129 rfl rfl rfl) rfl rfl (fun w h => made2_ok w (hM w (fun p hp => h.own p (List.mem_append_left _ hp))) (by omega) hend) (fun x2 a2 c2 hK2 hN2 => ?_)
  refine za (v := .slice _ _ _) rfl ?_; refine yB ?_; refine ze ?_; refine zo (v := .slice _ _ _) rfl rfl rfl ?_; exact fun w' hw => ⟨_, _, rfl, (hK2.at_ 0 rfl hw), (hN2 _ zm0), hw.fr (w, No) zm1⟩
theorem rShr_ok {a : Option Addr} {k c n : Nat} (w : World) (hA : Nm w a k c n) (h9 : Nat) (hs : k ≤ 1000000 ∧ h9 ≤ 10000000) :
  Ret Tryz.prog 123 #[.slice a k c, .int .i64 (h9 : Nat)] w (Tel (fun a c => .slice a (sz ((n / 2 ^ h9))) c) (sz ((n / 2 ^ h9))) ((n / 2 ^ h9)) w) := by
 refine enter (S := No) (l := [_, _]) (L := []) 37 Tryz.func123 rfl rfl rfl (St.start w No) ?_; refine yA ?_; refine za (v := .slice _ _ _) rfl ?_; refine yC ?_; refine za (v := .slice _ _ _) rfl ?_; refine yB ?_; refine zq ?_; refine yA ?_; refine mI rfl ?_; refine zg (fun _ => R_quoN (a := h9) (b := 32) rfl rfl (by omega) (by omega)) ?_; refine aI rfl ?_; refine yB ?_; refine zB ?_; refine c_st (B' := _) (L' := [] ++ []) (fun w h => h) ?_
 refine c_loop (fun m9 e B L => ∃ (j : Nat) (oa : Option Addr) (oc : Nat) (W : Heap), e 0 = .slice a k c ∧ e 1 = .int .i64 (h9 : Nat) ∧ e 5 = .slice oa j oc ∧ e 6 = .int .i64 (h9 / 32 + j : Nat) ∧ B = [(w, No)] ∧ L = W ++ [] ∧ j ≤ 2 * k ∧ Own 75 1 (.slice oa (j) oc) (lmV (wid (n / 2 ^ h9) (j)) (j)) (j) W ∧ m9 = 2 * k - j) _ ⟨0, none, 0, [], rfl, rfl, rfl, rfl, rfl, rfl, Nat.zero_le _, Own.nil _ _, rfl⟩ ?_
 rintro m9 e B L ⟨j, oa, oc, W, e0_1, e1_1, e5_1, e6_1, rfl, rfl, hj, hO, rfl⟩
 refine zq ?_; refine yA ?_; refine mI e6_1 ?_; refine mS e0_1 ?_; refine jj sl42 rfl ?_; refine zg (fun _ => R_mulN (n := 2) (b := k) rfl rfl (by omega)) ?_; refine zg (fun _ => R_ltN (a := (h9 / 32 + j)) (b := (2 * k)) rfl rfl) ?_; refine yB ?_; refine zD rfl (fun h1 => ?_) (fun h1 => ?_)
 ·have hdig := (shr32 n h9 j).symm; have hd1 := dg_lt b32_pos n (h9 / 32 + j); have hd2 := dg_lt b32_pos n (h9 / 32 + j + 1); have hBv : Go.Num.B = 18446744073709551616 := rfl; have hb9 : b32 = 4294967296 := rfl; have hdB : (dg b32 n (h9 / 32 + j) + dg b32 n (h9 / 32 + j + 1) * 4294967296) / 2 ^ (h9 % 32) % 4294967296 < Go.Num.B := Nat.lt_trans (Nat.mod_lt _ (by decide)) (by decide)
  refine zi ?_; refine zk ?_; refine zq ?_; refine zB ?_; refine yA ?_; refine mS e0_1 ?_; refine mI e6_1 ?_; refine jD Tryz.func125 (fun w h => rdigit_ok w ((Kn.old hA).at_ 0 rfl h) (h9 / 32 + j) ⟨by omega, by omega⟩) ?_; refine mS e0_1 ?_; refine mI e6_1 ?_; refine zg (fun _ => R_addN (n := (h9 / 32 + j)) (b := 1) rfl rfl (by omega)) ?_; refine jD Tryz.func125 (fun w h => rdigit_ok w ((Kn.old hA).at_ 0 rfl h) ((h9 / 32 + j) + 1) ⟨by omega, by omega⟩) ?_
  refine zg (fun _ => R_mulU (a := (dg b32 n ((h9 / 32 + j) + 1))) (b := 4294967296) rfl rfl (by omega)) ?_; refine zg (fun _ => R_addU (a := (dg b32 n (h9 / 32 + j))) (b := ((dg b32 n ((h9 / 32 + j) + 1)) * 4294967296)) rfl rfl (by omega)) ?_; refine aI rfl ?_; refine yB ?_; refine zr ?_; refine mS e5_1 ?_; refine mI rfl ?_; refine mI e1_1 ?_; refine zg (fun _ => R_remU (a := h9) (b := 32) rfl rfl (by omega)) ?_; refine zg (fun _ => R_convK (n := (h9 % 32)) un3 un191 rfl (wrap_u (by omega))) ?_; refine zg (fun _ => R_shrU (a := ((dg b32 n (h9 / 32 + j)) + ((dg b32 n ((h9 / 32 + j) + 1)) * 4294967296))) (n := (h9 % 32)) rfl rfl (by omega)) ?_
  refine zg (fun _ => R_remU (a := (((dg b32 n (h9 / 32 + j)) + ((dg b32 n ((h9 / 32 + j) + 1)) * 4294967296)) / 2 ^ (h9 % 32))) (b := 4294967296) rfl rfl (by omega)) ?_; refine zS slt41 (by decide) rfl rfl (fun b2 gb2 ub2 => ?_)
  refine w_st (B' := _) (L' := [_] ++ (W ++ [])) (fun w h => h) ?_; refine w_appN (z := wid (n / 2 ^ h9) (j)) (k := j) [_] slt41 rfl hO (wid_lt _ _) rfl (fun w h => Nm.one (h.at_ 0 rfl) (by first | omega | exact hdB)) (by omega) (fun v1 W1 hO1 => ?_)
  rw [hdig, wid_succ] at hO1; obtain ⟨a1, c1, rfl⟩ := hO1.slice
  refine za (v := .slice _ _ _) rfl ?_; refine zn ?_; refine zO (zk ?_); refine zr ?_; refine mI e6_1 ?_; refine zg (fun _ => R_addN (n := (h9 / 32 + j)) (b := 1) rfl rfl (by omega)) ?_; refine aI rfl ?_; refine zn ?_; refine zK (B' := [(w, No)]) (L' := W1 ++ []) (fun w h => h.d1) ?_; exact k_again _ (by omega) ⟨j + 1, a1, c1, W1, e0_1, e1_1, rfl, rfl, rfl, rfl, by omega, hO1, rfl⟩
 ·have hend := shr_end (h := h9) (j := j) hA.lt (by omega); obtain ⟨a8, c8, h8, hM, _⟩ := hO.nm (wid_lt _ _); cases h8
  refine zX ?_; refine zx (zx (b_here rfl (zk ?_))); refine yA ?_; refine mS e5_1 ?_; refine w_tel (fun w => zR Tryz.func129 rfl rfl rfl) rfl rfl (fun w h => made2_ok w (hM w (fun p hp => h.own p (List.mem_append_left _ hp))) (by omega) hend) (fun x3 a3 c3 hK3 hN3 => ?_)
  refine za (v := .slice _ _ _) rfl ?_; refine yB ?_; refine ze ?_; refine zo (v := .slice _ _ _) rfl rfl rfl ?_; exact fun w' hw => ⟨_, _, rfl, (hK3.at_ 0 rfl hw), (hN3 _ zm0), hw.fr (w, No) zm1⟩
end Go.Proofs.YtikdkendinnalaaGreatDoor
end
section
namespace Go.Proofs.YtikdkendinnalaaGreatDoor
open Go.RowKit Go.Sx
open Go.Num
theorem sz_shl (n h : Nat) : sz (n * 2 ^ h) ≤ (64 * sz n + h + 63) / 64 := by
 by_cases hn : n = 0
 ·subst hn; rw [Nat.zero_mul, sz_zero]; exact Nat.zero_le _
 ·have h1 := bl_mul hn h
  have h2 := bl_sz (Nat.le_refl (sz n))
  have h3 : sz (n * 2 ^ h) = (bl (n * 2 ^ h) + 63) / 64 := rfl
  rw [h3, h1]; omega
theorem div_next32 {z z0 j : Nat} (h : z / b32 ^ j = z0 / b32 ^ j) : dg b32 z j = dg b32 z0 j ∧ z / b32 ^ (j + 1) = z0 / b32 ^ (j + 1) := by
 refine ⟨?_, ?_⟩
 ·unfold dg; rw [h]
 ·rw [Nat.pow_succ, ← Nat.div_div_eq_div_mul, h, Nat.div_div_eq_div_mul]
theorem mul_row {n m i : Nat} {K : Nat} (hm : m < b32 ^ K) : n % b32 ^ i * m < b32 ^ (i + K) := by
 rw [Nat.pow_add]
 rcases Nat.eq_zero_or_pos m with h | h
 ·subst h; rw [Nat.mul_zero]; exact Nat.mul_pos (b32pow_pos i) (b32pow_pos K)
 ·exact Nat.lt_of_lt_of_le (Nat.mul_lt_mul_of_pos_right (Nat.mod_lt _ (b32pow_pos i)) h) (Nat.mul_le_mul_left _ (Nat.le_of_lt hm))
theorem row_end32 {n m i K z c : Nat} (hm : m < b32 ^ K) (h : z % b32 ^ (i + (K + 1)) + b32 ^ (i + (K + 1)) * c = n % b32 ^ i * m % b32 ^ (i + (K + 1)) + dg b32 n i * (m % b32 ^ (K + 1)) * b32 ^ i) (hz : z / b32 ^ (i + (K + 1)) = n % b32 ^ i * m / b32 ^ (i + (K + 1))) :
  z = n % b32 ^ (i + 1) * m := by
 have h0 := mul_row (n := n) (i := i) hm
 have hle : b32 ^ (i + K) ≤ b32 ^ (i + (K + 1)) := Nat.pow_le_pow_right b32_pos (by omega)
 have h0' := Nat.lt_of_lt_of_le h0 hle
 rw [Nat.div_eq_of_lt h0'] at hz
 have hz2 : z < b32 ^ (i + (K + 1)) := by
  rcases Nat.lt_or_ge z (b32 ^ (i + (K + 1))) with h5 | h5
  ·exact h5
  ·have := Nat.div_pos h5 (b32pow_pos (i + (K + 1))); omega
 have hm2 : m < b32 ^ (K + 1) := Nat.lt_of_lt_of_le hm (Nat.pow_le_pow_right b32_pos (by omega))
 rw [Nat.mod_eq_of_lt hz2, Nat.mod_eq_of_lt h0', Nat.mod_eq_of_lt hm2] at h
 have e : n % b32 ^ i * m + dg b32 n i * m * b32 ^ i = n % b32 ^ (i + 1) * m := by
  rw [mod_step, Nat.add_mul, Nat.mul_comm (b32 ^ i), Nat.mul_right_comm (dg b32 n i)]
 rw [e] at h
 have h1 := mul_row (n := n) (i := i + 1) hm
 rw [show i + 1 + K = i + (K + 1) by omega] at h1
 have hc : c = 0 := by
  rcases Nat.eq_zero_or_pos c with h5 | h5
  ·exact h5
  ·have := Nat.le_mul_of_pos_right (b32 ^ (i + (K + 1))) h5; omega
 subst hc
 rw [Nat.mul_zero, Nat.add_zero] at h
 exact h
theorem mul_end {n m k k2 : Nat} (hn : n < Go.Num.B ^ k) (hm : m < Go.Num.B ^ k2) : n * m % b32 ^ (2 * k + 2 * k2 + 1) = n * m := by
 refine Nat.mod_eq_of_lt ?_
 rw [B_b32] at hn hm
 have h0 := mul_row (n := n) (i := 2 * k) hm
 rw [Nat.mod_eq_of_lt hn] at h0
 exact Nat.lt_of_lt_of_le h0 (Nat.pow_le_pow_right b32_pos (by omega))
theorem mul_z0 (n m K : Nat) : wid (n % b32 ^ 0 * m) K = 0 := by
 rw [Nat.pow_zero, Nat.mod_one, Nat.zero_mul]
 exact lmV_inj (k := K) (wid_lt _ _) (Bpow_pos _) fun j hj => by rw [wid_dg hj, dg_zero, dg_zero]
theorem rMul_ok {a a2 : Option Addr} {k c k2 c2 n m : Nat} (w : World) (hA : Nm w a k c n) (hB : Nm w a2 k2 c2 m) (hs : k ≤ 500000 ∧ k2 ≤ 500000) :
  Ret Tryz.prog 126 #[.slice a k c, .slice a2 k2 c2] w (Tel (fun a c => .slice a (sz (n * m)) c) (sz (n * m)) (n * m) w) := by
 refine enter (S := No) (l := [_, _]) (L := []) 61 Tryz.func126 rfl rfl rfl (St.start w No) ?_; refine yA ?_; refine za (v := .slice _ _ _) rfl ?_; refine yC ?_; refine mS rfl ?_; refine jj sl42 rfl ?_; refine zg (fun _ => R_mulN (n := 2) (b := k) rfl rfl (by omega)) ?_; refine mS rfl ?_; refine jj sl42 rfl ?_; refine zg (fun _ => R_mulN (n := 2) (b := k2) rfl rfl (by omega)) ?_; refine zg (fun _ => R_addN (n := (2 * k)) (b := (2 * k2)) rfl rfl (by omega)) ?_; refine zg (fun _ => R_addN (n := ((2 * k) + (2 * k2))) (b := 1) rfl rfl (by omega)) ?_; refine w_makeU (n := (((2 * k) + (2 * k2)) + 1)) slt41 rfl rfl (by omega) (by omega) (fun ob gob uob => ?_)
 refine za (v := .slice _ _ _) rfl ?_; refine yB ?_; refine zq ?_; refine yA ?_; refine aI rfl ?_; refine yB ?_; refine zB ?_; refine c_st (B' := _) (L' := [(ob, cel (lmV (wid (n % b32 ^ 0 * m) (2 * k + 2 * k2 + 1)) (2 * k + 2 * k2 + 1)) 75)]) (fun w h => by rw [mul_z0]; exact h) ?_; refine c_loop (fun m9 e B L => ∃ (i : Nat), e 0 = .slice a k c ∧ e 1 = .slice a2 k2 c2 ∧ e 5 = .slice (some ⟨ob, 0, none⟩) (2 * k + 2 * k2 + 1) (2 * k + 2 * k2 + 1) ∧ e 6 = .int .i64 (i : Nat) ∧ B = [(w, No)] ∧ L = [(ob, cel (lmV (wid (n % b32 ^ i * m) (2 * k + 2 * k2 + 1)) (2 * k + 2 * k2 + 1)) 75)] ∧ i ≤ 2 * k ∧ m9 = 2 * k - i) _ ⟨0, rfl, rfl, rfl, rfl, rfl, rfl, Nat.zero_le _, rfl⟩ ?_
 rintro m9 e B L ⟨i, e0_1, e1_1, e5_1, e6_1, rfl, rfl, hi, rfl⟩
 refine zq ?_; refine yA ?_; refine mI e6_1 ?_; refine mS e0_1 ?_; refine jj sl42 rfl ?_; refine zg (fun _ => R_mulN (n := 2) (b := k) rfl rfl (by omega)) ?_; refine zg (fun _ => R_ltN (a := i) (b := (2 * k)) rfl rfl) ?_; refine yB ?_; refine zD rfl (fun h1 => ?_) (fun h1 => ?_)
 ·refine zi ?_; refine zk ?_; refine zq ?_; refine zB ?_; refine yA ?_; refine aI rfl ?_; refine yC ?_; refine aI rfl ?_; refine yB ?_; refine zB ?_
  refine c_loop (fun m9 e B L => ∃ (z cy q : Nat), e 0 = .slice a k c ∧ e 1 = .slice a2 k2 c2 ∧ e 5 = .slice (some ⟨ob, 0, none⟩) (2 * k + 2 * k2 + 1) (2 * k + 2 * k2 + 1) ∧ e 6 = .int .i64 (i : Nat) ∧ e 7 = .int .u64 (cy : Nat) ∧ e 8 = .int .i64 (q : Nat) ∧ B = [(w, No)] ∧ L = [(ob, cel (lmV (wid z (2 * k + 2 * k2 + 1)) (2 * k + 2 * k2 + 1)) 75)] ∧ q ≤ 2 * k2 + 1 ∧ z % b32 ^ (i + q) + b32 ^ (i + q) * cy = (n % b32 ^ i * m) % b32 ^ (i + q) + dg b32 n i * (m % b32 ^ q) * b32 ^ i ∧ z / b32 ^ (i + q) = (n % b32 ^ i * m) / b32 ^ (i + q) ∧ cy < b32 ∧ m9 = 2 * k2 + 1 - q) _ ⟨(n % b32 ^ i * m), 0, 0, e0_1, e1_1, e5_1, e6_1, rfl, rfl, rfl, rfl, Nat.zero_le _, by simp [Nat.mod_one], rfl, by decide, rfl⟩ ?_
  rintro m9 e B L ⟨z, cy, q, e0_2, e1_2, e5_2, e6_2, e7_2, e8_2, rfl, rfl, hq, hE, hD, hcy, rfl⟩
  refine zq ?_; refine yA ?_; refine mI e8_2 ?_; refine mS e1_2 ?_; refine jj sl42 rfl ?_; refine zg (fun _ => R_mulN (n := 2) (b := k2) rfl rfl (by omega)) ?_; refine zg (fun _ => R_addN (n := (2 * k2)) (b := 1) rfl rfl (by omega)) ?_; refine zg (fun _ => R_ltN (a := q) (b := ((2 * k2) + 1)) rfl rfl) ?_; refine yB ?_; refine zD rfl (fun h2 => ?_) (fun h2 => ?_)
  ·have hdn := div_next32 hD; have hd1 := dg_lt b32_pos n i; have hd2 := dg_lt b32_pos m q; have hd3 := dg_lt b32_pos z (i + q); have hmm : dg b32 n i * dg b32 m q ≤ 4294967295 * 4294967295 := Nat.mul_le_mul (Nat.le_of_lt_succ hd1) (Nat.le_of_lt_succ hd2); have hBv : Go.Num.B = 18446744073709551616 := rfl; have hb9 : b32 = 4294967296 := rfl
   refine zi ?_; refine zk ?_; refine zq ?_; refine zB ?_; refine zq ?_; refine c_heldS mixed ?_; refine zh (v := .slice _ _ _) 0 rfl (by kernel_rfl) rfl rfl (fun w h => h) (fun w h => R_move e5_2) ?_; refine zh (v := .int _ _) 1 rfl (by kernel_rfl) rfl rfl (fun w h => h) (fun w h => R_move e6_2) ?_; refine zh (v := .int _ _) 2 rfl (by kernel_rfl) rfl rfl (fun w h => h) (fun w h => R_move e8_2) ?_; refine zh2 3 rfl rfl (fun w h => h) (fun w h => R_addN (n := i) (b := q) rfl rfl (by omega)) ?_; refine zh2 4 rfl rfl (fun w h => h) (fun w h => R_iaN (i := (i + q)) sl41 rfl rfl (by omega)) ?_; refine zh (v := .int .u64 ((dg Go.Num.B (wid z (2 * k + 2 * k2 + 1)) (i + q)) : Nat)) 5 rfl (by kernel_rfl) rfl rfl (fun w h => h) (fun w h => R_ld1 z75 rfl (cel_lm 0 rfl (by omega) h)) ?_
   rw [wid_dg (n := z) (show i + q < (2 * k + 2 * k2 + 1) by omega)]
   refine zh (v := .slice _ _ _) 6 rfl (by kernel_rfl) rfl rfl (fun w h => h) (fun w h => R_move e0_2) ?_; refine zh (v := .int _ _) 7 rfl (by kernel_rfl) rfl rfl (fun w h => h) (fun w h => R_move e6_2) ?_; refine zh (v := .slice _ _ _) 9 rfl (by kernel_rfl) rfl rfl (fun w h => h) (fun w h => R_move e1_2) ?_; refine zh (v := .int _ _) 10 rfl (by kernel_rfl) rfl rfl (fun w h => h) (fun w h => R_move e8_2) ?_; refine zh (v := .int _ _) 14 rfl (by kernel_rfl) rfl rfl (fun w h => h) (fun w h => R_move e7_2) ?_; refine zH2 8 (fun w h => h) ?_; refine o_pureW rfl (wn_none rfl) rfl (fun w => zR Tryz.func125 rfl rfl rfl) (fun w h => rdigit_ok w ((Kn.old hA).at_ 0 rfl h) i ⟨by omega, by omega⟩) ?_; refine zH2 11 (fun w h => h) ?_
   refine o_pureW rfl (wn_none rfl) rfl (fun w => zR Tryz.func125 rfl rfl rfl) (fun w h => rdigit_ok w ((Kn.old hB).at_ 0 rfl h) q ⟨by omega, by omega⟩) ?_; refine zh2 12 rfl rfl (fun w h => h) (fun w h => R_mulU (a := (dg b32 n i)) (b := (dg b32 m q)) rfl rfl (by omega)) ?_; refine zh2 13 rfl rfl (fun w h => h) (fun w h => R_addU (a := (dg b32 z (i + q))) (b := ((dg b32 n i) * (dg b32 m q))) rfl rfl (by omega)) ?_; refine zh2 15 rfl rfl (fun w h => h) (fun w h => R_addU (a := ((dg b32 z (i + q)) + ((dg b32 n i) * (dg b32 m q)))) (b := cy) rfl rfl (by omega)) ?_
   rw [show dg b32 z (i + q) + dg b32 n i * dg b32 m q + cy = (dg b32 n i * dg b32 m q + dg b32 z (i + q) + cy) by omega]
   refine zh (v := .int _ _) 16 rfl (by kernel_rfl) rfl rfl (fun w h => h) (fun w h => R_assign rfl) ?_; refine zN2 (fun w h => h) ?_; refine zk ?_; refine yA ?_; refine mS e5_2 ?_; refine mI e6_2 ?_; refine mI e8_2 ?_; refine zg (fun _ => R_addN (n := i) (b := q) rfl rfl (by omega)) ?_; refine mI rfl ?_; refine zg (fun _ => R_remU (a := (dg b32 n i * dg b32 m q + dg b32 z (i + q) + cy)) (b := 4294967296) rfl rfl (by omega)) ?_; refine zg (fun _ => R_iaN (i := (i + q)) sl41 rfl rfl (by omega)) ?_
   refine w_putU (dv := ((dg b32 n i * dg b32 m q + dg b32 z (i + q) + cy) % 4294967296)) (z' := (wid (setd b32 z (i + q) ((dg b32 n i * dg b32 m q + dg b32 z (i + q) + cy) % b32)) (2 * k + 2 * k2 + 1))) (j := (i + q)) 0 rfl z75 rfl rfl (by exact Nat.lt_trans (Nat.mod_lt _ b32_pos) (by decide)) (by omega) (wid_set (Nat.mod_lt _ b32_pos) (by omega)) ?_; refine yB ?_; refine zr ?_; refine mI rfl ?_; refine zg (fun _ => R_quoU (a := (dg b32 n i * dg b32 m q + dg b32 z (i + q) + cy)) (b := 4294967296) rfl rfl (by omega) (by omega)) ?_; refine aI rfl ?_; refine zn ?_; refine zO (zk ?_); refine zr ?_; refine mI e8_2 ?_; refine zg (fun _ => R_addN (n := q) (b := 1) rfl rfl (by omega)) ?_; refine aI rfl ?_; refine zn ?_
   exact k_again _ (by omega) ⟨(setd b32 z (i + q) ((dg b32 n i * dg b32 m q + dg b32 z (i + q) + cy) % b32)), ((dg b32 n i * dg b32 m q + dg b32 z (i + q) + cy) / b32), q + 1, e0_2, e1_2, e5_2, e6_2, rfl, rfl, rfl, rfl, by omega, mul_step b32_pos hE hdn.1, (setd_div b32_pos (Nat.mod_lt _ b32_pos)).trans hdn.2, mul_digit hd1 hd2 hd3 hcy, rfl⟩
  ·obtain rfl : q = 2 * k2 + 1 := (by omega); obtain rfl := row_end32 (by have := hB.lt; rwa [B_b32] at this) hE hD
   refine zX ?_; refine zx (zx (b_here rfl (zO (zk ?_)))); refine zr ?_; refine mI e6_2 ?_; refine zg (fun _ => R_addN (n := i) (b := 1) rfl rfl (by omega)) ?_; refine aI rfl ?_; refine zn ?_; exact k_again _ (by omega) ⟨i + 1, e0_2, e1_2, e5_2, rfl, rfl, rfl, by omega, rfl⟩
 ·obtain rfl : i = 2 * k := (by omega); rw [Nat.mod_eq_of_lt (show n < b32 ^ (2 * k) by have := hA.lt; rwa [B_b32] at this)]
  refine zX ?_; refine zx (zx (b_here rfl (zk ?_))); refine yA ?_; refine mS e5_1 ?_; refine w_tel (fun w => zR Tryz.func129 rfl rfl rfl) rfl rfl (fun w h => made2_ok w (Nm.own 0 rfl (wid_lt _ _) (Nat.le_refl _) h) (by omega) (mul_end hA.lt hB.lt)) (fun x3 a3 c3 hK3 hN3 => ?_)
  refine za (v := .slice _ _ _) rfl ?_; refine yB ?_; refine ze ?_; refine zo (v := .slice _ _ _) rfl rfl rfl ?_; exact fun w' hw => ⟨_, _, rfl, (hK3.at_ 0 rfl hw), (hN3 _ zm0), hw.fr (w, No) zm1⟩
theorem rdigits_ok {a : Option Addr} {k c n : Nat} (w : World) (hA : Nm w a k c n) (hk : k ≤ 4000000) :
  Ret Tryz.prog 122 #[.slice a k c] w (fun v w' => v = .int .i64 ((bl n + 31) / 32 : Nat) ∧ Ext w w') := by
 have hbc := bl_cap hA.lt
 refine enter (S := No) (l := [_]) (L := []) 7 Tryz.func122 rfl rfl rfl (St.start w No) ?_; refine yA ?_; refine aI rfl ?_; refine yC ?_; refine mS rfl ?_; refine jD Tryz.func76 (fun w h => rBits_ok w ((Kn.old hA).at_ 0 rfl h) (by omega)) ?_; refine zg (fun _ => R_addN (n := (bl n)) (b := 31) rfl rfl (by omega)) ?_; refine zg (fun _ => R_quoN (a := ((bl n) + 31)) (b := 32) rfl rfl (by omega) (by omega)) ?_; refine aI rfl ?_; refine yB ?_; refine ze ?_; refine zo (v := .int _ _) rfl rfl rfl ?_; exact fun w' hw => ⟨rfl, hw.fr (w, No) zm0⟩
theorem digs_lt (n : Nat) : n < b32 ^ ((bl n + 31) / 32) := by
 rw [b32_pow]
 exact Nat.lt_of_lt_of_le (lt_bl n) (Nat.pow_le_pow_right (by decide) (by omega))
theorem digs_ge {n : Nat} (h : n ≠ 0) : b32 ^ ((bl n + 31) / 32 - 1) ≤ n ∧ 0 < (bl n + 31) / 32 := by
 have h1 := bl_pos h
 refine ⟨?_, by omega⟩
 rw [b32_pow]
 exact Nat.le_trans (Nat.pow_le_pow_right (by decide) (by omega)) (bl_ge h)
theorem digs_sz (n : Nat) : (bl n + 31) / 32 ≤ 2 * sz n := by unfold sz; omega
def rj (X Y j : Nat) : Nat := X / b32 ^ j % Y
def qz (X Y j : Nat) : Nat := X / Y / b32 ^ j * b32 ^ j
def sh32 (R : Nat) : Nat := R * 2 ^ 32
def uj (X Y i : Nat) : Nat := sh32 (rj X Y (i + 1)) + dg b32 X i
theorem sh32_sz (R : Nat) : sz (sh32 R) ≤ (64 * sz R + 32 + 63) / 64 := sz_shl R 32
theorem lt_B {g : Nat} (h : g < b32) : g < Go.Num.B := Nat.lt_trans h (by decide)
theorem dg_B (n i : Nat) : dg b32 n i < Go.Num.B := lt_B (dg_lt b32_pos n i)
theorem min_b (x : Nat) : min x 4294967295 < b32 := Nat.lt_of_le_of_lt (Nat.min_le_right _ _) (by decide)
theorem min_B (x : Nat) : min x 4294967295 < Go.Num.B := lt_B (min_b x)
theorem rj0 (X Y : Nat) : rj X Y 0 = X % Y := by unfold rj; rw [Nat.pow_zero, Nat.div_one]
theorem qz0 (X Y : Nat) : qz X Y 0 = X / Y := by unfold qz; rw [Nat.pow_zero, Nat.div_one, Nat.mul_one]
theorem rj_lt (X : Nat) {Y : Nat} (h : 0 < Y) (j : Nat) : rj X Y j < Y := Nat.mod_lt _ h
section
variable {X Y mm nn : Nat}
theorem rdiv_r0 (hX : X < b32 ^ mm) (hY : b32 ^ (nn - 1) ≤ Y) (h0 : 0 < nn) (hn : nn ≤ mm) : X / 2 ^ (32 * (mm - nn + 1)) = rj X Y (mm - nn + 1) := by
 unfold rj
 rw [← b32_pow, Nat.mod_eq_of_lt]
 rw [Nat.div_lt_iff_lt_mul (b32pow_pos _)]
 refine Nat.lt_of_lt_of_le hX ?_
 have h1 : b32 ^ mm = b32 ^ (nn - 1) * b32 ^ (mm - nn + 1) := by rw [← Nat.pow_add]; congr 1; omega
 rw [h1]
 exact Nat.mul_le_mul_right _ hY
theorem rdiv_q (hX : X < b32 ^ mm) (hY : b32 ^ (nn - 1) ≤ Y) (h0 : 0 < nn) (hn : nn ≤ mm) : X / Y < b32 ^ (mm - nn + 1) := by
 have hp : 0 < Y := Nat.lt_of_lt_of_le (b32pow_pos _) hY
 rw [Nat.div_lt_iff_lt_mul hp]
 refine Nat.lt_of_lt_of_le hX ?_
 have h1 : b32 ^ mm = b32 ^ (mm - nn + 1) * b32 ^ (nn - 1) := by rw [← Nat.pow_add]; congr 1; omega
 rw [h1]
 exact Nat.mul_le_mul_left _ hY
theorem rdiv_z0 (hX : X < b32 ^ mm) (hY : b32 ^ (nn - 1) ≤ Y) (h0 : 0 < nn) (hn : nn ≤ mm) : wid (qz X Y (mm - nn + 1)) (mm - nn + 1) = 0 := by
 unfold qz
 rw [Nat.div_eq_of_lt (rdiv_q hX hY h0 hn), Nat.zero_mul]
 exact lmV_inj (wid_lt _ _) (Bpow_pos _) fun j hj => by rw [wid_dg hj, dg_zero, dg_zero]
theorem rdiv_dig (hY : b32 ^ (nn - 1) ≤ Y) (hY2 : Y < b32 ^ nn) (h0 : 0 < nn) (i : Nat) {U : Nat} (hU : U = rj X Y (i + 1) * 2 ^ 32 + dg b32 X i) : U / Y ≤ min ((dg b32 U nn * 4294967296 + dg b32 U (nn - 1)) / dg b32 Y (nn - 1)) 4294967295 ∧ dg b32 Y (nn - 1) ≠ 0 ∧ dg b32 (X / Y) i = U / Y ∧ U % Y = rj X Y i ∧ U < b32 ^ (nn + 1) := by
 unfold rj at hU ⊢
 have hp : 0 < Y := Nat.lt_of_lt_of_le (b32pow_pos _) hY
 rw [← b32_two] at hU
 have hs := small_digit b32_pos hp X i
 have hst : X / b32 ^ i % Y = (X / b32 ^ (i + 1) % Y * b32 + dg b32 X i) % Y := (small_step b32_pos hp X i).2
 rw [← hU] at hs hst
 have hUl : U < b32 ^ (nn + 1) := by
  have h1 := Nat.mod_lt (X / b32 ^ (i + 1)) hp
  have h2 := dg_lt b32_pos X i
  rw [Nat.pow_succ]
  have h3 : (X / b32 ^ (i + 1) % Y + 1) * b32 ≤ Y * b32 := Nat.mul_le_mul_right _ h1
  have h4 : Y * b32 ≤ b32 ^ nn * b32 := Nat.mul_le_mul_right _ (Nat.le_of_lt hY2)
  rw [Nat.add_mul, Nat.one_mul] at h3
  omega
 have ht1 := top_one h0 hY2
 have htp : 0 < dg b32 Y (nn - 1) := by rw [← ht1]; exact Nat.div_pos hY (b32pow_pos _)
 have ht2 := top_two (b := b32) (i := nn) h0 hUl
 have hg := guess_ge (u := U) (v := Y) (q := U / Y) (p := b32 ^ (nn - 1)) (b32pow_pos _) (by rw [ht1]; exact htp) (Nat.div_mul_le_self _ _)
 rw [ht1, ht2] at hg
 refine ⟨Nat.le_min.2 ⟨hg, Nat.le_of_lt_succ hs.1⟩, by omega, hs.2, hst.symm, hUl⟩
theorem rdiv_put (X Y : Nat) {i K : Nat} (hi : i < K) : setd Go.Num.B (wid (qz X Y (i + 1)) K) i (dg b32 (X / Y) i) = wid (qz X Y i) K := by
 unfold qz
 generalize X / Y = Q
 rw [wid_set (dg_lt b32_pos _ _) hi]
 congr 1
 have h0 := high_dg (b := b32) b32_pos Q i
 have h1 := setd_add (b := b32) (n := Q / b32 ^ (i + 1) * b32 ^ (i + 1)) (j := i) (y := dg b32 Q i)
 rw [h0, Nat.zero_add] at h1
 rw [h1, ← high_step]
theorem rdiv_small {n m s : Nat} (h : (bl (n * 2 ^ s) + 31) / 32 < (bl (m * 2 ^ s) + 31) / 32) : n / m = 0 ∧ n % m = n := by
 have hm : m * 2 ^ s ≠ 0 := fun h0 => by rw [h0] at h; exact absurd h (by rw [show (bl 0 + 31) / 32 = 0 from rfl]; exact Nat.not_lt_zero _)
 have h1 := digs_lt (n * 2 ^ s)
 have h2 := (digs_ge hm).1
 have h3 : n * 2 ^ s < m * 2 ^ s := Nat.lt_of_lt_of_le h1 (Nat.le_trans (Nat.pow_le_pow_right b32_pos (by omega)) h2)
 have h4 : n < m := Nat.lt_of_mul_lt_mul_right h3
 exact ⟨Nat.div_eq_of_lt h4, Nat.mod_eq_of_lt h4⟩
end
theorem u_sz {R Y d : Nat} (h : R ≤ Y) (hd : d < b32) : sz (R * 2 ^ 32 + d) ≤ sz Y + 1 := by
 refine sz_iff.2 ?_
 have h1 : R < Go.Num.B ^ sz Y := Nat.lt_of_le_of_lt h (lt_sz Y)
 have h0 : Go.Num.B ^ (sz Y + 1) = Go.Num.B ^ sz Y * Go.Num.B := Nat.pow_succ _ _
 have h2 : (R + 1) * 2 ^ 32 ≤ Go.Num.B ^ sz Y * 2 ^ 32 := Nat.mul_le_mul_right _ h1
 have h3 : Go.Num.B ^ sz Y * 2 ^ 32 ≤ Go.Num.B ^ sz Y * Go.Num.B := Nat.mul_le_mul_left _ (by decide)
 have hb9 : b32 = 2 ^ 32 := b32_two
 rw [hb9] at hd
 rw [Nat.add_mul, Nat.one_mul] at h2
 omega
theorem rShl32_ok {a : Option Addr} {k c n : Nat} (w : World) (hA : Nm w a k c n) (hs : k ≤ 1000000) : Ret Tryz.prog 121 #[.slice a k c, .int .i64 32] w (Tel (fun a c => .slice a (sz (sh32 n)) c) (sz (sh32 n)) (sh32 n) w) := rShl_ok w hA 32 ⟨hs, by decide⟩
theorem rAddU_ok {a a2 : Option Addr} {k c k2 c2 X Y i : Nat} (w : World) (hA : Nm w a k c (sh32 (rj X Y (i + 1)))) (hB : Nm w a2 k2 c2 (dg b32 X i)) (hs : k ≤ 1000000 ∧ k2 ≤ 1000000) : Ret Tryz.prog 124 #[.slice a k c, .slice a2 k2 c2] w (Tel (fun a c => .slice a (sz (uj X Y i)) c) (sz (uj X Y i)) (uj X Y i) w) := rAdd_ok w hA hB hs
theorem cmpN_gt0 {n m : Nat} (h : (0 : Int) < cmpN n m) : m < n := by
 unfold cmpN at h
 split at h
 ·exact absurd h (by decide)
 ·split at h
  ·assumption
  ·exact absurd h (by decide)
theorem cmpN_le0 {n m : Nat} (h : ¬ (0 : Int) < cmpN n m) : n ≤ m := by
 rcases Nat.lt_or_ge m n with h1 | h1
 ·rw [cmpN_gt h1] at h; exact absurd (by decide) h
 ·exact h1
theorem rDiv_ok {a a2 : Option Addr} {k c k2 c2 n m : Nat} (w : World) (hA : Nm w a k c n) (hB : Nm w a2 k2 c2 m) (hs : k ≤ 10000 ∧ k2 ≤ 10000 ∧ m ≠ 0) :
  Ret Tryz.prog 78 #[.slice a k c, .slice a2 k2 c2] w (Tel2 (fun a c a2 c2 => .tuple #[.slice a (sz (n / m)) c, .slice a2 (sz (n % m)) c2]) (sz (n / m)) (n / m) (sz (n % m)) (n % m) w) := by
 have hzn : sz n ≤ k := sz_iff.2 hA.lt; have hzm : sz m ≤ k2 := sz_iff.2 hB.lt; have hx9 := sz_shl n ((32 - bl m % 32) % 32); have hy9 := sz_shl m ((32 - bl m % 32) % 32); have hdx := digs_sz (n * 2 ^ ((32 - bl m % 32) % 32)); have hdy := digs_sz (m * 2 ^ ((32 - bl m % 32) % 32))
 have hm9 : m * 2 ^ ((32 - bl m % 32) % 32) ≠ 0 := Nat.mul_ne_zero hs.2.2 (Nat.pos_iff_ne_zero.1 (Nat.pow_pos (by decide)))
 refine enter (S := No) (l := [_, _]) (L := []) 106 Tryz.func78 rfl rfl rfl (St.start w No) ?_; refine yA ?_; refine za (v := .slice _ _ _) rfl ?_; refine za (v := .slice _ _ _) rfl ?_; refine yC ?_; refine mS rfl ?_; refine jD Tryz.func76 (fun w h => rBits_ok w ((Kn.old hB).at_ 0 rfl h) (by omega)) ?_; refine zg (fun _ => R_remU (a := (bl m)) (b := 32) rfl rfl (by omega)) ?_; refine zg (fun _ => R_subN (n := 32) (b := ((bl m) % 32)) rfl rfl (by omega) (by omega)) ?_; refine zg (fun _ => R_remU (a := (32 - ((bl m) % 32))) (b := 32) rfl rfl (by omega)) ?_; refine aI rfl ?_; refine yB ?_
 refine yA ?_; refine mS rfl ?_; refine mI rfl ?_; refine w_tel (fun w => zR Tryz.func121 rfl rfl rfl) rfl rfl (fun w h => rShl_ok w ((Kn.old hA).at_ 0 rfl h) ((32 - ((bl m) % 32)) % 32) ⟨by omega, by omega⟩) (fun xX aX cX hKX hNX => ?_)
 refine mS rfl ?_; refine mI rfl ?_; refine w_tel (fun w => zR Tryz.func121 rfl rfl rfl) rfl rfl (fun w h => rShl_ok w ((Kn.old hB).at_ 1 rfl h) ((32 - ((bl m) % 32)) % 32) ⟨by omega, by omega⟩) (fun xY aY cY hKY hNY => ?_)
 refine za (v := .slice _ _ _) rfl ?_; refine za (v := .slice _ _ _) rfl ?_; refine yC ?_; refine mS rfl ?_; refine jD Tryz.func122 (fun w h => rdigits_ok w (hKX.at_ 1 rfl h) (by omega)) ?_; refine mS rfl ?_; refine jD Tryz.func122 (fun w h => rdigits_ok w (hKY.at_ 0 rfl h) (by omega)) ?_; refine aI rfl ?_; refine aI rfl ?_; refine yB ?_
 refine c_cut (fun e B L => ∃ (s mm nn X Y : Nat), e 6 = .int .i64 (s : Nat) ∧ e 7 = .slice aX (sz X) cX ∧ e 8 = .slice aY (sz Y) cY ∧ e 9 = .int .i64 (mm : Nat) ∧ e 10 = .int .i64 (nn : Nat) ∧ B = [xY, xX, (w, No)] ∧ L = [] ∧ s < 32 ∧ X = n * 2 ^ s ∧ Y = m * 2 ^ s ∧ X < b32 ^ mm ∧ b32 ^ (nn - 1) ≤ Y ∧ Y < b32 ^ nn ∧ 0 < nn ∧ nn ≤ mm ∧ Kn xX aX (sz X) cX X ∧ Kn xY aY (sz Y) cY Y ∧ sz X ≤ 10010 ∧ sz Y ≤ 10010 ∧ mm ≤ 20020) ?_ ?_
 ·refine yA ?_; refine mI rfl ?_; refine zg (fun _ => R_eqN (a := ((bl (m * 2 ^ ((32 - ((bl m) % 32)) % 32)) + 31) / 32)) (b := 0) rfl rfl) ?_; refine mB rfl ?_; refine zd (t := 33) rfl (fun h3 => ?_) (fun h3 => ?_)
  ·exact absurd h3 (Nat.pos_iff_ne_zero.1 (digs_ge hm9).2)
  ·refine zw rfl rfl (bF h3) ?_; refine mI rfl ?_; refine zw rfl rfl (bF h3) ?_; refine mI rfl ?_; refine zw rfl rfl (bF h3) ?_; refine zg (fun _ => R_ltN (a := ((bl (n * 2 ^ ((32 - ((bl m) % 32)) % 32)) + 31) / 32)) (b := ((bl (m * 2 ^ ((32 - ((bl m) % 32)) % 32)) + 31) / 32)) rfl rfl) ?_; refine jF (bF h3) rfl ?_; refine yB ?_; refine zD rfl (fun h4 => ?_) (fun h4 => ?_)
   ·have hsm := rdiv_small h4
    refine yA ?_; refine mS rfl ?_; refine w_tel (fun w => zR Tryz.func80 rfl rfl rfl) rfl rfl (fun w h => rNorm_ok w ((Kn.old hA).at_ 2 rfl h) (by omega)) (fun x5 a5 c5 hK5 hN5 => ?_)
    refine za (v := .slice _ _ _) rfl ?_; refine za (v := .slice _ _ _) rfl ?_; refine yB ?_; refine ze ?_; refine zt (?_)
    rw [hsm.1, hsm.2]
    refine r_two (v := .slice _ _ _) (v2 := .slice _ _ _) rfl rfl rfl rfl rfl ?_; exact fun w' hw => ⟨_, _, _, _, rfl, Nm.nil _, (hK5.at_ 0 rfl hw), Fsh.nil _ _, (hN5 _ zm2), hw.fr (w, No) zm3⟩
   ·refine zi ?_; exact k_mid ⟨((32 - bl m % 32) % 32), ((bl (n * 2 ^ ((32 - bl m % 32) % 32)) + 31) / 32), ((bl (m * 2 ^ ((32 - bl m % 32) % 32)) + 31) / 32), _, _, rfl, rfl, rfl, rfl, rfl, rfl, rfl, by omega, rfl, rfl, digs_lt _, (digs_ge hm9).1, digs_lt _, (digs_ge hm9).2, by omega, hKX, hKY, by omega, by omega, by omega⟩
 rintro e B L ⟨s, mm, nn, X, Y, e6_1, e7_1, e8_1, e9_1, e10_1, rfl, rfl, hs32, hXe, hYe, hXl, hYg, hYl, hn0, hnm, hKX9, hKY9, hXs, hYs, hms⟩
 have hY0 : 0 < Y := Nat.lt_of_lt_of_le (b32pow_pos _) hYg
 refine yA ?_; refine mI e9_1 ?_; refine mI e10_1 ?_; refine zg (fun _ => R_subN (n := mm) (b := nn) rfl rfl (by omega) (by omega)) ?_; refine zg (fun _ => R_addN (n := (mm - nn)) (b := 1) rfl rfl (by omega)) ?_; refine w_makeU (n := ((mm - nn) + 1)) slt41 rfl rfl (by omega) (by omega) (fun ob gob uob => ?_)
 refine za (v := .slice _ _ _) rfl ?_; refine yC ?_; refine mS e7_1 ?_; refine mI e9_1 ?_; refine mI e10_1 ?_; refine zg (fun _ => R_subN (n := mm) (b := nn) rfl rfl (by omega) (by omega)) ?_; refine zg (fun _ => R_addN (n := (mm - nn)) (b := 1) rfl rfl (by omega)) ?_; refine zg (fun _ => R_mulN (n := 32) (b := ((mm - nn) + 1)) rfl rfl (by omega)) ?_; refine w_tel (fun w => zR Tryz.func123 rfl rfl rfl) rfl rfl (fun w h => (by have := rShr_ok w (hKX9.at_ 1 rfl h) (32 * (mm - nn + 1)) ⟨by omega, by omega⟩; rwa [rdiv_r0 hXl hYg hn0 hnm] at this)) (fun xr0 ar0 cr0 hKr0 hNr0 => ?_)
 refine za (v := .slice _ _ _) rfl ?_; refine yB ?_; refine zq ?_; refine yA ?_; refine mI e9_1 ?_; refine mI e10_1 ?_; refine zg (fun _ => R_subN (n := mm) (b := nn) rfl rfl (by omega) (by omega)) ?_; refine aI rfl ?_; refine yB ?_; refine zB ?_; refine c_st (B' := _) (L' := [(ob, cel (lmV (wid (qz X Y (mm - nn + 1)) (mm - nn + 1)) (mm - nn + 1)) 75)]) (fun w h => by rw [rdiv_z0 hXl hYg hn0 hnm]; exact h) ?_
 refine c_loop (fun m9 e B L => ∃ (j : Nat) (xr : BaseW) (ar : Option Addr) (cr : Nat), e 6 = .int .i64 (s : Nat) ∧ e 7 = .slice aX (sz X) cX ∧ e 8 = .slice aY (sz Y) cY ∧ e 9 = .int .i64 (mm : Nat) ∧ e 10 = .int .i64 (nn : Nat) ∧ e 11 = .slice (some ⟨ob, 0, none⟩) (mm - nn + 1) (mm - nn + 1) ∧ e 12 = .slice ar (sz (rj X Y j)) cr ∧ e 13 = .int .i64 ((j : Nat) - 1 : Int) ∧ B = [xr, xY, xX, (w, No)] ∧ L = [(ob, cel (lmV (wid (qz X Y j) (mm - nn + 1)) (mm - nn + 1)) 75)] ∧ j ≤ (mm - nn + 1) ∧ Kn xr ar (sz (rj X Y j)) cr (rj X Y j) ∧ m9 = j + 1) _ ⟨(mm - nn + 1), xr0, ar0, cr0, e6_1, e7_1, e8_1, e9_1, e10_1, rfl, rfl, (congrArg (fun z : Int => Value.int .i64 z) (by omega)), rfl, rfl, Nat.le_refl _, hKr0, rfl⟩ ?_
 rintro m9 e B L ⟨j, xr, ar, cr, e6_2, e7_2, e8_2, e9_2, e10_2, e11_2, e12_2, e13_2, rfl, rfl, hj, hKr, rfl⟩
 refine zq ?_; refine yA ?_; refine mI e13_2 ?_; refine jh rfl rfl ?_; refine yB ?_; refine zD rfl (fun h7 => ?_) (fun h7 => ?_)
 ·obtain ⟨i, rfl⟩ : ∃ i, j = i + 1 := ⟨j - 1, by omega⟩; obtain ⟨hg0, hg1, hg2, hg3, -⟩ := rdiv_dig (X := X) hYg hYl hn0 i (U := (uj X Y i)) rfl; have hRl := rj_lt X hY0 (i + 1); have hUs : sz (uj X Y i) ≤ sz Y + 1 := u_sz (R := (rj X Y (i + 1))) (d := dg b32 X i) (Nat.le_of_lt hRl) (dg_lt b32_pos _ _); have hRs := sz_mono (Nat.le_of_lt hRl); have hRs2 := sh32_sz (rj X Y (i + 1)); have hd9 := dg_lt b32_pos X i; have hBv : Go.Num.B = 18446744073709551616 := rfl; have hb9 : b32 = 4294967296 := rfl; have hdU := dg_lt b32_pos (uj X Y i) nn; have hdU2 := dg_lt b32_pos (uj X Y i) (nn - 1)
  refine zi ?_; refine zk ?_; refine zq ?_; refine zB ?_; refine yA ?_; refine mS e12_2 ?_; refine w_tel (fun w => zR Tryz.func121 rfl rfl rfl) rfl rfl (fun w h => rShl32_ok w (hKr.at_ 0 rfl h) (by omega)) (fun xl al cl hKl hNl => ?_)
  refine mS e7_2 ?_; refine mI (e13_2.trans (congrArg (Value.int .i64) (show (((i + 1 : Nat) : Int) - 1) = (i : Nat) by omega))) ?_; refine jD Tryz.func125 (fun w h => rdigit_ok w (hKX9.at_ 3 rfl h) i ⟨by omega, by omega⟩) ?_; refine zS slt42 (by decide) rfl rfl (fun b9 gb9 ub9 => ?_)
  refine w_tel (fun w => zR Tryz.func124 rfl rfl rfl) rfl rfl (fun w h => rAddU_ok w (hKl.at_ 0 rfl h) (Nm.one (h.at_ 0 rfl) (dg_B _ _)) ⟨by omega, by omega⟩) (fun xu au cu hKu hNu => ?_)
  refine za (v := .slice _ _ _) rfl ?_; refine yC ?_; refine mS rfl ?_; refine mI e10_2 ?_; refine jD Tryz.func125 (fun w h => rdigit_ok w (hKu.at_ 0 rfl h) nn ⟨by omega, by omega⟩) ?_; refine zg (fun _ => R_mulU (a := (dg b32 (uj X Y i) nn)) (b := 4294967296) rfl rfl (by omega)) ?_; refine mS rfl ?_; refine mI e10_2 ?_; refine zg (fun _ => R_subN (n := nn) (b := 1) rfl rfl (by omega) (by omega)) ?_; refine jD Tryz.func125 (fun w h => rdigit_ok w (hKu.at_ 0 rfl h) (nn - 1) ⟨by omega, by omega⟩) ?_; refine zg (fun _ => R_addU (a := ((dg b32 (uj X Y i) nn) * 4294967296)) (b := (dg b32 (uj X Y i) (nn - 1))) rfl rfl (by omega)) ?_
  refine mS e8_2 ?_; refine mI e10_2 ?_; refine zg (fun _ => R_subN (n := nn) (b := 1) rfl rfl (by omega) (by omega)) ?_; refine jD Tryz.func125 (fun w h => rdigit_ok w (hKY9.at_ 3 rfl h) (nn - 1) ⟨by omega, by omega⟩) ?_; refine zg (fun _ => R_quoU (a := (((dg b32 (uj X Y i) nn) * 4294967296) + (dg b32 (uj X Y i) (nn - 1)))) (b := (dg b32 Y (nn - 1))) rfl rfl (by omega) (by omega)) ?_; refine zg (fun _ => R_minN (a := ((((dg b32 (uj X Y i) nn) * 4294967296) + (dg b32 (uj X Y i) (nn - 1))) / (dg b32 Y (nn - 1)))) (b := 4294967295) rfl rfl) ?_; refine aI rfl ?_; refine yC ?_; refine mS e8_2 ?_; refine mI rfl ?_
  refine zS slt42 (by decide) rfl rfl (fun b11 gb11 ub11 => ?_)
  refine w_tel (fun w => zR Tryz.func126 rfl rfl rfl) rfl rfl (fun w h => rMul_ok w (hKY9.at_ 3 rfl h) (Nm.one (h.at_ 0 rfl) (min_B _)) ⟨by omega, by omega⟩) (fun xp0 ap0 cp0 hKp0 hNp0 => ?_)
  refine za (v := .slice _ _ _) rfl ?_; refine yB ?_; refine zq ?_; refine zB ?_; refine c_st (B' := [xp0, xu, xY, xX, (w, No)]) (L' := [(ob, cel (lmV (wid (qz X Y (i + 1)) (mm - nn + 1)) (mm - nn + 1)) 75)]) (fun w h => (h.pick [2] (by decide)).unbase (fun x hx => by rcases List.mem_cons.1 hx with rfl | hx; (exact zm0); rcases List.mem_cons.1 hx with rfl | hx; (exact zm1); rcases List.mem_cons.1 hx with rfl | hx; (exact zm4); rcases List.mem_cons.1 hx with rfl | hx; (exact (.tail _ zm4)); rcases List.mem_cons.1 hx with rfl | hx; (exact (.tail _ (.tail _ zm4))); exact absurd hx (by simp))) ?_
  refine c_loop (fun m9 e B L => ∃ (g : Nat) (xp : BaseW) (ap : Option Addr) (cp : Nat), e 6 = .int .i64 (s : Nat) ∧ e 7 = .slice aX (sz X) cX ∧ e 8 = .slice aY (sz Y) cY ∧ e 9 = .int .i64 (mm : Nat) ∧ e 10 = .int .i64 (nn : Nat) ∧ e 11 = .slice (some ⟨ob, 0, none⟩) (mm - nn + 1) (mm - nn + 1) ∧ e 12 = .slice au (sz (uj X Y i)) cu ∧ e 13 = .int .i64 (i : Nat) ∧ e 14 = .int .u64 (g : Nat) ∧ e 15 = .slice ap (sz (Y * g)) cp ∧ B = [xp, xu, xY, xX, (w, No)] ∧ L = [(ob, cel (lmV (wid (qz X Y (i + 1)) (mm - nn + 1)) (mm - nn + 1)) 75)] ∧ Kn xp ap (sz (Y * g)) cp (Y * g) ∧ (uj X Y i) / Y ≤ g ∧ g < b32 ∧ m9 = g + 1) _ ⟨(min ((dg b32 (uj X Y i) nn * 4294967296 + dg b32 (uj X Y i) (nn - 1)) / dg b32 Y (nn - 1)) 4294967295), xp0, ap0, cp0, e6_2, e7_2, e8_2, e9_2, e10_2, e11_2, rfl, (e13_2.trans (congrArg (Value.int .i64) (show (((i + 1 : Nat) : Int) - 1) = (i : Nat) by omega))), rfl, rfl, rfl, rfl, hKp0, hg0, min_b _, rfl⟩ ?_
  rintro m9 e B L ⟨g, xp, ap, cp, e6_3, e7_3, e8_3, e9_3, e10_3, e11_3, e12_3, e13_3, e14_3, e15_3, rfl, rfl, hKp, hq, hg9, rfl⟩
  have hYg9 := times_lt (V := Y) (lt_B hg9)
  refine zq ?_; refine yA ?_; refine mS e15_3 ?_; refine mS e12_3 ?_; refine jD Tryz.func127 (fun w h => rCmp_ok w (hKp.at_ 0 rfl h) (hKu.at_ 1 rfl h) ⟨by omega, by omega⟩) ?_; refine jg rfl rfl ?_; refine yB ?_; refine zD rfl (fun h13 => ?_) (fun h13 => ?_)
  ·have hgt := cmpN_gt0 h13; have hgq : (uj X Y i) / Y < g := (Nat.div_lt_iff_lt_mul hY0).2 (by rw [Nat.mul_comm]; exact hgt); have hle9 : Y ≤ Y * g := Nat.le_mul_of_pos_right _ (by omega)
   refine zi ?_; refine zk ?_; refine zB ?_; refine yA ?_; refine mS e15_3 ?_; refine mS e8_3 ?_; refine w_tel (fun w => zR Tryz.func128 rfl rfl rfl) rfl rfl (fun w h => (by have := rSub_ok w (hKp.at_ 0 rfl h) (hKY9.at_ 2 rfl h) ⟨by omega, by omega⟩ hle9; rwa [← Nat.mul_sub_one] at this)) (fun xv av cv hKv hNv => ?_)
   refine za (v := .slice _ _ _) rfl ?_; refine yB ?_; refine zr ?_; refine mI e14_3 ?_; refine zg (fun _ => R_subU (a := g) (b := 1) rfl rfl (by omega) (by omega)) ?_; refine aI rfl ?_; refine zn ?_; refine zO (?_)
   refine zK (B' := [xv, xu, xY, xX, (w, No)]) (L' := [(ob, cel (lmV (wid (qz X Y (i + 1)) (mm - nn + 1)) (mm - nn + 1)) 75)]) (fun w h => (h.pick [0] (by decide)).unbase (fun x hx => by rcases List.mem_cons.1 hx with rfl | hx; (exact zm0); rcases List.mem_cons.1 hx with rfl | hx; (exact zm2); rcases List.mem_cons.1 hx with rfl | hx; (exact zm3); rcases List.mem_cons.1 hx with rfl | hx; (exact zm4); rcases List.mem_cons.1 hx with rfl | hx; (exact (.tail _ zm4)); exact absurd hx (by simp))) ?_; exact k_again _ (by omega) ⟨(g - 1), xv, av, cv, e6_3, e7_3, e8_3, e9_3, e10_3, e11_3, e12_3, e13_3, rfl, rfl, rfl, rfl, hKv, by omega, by omega, rfl⟩
  ·have hle8 := cmpN_le0 h13; have hgq := digit_eq hY0 hq (by rw [Nat.mul_comm]; exact hle8); have hrest : (uj X Y i) - Y * g = (rj X Y i) := (by rw [← hg3]; have := Nat.div_add_mod ((uj X Y i)) (Y); rw [← hgq] at this; omega)
   refine zX ?_; refine zx (zx (b_here rfl (zk ?_))); refine yA ?_; refine mS e12_3 ?_; refine mS e15_3 ?_; refine w_tel (fun w => zR Tryz.func128 rfl rfl rfl) rfl rfl (fun w h => (by have := rSub_ok w (hKu.at_ 1 rfl h) (hKp.at_ 0 rfl h) ⟨by omega, by omega⟩ hle8; rwa [hrest] at this)) (fun xq9 aq9 cq9 hKq9 hNq9 => ?_)
   refine za (v := .slice _ _ _) rfl ?_; refine yB ?_; refine zr ?_; refine mS e11_3 ?_; refine mI e13_3 ?_; refine mI e14_3 ?_; refine zg (fun _ => R_iaN (i := i) sl41 rfl rfl (by omega)) ?_; refine w_putU (dv := g) (z' := (wid (qz X Y i) (mm - nn + 1))) (j := i) 0 rfl z75 rfl rfl (by exact lt_B hg9) (by omega) (by rw [hgq, ← hg2]; exact rdiv_put _ _ (by omega)) ?_; refine zn ?_; refine zO (zk ?_); refine zr ?_; refine mI e13_3 ?_; refine zg (fun _ => R_subi rfl rfl (by omega)) ?_; refine aI rfl ?_; refine zn ?_
   refine zK (B' := [xq9, xY, xX, (w, No)]) (L' := [(ob, cel (lmV (wid (qz X Y i) (mm - nn + 1)) (mm - nn + 1)) 75)]) (fun w h => (h.pick [0] (by decide)).unbase (fun x hx => by rcases List.mem_cons.1 hx with rfl | hx; (exact zm0); rcases List.mem_cons.1 hx with rfl | hx; (exact zm3); rcases List.mem_cons.1 hx with rfl | hx; (exact zm4); rcases List.mem_cons.1 hx with rfl | hx; (exact (.tail _ zm4)); exact absurd hx (by simp))) ?_; exact k_again _ (by omega) ⟨i, xq9, aq9, cq9, e6_3, e7_3, e8_3, e9_3, e10_3, e11_3, rfl, rfl, rfl, rfl, by omega, hKq9, rfl⟩
 ·obtain rfl : j = 0 := (by omega); rw [qz0]; have hsd : X / Y = n / m ∧ rj X Y 0 / 2 ^ s = n % m := (by rw [rj0, hXe, hYe]; exact shl_div n m s); have hRs := sz_mono (Nat.le_of_lt (rj_lt X hY0 0))
  refine zX ?_; refine zx (zx (b_here rfl (zk ?_))); refine yA ?_; refine mS e11_2 ?_; refine w_tel (fun w => zR Tryz.func129 rfl rfl rfl) rfl rfl (fun w h => made2_ok w (Nm.own 0 rfl (wid_lt _ _) (Nat.le_refl _) h) (by omega) (Nat.mod_eq_of_lt (rdiv_q hXl hYg hn0 hnm))) (fun x16 a16 c16 hK16 hN16 => ?_)
  refine mS e12_2 ?_; refine mI e6_2 ?_; refine w_tel (fun w => zR Tryz.func123 rfl rfl rfl) rfl rfl (fun w h => rShr_ok w (hKr.at_ 1 rfl h) s ⟨by omega, by omega⟩) (fun x17 a17 c17 hK17 hN17 => ?_)
  refine za (v := .slice _ _ _) rfl ?_; refine za (v := .slice _ _ _) rfl ?_; refine yB ?_; refine ze ?_
  rw [← hsd.1, ← hsd.2]
  refine r_two (v := .slice _ _ _) (v2 := .slice _ _ _) rfl rfl rfl rfl rfl ?_; exact fun w' hw => ⟨_, _, _, _, rfl, (hK16.at_ 1 rfl hw), (hK17.at_ 0 rfl hw), (hN16 _ zm3), (hN17 _ zm4), hw.fr (w, No) (.tail _ zm4)⟩
end Go.Proofs.YtikdkendinnalaaGreatDoor
end
section
namespace Go.Proofs.YtikdkendinnalaaGreatDoor
open Go.RowKit Go.Sx
open Go.Num
theorem rMul10_ok {a a2 : Option Addr} {k c k2 c2 n : Nat} (w : World) (hA : Nm w a k c n) (hB : Nm w a2 k2 c2 10) (hs : k ≤ 500000 ∧ k2 ≤ 500000) : Ret Tryz.prog 126 #[.slice a k c, .slice a2 k2 c2] w (Tel (fun a c => .slice a (sz (n * 10)) c) (sz (n * 10)) (n * 10) w) := rMul_ok w hA hB hs
theorem npe_at {s : List UInt8} {i : Nat} {c : UInt8} (h : s[i]? = some c) (hd : isD c = false) : npe s = 5 ∧ npv s = none := by
 have h1 : npv s = none := npe_bad (.inr (List.all_eq_false.2 ⟨c, List.mem_of_getElem? h, by rw [hd]; simp⟩))
 exact ⟨by unfold npe; rw [h1], h1⟩
theorem rParse_ok (s : List UInt8) (w : World) (hs : s.length ≤ 400) :
  Ret Tryz.prog 148 #[str s] w (Tel (fun a c => .tuple #[.slice a (sz ((npv s).getD 0)) c, .int .i64 (npe s)]) (sz ((npv s).getD 0)) ((npv s).getD 0) w) := by
 have hBv : Go.Num.B = 18446744073709551616 := rfl
 refine enter (S := No) (l := [_]) (L := []) 38 Tryz.func148 rfl rfl rfl (St.start w No) ?_; refine yA ?_; refine za (v := .slice _ _ _) rfl ?_; refine aI rfl ?_; refine yB ?_; refine zq ?_; refine yA ?_; refine zm (v := str _) rfl ?_; refine zg (fun _ => R_slen st9 rfl (by omega)) ?_; refine jg rfl rfl ?_; refine yB ?_; refine zD rfl (fun h1 => ?_) (fun h1 => ?_)
 ·omega
 ·refine zi ?_; refine zk ?_; refine zq ?_; refine yA ?_; refine zm (v := str _) rfl ?_; refine js rfl rfl ?_; refine yB ?_; refine zD rfl (fun h2 => ?_) (fun h2 => ?_)
  ·have hnp := npe_bad (s := s) (.inl h2); have hE : npe s = 5 := (by unfold npe; rw [hnp])
   refine yA ?_; refine za (v := .slice _ _ _) rfl ?_; refine aI rfl ?_; refine yB ?_; refine ze ?_; refine zt (?_)
   rw [hE, hnp, Option.getD_none]
   refine r_two (v := .slice _ _ _) (v2 := .int _ _) rfl rfl rfl rfl rfl ?_; exact fun w' hw => ⟨none, 0, rfl, Nm.nil _, Fsh.nil _ _, hw.fr (w, No) zm0⟩
  ·have hsne : ¬ s = [] := h2
   refine zi ?_; refine zk ?_; refine yA ?_; refine za (v := .slice _ _ _) rfl ?_; refine yB ?_; refine zq ?_; refine yA ?_; refine aI rfl ?_; refine yB ?_; refine zB ?_; refine c_st (B' := [(w, No), (w, No)]) (L' := []) (fun w h => (h.drop (List.nil_sublist _)).unbase (fun x hx => by rcases List.mem_cons.1 hx with rfl | hx; (exact .head _); exact hx)) ?_
   refine c_loop (fun m9 e B L => ∃ (i N : Nat) (xN : BaseW) (aN : Option Addr) (cN : Nat), e 0 = str s ∧ e 4 = .slice aN (sz N) cN ∧ e 5 = .int .i64 (i : Nat) ∧ B = [xN, (w, No)] ∧ L = [] ∧ i ≤ s.length ∧ Kn xN aN (sz N) cN N ∧ New_ [(w, No)] aN (sz N) ∧ N = pv 0 (s.take i) ∧ (s.take i).all isD = true ∧ m9 = s.length - i) _ ⟨0, 0, (w, No), none, 0, rfl, rfl, rfl, rfl, rfl, Nat.zero_le _, Kn.old (Nm.nil w), fun _ _ => Fsh.nil _ _, rfl, rfl, rfl⟩ ?_
   rintro m9 e B L ⟨i, N, xN, aN, cN, e0_1, e4_1, e5_1, rfl, rfl, hi, hKN, hNN, hN, hd, rfl⟩
   have hNsz : sz N ≤ 400 := (by have := sz_ten (pv_lt _ hd); rw [← hN, List.length_take] at this; omega)
   have hN10 := times_lt (V := N) (g := 10) (by decide)
   refine zq ?_; refine yA ?_; refine mI e5_1 ?_; refine zm (v := str _) e0_1 ?_; refine zg (fun _ => R_slen st9 rfl (by omega)) ?_; refine jl rfl rfl ?_; refine yB ?_; refine zD rfl (fun h3 => ?_) (fun h3 => ?_)
   ·obtain ⟨ch, hch⟩ : ∃ c, s[i]? = some c := ⟨_, List.getElem?_eq_getElem (by omega)⟩; have hc256 := ch.toNat_lt
    refine zi ?_; refine zk ?_; refine zq ?_; refine zB ?_; refine zq ?_; refine yA ?_; refine zm (v := str _) e0_1 ?_; refine mI e5_1 ?_; refine w_sidx (a := s) (i := i) st9 rfl rfl (by omega) ?_
    rw [show s[i] = ch from (List.getElem?_eq_some_iff.1 hch).2]
    refine zg (fun _ => R_ltN (a := (ch.toNat)) (b := 48) rfl rfl) ?_; refine mB rfl ?_; refine zd (t := 21) rfl (fun h4 => ?_) (fun h4 => ?_)
    ·have hE := npe_at hch (show isD ch = false by rw [isD_def]; exact decide_eq_false (by omega))
     refine zs rfl rfl (bT h4) ?_; refine zs rfl rfl (bT h4) ?_; refine zs rfl rfl (bT h4) ?_; refine zs rfl rfl (bT h4) ?_; refine jT (bT h4) rfl ?_; refine yB ?_; refine zE rfl ?_; refine yA ?_; refine za (v := .slice _ _ _) rfl ?_; refine aI rfl ?_; refine yB ?_; refine ze ?_; refine zt (zb (zt (zt (zb (zt (?_))))))
     rw [hE.1, hE.2, Option.getD_none]
     refine r_two (v := .slice _ _ _) (v2 := .int _ _) rfl rfl rfl rfl rfl ?_; exact fun w' hw => ⟨none, 0, rfl, Nm.nil _, Fsh.nil _ _, hw.fr (w, No) zm1⟩
    ·refine zw rfl rfl (bF h4) ?_; refine zm (v := str _) e0_1 ?_; refine zw rfl rfl (bF h4) ?_; refine mI e5_1 ?_; refine zw rfl rfl (bF h4) ?_; refine w_sidx (a := s) (i := i) st9 rfl rfl (by omega) ?_
     rw [show s[i] = ch from (List.getElem?_eq_some_iff.1 hch).2]
     refine zw rfl rfl (bF h4) ?_; refine zg (fun _ => R_gtN (a := (ch.toNat)) (b := 57) rfl rfl) ?_; refine jF (bF h4) rfl ?_; refine yB ?_; refine zD rfl (fun h5 => ?_) (fun h5 => ?_)
     ·have hE := npe_at hch (show isD ch = false by rw [isD_def]; exact decide_eq_false (by omega))
      refine yA ?_; refine za (v := .slice _ _ _) rfl ?_; refine aI rfl ?_; refine yB ?_; refine ze ?_; refine zt (zb (zt (zt (zb (zt (?_))))))
      rw [hE.1, hE.2, Option.getD_none]
      refine r_two (v := .slice _ _ _) (v2 := .int _ _) rfl rfl rfl rfl rfl ?_; exact fun w' hw => ⟨none, 0, rfl, Nm.nil _, Fsh.nil _ _, hw.fr (w, No) zm1⟩
     ·have hD : isD ch = true := (by rw [isD_def]; exact decide_eq_true ⟨by omega, by omega⟩)
      refine zi ?_; refine zk ?_; refine c_heldS mixed ?_; refine zh (v := .slice _ _ _) 0 rfl (by kernel_rfl) rfl rfl (fun w h => h) (fun w h => R_move e4_1) ?_; refine zh (v := str _) 3 rfl (by kernel_rfl) rfl rfl (fun w h => h) (fun w h => R_move e0_1) ?_; refine zh (v := .int _ _) 4 rfl (by kernel_rfl) rfl rfl (fun w h => h) (fun w h => R_move e5_1) ?_; refine zh (v := .int .u8 ((s.getD i 0).toNat : Nat)) 5 rfl (by kernel_rfl) rfl rfl (fun w h => h) (fun w h => R_sidxD (a := s) (i := i) st9 rfl rfl (by omega)) ?_
      rw [show s.getD i 0 = ch by rw [List.getD_eq_getElem?_getD, hch]; rfl]
      refine zh2 6 rfl rfl (fun w h => h) (fun w h => R_subB (a := ch.toNat) (b := 48) rfl rfl (by omega) (by omega)) ?_; refine zh2 7 rfl rfl (fun w h => h) (fun w h => R_convK (n := (ch.toNat - 48)) un5 un75 rfl (wrap_u (by omega))) ?_; refine h_two 1 8 (by kernel_rfl) (fun w h => h) ?_ ?_
      ·refine o_bsliceV rfl (wn_none rfl) slt42 (by decide) rfl rfl (fun b6 gb6 ub6 => ?_)
       refine h_two 2 8 (by kernel_rfl) (fun w h => h.d1) ?_ ?_
       ·refine o_tel rfl (wn_none rfl) rfl (fun w => zR Tryz.func126 rfl rfl rfl) (fun w h => rMul10_ok w (hKN.at_ 0 rfl h) (Nm.one (h.at_ 0 rfl) (by decide)) ⟨by omega, by omega⟩) (fun xm am cm hKm hNm => ?_)
        refine zH2 8 (fun w h => h.d1.unbase (fun x hx => .tail _ (hx))) ?_; refine o_bsliceV rfl (wn_none rfl) slt42 (by decide) rfl rfl (fun b8 gb8 ub8 => ?_)
        refine zH2 9 (fun w h => (h.drop (.cons _ (.cons _ (List.Sublist.refl _)))).unbase (fun x hx => .tail _ (hx))) ?_; refine o_tel rfl (wn_none rfl) rfl (fun w => zR Tryz.func124 rfl rfl rfl) (fun w h => rAdd_ok w (hKm.at_ 0 rfl h) (Nm.one (h.at_ 0 rfl) (by omega)) ⟨by omega, by omega⟩) (fun xq aq cq hKq hNq => ?_)
        refine zh (v := .slice _ _ _) 10 rfl (by kernel_rfl) rfl rfl (fun w h => (h.drop (.cons _ (.cons _ (List.Sublist.refl _)))).unbase (fun x hx => .tail _ (.tail _ (hx)))) (fun w h => R_assign rfl) ?_; refine zN2 (fun w h => (h.drop (.cons _ (.cons _ (List.Sublist.refl _)))).unbase (fun x hx => .tail _ (.tail _ (hx)))) ?_; refine zO (zk ?_); refine zr ?_; refine mI e5_1 ?_; refine zg (fun _ => R_addN (n := i) (b := 1) rfl rfl (by omega)) ?_; refine aI rfl ?_; refine zn ?_; refine zK (B' := [xq, (w, No)]) (L' := []) (fun w h => (h.drop (List.nil_sublist _)).unbase (fun x hx => by rcases List.mem_cons.1 hx with rfl | hx; (exact .head _); exact .tail _ (.tail _ (.tail _ hx)))) ?_
        exact k_again _ (by omega) ⟨i + 1, (N * 10 + (ch.toNat - 48)), xq, aq, cq, e0_1, rfl, rfl, rfl, rfl, by omega, hKq, fun y hy => hNq y (.tail _ (.tail _ hy)), by rw [List.take_add_one, hch, pv_app, ← hN]; rfl, take_all hd hch hD, rfl⟩
       ·refine o_bsliceV rfl (wn_none rfl) slt42 (by decide) rfl rfl (fun b10 gb10 ub10 => ?_)
        refine zH2 2 (fun w h => (h.drop (.cons _ (.cons _ (List.Sublist.refl _))))) ?_; refine o_tel rfl (wn_none rfl) rfl (fun w => zR Tryz.func126 rfl rfl rfl) (fun w h => rMul10_ok w (hKN.at_ 0 rfl h) (Nm.one (h.at_ 1 rfl) (by decide)) ⟨by omega, by omega⟩) (fun xm am cm hKm hNm => ?_)
        refine zH2 9 (fun w h => (h.drop (.cons _ (.cons _ (List.Sublist.refl _)))).unbase (fun x hx => .tail _ (hx))) ?_; refine o_tel rfl (wn_none rfl) rfl (fun w => zR Tryz.func124 rfl rfl rfl) (fun w h => rAdd_ok w (hKm.at_ 0 rfl h) (Nm.one (h.at_ 0 rfl) (by omega)) ⟨by omega, by omega⟩) (fun xq aq cq hKq hNq => ?_)
        refine zh (v := .slice _ _ _) 10 rfl (by kernel_rfl) rfl rfl (fun w h => (h.drop (.cons _ (.cons _ (List.Sublist.refl _)))).unbase (fun x hx => .tail _ (.tail _ (hx)))) (fun w h => R_assign rfl) ?_; refine zN2 (fun w h => (h.drop (.cons _ (.cons _ (List.Sublist.refl _)))).unbase (fun x hx => .tail _ (.tail _ (hx)))) ?_; refine zO (zk ?_); refine zr ?_; refine mI e5_1 ?_; refine zg (fun _ => R_addN (n := i) (b := 1) rfl rfl (by omega)) ?_; refine aI rfl ?_; refine zn ?_; refine zK (B' := [xq, (w, No)]) (L' := []) (fun w h => (h.drop (List.nil_sublist _)).unbase (fun x hx => by rcases List.mem_cons.1 hx with rfl | hx; (exact .head _); exact .tail _ (.tail _ (.tail _ hx)))) ?_
        exact k_again _ (by omega) ⟨i + 1, (N * 10 + (ch.toNat - 48)), xq, aq, cq, e0_1, rfl, rfl, rfl, rfl, by omega, hKq, fun y hy => hNq y (.tail _ (.tail _ hy)), by rw [List.take_add_one, hch, pv_app, ← hN]; rfl, take_all hd hch hD, rfl⟩
      ·refine o_bsliceV rfl (wn_none rfl) slt42 (by decide) rfl rfl (fun b13 gb13 ub13 => ?_)
       refine zH2 1 (fun w h => h.d1) ?_; refine o_bsliceV rfl (wn_none rfl) slt42 (by decide) rfl rfl (fun b14 gb14 ub14 => ?_)
       refine zH2 2 (fun w h => (h.drop (.cons _ (.cons _ (List.Sublist.refl _))))) ?_; refine o_tel rfl (wn_none rfl) rfl (fun w => zR Tryz.func126 rfl rfl rfl) (fun w h => rMul10_ok w (hKN.at_ 0 rfl h) (Nm.one (h.at_ 0 rfl) (by decide)) ⟨by omega, by omega⟩) (fun xm am cm hKm hNm => ?_)
       refine zH2 9 (fun w h => (h.drop (.cons _ (.cons _ (List.Sublist.refl _)))).unbase (fun x hx => .tail _ (hx))) ?_; refine o_tel rfl (wn_none rfl) rfl (fun w => zR Tryz.func124 rfl rfl rfl) (fun w h => rAdd_ok w (hKm.at_ 0 rfl h) (Nm.one (h.at_ 1 rfl) (by omega)) ⟨by omega, by omega⟩) (fun xq aq cq hKq hNq => ?_)
       refine zh (v := .slice _ _ _) 10 rfl (by kernel_rfl) rfl rfl (fun w h => (h.drop (.cons _ (.cons _ (List.Sublist.refl _)))).unbase (fun x hx => .tail _ (.tail _ (hx)))) (fun w h => R_assign rfl) ?_; refine zN2 (fun w h => (h.drop (.cons _ (.cons _ (List.Sublist.refl _)))).unbase (fun x hx => .tail _ (.tail _ (hx)))) ?_; refine zO (zk ?_); refine zr ?_; refine mI e5_1 ?_; refine zg (fun _ => R_addN (n := i) (b := 1) rfl rfl (by omega)) ?_; refine aI rfl ?_; refine zn ?_; refine zK (B' := [xq, (w, No)]) (L' := []) (fun w h => (h.drop (List.nil_sublist _)).unbase (fun x hx => by rcases List.mem_cons.1 hx with rfl | hx; (exact .head _); exact .tail _ (.tail _ (.tail _ hx)))) ?_
       exact k_again _ (by omega) ⟨i + 1, (N * 10 + (ch.toNat - 48)), xq, aq, cq, e0_1, rfl, rfl, rfl, rfl, by omega, hKq, fun y hy => hNq y (.tail _ (.tail _ hy)), by rw [List.take_add_one, hch, pv_app, ← hN]; rfl, take_all hd hch hD, rfl⟩
   ·obtain rfl : i = s.length := (by omega); rw [List.take_of_length_le (Nat.le_refl _)] at hN hd; have hnp := npe_ok hsne hd; have hE : npe s = 0 := (by unfold npe; rw [hnp])
    refine zX ?_; refine zx (zx (b_here rfl (zk ?_))); refine yA ?_; refine mS e4_1 ?_; refine za (v := .slice _ _ _) rfl ?_; refine aI rfl ?_; refine yB ?_; refine ze ?_
    rw [hE, hnp, Option.getD_some, ← hN]
    refine r_two (v := .slice _ _ _) (v2 := .int _ _) rfl rfl rfl rfl rfl ?_; exact fun w' hw => ⟨_, _, rfl, (hKN.at_ 0 rfl hw), (hNN _ zm0), hw.fr (w, No) zm1⟩
end Go.Proofs.YtikdkendinnalaaGreatDoor
end
section
namespace Go.Proofs.YtikdkendinnalaaGreatDoor
open Go.RowKit Go.Sx
open Go.Num
theorem iNorm_ok (s : Bool) {a : Option Addr} {k c n : Nat} (w : World) (hA : Nm w a k c n) (hk : k ≤ 4000000) :
  Ret Tryz.prog 79 #[.agg #[.bool s, .slice a k c]] w (Tel (fun a c => .agg #[.bool (ng (iv s n)), .slice a (sz (iv s n).natAbs) c]) (sz (iv s n).natAbs) (iv s n).natAbs w) := by
 rw [ng_iv, iv_abs]
 refine enter (S := No) (l := [_]) (L := []) 16 Tryz.func79 rfl rfl rfl (St.start w No) ?_; refine yA ?_; refine w_boxA rfl (fun p gp up => ?_)
 refine zA zr44 (fun r gr ur => ?_)
 refine yC ?_; refine zf fa44_1 rfl ?_; refine jM 1 z42 rfl ?_; refine w_tel (fun w => zR Tryz.func80 rfl rfl rfl) rfl rfl (fun w h => rNorm_ok w ((Kn.old hA).at_ 0 rfl h) (by omega)) (fun x3 a3 c3 hK3 hN3 => ?_)
 refine za (v := .slice _ _ _) rfl ?_; refine yC ?_; refine zf fa44_0 rfl ?_; refine jM 1 z4 rfl ?_; refine mB rfl ?_; refine zp (t := 9) rfl (fun h4 => ?_) (fun h4 => ?_)
 ·refine zw rfl rfl (bV h4) ?_; refine mS rfl ?_; refine zw rfl rfl (bV h4) ?_; refine jj sl42 rfl ?_; refine zw rfl rfl (bV h4) ?_; refine zg (fun _ => R_gtN (a := (sz n)) (b := 0) rfl rfl) ?_; refine jT (bV h4) rfl ?_; refine mS rfl ?_; refine jb bt44 rfl ?_; refine jv 0 z44 rfl ?_; refine yB ?_; refine ze ?_
  subst h4
  refine r_fin (.inl rfl) rfl (.agg rfl rfl z44 (fun _ h => h.at_ 0 rfl) rfl .nil) ?_; exact fun w' hw => ⟨_, _, by rw [Bool.true_and, ← sz_gt]; rfl, (hK3.at_ 0 rfl hw), (hN3 _ zm0), hw.fr (w, No) zm1⟩
 ·refine zs rfl rfl (bV h4) ?_; refine zs rfl rfl (bV h4) ?_; refine zs rfl rfl (bV h4) ?_; refine jF (bV h4) rfl ?_; refine mS rfl ?_; refine jb bt44 rfl ?_; refine jv 0 z44 rfl ?_; refine yB ?_; refine ze ?_
  subst h4
  refine r_fin (.inl rfl) rfl (.agg rfl rfl z44 (fun _ h => h.at_ 0 rfl) rfl .nil) ?_; exact fun w' hw => ⟨_, _, rfl, (hK3.at_ 0 rfl hw), (hN3 _ zm0), hw.fr (w, No) zm1⟩
theorem iNeg_ok (s : Bool) {a : Option Addr} {k c n : Nat} (w : World) (hA : Nm w a k c n) (hk : k ≤ 4000000) :
  Ret Tryz.prog 44 #[.agg #[.bool s, .slice a k c]] w (Tel (fun a c => .agg #[.bool (ng (-iv s n)), .slice a (sz (-iv s n).natAbs) c]) (sz (-iv s n).natAbs) (-iv s n).natAbs w) := by
 rw [← iv_not]
 refine enter (S := No) (l := [_]) (L := []) 10 Tryz.func44 rfl rfl rfl (St.start w No) ?_; refine yA ?_; refine w_boxA rfl (fun p gp up => ?_)
 refine zA zr44 (fun r gr ur => ?_)
 refine yC ?_; refine zf fa44_0 rfl ?_; refine jM 1 z4 rfl ?_; refine jk rfl ?_; refine zf fa44_1 rfl ?_; refine jM 1 z42 rfl ?_; refine jb bt44 rfl ?_; refine w_tel (fun w => zR Tryz.func79 rfl rfl rfl) rfl rfl (fun w h => iNorm_ok _ w ((Kn.old hA).at_ 0 rfl h) (by omega)) (fun x3 a3 c3 hK3 hN3 => ?_)
 refine jv 0 z44 rfl ?_; refine yB ?_; refine ze ?_; refine r_fin (.inl rfl) rfl (.agg rfl rfl z44 (fun _ h => h.at_ 0 rfl) rfl .nil) ?_; exact fun w' hw => ⟨_, _, rfl, (hK3.at_ 0 rfl hw), (hN3 _ zm0), hw.fr (w, No) zm1⟩
theorem mul_sz (n m : Nat) : sz (n * m) ≤ sz n + sz m := by
 refine sz_iff.2 ?_
 rw [Nat.pow_add]
 rcases Nat.eq_zero_or_pos m with h | h
 ·subst h; rw [Nat.mul_zero]; exact Nat.mul_pos (Bpow_pos _) (Bpow_pos _)
 ·exact Nat.lt_of_lt_of_le (Nat.mul_lt_mul_of_pos_right (lt_sz n) h) (Nat.mul_le_mul_left _ (Nat.le_of_lt (lt_sz m)))
theorem iMul_ok (s t : Bool) {a : Option Addr} {k c n : Nat} {a2 : Option Addr} {k2 c2 m : Nat} (w : World) (hA : Nm w a k c n) (hA2 : Nm w a2 k2 c2 m) (hs : k ≤ 1000 ∧ k2 ≤ 1000) :
  Ret Tryz.prog 110 #[.agg #[.bool s, .slice a k c], .agg #[.bool t, .slice a2 k2 c2]] w (Tel (fun a c => .agg #[.bool (ng (iv s n * iv t m)), .slice a (sz (iv s n * iv t m).natAbs) c]) (sz (iv s n * iv t m).natAbs) (iv s n * iv t m).natAbs w) := by
 have hsn : sz n ≤ k := sz_iff.2 hA.lt
 have hsm : sz m ≤ k2 := sz_iff.2 hA2.lt
 rw [← mul_iv]
 have hml := mul_sz n m
 refine enter (S := No) (l := [_, _]) (L := []) 17 Tryz.func110 rfl rfl rfl (St.start w No) ?_; refine yA ?_; refine w_boxA rfl (fun p gp up => ?_)
 refine w_boxA rfl (fun p2 gp2 up2 => ?_)
 refine zA zr44 (fun r gr ur => ?_)
 refine yB ?_; refine zq ?_; refine c_heldI [1, 2] mixed ?_; refine zh2 0 rfl rfl (pk [1, 2]) (fun w h => R_fa fa44_0 rfl) ?_; refine zh (v := .bool _) 1 rfl (by kernel_rfl) rfl rfl (pk [1, 2]) (fun w h => R_ld1 z4 rfl (zc 1 rfl rfl h)) ?_; refine zh2 2 rfl rfl (pk [1, 2]) (fun w h => R_fa fa44_0 rfl) ?_; refine zh (v := .bool _) 3 rfl (by kernel_rfl) rfl rfl (pk [1, 2]) (fun w h => R_ld1 z4 rfl (zc 0 rfl rfl h)) ?_; refine zh2 4 rfl rfl (pk [1, 2]) (fun w h => R_bne unb4 rfl rfl) ?_; refine zh2 5 rfl rfl (pk [1, 2]) (fun w h => R_fa fa44_1 rfl) ?_
 refine zh (v := .slice _ _ _) 6 rfl (by kernel_rfl) rfl rfl (pk [1, 2]) (fun w h => R_ld1 z42 rfl (zc 1 rfl rfl h)) ?_; refine zh2 7 rfl rfl (pk [1, 2]) (fun w h => R_fa fa44_1 rfl) ?_; refine zh (v := .slice _ _ _) 8 rfl (by kernel_rfl) rfl rfl (pk [1, 2]) (fun w h => R_ld1 z42 rfl (zc 0 rfl rfl h)) ?_; refine zH2 9 (pk [1, 2]) ?_; refine o_tel rfl (wn_none rfl) rfl (fun w => zR Tryz.func126 rfl rfl rfl) (fun w h => rMul_ok w ((Kn.old hA).at_ 0 rfl h) ((Kn.old hA2).at_ 0 rfl h) ⟨by omega, by omega⟩) (fun x4 a4 c4 hK4 hN4 => ?_)
 refine zh2 10 rfl rfl (fun w h => (h.unbase (fun x hx => .tail _ (hx))).pick [1, 2] (by decide)) (fun w h => R_build bt44 rfl) ?_; refine zH2 11 (fun w h => (h.unbase (fun x hx => .tail _ (hx))).pick [1, 2] (by decide)) ?_; refine o_tel rfl (wn_none rfl) rfl (fun w => zR Tryz.func79 rfl rfl rfl) (fun w h => iNorm_ok _ w (hK4.at_ 0 rfl h) (by omega)) (fun x5 a5 c5 hK5 hN5 => ?_)
 refine zH2 12 (fun w h => (h.unbase (fun x hx => .tail _ (.tail _ (hx)))).pick [1, 2] (by decide)) ?_; refine zJ 0 rfl rfl z44 rfl rfl rfl rfl rfl rfl rfl ?_; refine zN2 (fun w h => (h.unbase (fun x hx => .tail _ (.tail _ (hx)))).pick [1, 2] (by decide)) ?_; refine zk ?_; refine ze ?_; refine r_fin (.inl rfl) rfl (.agg rfl rfl z44 (fun _ h => h.at_ 0 rfl) rfl .nil) ?_; exact fun w' hw => ⟨_, _, rfl, (hK5.at_ 0 rfl hw), (hN5 _ zm1), hw.fr (w, No) zm2⟩
theorem i64_pred {x : Int} (h : x < 0) (h2 : -4611686018427387904 ≤ x) : IntKind.i64.wrap (-(x + 1)) = ((x.natAbs - 1 : Nat) : Int) := by
 rw [wrap_i64 (by omega) (by omega)]; omega
theorem iv_of {x : Int} : (x < 0 → iv true x.natAbs = x) ∧ (¬ x < 0 → iv false x.natAbs = x) := by
 refine ⟨fun h => ?_, fun h => ?_⟩
 ·unfold iv; rw [if_pos rfl]; omega
 ·unfold iv; rw [if_neg (by decide)]; omega
theorem iOf0_ok {x y : Int} (hy : y = x) (w : World) (hx : -4611686018427387904 ≤ x ∧ x ≤ 4611686018427387904) :
  Ret Tryz.prog 111 #[.int .i64 x] w (Tel (fun a c => .agg #[.bool (ng (y)), .slice a (sz (y).natAbs) c]) (sz (y).natAbs) (y).natAbs w) := by
 have hBv : Go.Num.B = 18446744073709551616 := rfl
 refine enter (S := No) (l := [_]) (L := []) 18 Tryz.func111 rfl rfl rfl (St.start w No) ?_; refine yA ?_; refine zA zr44 (fun r gr ur => ?_)
 refine yB ?_; refine zq ?_; refine yA ?_; refine mI rfl ?_; refine jl rfl rfl ?_; refine yB ?_; refine zD rfl (fun h2 => ?_) (fun h2 => ?_)
 ·refine yA ?_; refine mI rfl ?_; refine ji rfl rfl (by omega) ?_; refine zg (fun _ => R_neg rfl) ?_
  rw [i64_pred h2 hx.1]
  refine zg (fun _ => R_convK (n := (x.natAbs - 1)) un2 un75 rfl (wrap_u (by omega))) ?_; refine zg (fun _ => R_addU (a := (x.natAbs - 1)) (b := 1) rfl rfl (by omega)) ?_; refine zS slt42 (by decide) rfl rfl (fun b3 gb3 ub3 => ?_)
  refine jb bt44 rfl ?_; refine w_tel (fun w => zR Tryz.func79 rfl rfl rfl) rfl rfl (fun w h => iNorm_ok _ w (Nm.one (h.at_ 0 rfl) (by omega)) (by decide)) (fun x4 a4 c4 hK4 hN4 => ?_)
  refine jv 1 z44 rfl ?_; refine yB ?_; refine ze ?_; refine zt (?_)
  rw [show y = iv true (x.natAbs - 1 + 1) by rw [show x.natAbs - 1 + 1 = x.natAbs by omega, hy]; exact (iv_of.1 h2).symm]
  refine r_fin (.inl rfl) rfl (.agg rfl rfl z44 (fun _ h => h.at_ 1 rfl) rfl .nil) ?_; exact fun w' hw => ⟨_, _, rfl, (hK4.at_ 0 rfl hw), (hN4 _ zm0), hw.fr (w, No) zm1⟩
 ·refine zi ?_; refine zk ?_; refine yA ?_; refine mI rfl ?_; refine zg (fun _ => R_convI (m := x) un2 un75 rfl) ?_
  rw [u64_pos h2 hx.2]
  refine zS slt42 (by decide) rfl rfl (fun b5 gb5 ub5 => ?_)
  refine jb bt44 rfl ?_; refine w_tel (fun w => zR Tryz.func79 rfl rfl rfl) rfl rfl (fun w h => iNorm_ok _ w (Nm.one (h.at_ 0 rfl) (by omega)) (by decide)) (fun x6 a6 c6 hK6 hN6 => ?_)
  refine jv 1 z44 rfl ?_; refine yB ?_; refine ze ?_
  rw [show y = iv false x.natAbs from hy.trans (iv_of.2 h2).symm]
  refine r_fin (.inl rfl) rfl (.agg rfl rfl z44 (fun _ h => h.at_ 1 rfl) rfl .nil) ?_; exact fun w' hw => ⟨_, _, rfl, (hK6.at_ 0 rfl hw), (hN6 _ zm0), hw.fr (w, No) zm1⟩
theorem iOf_ok {x : Int} (w : World) (hx : -4611686018427387904 ≤ x ∧ x ≤ 4611686018427387904) : Ret Tryz.prog 111 #[.int .i64 x] w (Tel (fun a c => .agg #[.bool (ng (x)), .slice a (sz (x).natAbs) c]) (sz (x).natAbs) (x).natAbs w) := iOf0_ok rfl w hx
theorem int_eq (x y : Int) : (x = y) ↔ (ng x = ng y ∧ x.natAbs = y.natAbs) := by
 refine ⟨fun h => by rw [h]; exact ⟨rfl, rfl⟩, fun h => ?_⟩
 rw [← iv_ng x, ← iv_ng y, h.1, h.2]
theorem ng_len {x : Int} (h : ng x = true) : 0 < sz x.natAbs := sz_pos (by rw [ng_true] at h; omega)
theorem iSame_ok (x y : Int) {a : Option Addr} {c : Nat} {a2 : Option Addr} {c2 : Nat} (w : World) (hA : Nm w a (sz x.natAbs) c x.natAbs) (hA2 : Nm w a2 (sz y.natAbs) c2 y.natAbs) (hs : sz x.natAbs ≤ 1000 ∧ sz y.natAbs ≤ 1000) :
  Ret Tryz.prog 112 #[.agg #[.bool (ng (x)), .slice a (sz (x).natAbs) c], .agg #[.bool (ng (y)), .slice a2 (sz (y).natAbs) c2]] w (fun v w' => v = .bool (decide (x = y)) ∧ Ext w w') := by
 refine enter (S := No) (l := [_, _]) (L := []) 28 Tryz.func112 rfl rfl rfl (St.start w No) ?_; refine yA ?_; refine w_boxA rfl (fun p gp up => ?_)
 refine w_boxA rfl (fun p2 gp2 up2 => ?_)
 refine aB rfl ?_; refine yC ?_; refine zf fa44_0 rfl ?_; refine jM 1 z4 rfl ?_; refine zf fa44_0 rfl ?_; refine jM 0 z4 rfl ?_; refine zg (fun _ => R_beq unb4 rfl rfl) ?_; refine mB rfl ?_; refine zp (t := 10) rfl (fun h3 => ?_) (fun h3 => ?_)
 ·refine zw rfl rfl (bV h3) ?_; refine zf fa44_1 rfl ?_; refine zw rfl rfl (bV h3) ?_; refine jM 1 z42 rfl ?_; refine zw rfl rfl (bV h3) ?_; refine zf fa44_1 rfl ?_; refine zw rfl rfl (bV h3) ?_; refine jM 0 z42 rfl ?_; refine zw rfl rfl (bV h3) ?_; refine jD Tryz.func113 (fun w h => rSame_ok w ((Kn.old hA).at_ 0 rfl h) ((Kn.old hA2).at_ 0 rfl h) ⟨by omega, by omega⟩) ?_; refine jT (bV h3) rfl ?_; refine mB rfl ?_; refine zp (t := 17) rfl (fun h4 => ?_) (fun h4 => ?_)
  ·refine zw rfl rfl (bV h4) ?_; refine zf fa44_0 rfl ?_; refine zw rfl rfl (bV h4) ?_; refine jM 1 z4 rfl ?_; refine zw rfl rfl (bV h4) ?_; refine jk rfl ?_; refine zw rfl rfl (bV h4) ?_; refine mB rfl ?_; refine zp (t := 21) rfl (fun h5 => ?_) (fun h5 => ?_)
   ·refine zs rfl rfl (bV h5) ?_; refine zs rfl rfl (bV h5) ?_; refine zs rfl rfl (bV h5) ?_; refine zs rfl rfl (bV h5) ?_; refine zw rfl rfl (bV h4) ?_; refine jT (bV h5) rfl ?_; refine jT (bV h4) rfl ?_; refine aB rfl ?_; refine yB ?_; refine ze ?_; refine zo (v := .bool _) rfl rfl rfl ?_; exact fun w' hw => ⟨by rw [decide_eq_true ((int_eq x y).2 ⟨by simpa using h3, by simpa using h4⟩)], hw.fr (w, No) zm0⟩
   ·refine zw rfl rfl (bV h5) ?_; refine zf fa44_1 rfl ?_; refine zw rfl rfl (bV h5) ?_; refine jM 1 z42 rfl ?_; refine zw rfl rfl (bV h5) ?_; refine jj sl42 rfl ?_; refine zw rfl rfl (bV h5) ?_; refine zg (fun _ => R_gtN (a := (sz x.natAbs)) (b := 0) rfl rfl) ?_; refine zw rfl rfl (bV h4) ?_; refine jF (bV h5) rfl ?_; refine jT (bV h4) rfl ?_; refine aB rfl ?_; refine yB ?_; refine ze ?_; refine zo (v := .bool _) rfl rfl rfl ?_; exact fun w' hw => ⟨by rw [decide_eq_true (ng_len (by simpa using h5)), decide_eq_true ((int_eq x y).2 ⟨by simpa using h3, by simpa using h4⟩)], hw.fr (w, No) zm0⟩
  ·refine zs rfl rfl (bV h4) ?_; refine zs rfl rfl (bV h4) ?_; refine zs rfl rfl (bV h4) ?_; refine zs rfl rfl (bV h4) ?_; refine zU rfl rfl rfl ?_; refine zU rfl rfl rfl ?_; refine zU rfl rfl rfl ?_; refine zU rfl rfl rfl ?_; refine zs rfl rfl (bV h4) ?_; refine jF (bV h4) rfl ?_; refine aB rfl ?_; refine yB ?_; refine ze ?_; refine zo (v := .bool _) rfl rfl rfl ?_; exact fun w' hw => ⟨by rw [decide_eq_false (fun h => absurd ((int_eq x y).1 h).2 (by simpa using h4))], hw.fr (w, No) zm0⟩
 ·refine zs rfl rfl (bV h3) ?_; refine zs rfl rfl (bV h3) ?_; refine zs rfl rfl (bV h3) ?_; refine zs rfl rfl (bV h3) ?_; refine zs rfl rfl (bV h3) ?_; refine jF (bV h3) rfl ?_; refine mB rfl ?_; (iterate 4 refine zs rfl rfl rfl ?_); refine zU rfl rfl rfl ?_; refine zU rfl rfl rfl ?_; refine zU rfl rfl rfl ?_; refine zU rfl rfl rfl ?_; refine zs rfl rfl rfl ?_; refine jF rfl rfl ?_; refine aB rfl ?_; refine yB ?_; refine ze ?_; refine zo (v := .bool _) rfl rfl rfl ?_; exact fun w' hw => ⟨by rw [decide_eq_false (fun h => absurd ((int_eq x y).1 h).1 (by simpa using h3))], hw.fr (w, No) zm0⟩
end Go.Proofs.YtikdkendinnalaaGreatDoor
end
section
namespace Go.Proofs.YtikdkendinnalaaGreatDoor
open Go.RowKit Go.Sx
open Go.Num
theorem zp_ok {s : List UInt8} (h : npe (cutm s) = 0) : (zpv s).getD 0 = iv (decide (s.head? = some 45)) ((npv (cutm s)).getD 0) ∧ zpe s = 0 := by
  rw [← (zp_all s).1, zpv_eq]
  refine ⟨?_, h⟩
  unfold npe at h
  cases hn : npv (cutm s) with
  | none => rw [hn] at h; cases h
  | some n => rfl
theorem zp_no {s : List UInt8} (h : ¬ npe (cutm s) = 0) : (zpv s).getD 0 = 0 ∧ zpe s = npe (cutm s) := by
  rw [← (zp_all s).1, zpv_eq]
  refine ⟨?_, rfl⟩
  unfold npe at h
  cases hn : npv (cutm s) with
  | none => rfl
  | some n => rw [hn] at h; exact absurd rfl h
theorem cut_yes {s : List UInt8} {c : UInt8} (h : s[0]? = some c) (hc : c.toNat = 45) : cutm s = s.drop 1 ∧ decide (s.head? = some 45) = true := by
  cases s with
  | nil => cases h
  | cons d l =>
    have hd : d = c := by simpa using h
    have : d = 45 := by rw [hd]; exact UInt8.toNat_inj.1 hc
    subst this
    exact ⟨rfl, rfl⟩
theorem cut_not {s : List UInt8} (h : ∀ c, s[0]? = some c → ¬ c.toNat = 45) : cutm s = s ∧ decide (s.head? = some 45) = false := by
  have h1 : ¬ s.head? = some 45 := by
    intro h2
    rw [List.head?_eq_getElem?] at h2
    exact h 45 h2 rfl
  exact ⟨by unfold cutm; rw [if_neg h1], decide_eq_false h1⟩
theorem iParse_ok (s : List UInt8) (w : World) (hs : s.length ≤ 400) :
    Ret Tryz.prog 108 #[str s] w (Tel (fun a c => .tuple #[.agg #[.bool (ng ((zpv s).getD 0)), .slice a (sz (Int.natAbs ((zpv s).getD 0))) c], .int .i64 (zpe s)]) (sz (Int.natAbs ((zpv s).getD 0))) (Int.natAbs ((zpv s).getD 0)) w) := by
  refine enter (S := No) (l := [_]) (L := []) 31 Tryz.func108 rfl rfl rfl (St.start w No) ?_; refine yA ?_; refine zA zr44 (fun r gr ur => ?_)
  refine aI rfl ?_; refine yC ?_; refine zm (v := str _) rfl ?_; refine zg (fun _ => R_slen st9 rfl (by omega)) ?_; refine jg rfl rfl ?_; refine mB rfl ?_; refine zd (t := 10) rfl (fun h2 => ?_) (fun h2 => ?_)
  · obtain ⟨ch, hch⟩ : ∃ c, s[0]? = some c := ⟨_, List.getElem?_eq_getElem (by omega)⟩
    refine zw rfl rfl (bT h2) ?_; refine zm (v := str _) rfl ?_; refine zw rfl rfl (bT h2) ?_; refine zg (fun _ => R_sidxD (a := s) (i := 0) st9 rfl rfl (by omega)) ?_
    rw [show s.getD 0 0 = ch by rw [List.getD_eq_getElem?_getD, hch]; rfl]
    refine zw rfl rfl (bT h2) ?_; refine zg (fun _ => R_eqN (a := (ch.toNat)) (b := 45) rfl rfl) ?_; refine jT (bT h2) rfl ?_; refine aB rfl ?_; refine yB ?_; refine zq ?_; refine yA ?_; refine mB rfl ?_; refine yB ?_; refine zD rfl (fun h3 => ?_) (fun h3 => ?_)
    · have hcu := cut_yes hch h3; rw [show decide (ch.toNat = 45) = true from decide_eq_true h3]
      refine zr ?_; refine zm (v := str _) rfl ?_; refine zg (fun _ => R_ssl_loN (l := 1) st9 rfl rfl (by omega)) ?_; refine za (v := str _) rfl ?_; refine yC ?_; refine zm (v := str _) rfl ?_; refine w_tel (fun w => zR Tryz.func148 rfl rfl rfl) rfl rfl (fun w h => rParse_ok (s.drop 1) w (by first | exact hs | (rw [List.length_drop]; omega))) (fun x4 a4 c4 hK4 hN4 => ?_)
      refine zm rfl ?_; refine jx rfl rfl ?_; refine jx rfl rfl ?_; refine za (v := .slice _ _ _) rfl ?_; refine aI rfl ?_; refine yB ?_; refine zq ?_; refine yA ?_; refine mI rfl ?_; refine jn rfl rfl ?_; refine yB ?_; refine zD rfl (fun h5 => ?_) (fun h5 => ?_)
      · have hbad : ¬ npe (cutm s) = 0 := (by rw [hcu.1]; exact h5)
        refine yA ?_; refine jb bt44 rfl ?_; refine mI rfl ?_; refine jv 0 z44 rfl ?_; refine aI rfl ?_; refine yB ?_; refine ze ?_; refine zt (?_)
        rw [(zp_no hbad).1, (zp_no hbad).2, hcu.1]
        refine r_fin (.inl rfl) rfl (.agg rfl rfl z44 (fun _ h => h.at_ 0 rfl) rfl (.tmp rfl rfl .nil)) ?_; exact fun w' hw => ⟨none, 0, rfl, Nm.nil _, Fsh.nil _ _, hw.fr (w, No) zm1⟩
      have hok : npe (cutm s) = 0 := (by rw [hcu.1]; omega)
      refine zi ?_; refine zk ?_; refine yA ?_; refine mB rfl ?_; refine mS rfl ?_; refine jb bt44 rfl ?_; refine w_tel (fun w => zR Tryz.func79 rfl rfl rfl) rfl rfl (fun w h => iNorm_ok _ w (hK4.at_ 0 rfl h) (Nat.le_trans (npv_sz (by first | exact hs | (rw [List.length_drop]; omega))) (by decide))) (fun x6 a6 c6 hK6 hN6 => ?_)
      refine jv 0 z44 rfl ?_; refine aI rfl ?_; refine yB ?_; refine ze ?_
      rw [(zp_ok hok).1, (zp_ok hok).2, hcu.2, hcu.1]
      refine r_fin (.inl rfl) rfl (.agg rfl rfl z44 (fun _ h => h.at_ 0 rfl) rfl (.tmp rfl rfl .nil)) ?_; exact fun w' hw => ⟨_, _, rfl, (hK6.at_ 0 rfl hw), (hN6 _ zm1), hw.fr (w, No) zm2⟩
    have hcu := cut_not (s := s) (fun c h => by rw [hch] at h; cases h; exact h3); rw [show decide (ch.toNat = 45) = false from decide_eq_false h3]
    refine zi ?_; refine zk ?_; refine yA ?_; refine zm (v := str _) rfl ?_; refine w_tel (fun w => zR Tryz.func148 rfl rfl rfl) rfl rfl (fun w h => rParse_ok s w (by first | exact hs | (rw [List.length_drop]; omega))) (fun x7 a7 c7 hK7 hN7 => ?_)
    refine zm rfl ?_; refine jx rfl rfl ?_; refine jx rfl rfl ?_; refine za (v := .slice _ _ _) rfl ?_; refine aI rfl ?_; refine yB ?_; refine zq ?_; refine yA ?_; refine mI rfl ?_; refine jn rfl rfl ?_; refine yB ?_; refine zD rfl (fun h8 => ?_) (fun h8 => ?_)
    · have hbad : ¬ npe (cutm s) = 0 := (by rw [hcu.1]; exact h8)
      refine yA ?_; refine jb bt44 rfl ?_; refine mI rfl ?_; refine jv 0 z44 rfl ?_; refine aI rfl ?_; refine yB ?_; refine ze ?_; refine zt (?_)
      rw [(zp_no hbad).1, (zp_no hbad).2, hcu.1]
      refine r_fin (.inl rfl) rfl (.agg rfl rfl z44 (fun _ h => h.at_ 0 rfl) rfl (.tmp rfl rfl .nil)) ?_; exact fun w' hw => ⟨none, 0, rfl, Nm.nil _, Fsh.nil _ _, hw.fr (w, No) zm1⟩
    have hok : npe (cutm s) = 0 := (by rw [hcu.1]; omega)
    refine zi ?_; refine zk ?_; refine yA ?_; refine mB rfl ?_; refine mS rfl ?_; refine jb bt44 rfl ?_; refine w_tel (fun w => zR Tryz.func79 rfl rfl rfl) rfl rfl (fun w h => iNorm_ok _ w (hK7.at_ 0 rfl h) (Nat.le_trans (npv_sz (by first | exact hs | (rw [List.length_drop]; omega))) (by decide))) (fun x9 a9 c9 hK9 hN9 => ?_)
    refine jv 0 z44 rfl ?_; refine aI rfl ?_; refine yB ?_; refine ze ?_
    rw [(zp_ok hok).1, (zp_ok hok).2, hcu.2, hcu.1]
    refine r_fin (.inl rfl) rfl (.agg rfl rfl z44 (fun _ h => h.at_ 0 rfl) rfl (.tmp rfl rfl .nil)) ?_; exact fun w' hw => ⟨_, _, rfl, (hK9.at_ 0 rfl hw), (hN9 _ zm1), hw.fr (w, No) zm2⟩
  have hcu := cut_not (s := s) (fun c h => by have := (List.getElem?_eq_some_iff.1 h).1; omega)
  refine zs rfl rfl (bF h2) ?_; refine zs rfl rfl (bF h2) ?_; refine zs rfl rfl (bF h2) ?_; refine jF (bF h2) rfl ?_; refine aB rfl ?_; refine yB ?_; refine zq ?_; refine yA ?_; refine mB rfl ?_; refine yB ?_; refine zG rfl ?_; refine zi ?_; refine zk ?_; refine yA ?_; refine zm (v := str _) rfl ?_; refine w_tel (fun w => zR Tryz.func148 rfl rfl rfl) rfl rfl (fun w h => rParse_ok s w (by first | exact hs | (rw [List.length_drop]; omega))) (fun x10 a10 c10 hK10 hN10 => ?_)
  refine zm rfl ?_; refine jx rfl rfl ?_; refine jx rfl rfl ?_; refine za (v := .slice _ _ _) rfl ?_; refine aI rfl ?_; refine yB ?_; refine zq ?_; refine yA ?_; refine mI rfl ?_; refine jn rfl rfl ?_; refine yB ?_; refine zD rfl (fun h11 => ?_) (fun h11 => ?_)
  · have hbad : ¬ npe (cutm s) = 0 := (by rw [hcu.1]; exact h11)
    refine yA ?_; refine jb bt44 rfl ?_; refine mI rfl ?_; refine jv 0 z44 rfl ?_; refine aI rfl ?_; refine yB ?_; refine ze ?_; refine zt (?_)
    rw [(zp_no hbad).1, (zp_no hbad).2, hcu.1]
    refine r_fin (.inl rfl) rfl (.agg rfl rfl z44 (fun _ h => h.at_ 0 rfl) rfl (.tmp rfl rfl .nil)) ?_; exact fun w' hw => ⟨none, 0, rfl, Nm.nil _, Fsh.nil _ _, hw.fr (w, No) zm1⟩
  have hok : npe (cutm s) = 0 := (by rw [hcu.1]; omega)
  refine zi ?_; refine zk ?_; refine yA ?_; refine mB rfl ?_; refine mS rfl ?_; refine jb bt44 rfl ?_; refine w_tel (fun w => zR Tryz.func79 rfl rfl rfl) rfl rfl (fun w h => iNorm_ok _ w (hK10.at_ 0 rfl h) (Nat.le_trans (npv_sz (by first | exact hs | (rw [List.length_drop]; omega))) (by decide))) (fun x12 a12 c12 hK12 hN12 => ?_)
  refine jv 0 z44 rfl ?_; refine aI rfl ?_; refine yB ?_; refine ze ?_
  rw [(zp_ok hok).1, (zp_ok hok).2, hcu.2, hcu.1]
  refine r_fin (.inl rfl) rfl (.agg rfl rfl z44 (fun _ h => h.at_ 0 rfl) rfl (.tmp rfl rfl .nil)) ?_; exact fun w' hw => ⟨_, _, rfl, (hK12.at_ 0 rfl hw), (hN12 _ zm1), hw.fr (w, No) zm2⟩
end Go.Proofs.YtikdkendinnalaaGreatDoor
end
section
namespace Go.Proofs.YtikdkendinnalaaGreatDoor
open Go.RowKit Go.Sx
open Go.Num Go.Feed
theorem gcd_step (N M : Nat) : Nat.gcd M (N % M) = Nat.gcd N M := by
 rw [Nat.gcd_comm N M, Nat.gcd_rec M N, Nat.gcd_comm]
theorem rGcd_ok {a : Option Addr} {k c n : Nat} {a8 : Option Addr} {k8 c8 m : Nat} (w : World) (hA : Nm w a k c n) (hA8 : Nm w a8 k8 c8 m) (hs : k ≤ 10000 ∧ k8 ≤ 10000) :
  Ret Tryz.prog 77 #[.slice a k c, .slice a8 k8 c8] w (Tel (fun a c => .slice a (sz (Nat.gcd n m)) c) (sz (Nat.gcd n m)) (Nat.gcd n m) w) := by
 have hzn : sz n ≤ k := sz_iff.2 hA.lt
 have hzm : sz m ≤ k8 := sz_iff.2 hA8.lt
 refine enter (S := No) (l := [_, _]) (L := []) 23 Tryz.func77 rfl rfl rfl (St.start w No) ?_; refine yA ?_; refine za (v := .slice _ _ _) rfl ?_; refine yC ?_; refine mS rfl ?_; refine w_tel (fun w => zR Tryz.func80 rfl rfl rfl) rfl rfl (fun w h => rNorm_ok w ((Kn.old hA).at_ 0 rfl h) (by omega)) (fun x0 a0 c0 hK0 hN0 => ?_)
 refine mS rfl ?_; refine w_tel (fun w => zR Tryz.func80 rfl rfl rfl) rfl rfl (fun w h => rNorm_ok w ((Kn.old hA8).at_ 1 rfl h) (by omega)) (fun x1 a1 c1 hK1 hN1 => ?_)
 refine za (v := .slice _ _ _) rfl ?_; refine za (v := .slice _ _ _) rfl ?_; refine yB ?_; refine zq ?_; refine zB ?_; refine c_st (B' := _) (L' := []) (fun w h => h) ?_; refine c_loop (fun m9 e B L => ∃ (N M : Nat) (xN xM : BaseW) (aN : Option Addr) (cN : Nat) (aM : Option Addr) (cM : Nat), e 0 = .slice aN (sz N) cN ∧ e 1 = .slice aM (sz M) cM ∧ B = [xM, xN, (w, No)] ∧ L = [] ∧ Kn xN aN (sz N) cN N ∧ Kn xM aM (sz M) cM M ∧ New_ [(w, No)] aN (sz N) ∧ New_ [(w, No)] aM (sz M) ∧ Nat.gcd N M = Nat.gcd n m ∧ sz N ≤ 10000 ∧ sz M ≤ 10000 ∧ m9 = M + 1) _ ⟨n, m, x0, x1, a0, c0, a1, c1, rfl, rfl, rfl, rfl, hK0, hK1, hN0, fun y hy => hN1 y (.tail _ hy), rfl, by omega, by omega, rfl⟩ ?_
 rintro m9 e B L ⟨N, M, xN, xM, aN, cN, aM, cM, e0_1, e1_1, rfl, rfl, hKN, hKM, hNN, hNM, hG, hsN, hsM, rfl⟩
 refine zq ?_; refine yA ?_; refine mS e1_1 ?_; refine jj sl42 rfl ?_; refine zg (fun _ => R_gtN (a := (sz M)) (b := 0) rfl rfl) ?_; refine yB ?_; refine zD rfl (fun h3 => ?_) (fun h3 => ?_)
 ·have hM0 : M ≠ 0 := (fun h => by rw [h] at h3; exact absurd h3 (by decide))
  refine zi ?_; refine zk ?_; refine zB ?_; refine yA ?_; refine mS e0_1 ?_; refine mS e1_1 ?_; refine w_tel2 (fun w => zR Tryz.func78 rfl rfl rfl) rfl rfl (fun w h => rDiv_ok w (hKN.at_ 1 rfl h) (hKM.at_ 0 rfl h) ⟨by omega, by omega, hM0⟩) (fun x4 a4 c4 a4' c4' hK4 hN4 hK4' hN4' => ?_)
  refine zm rfl ?_; refine jx rfl rfl ?_; refine jx rfl rfl ?_; refine za (v := .slice _ _ _) rfl ?_; refine za (v := .slice _ _ _) rfl ?_; refine yC ?_; refine mS e1_1 ?_; refine za (v := .slice _ _ _) rfl ?_; refine yB ?_; refine zr ?_; refine mS rfl ?_; refine za (v := .slice _ _ _) rfl ?_; refine zn ?_; refine zO (?_)
  refine zK (B' := [x4, xM, (w, No)]) (L' := []) (fun w h => (h.drop (List.nil_sublist _)).unbase (fun x hx => by rcases List.mem_cons.1 hx with rfl | hx; (exact zm0); rcases List.mem_cons.1 hx with rfl | hx; (exact zm1); rcases List.mem_cons.1 hx with rfl | hx; (exact zm3); exact absurd hx (by simp))) ?_; exact k_again _ (by have := Nat.mod_lt N (Nat.pos_of_ne_zero hM0); omega) ⟨M, (N % M), xM, x4, aM, cM, a4', c4', rfl, rfl, rfl, rfl, hKM, hK4', hNM, fun y hy => hN4' y (.tail _ (.tail _ hy)), (by rw [gcd_step]; exact hG), hsM, Nat.le_trans (sz_mono (Nat.le_of_lt (Nat.mod_lt _ (Nat.pos_of_ne_zero hM0)))) hsM, rfl⟩
 ·obtain rfl : M = 0 := sz_eq_zero.1 (by omega); rw [Nat.gcd_zero_right] at hG; subst hG
  refine zX ?_; refine zx (zx (b_here rfl (zk ?_))); refine yA ?_; refine mS e0_1 ?_; refine za (v := .slice _ _ _) rfl ?_; refine yB ?_; refine ze ?_; refine zo (v := .slice _ _ _) rfl rfl rfl ?_; exact fun w' hw => ⟨aN, cN, rfl, hKN.at_ 1 rfl hw, hNN _ zm0, hw.fr (w, No) zm2⟩
theorem jWhole_ok (a : Option Addr) (k c : Nat) (w : World) :
  Ret Tryz.prog 45 #[.slice a k c] w (fun v w' => v = .agg #[.bool false, .slice a k c] ∧ Ext w w') := by
 refine enter (S := No) (l := [_]) (L := []) 5 Tryz.func45 rfl rfl rfl (St.start w No) ?_; refine yA ?_; refine zA zr44 (fun r gr ur => ?_)
 refine yC ?_; refine mS rfl ?_; refine jb bt44 rfl ?_; refine jv 0 z44 rfl ?_; refine yB ?_; refine ze ?_; refine r_fin (.inl rfl) rfl (.agg rfl rfl z44 (fun _ h => h.at_ 0 rfl) rfl .nil) ?_; exact fun w' hw => ⟨rfl, hw.fr (w, No) zm0⟩
theorem jMake_ok (s : Bool) {a : Option Addr} {k c n : Nat} {a8 : Option Addr} {k8 c8 m : Nat} (w : World) (hA : Nm w a k c n) (hA8 : Nm w a8 k8 c8 m) (hs : k ≤ 10000 ∧ k8 ≤ 10000 ∧ m ≠ 0) :
  Ret Tryz.prog 43 #[.agg #[.bool s, .slice a k c], .agg #[.bool false, .slice a8 k8 c8]] w (Tel2 (fun a c a2 c2 => .agg #[.bool (ng (mkR s n m).1), .slice a (sz (mkR s n m).1.natAbs) c, .slice a2 (sz (mkR s n m).2) c2]) (sz (mkR s n m).1.natAbs) (mkR s n m).1.natAbs (sz (mkR s n m).2) (mkR s n m).2 w) := by
 have hg0 : (Nat.gcd n m) ≠ 0 := fun h => hs.2.2 (Nat.eq_zero_of_gcd_eq_zero_right h)
 have hzn : sz n ≤ k := sz_iff.2 hA.lt
 have hzm : sz m ≤ k8 := sz_iff.2 hA8.lt
 have hgm : sz (Nat.gcd n m) ≤ sz m := sz_mono (Nat.le_of_dvd (Nat.pos_of_ne_zero hs.2.2) (Nat.gcd_dvd_right n m))
 have hd1 : sz (n / (Nat.gcd n m)) ≤ sz n := sz_mono (Nat.div_le_self _ _)
 have hd2 : sz (m / (Nat.gcd n m)) ≤ sz m := sz_mono (Nat.div_le_self _ _)
 refine enter (S := No) (l := [_, _]) (L := []) 40 Tryz.func43 rfl rfl rfl (St.start w No) ?_; refine yA ?_; refine w_boxA rfl (fun p gp up => ?_)
 refine w_boxA rfl (fun p2 gp2 up2 => ?_)
 refine zA zr46 (fun r gr ur => ?_)
 refine yC ?_; refine zf fa44_1 rfl ?_; refine jM 2 z42 rfl ?_; refine zf fa44_1 rfl ?_; refine jM 1 z42 rfl ?_; refine w_tel (fun w => zR Tryz.func77 rfl rfl rfl) rfl rfl (fun w h => rGcd_ok w ((Kn.old hA).at_ 0 rfl h) ((Kn.old hA8).at_ 0 rfl h) ⟨by omega, by omega⟩) (fun x4 a4 c4 hK4 hN4 => ?_)
 refine za (v := .slice _ _ _) rfl ?_; refine yC ?_; refine zf fa44_1 rfl ?_; refine jM 2 z42 rfl ?_; refine mS rfl ?_; refine w_tel2 (fun w => zR Tryz.func78 rfl rfl rfl) rfl rfl (fun w h => rDiv_ok w ((Kn.old hA).at_ 1 rfl h) (hK4.at_ 0 rfl h) ⟨by omega, by omega, hg0⟩) (fun x5 a5 c5 a5' c5' hK5 hN5 hK5' hN5' => ?_)
 refine zm rfl ?_; refine jx rfl rfl ?_; refine jx rfl rfl ?_; refine za (v := .slice _ _ _) rfl ?_; refine za (v := .slice _ _ _) rfl ?_; refine yC ?_; refine zf fa44_1 rfl ?_; refine jM 1 z42 rfl ?_; refine mS rfl ?_; refine w_tel2 (fun w => zR Tryz.func78 rfl rfl rfl) rfl rfl (fun w h => rDiv_ok w ((Kn.old hA8).at_ 2 rfl h) (hK4.at_ 1 rfl h) ⟨by omega, by omega, hg0⟩) (fun x6 a6 c6 a6' c6' hK6 hN6 hK6' hN6' => ?_)
 refine zm rfl ?_; refine jx rfl rfl ?_; refine jx rfl rfl ?_; refine za (v := .slice _ _ _) rfl ?_; refine za (v := .slice _ _ _) rfl ?_; refine yC ?_; refine zf fa44_0 rfl ?_; refine jM 2 z4 rfl ?_; refine zf fa44_0 rfl ?_; refine jM 1 z4 rfl ?_; refine zg (fun _ => R_bne unb4 rfl rfl) ?_
 rw [show (!(s == false)) = s by cases s <;> rfl]
 refine mS rfl ?_; refine jb bt44 rfl ?_; refine w_tel (fun w => zR Tryz.func79 rfl rfl rfl) rfl rfl (fun w h => iNorm_ok s w (hK5.at_ 1 rfl h) (by omega)) (fun x7 a7 c7 hK7 hN7 => ?_)
 refine mS rfl ?_; refine w_tel (fun w => zR Tryz.func80 rfl rfl rfl) rfl rfl (fun w h => rNorm_ok w (hK6.at_ 1 rfl h) (by omega)) (fun x8 a8 c8 hK8 hN8 => ?_)
 refine jb bt46 rfl ?_; refine jv 0 z46 rfl ?_; refine yB ?_; refine ze ?_; refine r_fin (.inl rfl) rfl (.agg rfl rfl z46 (fun _ h => h.at_ 0 rfl) rfl .nil) ?_; exact fun w' hw => ⟨_, _, _, _, rfl, (hK7.at_ 1 rfl hw), (hK8.at_ 0 rfl hw), (hN7 _ zm3), (hN8 _ zm4), hw.fr (w, No) (.tail _ zm4)⟩
theorem mkR_iv (s : Bool) (n m : Nat) : mkR (ng (-iv s n)) (-iv s n).natAbs m = mkR (!s) n m := by
 rw [← iv_not, ng_iv, iv_abs]
 unfold mkR
 by_cases h : n = 0
 ·subst h; simp [iv_zero]
 ·rw [decide_eq_true h, Bool.and_true]
theorem jNeg6_ok (s : Bool) {a : Option Addr} {k c n : Nat} {a8 : Option Addr} {k8 c8 m : Nat} (w : World) (hA : Nm w a k c n) (hA8 : Nm w a8 k8 c8 m) (hs : k ≤ 10000 ∧ k8 ≤ 10000 ∧ m ≠ 0) :
  Ret Tryz.prog 16 #[.agg #[.bool s, .slice a k c, .slice a8 k8 c8]] w (Tel2 (fun a c a2 c2 => .agg #[.bool (ng (mkR (!s) n m).1), .slice a (sz (mkR (!s) n m).1.natAbs) c, .slice a2 (sz (mkR (!s) n m).2) c2]) (sz (mkR (!s) n m).1.natAbs) (mkR (!s) n m).1.natAbs (sz (mkR (!s) n m).2) (mkR (!s) n m).2 w) := by
 rw [← mkR_iv]
 have hzn : sz n ≤ k := sz_iff.2 hA.lt
 have hab : (-iv s n).natAbs = n := by rw [Int.natAbs_neg, iv_abs]
 refine enter (S := No) (l := [_]) (L := []) 10 Tryz.func16 rfl rfl rfl (St.start w No) ?_; refine yA ?_; refine w_boxA rfl (fun p gp up => ?_)
 refine zA zr46 (fun r gr ur => ?_)
 refine yB ?_; refine zq ?_; refine c_heldI [1] mixed ?_; refine zh2 0 rfl rfl (pk [1]) (fun w h => R_fa fa46_0 rfl) ?_; refine h_loadA 1 rfl (by kernel_rfl) (pk [1]) z44 rfl (fun _ h => h.at_ 0 rfl) rfl ?_; refine zh2 3 rfl rfl (pk [1]) (fun w h => R_fa fa46_1 rfl) ?_; refine zh (v := .slice _ _ _) 4 rfl (by kernel_rfl) rfl rfl (pk [1]) (fun w h => R_ld1 z42 rfl (zc 0 rfl rfl h)) ?_; refine zH2 2 (pk [1]) ?_; refine o_tel rfl (wn_none rfl) rfl (fun w => zR Tryz.func44 rfl rfl rfl) (fun w h => iNeg_ok s w ((Kn.old hA).at_ 0 rfl h) (by omega)) (fun x3 a3 c3 hK3 hN3 => ?_)
 refine zH2 5 (fun w h => (h.unbase (fun x hx => .tail _ (hx))).pick [1] (by decide)) ?_; refine o_pureW rfl (wn_none rfl) rfl (fun w => zR Tryz.func45 rfl rfl rfl) (fun w h => jWhole_ok _ _ _ w) ?_; refine zH2 6 (fun w h => (h.unbase (fun x hx => .tail _ (hx))).pick [1] (by decide)) ?_; refine o_tel2 rfl (wn_none rfl) rfl (fun w => zR Tryz.func43 rfl rfl rfl) (fun w h => jMake_ok _ w (hK3.at_ 0 rfl h) ((Kn.old hA8).at_ 1 rfl h) ⟨by rw [hab]; omega, by omega, hs.2.2⟩) (fun x4 a4 c4 a4' c4' hK4 hN4 hK4' hN4' => ?_)
 refine zH2 7 (fun w h => (h.unbase (fun x hx => .tail _ (.tail _ (hx)))).pick [1] (by decide)) ?_; refine zJ 0 rfl rfl z46 rfl rfl rfl rfl rfl rfl rfl ?_; refine zN2 (fun w h => (h.unbase (fun x hx => .tail _ (.tail _ (hx)))).pick [1] (by decide)) ?_; refine zk ?_; refine ze ?_; refine r_fin (.inl rfl) rfl (.agg rfl rfl z46 (fun _ h => h.at_ 0 rfl) rfl .nil) ?_; exact fun w' hw => ⟨_, _, _, _, rfl, (hK4.at_ 0 rfl hw), (hK4'.at_ 0 rfl hw), (hN4 _ zm1), (hN4' _ zm1), hw.fr (w, No) zm2⟩
end Go.Proofs.YtikdkendinnalaaGreatDoor
end
