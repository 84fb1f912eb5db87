/- Layer 14, FeedWrites: that Write and Find tell what the document says, and that what is written is read as the same data again. Part 5 of 14. -/
import Derived.Test.YtikdkendinnalaaGreatDoorW04
import Derived.Lib.Bytealg
import Derived.Lib.ItoaNum
import Derived.Lib.AtoiAll
set_option maxRecDepth 100000
set_option maxHeartbeats 16000000
section
namespace Go.Proofs.YtikdkendinnalaaGreatDoor
open Go.RowKit Go.Sx
open Go.Num
theorem times_ok {a : Option Addr} {k c n g : Nat} (w : World) (hA : Nm w a k c n) (hg : g < Go.Num.B) (hk : k ≤ 3000000) :
  Ret Tryz.prog 180 #[.slice a k c, .int .u64 (g : Nat)] w (Tel (fun a c => .slice a (sz (n * g)) c) (sz (n * g)) (n * g) w) := by
 have hfl : n * g < Go.Num.B ^ (k + 1) := by
  rw [Nat.pow_succ]
  rcases Nat.eq_zero_or_pos g with h0 | h0
  ·subst h0; rw [Nat.mul_zero]; exact Nat.mul_pos (Bpow_pos k) B_pos
  ·exact Nat.lt_of_lt_of_le (Nat.mul_lt_mul_of_pos_right hA.lt h0) (Nat.mul_le_mul_left _ (Nat.le_of_lt hg))
 refine enter (S := No) (l := [_, _]) (L := []) 50 Tryz.func180 rfl rfl rfl (St.start w No) ?_; refine yA ?_; refine za (v := .slice _ _ _) rfl ?_; refine yC ?_; refine mS rfl ?_; refine jj sl42 rfl ?_; refine zg (fun _ => R_addN (n := k) (b := 1) rfl rfl (by omega)) ?_; refine w_makeU (n := (k + 1)) slt42 rfl rfl (by omega) (by omega) (fun ob gob uob => ?_)
 refine za (v := .slice _ _ _) rfl ?_; refine yC ?_; refine aI rfl ?_; refine yB ?_; refine zq ?_; refine yA ?_; refine mS rfl ?_; refine jj sl42 rfl ?_; refine mI rfl ?_; refine yB ?_; refine zB ?_; refine c_st (B' := _) (L' := [(ob, cel (lmV (n % Go.Num.B ^ 0 * g % Go.Num.B ^ 0) (k + 1)) 75)]) (fun w h => by rw [Nat.pow_zero, Nat.mod_one]; exact h) ?_
 refine c_loop (fun m9 e B L => ∃ (i : Nat), e 0 = .slice a k c ∧ e 1 = .int .u64 (g : Nat) ∧ e 5 = .slice (some ⟨ob, 0, none⟩) (k + 1) (k + 1) ∧ e 6 = .int .u64 ((n % Go.Num.B ^ i * g / Go.Num.B ^ i) : Nat) ∧ e 16 = .slice a k c ∧ e 17 = .int .i64 (k : Nat) ∧ e 18 = .int .i64 (i : Nat) ∧ B = [(w, No)] ∧ L = [(ob, cel (lmV (n % Go.Num.B ^ i * g % Go.Num.B ^ i) (k + 1)) 75)] ∧ i ≤ k ∧ m9 = k + 1 - i) _ ⟨0, rfl, rfl, rfl, by rw [Nat.pow_zero, Nat.mod_one, Nat.zero_mul]; rfl, rfl, rfl, rfl, rfl, rfl, Nat.zero_le _, rfl⟩ ?_
 rintro m9 e B L ⟨i, e0_1, e1_1, e5_1, e6_1, e16_1, e17_1, e18_1, rfl, rfl, hi, rfl⟩
 refine yA ?_; refine zg (fun _ => R_ltN (a := i) (b := k) e18_1 e17_1) ?_; refine yB ?_; refine zq ?_; refine zD rfl (fun h1 => ?_) (fun h1 => ?_)
 ·have hts := times_step B_pos n g i; simp only at hts; have hls := limb_sum2 (dg_lt B_pos n i) hg (times_carry B_pos (a := n) hg i)
  refine zi ?_; refine zk ?_; refine zq ?_; refine zB ?_; refine yA ?_; refine mI e18_1 ?_; refine zg (fun _ => R_iaK (i := i) sl42 e16_1 ((Kn.old hA).ptr (by omega)) e18_1 (by omega)) ?_; refine zl (v := .int .u64 ((dg Go.Num.B n i) : Nat)) z75 rfl (fun w h => (Kn.old hA).ca 0 rfl (by omega) h) ?_; refine aI rfl ?_; refine aI rfl ?_; refine yC ?_; refine mI rfl ?_; refine mI e1_1 ?_; refine jD Tryz.func157 (fun w h => Mul64_ok (dg Go.Num.B n i) g w (dg_lt B_pos _ _) hg) ?_; refine zm rfl ?_; refine jx rfl rfl ?_; refine jx rfl rfl ?_; refine aI rfl ?_
  refine aI rfl ?_; refine yC ?_; refine mI rfl ?_; refine mI e6_1 ?_; refine zg (fun _ => R_callX rfl (add64 ((dg Go.Num.B n i) * g % Go.Num.B) ((n % Go.Num.B ^ i * g / Go.Num.B ^ i)) 0 (by omega) _)) ?_; refine zm rfl ?_; refine jx rfl rfl ?_; refine jx rfl rfl ?_; refine aI rfl ?_; refine aI rfl ?_; refine yB ?_; refine zr ?_; refine mS e5_1 ?_; refine mI rfl ?_; refine mI rfl ?_
  refine mI rfl ?_; refine mI rfl ?_; refine zg (fun _ => R_addU (a := ((dg Go.Num.B n i) * g / Go.Num.B)) (b := ((((dg Go.Num.B n i) * g % Go.Num.B) + ((n % Go.Num.B ^ i * g / Go.Num.B ^ i)) + 0) / Go.Num.B)) rfl rfl (by rw [hls.2.1]; exact hls.2.2)) ?_; refine zg (fun _ => R_iaN (i := i) sl42 rfl rfl (by omega)) ?_; refine w_putU (dv := ((((dg Go.Num.B n i) * g % Go.Num.B) + ((n % Go.Num.B ^ i * g / Go.Num.B ^ i)) + 0) % Go.Num.B)) (z' := (n % Go.Num.B ^ (i + 1) * g % Go.Num.B ^ (i + 1))) (j := i) 0 rfl z75 rfl rfl (by exact Nat.mod_lt _ B_pos) (by omega) (by rw [setd_zero (dg_out (Nat.mod_lt _ (Bpow_pos i))), hls.1, ← hts.1]) ?_; refine aI rfl ?_; refine zn ?_; refine zO (zk ?_); refine zr ?_; refine zg (fun _ => R_addN (n := i) (b := 1) e18_1 rfl (by omega)) ?_
  refine mI rfl ?_; refine zn ?_; exact k_again _ (by omega) ⟨i + 1, e0_1, e1_1, e5_1, by rw [hts.2, ← hls.2.1]; rfl, e16_1, e17_1, rfl, rfl, rfl, by omega, rfl⟩
 ·have hik : i = k := (by omega)
  refine zX ?_; refine zx (zx (b_here rfl (zk ?_))); refine yA ?_; refine mS e5_1 ?_; refine mS e0_1 ?_; refine jj sl42 rfl ?_; refine mI e6_1 ?_; refine zg (fun _ => R_iaN (i := k) sl42 rfl rfl (by omega)) ?_; refine w_putU (dv := ((n % Go.Num.B ^ i * g / Go.Num.B ^ i))) (z' := (n * g)) (j := k) 0 rfl z75 rfl rfl (by exact times_carry B_pos hg _) (by omega) (by obtain rfl : i = k := (by omega); rw [setd_zero (dg_out (Nat.mod_lt _ (Bpow_pos i))), Nat.mod_eq_of_lt hA.lt, Nat.mod_add_div]) ?_; refine yC ?_; refine mS e5_1 ?_
  refine w_tel (fun w => zR Tryz.func92 rfl rfl rfl) rfl rfl (fun w h => normal_ok w (Nm.own 0 rfl hfl (Nat.le_refl _) h) (by omega)) (fun x2 a2 c2 hK2 hN2 => ?_)
  refine za (v := .slice _ _ _) rfl ?_; refine yB ?_; refine ze ?_; refine zo (v := .slice _ _ _) rfl rfl rfl ?_; exact fun w' hw => ⟨_, _, rfl, (hK2.at_ 0 rfl hw), (hN2 _ zm0), hw.fr (w, No) zm1⟩
theorem guess_ok {a : Option Addr} {q c u v i k : Nat} (w : World) (hU : Nm w a q c u) (hs : q ≤ 4000000 ∧ i < q ∧ 1 < k ∧ k ≤ i) (hv : v < Go.Num.B ^ k) (ht : 0 < dg Go.Num.B v (k - 1)) (hu : u < Go.Num.B ^ (i + 1)) (hQ : u / Go.Num.B ^ (i - k) / v < Go.Num.B) :
  Ret Tryz.prog 179 #[.slice a q c, .int .u64 (dg Go.Num.B v (k - 1) : Nat), .int .u64 (dg Go.Num.B v (k - 2) : Nat), .int .i64 (i : Nat)] w (fun v' w' => (∃ g, v' = .int .u64 (g : Nat) ∧ u / Go.Num.B ^ (i - k) / v ≤ g ∧ g < Go.Num.B) ∧ Ext w w') := by
 have hB1 := dg_lt B_pos v (k - 1)
 refine enter (S := No) (l := [_, _, _, _]) (L := []) 71 Tryz.func179 rfl rfl rfl (St.start w No) ?_; refine yA ?_; refine aI rfl ?_; refine yB ?_; refine zq ?_; refine yA ?_; refine mS rfl ?_; refine mI rfl ?_; refine zg (fun _ => R_iaK (i := i) sl42 rfl ((Kn.old hU).ptr (by omega)) rfl (by omega)) ?_; refine zl (v := .int .u64 ((dg Go.Num.B u i) : Nat)) z75 rfl (fun w h => (Kn.old hU).ca 0 rfl (by omega) h) ?_; refine mI rfl ?_; refine zg (fun _ => R_geN (a := (dg Go.Num.B u i)) (b := (dg Go.Num.B v (k - 1))) rfl rfl) ?_; refine yB ?_; refine zD rfl (fun h1 => ?_) (fun h1 => ?_)
 ·refine yA ?_; refine aI rfl ?_; refine yB ?_; refine ze ?_; refine zt (?_)
  refine zo (v := .int _ _) rfl rfl rfl ?_; exact fun w' hw => ⟨⟨18446744073709551615, rfl, by have hBv : Go.Num.B = 18446744073709551616 := rfl; omega, by decide⟩, hw.f0⟩
 ·refine zi ?_; refine zk ?_; refine zq ?_; refine c_heldS mixed ?_; refine zh (v := .slice _ _ _) 0 rfl (by kernel_rfl) rfl rfl (fun w h => h) (fun w h => R_move rfl) ?_; refine zh (v := .int _ _) 1 rfl (by kernel_rfl) rfl rfl (fun w h => h) (fun w h => R_move rfl) ?_; refine zh2 2 rfl rfl (fun w h => h) (fun w h => R_iaK (i := i) sl42 rfl ((Kn.old hU).ptr (by omega)) rfl (by omega)) ?_; refine zh (v := .int .u64 ((dg Go.Num.B u i) : Nat)) 3 rfl (by kernel_rfl) rfl rfl (fun w h => h) (fun w h => R_ld1 z75 rfl ((Kn.old hU).ca 0 rfl (by omega) h)) ?_; refine zh (v := .slice _ _ _) 4 rfl (by kernel_rfl) rfl rfl (fun w h => h) (fun w h => R_move rfl) ?_; refine zh (v := .int _ _) 5 rfl (by kernel_rfl) rfl rfl (fun w h => h) (fun w h => R_move rfl) ?_
  refine zh2 6 rfl rfl (fun w h => h) (fun w h => R_subN (n := i) (b := 1) rfl rfl (by omega) (by omega)) ?_; refine zh2 7 rfl rfl (fun w h => h) (fun w h => R_iaK (i := (i - 1)) sl42 rfl ((Kn.old hU).ptr (by omega)) rfl (by omega)) ?_; refine zh (v := .int .u64 ((dg Go.Num.B u (i - 1)) : Nat)) 8 rfl (by kernel_rfl) rfl rfl (fun w h => h) (fun w h => R_ld1 z75 rfl ((Kn.old hU).ca 0 rfl (by omega) h)) ?_; refine zh (v := .int _ _) 9 rfl (by kernel_rfl) rfl rfl (fun w h => h) (fun w h => R_move rfl) ?_; refine zH2 10 (fun w h => h) ?_; refine o_pureW rfl (wn_none rfl) rfl (fun w => zR Tryz.func136 rfl rfl rfl) (fun w h => Div64_ok w (by omega) (dg_lt B_pos _ _) (dg_lt B_pos _ _)) ?_; refine zh2 11 rfl rfl (fun w h => h) (fun w h => R_move rfl) ?_
  refine zh2 12 rfl rfl (fun w h => h) (fun w h => R_extract rfl rfl) ?_; refine zh2 13 rfl rfl (fun w h => h) (fun w h => R_extract rfl rfl) ?_; refine zh (v := .int _ _) 14 rfl (by kernel_rfl) rfl rfl (fun w h => h) (fun w h => R_assign rfl) ?_; refine zh (v := .int _ _) 15 rfl (by kernel_rfl) rfl rfl (fun w h => h) (fun w h => R_assign rfl) ?_; refine zN2 (fun w h => h) ?_; refine zk ?_; refine zB ?_
  have hqq : (dg Go.Num.B u i * Go.Num.B + dg Go.Num.B u (i - 1)) / dg Go.Num.B v (k - 1) < Go.Num.B := half_lt (h := Go.Num.B) (by omega) (dg_lt B_pos _ _)
  refine c_loop (fun m9 e B L => ∃ (p r : Nat), e 0 = .slice a q c ∧ e 1 = .int .u64 (dg Go.Num.B v (k - 1) : Nat) ∧ e 2 = .int .u64 (dg Go.Num.B v (k - 2) : Nat) ∧ e 3 = .int .i64 (i : Nat) ∧ e 9 = .int .u64 (p : Nat) ∧ e 10 = .int .u64 (r : Nat) ∧ B = [(w, No)] ∧ L = [] ∧ u / Go.Num.B ^ (i - k) / v ≤ p ∧ p < Go.Num.B ∧ p * dg Go.Num.B v (k - 1) + r = dg Go.Num.B u i * Go.Num.B + dg Go.Num.B u (i - 1) ∧ r < Go.Num.B ∧ m9 = p + 1) _ ⟨_, _, rfl, rfl, rfl, rfl, rfl, rfl, rfl, rfl, guess_first B_pos (by omega) hs.2.2.2 hv ht hu, hqq, by rw [Nat.mul_comm]; exact Nat.div_add_mod _ _, Nat.lt_trans (Nat.mod_lt _ ht) hB1, rfl⟩ ?_
  rintro m9 e B L ⟨p, r, e0_1, e1_1, e2_1, e3_1, e9_1, e10_1, rfl, rfl, hq, hqB, he, hr, rfl⟩
  refine zB ?_; refine yA ?_; refine mI e9_1 ?_; refine mI e2_1 ?_; refine jD Tryz.func157 (fun w h => Mul64_ok p (dg Go.Num.B v (k - 2)) w hqB (dg_lt B_pos _ _)) ?_; refine zm rfl ?_; refine jx rfl rfl ?_; refine jx rfl rfl ?_; refine aI rfl ?_; refine aI rfl ?_; refine yB ?_; refine zq ?_; refine yA ?_; refine mI rfl ?_; refine mI e10_1 ?_; refine zg (fun _ => R_ltN (a := (p * (dg Go.Num.B v (k - 2)) / Go.Num.B)) (b := r) rfl rfl) ?_; refine mB rfl ?_; refine zd (t := 44) rfl (fun h2 => ?_) (fun h2 => ?_)
  ·refine zs rfl rfl (bT h2) ?_; refine zs rfl rfl (bT h2) ?_; refine zs rfl rfl (bT h2) ?_; refine zs rfl rfl (bT h2) ?_; refine zU rfl rfl rfl ?_; refine zU rfl rfl rfl ?_; refine zU rfl rfl rfl ?_; refine zU rfl rfl rfl ?_; refine zU rfl rfl rfl ?_; refine zU rfl rfl rfl ?_; refine zU rfl rfl rfl ?_; refine zs rfl rfl (bT h2) ?_; refine jT (bT h2) rfl ?_; refine yB ?_; refine zE rfl ?_; refine yA ?_; refine mI e9_1 ?_; refine aI rfl ?_; refine yB ?_; refine ze ?_; refine zt (zb (zt (zb (?_))))
   refine zo (v := .int _ _) rfl rfl rfl ?_; exact fun w' hw => ⟨⟨_, rfl, hq, hqB⟩, hw.f0⟩
  ·refine zw rfl rfl (bF h2) ?_; refine mI rfl ?_; refine zw rfl rfl (bF h2) ?_; refine mI e10_1 ?_; refine zw rfl rfl (bF h2) ?_; refine zg (fun _ => R_eqN (a := (p * (dg Go.Num.B v (k - 2)) / Go.Num.B)) (b := r) rfl rfl) ?_; refine zw rfl rfl (bF h2) ?_; refine mB rfl ?_; refine zd (t := 48) rfl (fun h3 => ?_) (fun h3 => ?_)
   ·refine zw rfl rfl (bT h3) ?_; refine mI rfl ?_; refine zw rfl rfl (bT h3) ?_; refine mS e0_1 ?_; refine zw rfl rfl (bT h3) ?_; refine mI e3_1 ?_; refine zw rfl rfl (bT h3) ?_; refine zg (fun _ => R_subN (n := i) (b := 2) rfl rfl (by omega) (by omega)) ?_; refine zw rfl rfl (bT h3) ?_; refine zg (fun _ => R_iaK (i := (i - 2)) sl42 rfl ((Kn.old hU).ptr (by omega)) rfl (by omega)) ?_; refine zw rfl rfl (bT h3) ?_; refine zl (v := .int .u64 ((dg Go.Num.B u (i - 2)) : Nat)) z75 rfl (fun w h => (Kn.old hU).ca 0 rfl (by omega) h) ?_; refine zw rfl rfl (bT h3) ?_; refine zg (fun _ => R_leN (a := (p * (dg Go.Num.B v (k - 2)) % Go.Num.B)) (b := (dg Go.Num.B u (i - 2))) rfl rfl) ?_
    refine zw rfl rfl (bF h2) ?_; refine jT (bT h3) rfl ?_; refine jF (bF h2) rfl ?_; refine yB ?_; refine zD rfl (fun h4 => ?_) (fun h4 => ?_)
    ·refine yA ?_; refine mI e9_1 ?_; refine aI rfl ?_; refine yB ?_; refine ze ?_; refine zt (zb (zt (zb (?_))))
     refine zo (v := .int _ _) rfl rfl rfl ?_; exact fun w' hw => ⟨⟨_, rfl, hq, hqB⟩, hw.f0⟩
    ·refine zi ?_; refine zk ?_; refine yA ?_; refine mI e9_1 ?_; refine zg (fun _ => R_subU (a := p) (b := 1) rfl rfl (by exact (guess_next B_pos hs.2.2.1 hs.2.2.2 hv hu hq he (by have := (two_limbs B_pos (dg_lt B_pos u (i - 2)) (q := p) (n := dg Go.Num.B v (k - 2)) (r := r)); omega)).2.1) (by exact hqB)) ?_; refine aI rfl ?_; refine yC ?_; refine mI e10_1 ?_; refine mI e1_1 ?_; refine zg (fun _ => R_callX rfl (add64 r (dg Go.Num.B v (k - 1)) 0 (by omega) _)) ?_; refine zm rfl ?_; refine jx rfl rfl ?_
     refine jx rfl rfl ?_; refine aI rfl ?_; refine aI rfl ?_; refine yB ?_; refine zq ?_; refine yA ?_; refine mI rfl ?_; refine zg (fun _ => R_neN (a := ((r + (dg Go.Num.B v (k - 1)) + 0) / Go.Num.B)) (b := 0) rfl rfl) ?_; refine yB ?_; refine zD rfl (fun h5 => ?_) (fun h5 => ?_)
     ·have hst := guess_next B_pos hs.2.2.1 hs.2.2.2 hv hu hq he (by have := (two_limbs B_pos (dg_lt B_pos u (i - 2)) (q := p) (n := dg Go.Num.B v (k - 2)) (r := r)); omega)
      refine yA ?_; refine mI rfl ?_; refine aI rfl ?_; refine yB ?_; refine ze ?_; refine zt (zb (zt (zb (?_))))
      refine zo (v := .int _ _) rfl rfl rfl ?_; exact fun w' hw => ⟨⟨_, rfl, hst.1, by omega⟩, hw.f0⟩
     ·have hst := guess_next B_pos hs.2.2.1 hs.2.2.2 hv hu hq he (by have := (two_limbs B_pos (dg_lt B_pos u (i - 2)) (q := p) (n := dg Go.Num.B v (k - 2)) (r := r)); omega); rw [Nat.add_zero] at h5; have hsm : r + dg Go.Num.B v (k - 1) < Go.Num.B := (by rcases Nat.lt_or_ge (r + dg Go.Num.B v (k - 1)) Go.Num.B with h | h; (exact h); (have := Nat.div_pos h B_pos; omega))
      refine zi ?_; refine zk ?_; refine zr ?_; refine mI rfl ?_; refine aI rfl ?_; refine zn ?_; refine zO (?_)
      exact k_again _ (by omega) ⟨(p - 1), (r + dg Go.Num.B v (k - 1)), e0_1, e1_1, e2_1, e3_1, rfl, congrArg (fun z : Nat => Value.int .u64 (z : Int)) (Nat.mod_eq_of_lt hsm), rfl, rfl, hst.1, by omega, hst.2.2, hsm, rfl⟩
   ·refine zs rfl rfl (bF h3) ?_; refine zs rfl rfl (bF h3) ?_; refine zs rfl rfl (bF h3) ?_; refine zs rfl rfl (bF h3) ?_; refine zs rfl rfl (bF h3) ?_; refine zs rfl rfl (bF h3) ?_; refine zs rfl rfl (bF h3) ?_; refine zw rfl rfl (bF h2) ?_; refine jF (bF h3) rfl ?_; refine jF (bF h2) rfl ?_; refine yB ?_; refine zG rfl ?_; refine zi ?_; refine zk ?_; refine yA ?_; refine mI e9_1 ?_; refine zg (fun _ => R_subU (a := p) (b := 1) rfl rfl (by exact (guess_next B_pos hs.2.2.1 hs.2.2.2 hv hu hq he (by have := (two_limbs B_pos (dg_lt B_pos u (i - 2)) (q := p) (n := dg Go.Num.B v (k - 2)) (r := r)); omega)).2.1) (by exact hqB)) ?_
    refine aI rfl ?_; refine yC ?_; refine mI e10_1 ?_; refine mI e1_1 ?_; refine zg (fun _ => R_callX rfl (add64 r (dg Go.Num.B v (k - 1)) 0 (by omega) _)) ?_; refine zm rfl ?_; refine jx rfl rfl ?_; refine jx rfl rfl ?_; refine aI rfl ?_; refine aI rfl ?_; refine yB ?_; refine zq ?_; refine yA ?_; refine mI rfl ?_; refine zg (fun _ => R_neN (a := ((r + (dg Go.Num.B v (k - 1)) + 0) / Go.Num.B)) (b := 0) rfl rfl) ?_; refine yB ?_; refine zD rfl (fun h6 => ?_) (fun h6 => ?_)
    ·have hst := guess_next B_pos hs.2.2.1 hs.2.2.2 hv hu hq he (by have := (two_limbs B_pos (dg_lt B_pos u (i - 2)) (q := p) (n := dg Go.Num.B v (k - 2)) (r := r)); omega)
     refine yA ?_; refine mI rfl ?_; refine aI rfl ?_; refine yB ?_; refine ze ?_; refine zt (zb (zt (zb (?_))))
     refine zo (v := .int _ _) rfl rfl rfl ?_; exact fun w' hw => ⟨⟨_, rfl, hst.1, by omega⟩, hw.f0⟩
    ·have hst := guess_next B_pos hs.2.2.1 hs.2.2.2 hv hu hq he (by have := (two_limbs B_pos (dg_lt B_pos u (i - 2)) (q := p) (n := dg Go.Num.B v (k - 2)) (r := r)); omega); rw [Nat.add_zero] at h6; have hsm : r + dg Go.Num.B v (k - 1) < Go.Num.B := (by rcases Nat.lt_or_ge (r + dg Go.Num.B v (k - 1)) Go.Num.B with h | h; (exact h); (have := Nat.div_pos h B_pos; omega))
     refine zi ?_; refine zk ?_; refine zr ?_; refine mI rfl ?_; refine aI rfl ?_; refine zn ?_; refine zO (?_)
     exact k_again _ (by omega) ⟨(p - 1), (r + dg Go.Num.B v (k - 1)), e0_1, e1_1, e2_1, e3_1, rfl, congrArg (fun z : Nat => Value.int .u64 (z : Int)) (Nat.mod_eq_of_lt hsm), rfl, rfl, hst.1, by omega, hst.2.2, hsm, rfl⟩
end Go.Proofs.YtikdkendinnalaaGreatDoor
end
section
namespace Go.Proofs.YtikdkendinnalaaGreatDoor
open Go.RowKit Go.Sx
open Go.Num
theorem shift_lt2 {n k s : Nat} (h : n < Go.Num.B ^ k) (hs : s < 65) : n * 2 ^ s < Go.Num.B ^ (k + 1) := by
 rw [Nat.pow_succ]
 have h1 : n * 2 ^ s < Go.Num.B ^ k * 2 ^ s := Nat.mul_lt_mul_of_pos_right h (Nat.pow_pos (by decide))
 exact Nat.lt_of_lt_of_le h1 (Nat.mul_le_mul_left _ (by rw [B_two]; exact Nat.pow_le_pow_right (by decide) (by omega)))
theorem shr_zero {n s : Nat} (h : sz n ≤ s / 64) : n / 2 ^ s = 0 := by
 refine Nat.div_eq_of_lt (Nat.lt_of_lt_of_le (lt_sz n) ?_)
 rw [B_pow]; exact Nat.pow_le_pow_right (by decide) (by omega)
theorem shr_whole {n s : Nat} (h : s % 64 = 0) : n / Go.Num.B ^ (s / 64) = n / 2 ^ s := by
 rw [shr64 n s, h, Nat.pow_zero, Nat.div_one]
theorem shr_part {n s : Nat} : n / Go.Num.B ^ (s / 64) * 2 ^ (64 - s % 64) / Go.Num.B ^ 1 = n / 2 ^ s := by
 rw [Nat.pow_one, shr_up _ (Nat.mod_lt _ (by decide)), ← shr64]
theorem sz_div (n p : Nat) : sz (n / p) ≤ sz n := sz_mono (Nat.div_le_self _ _)
theorem Shr_ok {a : Option Addr} {k c n s : Nat} (w : World) (hA : Nm w a k c n) (hs : k ≤ 2000000 ∧ sz n ≤ 2048 ∧ s ≤ 100000000) :
  Ret Tryz.prog 182 #[.slice a k c, .int .i64 (s : Nat)] w (Tel (fun a c => .tuple #[.slice a (sz (n / 2 ^ s)) c, .int .i64 0]) (sz (n / 2 ^ s)) (n / 2 ^ s) w) := by
 have hd := sz_div n (2 ^ s)
 refine enter (S := No) (l := [_, _]) (L := []) 41 Tryz.func182 rfl rfl rfl (St.start w No) ?_; refine yA ?_; refine za (v := .slice _ _ _) rfl ?_; refine aI rfl ?_; refine yC ?_; refine mS rfl ?_; refine w_tel (fun w => zR Tryz.func92 rfl rfl rfl) rfl rfl (fun w h => normal_ok w ((Kn.old hA).at_ 0 rfl h) (by omega)) (fun x1 a1 c1 hK1 hN1 => ?_)
 refine za (v := .slice _ _ _) rfl ?_; refine yB ?_; refine zq ?_; refine zB ?_; refine yA ?_; refine mS rfl ?_; refine zS slt169 (by decide) rfl rfl (fun b2 gb2 ub2 => ?_)
 refine jD Tryz.func91 (fun w h => long1_ok w (h.at_ 0 rfl) (hK1.at_ 0 rfl h) ⟨by omega, by omega⟩) ?_; refine aB rfl ?_; refine yB ?_; refine zG rfl ?_; refine yA ?_; refine mI rfl ?_; refine zg (fun _ => R_ltN (a := s) (b := 0) rfl rfl) ?_; refine aB rfl ?_; refine yB ?_; refine zD rfl (fun h3 => ?_) (fun h3 => ?_)
 ·omega
 ·refine yA ?_; refine mI rfl ?_; refine zg (fun _ => R_quoN (a := s) (b := 64) rfl rfl (by omega) (by omega)) ?_; refine mS rfl ?_; refine jj sl42 rfl ?_; refine zg (fun _ => R_geN (a := (s / 64)) (b := (sz n)) rfl rfl) ?_; refine aB rfl ?_; refine yB ?_; refine zD rfl (fun h4 => ?_) (fun h4 => ?_)
  ·have hq := shr_zero h4
   refine yA ?_; refine za (v := .slice _ _ _) rfl ?_; refine aI rfl ?_; refine yB ?_; refine ze ?_; refine zb (zt (?_))
   rw [hq]
   refine r_two (v := .slice _ _ _) (v2 := .int _ _) rfl rfl rfl rfl rfl ?_; exact fun w' hw => ⟨none, 0, rfl, Nm.nil _, Fsh.nil _ _, hw.fr (w, No) zm1⟩
  ·refine zi ?_; refine zO (zk ?_); refine yA ?_; refine mS rfl ?_; refine mI rfl ?_; refine zg (fun _ => R_quoN (a := s) (b := 64) rfl rfl (by omega) (by omega)) ?_; refine zg (fun _ => R_lowN (l := (s / 64)) sl42 rfl rfl (by omega) hK1.kc) ?_; refine za (v := .slice _ _ _) rfl ?_; refine yB ?_; refine zq ?_; refine yA ?_; refine mI rfl ?_; refine zg (fun _ => R_remU (a := s) (b := 64) rfl rfl (by omega)) ?_; refine aI rfl ?_; refine yC ?_; refine mI rfl ?_; refine zg (fun _ => R_eqN (a := (s % 64)) (b := 0) rfl rfl) ?_; refine yB ?_; refine zD rfl (fun h5 => ?_) (fun h5 => ?_)
   ·have hq := shr_whole (n := n) h5; have hd2 := sz_div n (Go.Num.B ^ (s / 64))
    refine yA ?_; refine mS rfl ?_; refine w_tel (fun w => zR Tryz.func90 rfl rfl rfl) rfl rfl (fun w h => told_ok w ((hK1.low (l := (s / 64)) (by omega)).at_ 0 rfl h) ⟨by omega, by rw [hq]; omega⟩) (fun x6 a6 c6 hK6 hN6 => ?_)
    refine jx rfl rfl ?_; refine jx rfl rfl ?_; refine za (v := .slice _ _ _) rfl ?_; refine aI rfl ?_; refine yB ?_; refine ze ?_; refine zt (?_)
    rw [← hq]
    refine r_two (v := .slice _ _ _) (v2 := .int _ _) rfl rfl rfl rfl rfl ?_; exact fun w' hw => ⟨_, _, rfl, (hK6.at_ 0 rfl hw), (hN6 _ zm1), hw.fr (w, No) zm2⟩
   ·have hq := shr_part (n := n) (s := s); have hsl : n / Go.Num.B ^ (s / 64) * 2 ^ (64 - s % 64) < Go.Num.B ^ (sz n - s / 64 + 1) := shift_lt2 (hK1.low (l := s / 64) (by omega)).lt (by omega)
    refine zi ?_; refine zk ?_; refine yA ?_; refine mS rfl ?_; refine mI rfl ?_; refine zg (fun _ => R_subN (n := 64) (b := (s % 64)) rfl rfl (by omega) (by omega)) ?_; refine w_callW (fun w => zR Tryz.func178 rfl rfl rfl) rfl rfl (fun w h => shift_ok w ((hK1.low (l := (s / 64)) (by omega)).at_ 0 rfl h) (by omega) (by omega)) ?_
    rintro usb Wusb ⟨sb, rfl, rfl⟩
    refine zg (fun _ => R_lowN (l := 1) sl42 rfl rfl (by omega) (Nat.le_refl _)) ?_; refine w_tel (fun w => zR Tryz.func90 rfl rfl rfl) rfl rfl (fun w h => told_ok w ((Nm.own 0 rfl hsl (Nat.le_refl _) h).low (l := 1) (by omega)) ⟨by omega, by rw [hq]; omega⟩) (fun x7 a7 c7 hK7 hN7 => ?_)
    refine jx rfl rfl ?_; refine jx rfl rfl ?_; refine za (v := .slice _ _ _) rfl ?_; refine aI rfl ?_; refine yB ?_; refine ze ?_
    rw [← hq]
    refine r_two (v := .slice _ _ _) (v2 := .int _ _) rfl rfl rfl rfl rfl ?_; exact fun w' hw => ⟨_, _, rfl, (hK7.at_ 0 rfl hw), (hN7 _ zm1), hw.fr (w, No) zm2⟩
end Go.Proofs.YtikdkendinnalaaGreatDoor
end
section
namespace Go.Num
def qe (a : Int) (b : Nat) (k : Int) : Int := if 0 ≤ k then (a * (2 ^ k.toNat : Nat)) / (b : Int) else a / ((b * 2 ^ (-k).toNat : Nat) : Int)
end Go.Num
end
section
namespace Go.Num
def tz (n : Nat) : Nat := if n = 0 then 0 else if n % 2 = 1 then 0 else tz (n / 2) + 1
termination_by n
decreasing_by omega
def od (n : Nat) : Nat := n / 2 ^ tz n
def nb (x : Int) : Nat := bl (od x.natAbs)
def nd (x e : Int) : Int × Int := if x = 0 then (0, 0) else (x.sign * od x.natAbs, e + tz x.natAbs)
def rd (a : Int) (b p : Nat) (f e0 : Int) : Int × Int :=
  if nb (qe a b (f - e0)) ≤ p then nd (qe a b (f - e0)) e0 else nd (qe a b (f - (e0 + 1))) (e0 + 1)
section
variable {a : Int} {b p : Nat} {f e0 : Int}
def e0is (a : Int) (b p : Nat) (f e0 : Int) : Prop := e0 = bl a.natAbs + f - bl b - p
end
end Go.Num
end
section
namespace Go.Num
def iv (s : Bool) (n : Nat) : Int := if s then -(n : Int) else n
def ng (x : Int) : Bool := decide (x < 0)
section
variable {s t : Bool} {n m : Nat} {x y : Int}
theorem iv_abs (s : Bool) (n : Nat) : (iv s n).natAbs = n := by cases s <;> simp [iv]
theorem ng_iv (s : Bool) (n : Nat) : ng (iv s n) = (s && decide (n ≠ 0)) := by
  cases s
  · simp [iv, ng]
  simp only [iv, ng, if_true, Bool.true_and]; exact decide_eq_decide.2 (by omega)
theorem iv_ng (x : Int) : iv (ng x) x.natAbs = x := by
  unfold iv ng
  rcases Int.lt_or_le x 0 with h | h
  · rw [decide_eq_true h, if_pos rfl]; omega
  rw [decide_eq_false (by omega), if_neg (by decide)]; omega
theorem iv_zero (s : Bool) : iv s 0 = 0 := by cases s <;> rfl
theorem ng_true : ng x = true ↔ x < 0 := by unfold ng; exact decide_eq_true_iff
theorem ng_false : ng x = false ↔ 0 ≤ x := by unfold ng; rw [decide_eq_false_iff_not]; omega
def fl (x y : Int) : Int := (if ng y then -x else x) / (y.natAbs : Int)
end
end Go.Num
end
section
namespace Go.Num
def adj (x y : Int) : Int := if ng y then -x else x
def br (x y k : Int) : Int := if 0 ≤ k then fl (x * (2 ^ k.toNat : Nat)) y else fl x (y * (2 ^ (-k).toNat : Nat))
theorem bl_mul {n : Nat} (h : n ≠ 0) (t : Nat) : bl (n * 2 ^ t) = bl n + t := by
  have h1 := bl_ge h
  have h2 := lt_bl n
  have hp := bl_pos h
  have hq : 0 < 2 ^ t := Nat.pow_pos (by decide)
  have := bl_eq (n := n * 2 ^ t) (k := bl n - 1 + t) (by rw [Nat.pow_add]; exact Nat.mul_le_mul_right _ h1) (by rw [show bl n - 1 + t + 1 = bl n + t by omega, Nat.pow_add]; exact Nat.mul_lt_mul_of_pos_right h2 hq)
  omega
def nn (y : Int × Int) : Int × Int := (-y.1, y.2)
def dv (a b : Int × Int) (p : Nat) (up : Bool) : Int × Int :=
  let s := adj a.1 b.1
  let f := a.2 - b.2
  let e0 := (bl a.1.natAbs : Int) + f - bl b.1.natAbs - p
  if up then nn (rd (-s) b.1.natAbs p f e0) else rd s b.1.natAbs p f e0
def qt (x y k : Int) (up : Bool) : Int := if up then -br (-x) y k else br x y k
end Go.Num
end
section
namespace Go.Proofs.YtikdkendinnalaaGreatDoor
open Go.RowKit Go.Sx
open Go.Num
theorem norm_shift {m : Nat} (hm : m ≠ 0) : 64 - bl (dg Go.Num.B m (sz m - 1)) < 64 ∧ bl (m * 2 ^ (64 - bl (dg Go.Num.B m (sz m - 1)))) = 64 * sz m ∧ sz (m * 2 ^ (64 - bl (dg Go.Num.B m (sz m - 1)))) = sz m := by
 have ht := top_ne hm
 have h1 := bl_pos ht
 have h2 : bl (dg Go.Num.B m (sz m - 1)) ≤ 64 := bl_iff.2 (by rw [← B_two]; exact dg_lt B_pos _ _)
 have h3 := bl_limb hm
 have h4 := sz_pos hm
 have h5 := bl_mul hm (64 - bl (dg Go.Num.B m (sz m - 1)))
 refine ⟨by omega, by omega, ?_⟩
 generalize m * 2 ^ (64 - bl (dg Go.Num.B m (sz m - 1))) = V at *
 unfold sz at *
 omega
theorem div_init {n m s : Nat} (hs : s < 64) (hb : bl (m * 2 ^ s) = 64 * sz m) (hm : m ≠ 0) (hmn : m ≤ n) : n * 2 ^ s < m * 2 ^ s * Go.Num.B ^ (sz n + 1 - sz m) := by
 have hsm := sz_mono hmn
 have hV0 : m * 2 ^ s ≠ 0 := Nat.mul_ne_zero hm (Nat.pos_iff_ne_zero.1 (Nat.pow_pos (by decide)))
 have hV := bl_ge hV0
 rw [hb] at hV
 have h1 : n * 2 ^ s < Go.Num.B ^ sz n * 2 ^ s := Nat.mul_lt_mul_of_pos_right (lt_sz n) (Nat.pow_pos (by decide))
 have hp := sz_pos hm
 have h2 : Go.Num.B ^ sz n * 2 ^ s ≤ 2 ^ (64 * sz m - 1) * Go.Num.B ^ (sz n + 1 - sz m) := by
  rw [B_pow, B_pow, ← Nat.pow_add, ← Nat.pow_add]
  exact Nat.pow_le_pow_right (by decide) (by omega)
 exact Nat.lt_of_lt_of_le h1 (Nat.le_trans h2 (Nat.mul_le_mul_right _ hV))
theorem div_digit {U V j : Nat} (hU : U < V * Go.Num.B ^ (j + 1)) (hV : V < Go.Num.B ^ sz V) : U < Go.Num.B ^ (j + sz V + 1) ∧ U / Go.Num.B ^ j < Go.Num.B ^ (sz V + 1) := by
 have h1 : U < Go.Num.B ^ (j + sz V + 1) := by
  refine Nat.lt_of_lt_of_le hU (Nat.le_trans (Nat.mul_le_mul_right _ (Nat.le_of_lt hV)) ?_)
  rw [← Nat.pow_add]; exact Nat.pow_le_pow_right B_pos (by omega)
 refine ⟨h1, ?_⟩
 rw [Nat.div_lt_iff_lt_mul (Bpow_pos j), ← Nat.pow_add]
 exact Nat.lt_of_lt_of_le h1 (Nat.pow_le_pow_right B_pos (by omega))
theorem div_put {Z j g : Nat} (hZ : Z % Go.Num.B ^ (j + 1) = 0) (hg : g < Go.Num.B) : setd Go.Num.B Z j g = Z + Go.Num.B ^ j * g ∧ (Z + Go.Num.B ^ j * g) % Go.Num.B ^ j = 0 := by
 have h0 : dg Go.Num.B Z j = 0 := by rw [← dg_mod B_pos (Nat.lt_succ_self j), hZ, dg_zero]
 refine ⟨setd_zero h0, ?_⟩
 have h1 : Z % Go.Num.B ^ j = 0 := by
  have := Nat.mod_mod_of_dvd Z (Nat.pow_dvd_pow Go.Num.B (Nat.le_succ j))
  rw [← this, hZ, Nat.zero_mod]
 rw [Nat.add_mul_mod_self_left, h1]
theorem div_step9 {N Z U V j g : Nat} (hE : N = Z * V + U) (hk : U = U / Go.Num.B ^ j / V * Go.Num.B ^ j * V + (U % Go.Num.B ^ j + Go.Num.B ^ j * (U / Go.Num.B ^ j % V))) (hg : g = U / Go.Num.B ^ j / V) :
  N = (Z + Go.Num.B ^ j * g) * V + (U % Go.Num.B ^ j + Go.Num.B ^ j * (U / Go.Num.B ^ j % V)) := by
 rw [hE, hg, Nat.add_mul, Nat.mul_comm (Go.Num.B ^ j)]
 omega
theorem sz_le_of {n k : Nat} (h : n < Go.Num.B ^ k) : sz n ≤ k := sz_iff.2 h
theorem times_lt {V g : Nat} (hg : g < Go.Num.B) : sz (V * g) ≤ sz V + 1 := by
 refine sz_iff.2 ?_
 rw [Nat.pow_succ]
 rcases Nat.eq_zero_or_pos g with h0 | h0
 ·subst h0; rw [Nat.mul_zero]; exact Nat.mul_pos (Bpow_pos _) B_pos
 ·exact Nat.lt_of_lt_of_le (Nat.mul_lt_mul_of_pos_right (lt_sz V) h0) (Nat.mul_le_mul_left _ (Nat.le_of_lt hg))
theorem Div_ok {a a2 : Option Addr} {k c k2 c2 n m : Nat} (w : World) (hA : Nm w a k c n) (hB : Nm w a2 k2 c2 m) (hs : k ≤ 1000000 ∧ k2 ≤ 1000000 ∧ sz n ≤ 2047 ∧ sz m ≤ 2047 ∧ m ≠ 0) :
  Ret Tryz.prog 154 #[.slice a k c, .slice a2 k2 c2] w (Tel2 (fun a c a2 c2 => .tuple #[.slice a (sz (n / m)) c, .slice a2 (sz (n % m)) c2, .int .i64 0]) (sz (n / m)) (n / m) (sz (n % m)) (n % m) w) := by
 have hdq := sz_mono (Nat.div_le_self n m); have hdr : sz (n % m) ≤ sz m := sz_mono (Nat.le_of_lt (Nat.mod_lt _ (Nat.pos_of_ne_zero hs.2.2.2.2))); have hsm0 : sz m ≠ 0 := fun h => hs.2.2.2.2 (sz_eq_zero.1 h)
 refine enter (S := No) (l := [_, _]) (L := []) 149 Tryz.func154 rfl rfl rfl (St.start w No) ?_; refine yA ?_; refine za (v := .slice _ _ _) rfl ?_; refine za (v := .slice _ _ _) rfl ?_; refine aI rfl ?_; refine yB ?_; refine c_scope ?_; refine yA ?_; refine mS rfl ?_; refine w_tel (fun w => zR Tryz.func92 rfl rfl rfl) rfl rfl (fun w h => normal_ok w ((Kn.old hA).at_ 0 rfl h) (by omega)) (fun x1 a1 c1 hK1 hN1 => ?_)
 refine mS rfl ?_; refine w_tel (fun w => zR Tryz.func92 rfl rfl rfl) rfl rfl (fun w h => normal_ok w ((Kn.old hB).at_ 1 rfl h) (by omega)) (fun x2 a2 c2 hK2 hN2 => ?_)
 refine za (v := .slice _ _ _) rfl ?_; refine za (v := .slice _ _ _) rfl ?_; refine yB ?_; refine zq ?_; refine zB ?_; refine yA ?_; refine mS rfl ?_; refine mS rfl ?_; refine zS slt169 (by decide) rfl rfl (fun b3 gb3 ub3 => ?_)
 refine jD Tryz.func91 (fun w h => long2_ok w (h.at_ 0 rfl) (hK1.at_ 1 rfl h) (hK2.at_ 0 rfl h) ⟨by omega, by omega⟩ ⟨by omega, by omega⟩) ?_; refine aB rfl ?_; refine yB ?_; refine zG rfl ?_; refine yA ?_; refine mS rfl ?_; refine jj sl42 rfl ?_; refine zg (fun _ => R_eqN (a := (sz m)) (b := 0) rfl rfl) ?_; refine aB rfl ?_; refine yB ?_; refine zD rfl (fun h4 => ?_) (fun h4 => ?_)
 ·exact absurd h4 hsm0
 ·refine yA ?_; refine mS rfl ?_; refine mS rfl ?_; refine jD Tryz.func55 (fun w h => Cmp_ok w (hK1.at_ 1 rfl h) (hK2.at_ 0 rfl h) ⟨by omega, by omega⟩) ?_; refine jl rfl rfl ?_; refine aB rfl ?_; refine yB ?_; refine zD rfl (fun h5 => ?_) (fun h5 => ?_)
  ·have hlt := cmpN_lt.1 h5; have hq0 : n / m = 0 := Nat.div_eq_of_lt hlt; have hr0 : n % m = n := Nat.mod_eq_of_lt hlt
   refine yA ?_; refine mS rfl ?_; refine w_tel (fun w => zR Tryz.func90 rfl rfl rfl) rfl rfl (fun w h => told_ok w (hK1.at_ 1 rfl h) ⟨by omega, by omega⟩) (fun x6 a6 c6 hK6 hN6 => ?_)
   refine zm rfl ?_; refine jx rfl rfl ?_; refine jx rfl rfl ?_; refine za (v := .slice _ _ _) rfl ?_; refine aI rfl ?_; refine yC ?_; refine mS rfl ?_; refine mI rfl ?_; refine za (v := .slice _ _ _) rfl ?_; refine za (v := .slice _ _ _) rfl ?_; refine aI rfl ?_; refine yB ?_; refine ze ?_; refine zb (zt (g_ret (?_)))
   rw [hq0, hr0]
   refine r_fin (.inl rfl) rfl (.tmp rfl rfl (.tmp rfl rfl (.tmp rfl rfl .nil))) ?_; exact fun w' hw => ⟨_, _, _, _, rfl, Nm.nil _, (hK6.at_ 0 rfl hw), Fsh.nil _ _, (hN6 _ zm2), hw.fr (w, No) zm3⟩
  ·have hmn : m ≤ n := Nat.le_of_not_lt fun h => h5 (cmpN_lt.2 h); have hsmn := sz_mono hmn
   refine yA ?_; refine mS rfl ?_; refine jj sl42 rfl ?_; refine zg (fun _ => R_eqN (a := (sz m)) (b := 1) rfl rfl) ?_; refine aB rfl ?_; refine yB ?_; refine zD rfl (fun h7 => ?_) (fun h7 => ?_)
   ·have hm1 : m < Go.Num.B ^ 1 := sz_iff.1 (Nat.le_of_eq h7); rw [Nat.pow_one] at hm1; have hmd : dg Go.Num.B m 0 = m := dg_self hm1
    refine yA ?_; refine mS rfl ?_; refine mS rfl ?_; refine zg (fun _ => R_iaK (i := 0) sl42 rfl (hK2.ptr (by omega)) rfl (by omega)) ?_; refine zl (v := .int .u64 ((dg Go.Num.B m 0) : Nat)) z75 rfl (fun w h => hK2.ca 0 rfl (by omega) h) ?_
    rw [hmd]
    refine w_tel (fun w => zR Tryz.func93 rfl rfl rfl) rfl rfl (fun w h => small_ok w (hK1.at_ 1 rfl h) ⟨by omega, hm1⟩ (by omega)) (fun x8 a8 c8 hK8 hN8 => ?_)
    refine zm rfl ?_; refine jx rfl rfl ?_; refine jx rfl rfl ?_; refine za (v := .slice _ _ _) rfl ?_; refine aI rfl ?_; refine yC ?_; refine mS rfl ?_; refine w_tel (fun w => zR Tryz.func90 rfl rfl rfl) rfl rfl (fun w h => told_ok w (hK8.at_ 0 rfl h) ⟨by omega, by omega⟩) (fun x9 a9 c9 hK9 hN9 => ?_)
    refine zm rfl ?_; refine jx rfl rfl ?_; refine jx rfl rfl ?_; refine za (v := .slice _ _ _) rfl ?_; refine aI rfl ?_; refine yC ?_; refine mS rfl ?_; refine mI rfl ?_; refine w_tel (fun w => zR Tryz.func56 rfl rfl rfl) rfl rfl (fun w h => Of_ok (s := (n % m)) w (Nat.lt_trans (Nat.mod_lt _ (by omega)) hm1)) (fun x10 a10 c10 hK10 hN10 => ?_)
    refine mI rfl ?_; refine za (v := .slice _ _ _) rfl ?_; refine za (v := .slice _ _ _) rfl ?_; refine aI rfl ?_; refine yB ?_; refine ze ?_; refine zb (zt (g_ret (?_)))
    refine r_fin (.inl rfl) rfl (.tmp rfl rfl (.tmp rfl rfl (.tmp rfl rfl .nil))) ?_; exact fun w' hw => ⟨_, _, _, _, rfl, (hK9.at_ 1 rfl hw), (hK10.at_ 0 rfl hw), (hN9 _ zm3), (hN10 _ zm4), hw.fr (w, No) (.tail _ zm4)⟩
   ·refine zi ?_; refine zO (zk ?_)
    refine c_st (B' := _) (L' := []) (fun w h => h.drop (List.nil_sublist _)) ?_
    have hnsh := norm_shift hs.2.2.2.2
    refine c_cut (fun e B L => ∃ (s : Nat), e 0 = .slice a1 (sz n) c1 ∧ e 1 = .slice a2 (sz m) c2 ∧ e 9 = .int .i64 (s : Nat) ∧ B = [x2, x1, (w, No)] ∧ L = [] ∧ s < 64 ∧ bl (m * 2 ^ s) = 64 * sz m ∧ sz (m * 2 ^ s) = sz m) ?_ ?_
    ·refine zr ?_; refine mS rfl ?_; refine mS rfl ?_; refine jj sl42 rfl ?_; refine zg (fun _ => R_subN (n := (sz m)) (b := 1) rfl rfl (by omega) (by omega)) ?_; refine zg (fun _ => R_iaK (i := ((sz m) - 1)) sl42 rfl (hK2.ptr (by omega)) rfl (by omega)) ?_; refine zl (v := .int .u64 ((dg Go.Num.B m ((sz m) - 1)) : Nat)) z75 rfl (fun w h => hK2.ca 0 rfl (by omega) h) ?_; refine jD Tryz.func160 (fun w h => LZ64_ok _ w (dg_lt B_pos _ _)) ?_; refine aI rfl ?_; refine zn ?_; exact k_mid ⟨_, rfl, rfl, rfl, rfl, rfl, hnsh.1, hnsh.2.1, hnsh.2.2⟩
    rintro e B L ⟨s, e0_1, e1_1, e9_1, rfl, rfl, hs64, hblV, hszV⟩
    have hVne : m * 2 ^ s ≠ 0 := Nat.mul_ne_zero hs.2.2.2.2 (Nat.pos_iff_ne_zero.1 (Nat.pow_pos (by decide))); have hV0 : 0 < m * 2 ^ s := Nat.pos_of_ne_zero hVne; have hVt := Nat.pos_of_ne_zero (top_ne hVne)
    refine yA ?_; refine mS e0_1 ?_; refine mI e9_1 ?_; refine w_callW (fun w => zR Tryz.func178 rfl rfl rfl) rfl rfl (fun w h => shift_ok w (hK1.at_ 1 rfl h) (by omega) (by omega)) ?_
    rintro uub Wuub ⟨ub, rfl, rfl⟩
    refine mS e1_1 ?_; refine mI e9_1 ?_; refine w_callW (fun w => zR Tryz.func178 rfl rfl rfl) rfl rfl (fun w h => shift_ok w (hK2.at_ 0 rfl h) (by omega) (by omega)) ?_
    rintro uvb Wuvb ⟨vb, rfl, rfl⟩
    refine w_tel (fun w => zR Tryz.func92 rfl rfl rfl) rfl rfl (fun w h => normal_ok w (Nm.own 0 rfl (shift_lt2 (lt_sz m) (by omega)) (Nat.le_refl _) h) (by omega)) (fun xv av cv hKv hNv => ?_)
    refine za (v := .slice _ _ _) rfl ?_; refine za (v := .slice _ _ _) rfl ?_; refine yC ?_; refine mS rfl ?_; refine jj sl42 rfl ?_; refine aI rfl ?_; refine yC ?_; refine mS rfl ?_; refine jj sl42 rfl ?_; refine mI rfl ?_; refine zg (fun _ => R_subN (n := ((sz n) + 1)) (b := (sz (m * 2 ^ s))) rfl rfl (by omega) (by omega)) ?_; refine w_makeU (n := (((sz n) + 1) - (sz (m * 2 ^ s)))) slt42 rfl rfl (by omega) (by omega) (fun ob gob uob => ?_)
    refine za (v := .slice _ _ _) rfl ?_; refine yB ?_; refine zq ?_; refine c_label ?_; refine zk ?_; refine zq ?_; refine yA ?_; refine mS rfl ?_; refine jj sl42 rfl ?_; refine zg (fun _ => R_subN (n := ((sz n) + 1)) (b := 1) rfl rfl (by omega) (by omega)) ?_; refine aI rfl ?_; refine yB ?_; refine zB ?_; refine c_st (B' := _) (L' := [(ob, cel (lmV 0 (sz n + 1 - sz (m * 2 ^ s))) 75), (ub, cel (lmV (n * 2 ^ s) (sz n + 1)) 75)]) (fun w h => h.pick [0, 2] (by decide)) ?_
    refine c_loop (fun m9 e B L => ∃ (U Z j : Nat), e 9 = .int .i64 (s : Nat) ∧ e 10 = .slice (some ⟨ub, 0, none⟩) (sz n + 1) (sz n + 1) ∧ e 11 = .slice av (sz (m * 2 ^ s)) cv ∧ e 12 = .int .i64 (sz (m * 2 ^ s) : Nat) ∧ e 4 = .slice (some ⟨ob, 0, none⟩) (sz n + 1 - sz (m * 2 ^ s)) (sz n + 1 - sz (m * 2 ^ s)) ∧ e 13 = .int .i64 (j + sz (m * 2 ^ s) - 1 : Nat) ∧ B = [xv, x2, x1, (w, No)] ∧ L = [(ob, cel (lmV Z (sz n + 1 - sz (m * 2 ^ s))) 75), (ub, cel (lmV U (sz n + 1)) 75)] ∧ j + (sz (m * 2 ^ s)) ≤ sz n + 1 ∧ U < (m * 2 ^ s) * Go.Num.B ^ j ∧ n * 2 ^ s = Z * (m * 2 ^ s) + U ∧ Z % Go.Num.B ^ j = 0 ∧ Z < Go.Num.B ^ (sz n + 1 - sz (m * 2 ^ s)) ∧ U < Go.Num.B ^ (sz n + 1) ∧ m9 = j + 1) _ ⟨(n * 2 ^ s), 0, (sz n + 1 - sz (m * 2 ^ s)), e9_1, rfl, rfl, rfl, rfl, (congrArg (fun z : Nat => Value.int .i64 (z : Int)) (by omega)), rfl, rfl, by omega, by rw [hszV]; exact div_init hs64 hblV hs.2.2.2.2 hmn, by rw [Nat.zero_mul, Nat.zero_add], Nat.zero_mod _, Bpow_pos _, shift_lt2 (lt_sz n) (by omega), rfl⟩ ?_
    rintro m9 e B L ⟨U, Z, j, e9_2, e10_2, e11_2, e12_2, e4_2, e13_2, rfl, rfl, hj, hU, hE, hZ, hZl, hUK, rfl⟩
    refine zq ?_; refine yA ?_; refine mI e13_2 ?_; refine mI e12_2 ?_; refine zg (fun _ => R_geN (a := (j + (sz (m * 2 ^ s)) - 1)) (b := (sz (m * 2 ^ s))) rfl rfl) ?_; refine yB ?_; refine zD rfl (fun h12 => ?_) (fun h12 => ?_)
    ·obtain ⟨j, rfl⟩ : ∃ i, j = i + 1 := ⟨j - 1, by omega⟩; have ejq : e 13 = .int .i64 ((j + (sz (m * 2 ^ s)) : Nat) : Int) := e13_2.trans (congrArg (fun z : Nat => Value.int .i64 (z : Int)) (by omega)); have hk := knuth_step B_pos hV0 hU; obtain ⟨hUl, hUp⟩ := div_digit hU (lt_sz _)
     refine zi ?_; refine zk ?_; refine zq ?_; refine zB ?_; refine zq ?_; refine c_heldS mixed ?_; refine zh (v := .slice _ _ _) 0 rfl (by kernel_rfl) rfl rfl (fun w h => h) (fun w h => R_move e10_2) ?_; refine zh (v := .slice _ _ _) 1 rfl (by kernel_rfl) rfl rfl (fun w h => h) (fun w h => R_move e11_2) ?_; refine zh (v := .int _ _) 2 rfl (by kernel_rfl) rfl rfl (fun w h => h) (fun w h => R_move e12_2) ?_; refine zh2 3 rfl rfl (fun w h => h) (fun w h => R_subN (n := (sz (m * 2 ^ s))) (b := 1) rfl rfl (by omega) (by omega)) ?_; refine zh2 4 rfl rfl (fun w h => h) (fun w h => R_iaK (i := ((sz (m * 2 ^ s)) - 1)) sl42 rfl (hKv.ptr (by omega)) rfl (by omega)) ?_
     refine zh (v := .int .u64 ((dg Go.Num.B (m * 2 ^ s) ((sz (m * 2 ^ s)) - 1)) : Nat)) 5 rfl (by kernel_rfl) rfl rfl (fun w h => h) (fun w h => R_ld1 z75 rfl (hKv.ca 0 rfl (by omega) h)) ?_; refine zh (v := .slice _ _ _) 6 rfl (by kernel_rfl) rfl rfl (fun w h => h) (fun w h => R_move e11_2) ?_; refine zh (v := .int _ _) 7 rfl (by kernel_rfl) rfl rfl (fun w h => h) (fun w h => R_move e12_2) ?_; refine zh2 8 rfl rfl (fun w h => h) (fun w h => R_subN (n := (sz (m * 2 ^ s))) (b := 2) rfl rfl (by omega) (by omega)) ?_; refine zh2 9 rfl rfl (fun w h => h) (fun w h => R_iaK (i := ((sz (m * 2 ^ s)) - 2)) sl42 rfl (hKv.ptr (by omega)) rfl (by omega)) ?_
     refine zh (v := .int .u64 ((dg Go.Num.B (m * 2 ^ s) ((sz (m * 2 ^ s)) - 2)) : Nat)) 10 rfl (by kernel_rfl) rfl rfl (fun w h => h) (fun w h => R_ld1 z75 rfl (hKv.ca 0 rfl (by omega) h)) ?_; refine zh (v := .int _ _) 11 rfl (by kernel_rfl) rfl rfl (fun w h => h) (fun w h => R_move ejq) ?_; refine zH2 12 (fun w h => h) ?_; refine o_callE rfl (wn_none rfl) rfl (fun w => zR Tryz.func179 rfl rfl rfl) (fun w h => guess_ok (v := (m * 2 ^ s)) (k := (sz (m * 2 ^ s))) (i := j + (sz (m * 2 ^ s))) w (Nm.own 1 rfl hUK (Nat.le_refl _) h) ⟨by omega, by omega, by omega, by omega⟩ (lt_sz _) hVt hUl (by rw [Nat.add_sub_cancel]; exact hk.2.1)) ?_
     rintro _ ⟨g0, rfl, hg1, hg2⟩; rw [Nat.add_sub_cancel] at hg1
     refine zh (v := .int _ _) 13 rfl (by kernel_rfl) rfl rfl (fun w h => h) (fun w h => R_assign rfl) ?_; refine zN2 (fun w h => h) ?_; refine zk ?_; refine zB ?_; refine c_loop (fun m9 e B L => ∃ (g : Nat), e 9 = .int .i64 (s : Nat) ∧ e 10 = .slice (some ⟨ub, 0, none⟩) (sz n + 1) (sz n + 1) ∧ e 11 = .slice av (sz (m * 2 ^ s)) cv ∧ e 12 = .int .i64 (sz (m * 2 ^ s) : Nat) ∧ e 4 = .slice (some ⟨ob, 0, none⟩) (sz n + 1 - sz (m * 2 ^ s)) (sz n + 1 - sz (m * 2 ^ s)) ∧ e 13 = .int .i64 (j + sz (m * 2 ^ s) : Nat) ∧ e 14 = .int .u64 (g : Nat) ∧ B = [xv, x2, x1, (w, No)] ∧ L = [(ob, cel (lmV Z (sz n + 1 - sz (m * 2 ^ s))) 75), (ub, cel (lmV U (sz n + 1)) 75)] ∧ U / Go.Num.B ^ j / (m * 2 ^ s) ≤ g ∧ g < Go.Num.B ∧ m9 = g + 1) _ ⟨g0, e9_2, e10_2, e11_2, e12_2, e4_2, ejq, rfl, rfl, rfl, hg1, hg2, rfl⟩ ?_
     rintro m9 e B L ⟨g, e9_3, e10_3, e11_3, e12_3, e4_3, e13_3, e14_3, rfl, rfl, hq, hgB, rfl⟩
     have htl := times_lt (V := (m * 2 ^ s)) hgB
     refine zB ?_; refine yA ?_; refine mS e11_3 ?_; refine mI e14_3 ?_; refine w_tel (fun w => zR Tryz.func180 rfl rfl rfl) rfl rfl (fun w h => times_ok w (hKv.at_ 0 rfl h) hgB (by omega)) (fun x13 a13 c13 hK13 hN13 => ?_)
     refine za (v := .slice _ _ _) rfl ?_; refine yC ?_; refine mS e10_3 ?_; refine mI e13_3 ?_; refine mI e12_3 ?_; refine zg (fun _ => R_subN (n := (j + (sz (m * 2 ^ s)))) (b := (sz (m * 2 ^ s))) rfl rfl (by omega) (by omega)) ?_; refine mI e13_3 ?_; refine zg (fun _ => R_addN (n := (j + (sz (m * 2 ^ s)))) (b := 1) rfl rfl (by omega)) ?_; refine zg (fun _ => R_segN (l := j) (h := j + (sz (m * 2 ^ s)) + 1) sl42 rfl (congrArg (fun z : Nat => Value.int .i64 (z : Int)) (show (((j + (sz (m * 2 ^ s))) - (sz (m * 2 ^ s))) : Nat) = j by omega)) (congrArg (fun z : Nat => Value.int .i64 (z : Int)) (show (((j + (sz (m * 2 ^ s))) + 1) : Nat) = (j + (sz (m * 2 ^ s)) + 1) by omega)) (by omega) (by omega)) ?_
     refine za (v := .slice _ _ _) rfl ?_; refine yB ?_; refine zq ?_; refine yA ?_; refine mS rfl ?_; refine mS rfl ?_; refine jD Tryz.func55 (fun w h => Cmp_ok w (hK13.at_ 0 rfl h) ((Nm.own 1 rfl hUK (Nat.le_refl _) h).seg (j := j) (q := j + (sz (m * 2 ^ s)) + 1 - j) (by omega) (by rw [show j + (j + (sz (m * 2 ^ s)) + 1 - j) = j + (sz (m * 2 ^ s)) + 1 by omega]; exact hUl) (by omega)) ⟨by omega, by omega⟩) ?_; refine jm rfl rfl ?_; refine yB ?_; refine zD rfl (fun h14 => ?_) (fun h14 => ?_)
     ·have hle := cmpN_le.1 h14; have hgq := digit_eq hV0 hq (by rw [Nat.mul_comm]; exact hle); have hrest : U / Go.Num.B ^ j - (m * 2 ^ s) * g = U / Go.Num.B ^ j % (m * 2 ^ s) := (by have := Nat.div_add_mod (U / Go.Num.B ^ j) (m * 2 ^ s); rw [← hgq] at this; omega); have hsr : sz (U / Go.Num.B ^ j - (m * 2 ^ s) * g) ≤ j + (sz (m * 2 ^ s)) + 1 - j := (by have := sz_mono (Nat.sub_le (U / Go.Num.B ^ j) ((m * 2 ^ s) * g)); have := sz_le_of hUp; omega); have hdp := div_put hZ hgB; have hZl2 : Z + Go.Num.B ^ j * g < Go.Num.B ^ (sz n + 1 - sz (m * 2 ^ s)) := (by rw [← hdp.1]; exact setd_lt B_pos hgB hZl (by omega)); have hUK2 : U % Go.Num.B ^ j + Go.Num.B ^ j * (U / Go.Num.B ^ j % (m * 2 ^ s)) < Go.Num.B ^ (sz n + 1) := (by have := hk.2.2.2; omega)
      refine yA ?_; refine mS rfl ?_; refine mS rfl ?_; refine w_tel (fun w => zR Tryz.func181 rfl rfl rfl) rfl rfl (fun w h => less_ok w ((Nm.own 1 rfl hUK (Nat.le_refl _) h).seg (j := j) (q := j + (sz (m * 2 ^ s)) + 1 - j) (by omega) (by rw [show j + (j + (sz (m * 2 ^ s)) + 1 - j) = j + (sz (m * 2 ^ s)) + 1 by omega]; exact hUl) (by omega)) (hK13.at_ 0 rfl h) ⟨by omega, by omega⟩ hle) (fun x15 a15 c15 hK15 hN15 => ?_)
      refine za (v := .slice _ _ _) rfl ?_; refine yC ?_; refine mS rfl ?_; refine w_clearU (k := (sz n + 1)) (z := U) (j := j) (q := j + (sz (m * 2 ^ s)) + 1 - j) 1 rfl slt42 rfl (by omega) (by omega) (by rw [show j + (j + (sz (m * 2 ^ s)) + 1 - j) = j + (sz (m * 2 ^ s)) + 1 by omega]; exact hUl) ?_; refine yC ?_; refine mS rfl ?_; refine mS rfl ?_; refine w_copyU (k := (sz n + 1)) (z := U % Go.Num.B ^ j) (j := j) (q := j + (sz (m * 2 ^ s)) + 1 - j) 1 rfl slt42 rfl (by omega) (Nat.mod_lt _ (Bpow_pos j)) rfl (fun w h => (hK15.at_ 0 rfl h)) hsr ?_
      refine yC ?_; refine mS e4_3 ?_; refine mI e13_3 ?_; refine mI e12_3 ?_; refine zg (fun _ => R_subN (n := (j + (sz (m * 2 ^ s)))) (b := (sz (m * 2 ^ s))) rfl rfl (by omega) (by omega)) ?_; refine mI e14_3 ?_; refine zg (fun _ => R_iaN (i := j) sl42 rfl (congrArg (fun z : Nat => Value.int .i64 (z : Int)) (show (((j + (sz (m * 2 ^ s))) - (sz (m * 2 ^ s))) : Nat) = j by omega)) (by omega)) ?_; refine w_putU (dv := g) (z' := (Z + Go.Num.B ^ j * g)) (j := j) 0 rfl z75 rfl rfl (by exact hgB) (by omega) (hdp.1) ?_; refine yB ?_; refine zX ?_; refine zx (b_past rfl (zx (b_past rfl (b_here rfl (zk ?_))))); refine zr ?_; refine mI e13_3 ?_
      refine zg (fun _ => R_subN (n := (j + (sz (m * 2 ^ s)))) (b := 1) rfl rfl (by omega) (by omega)) ?_; refine aI rfl ?_; refine zn ?_
      rw [hrest]
      refine zK (B' := [xv, x2, x1, (w, No)]) (L' := _) (fun w h => h.unbase (fun x hx => .tail _ (.tail _ hx))) ?_; exact k_again _ (by omega) ⟨_, (Z + Go.Num.B ^ j * g), j, e9_3, e10_3, e11_3, e12_3, e4_3, (congrArg (fun z : Nat => Value.int .i64 (z : Int)) (show j + (sz (m * 2 ^ s)) - 1 = j + (sz (m * 2 ^ s)) - 1 from rfl)), rfl, rfl, by omega, hk.2.2.1, div_step9 hE hk.2.2.2 hgq, hdp.2, hZl2, hUK2, rfl⟩
     ·have hlt2 : U / Go.Num.B ^ j / (m * 2 ^ s) < g := (Nat.div_lt_iff_lt_mul hV0).2 (by rw [Nat.mul_comm]; have := cmpN_le (n := (m * 2 ^ s) * g) (m := U / Go.Num.B ^ j); omega); have hg0 : 0 < g := Nat.lt_of_le_of_lt (Nat.zero_le _) hlt2
      refine zi ?_; refine zk ?_; refine zr ?_; refine mI e14_3 ?_; refine zg (fun _ => R_subU (a := g) (b := 1) rfl rfl (by omega) (by omega)) ?_; refine aI rfl ?_; refine zn ?_; refine zO (?_)
      refine zK (B' := [xv, x2, x1, (w, No)]) (L' := _) (fun w h => h.unbase (fun x hx => .tail _ hx)) ?_; exact k_again _ (by omega) ⟨(g - 1), e9_3, e10_3, e11_3, e12_3, e4_3, e13_3, rfl, rfl, rfl, by omega, by omega, rfl⟩
    ·obtain rfl : j = 0 := (by omega); rw [Nat.pow_zero, Nat.mul_one] at hU; have hde := div_end hE hU; have hsd := shl_div n m s; rw [← hde.1, ← hde.2] at hsd; have hsU := sz_le_of hUK; have hsZ := sz_le_of hZl
     refine zX ?_; refine zx (zx (b_here rfl (zk ?_))); refine yA ?_; refine mS e10_2 ?_; refine mI e9_2 ?_; refine w_tel (fun w => zR Tryz.func182 rfl rfl rfl) rfl rfl (fun w h => Shr_ok w (Nm.own 1 rfl hUK (Nat.le_refl _) h) ⟨by omega, by omega, by omega⟩) (fun x16 a16 c16 hK16 hN16 => ?_)
     refine zm rfl ?_; refine jx rfl rfl ?_; refine jx rfl rfl ?_; refine za (v := .slice _ _ _) rfl ?_; refine yC ?_; refine mS e4_2 ?_; refine w_tel (fun w => zR Tryz.func90 rfl rfl rfl) rfl rfl (fun w h => told_ok w (Nm.own 0 rfl hZl (Nat.le_refl _) h) ⟨by omega, by omega⟩) (fun x17 a17 c17 hK17 hN17 => ?_)
     refine zm rfl ?_; refine jx rfl rfl ?_; refine jx rfl rfl ?_; refine za (v := .slice _ _ _) rfl ?_; refine aI rfl ?_; refine yC ?_; refine mS rfl ?_; refine mS rfl ?_; refine mI rfl ?_; refine za (v := .slice _ _ _) rfl ?_; refine za (v := .slice _ _ _) rfl ?_; refine aI rfl ?_; refine yB ?_; refine ze ?_; refine g_ret (?_)
     rw [← hsd.1, ← hsd.2]
     refine r_fin (.inl rfl) rfl (.tmp rfl rfl (.tmp rfl rfl (.tmp rfl rfl .nil))) ?_; exact fun w' hw => ⟨_, _, _, _, rfl, (hK17.at_ 0 rfl hw), (hK16.at_ 1 rfl hw), (hN17 _ zm4), (hN16 _ zm3), hw.fr (w, No) (.tail _ zm4)⟩
end Go.Proofs.YtikdkendinnalaaGreatDoor
end
section
namespace Go.Num
open Go.Lib
abbrev lt10 (n : Nat) : UInt8 := UInt8.ofNat (48 + n % 10)
def rdec (n : Nat) : List UInt8 := if n = 0 then [] else lt10 n :: rdec (n / 10)
termination_by n
decreasing_by omega
theorem rdec_zero : rdec 0 = [] := by rw [rdec, if_pos rfl]
theorem rdec_pos {n : Nat} (h : n ≠ 0) : rdec n = lt10 n :: rdec (n / 10) := by rw [rdec, if_neg h]
theorem decDigits_zero : decDigits 0 = [48] := by rw [decDigits, dif_pos (by decide)]; rfl
theorem dec_rev {n : Nat} (h : n ≠ 0) : decDigits n = (rdec n).reverse := by
  induction n using Nat.strongRecOn with
  | _ n ih =>
    by_cases h10 : n < 10
    · rw [decDigits, dif_pos h10, rdec_pos h, Nat.div_eq_of_lt h10, rdec_zero, lt10, Nat.mod_eq_of_lt h10]; rfl
    · rw [decDigits, dif_neg h10, rdec_pos h, List.reverse_cons, ih (n / 10) (by omega) (by omega)]
def pv (a : Nat) (l : List UInt8) : Nat := l.foldl (fun v c => v * 10 + (c.toNat - 48)) a
theorem pv_nil (a : Nat) : pv a [] = a := rfl
theorem pv_cons (a : Nat) (c : UInt8) (l : List UInt8) : pv a (c :: l) = pv (a * 10 + (c.toNat - 48)) l := by unfold pv; rw [List.foldl_cons]
theorem pv_app (a : Nat) (l m : List UInt8) : pv a (l ++ m) = pv (pv a l) m := List.foldl_append
theorem pv_lin : ∀ (l : List UInt8) (a : Nat), pv a l = a * 10 ^ l.length + pv 0 l
  | [], a => by rw [pv_nil, pv_nil, List.length_nil, Nat.pow_zero]; omega
  | c :: l, a => by
    rw [pv_cons, pv_cons, pv_lin l (a * 10 + _), pv_lin l (0 * 10 + _), List.length_cons, Nat.pow_succ]
    generalize c.toNat - 48 = d
    generalize pv 0 l = v
    generalize 10 ^ l.length = k
    rw [Nat.add_mul, Nat.zero_mul, Nat.zero_add, Nat.mul_comm k 10, Nat.mul_assoc]
    omega
def isD (c : UInt8) : Bool := decide (48 ≤ c.toNat ∧ c.toNat ≤ 57)
theorem lt10_nat (n : Nat) : (lt10 n).toNat = 48 + n % 10 := by
  rw [lt10, UInt8.toNat_ofNat', Nat.mod_eq_of_lt]
  have := Nat.mod_lt n (show 0 < 10 by decide); omega
theorem isD_lt10 (n : Nat) : isD (lt10 n) = true := by
  unfold isD
  rw [lt10_nat]
  have := Nat.mod_lt n (show 0 < 10 by decide)
  exact decide_eq_true ⟨by omega, by omega⟩
theorem rdec_all (n : Nat) : (rdec n).all isD = true := by
  induction n using Nat.strongRecOn with
  | _ n ih =>
    by_cases h : n = 0
    · subst h; rw [rdec_zero]; rfl
    · rw [rdec_pos h, List.all_cons, isD_lt10, ih (n / 10) (by omega)]; rfl
theorem dec_all (n : Nat) : (decDigits n).all isD = true := by
  by_cases h : n = 0
  · subst h; rw [decDigits_zero]; decide
  rw [dec_rev h, List.all_reverse, rdec_all]
theorem dec_ne (n : Nat) : decDigits n ≠ [] := by
  rw [decDigits]; split <;> simp
theorem pv_dec (n : Nat) : pv 0 (decDigits n) = n := by
  induction n using Nat.strongRecOn with
  | _ n ih =>
    by_cases h10 : n < 10
    · rw [decDigits, dif_pos h10, pv_cons, pv_nil, UInt8.toNat_ofNat', Nat.mod_eq_of_lt (by omega)]; omega
    · have h := lt10_nat n
      unfold lt10 at h
      rw [decDigits, dif_neg h10, pv_app, ih (n / 10) (by omega), pv_cons, pv_nil, h]; omega
def npv (l : List UInt8) : Option Nat := if l = [] ∨ l.all isD = false then none else some (pv 0 l)
def zpv (l : List UInt8) : Option Int := if l.head? = some 45 then (npv l.tail).map (fun n : Nat => -(n : Int)) else (npv l).map (fun n : Nat => (n : Int))
theorem parse_dig {c : UInt8} (h : isD c = true) : 48 ≤ c.toNat ∧ c.toNat ≤ 57 := of_decide_eq_true h
theorem parse_pv : ∀ (l : List UInt8) (a : Nat), l.all isD = true → pv a l < 1844674407370955162 → parseUint10 a l = .ok (pv a l)
  | [], a, _, _ => rfl
  | c :: l, a, h, hv => by
    rw [List.all_cons] at h
    obtain ⟨h1, h2⟩ := Bool.and_eq_true_iff.1 h
    rw [pv_cons] at hv ⊢
    have h3 := pv_lin l (a * 10 + (c.toNat - 48))
    have h4 : a * 10 + (c.toNat - 48) ≤ (a * 10 + (c.toNat - 48)) * 10 ^ l.length := Nat.le_mul_of_pos_right _ (Nat.pow_pos (by decide))
    have h5 := parse_dig h1
    unfold parseUint10
    rw [if_pos h5, if_neg (by omega), if_neg (by omega)]
    exact parse_pv l _ h2 hv
end Go.Num
end
section
namespace Go.Num
open Go.Lib
def dt (y : Int × Int) : List UInt8 := itoa y.1 ++ 112 :: itoa y.2
def bef (s : List UInt8) : List UInt8 := s.takeWhile (fun c => c != 112)
def aft (s : List UInt8) : List UInt8 := (s.dropWhile (fun c => c != 112)).tail
abbrev mx : Nat := 1048576
def txt (x e : Int) : List UInt8 := if e.natAbs ≤ mx ∧ (nd x e).2.natAbs ≤ mx then dt (nd x e) else []
def pp (s : List UInt8) : Option (Int × Int) :=
  match zpv (bef s), atoiAll (aft s) with
  | some x, .ok e => if txt x e = s then some (x, e) else none
  | _, _ => none
def rp (s : List UInt8) : Option (Int × Int) :=
  if (112 : UInt8) ∉ s then none else
  match zpv (bef s), zpv (aft s) with
  | some x, some e => if e.natAbs ≤ mx ∧ (nd x e).2.natAbs ≤ mx ∧ dt (nd x e) = s then some (x, e) else none
  | _, _ => none
def isT (s : List UInt8) (y : Int × Int) : Prop := y = nd y.1 y.2 ∧ y.2.natAbs ≤ mx ∧ s = dt y
end Go.Num
end
section
namespace Go.Proofs.YtikdkendinnalaaGreatDoor
open Go.RowKit Go.Sx
open Go.Num
def rv (l : List UInt8) (i : Nat) : List UInt8 := (List.range l.length).map fun p => if p < i ∨ l.length ≤ p + i then l.getD (l.length - 1 - p) 0 else l.getD p 0
theorem rv_len (l : List UInt8) (i : Nat) : (rv l i).length = l.length := by simp [rv]
theorem rv_at {l : List UInt8} {i p : Nat} (h : p < l.length) : (rv l i)[p]? = some (if p < i ∨ l.length ≤ p + i then l.getD (l.length - 1 - p) 0 else l.getD p 0) := by simp [rv, h]
theorem rv_zero (l : List UInt8) : rv l 0 = l := by
 apply List.ext_getElem?
 intro p
 rcases Nat.lt_or_ge p l.length with h | h
 ·rw [rv_at h, if_neg (by omega), List.getElem?_eq_getElem h]; simp [h]
 ·rw [List.getElem?_eq_none (by rw [rv_len]; exact h), List.getElem?_eq_none h]
theorem rv_step {l : List UInt8} {i : Nat} (h : i < l.length - 1 - i) : ((rv l i).set i (l.getD (l.length - 1 - i) 0)).set (l.length - 1 - i) (l.getD i 0) = rv l (i + 1) := by
 apply List.ext_getElem?
 intro p
 rcases Nat.lt_or_ge p l.length with hp | hp
 ·rw [rv_at hp, List.getElem?_set, List.getElem?_set, List.length_set, rv_len]
  by_cases h1 : l.length - 1 - i = p
  ·rw [if_pos h1, if_pos (by omega), if_pos (by omega)]; congr 2; omega
  ·rw [if_neg h1]
   by_cases h2 : i = p
   ·rw [if_pos h2, if_pos (by omega), if_pos (by omega), h2]
   ·rw [if_neg h2, rv_at hp]
    by_cases h3 : p < i ∨ l.length ≤ p + i
    ·rw [if_pos h3, if_pos (by omega)]
    ·rw [if_neg h3, if_neg (by omega)]
 ·rw [List.getElem?_eq_none (by simp [rv_len]; exact hp), List.getElem?_eq_none (by rw [rv_len]; exact hp)]
theorem rv_end {l : List UInt8} {i : Nat} (h : l.length ≤ i + i + 1) : rv l i = l.reverse := by
 apply List.ext_getElem?
 intro p
 rcases Nat.lt_or_ge p l.length with hp | hp
 ·rw [rv_at hp, List.getElem?_reverse hp, List.getElem?_eq_getElem (by omega)]
  by_cases h3 : p < i ∨ l.length ≤ p + i
  ·rw [if_pos h3]; simp [List.getD_eq_getElem?_getD, List.getElem?_eq_getElem (show l.length - 1 - p < l.length by omega)]
  ·rw [if_neg h3]
   have : l.length - 1 - p = p := by omega
   simp [List.getD_eq_getElem?_getD, List.getElem?_eq_getElem hp, this]
 ·rw [List.getElem?_eq_none (by rw [rv_len]; exact hp), List.getElem?_eq_none (by simpa using hp)]
theorem byV_put {l : List UInt8} {j : Nat} {c : UInt8} {sp : List Value} (h : j < l.length) : (byV l ++ sp).take (0 + j * 1) ++ [.int .u8 (c.toNat : Nat)] ++ (byV l ++ sp).drop (0 + j * 1 + 1) = byV (l.set j c) ++ sp := by
 rw [Nat.zero_add, Nat.mul_one, List.take_append_of_le_length (by rw [byV_len]; omega), List.drop_append_of_le_length (by rw [byV_len]; omega)]
 have e1 : byV (l.set j c) = (byV l).set j (.int .u8 (c.toNat : Nat)) := by simp [byV, List.map_set]
 rw [e1, List.set_eq_take_append_cons_drop, if_pos (by rw [byV_len]; exact h)]
 simp
theorem byV_cel {B : Base} {L : Heap} {w : World} {b j : Nat} {T : TypeId} {l : List UInt8} {sp : List Value} (i : Nat) (hi : L[i]? = some (b, cel (byV l ++ sp) T)) (hj : j < l.length) (h : St B L w) : w.cell? ⟨b, 0 + j * 1, none⟩ = some (.int .u8 ((l.getD j 0).toNat : Nat)) :=
 zc i hi (by rw [Nat.zero_add, Nat.mul_one, List.getElem?_append_left (by rw [byV_len]; exact hj)]; exact byV_at (by simp [hj])) h
theorem Reverse_ok (l : List UInt8) (sp : List Value) (bb c : Nat) (T : TypeId) (w : World) (hb : w.heap[bb]? = some (cel (byV l ++ sp) T)) (hl : l.length ≤ 1000000) :
  Ret Tryz.prog 94 #[.slice (some ⟨bb, 0, none⟩) l.length c] w (fun v w' => v = .tuple #[] ∧ Fr (fun j => j = bb) w w' ∧ w'.heap[bb]? = some (cel (byV l.reverse ++ sp) T)) := by
 refine enter (S := (fun j => j = bb)) (l := [_]) (L := [(bb, cel (byV l ++ sp) T)]) 28 Tryz.func94 rfl rfl rfl (St.start1 w hb rfl) ?_; refine yA ?_; refine mS rfl ?_; refine jj sl78 rfl ?_; refine zg (fun _ => R_subi rfl rfl (by omega)) ?_; refine aI rfl ?_; refine aI rfl ?_; refine yB ?_; refine zB ?_; refine c_st (B' := _) (L' := [(bb, cel (byV (rv l 0) ++ sp) T)]) (fun w h => by rw [rv_zero]; exact h) ?_
 refine c_loop (fun m9 e B L => ∃ (i : Nat), e 0 = .slice (some ⟨bb, 0, none⟩) l.length c ∧ e 2 = .int .i64 (i : Nat) ∧ e 3 = .int .i64 ((l.length : Nat) - 1 - (i : Nat)) ∧ B = [(w, fun j => j = bb)] ∧ L = [(bb, cel (byV (rv l i) ++ sp) T)] ∧ i ≤ l.length ∧ m9 = l.length + 1 - i) _ ⟨0, rfl, rfl, (congrArg (Value.int .i64) (by omega)), rfl, rfl, Nat.zero_le _, rfl⟩ ?_
 rintro m9 e B L ⟨i, e0_1, e2_1, e3_1, rfl, rfl, hi, rfl⟩
 refine zq ?_; refine yA ?_; refine mI e2_1 ?_; refine mI e3_1 ?_; refine jl rfl rfl ?_; refine yB ?_; refine zD rfl (fun h1 => ?_) (fun h1 => ?_)
 ·have hij : i < l.length - 1 - i := (by omega); have e3q : e 3 = .int .i64 ((l.length - 1 - i : Nat) : Int) := e3_1.trans (congrArg (Value.int .i64) (by omega)); have hvi : (rv l i).getD i 0 = l.getD i 0 := (by rw [List.getD_eq_getElem?_getD, rv_at (by omega), if_neg (by omega)]; rfl); have hvj : (rv l i).getD (l.length - 1 - i) 0 = l.getD (l.length - 1 - i) 0 := (by rw [List.getD_eq_getElem?_getD, rv_at (by omega), if_neg (by omega)]; rfl)
  refine zi ?_; refine zk ?_; refine zq ?_; refine zB ?_; refine c_held (St [(w, fun j => j = bb)] []) mixed ?_; refine zh (v := .slice _ _ _) 0 rfl (by kernel_rfl) rfl rfl (fun w h => (h).drop (List.nil_sublist _)) (fun w h => R_move e0_1) ?_; refine zh (v := .int _ _) 1 rfl (by kernel_rfl) rfl rfl (fun w h => (h).drop (List.nil_sublist _)) (fun w h => R_move e2_1) ?_; refine zh (v := .slice _ _ _) 2 rfl (by kernel_rfl) rfl rfl (fun w h => (h).drop (List.nil_sublist _)) (fun w h => R_move e0_1) ?_; refine zh (v := .int _ _) 3 rfl (by kernel_rfl) rfl rfl (fun w h => (h).drop (List.nil_sublist _)) (fun w h => R_move e3q) ?_; refine zh (v := .slice _ _ _) 4 rfl (by kernel_rfl) rfl rfl (fun w h => (h).drop (List.nil_sublist _)) (fun w h => R_move e0_1) ?_
  refine zh (v := .int _ _) 5 rfl (by kernel_rfl) rfl rfl (fun w h => (h).drop (List.nil_sublist _)) (fun w h => R_move e3q) ?_; refine zh2 6 rfl rfl (fun w h => (h).drop (List.nil_sublist _)) (fun w h => R_iaN (i := (l.length - 1 - i)) sl78 rfl rfl (by first | omega | decide | exact Nat.succ_pos _ | exact Nat.succ_lt_succ (Nat.succ_pos _))) ?_; refine zh (v := .slice _ _ _) 8 rfl (by kernel_rfl) rfl rfl (fun w h => (h).drop (List.nil_sublist _)) (fun w h => R_move e0_1) ?_; refine zh (v := .int _ _) 9 rfl (by kernel_rfl) rfl rfl (fun w h => (h).drop (List.nil_sublist _)) (fun w h => R_move e2_1) ?_; refine zh2 10 rfl rfl (fun w h => (h).drop (List.nil_sublist _)) (fun w h => R_iaN (i := i) sl78 rfl rfl (by first | omega | decide | exact Nat.succ_pos _ | exact Nat.succ_lt_succ (Nat.succ_pos _))) ?_
  refine h_two 7 11 (by kernel_rfl) (fun w h => (h).drop (List.nil_sublist _)) ?_ ?_
  ·refine o_run (v := .int .u8 (((rv l i).getD ((l.length - 1 - i)) 0).toNat : Nat)) rfl rfl rfl (fun w h => R_ld1 z5 rfl (byV_cel 0 rfl (by rw [rv_len]; omega) h)) ?_; refine zH2 11 (fun w h => (h).drop (List.nil_sublist _)) ?_; refine o_run (v := .int .u8 (((rv l i).getD (i) 0).toNat : Nat)) rfl rfl rfl (fun w h => R_ld1 z5 rfl (byV_cel 0 rfl (by rw [rv_len]; omega) h)) ?_; refine zh2 12 rfl rfl (fun w h => (h).drop (List.nil_sublist _)) (fun w h => R_iaN (i := i) sl78 rfl rfl (by first | omega | decide | exact Nat.succ_pos _ | exact Nat.succ_lt_succ (Nat.succ_pos _))) ?_; refine zH2 13 (fun w h => (h).drop (List.nil_sublist _)) ?_
   rw [hvi, hvj]
   refine zJ (v := .int .u8 ((l.getD (l.length - 1 - i) 0).toNat : Nat)) (vs := [.int .u8 ((l.getD (l.length - 1 - i) 0).toNat : Nat)]) 0 rfl rfl z5 rfl rfl rfl rfl rfl (by rw [List.length_append, byV_len, Nat.ble_eq]; simp only [List.length_set, rv_len]; omega) (byV_put (l := rv l i) (c := l.getD (l.length - 1 - i) 0) (by simp only [List.length_set, rv_len]; omega)) ?_; refine zh2 14 rfl rfl (fun w h => (h).drop (List.nil_sublist _)) (fun w h => R_iaN (i := (l.length - 1 - i)) sl78 rfl rfl (by first | omega | decide | exact Nat.succ_pos _ | exact Nat.succ_lt_succ (Nat.succ_pos _))) ?_; refine zH2 15 (fun w h => (h).drop (List.nil_sublist _)) ?_
   refine zJ (v := .int .u8 ((l.getD i 0).toNat : Nat)) (vs := [.int .u8 ((l.getD i 0).toNat : Nat)]) 0 rfl rfl z5 rfl rfl rfl rfl rfl (by rw [List.length_append, byV_len, Nat.ble_eq]; simp only [List.length_set, rv_len]; omega) (byV_put (l := (rv l i).set i (l.getD (l.length - 1 - i) 0)) (c := l.getD i 0) (by simp only [List.length_set, rv_len]; omega)) ?_
   rw [rv_step hij]
   refine zN2 (fun w h => (h).drop (List.nil_sublist _)) ?_; refine zO (zk ?_); refine zr ?_; refine mI e2_1 ?_; refine zg (fun _ => R_addN (n := i) (b := 1) rfl rfl (by omega)) ?_; refine mI e3q ?_; refine zg (fun _ => R_subi rfl rfl (by omega)) ?_; refine aI rfl ?_; refine aI rfl ?_; refine zn ?_; exact k_again _ (by omega) ⟨i + 1, e0_1, rfl, (congrArg (Value.int .i64) (by omega)), rfl, rfl, by omega, rfl⟩
  ·refine o_run (v := .int .u8 (((rv l i).getD (i) 0).toNat : Nat)) rfl rfl rfl (fun w h => R_ld1 z5 rfl (byV_cel 0 rfl (by rw [rv_len]; omega) h)) ?_; refine zH2 7 (fun w h => (h).drop (List.nil_sublist _)) ?_; refine o_run (v := .int .u8 (((rv l i).getD ((l.length - 1 - i)) 0).toNat : Nat)) rfl rfl rfl (fun w h => R_ld1 z5 rfl (byV_cel 0 rfl (by rw [rv_len]; omega) h)) ?_; refine zh2 12 rfl rfl (fun w h => (h).drop (List.nil_sublist _)) (fun w h => R_iaN (i := i) sl78 rfl rfl (by first | omega | decide | exact Nat.succ_pos _ | exact Nat.succ_lt_succ (Nat.succ_pos _))) ?_; refine zH2 13 (fun w h => (h).drop (List.nil_sublist _)) ?_
   rw [hvi, hvj]
   refine zJ (v := .int .u8 ((l.getD (l.length - 1 - i) 0).toNat : Nat)) (vs := [.int .u8 ((l.getD (l.length - 1 - i) 0).toNat : Nat)]) 0 rfl rfl z5 rfl rfl rfl rfl rfl (by rw [List.length_append, byV_len, Nat.ble_eq]; simp only [List.length_set, rv_len]; omega) (byV_put (l := rv l i) (c := l.getD (l.length - 1 - i) 0) (by simp only [List.length_set, rv_len]; omega)) ?_; refine zh2 14 rfl rfl (fun w h => (h).drop (List.nil_sublist _)) (fun w h => R_iaN (i := (l.length - 1 - i)) sl78 rfl rfl (by first | omega | decide | exact Nat.succ_pos _ | exact Nat.succ_lt_succ (Nat.succ_pos _))) ?_; refine zH2 15 (fun w h => (h).drop (List.nil_sublist _)) ?_
   refine zJ (v := .int .u8 ((l.getD i 0).toNat : Nat)) (vs := [.int .u8 ((l.getD i 0).toNat : Nat)]) 0 rfl rfl z5 rfl rfl rfl rfl rfl (by rw [List.length_append, byV_len, Nat.ble_eq]; simp only [List.length_set, rv_len]; omega) (byV_put (l := (rv l i).set i (l.getD (l.length - 1 - i) 0)) (c := l.getD i 0) (by simp only [List.length_set, rv_len]; omega)) ?_
   rw [rv_step hij]
   refine zN2 (fun w h => (h).drop (List.nil_sublist _)) ?_; refine zO (zk ?_); refine zr ?_; refine mI e2_1 ?_; refine zg (fun _ => R_addN (n := i) (b := 1) rfl rfl (by omega)) ?_; refine mI e3q ?_; refine zg (fun _ => R_subi rfl rfl (by omega)) ?_; refine aI rfl ?_; refine aI rfl ?_; refine zn ?_; exact k_again _ (by omega) ⟨i + 1, e0_1, rfl, (congrArg (Value.int .i64) (by omega)), rfl, rfl, by omega, rfl⟩
 ·have hend : rv l i = l.reverse := rv_end (by omega)
  refine zX ?_; refine zx (zx (b_here rfl (?_)))
  refine r_none (.inr rfl) rfl ?_; exact fun w' hw => ⟨rfl, hw.f0, by have := hw.at_ 0 rfl; rw [hend] at this; exact this⟩
end Go.Proofs.YtikdkendinnalaaGreatDoor
end
section
namespace Go.Proofs.YtikdkendinnalaaGreatDoor
open Go.RowKit Go.Sx
open Go.Num
abbrev BaseW := World × (Nat → Prop)
theorem rdec_len : ∀ n : Nat, (rdec n).length ≤ bl n := by
  intro n
  induction n using Nat.strongRecOn with
  | _ n ih =>
    by_cases h : n = 0
    · subst h; rw [rdec_zero]; exact Nat.zero_le _
    · rw [rdec_pos h, List.length_cons]
      have h1 := ih (n / 10) (by omega)
      have h2 : bl (n / 10) ≤ bl (n / 2) := bl_iff.2 (Nat.lt_of_le_of_lt (by omega) (lt_bl (n / 2)))
      have h3 := bl_half h
      omega
theorem bl_sz {n k : Nat} (h : sz n ≤ k) : bl n ≤ 64 * k := by unfold sz at h; omega
theorem own_bytes {te : TypeId} {out : List UInt8} {oa : Option Addr} {oc : Nat} {W : Heap} (hO : Own te 1 (.slice oa out.length oc) (byV out) out.length W) (h : out ≠ []) : ∃ b sp, oa = some ⟨b, 0, none⟩ ∧ W = [(b, cel (byV out ++ sp) te)] := by
  rcases hO.2 with ⟨h1, h2, _⟩ | ⟨b, c9, sp, h1, _, _, h4⟩
  · exact absurd (List.length_eq_zero_iff.1 h2) h
  cases h1; exact ⟨b, sp, rfl, h4⟩
theorem byV_snoc {out : List UInt8} {r M : Nat} (h : M % 10 = r % 10) : byV out ++ [.int .u8 ((48 + r % 10 : Nat) : Int)] = byV (out ++ [lt10 M]) := by
  unfold byV
  rw [List.map_append, List.map_cons, List.map_nil, lt10_nat, h]
theorem text_mod {N r i : Nat} (hi : i < 19) : (N * 10 ^ (19 - i) + r) % 10 = r % 10 ∧ (N * 10 ^ (19 - i) + r) / 10 = N * 10 ^ (19 - (i + 1)) + r / 10 := by
  have e : N * 10 ^ (19 - i) = N * 10 ^ (19 - (i + 1)) * 10 := by rw [show 19 - i = (19 - (i + 1)) + 1 by omega, Nat.pow_succ, Nat.mul_assoc]
  rw [e]
  omega
theorem text_lt {r i : Nat} (hi : i < 19) (h : r < 10 ^ (19 - i)) : r / 10 < 10 ^ (19 - (i + 1)) := by
  rw [show 19 - i = (19 - (i + 1)) + 1 by omega, Nat.pow_succ] at h
  omega
theorem Text_ok {a : Option Addr} {k c n : Nat} (w : World) (hA : Nm w a k c n) (hs : k ≤ 1000000 ∧ sz n ≤ 2048) :
    Ret Tryz.prog 57 #[.slice a k c] w (fun v w' => v = str (Lib.decDigits n) ∧ Ext w w') := by
  have hlen : (rdec n).length ≤ 1000000 := Nat.le_trans (rdec_len n) (Nat.le_trans (bl_sz hs.2) (by decide))
  refine enter (S := No) (l := [_]) (L := []) 53 Tryz.func57 rfl rfl rfl (St.start w No) ?_; refine yA ?_; refine za (v := str _) rfl ?_; refine yB ?_; refine zq ?_; refine yA ?_; refine mS rfl ?_; refine zS slt169 (by decide) rfl rfl (fun b1 gb1 ub1 => ?_)
  refine jD Tryz.func91 (fun w h => long1_ok w (h.at_ 0 rfl) ((Kn.old hA).at_ 0 rfl h) ⟨by omega, by omega⟩) ?_; refine yB ?_; refine zG rfl ?_; refine zi ?_; refine zk ?_; refine yA ?_; refine mS rfl ?_; refine w_tel (fun w => zR Tryz.func92 rfl rfl rfl) rfl rfl (fun w h => normal_ok w ((Kn.old hA).at_ 0 rfl h) (by omega)) (fun x0 a0 c0 hK0 hN0 => ?_)
  refine za (v := .slice _ _ _) rfl ?_; refine yB ?_; refine zq ?_; refine yA ?_; refine mS rfl ?_; refine jj sl42 rfl ?_; refine zg (fun _ => R_eqN (a := (sz n)) (b := 0) rfl rfl) ?_; refine yB ?_; refine zD rfl (fun h3 => ?_) (fun h3 => ?_)
  · obtain rfl : n = 0 := sz_eq_zero.1 h3
    refine yA ?_; refine za (v := str _) rfl ?_; refine yB ?_; refine ze ?_; refine zt (?_)
    refine zo (v := str _) rfl rfl rfl ?_; exact fun w' hw => ⟨by rw [decDigits_zero], hw.fr (w, No) zm1⟩
  have hn0 : n ≠ 0 := fun h => h3 (by rw [h]; rfl)
  refine zi ?_; refine zk ?_; refine yA ?_; refine za (v := .slice _ _ _) rfl ?_; refine yB ?_; refine zq ?_; refine zB ?_; refine c_st (B' := _) (L' := [] ++ []) (fun w h => h.drop (List.nil_sublist _)) ?_; refine c_loop (fun m9 e B L => ∃ (N : Nat) (xN : BaseW) (aN : Option Addr) (cN : Nat) (out : List UInt8) (oa : Option Addr) (oc : Nat) (W : Heap), e 0 = .slice aN (sz N) cN ∧ e 3 = .slice oa out.length oc ∧ B = [xN, (w, No)] ∧ L = W ++ [] ∧ Kn xN aN (sz N) cN N ∧ Own 5 1 (.slice oa out.length oc) (byV out) out.length W ∧ rdec n = out ++ rdec N ∧ N ≤ n ∧ m9 = N + 1) _ ⟨n, x0, a0, c0, [], none, 0, [], rfl, rfl, rfl, rfl, hK0, Own.nil _ _, rfl, Nat.le_refl _, rfl⟩ ?_
  rintro m9 e B L ⟨N, xN, aN, cN, out, oa, oc, W, e0_1, e3_1, rfl, rfl, hKN, hO, hr, hNle, rfl⟩
  refine zq ?_; refine yA ?_; refine mS e0_1 ?_; refine jj sl42 rfl ?_; refine zg (fun _ => R_gtN (a := (sz N)) (b := 0) rfl rfl) ?_; refine yB ?_; refine zD rfl (fun h4 => ?_) (fun h4 => ?_)
  · have hNz : N ≠ 0 := (fun h => by rw [h] at h4; exact absurd h4 (by decide)); have hsN := sz_mono hNle
    refine zi ?_; refine zk ?_; refine zB ?_; refine yA ?_; refine aI rfl ?_; refine yC ?_; refine mS e0_1 ?_; refine w_tel (fun w => zR Tryz.func93 rfl rfl rfl) rfl rfl (fun w h => small_ok (d := 10000000000000000000) w (hKN.at_ 0 rfl h) ⟨by decide, by decide⟩ (by omega)) (fun xq aq cq hKq hNq => ?_)
    refine zm rfl ?_; refine jx rfl rfl ?_; refine jx rfl rfl ?_; refine za (v := .slice _ _ _) rfl ?_; refine aI rfl ?_; refine yC ?_; refine aI rfl ?_; refine yB ?_; refine zB ?_
    refine c_loop (fun m9 e B L => ∃ (r i : Nat) (out : List UInt8) (oa : Option Addr) (oc : Nat) (W : Heap), e 0 = .slice aq (sz (N / 10000000000000000000)) cq ∧ e 3 = .slice oa out.length oc ∧ e 4 = .int .u64 (r : Nat) ∧ e 5 = .int .i64 (i : Nat) ∧ B = [xq, xN, (w, No)] ∧ L = W ++ [] ∧ i ≤ 19 ∧ r < 10 ^ (19 - i) ∧ Own 5 1 (.slice oa out.length oc) (byV out) out.length W ∧ rdec n = out ++ rdec ((N / 10000000000000000000) * 10 ^ (19 - i) + r) ∧ m9 = 19 - i) _ ⟨_, 0, out, oa, oc, W, rfl, e3_1, rfl, rfl, rfl, rfl, Nat.zero_le _, Nat.mod_lt _ (by decide), hO, by rw [hr]; congr 2; exact (Nat.div_add_mod' N 10000000000000000000).symm, rfl⟩ ?_
    rintro m9 e B L ⟨r, i, out, oa, oc, W, e0_2, e3_2, e4_2, e5_2, rfl, rfl, hi, hrl, hO, hr, rfl⟩
    have hol : out.length ≤ 1000000 := (by have := congrArg List.length hr; rw [List.length_append] at this; omega)
    have hr19 : r < 10000000000000000000 := (by have h9 : (10 : Nat) ^ 19 = 10000000000000000000 := (by decide); rw [← h9]; exact Nat.lt_of_lt_of_le hrl (Nat.pow_le_pow_right (by decide) (by omega)))
    have hBv : Go.Num.B = 18446744073709551616 := rfl
    refine zq ?_; refine yA ?_; refine mI e5_2 ?_; refine zg (fun _ => R_ltN (a := i) (b := 19) rfl rfl) ?_; refine mB rfl ?_; refine zd (t := 24) rfl (fun h6 => ?_) (fun h6 => ?_)
    · refine zw rfl rfl (bT h6) ?_; refine mI e4_2 ?_; refine zw rfl rfl (bT h6) ?_; refine zg (fun _ => R_gtN (a := r) (b := 0) rfl rfl) ?_; refine zw rfl rfl (bT h6) ?_; refine mB rfl ?_; refine zd (t := 27) rfl (fun h7 => ?_) (fun h7 => ?_)
      · have hi19 := h6; have hM0 : (N / 10000000000000000000) * 10 ^ (19 - i) + r ≠ 0 := (by omega); have htm := text_mod (N := (N / 10000000000000000000)) (r := r) hi19; have hrd := rdec_pos hM0; rw [htm.2] at hrd; rw [hrd] at hr
        refine zs rfl rfl (bT h7) ?_; refine zs rfl rfl (bT h7) ?_; refine zs rfl rfl (bT h7) ?_; refine zw rfl rfl (bT h6) ?_; refine jT (bT h7) rfl ?_; refine jT (bT h6) rfl ?_; refine yB ?_; refine zE rfl ?_; refine zi ?_; refine zk ?_; refine zq ?_; refine zB ?_; refine yA ?_; refine mS e3_2 ?_; refine mS e3_2 ?_; refine jj sl78 rfl ?_; refine mS e3_2 ?_; refine jj sl78 rfl ?_; refine zg (fun _ => R_cutN (q := out.length) sl78 rfl rfl rfl (Own.le hO)) ?_
        refine mI e4_2 ?_; refine zg (fun _ => R_remU (a := r) (b := 10) rfl rfl (by omega)) ?_; refine zg (fun _ => R_addU (a := 48) (b := (r % 10)) rfl rfl (by omega)) ?_; refine zg (fun _ => R_convK (n := (48 + (r % 10))) un75 un5 rfl (wrap_u8 (by omega))) ?_; refine zS slt78 (by decide) rfl rfl (fun lb glb ulb => ?_)
        refine w_st (B' := _) (L' := [_] ++ (W ++ [])) (fun w h => h) ?_; refine w_appCap [_] slt78 hO rfl rfl (u := .int .u8 ((48 + r % 10 : Nat) : Int)) (fun w h => zc 0 rfl rfl h) rfl hol (by decide) (fun v1 W1 hO1 => ?_)
        obtain ⟨a1, c1, rfl⟩ := hO1.slice
        refine za (v := .slice _ _ _) rfl ?_; refine yB ?_; refine zr ?_; refine mI e4_2 ?_; refine zg (fun _ => R_quoU (a := r) (b := 10) rfl rfl (by omega) (by omega)) ?_; refine aI rfl ?_; refine zn ?_; refine zO (zk ?_); refine zr ?_; refine mI e5_2 ?_; refine zg (fun _ => R_addN (n := i) (b := 1) rfl rfl (by omega)) ?_; refine aI rfl ?_; refine zn ?_; refine zK (B' := [xq, xN, (w, No)]) (L' := W1 ++ []) (fun w h => h.d1) ?_
        rw [byV_snoc htm.1] at hO1
        exact k_again _ (by omega) ⟨(r / 10), i + 1, out ++ [lt10 ((N / 10000000000000000000) * 10 ^ (19 - i) + r)], a1, c1, W1, e0_2, by rw [List.length_append]; rfl, rfl, rfl, rfl, rfl, by omega, text_lt hi19 hrl, by rw [List.length_append]; exact hO1, by rw [hr]; simp, rfl⟩
      refine zw rfl rfl (bF h7) ?_; refine mS e0_2 ?_; refine zw rfl rfl (bF h7) ?_; refine jj sl42 rfl ?_; refine zw rfl rfl (bF h7) ?_; refine zg (fun _ => R_gtN (a := (sz (N / 10000000000000000000))) (b := 0) rfl rfl) ?_; refine zw rfl rfl (bT h6) ?_; refine jF (bF h7) rfl ?_; refine jT (bT h6) rfl ?_; refine yB ?_; refine zD rfl (fun h8 => ?_) (fun h8 => ?_)
      · have hi19 := h6; have hM0 : (N / 10000000000000000000) * 10 ^ (19 - i) + r ≠ 0 := (by have hN2 : 0 < (N / 10000000000000000000) := Nat.pos_of_ne_zero (fun h => by rw [h] at h8; exact absurd h8 (by decide)); have := Nat.mul_pos hN2 (Nat.pow_pos (n := 19 - i) (show 0 < 10 by decide)); omega); have htm := text_mod (N := (N / 10000000000000000000)) (r := r) hi19; have hrd := rdec_pos hM0; rw [htm.2] at hrd; rw [hrd] at hr
        refine zi ?_; refine zk ?_; refine zq ?_; refine zB ?_; refine yA ?_; refine mS e3_2 ?_; refine mS e3_2 ?_; refine jj sl78 rfl ?_; refine mS e3_2 ?_; refine jj sl78 rfl ?_; refine zg (fun _ => R_cutN (q := out.length) sl78 rfl rfl rfl (Own.le hO)) ?_; refine mI e4_2 ?_; refine zg (fun _ => R_remU (a := r) (b := 10) rfl rfl (by omega)) ?_; refine zg (fun _ => R_addU (a := 48) (b := (r % 10)) rfl rfl (by omega)) ?_; refine zg (fun _ => R_convK (n := (48 + (r % 10))) un75 un5 rfl (wrap_u8 (by omega))) ?_; refine zS slt78 (by decide) rfl rfl (fun lb glb ulb => ?_)
        refine w_st (B' := _) (L' := [_] ++ (W ++ [])) (fun w h => h) ?_; refine w_appCap [_] slt78 hO rfl rfl (u := .int .u8 ((48 + r % 10 : Nat) : Int)) (fun w h => zc 0 rfl rfl h) rfl hol (by decide) (fun v1 W1 hO1 => ?_)
        obtain ⟨a1, c1, rfl⟩ := hO1.slice
        refine za (v := .slice _ _ _) rfl ?_; refine yB ?_; refine zr ?_; refine mI e4_2 ?_; refine zg (fun _ => R_quoU (a := r) (b := 10) rfl rfl (by omega) (by omega)) ?_; refine aI rfl ?_; refine zn ?_; refine zO (zk ?_); refine zr ?_; refine mI e5_2 ?_; refine zg (fun _ => R_addN (n := i) (b := 1) rfl rfl (by omega)) ?_; refine aI rfl ?_; refine zn ?_; refine zK (B' := [xq, xN, (w, No)]) (L' := W1 ++ []) (fun w h => h.d1) ?_
        rw [byV_snoc htm.1] at hO1
        exact k_again _ (by omega) ⟨(r / 10), i + 1, out ++ [lt10 ((N / 10000000000000000000) * 10 ^ (19 - i) + r)], a1, c1, W1, e0_2, by rw [List.length_append]; rfl, rfl, rfl, rfl, rfl, by omega, text_lt hi19 hrl, by rw [List.length_append]; exact hO1, by rw [hr]; simp, rfl⟩
      have h0 : (N / 10000000000000000000) = 0 := sz_eq_zero.1 (by omega); have hfin : rdec n = out ++ rdec (N / 10000000000000000000) := (by rw [h0, Nat.zero_mul, Nat.zero_add, show r = 0 by omega] at hr; rw [h0]; exact hr)
      refine zX ?_; refine zx (zx (b_here rfl (zO (?_))))
      refine zK (B' := [xq, (w, No)]) (L' := _) (fun w h => h.unbase (fun x hx => by rcases List.mem_cons.1 hx with rfl | hx; exact .head _; exact .tail _ (.tail _ hx))) ?_; exact k_again _ (by have := Nat.div_lt_self (Nat.pos_of_ne_zero hNz) (show 1 < 10000000000000000000 by decide); omega) ⟨(N / 10000000000000000000), xq, aq, cq, out, oa, oc, W, e0_2, e3_2, rfl, rfl, hKq, hO, hfin, Nat.le_trans (Nat.div_le_self _ _) hNle, rfl⟩
    have hfin : rdec n = out ++ rdec (N / 10000000000000000000) := (by obtain rfl : i = 19 := (by omega); rw [Nat.sub_self, Nat.pow_zero] at hrl; obtain rfl : r = 0 := (by omega); rw [Nat.sub_self, Nat.pow_zero, Nat.mul_one, Nat.add_zero] at hr; exact hr)
    refine zs rfl rfl (bF h6) ?_; refine zs rfl rfl (bF h6) ?_; refine zs rfl rfl (bF h6) ?_; refine zU rfl rfl rfl ?_; refine zU rfl rfl rfl ?_; refine zU rfl rfl rfl ?_; refine zs rfl rfl (bF h6) ?_; refine jF (bF h6) rfl ?_; refine yB ?_; refine zG rfl ?_; refine zX ?_; refine zx (zx (b_here rfl (zO (?_))))
    refine zK (B' := [xq, (w, No)]) (L' := _) (fun w h => h.unbase (fun x hx => by rcases List.mem_cons.1 hx with rfl | hx; exact .head _; exact .tail _ (.tail _ hx))) ?_; exact k_again _ (by have := Nat.div_lt_self (Nat.pos_of_ne_zero hNz) (show 1 < 10000000000000000000 by decide); omega) ⟨(N / 10000000000000000000), xq, aq, cq, out, oa, oc, W, e0_2, e3_2, rfl, rfl, hKq, hO, hfin, Nat.le_trans (Nat.div_le_self _ _) hNle, rfl⟩
  obtain rfl : N = 0 := sz_eq_zero.1 (by omega); rw [rdec_zero, List.append_nil] at hr; have hol : out.length ≤ 1000000 := (by rw [← hr]; exact hlen); obtain ⟨ob, sp, rfl, rfl⟩ := own_bytes hO (by rw [← hr, rdec_pos hn0]; simp)
  refine zX ?_; refine zx (zx (b_here rfl (zk ?_))); refine yA ?_; refine mS e3_1 ?_; refine w_call1 0 rfl (fun w => zR Tryz.func94 rfl rfl rfl) rfl rfl (fun w h => Reverse_ok out sp ob oc _ w (h.at_ 0 rfl) hol) ?_; refine yC ?_; refine mS e3_1 ?_; refine w_convT (l := out.reverse) (cs := sp) 0 rfl un78 un5 un9 (by rw [List.length_reverse]; exact rfl) ?_; refine za (v := str _) rfl ?_; refine yB ?_; refine ze ?_; refine zo (v := str _) rfl rfl rfl ?_; exact fun w' hw => ⟨by rw [dec_rev hn0, hr], hw.fr (w, No) zm1⟩
end Go.Proofs.YtikdkendinnalaaGreatDoor
end
section
namespace Go.Proofs.YtikdkendinnalaaGreatDoor
open Go.RowKit Go.Sx
open Go.Num
def bad (l : List UInt8) : Int := match l.findIdx? (fun c => !isD c) with | some i => (i : Nat) | none => -1
theorem bad_at {l : List UInt8} {i : Nat} {c : UInt8} (h : (l.take i).all isD = true) (hc : l[i]? = some c) (hd : isD c = false) : bad l = (i : Nat) := by
  obtain ⟨hil, hic⟩ := (List.getElem?_eq_some_iff.1 hc)
  have : l.findIdx? (fun c => !isD c) = some i := by
    rw [List.findIdx?_eq_some_iff_getElem]
    refine ⟨hil, by rw [hic, hd]; rfl, fun j hj => ?_⟩
    have hjl : j < l.length := by omega
    have := List.all_eq_true.1 h l[j] (by
      have : (l.take i)[j]? = some l[j] := by rw [List.getElem?_take_of_lt hj, List.getElem?_eq_getElem]
      exact List.mem_of_getElem? this)
    simp [this]
  unfold bad; rw [this]
theorem bad_none {l : List UInt8} (h : l.all isD = true) : bad l = -1 := by
  have : l.findIdx? (fun c => !isD c) = none := by
    rw [List.findIdx?_eq_none_iff]
    intro x hx
    rw [List.all_eq_true.1 h x hx]; rfl
  unfold bad; rw [this]
theorem bad_ge (l : List UInt8) : decide (0 ≤ bad l) = !l.all isD := by
  cases h : l.all isD
  · have h2 : ∃ x ∈ l, isD x = false := by
      by_cases h3 : ∃ x ∈ l, isD x = false
      · exact h3
      · exfalso
        have : l.all isD = true := List.all_eq_true.2 fun x hx => by
          cases hq : isD x
          · exact absurd ⟨x, hx, hq⟩ h3
          · rfl
        rw [h] at this; cases this
    cases hf : l.findIdx? (fun c => !isD c) with
    | none =>
      obtain ⟨x, hx, hd⟩ := h2
      have := List.findIdx?_eq_none_iff.1 hf x hx
      rw [hd] at this; cases this
    | some i =>
      unfold bad; rw [hf]
      simp
  · rw [bad_none h]; rfl
theorem take_all {l : List UInt8} {i : Nat} {c : UInt8} (h : (l.take i).all isD = true) (hc : l[i]? = some c) (hd : isD c = true) : (l.take (i + 1)).all isD = true := by
  rw [List.take_add_one, hc, List.all_append, h]
  simp [hd]
theorem isD_def (c : UInt8) : isD c = decide (48 ≤ c.toNat ∧ c.toNat ≤ 57) := rfl
theorem pv_lt : ∀ (l : List UInt8), l.all isD = true → pv 0 l < 10 ^ l.length := by
  intro l
  have h : ∀ (l : List UInt8) (a m : Nat), l.all isD = true → a < 10 ^ m → pv a l < 10 ^ (m + l.length) := by
    intro l
    induction l with
    | nil => intro a m _ h; exact h
    | cons c l ih =>
      intro a m hl ha
      simp only [List.all_cons, Bool.and_eq_true] at hl
      have hc := parse_dig hl.1
      rw [pv_cons, List.length_cons, show m + (l.length + 1) = (m + 1) + l.length by omega]
      exact ih _ _ hl.2 (by rw [Nat.pow_succ]; omega)
  intro hl
  have := h l 0 0 hl (by decide)
  rwa [Nat.zero_add] at this
theorem sz_ten {x k : Nat} (h : x < 10 ^ k) : sz x ≤ k := sz_iff.2 (Nat.lt_of_lt_of_le h (Nat.pow_le_pow_left (by decide) k))
theorem all_take {l : List UInt8} (h : l.all isD = true) (j : Nat) : (l.take j).all isD = true := List.all_eq_true.2 fun x hx => List.all_eq_true.1 h x (List.mem_of_mem_take hx)
def npe (s : List UInt8) : Int := match npv s with | none => 5 | some _ => 0
theorem npe_bad {s : List UInt8} (h : s = [] ∨ s.all isD = false) : npv s = none := by unfold npv; rw [if_pos h]
theorem npe_ok {s : List UInt8} (h : ¬ s = []) (h2 : s.all isD = true) : npv s = some (pv 0 s) := by unfold npv; rw [if_neg (by rw [h2]; simp [h])]
theorem R_subB {P : Program} {ρ : Operand → Value} {w : World} {D : Option Tmp} {t ty yt : TypeId} {pos : String} {aft : Array Edge} {g : Option (Nat × Bool)} {x y : Operand} {a b : Nat} (hx : ρ x = .int .u8 (a : Nat)) (hy : ρ y = .int .u8 (b : Nat)) (h : b ≤ a) (h2 : a < 256) : Run P ⟨D, .binOp .sub t x y yt, ty, pos, aft, g⟩ ρ w (.int .u8 ((a - b : Nat) : Int)) w := by
  have := R_sub (P := P) (w := w) (D := D) (t := t) (ty := ty) (yt := yt) (pos := pos) (aft := aft) (g := g) hx hy
  rwa [show ((a : Int) - (b : Int)) = ((a - b : Nat) : Int) by omega, wrap_u8 (by omega)] at this
def Bys (w : World) (b : Nat) (l : List UInt8) : Prop := ∀ (j : Nat) u, l[j]? = some u → w.cell? ⟨b, j, none⟩ = some (.int .u8 (u.toNat : Nat))
theorem Bys.ext {w w' : World} {b : Nat} {l : List UInt8} (h : Bys w b l) (k : Ext w w') : Bys w' b l := fun j u hj => k.cell (h j u hj) (fun x => x)
theorem notD_ok (c : UInt8) (w : World) :
    Ret Tryz.prog 191 #[.int .u8 (c.toNat : Nat)] w (fun v w' => v = .bool (!isD c) ∧ Ext w w') := by
  refine enter (S := No) (l := [_]) (L := []) 9 Tryz.func191 rfl rfl rfl (St.start w No) ?_; refine yA ?_; refine aB rfl ?_; refine yC ?_; refine mI rfl ?_; refine zg (fun _ => R_ltN (a := (c.toNat)) (b := 48) rfl rfl) ?_; refine mB rfl ?_; refine zd (t := 5) rfl (fun h1 => ?_) (fun h1 => ?_)
  · refine zs rfl rfl (bT h1) ?_; refine zs rfl rfl (bT h1) ?_; refine jT (bT h1) rfl ?_; refine aB rfl ?_; refine yB ?_; refine ze ?_; refine zo (v := .bool _) rfl rfl rfl ?_; exact fun w' hw => ⟨by rw [isD_def, decide_eq_false (by omega)]; rfl, hw.fr (w, No) zm0⟩
  refine zw rfl rfl (bF h1) ?_; refine mI rfl ?_; refine zw rfl rfl (bF h1) ?_; refine zg (fun _ => R_gtN (a := (c.toNat)) (b := 57) rfl rfl) ?_; refine jF (bF h1) rfl ?_; refine aB rfl ?_; refine yB ?_; refine ze ?_; refine zo (v := .bool _) rfl rfl rfl ?_; exact fun w' hw => ⟨by rw [isD_def]; congr 1; by_cases h : 57 < c.toNat; (rw [decide_eq_true h, decide_eq_false (by omega)]; rfl); (rw [decide_eq_false h, decide_eq_true (by omega)]; rfl), hw.fr (w, No) zm0⟩
theorem badI_ok (l : List UInt8) (b c : Nat) (w : World) (hb : Bys w b l) (hl : l.length ≤ 1000000) :
    Ret Tryz.prog 202 #[.slice (some ⟨b, 0, none⟩) l.length c, .func (.func 191) #[] #[]] w (fun v w' => v = .int .i64 (bad l) ∧ Ext w w') := by
  refine enter (S := No) (l := [_, _]) (L := []) 19 Tryz.func202 rfl rfl rfl (St.start w No) ?_; refine yA ?_; refine aI rfl ?_; refine yB ?_; refine zq ?_; refine yA ?_; refine mS rfl ?_; refine jj sl78 rfl ?_; refine mI rfl ?_; refine yB ?_; refine zB ?_; refine c_loop (fun m9 e B L => ∃ (i : Nat), e 0 = .slice (some ⟨b, 0, none⟩) l.length c ∧ e 1 = .func (.func 191) #[] #[] ∧ e 7 = .int .i64 (l.length : Nat) ∧ e 8 = .int .i64 (i : Nat) ∧ B = [(w, No)] ∧ L = [] ∧ i ≤ l.length ∧ (l.take i).all isD = true ∧ m9 = l.length - i) _ ⟨0, rfl, rfl, rfl, rfl, rfl, rfl, Nat.zero_le _, rfl, rfl⟩ ?_
  rintro m9 e B L ⟨i, e0_1, e1_1, e7_1, e8_1, rfl, rfl, hi, hd, rfl⟩
  refine yA ?_; refine zg (fun _ => R_ltN (a := i) (b := (l.length)) e8_1 e7_1) ?_; refine yB ?_; refine zq ?_; refine zD rfl (fun h1 => ?_) (fun h1 => ?_)
  · obtain ⟨u, hu⟩ : ∃ u, l[i]? = some u := ⟨_, List.getElem?_eq_getElem h1⟩
    refine zi ?_; refine zk ?_; refine zq ?_; refine zB ?_; refine yA ?_; refine mI e8_1 ?_; refine aI rfl ?_; refine yC ?_; refine zm e1_1 ?_; refine mS e0_1 ?_; refine mI rfl ?_; refine zg (fun _ => R_iaN (i := i) sl78 rfl rfl (by first | omega | decide | exact Nat.succ_pos _ | exact Nat.succ_lt_succ (Nat.succ_pos _))) ?_; refine zl (v := .int .u8 (u.toNat : Nat)) z5 rfl (fun w1 h => h.oldc zm0 (by rw [Nat.zero_add, Nat.mul_one]; exact hb i u hu)) ?_; refine zC (fun w => R_callv rfl Tryz.func191 rfl rfl) rfl rfl (fun w h => notD_ok u w) ?_; refine yB ?_; refine c_cond rfl (fun h2 => ?_) (fun h2 => ?_)
    · refine yA ?_; refine mI rfl ?_; refine aI rfl ?_; refine yB ?_; refine ze ?_; refine zb (zt (zt (zb (zt (?_)))))
      refine zo (v := .int _ _) rfl rfl rfl ?_; exact fun w' hw => ⟨by rw [bad_at hd hu (by simpa using h2)], hw.fr (w, No) zm0⟩
    refine zi ?_; refine zO (zk ?_); refine zr ?_; refine zg (fun _ => R_addN (n := i) (b := 1) e8_1 rfl (by omega)) ?_; refine mI rfl ?_; refine zn ?_; exact k_again _ (by omega) ⟨i + 1, e0_1, e1_1, e7_1, rfl, rfl, rfl, by omega, take_all hd hu (by simpa using h2), rfl⟩
  refine zX ?_; refine zx (zx (b_here rfl (zk ?_))); refine yA ?_; refine aI rfl ?_; refine yB ?_; refine ze ?_; refine zo (v := .int _ _) rfl rfl rfl ?_; exact fun w' hw => ⟨by rw [bad_none (by obtain rfl : i = l.length := (by omega); rw [List.take_length] at hd; exact hd)], hw.fr (w, No) zm0⟩
theorem badC_ok (l : List UInt8) (b c : Nat) (w : World) (hb : Bys w b l) (hl : l.length ≤ 1000000) :
    Ret Tryz.prog 190 #[.slice (some ⟨b, 0, none⟩) l.length c, .func (.func 191) #[] #[]] w (fun v w' => v = .bool (!l.all isD) ∧ Ext w w') := by
  refine enter (S := No) (l := [_, _]) (L := []) 9 Tryz.func190 rfl rfl rfl (St.start w No) ?_; refine yA ?_; refine aB rfl ?_; refine yC ?_; refine mS rfl ?_; refine zm rfl ?_; refine jD Tryz.func202 (fun w h => badI_ok l b c w (hb.ext (h.fr (_, No) zm0)) hl) ?_; refine jh rfl rfl ?_; refine aB rfl ?_; refine yB ?_; refine ze ?_; refine zo (v := .bool _) rfl rfl rfl ?_; exact fun w' hw => ⟨by rw [← bad_ge], hw.fr (w, No) zm0⟩
theorem Parse_ok (s : List UInt8) (w : World) (hs : s.length ≤ 400) :
    Ret Tryz.prog 172 #[str s] w (Tel (fun a c => .tuple #[.slice a (sz ((npv s).getD 0)) c, .int .i64 (npe s)]) (sz ((npv s).getD 0)) ((npv s).getD 0) w) := by
  refine enter (S := No) (l := [_]) (L := []) 64 Tryz.func172 rfl rfl rfl (St.start w No) ?_; refine yA ?_; refine za (v := .slice _ _ _) rfl ?_; refine aI rfl ?_; refine yB ?_; refine zq ?_; refine yA ?_; refine zm (v := str _) rfl ?_; refine zg (fun _ => R_slen st9 rfl (by omega)) ?_; refine jg rfl rfl ?_; refine yB ?_; refine zD rfl (fun h1 => ?_) (fun h1 => ?_)
  · omega
  refine zi ?_; refine zk ?_; refine zq ?_; refine yA ?_; refine zm (v := str _) rfl ?_; refine js rfl rfl ?_; refine mB rfl ?_; refine zd (t := 14) rfl (fun h2 => ?_) (fun h2 => ?_)
  · have hnp := npe_bad (s := s) (.inl h2); have hE : npe s = 5 := (by unfold npe; rw [hnp])
    refine zs rfl rfl (bT h2) ?_; refine zs rfl rfl (bT h2) ?_; refine zs rfl rfl (bT h2) ?_; refine jT (bT h2) rfl ?_; refine yB ?_; refine zE rfl ?_; refine yA ?_; refine za (v := .slice _ _ _) rfl ?_; refine aI rfl ?_; refine yB ?_; refine ze ?_; refine zt (?_)
    rw [hE, hnp, Option.getD_none]
    refine r_two (v := .slice _ _ _) (v2 := .int _ _) rfl rfl rfl rfl rfl ?_; exact fun w' hw => ⟨none, 0, rfl, Nm.nil _, Fsh.nil _ _, hw.fr (w, No) zm0⟩
  refine zw rfl rfl (bF h2) ?_; refine zm (v := str _) rfl ?_; refine zw rfl rfl (bF h2) ?_; refine w_convS un9 un78 un5 rfl (fun sb cap ob hcap hob => ?_)
  refine zw rfl rfl (bF h2) ?_; refine jD Tryz.func190 (fun w h => badC_ok s sb cap w (hob w (h.at_ 0 rfl)) (by omega)) ?_; refine jF (bF h2) rfl ?_; refine yB ?_; refine c_cond rfl (fun h3 => ?_) (fun h3 => ?_)
  · have hnp := npe_bad (s := s) (.inr (by simpa using h3)); have hE : npe s = 5 := (by unfold npe; rw [hnp])
    refine yA ?_; refine za (v := .slice _ _ _) rfl ?_; refine aI rfl ?_; refine yB ?_; refine ze ?_; refine zt (?_)
    rw [hE, hnp, Option.getD_none]
    refine r_two (v := .slice _ _ _) (v2 := .int _ _) rfl rfl rfl rfl rfl ?_; exact fun w' hw => ⟨none, 0, rfl, Nm.nil _, Fsh.nil _ _, hw.fr (w, No) zm0⟩
  have hall : s.all isD = true := (by simpa using h3); have hnp := npe_ok h2 hall; have hE : npe s = 0 := (by unfold npe; rw [hnp])
  refine zi ?_; refine zk ?_; refine yA ?_; refine za (v := .slice _ _ _) rfl ?_; refine yB ?_; refine zq ?_; refine yA ?_; refine aI rfl ?_; refine yB ?_; refine zB ?_; refine c_st (B' := [(w, No), (w, No)]) (L' := []) (fun w h => (h.drop (List.nil_sublist _)).unbase (fun x hx => by rcases List.mem_cons.1 hx with rfl | hx; (exact .head _); exact hx)) ?_; refine c_loop (fun m9 e B L => ∃ (N i : Nat) (xN : BaseW) (aN : Option Addr) (cN : Nat), e 0 = str s ∧ e 4 = .slice aN (sz N) cN ∧ e 5 = .int .i64 (i : Nat) ∧ B = [xN, (w, No)] ∧ L = [] ∧ i ≤ s.length ∧ Kn xN aN (sz N) cN N ∧ New_ [(w, No)] aN (sz N) ∧ N = pv 0 (s.take i) ∧ m9 = s.length - i) _ ⟨0, 0, (w, No), none, 0, rfl, rfl, rfl, rfl, rfl, Nat.zero_le _, Kn.old (Nm.nil w), fun _ _ => Fsh.nil _ _, rfl, rfl⟩ ?_
  rintro m9 e B L ⟨N, i, xN, aN, cN, e0_1, e4_1, e5_1, rfl, rfl, hi, hKN, hNN, hN, rfl⟩
  refine zq ?_; refine yA ?_; refine mI e5_1 ?_; refine zm (v := str _) e0_1 ?_; refine zg (fun _ => R_slen st9 rfl (by omega)) ?_; refine jl rfl rfl ?_; refine yB ?_; refine zD rfl (fun h4 => ?_) (fun h4 => ?_)
  · refine zi ?_; refine zk ?_; refine zB ?_; refine yA ?_; refine aI rfl ?_; refine aI rfl ?_; refine yB ?_; refine zq ?_; refine zB ?_; refine c_loop (fun m9 e B L => ∃ (j n by_ : Nat), e 0 = str s ∧ e 4 = .slice aN (sz N) cN ∧ e 5 = .int .i64 (j : Nat) ∧ e 6 = .int .u64 (n : Nat) ∧ e 7 = .int .u64 (by_ : Nat) ∧ B = [xN, (w, No)] ∧ L = [] ∧ i ≤ j ∧ j ≤ s.length ∧ by_ = 10 ^ (j - i) ∧ by_ < 10000000000000000000 ∧ pv 0 (s.take j) = N * by_ + n ∧ n < by_ ∧ (i < j ∨ (i < s.length ∧ by_ = 1)) ∧ m9 = s.length - j) _ ⟨i, 0, 1, e0_1, e4_1, e5_1, rfl, rfl, rfl, rfl, Nat.le_refl _, hi, by rw [Nat.sub_self], by decide, by rw [← hN, Nat.mul_one, Nat.add_zero], by decide, .inr ⟨by omega, rfl⟩, rfl⟩ ?_
    rintro m9 e B L ⟨j, n, by_, e0_2, e4_2, e5_2, e6_2, e7_2, rfl, rfl, hij, hj, hby, hby9, hpv, hnb, hgo, rfl⟩
    have hBv : Go.Num.B = 18446744073709551616 := rfl
    have hz1 : sz (N * by_ + n) ≤ 400 := (by have := sz_ten (pv_lt _ (all_take hall j)); rw [hpv, List.length_take] at this; exact Nat.le_trans this (Nat.le_trans (Nat.min_le_right _ _) hs))
    have hz2 := sz_mono (Nat.le_add_right (N * by_) n)
    have hz3 : sz N ≤ sz (N * by_) := sz_mono (Nat.le_mul_of_pos_right N (by omega))
    have hz4 : sz by_ ≤ 1 := sz_iff.2 (by rw [Nat.pow_one]; omega)
    refine zq ?_; refine yA ?_; refine mI e5_2 ?_; refine zm (v := str _) e0_2 ?_; refine zg (fun _ => R_slen st9 rfl (by omega)) ?_; refine jl rfl rfl ?_; refine mB rfl ?_; refine zd (t := 27) rfl (fun h5 => ?_) (fun h5 => ?_)
    · refine zw rfl rfl (bT h5) ?_; refine mI e7_2 ?_; refine zw rfl rfl (bT h5) ?_; refine zg (fun _ => R_ltN (a := by_) (b := 1000000000000000000) rfl rfl) ?_; refine jT (bT h5) rfl ?_; refine yB ?_; refine zD rfl (fun h6 => ?_) (fun h6 => ?_)
      · obtain ⟨ch, hch⟩ : ∃ c, s[j]? = some c := ⟨_, List.getElem?_eq_getElem (by omega)⟩; have hcd := List.all_eq_true.1 hall ch (List.mem_of_getElem? hch); have hc9 := parse_dig hcd
        refine zi ?_; refine zk ?_; refine zq ?_; refine zB ?_; refine zr ?_; refine mI e6_2 ?_; refine zg (fun _ => R_mulU (a := n) (b := 10) rfl rfl (by omega)) ?_; refine zm (v := str _) e0_2 ?_; refine mI e5_2 ?_; refine w_sidx (a := s) (i := j) st9 rfl rfl (by omega) ?_
        rw [show s[j] = ch from (List.getElem?_eq_some_iff.1 hch).2]
        refine zg (fun _ => R_subB (a := ch.toNat) (b := 48) rfl rfl (by omega) (by omega)) ?_; refine zg (fun _ => R_convK (n := (ch.toNat - 48)) un5 un75 rfl (wrap_u (by omega))) ?_; refine zg (fun _ => R_addU (a := (n * 10)) (b := (ch.toNat - 48)) rfl rfl (by omega)) ?_; refine mI e7_2 ?_; refine zg (fun _ => R_mulU (a := by_) (b := 10) rfl rfl (by omega)) ?_; refine aI rfl ?_; refine aI rfl ?_; refine zn ?_; refine zO (zk ?_); refine zr ?_; refine mI e5_2 ?_; refine zg (fun _ => R_addN (n := j) (b := 1) rfl rfl (by omega)) ?_; refine aI rfl ?_; refine zn ?_
        exact k_again _ (by omega) ⟨j + 1, (n * 10 + (ch.toNat - 48)), (by_ * 10), e0_2, e4_2, rfl, rfl, rfl, rfl, rfl, by omega, by omega, by rw [hby, show j + 1 - i = (j - i) + 1 by omega, Nat.pow_succ], by omega, by rw [List.take_add_one, hch, pv_app, hpv]; show (N * by_ + n) * 10 + (ch.toNat - 48) = _; rw [Nat.add_mul, Nat.mul_assoc]; omega, by omega, .inl (by omega), rfl⟩
      have hfin := hpv.symm
      refine zX ?_; refine zx (zx (b_here rfl (zk ?_))); refine yA ?_; refine aI rfl ?_; refine yB ?_; refine zq ?_; refine yA ?_; refine mS e4_2 ?_; refine mI e7_2 ?_; refine zS slt42 (by decide) rfl rfl (fun lb glb ulb => ?_)
      refine w_tel (fun w => zR Tryz.func131 rfl rfl rfl) rfl rfl (fun w h => Mul_ok w (hKN.at_ 0 rfl h) (Nm.one (h.at_ 0 rfl) (by omega)) ⟨by omega, by omega, by omega, by omega, by omega⟩) (fun xp ap cp hKp hNp => ?_)
      refine zm rfl ?_; refine jx rfl rfl ?_; refine jx rfl rfl ?_; refine za (v := .slice _ _ _) rfl ?_; refine aI rfl ?_; refine yC ?_; refine mI rfl ?_; refine jn rfl rfl ?_; refine yB ?_; refine zG bE ?_; refine zi ?_; refine zk ?_; refine yA ?_; refine mS rfl ?_; refine mI e6_2 ?_; refine zS slt42 (by decide) rfl rfl (fun lc glc ulc => ?_)
      refine w_tel (fun w => zR Tryz.func192 rfl rfl rfl) rfl rfl (fun w h => Add_ok w (hKp.at_ 0 rfl h) (Nm.one (h.at_ 0 rfl) (by omega)) ⟨by omega, by omega, by omega⟩) (fun xq aq cq hKq hNq => ?_)
      refine zm rfl ?_; refine jx rfl rfl ?_; refine jx rfl rfl ?_; refine za (v := .slice _ _ _) rfl ?_; refine aI rfl ?_; refine yC ?_; refine mI rfl ?_; refine jn rfl rfl ?_; refine yB ?_; refine zG bE ?_; refine zi ?_; refine zO (?_)
      refine zK (B' := [xq, (w, No)]) (L' := []) (fun w h => (h.drop (List.nil_sublist _)).unbase (fun x hx => by rcases List.mem_cons.1 hx with rfl | hx; (exact .head _); exact .tail _ (.tail _ (.tail _ hx)))) ?_; exact k_again _ (by omega) ⟨(N * by_ + n), j, xq, aq, cq, e0_2, rfl, e5_2, rfl, rfl, by omega, hKq, fun y hy => hNq y (.tail _ (.tail _ hy)), hfin, rfl⟩
    have hfin := hpv.symm
    refine zs rfl rfl (bF h5) ?_; refine zs rfl rfl (bF h5) ?_; refine jF (bF h5) rfl ?_; refine yB ?_; refine zG rfl ?_; refine zX ?_; refine zx (zx (b_here rfl (zk ?_))); refine yA ?_; refine aI rfl ?_; refine yB ?_; refine zq ?_; refine yA ?_; refine mS e4_2 ?_; refine mI e7_2 ?_; refine zS slt42 (by decide) rfl rfl (fun lb glb ulb => ?_)
    refine w_tel (fun w => zR Tryz.func131 rfl rfl rfl) rfl rfl (fun w h => Mul_ok w (hKN.at_ 0 rfl h) (Nm.one (h.at_ 0 rfl) (by omega)) ⟨by omega, by omega, by omega, by omega, by omega⟩) (fun xp ap cp hKp hNp => ?_)
    refine zm rfl ?_; refine jx rfl rfl ?_; refine jx rfl rfl ?_; refine za (v := .slice _ _ _) rfl ?_; refine aI rfl ?_; refine yC ?_; refine mI rfl ?_; refine jn rfl rfl ?_; refine yB ?_; refine zG bE ?_; refine zi ?_; refine zk ?_; refine yA ?_; refine mS rfl ?_; refine mI e6_2 ?_; refine zS slt42 (by decide) rfl rfl (fun lc glc ulc => ?_)
    refine w_tel (fun w => zR Tryz.func192 rfl rfl rfl) rfl rfl (fun w h => Add_ok w (hKp.at_ 0 rfl h) (Nm.one (h.at_ 0 rfl) (by omega)) ⟨by omega, by omega, by omega⟩) (fun xq aq cq hKq hNq => ?_)
    refine zm rfl ?_; refine jx rfl rfl ?_; refine jx rfl rfl ?_; refine za (v := .slice _ _ _) rfl ?_; refine aI rfl ?_; refine yC ?_; refine mI rfl ?_; refine jn rfl rfl ?_; refine yB ?_; refine zG bE ?_; refine zi ?_; refine zO (?_)
    refine zK (B' := [xq, (w, No)]) (L' := []) (fun w h => (h.drop (List.nil_sublist _)).unbase (fun x hx => by rcases List.mem_cons.1 hx with rfl | hx; (exact .head _); exact .tail _ (.tail _ (.tail _ hx)))) ?_; exact k_again _ (by omega) ⟨(N * by_ + n), j, xq, aq, cq, e0_2, rfl, e5_2, rfl, rfl, by omega, hKq, fun y hy => hNq y (.tail _ (.tail _ hy)), hfin, rfl⟩
  have hNs : N = pv 0 s := (by rw [hN, List.take_of_length_le (by omega)])
  refine zX ?_; refine zx (zx (b_here rfl (zk ?_))); refine yA ?_; refine mS e4_1 ?_; refine za (v := .slice _ _ _) rfl ?_; refine aI rfl ?_; refine yB ?_; refine ze ?_
  rw [hE, hnp, Option.getD_some, ← hNs]
  refine r_two (v := .slice _ _ _) (v2 := .int _ _) rfl rfl rfl rfl rfl ?_; exact fun w' hw => ⟨_, _, rfl, (hKN.at_ 0 rfl hw), (hNN _ zm0), hw.fr (w, No) zm1⟩
end Go.Proofs.YtikdkendinnalaaGreatDoor
end
section
namespace Go.Proofs.YtikdkendinnalaaGreatDoor
open Go.RowKit Go.Sx
open Go.Num
theorem bl_zero_iff (n : Nat) : bl n = 0 ↔ n = 0 := ⟨fun h => by
 rcases Nat.eq_zero_or_pos n with h0 | h0
 ·exact h0
 ·have := bl_pos (Nat.pos_iff_ne_zero.1 h0); omega, fun h => by rw [h]; rfl⟩
theorem dec_bl (n : Nat) : decide (bl n = 0) = decide (n = 0) := decide_eq_decide.2 (bl_zero_iff n)
theorem not_dec (p : Prop) [Decidable p] : (!decide p) = decide (¬ p) := by by_cases h : p <;> simp [h]
theorem sz_gt (n : Nat) : decide (0 < sz n) = decide (n ≠ 0) := decide_eq_decide.2 ⟨fun h h0 => by rw [h0] at h; exact absurd h (by decide), sz_pos⟩
theorem zero_ok {a : Option Addr} {k c n : Nat} (w : World) (hA : Nm w a k c n) (hk : k ≤ 4000000) :
  Ret Tryz.prog 117 #[.agg #[.slice a k c]] w (fun v w' => v = .bool (decide (n = 0)) ∧ Ext w w') := by
 refine enter (S := No) (l := [_]) (L := []) 7 Tryz.func117 rfl rfl rfl (St.start w No) ?_; refine yA ?_; refine w_boxA rfl (fun p gp up => ?_)
 refine aB rfl ?_; refine yC ?_; refine zf fa118_0 rfl ?_; refine jM 0 z42 rfl ?_; refine jD Tryz.func155 (fun w h => Bits_ok w ((Kn.old hA).at_ 0 rfl h) (by omega)) ?_; refine zg (fun _ => R_eqN (a := (bl n)) (b := 0) rfl rfl) ?_; refine aB rfl ?_; refine yB ?_; refine ze ?_; refine zo (v := .bool _) rfl rfl rfl ?_; exact fun w' hw => ⟨by rw [dec_bl], hw.fr (w, No) zm0⟩
theorem of_ok (s : Bool) {a : Option Addr} {k c n : Nat} (w : World) (hA : Nm w a k c n) (hk : k ≤ 4000000) :
  Ret Tryz.prog 73 #[.agg #[.bool s, .slice a k c]] w (fun v w' => v = .agg #[.slice a k c, .bool (s && decide (n ≠ 0))] ∧ Ext w w') := by
 refine enter (S := No) (l := [_]) (L := []) 20 Tryz.func73 rfl rfl rfl (St.start w No) ?_; refine yA ?_; refine w_boxA rfl (fun p gp up => ?_)
 refine zA zr120 (fun r gr ur => ?_)
 refine yC ?_; refine zf fa44_1 rfl ?_; refine jM 1 z42 rfl ?_; refine jb bt118 rfl ?_; refine zf fa44_0 rfl ?_; refine jM 1 z4 rfl ?_; refine jb bt120 rfl ?_; refine zA zr120 (fun q gq uq => ?_)
 refine jv 0 z120 rfl ?_; refine yC ?_; refine zf fa44_0 rfl ?_; refine jM 2 z4 rfl ?_; refine mB rfl ?_; refine zp (t := 12) rfl (fun h4 => ?_) (fun h4 => ?_)
 ·refine zw rfl rfl (bV h4) ?_; refine zf fa120_0 rfl ?_; refine zw rfl rfl (bV h4) ?_; refine jy 0 z118 rfl rfl ?_; refine zw rfl rfl (bV h4) ?_; refine jD Tryz.func117 (fun w h => zero_ok w ((Kn.old hA).at_ 0 rfl h) (by omega)) ?_; refine zw rfl rfl (bV h4) ?_; refine jk rfl ?_; refine jT (bV h4) rfl ?_; refine zf fa120_1 rfl ?_; refine jv 0 z4 rfl ?_; refine yC ?_; refine jy 0 z120 rfl rfl ?_; refine jv 1 z120 rfl ?_; refine yB ?_; refine ze ?_
  subst h4
  refine r_fin (.inl rfl) rfl (.agg rfl rfl z120 (fun _ h => h.at_ 1 rfl) rfl .nil) ?_; exact fun w' hw => ⟨by rw [Bool.true_and, ← not_dec]; rfl, hw.fr (w, No) zm0⟩
 ·refine zs rfl rfl (bV h4) ?_; refine zs rfl rfl (bV h4) ?_; refine zs rfl rfl (bV h4) ?_; refine zs rfl rfl (bV h4) ?_; refine jF (bV h4) rfl ?_; refine zf fa120_1 rfl ?_; refine jv 0 z4 rfl ?_; refine yC ?_; refine jy 0 z120 rfl rfl ?_; refine jv 1 z120 rfl ?_; refine yB ?_; refine ze ?_
  subst h4
  refine r_fin (.inl rfl) rfl (.agg rfl rfl z120 (fun _ h => h.at_ 1 rfl) rfl .nil) ?_; exact fun w' hw => ⟨rfl, hw.fr (w, No) zm0⟩
theorem zold_ok (s : Bool) {a : Option Addr} {k c n : Nat} (w : World) (hA : Nm w a k c n) (hs : k ≤ 4000000 ∧ sz n ≤ 2048) :
  Ret Tryz.prog 130 #[.bool s, .slice a k c, .int .i64 0] w (Tel (fun a c => .tuple #[.agg #[.bool (s && decide (n ≠ 0)), .slice a (sz (n)) c], .int .i64 0]) (sz n) n w) := by
 refine enter (S := No) (l := [_, _, _]) (L := []) 29 Tryz.func130 rfl rfl rfl (St.start w No) ?_; refine yA ?_; refine zA zr44 (fun r gr ur => ?_)
 refine aI rfl ?_; refine yB ?_; refine zq ?_; refine yA ?_; refine mI rfl ?_; refine jn rfl rfl ?_; refine yB ?_; refine zG bE ?_; refine zi ?_; refine zk ?_; refine yA ?_; refine mS rfl ?_; refine w_tel (fun w => zR Tryz.func85 rfl rfl rfl) rfl rfl (fun w h => NNorm_ok w ((Kn.old hA).at_ 0 rfl h) ⟨by omega, by omega⟩) (fun x2 a2 c2 hK2 hN2 => ?_)
 refine zm rfl ?_; refine jx rfl rfl ?_; refine jx rfl rfl ?_; refine za (v := .slice _ _ _) rfl ?_; refine aI rfl ?_; refine yB ?_; refine zq ?_; refine yA ?_; refine mI rfl ?_; refine jn rfl rfl ?_; refine yB ?_; refine zG bE ?_; refine zi ?_; refine zk ?_; refine yA ?_; refine mB rfl ?_; refine mB rfl ?_; refine zp (t := 22) rfl (fun h3 => ?_) (fun h3 => ?_)
 ·refine zw rfl rfl (bV h3) ?_; refine mS rfl ?_; refine zw rfl rfl (bV h3) ?_; refine jj sl42 rfl ?_; refine zw rfl rfl (bV h3) ?_; refine zg (fun _ => R_gtN (a := (sz n)) (b := 0) rfl rfl) ?_; refine jT (bV h3) rfl ?_; refine mS rfl ?_; refine jb bt44 rfl ?_; refine jv 0 z44 rfl ?_; refine aI rfl ?_; refine yB ?_; refine ze ?_
  subst h3
  refine r_fin (.inl rfl) rfl (.agg rfl rfl z44 (fun _ h => h.at_ 0 rfl) rfl (.tmp rfl rfl .nil)) ?_; exact fun w' hw => ⟨_, _, by rw [Bool.true_and, ← sz_gt]; rfl, hK2.at_ 0 rfl hw, hN2 _ zm0, hw.fr (w, No) zm1⟩
 ·refine zs rfl rfl (bV h3) ?_; refine zs rfl rfl (bV h3) ?_; refine zs rfl rfl (bV h3) ?_; refine jF (bV h3) rfl ?_; refine mS rfl ?_; refine jb bt44 rfl ?_; refine jv 0 z44 rfl ?_; refine aI rfl ?_; refine yB ?_; refine ze ?_
  subst h3
  refine r_fin (.inl rfl) rfl (.agg rfl rfl z44 (fun _ h => h.at_ 0 rfl) rfl (.tmp rfl rfl .nil)) ?_; exact fun w' hw => ⟨_, _, rfl, hK2.at_ 0 rfl hw, hN2 _ zm0, hw.fr (w, No) zm1⟩
theorem zoldE_ok (s : Bool) (a : Option Addr) (k c : Nat) (e9 : Int) (w : World) (he : e9 ≠ 0) :
  Ret Tryz.prog 130 #[.bool s, .slice a k c, .int .i64 e9] w (Tel (fun a c => .tuple #[.agg #[.bool false, .slice a (sz 0) c], .int .i64 e9]) (sz 0) 0 w) := by
 refine enter (S := No) (l := [_, _, _]) (L := []) 29 Tryz.func130 rfl rfl rfl (St.start w No) ?_; refine yA ?_; refine zA zr44 (fun r gr ur => ?_)
 refine aI rfl ?_; refine yB ?_; refine zq ?_; refine yA ?_; refine mI rfl ?_; refine jn rfl rfl ?_; refine yB ?_; refine zD rfl (fun h2 => ?_) (fun h2 => ?_)
 ·refine yA ?_; refine jb bt44 rfl ?_; refine mI rfl ?_; refine jv 0 z44 rfl ?_; refine aI rfl ?_; refine yB ?_; refine ze ?_; refine zt (?_)
  refine r_fin (.inl rfl) rfl (.agg rfl rfl z44 (fun _ h => h.at_ 0 rfl) rfl (.tmp rfl rfl .nil)) ?_; exact fun w' hw => ⟨none, 0, rfl, Nm.nil _, Fsh.nil _ _, hw.fr (w, No) zm0⟩
 ·exact absurd (by simpa using h2) he
end Go.Proofs.YtikdkendinnalaaGreatDoor
end
section
namespace Go.Proofs.YtikdkendinnalaaGreatDoor
open Go.RowKit Go.Sx
open Go.Num
theorem u64_neg {x : Int} (h : x < 0) (h2 : -4611686018427387904 ≤ x) : IntKind.u64.wrap (-(IntKind.u64.wrap x)) = ((x.natAbs : Nat) : Int) := by
 rw [IntKind.wrap_u64, IntKind.wrap_u64]; omega
theorem u64_pos {x : Int} (h : ¬ x < 0) (h2 : x ≤ 4611686018427387904) : IntKind.u64.wrap x = ((x.natAbs : Nat) : Int) := by
 rw [IntKind.wrap_u64]; omega
theorem ng_and (x : Int) : (decide (x < 0) && decide (x.natAbs ≠ 0)) = ng x := by
 unfold ng
 by_cases h : x < 0
 ·rw [decide_eq_true h, decide_eq_true (by omega)]; rfl
 ·rw [decide_eq_false h]; rfl
theorem iv_sign (s : Bool) (n : Nat) : (iv s n).sign = if n = 0 then 0 else if s = true then -1 else 1 := by
 by_cases h : n = 0
 ·subst h; rw [if_pos rfl, iv_zero]; rfl
 ·rw [if_neg h]
  cases s
  ·rw [if_neg (by simp)]; unfold iv; rw [if_neg (by simp)]; exact Int.sign_eq_one_of_pos (by omega)
  ·rw [if_pos rfl]; unfold iv; rw [if_pos rfl]; exact Int.sign_eq_neg_one_of_neg (by omega)
def shrN (g : Bool) (n h : Nat) : Nat := if g = true ∧ n / 2 ^ h * 2 ^ h ≠ n then n / 2 ^ h + 1 else n / 2 ^ h
theorem dec_len (n : Nat) : (Lib.decDigits n).length ≤ bl n + 1 := by
 by_cases h : n = 0
 ·subst h; rw [decDigits_zero]; simp
 ·rw [dec_rev h, List.length_reverse]; exact Nat.le_succ_of_le (rdec_len n)
theorem itoa_neg {s : Bool} {n : Nat} (h : (s && decide (n ≠ 0)) = true) : Lib.itoa (iv s n) = [45] ++ Lib.decDigits n := by
 simp only [Bool.and_eq_true, decide_eq_true_eq] at h
 obtain ⟨rfl, h⟩ := h
 unfold Lib.itoa iv
 rw [if_pos rfl, if_pos (by omega), Int.natAbs_neg, Int.natAbs_natCast]; rfl
theorem itoa_pos {s : Bool} {n : Nat} (h : (s && decide (n ≠ 0)) = false) : Lib.itoa (iv s n) = Lib.decDigits n := by
 have hz : ∀ x : Int, x = (n : Int) → Lib.itoa x = Lib.decDigits n := fun x hx => by
  subst hx; unfold Lib.itoa; rw [if_neg (by omega), Int.toNat_natCast]
 refine hz _ ?_
 by_cases h0 : n = 0
 ·subst h0; rw [iv_zero]; rfl
 ·rw [decide_eq_true h0, Bool.and_true] at h; subst h; rfl
theorem zOf_ok {x : Int} (w : World) (hx : -4611686018427387904 ≤ x ∧ x ≤ 4611686018427387904) :
  Ret Tryz.prog 86 #[.int .i64 x] w (Tel (fun a c => .agg #[.bool (ng x), .slice a (sz x.natAbs) c]) (sz x.natAbs) x.natAbs w) := by
 have hxB : x.natAbs < Go.Num.B := by have hBv : Go.Num.B = 18446744073709551616 := rfl; omega
 have hxs : sz x.natAbs ≤ 1 := sz_iff.2 (by rw [Nat.pow_one]; exact hxB)
 refine enter (S := No) (l := [_]) (L := []) 21 Tryz.func86 rfl rfl rfl (St.start w No) ?_; refine yA ?_; refine zA zr44 (fun r gr ur => ?_)
 refine yC ?_; refine mI rfl ?_; refine zg (fun _ => R_convI (m := x) un2 un75 rfl) ?_; refine aI rfl ?_; refine yB ?_; refine zq ?_; refine yA ?_; refine mI rfl ?_; refine jl rfl rfl ?_; refine yB ?_; refine zD rfl (fun h2 => ?_) (fun h2 => ?_)
 ·refine zr ?_; refine mI rfl ?_; refine zg (fun _ => R_neg rfl) ?_
  rw [u64_neg h2 hx.1]
  refine aI rfl ?_; refine yC ?_; refine mI rfl ?_; refine jl rfl rfl ?_; refine mI rfl ?_; refine w_tel (fun w => zR Tryz.func56 rfl rfl rfl) rfl rfl (fun w h => Of_ok (s := (x.natAbs)) w hxB) (fun x3 a3 c3 hK3 hN3 => ?_)
  refine w_tel (fun w => zR Tryz.func130 rfl rfl rfl) rfl rfl (fun w h => zold_ok _ w (hK3.at_ 0 rfl h) ⟨by omega, by omega⟩) (fun x4 a4 c4 hK4 hN4 => ?_)
  refine zm rfl ?_; refine jx rfl rfl ?_; refine jx rfl rfl ?_; refine zA zr44 (fun q gq uq => ?_)
  refine jv 0 z44 rfl ?_; refine aI rfl ?_; refine yC ?_; refine jy 0 z44 rfl rfl ?_; refine jv 1 z44 rfl ?_; refine yB ?_; refine ze ?_
  rw [← ng_and]
  refine r_fin (.inl rfl) rfl (.agg rfl rfl z44 (fun _ h => h.at_ 1 rfl) rfl .nil) ?_; exact fun w' hw => ⟨_, _, rfl, (hK4.at_ 0 rfl hw), (hN4 _ zm1), hw.fr (w, No) zm2⟩
 ·rw [u64_pos h2 hx.2]
  refine zi ?_; refine zk ?_; refine yA ?_; refine mI rfl ?_; refine jl rfl rfl ?_; refine mI rfl ?_; refine w_tel (fun w => zR Tryz.func56 rfl rfl rfl) rfl rfl (fun w h => Of_ok (s := (x.natAbs)) w hxB) (fun x6 a6 c6 hK6 hN6 => ?_)
  refine w_tel (fun w => zR Tryz.func130 rfl rfl rfl) rfl rfl (fun w h => zold_ok _ w (hK6.at_ 0 rfl h) ⟨by omega, by omega⟩) (fun x7 a7 c7 hK7 hN7 => ?_)
  refine zm rfl ?_; refine jx rfl rfl ?_; refine jx rfl rfl ?_; refine zA zr44 (fun q gq uq => ?_)
  refine jv 0 z44 rfl ?_; refine aI rfl ?_; refine yC ?_; refine jy 0 z44 rfl rfl ?_; refine jv 1 z44 rfl ?_; refine yB ?_; refine ze ?_
  rw [← ng_and]
  refine r_fin (.inl rfl) rfl (.agg rfl rfl z44 (fun _ h => h.at_ 1 rfl) rfl .nil) ?_; exact fun w' hw => ⟨_, _, rfl, (hK7.at_ 0 rfl hw), (hN7 _ zm1), hw.fr (w, No) zm2⟩
theorem zSign_ok (s : Bool) {a : Option Addr} {k c n : Nat} (w : World) (hA : Nm w a k c n) (hk : k ≤ 4000000) :
  Ret Tryz.prog 151 #[.agg #[.bool s, .slice a k c]] w (fun v w' => v = .int .i64 (iv s n).sign ∧ Ext w w') := by
 refine enter (S := No) (l := [_]) (L := []) 13 Tryz.func151 rfl rfl rfl (St.start w No) ?_; refine yA ?_; refine w_boxA rfl (fun p gp up => ?_)
 refine aI rfl ?_; refine yC ?_; refine jy 0 z44 rfl rfl ?_; refine jD Tryz.func73 (fun w h => of_ok _ w ((Kn.old hA).at_ 0 rfl h) (by omega)) ?_; refine zA zr120 (fun q gq uq => ?_)
 refine jv 0 z120 rfl ?_; refine yB ?_; refine zq ?_; refine zB ?_; refine yA ?_; refine zf fa120_0 rfl ?_; refine jy 0 z118 rfl rfl ?_; refine jD Tryz.func117 (fun w h => zero_ok w ((Kn.old hA).at_ 0 rfl h) (by omega)) ?_; refine aB rfl ?_; refine yB ?_; refine zD rfl (fun h3 => ?_) (fun h3 => ?_)
 ·refine yA ?_; refine aI rfl ?_; refine yB ?_; refine ze ?_; refine zb (zt (?_))
  refine zo (v := .int _ _) rfl rfl rfl ?_; exact fun w' hw => ⟨by rw [iv_sign, if_pos h3], hw.fr (w, No) zm0⟩
 ·have hn0 := h3
  refine yA ?_; refine zf fa120_1 rfl ?_; refine jM 0 z4 rfl ?_; refine aB rfl ?_; refine yB ?_; refine c_cond rfl (fun h4 => ?_) (fun h4 => ?_)
  ·refine yA ?_; refine aI rfl ?_; refine yB ?_; refine ze ?_; refine zb (zt (?_))
   refine zo (v := .int _ _) rfl rfl rfl ?_; exact fun w' hw => ⟨by rw [iv_sign]; simp only [Bool.and_eq_true, decide_eq_true_eq] at h4; rw [if_neg h4.2, if_pos h4.1], hw.fr (w, No) zm0⟩
  ·refine zi ?_; refine zO (zk ?_); refine yA ?_; refine aI rfl ?_; refine yB ?_; refine ze ?_; refine zo (v := .int _ _) rfl rfl rfl ?_; exact fun w' hw => ⟨by rw [iv_sign]; simp only [Bool.and_eq_false_iff, decide_eq_false_iff_not] at h4; rw [if_neg hn0, if_neg (by rcases h4 with h | h; (rw [h]; simp); (exact absurd hn0 h))], hw.fr (w, No) zm0⟩
theorem zText_ok (s : Bool) {a : Option Addr} {k c n : Nat} (w : World) (hA : Nm w a k c n) (hs : k ≤ 1000000 ∧ sz n ≤ 2047) :
  Ret Tryz.prog 38 #[.agg #[.bool s, .slice a k c]] w (fun v w' => v = str (Lib.itoa (iv s n)) ∧ Ext w w') := by
 have hdl := Nat.le_trans (dec_len n) (Nat.succ_le_succ (bl_sz hs.2))
 refine enter (S := No) (l := [_]) (L := []) 17 Tryz.func38 rfl rfl rfl (St.start w No) ?_; refine yA ?_; refine w_boxA rfl (fun p gp up => ?_)
 refine za (v := str _) rfl ?_; refine yC ?_; refine zf fa44_1 rfl ?_; refine jM 0 z42 rfl ?_; refine jD Tryz.func57 (fun w h => Text_ok w ((Kn.old hA).at_ 0 rfl h) ⟨by omega, by omega⟩) ?_; refine za (v := str _) rfl ?_; refine yB ?_; refine zq ?_; refine yA ?_; refine zm (v := str _) rfl ?_; refine zg (fun _ => R_sne rfl rfl) ?_; refine mB rfl ?_; refine zd (t := 9) rfl (fun h2 => ?_) (fun h2 => ?_)
 ·refine zw rfl rfl (bT h2) ?_; refine jy 0 z44 rfl rfl ?_; refine zw rfl rfl (bT h2) ?_; refine jD Tryz.func73 (fun w h => of_ok _ w ((Kn.old hA).at_ 0 rfl h) (by omega)) ?_; refine zw rfl rfl (bT h2) ?_; refine zg (fun _ => R_fieldA fd120_1 z4 rfl rfl) ?_; refine jT (bT h2) rfl ?_; refine yB ?_; refine c_cond rfl (fun h3 => ?_) (fun h3 => ?_)
  ·refine zr ?_; refine zm (v := str _) rfl ?_; refine zg (fun _ => R_cat rfl rfl (by (try simp only [List.length_append, List.length_cons, List.length_nil]); omega)) ?_; refine za (v := str _) rfl ?_; refine yC ?_; refine zm (v := str _) rfl ?_; refine za (v := str _) rfl ?_; refine yB ?_; refine ze ?_; refine zo (v := str _) rfl rfl rfl ?_; exact fun w' hw => ⟨by rw [itoa_neg h3], hw.fr (w, No) zm0⟩
  ·refine zi ?_; refine zk ?_; refine yA ?_; refine zm (v := str _) rfl ?_; refine za (v := str _) rfl ?_; refine yB ?_; refine ze ?_; refine zo (v := str _) rfl rfl rfl ?_; exact fun w' hw => ⟨by rw [itoa_pos h3], hw.fr (w, No) zm0⟩
 ·exact absurd (dec_ne n) h2
end Go.Proofs.YtikdkendinnalaaGreatDoor
end
