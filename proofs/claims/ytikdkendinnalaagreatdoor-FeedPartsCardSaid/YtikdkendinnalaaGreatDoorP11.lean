/- Layer 14, FeedParts: that no name stands twice in what is read, and what two texts of data tell, one behind the other. Part 11 of 11. -/
import Derived.Test.YtikdkendinnalaaGreatDoorP10
import Derived.HandedShaped
import Derived.Handed
import Derived.Test.YtikdkendinnalaaGreatDoorRows
import Derived.Deep.DeepHandedRow
import Derived.ProofKit
import Derived.LaidMore
import Derived.OpenShut
import Derived.Stop.LaidErr
import Derived.Shelf.Vars
import Derived.Stop.Joined
import Derived.Test.YtikdkendinnalaaGreatDoorTie
import Derived.Test.YtikdkendinnalaaGreatDoorCards
import Derived.SevenTiedAt
section
namespace Go.Proofs.YtikdkendinnalaaGreatDoor
open Go.RowKit Go.Sx
open Go.Tok Go.Tree Go.Prs Go.Feed Go.Num
set_option maxRecDepth 100000 in
set_option maxHeartbeats 2000000 in
theorem tame_ok (s : Str) (hs : s.length ≤ 1000000) (w : World) :
  Ret Tryz.prog 7 #[str s] w (fun v w' => (∃ b, v = .bool b) ∧ Ext w w') := by
 refine enter (S := No) (l := [_]) (L := []) 53 Tryz.func7 rfl rfl rfl (St.start w No) ?_; refine yA ?_; refine aB rfl ?_; refine yB ?_; refine zq ?_; refine yA ?_; refine aI rfl ?_; refine yB ?_; refine zB ?_; refine c_loop (fun m9 e B L => ∃ (i : Nat), e 0 = str s ∧ e 3 = .int .i64 (i : Nat) ∧ B = [(w, No)] ∧ L = [] ∧ i ≤ s.length ∧ m9 = s.length - i) _ ⟨0, rfl, rfl, rfl, rfl, Nat.zero_le _, rfl⟩ ?_
 rintro m9 e B L ⟨i, e0_1, e3_1, rfl, rfl, hi, rfl⟩
 refine zq ?_; refine yA ?_; refine mI e3_1 ?_; refine w_r (fun _ => R_addN (n := i) (b := 2) rfl rfl (by omega)) rfl rfl ?_; refine zm (v := str _) e0_1 ?_; refine w_r (fun _ => R_slen st9 rfl (by omega)) rfl rfl ?_; refine w_r (fun _ => R_lt rfl rfl) rfl rfl ?_; refine yB ?_; refine zD rfl (fun h1 => ?_) (fun h1 => ?_)
 ·refine zi ?_; refine zk ?_; refine zq ?_; refine zB ?_; refine yA ?_; refine aI rfl ?_; refine yC ?_; refine mI e3_1 ?_; refine w_r (fun _ => R_addN (n := i) (b := 1) rfl rfl (by omega)) rfl rfl ?_; refine aI rfl ?_; refine yB ?_; refine zq ?_; refine yA ?_; refine zm (v := str _) e0_1 ?_; refine mI e3_1 ?_; refine w_sidx st9 rfl rfl (by omega) ?_; refine w_r (fun _ => R_ne rfl rfl) rfl rfl ?_; refine yB ?_; refine zD rfl (fun h2 => ?_) (fun h2 => ?_)
  ·refine c_exit ?_; refine zx (b_here rfl (zk ?_)); refine zr ?_; refine mI e3_1 ?_; refine w_r (fun _ => R_addN (n := i) (b := 1) rfl rfl (by omega)) rfl rfl ?_; refine aI rfl ?_; refine zn ?_; exact k_again _ (by omega) ⟨i + 1, e0_1, rfl, rfl, rfl, by omega, rfl⟩
  ·refine zi ?_; refine zk ?_; refine zq ?_; refine yA ?_; refine zm (v := str _) e0_1 ?_; refine mI rfl ?_; refine w_sidx st9 rfl rfl (by omega) ?_; refine w_r (fun _ => R_eq rfl rfl) rfl rfl ?_; refine mB rfl ?_; refine zd (t := 23) rfl (fun h3 => ?_) (fun h3 => ?_)
   ·refine zs rfl rfl (bT h3) ?_; refine zs rfl rfl (bT h3) ?_; refine zs rfl rfl (bT h3) ?_; refine zs rfl rfl (bT h3) ?_; refine w_r (v := .bool _) (fun _ => zT (bT h3) rfl) rfl rfl ?_; refine yB ?_; refine zE rfl ?_; refine zr ?_; refine mI rfl ?_; refine w_r (fun _ => R_addN (n := (i + 1)) (b := 1) rfl rfl (by omega)) rfl rfl ?_; refine aI rfl ?_; refine yB ?_; refine zq ?_; refine zB ?_; refine c_loop (fun m9 e B L => ∃ (n k : Nat), e 0 = str s ∧ e 3 = .int .i64 (i : Nat) ∧ e 4 = .int .i64 (n : Nat) ∧ e 5 = .int .i64 (k : Nat) ∧ B = [(w, No)] ∧ L = [] ∧ k ≤ s.length ∧ n ≤ k ∧ m9 = s.length - k) _ ⟨0, ((i + 1) + 1), e0_1, e3_1, rfl, rfl, rfl, rfl, by omega, Nat.zero_le _, rfl⟩ ?_
    rintro m9 e B L ⟨n, k, e0_2, e3_2, e4_2, e5_2, rfl, rfl, hk, hn, rfl⟩
    refine zq ?_; refine yA ?_; refine mI e5_2 ?_; refine zm (v := str _) e0_2 ?_; refine w_r (fun _ => R_slen st9 rfl (by omega)) rfl rfl ?_; refine w_r (fun _ => R_lt rfl rfl) rfl rfl ?_; refine mB rfl ?_; refine zd (t := 35) rfl (fun h4 => ?_) (fun h4 => ?_)
    ·refine zw rfl rfl (bT h4) ?_; refine zm (v := str _) e0_2 ?_; refine zw rfl rfl (bT h4) ?_; refine mI e5_2 ?_; refine zw rfl rfl (bT h4) ?_; refine w_sidx st9 rfl rfl (by omega) ?_; refine zw rfl rfl (bT h4) ?_; refine w_r (fun _ => R_ge rfl rfl) rfl rfl ?_; refine w_r (v := .bool _) (fun _ => zT (bT h4) rfl) rfl rfl ?_; refine mB rfl ?_; refine zd (t := 41) rfl (fun h5 => ?_) (fun h5 => ?_)
     ·refine zw rfl rfl (bT h5) ?_; refine zm (v := str _) e0_2 ?_; refine zw rfl rfl (bT h5) ?_; refine mI e5_2 ?_; refine zw rfl rfl (bT h5) ?_; refine w_sidx st9 rfl rfl (by omega) ?_; refine zw rfl rfl (bT h5) ?_; refine w_r (fun _ => R_le rfl rfl) rfl rfl ?_; refine w_r (v := .bool _) (fun _ => zT (bT h5) rfl) rfl rfl ?_; refine yB ?_; refine zD rfl (fun h6 => ?_) (fun h6 => ?_)
      ·refine zi ?_; refine zk ?_; refine zB ?_; refine yA ?_; refine mI e4_2 ?_; refine w_r (fun _ => R_addN (n := n) (b := 1) rfl rfl (by omega)) rfl rfl ?_; refine aI rfl ?_; refine yB ?_; refine zr ?_; refine mI e5_2 ?_; refine w_r (fun _ => R_addN (n := k) (b := 1) rfl rfl (by omega)) rfl rfl ?_; refine aI rfl ?_; refine zn ?_; refine b_on (?_)
       exact k_again _ (by omega) ⟨n + 1, k + 1, e0_2, e3_2, rfl, rfl, rfl, rfl, by omega, by omega, rfl⟩
      ·refine c_exit ?_; refine zx (zx (b_here rfl (zk ?_))); refine yA ?_; refine mI e4_2 ?_; refine w_r (fun _ => R_gtN (a := n) (b := 2) rfl rfl) rfl rfl ?_; refine yB ?_; refine zD rfl (fun h7 => ?_) (fun h7 => ?_)
       ·refine yA ?_; refine aB rfl ?_; refine yB ?_; refine ze ?_; refine zb (zt (zt (zb (zt (?_)))))
        refine zo (v := .bool _) rfl rfl rfl ?_; exact fun w' hw => ⟨⟨_, rfl⟩, hw.fr (w, No) (.head _)⟩
       ·refine zi ?_; refine b_on (zk ?_); refine zr ?_; refine mI e3_2 ?_; refine w_r (fun _ => R_addN (n := i) (b := 1) rfl rfl (by omega)) rfl rfl ?_; refine aI rfl ?_; refine zn ?_; exact k_again _ (by omega) ⟨i + 1, e0_2, rfl, rfl, rfl, by omega, rfl⟩
     ·refine zs rfl rfl (bF h5) ?_; refine zs rfl rfl (bF h5) ?_; refine zs rfl rfl (bF h5) ?_; refine zs rfl rfl (bF h5) ?_; refine w_r (v := .bool _) (fun _ => zF (bF h5) rfl) rfl rfl ?_; refine yB ?_; refine c_condF rfl ?_; refine c_exit ?_; refine zx (zx (b_here rfl (zk ?_))); refine yA ?_; refine mI e4_2 ?_; refine w_r (fun _ => R_gtN (a := n) (b := 2) rfl rfl) rfl rfl ?_; refine yB ?_; refine zD rfl (fun h8 => ?_) (fun h8 => ?_)
      ·refine yA ?_; refine aB rfl ?_; refine yB ?_; refine ze ?_; refine zb (zt (zt (zb (zt (?_)))))
       refine zo (v := .bool _) rfl rfl rfl ?_; exact fun w' hw => ⟨⟨_, rfl⟩, hw.fr (w, No) (.head _)⟩
      ·refine zi ?_; refine b_on (zk ?_); refine zr ?_; refine mI e3_2 ?_; refine w_r (fun _ => R_addN (n := i) (b := 1) rfl rfl (by omega)) rfl rfl ?_; refine aI rfl ?_; refine zn ?_; exact k_again _ (by omega) ⟨i + 1, e0_2, rfl, rfl, rfl, by omega, rfl⟩
    ·refine zs rfl rfl (bF h4) ?_; refine zs rfl rfl (bF h4) ?_; refine zs rfl rfl (bF h4) ?_; refine zs rfl rfl (bF h4) ?_; refine w_r (v := .bool _) (fun _ => zF (bF h4) rfl) rfl rfl ?_; refine mB rfl ?_; refine zs rfl rfl rfl ?_; refine zs rfl rfl rfl ?_; refine zs rfl rfl rfl ?_; refine zs rfl rfl rfl ?_; refine w_r (v := .bool _) (fun _ => zF rfl rfl) rfl rfl ?_; refine yB ?_; refine c_condF rfl ?_; refine c_exit ?_; refine zx (zx (b_here rfl (zk ?_))); refine yA ?_; refine mI e4_2 ?_; refine w_r (fun _ => R_gtN (a := n) (b := 2) rfl rfl) rfl rfl ?_; refine yB ?_; refine zD rfl (fun h9 => ?_) (fun h9 => ?_)
     ·refine yA ?_; refine aB rfl ?_; refine yB ?_; refine ze ?_; refine zb (zt (zt (zb (zt (?_)))))
      refine zo (v := .bool _) rfl rfl rfl ?_; exact fun w' hw => ⟨⟨_, rfl⟩, hw.fr (w, No) (.head _)⟩
     ·refine zi ?_; refine b_on (zk ?_); refine zr ?_; refine mI e3_2 ?_; refine w_r (fun _ => R_addN (n := i) (b := 1) rfl rfl (by omega)) rfl rfl ?_; refine aI rfl ?_; refine zn ?_; exact k_again _ (by omega) ⟨i + 1, e0_2, rfl, rfl, rfl, by omega, rfl⟩
   ·refine zw rfl rfl (bF h3) ?_; refine zm (v := str _) e0_1 ?_; refine zw rfl rfl (bF h3) ?_; refine mI rfl ?_; refine zw rfl rfl (bF h3) ?_; refine w_sidx st9 rfl rfl (by omega) ?_; refine zw rfl rfl (bF h3) ?_; refine w_r (fun _ => R_eq rfl rfl) rfl rfl ?_; refine w_r (v := .bool _) (fun _ => zF (bF h3) rfl) rfl rfl ?_; refine yB ?_; refine zD rfl (fun h10 => ?_) (fun h10 => ?_)
    ·refine zr ?_; refine mI rfl ?_; refine w_r (fun _ => R_addN (n := (i + 1)) (b := 1) rfl rfl (by omega)) rfl rfl ?_; refine aI rfl ?_; refine yB ?_; refine zq ?_; refine zB ?_; refine c_loop (fun m9 e B L => ∃ (n k : Nat), e 0 = str s ∧ e 3 = .int .i64 (i : Nat) ∧ e 4 = .int .i64 (n : Nat) ∧ e 5 = .int .i64 (k : Nat) ∧ B = [(w, No)] ∧ L = [] ∧ k ≤ s.length ∧ n ≤ k ∧ m9 = s.length - k) _ ⟨0, ((i + 1) + 1), e0_1, e3_1, rfl, rfl, rfl, rfl, by omega, Nat.zero_le _, rfl⟩ ?_
     rintro m9 e B L ⟨n, k, e0_3, e3_3, e4_3, e5_3, rfl, rfl, hk, hn, rfl⟩
     refine zq ?_; refine yA ?_; refine mI e5_3 ?_; refine zm (v := str _) e0_3 ?_; refine w_r (fun _ => R_slen st9 rfl (by omega)) rfl rfl ?_; refine w_r (fun _ => R_lt rfl rfl) rfl rfl ?_; refine mB rfl ?_; refine zd (t := 35) rfl (fun h11 => ?_) (fun h11 => ?_)
     ·refine zw rfl rfl (bT h11) ?_; refine zm (v := str _) e0_3 ?_; refine zw rfl rfl (bT h11) ?_; refine mI e5_3 ?_; refine zw rfl rfl (bT h11) ?_; refine w_sidx st9 rfl rfl (by omega) ?_; refine zw rfl rfl (bT h11) ?_; refine w_r (fun _ => R_ge rfl rfl) rfl rfl ?_; refine w_r (v := .bool _) (fun _ => zT (bT h11) rfl) rfl rfl ?_; refine mB rfl ?_; refine zd (t := 41) rfl (fun h12 => ?_) (fun h12 => ?_)
      ·refine zw rfl rfl (bT h12) ?_; refine zm (v := str _) e0_3 ?_; refine zw rfl rfl (bT h12) ?_; refine mI e5_3 ?_; refine zw rfl rfl (bT h12) ?_; refine w_sidx st9 rfl rfl (by omega) ?_; refine zw rfl rfl (bT h12) ?_; refine w_r (fun _ => R_le rfl rfl) rfl rfl ?_; refine w_r (v := .bool _) (fun _ => zT (bT h12) rfl) rfl rfl ?_; refine yB ?_; refine zD rfl (fun h13 => ?_) (fun h13 => ?_)
       ·refine zi ?_; refine zk ?_; refine zB ?_; refine yA ?_; refine mI e4_3 ?_; refine w_r (fun _ => R_addN (n := n) (b := 1) rfl rfl (by omega)) rfl rfl ?_; refine aI rfl ?_; refine yB ?_; refine zr ?_; refine mI e5_3 ?_; refine w_r (fun _ => R_addN (n := k) (b := 1) rfl rfl (by omega)) rfl rfl ?_; refine aI rfl ?_; refine zn ?_; refine b_on (?_)
        exact k_again _ (by omega) ⟨n + 1, k + 1, e0_3, e3_3, rfl, rfl, rfl, rfl, by omega, by omega, rfl⟩
       ·refine c_exit ?_; refine zx (zx (b_here rfl (zk ?_))); refine yA ?_; refine mI e4_3 ?_; refine w_r (fun _ => R_gtN (a := n) (b := 2) rfl rfl) rfl rfl ?_; refine yB ?_; refine zD rfl (fun h14 => ?_) (fun h14 => ?_)
        ·refine yA ?_; refine aB rfl ?_; refine yB ?_; refine ze ?_; refine zb (zt (zt (zb (zt (?_)))))
         refine zo (v := .bool _) rfl rfl rfl ?_; exact fun w' hw => ⟨⟨_, rfl⟩, hw.fr (w, No) (.head _)⟩
        ·refine zi ?_; refine b_on (zk ?_); refine zr ?_; refine mI e3_3 ?_; refine w_r (fun _ => R_addN (n := i) (b := 1) rfl rfl (by omega)) rfl rfl ?_; refine aI rfl ?_; refine zn ?_; exact k_again _ (by omega) ⟨i + 1, e0_3, rfl, rfl, rfl, by omega, rfl⟩
      ·refine zs rfl rfl (bF h12) ?_; refine zs rfl rfl (bF h12) ?_; refine zs rfl rfl (bF h12) ?_; refine zs rfl rfl (bF h12) ?_; refine w_r (v := .bool _) (fun _ => zF (bF h12) rfl) rfl rfl ?_; refine yB ?_; refine c_condF rfl ?_; refine c_exit ?_; refine zx (zx (b_here rfl (zk ?_))); refine yA ?_; refine mI e4_3 ?_; refine w_r (fun _ => R_gtN (a := n) (b := 2) rfl rfl) rfl rfl ?_; refine yB ?_; refine zD rfl (fun h15 => ?_) (fun h15 => ?_)
       ·refine yA ?_; refine aB rfl ?_; refine yB ?_; refine ze ?_; refine zb (zt (zt (zb (zt (?_)))))
        refine zo (v := .bool _) rfl rfl rfl ?_; exact fun w' hw => ⟨⟨_, rfl⟩, hw.fr (w, No) (.head _)⟩
       ·refine zi ?_; refine b_on (zk ?_); refine zr ?_; refine mI e3_3 ?_; refine w_r (fun _ => R_addN (n := i) (b := 1) rfl rfl (by omega)) rfl rfl ?_; refine aI rfl ?_; refine zn ?_; exact k_again _ (by omega) ⟨i + 1, e0_3, rfl, rfl, rfl, by omega, rfl⟩
     ·refine zs rfl rfl (bF h11) ?_; refine zs rfl rfl (bF h11) ?_; refine zs rfl rfl (bF h11) ?_; refine zs rfl rfl (bF h11) ?_; refine w_r (v := .bool _) (fun _ => zF (bF h11) rfl) rfl rfl ?_; refine mB rfl ?_; refine zs rfl rfl rfl ?_; refine zs rfl rfl rfl ?_; refine zs rfl rfl rfl ?_; refine zs rfl rfl rfl ?_; refine w_r (v := .bool _) (fun _ => zF rfl rfl) rfl rfl ?_; refine yB ?_; refine c_condF rfl ?_; refine c_exit ?_; refine zx (zx (b_here rfl (zk ?_))); refine yA ?_; refine mI e4_3 ?_; refine w_r (fun _ => R_gtN (a := n) (b := 2) rfl rfl) rfl rfl ?_; refine yB ?_; refine zD rfl (fun h16 => ?_) (fun h16 => ?_)
      ·refine yA ?_; refine aB rfl ?_; refine yB ?_; refine ze ?_; refine zb (zt (zt (zb (zt (?_)))))
       refine zo (v := .bool _) rfl rfl rfl ?_; exact fun w' hw => ⟨⟨_, rfl⟩, hw.fr (w, No) (.head _)⟩
      ·refine zi ?_; refine b_on (zk ?_); refine zr ?_; refine mI e3_3 ?_; refine w_r (fun _ => R_addN (n := i) (b := 1) rfl rfl (by omega)) rfl rfl ?_; refine aI rfl ?_; refine zn ?_; exact k_again _ (by omega) ⟨i + 1, e0_3, rfl, rfl, rfl, by omega, rfl⟩
    ·refine zi ?_; refine zk ?_; refine zq ?_; refine zB ?_; refine c_loop (fun m9 e B L => ∃ (n k : Nat), e 0 = str s ∧ e 3 = .int .i64 (i : Nat) ∧ e 4 = .int .i64 (n : Nat) ∧ e 5 = .int .i64 (k : Nat) ∧ B = [(w, No)] ∧ L = [] ∧ k ≤ s.length ∧ n ≤ k ∧ m9 = s.length - k) _ ⟨0, (i + 1), e0_1, e3_1, rfl, rfl, rfl, rfl, by omega, Nat.zero_le _, rfl⟩ ?_
     rintro m9 e B L ⟨n, k, e0_4, e3_4, e4_4, e5_4, rfl, rfl, hk, hn, rfl⟩
     refine zq ?_; refine yA ?_; refine mI e5_4 ?_; refine zm (v := str _) e0_4 ?_; refine w_r (fun _ => R_slen st9 rfl (by omega)) rfl rfl ?_; refine w_r (fun _ => R_lt rfl rfl) rfl rfl ?_; refine mB rfl ?_; refine zd (t := 35) rfl (fun h17 => ?_) (fun h17 => ?_)
     ·refine zw rfl rfl (bT h17) ?_; refine zm (v := str _) e0_4 ?_; refine zw rfl rfl (bT h17) ?_; refine mI e5_4 ?_; refine zw rfl rfl (bT h17) ?_; refine w_sidx st9 rfl rfl (by omega) ?_; refine zw rfl rfl (bT h17) ?_; refine w_r (fun _ => R_ge rfl rfl) rfl rfl ?_; refine w_r (v := .bool _) (fun _ => zT (bT h17) rfl) rfl rfl ?_; refine mB rfl ?_; refine zd (t := 41) rfl (fun h18 => ?_) (fun h18 => ?_)
      ·refine zw rfl rfl (bT h18) ?_; refine zm (v := str _) e0_4 ?_; refine zw rfl rfl (bT h18) ?_; refine mI e5_4 ?_; refine zw rfl rfl (bT h18) ?_; refine w_sidx st9 rfl rfl (by omega) ?_; refine zw rfl rfl (bT h18) ?_; refine w_r (fun _ => R_le rfl rfl) rfl rfl ?_; refine w_r (v := .bool _) (fun _ => zT (bT h18) rfl) rfl rfl ?_; refine yB ?_; refine zD rfl (fun h19 => ?_) (fun h19 => ?_)
       ·refine zi ?_; refine zk ?_; refine zB ?_; refine yA ?_; refine mI e4_4 ?_; refine w_r (fun _ => R_addN (n := n) (b := 1) rfl rfl (by omega)) rfl rfl ?_; refine aI rfl ?_; refine yB ?_; refine zr ?_; refine mI e5_4 ?_; refine w_r (fun _ => R_addN (n := k) (b := 1) rfl rfl (by omega)) rfl rfl ?_; refine aI rfl ?_; refine zn ?_; refine b_on (?_)
        exact k_again _ (by omega) ⟨n + 1, k + 1, e0_4, e3_4, rfl, rfl, rfl, rfl, by omega, by omega, rfl⟩
       ·refine c_exit ?_; refine zx (zx (b_here rfl (zk ?_))); refine yA ?_; refine mI e4_4 ?_; refine w_r (fun _ => R_gtN (a := n) (b := 2) rfl rfl) rfl rfl ?_; refine yB ?_; refine zD rfl (fun h20 => ?_) (fun h20 => ?_)
        ·refine yA ?_; refine aB rfl ?_; refine yB ?_; refine ze ?_; refine zb (zt (zt (zb (zt (?_)))))
         refine zo (v := .bool _) rfl rfl rfl ?_; exact fun w' hw => ⟨⟨_, rfl⟩, hw.fr (w, No) (.head _)⟩
        ·refine zi ?_; refine b_on (zk ?_); refine zr ?_; refine mI e3_4 ?_; refine w_r (fun _ => R_addN (n := i) (b := 1) rfl rfl (by omega)) rfl rfl ?_; refine aI rfl ?_; refine zn ?_; exact k_again _ (by omega) ⟨i + 1, e0_4, rfl, rfl, rfl, by omega, rfl⟩
      ·refine zs rfl rfl (bF h18) ?_; refine zs rfl rfl (bF h18) ?_; refine zs rfl rfl (bF h18) ?_; refine zs rfl rfl (bF h18) ?_; refine w_r (v := .bool _) (fun _ => zF (bF h18) rfl) rfl rfl ?_; refine yB ?_; refine c_condF rfl ?_; refine c_exit ?_; refine zx (zx (b_here rfl (zk ?_))); refine yA ?_; refine mI e4_4 ?_; refine w_r (fun _ => R_gtN (a := n) (b := 2) rfl rfl) rfl rfl ?_; refine yB ?_; refine zD rfl (fun h21 => ?_) (fun h21 => ?_)
       ·refine yA ?_; refine aB rfl ?_; refine yB ?_; refine ze ?_; refine zb (zt (zt (zb (zt (?_)))))
        refine zo (v := .bool _) rfl rfl rfl ?_; exact fun w' hw => ⟨⟨_, rfl⟩, hw.fr (w, No) (.head _)⟩
       ·refine zi ?_; refine b_on (zk ?_); refine zr ?_; refine mI e3_4 ?_; refine w_r (fun _ => R_addN (n := i) (b := 1) rfl rfl (by omega)) rfl rfl ?_; refine aI rfl ?_; refine zn ?_; exact k_again _ (by omega) ⟨i + 1, e0_4, rfl, rfl, rfl, by omega, rfl⟩
     ·refine zs rfl rfl (bF h17) ?_; refine zs rfl rfl (bF h17) ?_; refine zs rfl rfl (bF h17) ?_; refine zs rfl rfl (bF h17) ?_; refine w_r (v := .bool _) (fun _ => zF (bF h17) rfl) rfl rfl ?_; refine mB rfl ?_; refine zs rfl rfl rfl ?_; refine zs rfl rfl rfl ?_; refine zs rfl rfl rfl ?_; refine zs rfl rfl rfl ?_; refine w_r (v := .bool _) (fun _ => zF rfl rfl) rfl rfl ?_; refine yB ?_; refine c_condF rfl ?_; refine c_exit ?_; refine zx (zx (b_here rfl (zk ?_))); refine yA ?_; refine mI e4_4 ?_; refine w_r (fun _ => R_gtN (a := n) (b := 2) rfl rfl) rfl rfl ?_; refine yB ?_; refine zD rfl (fun h22 => ?_) (fun h22 => ?_)
      ·refine yA ?_; refine aB rfl ?_; refine yB ?_; refine ze ?_; refine zb (zt (zt (zb (zt (?_)))))
       refine zo (v := .bool _) rfl rfl rfl ?_; exact fun w' hw => ⟨⟨_, rfl⟩, hw.fr (w, No) (.head _)⟩
      ·refine zi ?_; refine b_on (zk ?_); refine zr ?_; refine mI e3_4 ?_; refine w_r (fun _ => R_addN (n := i) (b := 1) rfl rfl (by omega)) rfl rfl ?_; refine aI rfl ?_; refine zn ?_; exact k_again _ (by omega) ⟨i + 1, e0_4, rfl, rfl, rfl, by omega, rfl⟩
 ·refine c_exit ?_; refine zx (zx (b_here rfl (zk ?_))); refine yA ?_; refine aB rfl ?_; refine yB ?_; refine ze ?_; refine zo (v := .bool _) rfl rfl rfl ?_; exact fun w' hw => ⟨⟨_, rfl⟩, hw.fr (w, No) (.head _)⟩
end Go.Proofs.YtikdkendinnalaaGreatDoor
end
section
/- The plain part of layer feed: how large data are that were read. -/
namespace Go.Feed
open Go.Tok Go.Tree Go.Prs Go.Num Go.Lib
def Rb (x : Rt) : Prop := sz x.1.natAbs ≤ 1000 ∧ sz x.2 ≤ 1000 ∧ x.2 ≠ 0
def NTs (L : Nat) (ts : List Tk) : Prop := ∀ t ∈ ts, (t.1 = 2 → NumT t.2.1) ∧ t.2.1.length ≤ L
def DB (L K : Nat) (d : Dt) : Prop := d.nm.length ≤ L ∧ d.nums.length ≤ K ∧ ∀ x ∈ d.nums, Rb x
theorem NTs.tail {L : Nat} {ts : List Tk} (h : NTs L ts) : NTs L ts.tail := fun t ht => h t (List.mem_of_mem_tail ht)
theorem fTok_b {L z : Nat} {neg : Bool} {ts r : List Tk} {a : Rt × Bool} (hN : NTs L ts) (h : fTok z neg ts = .ok (a, r)) : Rb a.1 ∧ r = ts.tail ∧ ts ≠ [] := by
  unfold fTok at h
  split at h
  · rename_i h2
    cases ts with
    | nil => exact absurd (show (0 : Nat) = 2 from h2) (by decide)
    | cons t l =>
      split at h
      · cases h
      · rename_i h4
        have hT := (hN t (.head _)).1 h2
        have hs := numV_sz hT (by show t.2.1.length ≤ 400; have : ¬ 400 < t.2.1.length := h4; omega)
        have hp := numV_pos t.2.1
        simp only [Except.ok.injEq, Prod.mk.injEq] at h
        obtain ⟨h5, h6⟩ := h
        refine ⟨?_, h6.symm, by simp⟩
        rw [← h5]
        show Rb (if neg = true then ngR (numV t.2.1) else numV t.2.1)
        split
        · have hz := ngR_sz (x := numV t.2.1)
          exact ⟨Nat.le_trans hz.1 hs.1, Nat.le_trans hz.2 hs.2, mkR_pos hp⟩
        · exact ⟨hs.1, hs.2, hp⟩
  · cases h
theorem fNum_b {L z : Nat} {ts r : List Tk} {a : Rt × Bool} (hN : NTs L ts) (h : fNum z ts = .ok (a, r)) : Rb a.1 ∧ NTs L r ∧ r.length + 1 ≤ ts.length := by
  unfold fNum at h
  split at h
  · obtain ⟨h1, rfl, h2⟩ := fTok_b hN.tail h
    refine ⟨h1, hN.tail.tail, ?_⟩
    have : 0 < ts.tail.length := List.length_pos_iff.2 h2
    simp only [List.length_tail] at *; omega
  · obtain ⟨h1, rfl, h2⟩ := fTok_b hN h
    refine ⟨h1, hN.tail, ?_⟩
    have : 0 < ts.length := List.length_pos_iff.2 h2
    simp only [List.length_tail] at *; omega
theorem mem_snoc {l : List Rt} {a : Rt} (h : ∀ x ∈ l, Rb x) (ha : Rb a) : ∀ x ∈ l ++ [a], Rb x := fun x hx => by
  rcases List.mem_append.1 hx with hx | hx
  · exact h x hx
  · rw [List.mem_singleton.1 hx]; exact ha
theorem fRow_b {L z K : Nat} : ∀ (n : Nat) (l : List Rt) (b : Bool) (ts : List Tk) (l' : List Rt) (b' : Bool) (r : List Tk), NTs L ts → (∀ x ∈ l, Rb x) → l.length + ts.length ≤ K → fRow z n l b ts = .ok ((l', b'), r) → (∀ x ∈ l', Rb x) ∧ l'.length ≤ K ∧ NTs L r ∧ r.length ≤ ts.length
  | 0, _, _, _, _, _, _, _, _, _, h => by cases h
  | n + 1, l, b, ts, l', b', r, hN, hl, hK, h => by
    rw [fRow] at h
    obtain ⟨a, r1, e1, g⟩ := andR_cut h
    obtain ⟨h1, h2, h3⟩ := fNum_b hN e1
    split at g
    · have hk : (l ++ [a.1]).length + r1.tail.length ≤ K := by rw [List.length_append, List.length_singleton, List.length_tail]; omega
      obtain ⟨q1, q2, q3, q4⟩ := fRow_b n _ _ _ _ _ _ h2.tail (mem_snoc hl h1) hk g
      exact ⟨q1, q2, q3, by rw [List.length_tail] at q4; omega⟩
    · unfold wantG at g
      split at g
      · cases g
        exact ⟨mem_snoc hl h1, by rw [List.length_append, List.length_singleton]; omega, h2.tail, by rw [List.length_tail]; omega⟩
      · cases g
theorem fVal_b {L z K n : Nat} {ts r : List Tk} {v : Bool × List Rt × Bool} (hN : NTs L ts) (hK : ts.length ≤ K) (h : fVal z n ts = .ok (v, r)) : (∀ x ∈ v.2.1, Rb x) ∧ v.2.1.length ≤ K ∧ NTs L r ∧ r.length ≤ ts.length := by
  unfold fVal at h
  split at h
  · split at h
    · cases h
      exact ⟨fun x hx => absurd hx (by simp), Nat.zero_le _, hN.tail.tail, by simp only [List.length_tail]; omega⟩
    · obtain ⟨a, r1, e1, g⟩ := andR_cut h
      cases g
      obtain ⟨q1, q2, q3, q4⟩ := fRow_b (K := K) n [] true ts.tail a.1 a.2 _ hN.tail (fun x hx => absurd hx (by simp)) (by simp only [List.length_nil, List.length_tail]; omega) e1
      exact ⟨q1, q2, q3, by rw [List.length_tail] at q4; omega⟩
  · obtain ⟨a, r1, e1, g⟩ := andR_cut h
    cases g
    obtain ⟨h1, h2, h3⟩ := fNum_b hN e1
    refine ⟨fun x hx => ?_, by simp only [List.length_singleton]; omega, h2, by omega⟩
    rw [List.mem_singleton.1 hx]; exact h1
theorem fOne_b {L z K n : Nat} {out : List Dt} {ts r : List Tk} {d : Dt} (hN : NTs L ts) (hK : ts.length ≤ K) (h : fOne z n out ts = .ok (d, r)) : DB L K d ∧ NTs L r ∧ r.length + 1 ≤ ts.length := by
  unfold fOne at h
  split at h
  · rename_i hk
    split at h
    · cases h
    · unfold wantG at h
      split at h
      · obtain ⟨v, r1, e1, g⟩ := andR_cut h
        split at g
        · cases g
          have h0 : ts ≠ [] := fun h0 => by rw [h0] at hk; exact absurd (show (0 : Nat) = 1 from hk.1) (by decide)
          have hp : 0 < ts.length := List.length_pos_iff.2 h0
          obtain ⟨q1, q2, q3, q4⟩ := fVal_b (K := K) hN.tail.tail (by simp only [List.length_tail]; omega) e1
          refine ⟨⟨?_, q2, q1⟩, q3.tail, by simp only [List.length_tail] at *; omega⟩
          cases ts with
          | nil => exact absurd rfl h0
          | cons t l => exact (hN t (.head _)).2
        · cases g
      · cases h
  · cases h
theorem fAll_b {L z K : Nat} : ∀ (n : Nat) (out : List Dt) (ts : List Tk) (ds : List Dt), NTs L ts → (∀ d ∈ out, DB L K d) → out.length + ts.length ≤ K → fAll z n out ts = .ok ds → (∀ d ∈ ds, DB L K d) ∧ ds.length ≤ K
  | 0, _, _, _, _, _, _, h => by cases h
  | n + 1, out, ts, ds, hN, ho, hK, h => by
    rw [fAll] at h
    split at h
    · cases h; exact ⟨ho, by omega⟩
    · obtain ⟨d, r, e1, g⟩ := andR_cut h
      obtain ⟨h1, h2, h3⟩ := fOne_b (K := K) hN (by omega) e1
      refine fAll_b n _ _ _ h2 (fun x hx => ?_) (by rw [List.length_append, List.length_singleton]; omega) g
      rcases List.mem_append.1 hx with hx | hx
      · exact ho x hx
      · rw [List.mem_singleton.1 hx]; exact h1
theorem readP_short (s : Str) : ∀ t ∈ (readP s).1, t.2.1.length ≤ s.length := by
  have h : ∀ (f i : Nat) (x : Rd), (∀ t ∈ x.1, t.2.1.length ≤ s.length) → ∀ t ∈ (lexF readN s f i x).1, t.2.1.length ≤ s.length := by
    intro f
    induction f with
    | zero => intro i x h; exact h
    | succ f ih =>
      intro i x h
      have hx : ∀ t ∈ (readN x (tokAt s i).1 (tokTx s i) i (tokAt s i).2.2).1.1, t.2.1.length ≤ s.length := by
        unfold readN
        split
        · exact h
        · split
          · exact h
          · intro t ht
            rcases List.mem_append.1 ht with ht | ht
            · exact h t ht
            · obtain rfl := List.mem_singleton.1 ht
              unfold tokTx
              simp only [List.length_take, List.length_drop]; omega
      unfold lexF
      split
      · split
        · exact ih _ _ hx
        · exact hx
      · exact h
  rcases Nat.lt_or_ge 20000 s.length with h1 | h1
  · rw [readP_long h1]; intro t ht; cases ht
  · by_cases h2 : (readS s).2.1 = 0
    · rw [readP_fine (by omega) h2]; exact h _ _ _ (fun t ht => by cases ht)
    · rw [readP_bad (by omega) h2]; intro t ht; cases ht
theorem read_b {s : Str} {ds : List Dt} (h : fRead s = .ok ds) : (∀ d ∈ ds, DB 20000 20000 d) ∧ ds.length ≤ 20000 := by
  unfold fRead at h
  split at h
  · rename_i h0
    have hs : s.length ≤ 20000 := by
      rcases Nat.lt_or_ge 20000 s.length with hh | hh
      · rw [readP_long hh] at h0; cases h0
      · exact hh
    have hl := Go.Feed.read_len hs
    exact fAll_b 20001 [] _ ds (fun t ht => ⟨read_num s t ht, Nat.le_trans (readP_short s t ht) hs⟩) (fun d hd => by cases hd) (by simp only [List.length_nil]; omega) h
  · cases h
end Go.Feed
end
section
namespace Go.Proofs.YtikdkendinnalaaGreatDoor
open Go.RowKit Go.Sx
open Go.Tok Go.Tree Go.Prs Go.Feed Go.Num
theorem disB_of {s : Str} {ds : List Dt} (h : fRead s = .ok ds) : DisB (ds.map diD) := by
 obtain ⟨h1, h2⟩ := read_b h
 refine ⟨by rw [List.length_map]; omega, fun d hd => ?_⟩
 obtain ⟨d, hd9, rfl⟩ := List.mem_map.1 hd
 obtain ⟨h3, h4, h5⟩ := h1 d hd9
 refine ⟨by show (d.nums.map rwR).length ≤ _; rw [List.length_map]; omega, by show d.nm.length ≤ _; omega, fun x hx => ?_⟩
 obtain ⟨x, hx9, rfl⟩ := List.mem_map.1 hx
 obtain ⟨h6, h7, _⟩ := h5 x hx9
 exact ⟨Nat.le_trans h6 (by decide), Nat.le_trans h7 (by decide)⟩
def bothT (la lb : List Dt) (i : Nat) : Bool := (la.take i).any fun a => (findD (lb.map diD) a.nm).isSome
theorem bothT_succ {la lb : List Dt} {i : Nat} {d : Dt} (hd : la[i]? = some d) : bothT la lb (i + 1) = (bothT la lb i || (findD (lb.map diD) d.nm).isSome) := by
 obtain ⟨hi, rfl⟩ := List.getElem?_eq_some_iff.1 hd
 unfold bothT
 rw [List.take_succ_eq_append_getElem hi, List.any_append, List.any_cons, List.any_nil, Bool.or_false]
theorem findD_some {lb : List Dt} {nm : Str} : (findD (lb.map diD) nm).isSome = true ↔ ∃ b ∈ lb, b.nm = nm := by
 unfold findD
 rw [List.find?_isSome]
 constructor
 ·rintro ⟨d, hd, h⟩
  obtain ⟨b, hb, rfl⟩ := List.mem_map.1 hd
  exact ⟨b, hb, of_decide_eq_true h⟩
 ·rintro ⟨b, hb, h⟩
  exact ⟨diD b, List.mem_map_of_mem hb, decide_eq_true h⟩
theorem bothT_yes {la lb : List Dt} (h : bothT la lb la.length = true) : ∃ a ∈ la, ∃ b ∈ lb, b.nm = a.nm := by
 unfold bothT at h
 rw [List.take_length, List.any_eq_true] at h
 obtain ⟨a, ha, h⟩ := h
 exact ⟨a, ha, findD_some.1 h⟩
theorem bothT_no {la lb : List Dt} (h : bothT la lb la.length = false) : ¬ ∃ a ∈ la, ∃ b ∈ lb, b.nm = a.nm := by
 rintro ⟨a, ha, hb⟩
 have : bothT la lb la.length = true := by
  unfold bothT
  rw [List.take_length, List.any_eq_true]
  exact ⟨a, ha, findD_some.2 hb⟩
 rw [this] at h; cases h
theorem last_of {l : List Dt} {a : Dt} (h : l[l.length - 1]? = some a) : ∃ l', l = l' ++ [a] := by
 have hne : l ≠ [] := fun h0 => by rw [h0] at h; cases h
 refine ⟨l.dropLast, ?_⟩
 have h1 := List.getLast?_eq_getElem? (l := l)
 rw [h, List.getLast?_eq_some_getLast hne, Option.some.injEq] at h1
 rw [← h1]; exact (List.dropLast_concat_getLast hne).symm
theorem pw_at {la : List Dt} (h : la.Pairwise fun a b => a.nm ≠ b.nm ∧ a.at_ < b.at_) {k i : Nat} (hk : k < i) {a b : Dt} (ha : la[k]? = some a) (hb : la[i]? = some b) : a.nm ≠ b.nm ∧ a.at_ < b.at_ := by
 obtain ⟨h1, rfl⟩ := List.getElem?_eq_some_iff.1 ha
 obtain ⟨h2, rfl⟩ := List.getElem?_eq_some_iff.1 hb
 exact List.pairwise_iff_getElem.1 h k i h1 h2 hk
set_option maxRecDepth 100000 in
set_option maxHeartbeats 8000000 in
theorem parts_walk (s t : Str) (hs : s.length ≤ 9223372036854775807) (ht : t.length ≤ 9223372036854775807) (w : World) (hW : Wd w) (hng : 11 ≤ w.heap.size) :
  Ret Tryz.prog 4 #[str s, str t] w (fun v w' => v = .bool true ∧ Ext w w') := by
 refine enter (S := No) (l := [_, _]) (L := []) 207 Tryz.func4 rfl rfl rfl (St.start w No) ?_; refine yA ?_; refine aB rfl ?_; refine yB ?_; refine zq ?_; refine yA ?_; refine zm (v := str _) rfl ?_; refine w_r (fun _ => R_slen st9 rfl (by omega)) rfl rfl ?_; refine w_r (fun _ => R_gt rfl rfl) rfl rfl ?_; refine mB rfl ?_; refine zd (t := 22) rfl (fun h1 => ?_) (fun h1 => ?_)
 ·refine zs rfl rfl (bT h1) ?_; refine zs rfl rfl (bT h1) ?_; refine zs rfl rfl (bT h1) ?_; refine w_r (v := .bool _) (fun _ => zT (bT h1) rfl) rfl rfl ?_; refine mB rfl ?_; refine zs rfl rfl rfl ?_; refine zs rfl rfl rfl ?_; refine zs rfl rfl rfl ?_; refine w_r (v := .bool _) (fun _ => zT rfl rfl) rfl rfl ?_; refine mB rfl ?_; refine zs rfl rfl rfl ?_; refine zs rfl rfl rfl ?_; refine zs rfl rfl rfl ?_; refine w_r (v := .bool _) (fun _ => zT rfl rfl) rfl rfl ?_; refine yB ?_; refine zE rfl ?_; refine yA ?_; refine zC (fun w => zR Tryz.func8 rfl rfl rfl) rfl rfl (fun w h => head_ok w (hW.now (.head _) h) (Nat.le_trans hng (h.fr _ (.head _)).size)) ?_
  refine aB rfl ?_; refine yB ?_; refine ze ?_; refine zt (?_)
  refine zo (v := .bool _) rfl rfl rfl ?_; exact fun w' hw => ⟨rfl, hw.fr (w, No) (.head _)⟩
 ·refine zw rfl rfl (bF h1) ?_; refine zm (v := str _) rfl ?_; refine zw rfl rfl (bF h1) ?_; refine w_r (fun _ => R_slen st9 rfl (by omega)) rfl rfl ?_; refine zw rfl rfl (bF h1) ?_; refine w_r (fun _ => R_gt rfl rfl) rfl rfl ?_; refine w_r (v := .bool _) (fun _ => zF (bF h1) rfl) rfl rfl ?_; refine mB rfl ?_; refine zd (t := 27) rfl (fun h2 => ?_) (fun h2 => ?_)
  ·refine zs rfl rfl (bT h2) ?_; refine zs rfl rfl (bT h2) ?_; refine zs rfl rfl (bT h2) ?_; refine w_r (v := .bool _) (fun _ => zT (bT h2) rfl) rfl rfl ?_; refine mB rfl ?_; refine zs rfl rfl rfl ?_; refine zs rfl rfl rfl ?_; refine zs rfl rfl rfl ?_; refine w_r (v := .bool _) (fun _ => zT rfl rfl) rfl rfl ?_; refine yB ?_; refine zE rfl ?_; refine yA ?_; refine zC (fun w => zR Tryz.func8 rfl rfl rfl) rfl rfl (fun w h => head_ok w (hW.now (.head _) h) (Nat.le_trans hng (h.fr _ (.head _)).size)) ?_; refine aB rfl ?_; refine yB ?_; refine ze ?_; refine zt (?_)
   refine zo (v := .bool _) rfl rfl rfl ?_; exact fun w' hw => ⟨rfl, hw.fr (w, No) (.head _)⟩
  ·refine zw rfl rfl (bF h2) ?_; refine zm (v := str _) rfl ?_; refine zw rfl rfl (bF h2) ?_; refine w_callV (fun b => .bool b) (fun w => zR Tryz.func7 rfl rfl rfl) rfl rfl (fun w h => tame_ok s (by omega) w) (fun b3 => ?_)
   cases b3
   ·refine zw rfl rfl (bF h2) ?_; refine w_r (fun _ => R_not rfl) rfl rfl ?_; refine w_r (v := .bool _) (fun _ => zF (bF h2) rfl) rfl rfl ?_; refine mB rfl ?_; refine zs rfl rfl rfl ?_; refine zs rfl rfl rfl ?_; refine zs rfl rfl rfl ?_; refine w_r (v := .bool _) (fun _ => zT rfl rfl) rfl rfl ?_; refine yB ?_; refine zE rfl ?_; refine yA ?_; refine zC (fun w => zR Tryz.func8 rfl rfl rfl) rfl rfl (fun w h => head_ok w (hW.now (.head _) h) (Nat.le_trans hng (h.fr _ (.head _)).size)) ?_; refine aB rfl ?_; refine yB ?_; refine ze ?_; refine zt (?_)
    refine zo (v := .bool _) rfl rfl rfl ?_; exact fun w' hw => ⟨rfl, hw.fr (w, No) (.head _)⟩
   ·refine zw rfl rfl (bF h2) ?_; refine w_r (fun _ => R_not rfl) rfl rfl ?_; refine w_r (v := .bool _) (fun _ => zF (bF h2) rfl) rfl rfl ?_; refine mB rfl ?_; refine zw rfl rfl rfl ?_; refine zm (v := str _) rfl ?_; refine zw rfl rfl rfl ?_; refine w_callV (fun b => .bool b) (fun w => zR Tryz.func7 rfl rfl rfl) rfl rfl (fun w h => tame_ok t (by omega) w) (fun b4 => ?_)
    cases b4
    ·refine zw rfl rfl rfl ?_; refine w_r (fun _ => R_not rfl) rfl rfl ?_; refine w_r (v := .bool _) (fun _ => zF rfl rfl) rfl rfl ?_; refine yB ?_; refine zE rfl ?_; refine yA ?_; refine zC (fun w => zR Tryz.func8 rfl rfl rfl) rfl rfl (fun w h => head_ok w (hW.now (.head _) h) (Nat.le_trans hng (h.fr _ (.head _)).size)) ?_; refine aB rfl ?_; refine yB ?_; refine ze ?_; refine zt (?_)
     refine zo (v := .bool _) rfl rfl rfl ?_; exact fun w' hw => ⟨rfl, hw.fr (w, No) (.head _)⟩
    ·refine zw rfl rfl rfl ?_; refine w_r (fun _ => R_not rfl) rfl rfl ?_; refine w_r (v := .bool _) (fun _ => zF rfl rfl) rfl rfl ?_; refine yB ?_; refine c_condF rfl ?_; refine zi ?_; refine zk ?_; refine yA ?_; refine zm (v := str _) rfl ?_
     rcases hqa : fRead s with fla | la
     ·refine zC (v := .tuple #[.slice none 0 0, .agg #[.int .i64 (fla.1 : Nat), .int .i64 (fla.2 : Nat)]]) (fun w => zR Tryz.func9 rfl rfl rfl) rfl rfl (fun w1 h => by have h9 := fRead_ok s _ rfl w1 (by omega) (hW.now (.head _) h) (Nat.le_trans hng (h.fr _ (.head _)).size); rw [hqa] at h9; exact h9) ?_
      have hfa := fault_law hqa
      refine zm rfl ?_; refine w_r (fun _ => R_extract rfl rfl) rfl rfl ?_; refine w_r (fun _ => R_extract rfl rfl) rfl rfl ?_; refine w_alloc zr27 (fun b5 gb5 ub5 => ?_)
      refine za (v := .slice _ _ _) rfl ?_; refine w_store 0 rfl z27 rfl rfl rfl rfl rfl rfl rfl ?_; refine yC ?_; refine zm (v := str _) rfl ?_
      rcases hqb : fRead t with flb | lb
      ·refine zC (v := .tuple #[.slice none 0 0, .agg #[.int .i64 (flb.1 : Nat), .int .i64 (flb.2 : Nat)]]) (fun w => zR Tryz.func9 rfl rfl rfl) rfl rfl (fun w1 h => by have h9 := fRead_ok t _ rfl w1 (by omega) (hW.now (.head _) h) (Nat.le_trans hng (h.fr _ (.head _)).size); rw [hqb] at h9; exact h9) ?_
       have hfb := fault_law hqb
       refine zm rfl ?_; refine w_r (fun _ => R_extract rfl rfl) rfl rfl ?_; refine w_r (fun _ => R_extract rfl rfl) rfl rfl ?_; refine w_alloc zr27 (fun b6 gb6 ub6 => ?_)
       refine za (v := .slice _ _ _) rfl ?_; refine w_store 0 rfl z27 rfl rfl rfl rfl rfl rfl rfl ?_; refine yB ?_; refine zq ?_; refine yA ?_; refine zf fa27_0 rfl ?_; refine zl z25 rfl (fun _ h => zc 1 rfl rfl h) ?_; refine w_r (fun _ => R_neN (a := (fla.1)) (b := 0) rfl rfl) rfl rfl ?_; refine mB rfl ?_; refine zd (t := 51) rfl (fun h7 => ?_) (fun h7 => ?_)
       ·refine zs rfl rfl (bT h7) ?_; refine zs rfl rfl (bT h7) ?_; refine zs rfl rfl (bT h7) ?_; refine w_r (v := .bool _) (fun _ => zT (bT h7) rfl) rfl rfl ?_; refine yB ?_; refine zE rfl ?_; refine yA ?_; refine zf fa27_0 rfl ?_; refine zl z25 rfl (fun _ h => zc 1 rfl rfl h) ?_; refine w_r (fun _ => R_eqN (a := (fla.1)) (b := 0) rfl rfl) rfl rfl ?_; refine mB rfl ?_; refine zd (t := 59) rfl (fun h8 => ?_) (fun h8 => ?_)
        ·omega
        ·refine zw rfl rfl (bF h8) ?_; refine mS rfl ?_; refine zw rfl rfl (bF h8) ?_; refine w_r (fun _ => R_len sl24 rfl) rfl rfl ?_; refine zw rfl rfl (bF h8) ?_; refine w_r (fun _ => R_eq rfl rfl) rfl rfl ?_; refine zw rfl rfl (bF h8) ?_; refine mB rfl ?_; refine zw rfl rfl (congrArg Value.bool (decide_eq_true (by decide))) ?_; refine zf fa27_1 rfl ?_; refine zw rfl rfl (congrArg Value.bool (decide_eq_true (by decide))) ?_; refine zl z3 rfl (fun _ h => zc 1 rfl rfl h) ?_; refine zw rfl rfl (congrArg Value.bool (decide_eq_true (by decide))) ?_; refine w_r (fun _ => R_geN (a := (fla.2)) (b := 0) rfl rfl) rfl rfl ?_; refine zw rfl rfl (bF h8) ?_; refine w_r (v := .bool _) (fun _ => zT (congrArg Value.bool (decide_eq_true (by decide))) rfl) rfl rfl ?_; refine zw rfl rfl (bF h8) ?_
         refine mB rfl ?_; refine zd (t := 68) rfl (fun h9 => ?_) (fun h9 => ?_)
         ·refine zw rfl rfl (bT h9) ?_; refine zf fa27_1 rfl ?_; refine zw rfl rfl (bT h9) ?_; refine zl z3 rfl (fun _ h => zc 1 rfl rfl h) ?_; refine zw rfl rfl (bT h9) ?_; refine zm (v := str _) rfl ?_; refine zw rfl rfl (bT h9) ?_; refine w_r (fun _ => R_slen st9 rfl (by omega)) rfl rfl ?_; refine zw rfl rfl (bT h9) ?_; refine w_r (fun _ => R_le rfl rfl) rfl rfl ?_; refine zw rfl rfl (bF h8) ?_; refine w_r (v := .bool _) (fun _ => zT (bT h9) rfl) rfl rfl ?_; refine w_r (v := .bool _) (fun _ => zF (bF h8) rfl) rfl rfl ?_; refine mB rfl ?_; refine zd (t := 76) rfl (fun h10 => ?_) (fun h10 => ?_)
          ·refine zw rfl rfl (bT h10) ?_; refine zC (fun w => zR Tryz.func8 rfl rfl rfl) rfl rfl (fun w h => head_ok w (hW.now (.head _) h) (Nat.le_trans hng (h.fr _ (.head _)).size)) ?_; refine w_r (v := .bool _) (fun _ => zT (bT h10) rfl) rfl rfl ?_; refine aB rfl ?_; refine yB ?_; refine ze ?_; refine zt (?_)
           refine zo (v := .bool _) rfl rfl rfl ?_; exact fun w' hw => ⟨rfl, hw.fr (w, No) (.head _)⟩
          ·omega
         ·omega
       ·omega
      ·refine w_telK (TL.row TL.dic) (lb.map diD) (fun b => .tuple #[.slice b.1 (lb.map diD).length b.2, .agg #[.int .i64 0, .int .i64 0]]) (s0 := w.heap.size) (fun w => zR Tryz.func9 rfl rfl rfl) rfl rfl (fun w1 h => (h.fr _ (.head _)).size) (fun w1 h => by have h9 := fRead_ok t _ rfl w1 (by omega) (hW.now (.head _) h) (Nat.le_trans hng (h.fr _ (.head _)).size); rw [hqb] at h9; rw [show (lb.map diD).length = lb.length from List.length_map _]; exact h9) (fun xb bxb hKxb => ?_)
       obtain ⟨vxb, cxb⟩ := bxb
       have hRxb : rowM 5 diC xb.1 (Nb w.heap.size xb) (lb.map diD) (vxb, cxb) := hKxb
       have hlb : (lb.map diD).length = lb.length := List.length_map _
       refine zm rfl ?_; refine w_r (fun _ => R_extract rfl rfl) rfl rfl ?_; refine w_r (fun _ => R_extract rfl rfl) rfl rfl ?_; refine w_alloc zr27 (fun b11 gb11 ub11 => ?_)
       refine za (v := .slice _ _ _) rfl ?_; refine w_store 0 rfl z27 rfl rfl rfl rfl rfl rfl rfl ?_; refine yB ?_; refine zq ?_; refine yA ?_; refine zf fa27_0 rfl ?_; refine zl z25 rfl (fun _ h => zc 1 rfl rfl h) ?_; refine w_r (fun _ => R_neN (a := (fla.1)) (b := 0) rfl rfl) rfl rfl ?_; refine mB rfl ?_; refine zd (t := 51) rfl (fun h12 => ?_) (fun h12 => ?_)
       ·refine zs rfl rfl (bT h12) ?_; refine zs rfl rfl (bT h12) ?_; refine zs rfl rfl (bT h12) ?_; refine w_r (v := .bool _) (fun _ => zT (bT h12) rfl) rfl rfl ?_; refine yB ?_; refine zE rfl ?_; refine yA ?_; refine zf fa27_0 rfl ?_; refine zl z25 rfl (fun _ h => zc 1 rfl rfl h) ?_; refine w_r (fun _ => R_eqN (a := (fla.1)) (b := 0) rfl rfl) rfl rfl ?_; refine mB rfl ?_; refine zd (t := 59) rfl (fun h13 => ?_) (fun h13 => ?_)
        ·omega
        ·refine zw rfl rfl (bF h13) ?_; refine mS rfl ?_; refine zw rfl rfl (bF h13) ?_; refine w_r (fun _ => R_len sl24 rfl) rfl rfl ?_; refine zw rfl rfl (bF h13) ?_; refine w_r (fun _ => R_eq rfl rfl) rfl rfl ?_; refine zw rfl rfl (bF h13) ?_; refine mB rfl ?_; refine zw rfl rfl (congrArg Value.bool (decide_eq_true (by decide))) ?_; refine zf fa27_1 rfl ?_; refine zw rfl rfl (congrArg Value.bool (decide_eq_true (by decide))) ?_; refine zl z3 rfl (fun _ h => zc 1 rfl rfl h) ?_; refine zw rfl rfl (congrArg Value.bool (decide_eq_true (by decide))) ?_; refine w_r (fun _ => R_geN (a := (fla.2)) (b := 0) rfl rfl) rfl rfl ?_; refine zw rfl rfl (bF h13) ?_; refine w_r (v := .bool _) (fun _ => zT (congrArg Value.bool (decide_eq_true (by decide))) rfl) rfl rfl ?_; refine zw rfl rfl (bF h13) ?_
         refine mB rfl ?_; refine zd (t := 68) rfl (fun h14 => ?_) (fun h14 => ?_)
         ·refine zw rfl rfl (bT h14) ?_; refine zf fa27_1 rfl ?_; refine zw rfl rfl (bT h14) ?_; refine zl z3 rfl (fun _ h => zc 1 rfl rfl h) ?_; refine zw rfl rfl (bT h14) ?_; refine zm (v := str _) rfl ?_; refine zw rfl rfl (bT h14) ?_; refine w_r (fun _ => R_slen st9 rfl (by omega)) rfl rfl ?_; refine zw rfl rfl (bT h14) ?_; refine w_r (fun _ => R_le rfl rfl) rfl rfl ?_; refine zw rfl rfl (bF h13) ?_; refine w_r (v := .bool _) (fun _ => zT (bT h14) rfl) rfl rfl ?_; refine w_r (v := .bool _) (fun _ => zF (bF h13) rfl) rfl rfl ?_; refine mB rfl ?_; refine zd (t := 76) rfl (fun h15 => ?_) (fun h15 => ?_)
          ·refine zw rfl rfl (bT h15) ?_; refine zC (fun w => zR Tryz.func8 rfl rfl rfl) rfl rfl (fun w h => head_ok w (hW.now (.tail _ (.head _)) h) (Nat.le_trans hng (h.fr _ (.tail _ (.head _))).size)) ?_; refine w_r (v := .bool _) (fun _ => zT (bT h15) rfl) rfl rfl ?_; refine aB rfl ?_; refine yB ?_; refine ze ?_; refine zt (?_)
           refine zo (v := .bool _) rfl rfl rfl ?_; exact fun w' hw => ⟨rfl, hw.fr (w, No) (.tail _ (.head _))⟩
          ·omega
         ·omega
       ·omega
     ·refine w_telK (TL.row TL.dic) (la.map diD) (fun b => .tuple #[.slice b.1 (la.map diD).length b.2, .agg #[.int .i64 0, .int .i64 0]]) (s0 := w.heap.size) (fun w => zR Tryz.func9 rfl rfl rfl) rfl rfl (fun w1 h => (h.fr _ (.head _)).size) (fun w1 h => by have h9 := fRead_ok s _ rfl w1 (by omega) (hW.now (.head _) h) (Nat.le_trans hng (h.fr _ (.head _)).size); rw [hqa] at h9; rw [show (la.map diD).length = la.length from List.length_map _]; exact h9) (fun xa bxa hKxa => ?_)
      obtain ⟨vxa, cxa⟩ := bxa
      have hRxa : rowM 5 diC xa.1 (Nb w.heap.size xa) (la.map diD) (vxa, cxa) := hKxa
      have hla : (la.map diD).length = la.length := List.length_map _
      refine zm rfl ?_; refine w_r (fun _ => R_extract rfl rfl) rfl rfl ?_; refine w_r (fun _ => R_extract rfl rfl) rfl rfl ?_; refine w_alloc zr27 (fun b16 gb16 ub16 => ?_)
      refine za (v := .slice _ _ _) rfl ?_; refine w_store 0 rfl z27 rfl rfl rfl rfl rfl rfl rfl ?_; refine yC ?_; refine zm (v := str _) rfl ?_
      rcases hqb : fRead t with flb | lb
      ·refine zC (v := .tuple #[.slice none 0 0, .agg #[.int .i64 (flb.1 : Nat), .int .i64 (flb.2 : Nat)]]) (fun w => zR Tryz.func9 rfl rfl rfl) rfl rfl (fun w1 h => by have h9 := fRead_ok t _ rfl w1 (by omega) (hW.now (.tail _ (.head _)) h) (Nat.le_trans hng (h.fr _ (.tail _ (.head _))).size); rw [hqb] at h9; exact h9) ?_
       have hfb := fault_law hqb
       refine zm rfl ?_; refine w_r (fun _ => R_extract rfl rfl) rfl rfl ?_; refine w_r (fun _ => R_extract rfl rfl) rfl rfl ?_; refine w_alloc zr27 (fun b17 gb17 ub17 => ?_)
       refine za (v := .slice _ _ _) rfl ?_; refine w_store 0 rfl z27 rfl rfl rfl rfl rfl rfl rfl ?_; refine yB ?_; refine zq ?_; refine yA ?_; refine zf fa27_0 rfl ?_; refine zl z25 rfl (fun _ h => zc 1 rfl rfl h) ?_; refine w_r (fun _ => R_ne rfl rfl) rfl rfl ?_; refine mB rfl ?_; refine zw rfl rfl (congrArg Value.bool (decide_eq_false (by decide))) ?_; refine zf fa27_0 rfl ?_; refine zw rfl rfl (congrArg Value.bool (decide_eq_false (by decide))) ?_; refine zl z25 rfl (fun _ h => zc 0 rfl rfl h) ?_; refine zw rfl rfl (congrArg Value.bool (decide_eq_false (by decide))) ?_; refine w_r (fun _ => R_neN (a := (flb.1)) (b := 0) rfl rfl) rfl rfl ?_
       refine w_r (v := .bool _) (fun _ => zF (congrArg Value.bool (decide_eq_false (by decide))) rfl) rfl rfl ?_; refine yB ?_; refine zD rfl (fun h18 => ?_) (fun h18 => ?_)
       ·refine yA ?_; refine zf fa27_0 rfl ?_; refine zl z25 rfl (fun _ h => zc 1 rfl rfl h) ?_; refine w_r (fun _ => R_eq rfl rfl) rfl rfl ?_; refine mB rfl ?_; refine zs rfl rfl (congrArg Value.bool (decide_eq_true (by decide))) ?_; refine zs rfl rfl (congrArg Value.bool (decide_eq_true (by decide))) ?_; refine zs rfl rfl (congrArg Value.bool (decide_eq_true (by decide))) ?_; refine zs rfl rfl (congrArg Value.bool (decide_eq_true (by decide))) ?_; refine zU rfl rfl rfl ?_; refine zU rfl rfl rfl ?_; refine zU rfl rfl rfl ?_; refine zs rfl rfl (congrArg Value.bool (decide_eq_true (by decide))) ?_; refine zs rfl rfl (congrArg Value.bool (decide_eq_true (by decide))) ?_
        refine zU rfl rfl rfl ?_; refine zU rfl rfl rfl ?_; refine zU rfl rfl rfl ?_; refine zU rfl rfl rfl ?_; refine zU rfl rfl rfl ?_; refine zs rfl rfl (congrArg Value.bool (decide_eq_true (by decide))) ?_; refine w_r (v := .bool _) (fun _ => zT (congrArg Value.bool (decide_eq_true (by decide))) rfl) rfl rfl ?_; refine mB rfl ?_; refine zw rfl rfl rfl ?_; refine zC (fun w => zR Tryz.func8 rfl rfl rfl) rfl rfl (fun w h => head_ok w (hW.now (.tail _ (.head _)) h) (Nat.le_trans hng (h.fr _ (.tail _ (.head _))).size)) ?_; refine w_r (v := .bool _) (fun _ => zT rfl rfl) rfl rfl ?_; refine aB rfl ?_; refine yB ?_; refine ze ?_; refine zt (?_)
        refine zo (v := .bool _) rfl rfl rfl ?_; exact fun w' hw => ⟨rfl, hw.fr (w, No) (.tail _ (.head _))⟩
       ·omega
      ·refine w_telK (TL.row TL.dic) (lb.map diD) (fun b => .tuple #[.slice b.1 (lb.map diD).length b.2, .agg #[.int .i64 0, .int .i64 0]]) (s0 := w.heap.size) (fun w => zR Tryz.func9 rfl rfl rfl) rfl rfl (fun w1 h => (h.fr _ (.tail _ (.head _))).size) (fun w1 h => by have h9 := fRead_ok t _ rfl w1 (by omega) (hW.now (.tail _ (.head _)) h) (Nat.le_trans hng (h.fr _ (.tail _ (.head _))).size); rw [hqb] at h9; rw [show (lb.map diD).length = lb.length from List.length_map _]; exact h9) (fun xb bxb hKxb => ?_)
       obtain ⟨vxb, cxb⟩ := bxb
       have hRxb : rowM 5 diC xb.1 (Nb w.heap.size xb) (lb.map diD) (vxb, cxb) := hKxb
       have hlb : (lb.map diD).length = lb.length := List.length_map _
       obtain ⟨hp1, hp2, hp3, hp4⟩ := parts_law (by omega) (by omega) hqa hqb; have hBb := disB_of hqb; have hba := (read_b hqa).2; have hbb := (read_b hqb).2
       refine zm rfl ?_; refine w_r (fun _ => R_extract rfl rfl) rfl rfl ?_; refine w_r (fun _ => R_extract rfl rfl) rfl rfl ?_; refine w_alloc zr27 (fun b19 gb19 ub19 => ?_)
       refine za (v := .slice _ _ _) rfl ?_; refine w_store 0 rfl z27 rfl rfl rfl rfl rfl rfl rfl ?_; refine yB ?_; refine zq ?_; refine yA ?_; refine zf fa27_0 rfl ?_; refine zl z25 rfl (fun _ h => zc 1 rfl rfl h) ?_; refine w_r (fun _ => R_ne rfl rfl) rfl rfl ?_; refine mB rfl ?_; refine zw rfl rfl (congrArg Value.bool (decide_eq_false (by decide))) ?_; refine zf fa27_0 rfl ?_; refine zw rfl rfl (congrArg Value.bool (decide_eq_false (by decide))) ?_; refine zl z25 rfl (fun _ h => zc 0 rfl rfl h) ?_; refine zw rfl rfl (congrArg Value.bool (decide_eq_false (by decide))) ?_; refine w_r (fun _ => R_ne rfl rfl) rfl rfl ?_
       refine w_r (v := .bool _) (fun _ => zF (congrArg Value.bool (decide_eq_false (by decide))) rfl) rfl rfl ?_; refine yB ?_; refine c_condF (congrArg Value.bool (decide_eq_false (by decide))) ?_; refine zi ?_; refine zk ?_; refine yA ?_; refine aB rfl ?_; refine yB ?_; refine zq ?_; refine yA ?_; refine aI rfl ?_; refine yB ?_; refine zB ?_; refine c_st (B' := _) (L' := []) (fun w h => h.drop (List.nil_sublist _)) ?_
       refine c_loop (fun m9 e B L => ∃ (i : Nat), e 0 = str s ∧ e 1 = str t ∧ e 5 = .slice vxa (la.map diD).length cxa ∧ e 7 = .slice vxb (lb.map diD).length cxb ∧ e 9 = .bool (bothT la lb i) ∧ e 10 = .int .i64 (i : Nat) ∧ B = [xb, xa, (w, No)] ∧ L = [] ∧ i ≤ la.length ∧ m9 = la.length - i) _ ⟨0, rfl, rfl, rfl, rfl, rfl, rfl, rfl, rfl, Nat.zero_le _, rfl⟩ ?_
       rintro m9 e B L ⟨i, e0_1, e1_1, e5_1, e7_1, e9_1, e10_1, rfl, rfl, hi, rfl⟩
       refine zq ?_; refine yA ?_; refine mI e10_1 ?_; refine mS e5_1 ?_; refine w_r (fun _ => R_len sl24 rfl) rfl rfl ?_; refine w_r (fun _ => R_ltN (a := i) (b := ((la.map diD).length)) rfl rfl) rfl rfl ?_; refine yB ?_; refine zD rfl (fun h20 => ?_) (fun h20 => ?_)
       ·obtain ⟨dI, hdI⟩ : ∃ d, la[i]? = some d := ⟨_, List.getElem?_eq_getElem (by omega)⟩; obtain ⟨lcI, hAI, ⟨anI, cnI⟩, rfl, hTI⟩ := hRxa.2 i (diD dI) (by rw [List.getElem?_map, hdI]; rfl); obtain ⟨qI, oI, hqI, hNI, hcI⟩ := hAI; dsimp only at hqI; subst hqI
        refine zi ?_; refine zk ?_; refine zq ?_; refine zB ?_; refine zq ?_; refine yA ?_; refine aI rfl ?_; refine yB ?_; refine zB ?_; refine c_loop (fun m9 e B L => ∃ (k : Nat), e 0 = str s ∧ e 1 = str t ∧ e 5 = .slice (some ⟨qI, oI, none⟩) (la.map diD).length cxa ∧ e 7 = .slice vxb (lb.map diD).length cxb ∧ e 9 = .bool (bothT la lb i) ∧ e 10 = .int .i64 (i : Nat) ∧ e 11 = .int .i64 (k : Nat) ∧ B = [xb, xa, (w, No)] ∧ L = [] ∧ k ≤ i ∧ m9 = i - k) _ ⟨0, e0_1, e1_1, e5_1, e7_1, e9_1, e10_1, rfl, rfl, rfl, Nat.zero_le _, rfl⟩ ?_
        rintro m9 e B L ⟨k, e0_2, e1_2, e5_2, e7_2, e9_2, e10_2, e11_2, rfl, rfl, hk, rfl⟩
        refine zq ?_; refine yA ?_; refine mI e11_2 ?_; refine mI e10_2 ?_; refine w_r (fun _ => R_ltN (a := k) (b := i) rfl rfl) rfl rfl ?_; refine yB ?_; refine zD rfl (fun h21 => ?_) (fun h21 => ?_)
        ·obtain ⟨dK, hdK⟩ : ∃ d, la[k]? = some d := ⟨_, List.getElem?_eq_getElem (by omega)⟩; obtain ⟨lcK, hAK, ⟨anK, cnK⟩, rfl, hTK⟩ := hRxa.2 k (diD dK) (by rw [List.getElem?_map, hdK]; rfl); obtain ⟨qK, oK, hqK, hNK, hcK⟩ := hAK; dsimp only at hqK; cases hqK; have hpw := pw_at hp1 (by omega) hdK hdI; have hkA : (diD dK).at_ = (dK.at_ : Int) := rfl; have hiA : (diD dI).at_ = (dI.at_ : Int) := rfl
         refine zi ?_; refine zk ?_; refine zq ?_; refine zB ?_; refine zq ?_; refine c_heldS mixed ?_; refine zh (v := .slice _ _ _) 0 rfl (by kernel_rfl) rfl rfl (fun w h => h) (fun w h => R_move e5_2) ?_; refine zh (v := .int _ _) 1 rfl (by kernel_rfl) rfl rfl (fun w h => h) (fun w h => R_move e11_2) ?_; refine zh 2 rfl (by kernel_rfl) rfl rfl (fun w h => h) (fun w h => R_iaN (i := k) sl24 rfl rfl (by first | omega | decide | exact Nat.succ_pos _ | exact Nat.succ_lt_succ (Nat.succ_pos _))) ?_; refine zh 3 rfl (by kernel_rfl) rfl rfl (fun w h => h) (fun w h => R_fa fa33_0 rfl) ?_
         refine zh (v := str _) 4 rfl (by kernel_rfl) rfl rfl (fun w h => h) (fun w h => R_ld1 z9 rfl (by first | exact cel_old (.tail _ (.head _)) (hcI 0 _ rfl) hNI.2.2 h | exact cel_old (.tail _ (.head _)) (hcI 1 _ rfl) hNI.2.2 h | exact cel_old (.tail _ (.head _)) (hcK 0 _ rfl) hNK.2.2 h | exact cel_old (.tail _ (.head _)) (hcK 1 _ rfl) hNK.2.2 h)) ?_; refine zh (v := .slice _ _ _) 5 rfl (by kernel_rfl) rfl rfl (fun w h => h) (fun w h => R_move e5_2) ?_; refine zh (v := .int _ _) 6 rfl (by kernel_rfl) rfl rfl (fun w h => h) (fun w h => R_move e10_2) ?_; refine zh 7 rfl (by kernel_rfl) rfl rfl (fun w h => h) (fun w h => R_iaN (i := i) sl24 rfl rfl (by first | omega | decide | exact Nat.succ_pos _ | exact Nat.succ_lt_succ (Nat.succ_pos _))) ?_; refine zh 8 rfl (by kernel_rfl) rfl rfl (fun w h => h) (fun w h => R_fa fa33_0 rfl) ?_
         refine zh (v := str _) 9 rfl (by kernel_rfl) rfl rfl (fun w h => h) (fun w h => R_ld1 z9 rfl (by first | exact cel_old (.tail _ (.head _)) (hcI 0 _ rfl) hNI.2.2 h | exact cel_old (.tail _ (.head _)) (hcI 1 _ rfl) hNI.2.2 h | exact cel_old (.tail _ (.head _)) (hcK 0 _ rfl) hNK.2.2 h | exact cel_old (.tail _ (.head _)) (hcK 1 _ rfl) hNK.2.2 h)) ?_; refine zh 10 rfl (by kernel_rfl) rfl rfl (fun w h => h) (fun w h => R_seq rfl rfl) ?_; refine zh (v := .bool _) 11 rfl (by kernel_rfl) rfl rfl (fun w h => h) (fun w h => R_move rfl) ?_; refine h_splitD (t := 101) rfl (fun h22 => ?_) (fun h22 => ?_)
         ·exact absurd h22 hpw.1
         ·refine h_takeG (v := .slice _ _ _) 12 rfl (by kernel_rfl) rfl rfl rfl (bF h22) rfl (fun w h => h) (fun w h => R_move e5_2) ?_; refine h_takeG (v := .int _ _) 13 rfl (by kernel_rfl) rfl rfl rfl (bF h22) rfl (fun w h => h) (fun w h => R_move e11_2) ?_; refine h_takeG 14 rfl (by kernel_rfl) rfl rfl rfl (bF h22) rfl (fun w h => h) (fun w h => R_iaN (i := k) sl24 rfl rfl (by first | omega | decide | exact Nat.succ_pos _ | exact Nat.succ_lt_succ (Nat.succ_pos _))) ?_; refine h_takeG 15 rfl (by kernel_rfl) rfl rfl rfl (bF h22) rfl (fun w h => h) (fun w h => R_fa fa33_1 rfl) ?_
          refine h_takeG (v := .int _ _) 16 rfl (by kernel_rfl) rfl rfl rfl (bF h22) rfl (fun w h => h) (fun w h => R_ld1 z3 rfl (by first | exact cel_old (.tail _ (.head _)) (hcI 0 _ rfl) hNI.2.2 h | exact cel_old (.tail _ (.head _)) (hcI 1 _ rfl) hNI.2.2 h | exact cel_old (.tail _ (.head _)) (hcK 0 _ rfl) hNK.2.2 h | exact cel_old (.tail _ (.head _)) (hcK 1 _ rfl) hNK.2.2 h)) ?_; refine h_takeG (v := .slice _ _ _) 17 rfl (by kernel_rfl) rfl rfl rfl (bF h22) rfl (fun w h => h) (fun w h => R_move e5_2) ?_; refine h_takeG (v := .int _ _) 18 rfl (by kernel_rfl) rfl rfl rfl (bF h22) rfl (fun w h => h) (fun w h => R_move e10_2) ?_; refine h_takeG 19 rfl (by kernel_rfl) rfl rfl rfl (bF h22) rfl (fun w h => h) (fun w h => R_iaN (i := i) sl24 rfl rfl (by first | omega | decide | exact Nat.succ_pos _ | exact Nat.succ_lt_succ (Nat.succ_pos _))) ?_
          refine h_takeG 20 rfl (by kernel_rfl) rfl rfl rfl (bF h22) rfl (fun w h => h) (fun w h => R_fa fa33_1 rfl) ?_; refine h_takeG (v := .int _ _) 21 rfl (by kernel_rfl) rfl rfl rfl (bF h22) rfl (fun w h => h) (fun w h => R_ld1 z3 rfl (by first | exact cel_old (.tail _ (.head _)) (hcI 0 _ rfl) hNI.2.2 h | exact cel_old (.tail _ (.head _)) (hcI 1 _ rfl) hNI.2.2 h | exact cel_old (.tail _ (.head _)) (hcK 0 _ rfl) hNK.2.2 h | exact cel_old (.tail _ (.head _)) (hcK 1 _ rfl) hNK.2.2 h)) ?_; refine h_takeG 22 rfl (by kernel_rfl) rfl rfl rfl (bF h22) rfl (fun w h => h) (fun w h => R_ge rfl rfl) ?_; refine zh (v := .bool _) 23 rfl (by kernel_rfl) rfl rfl (fun w h => h) (fun w h => zF (bF h22) rfl) ?_; refine h_done (by kernel_rfl) (fun w h => h) ?_; refine zk ?_; refine zD rfl (fun h23 => ?_) (fun h23 => ?_)
          ·omega
          ·refine zi ?_; refine b_on (zk ?_); refine zr ?_; refine mI e11_2 ?_; refine w_r (fun _ => R_addN (n := k) (b := 1) rfl rfl (by omega)) rfl rfl ?_; refine aI rfl ?_; refine zn ?_; exact k_again _ (by omega) ⟨k + 1, e0_2, e1_2, e5_2, e7_2, e9_2, e10_2, rfl, rfl, rfl, by omega, rfl⟩
        ·refine c_exit ?_; refine zx (zx (b_here rfl (zk ?_))); refine yA ?_; refine mS e7_2 ?_; refine mS e5_2 ?_; refine mI e10_2 ?_; refine w_r (fun _ => R_iaN (i := i) sl24 rfl rfl (by first | omega | decide | exact Nat.succ_pos _ | exact Nat.succ_lt_succ (Nat.succ_pos _))) rfl rfl ?_; refine zf fa33_0 rfl ?_; refine zl (v := str dI.nm) z9 rfl (fun w h => cel_old (.tail _ (.head _)) (hcI 0 _ rfl) hNI.2.2 h) ?_
         rcases hfi : findD (lb.map diD) dI.nm with _ | dF
         ·refine zC (v := .tuple #[.agg #[str [], .int .i64 0, .bool false, .bool false, .slice none 0 0], .bool false]) (fun w => zR Tryz.func12 rfl rfl rfl) rfl rfl (fun w1 h => by have h9 := Find_ok (lb.map diD) dI.nm _ cxb w1 (Kt.any (show Kt xb w.heap.size (rowM 5 diC) (lb.map diD) _ from hKxb) (TL.row TL.dic) (.head _) h) hBb; rw [hfi] at h9; exact h9) ?_; refine zm rfl ?_; refine w_r (fun _ => R_extract rfl rfl) rfl rfl ?_; refine w_r (fun _ => R_extract rfl rfl) rfl rfl ?_; refine w_alloc zr33 (fun b24 gb24 ub24 => ?_)
          refine w_store 0 rfl z33 rfl rfl rfl rfl rfl rfl rfl ?_; refine aB rfl ?_; refine yB ?_; refine zr ?_
          cases hbo : bothT la lb i
          ·refine zm (v := .bool false) (e9_2.trans (congrArg Value.bool hbo)) ?_; refine mB rfl ?_; refine zw rfl rfl rfl ?_; refine mB rfl ?_; refine w_r (v := .bool _) (fun _ => zF rfl rfl) rfl rfl ?_; refine aB rfl ?_; refine zn ?_; refine b_on (zk ?_); refine zr ?_; refine mI e10_2 ?_; refine w_r (fun _ => R_addN (n := i) (b := 1) rfl rfl (by omega)) rfl rfl ?_; refine aI rfl ?_; refine zn ?_
           have hbs : bothT la lb (i + 1) = (bothT la lb i || (findD (lb.map diD) dI.nm).isSome) := bothT_succ hdI
           refine k_st (B' := [xb, xa, (w, No)]) (L' := []) (fun w h => (h.drop (List.nil_sublist _))) ?_; exact k_again _ (by omega) ⟨i + 1, e0_2, e1_2, e5_2, e7_2, (congrArg Value.bool (by rw [hbs, hbo, hfi]; rfl)), rfl, rfl, rfl, by omega, rfl⟩
          ·refine zm (v := .bool true) (e9_2.trans (congrArg Value.bool hbo)) ?_; refine mB rfl ?_; refine zs rfl rfl rfl ?_; refine w_r (v := .bool _) (fun _ => zT rfl rfl) rfl rfl ?_; refine aB rfl ?_; refine zn ?_; refine b_on (zk ?_); refine zr ?_; refine mI e10_2 ?_; refine w_r (fun _ => R_addN (n := i) (b := 1) rfl rfl (by omega)) rfl rfl ?_; refine aI rfl ?_; refine zn ?_
           have hbs : bothT la lb (i + 1) = (bothT la lb i || (findD (lb.map diD) dI.nm).isSome) := bothT_succ hdI
           refine k_st (B' := [xb, xa, (w, No)]) (L' := []) (fun w h => (h.drop (List.nil_sublist _))) ?_; exact k_again _ (by omega) ⟨i + 1, e0_2, e1_2, e5_2, e7_2, (congrArg Value.bool (by rw [hbs, hbo, hfi]; rfl)), rfl, rfl, rfl, by omega, rfl⟩
         ·refine w_telK TL.dit dF (fun b => .tuple #[.agg (diE dF b).toArray, .bool true]) (s0 := w.heap.size) (fun w => zR Tryz.func12 rfl rfl rfl) rfl rfl (fun w1 h => (h.fr _ (.tail _ (.tail _ (.head _)))).size) (fun w1 h => by have h9 := Find_ok (lb.map diD) dI.nm _ cxb w1 (Kt.any (show Kt xb w.heap.size (rowM 5 diC) (lb.map diD) _ from hKxb) (TL.row TL.dic) (.head _) h) hBb; rw [hfi] at h9; exact h9) (fun xf bf hKf => ?_)
          refine zm rfl ?_; refine w_r (fun _ => R_extract rfl rfl) rfl rfl ?_; refine w_r (fun _ => R_extract rfl rfl) rfl rfl ?_; refine w_alloc zr33 (fun b25 gb25 ub25 => ?_)
          refine w_store 0 rfl z33 rfl rfl rfl rfl rfl rfl rfl ?_; refine aB rfl ?_; refine yB ?_; refine zr ?_
          cases hbo : bothT la lb i
          ·refine zm (v := .bool false) (e9_2.trans (congrArg Value.bool hbo)) ?_; refine mB rfl ?_; refine zw rfl rfl rfl ?_; refine mB rfl ?_; refine w_r (v := .bool _) (fun _ => zF rfl rfl) rfl rfl ?_; refine aB rfl ?_; refine zn ?_; refine b_on (zk ?_); refine zr ?_; refine mI e10_2 ?_; refine w_r (fun _ => R_addN (n := i) (b := 1) rfl rfl (by omega)) rfl rfl ?_; refine aI rfl ?_; refine zn ?_
           have hbs : bothT la lb (i + 1) = (bothT la lb i || (findD (lb.map diD) dI.nm).isSome) := bothT_succ hdI
           refine k_st (B' := [xb, xa, (w, No)]) (L' := []) (fun w h => (h.drop (List.nil_sublist _)).unbase (fun x hx => .tail _ hx)) ?_; exact k_again _ (by omega) ⟨i + 1, e0_2, e1_2, e5_2, e7_2, (congrArg Value.bool (by rw [hbs, hbo, hfi]; rfl)), rfl, rfl, rfl, by omega, rfl⟩
          ·refine zm (v := .bool true) (e9_2.trans (congrArg Value.bool hbo)) ?_; refine mB rfl ?_; refine zs rfl rfl rfl ?_; refine w_r (v := .bool _) (fun _ => zT rfl rfl) rfl rfl ?_; refine aB rfl ?_; refine zn ?_; refine b_on (zk ?_); refine zr ?_; refine mI e10_2 ?_; refine w_r (fun _ => R_addN (n := i) (b := 1) rfl rfl (by omega)) rfl rfl ?_; refine aI rfl ?_; refine zn ?_
           have hbs : bothT la lb (i + 1) = (bothT la lb i || (findD (lb.map diD) dI.nm).isSome) := bothT_succ hdI
           refine k_st (B' := [xb, xa, (w, No)]) (L' := []) (fun w h => (h.drop (List.nil_sublist _)).unbase (fun x hx => .tail _ hx)) ?_; exact k_again _ (by omega) ⟨i + 1, e0_2, e1_2, e5_2, e7_2, (congrArg Value.bool (by rw [hbs, hbo, hfi]; rfl)), rfl, rfl, rfl, by omega, rfl⟩
       ·obtain rfl : i = la.length := (by omega)
        refine c_exit ?_; refine zx (zx (b_here rfl (zk ?_))); refine yA ?_; refine zm (v := str _) e0_1 ?_; refine w_r (fun _ => R_cat rfl rfl (by (try simp only [List.length_append, List.length_cons, List.length_nil]); omega)) rfl rfl ?_; refine zm (v := str _) e1_1 ?_; refine w_r (fun _ => R_cat rfl rfl (by (try simp only [List.length_append, List.length_cons, List.length_nil]); omega)) rfl rfl ?_
        have hcat : s ++ [10] ++ t = s ++ 10 :: t := by simp
        cases hbo : bothT la lb la.length
        ·obtain ⟨lc, hq9, hq8⟩ := hp3 (bothT_no hbo); rw [← hcat] at hq9
         refine w_telK (TL.row TL.dic) ((la ++ lc).map diD) (fun b => .tuple #[.slice b.1 ((la ++ lc).map diD).length b.2, .agg #[.int .i64 0, .int .i64 0]]) (s0 := w.heap.size) (fun w => zR Tryz.func9 rfl rfl rfl) rfl rfl (fun w1 h => (h.fr _ (.tail _ (.tail _ (.head _)))).size) (fun w1 h => by have h9 := fRead_ok (s ++ [10] ++ t) _ rfl w1 (by simp only [List.length_append, List.length_singleton]; omega) (hW.now (.tail _ (.tail _ (.head _))) h) (Nat.le_trans hng (h.fr _ (.tail _ (.tail _ (.head _)))).size); rw [hq9] at h9; rw [show ((la ++ lc).map diD).length = (la ++ lc).length from List.length_map _]; exact h9) (fun xc bxc hKxc => ?_)
         obtain ⟨vxc, cxc⟩ := bxc
         have hRxc : rowM 5 diC xc.1 (Nb w.heap.size xc) ((la ++ lc).map diD) (vxc, cxc) := hKxc
         have hlc : ((la ++ lc).map diD).length = la.length + lc.length := by rw [List.length_map, List.length_append]
         refine zm rfl ?_; refine w_r (fun _ => R_extract rfl rfl) rfl rfl ?_; refine w_r (fun _ => R_extract rfl rfl) rfl rfl ?_; refine w_alloc zr27 (fun t15b gt15b ut15b => ?_)
         refine za (v := .slice _ _ _) rfl ?_; refine w_store 0 rfl z27 rfl rfl rfl rfl rfl rfl rfl ?_; refine yB ?_; refine zq ?_; refine yA ?_; refine zm (v := .bool false) (e9_1.trans (congrArg Value.bool hbo)) ?_; refine yB ?_; refine c_condF rfl ?_; refine zi ?_; refine zk ?_; refine zq ?_; refine yA ?_; refine zf fa27_0 rfl ?_; refine zl z25 rfl (fun _ h => zc 0 rfl rfl h) ?_; refine w_r (fun _ => R_ne rfl rfl) rfl rfl ?_; refine mB rfl ?_; refine zw rfl rfl (congrArg Value.bool (decide_eq_false (by decide))) ?_; refine mS rfl ?_; refine zw rfl rfl (congrArg Value.bool (decide_eq_false (by decide))) ?_; refine w_r (fun _ => R_len sl24 rfl) rfl rfl ?_
         refine zw rfl rfl (congrArg Value.bool (decide_eq_false (by decide))) ?_; refine mS e5_1 ?_; refine zw rfl rfl (congrArg Value.bool (decide_eq_false (by decide))) ?_; refine w_r (fun _ => R_len sl24 rfl) rfl rfl ?_; refine zw rfl rfl (congrArg Value.bool (decide_eq_false (by decide))) ?_; refine mS e7_1 ?_; refine zw rfl rfl (congrArg Value.bool (decide_eq_false (by decide))) ?_; refine w_r (fun _ => R_len sl24 rfl) rfl rfl ?_; refine zw rfl rfl (congrArg Value.bool (decide_eq_false (by decide))) ?_; refine w_r (fun _ => R_addN (n := ((la.map diD).length)) (b := ((lb.map diD).length)) rfl rfl (by omega)) rfl rfl ?_; refine zw rfl rfl (congrArg Value.bool (decide_eq_false (by decide))) ?_
         refine w_r (fun _ => R_neN (a := (((la ++ lc).map diD).length)) (b := (((la.map diD).length) + ((lb.map diD).length))) rfl rfl) rfl rfl ?_; refine w_r (v := .bool _) (fun _ => zF (congrArg Value.bool (decide_eq_false (by decide))) rfl) rfl rfl ?_; refine yB ?_; refine zD rfl (fun h27 => ?_) (fun h27 => ?_)
         ·omega
         ·refine zi ?_; refine zk ?_; refine zq ?_; refine yA ?_; refine mS e5_1 ?_; refine w_r (fun _ => R_len sl24 rfl) rfl rfl ?_; refine w_r (fun _ => R_eqN (a := ((la.map diD).length)) (b := 0) rfl rfl) rfl rfl ?_; refine yB ?_; refine zD rfl (fun h28 => ?_) (fun h28 => ?_)
          ·refine yA ?_; refine zC (fun w => zR Tryz.func8 rfl rfl rfl) rfl rfl (fun w h => head_ok w (hW.now (.tail _ (.tail _ (.tail _ (.head _)))) h) (Nat.le_trans hng (h.fr _ (.tail _ (.tail _ (.tail _ (.head _))))).size)) ?_; refine aB rfl ?_; refine yB ?_; refine ze ?_; refine zt (?_)
           refine zo (v := .bool _) rfl rfl rfl ?_; exact fun w' hw => ⟨rfl, hw.fr (w, No) (.tail _ (.tail _ (.tail _ (.head _))))⟩
          ·obtain ⟨dL, hdL⟩ : ∃ d, la[((la.map diD).length - 1)]? = some d := ⟨_, List.getElem?_eq_getElem (by omega)⟩; obtain ⟨lcL, hAL, ⟨anL, cnL⟩, rfl, hTL⟩ := hRxa.2 ((la.map diD).length - 1) (diD dL) (by rw [List.getElem?_map, hdL]; rfl); obtain ⟨qL, oL, hqL, hNL, hcL⟩ := hAL; dsimp only at hqL; subst hqL; obtain ⟨la', hLa⟩ : ∃ la', la = la' ++ [dL] := (last_of (by rw [← hla]; exact hdL)); have hlast := hp4 la' dL hLa; have hll := congrArg List.length hLa; rw [List.length_append, List.length_singleton] at hll
           refine zi ?_; refine zk ?_; refine yA ?_; refine mS e5_1 ?_; refine mS e5_1 ?_; refine w_r (fun _ => R_len sl24 rfl) rfl rfl ?_; refine w_r (fun _ => R_subN (n := ((la.map diD).length)) (b := 1) rfl rfl (by omega) (by omega)) rfl rfl ?_; refine w_r (fun _ => R_iaN (i := (((la.map diD).length) - 1)) sl24 rfl rfl (by first | omega | decide | exact Nat.succ_pos _ | exact Nat.succ_lt_succ (Nat.succ_pos _))) rfl rfl ?_; refine w_loadC (l := diE (diD dL) (anL, cnL)) z33 rfl rfl (fun w h j v hj => cel_old (.tail _ (.tail _ (.head _))) (hcL j v hj) hNL.2.2 h) ?_; refine w_alloc zr33 (fun t16b gt16b ut16b => ?_)
           refine w_store 0 rfl z33 rfl rfl rfl rfl rfl rfl rfl ?_; refine yC ?_; refine zm (v := str _) e0_1 ?_; refine zf fa33_1 rfl ?_; refine zl z3 rfl (fun _ h => zc 0 rfl rfl h) ?_; refine w_r (fun _ => R_ssl_hiN st9 rfl rfl (by omega)) rfl rfl ?_
           refine w_telK (TL.row TL.dic) (la'.map diD) (fun b => .tuple #[.slice b.1 (la'.map diD).length b.2, .agg #[.int .i64 0, .int .i64 0]]) (s0 := w.heap.size) (fun w => zR Tryz.func9 rfl rfl rfl) rfl rfl (fun w1 h => (h.fr _ (.tail _ (.tail _ (.tail _ (.head _))))).size) (fun w1 h => by have h9 := fRead_ok (s.take dL.at_) _ rfl w1 (by rw [List.length_take]; omega) (hW.now (.tail _ (.tail _ (.tail _ (.head _)))) h) (Nat.le_trans hng (h.fr _ (.tail _ (.tail _ (.tail _ (.head _))))).size); rw [hlast.2] at h9; rw [show (la'.map diD).length = la'.length from List.length_map _]; exact h9) (fun xd bxd hKxd => ?_)
           obtain ⟨vxd, cxd⟩ := bxd
           have hRxd : rowM 5 diC xd.1 (Nb w.heap.size xd) (la'.map diD) (vxd, cxd) := hKxd
           have hld : (la'.map diD).length = la'.length := List.length_map _
           have hdMM : (la ++ lc)[((la.map diD).length - 1)]? = some dL := by rw [List.getElem?_append_left (by omega)]; exact hdL
           obtain ⟨csM, hAM, ⟨anM, cnM⟩, rfl, hTM⟩ := hRxc.2 ((la.map diD).length - 1) (diD dL) (by rw [List.getElem?_map, hdMM]; rfl); obtain ⟨qM, oM, hqM, hNM, hcM⟩ := hAM; dsimp only at hqM; subst hqM
           refine zm rfl ?_; refine w_r (fun _ => R_extract rfl rfl) rfl rfl ?_; refine w_r (fun _ => R_extract rfl rfl) rfl rfl ?_; refine w_alloc zr27 (fun b30 gb30 ub30 => ?_)
           refine za (v := .slice _ _ _) rfl ?_; refine w_store 0 rfl z27 rfl rfl rfl rfl rfl rfl rfl ?_; refine yB ?_; refine zq ?_; refine c_heldS mixed ?_; refine zh 0 rfl (by kernel_rfl) rfl rfl (fun w h => h) (fun w h => R_fa fa27_0 rfl) ?_; refine zh (v := .int _ _) 1 rfl (by kernel_rfl) rfl rfl (fun w h => h) (fun w h => R_ld1 z25 rfl (zc 0 rfl rfl h)) ?_; refine zh 2 rfl (by kernel_rfl) rfl rfl (fun w h => h) (fun w h => R_eq rfl rfl) ?_; refine zh (v := .bool _) 3 rfl (by kernel_rfl) rfl rfl (fun w h => h) (fun w h => R_move rfl) ?_; refine h_takeG (v := .slice _ _ _) 4 rfl (by kernel_rfl) rfl rfl rfl (congrArg Value.bool (decide_eq_true (by decide))) rfl (fun w h => h) (fun w h => R_move rfl) ?_
           refine h_takeG 5 rfl (by kernel_rfl) rfl rfl rfl (congrArg Value.bool (decide_eq_true (by decide))) rfl (fun w h => h) (fun w h => R_len sl24 rfl) ?_; refine h_takeG (v := .slice _ _ _) 6 rfl (by kernel_rfl) rfl rfl rfl (congrArg Value.bool (decide_eq_true (by decide))) rfl (fun w h => h) (fun w h => R_move e5_1) ?_; refine h_takeG 7 rfl (by kernel_rfl) rfl rfl rfl (congrArg Value.bool (decide_eq_true (by decide))) rfl (fun w h => h) (fun w h => R_len sl24 rfl) ?_; refine h_takeG 8 rfl (by kernel_rfl) rfl rfl rfl (congrArg Value.bool (decide_eq_true (by decide))) rfl (fun w h => h) (fun w h => R_subN (n := ((la.map diD).length)) (b := 1) rfl rfl (by omega) (by omega)) ?_
           refine h_takeG 9 rfl (by kernel_rfl) rfl rfl rfl (congrArg Value.bool (decide_eq_true (by decide))) rfl (fun w h => h) (fun w h => R_eqN (a := ((la'.map diD).length)) (b := (((la.map diD).length) - 1)) rfl rfl) ?_; refine zh (v := .bool _) 10 rfl (by kernel_rfl) rfl rfl (fun w h => h) (fun w h => zT (congrArg Value.bool (decide_eq_true (by decide))) rfl) ?_; refine zh (v := .bool _) 11 rfl (by kernel_rfl) rfl rfl (fun w h => h) (fun w h => R_move rfl) ?_; refine h_splitD (t := 192) rfl (fun h31 => ?_) (fun h31 => ?_)
           ·refine h_takeG (v := .slice _ _ _) 12 rfl (by kernel_rfl) rfl rfl rfl (bT h31) rfl (fun w h => h) (fun w h => R_move rfl) ?_; refine h_takeG (v := .slice _ _ _) 13 rfl (by kernel_rfl) rfl rfl rfl (bT h31) rfl (fun w h => h) (fun w h => R_move e5_1) ?_; refine h_takeG 14 rfl (by kernel_rfl) rfl rfl rfl (bT h31) rfl (fun w h => h) (fun w h => R_len sl24 rfl) ?_; refine h_takeG 15 rfl (by kernel_rfl) rfl rfl rfl (bT h31) rfl (fun w h => h) (fun w h => R_subN (n := ((la.map diD).length)) (b := 1) rfl rfl (by omega) (by omega)) ?_; refine h_takeG 16 rfl (by kernel_rfl) rfl rfl rfl (bT h31) rfl (fun w h => h) (fun w h => R_iaN (i := (((la.map diD).length) - 1)) sl24 rfl rfl (by first | omega | decide | exact Nat.succ_pos _ | exact Nat.succ_lt_succ (Nat.succ_pos _))) ?_
            refine h_takeG 17 rfl (by kernel_rfl) rfl rfl rfl (bT h31) rfl (fun w h => h) (fun w h => R_fa fa33_0 rfl) ?_; refine h_takeG (v := str _) 18 rfl (by kernel_rfl) rfl rfl rfl (bT h31) rfl (fun w h => h) (fun w h => R_ld1 z9 rfl (by first | exact zc 0 rfl rfl h | exact zc 1 rfl rfl h | exact zc 2 rfl rfl h | exact cel_old (.tail _ (.head _)) (hcM 0 _ rfl) hNM.2.2 h | exact cel_old (.tail _ (.head _)) (hcM 1 _ rfl) hNM.2.2 h)) ?_; refine h_takeG 19 rfl (by kernel_rfl) rfl rfl rfl (bT h31) rfl (fun w h => h) (fun w h => R_fa fa33_0 rfl) ?_; refine h_takeG (v := str _) 20 rfl (by kernel_rfl) rfl rfl rfl (bT h31) rfl (fun w h => h) (fun w h => R_ld1 z9 rfl (zc 1 rfl rfl h)) ?_; refine h_takeG 21 rfl (by kernel_rfl) rfl rfl rfl (bT h31) rfl (fun w h => h) (fun w h => R_seq rfl rfl) ?_
            refine zh (v := .bool _) 22 rfl (by kernel_rfl) rfl rfl (fun w h => h) (fun w h => zT (bT h31) rfl) ?_; refine zh (v := .bool _) 23 rfl (by kernel_rfl) rfl rfl (fun w h => h) (fun w h => R_move rfl) ?_; refine h_splitD (t := 204) rfl (fun h32 => ?_) (fun h32 => ?_)
            ·refine h_one 24 (by kernel_rfl) (fun w h => h) ?_; refine o_pureW rfl (wn_yes rfl rfl rfl (bT h32)) rfl (fun w => zR Tryz.func8 rfl rfl rfl) (fun w h => head_ok w (hW.now (.tail _ (.tail _ (.tail _ (.tail _ (.head _))))) h) (Nat.le_trans hng (h.fr _ (.tail _ (.tail _ (.tail _ (.tail _ (.head _)))))).size)) ?_; refine zh (v := .bool _) 25 rfl (by kernel_rfl) rfl rfl (fun w h => h) (fun w h => zT (bT h32) rfl) ?_; refine zh (v := .bool _) 26 rfl (by kernel_rfl) rfl rfl (fun w h => h) (fun w h => R_assign rfl) ?_; refine h_done (by kernel_rfl) (fun w h => h) ?_; refine zk ?_; refine ze ?_; refine zo (v := .bool _) rfl rfl rfl ?_; exact fun w' hw => ⟨rfl, hw.fr (w, No) (.tail _ (.tail _ (.tail _ (.tail _ (.head _)))))⟩
            ·exact absurd rfl h32
           ·omega
        ·obtain ⟨q9, hq9, hq8⟩ := hp2 (bothT_yes hbo); rw [← hcat] at hq9
         refine zC (v := .tuple #[.slice none 0 0, .agg #[.int .i64 (8 : Nat), .int .i64 (q9 : Nat)]]) (fun w => zR Tryz.func9 rfl rfl rfl) rfl rfl (fun w1 h => by have h9 := fRead_ok (s ++ [10] ++ t) _ rfl w1 (by simp only [List.length_append, List.length_singleton]; omega) (hW.now (.tail _ (.tail _ (.head _))) h) (Nat.le_trans hng (h.fr _ (.tail _ (.tail _ (.head _)))).size); rw [hq9] at h9; exact h9) ?_; refine zm rfl ?_; refine w_r (fun _ => R_extract rfl rfl) rfl rfl ?_; refine w_r (fun _ => R_extract rfl rfl) rfl rfl ?_; refine w_alloc zr27 (fun t15b gt15b ut15b => ?_)
         refine za (v := .slice _ _ _) rfl ?_; refine w_store 0 rfl z27 rfl rfl rfl rfl rfl rfl rfl ?_; refine yB ?_; refine zq ?_; refine yA ?_; refine zm (v := .bool true) (e9_1.trans (congrArg Value.bool hbo)) ?_; refine yB ?_; refine zE rfl ?_; refine yA ?_; refine zf fa27_0 rfl ?_; refine zl z25 rfl (fun _ h => zc 0 rfl rfl h) ?_; refine w_r (fun _ => R_eq rfl rfl) rfl rfl ?_; refine mB rfl ?_; refine zw rfl rfl (congrArg Value.bool (decide_eq_true (by decide))) ?_; refine zf fa27_1 rfl ?_; refine zw rfl rfl (congrArg Value.bool (decide_eq_true (by decide))) ?_; refine zl z3 rfl (fun _ h => zc 0 rfl rfl h) ?_
         refine zw rfl rfl (congrArg Value.bool (decide_eq_true (by decide))) ?_; refine zm (v := str _) e0_1 ?_; refine zw rfl rfl (congrArg Value.bool (decide_eq_true (by decide))) ?_; refine w_r (fun _ => R_slen st9 rfl (by omega)) rfl rfl ?_; refine zw rfl rfl (congrArg Value.bool (decide_eq_true (by decide))) ?_; refine w_r (fun _ => R_gt rfl rfl) rfl rfl ?_; refine w_r (v := .bool _) (fun _ => zT (congrArg Value.bool (decide_eq_true (by decide))) rfl) rfl rfl ?_; refine mB rfl ?_; refine zd (t := 147) rfl (fun h34 => ?_) (fun h34 => ?_)
         ·refine zw rfl rfl (bT h34) ?_; refine zC (fun w => zR Tryz.func8 rfl rfl rfl) rfl rfl (fun w h => head_ok w (hW.now (.tail _ (.tail _ (.head _))) h) (Nat.le_trans hng (h.fr _ (.tail _ (.tail _ (.head _)))).size)) ?_; refine w_r (v := .bool _) (fun _ => zT (bT h34) rfl) rfl rfl ?_; refine aB rfl ?_; refine yB ?_; refine ze ?_; refine zt (?_)
          refine zo (v := .bool _) rfl rfl rfl ?_; exact fun w' hw => ⟨rfl, hw.fr (w, No) (.tail _ (.tail _ (.head _)))⟩
         ·omega
end Go.Proofs.YtikdkendinnalaaGreatDoor
end
section
/- A row's lifting with what is laid and the world's shape. -/
namespace Go.Sx
theorem handed_and_shaped {H : Type} {enc : TypeId × Value → H} {a : Assume} {C : Checked} {os : Os} {f : FuncId} {fn : Func} {s : ChangeSpec} {conds : List PathCond} {apart fresh handsOn again : Bool} {X : World → Array Value → Prop}
    (hX : ∀ (w w' : World) (args : Array Value), w.heap = w'.heap → X w args → X w' args)
    (own : ownKnob C.prog.godebug = none) (started : os.Started) (noInit : C.prog.inits.idxOf? f = none) (hfn : C.prog.funcs[f]? = some fn)
    (witness : ∃ (w : World) (tape : Tape) (i : Input), w.os = os ∧ (w.forCall tape i).Shaped C.prog ∧ i.vars = [] ∧ Input.okWide C.prog (w.forCall tape i) .any w.heap.size f i ∧
      ((s.pre enc C.prog fn conds apart (w.forCall tape i).memory i.args ∧ X (w.forCall tape i).memory i.args) ∧ sizedMet enc C.prog fn (OpenSpec.ofChange s) apart (w.forCall tape i).memory i.args) ∧ a.holds C.prog (lone (Frame.enter C.prog f i.args .normal) [] (w.forCall tape i)))
    (contract : ∀ (W : World) (base : Nat) (args : Array Value) (ds gs : List (DataW H)) (before : List MemPlace),
      (∀ (j : Nat) t v, fn.params[j]? = some t → args[j]? = some v → Value.okWide C.prog W .any base t v) →
      DataW.Whole enc C.prog fn.params.toList s.vars apart W args.toList ds gs before →
      X W args → W.ShapedOpen C.prog →
      Calls C.prog f args W fun e W' => ∃ v, e = .returned v ∧ s.post enc C.prog fn apart fresh handsOn again W args v W') :
    ReturnsInHanded a C os f .any (fun w args => (s.pre enc C.prog fn conds apart w args ∧ X w args) ∧ sizedMet enc C.prog fn (OpenSpec.ofChange s) apart w args) (s.post enc C.prog fn apart fresh handsOn again) := by
  refine returnsInHanded_of_calls own started noInit witness ?_
  intro w tape i _ hsh _ hok hpre hholds
  obtain ⟨_, _, _, fn', hfn', _, _, _, _, hval⟩ := hok
  have e : fn' = fn := Option.some.inj (hfn'.symm.trans hfn)
  subst e
  obtain ⟨⟨⟨ds, gs, before, hw, hc⟩, hx⟩, hz⟩ := hpre
  have hw' := DataW.Whole.of_heap (w' := w.forCall tape i) (by rfl) hw
  refine (contract (w.forCall tape i) w.heap.size i.args ds gs before hval hw' (hX _ _ _ (by rfl) hx) hsh).mono fun e W' ⟨v, he, hp⟩ => ?_
  subst he
  exact ChangeSpec.post_blind hp
end Go.Sx
end
section
namespace Go.Proofs.YtikdkendinnalaaGreatDoor
open Go.ChangeShapes Go.WideShapes Go.ChangeAt Go.RowKit Go.Sx
open Go.ChangeMaps (open_string)
theorem own : ownKnob Tryz.prog.godebug = none := by kernel_rfl
theorem below_ext {w w' : World} (h : Ext w w') : Below w.heap.size w w' := ⟨h.os, h.tape, h.output, h.size, fun k hk => h.blk k hk (fun x => x)⟩
section
variable {H : Type} {enc : TypeId × Value → H} {P : Program}
theorem post_ext {f : Func} {s : ChangeSpec} {apart fresh handsOn : Bool} {W W' : World} {args : Array Value} {v : Value} {ds gs : List (DataW H)} {before pa pv : List MemPlace}
    (hW : DataW.Whole enc P f.params.toList s.vars apart W args.toList ds gs before)
    (hres : ∀ (b : Nat) (sp : Nat → Bool) (hd : Bool), DataW.TrodAll enc P W' b sp hd f.resultTypes.toList (v.resultList f.resultTypes.size) (s.fn H (ds ++ gs)).results [])
    (hargs : ∀ sp : Nat → Bool, (∀ p ∈ before, sp p.block = true) → DataW.TrodAll enc P W' 0 sp true f.params.toList args.toList (s.fn H (ds ++ gs)).args pa)
    (hvars : ∀ sp : Nat → Bool, (∀ p ∈ before, sp p.block = true) → DataW.TrodVars enc P W' sp s.vars (s.fn H (ds ++ gs)).vars pv)
    (hps : before = pa ++ pv) (hb : Below W.heap.size W W') : s.post enc P f apart fresh handsOn false W args v W' := by
  have hold : ∀ p ∈ before, (fun b => decide (b < W.heap.size)) p.block = true := fun p hp => by simpa using hW.lt p hp
  exact ⟨ds, gs, before, [], pa, pv, hW, hres _ _ _, hargs _ hold, hvars _ hold, hb.frame _, fun h => by cases h⟩
end
theorem door_met (os : Os) (args : Array Value) : laidMetH Tryz.prog Rows.feedPartsRow.laid ((World.doorLaid Tryz.prog 400 os).forCall (fun _ _ => 0) ⟨#[], args, []⟩).memory :=
  laidMetH_of_parts3 (fuel := 8) (laidMet_of_run' 8 (by kernel_rfl) (by kernel_rfl)) (by kernel_rfl) (by kernel_rfl)
set_option maxRecDepth 100000 in
theorem tb_of_laid {W : World} (h : laidMetH Tryz.prog Rows.feedPartsRow.laid W) : Tb W := by
  rw [MakeChecks.laidMetH_plain _ _ _ (by kernel_rfl)] at h
  exact Tb.of (Lib.tabIs_of_head (g := 2) (t := 195) (e := 5) (n := 256) (rest := []) (by kernel_rfl) (by kernel_rfl) Tryz.underlying195 Tryz.underlying5 (by kernel_rfl) (by kernel_rfl) h.tail.tail.tail.tail.tail.tail)
theorem size_of_shaped {P : Program} {w : World} {g : Nat} (h : w.ShapedOpen P) (hg : g < P.globals.size) (h0 : (((begin P (fun _ _ => 0) default).world.heap[g]?).bind Obj.row?).isSome = true) : g < w.heap.size := by
  obtain ⟨⟨zero, t⟩, h1⟩ := Option.isSome_iff_exists.1 h0
  obtain ⟨cs, hh, _⟩ := h.1 g zero t hg h1
  exact (Array.getElem?_eq_some_iff.1 hh).1
set_option maxRecDepth 100000 in
theorem feedParts_lifted (os : Os) (started : os.Started) (H : Type) (enc : TypeId × Value → H) :
    ReturnsInHanded {} Tryz.checked os 4 .any (fun w args => (Rows.feedPartsSpec.pre enc Tryz.prog Tryz.f4 [] false w args ∧ laidMetH Tryz.prog Rows.feedPartsRow.laid w) ∧ sizedMet enc Tryz.prog Tryz.f4 (OpenSpec.ofChange Rows.feedPartsSpec) false w args)
      (Rows.feedPartsSpec.post enc Tryz.prog Tryz.f4 false true false false) := by
  refine handed_and_shaped (C := Tryz.checked) (X := fun w _ => laidMetH Tryz.prog Rows.feedPartsRow.laid w) (fun _ _ _ hh h => h.of_heap hh) own started (by kernel_rfl) Tryz.func4
    (ChangeSpec.witness_shaped (enc := enc) (C := Tryz.checked) (os := os) (X := fun w _ => laidMetH Tryz.prog Rows.feedPartsRow.laid w) false (World.doorLaid Tryz.prog 400 os) #[.string ⟨#[]⟩, .string ⟨#[]⟩] 8 rfl (World.shaped_of_RefB (by kernel_rfl) (by kernel_rfl)) (by kernel_rfl) (by kernel_rfl) (by kernel_rfl) (door_met os _)) ?_
  intro W base args ds gs before hval0 hW hL hsh
  have hval : ∀ (j : Nat) t v, Tryz.f4.params[j]? = some t → args[j]? = some v → Value.okWide Tryz.prog W .any base t v := hval0
  have hW' := hW
  obtain ⟨p, q, hA0, hV, rfl, _, _⟩ := hW
  have hA : DataW.TrodAll enc Tryz.prog W 0 (fun _ => true) true Tryz.f4.params.toList args.toList ds p := hA0
  rw [Tryz.params4] at hA hval
  obtain ⟨v0, v1, d0, d1, p0, p1, rfl, rfl, rfl, h0, h1⟩ := trodAll_two hA
  obtain ⟨rfl, rfl⟩ := trodVars_none hV
  obtain ⟨x0, rfl, rfl, rfl, wx0⟩ := open_string Tryz.underlying9 (hval 0 9 v0 rfl rfl) h0
  obtain ⟨x1, rfl, rfl, rfl, wx1⟩ := open_string Tryz.underlying9 (hval 1 9 v1 rfl rfl) h1
  have ht := tb_of_laid hL
  clear hA0 hval0
  simp only [List.append_nil] at hW'
  refine Calls.mono (parts_walk x0.data.toList x1.data.toList (by have := wx0; unfold maxLen at this; simp; omega) (by have := wx1; unfold maxLen at this; simp; omega) W ⟨ht, ht.lt, cell_of_shapedOpen_int hsh (zero := #[.int .i64 0]) (g := 3) (t := 3) (by decide) (by kernel_rfl) rfl (by kernel_rfl) (by kernel_rfl) Tryz.underlying3⟩ (size_of_shaped hsh (g := 10) (by decide) (by kernel_rfl))) fun e W' ⟨v, he, hv, hx⟩ => ?_
  subst he; subst hv
  exact ⟨_, rfl, post_ext (pa := []) (pv := []) hW' (fun _ _ _ => trodAll_mk1 (shut_bool Tryz.underlying4 _)) (fun sp _ => trodAll_mk2 (ChangeMaps.shut_string Tryz.underlying9 wx0) (ChangeMaps.shut_string Tryz.underlying9 wx1)) (fun _ _ => rfl) rfl (below_ext hx)⟩
theorem feedParts_holds : Rows.FeedPartsSaid :=
  OpenClaim.holds_of_wide 4 Tryz.f4 rfl rfl rfl rfl rfl rfl rfl ⟨rfl, rfl, rfl, rfl, rfl⟩ rfl rfl rfl rfl rfl (by kernel_rfl) Tryz.func4 (by kernel_rfl)
    (of_decide_eq_true (by kernel_rfl)) (by unfold Func.isWrapper; first | (rw [if_pos (by decide +kernel)]; kernel_rfl) | (rw [if_neg (by decide +kernel)]; exact ⟨rfl, rfl⟩))
    (fun os started H enc _ => feedParts_lifted os started H enc)
end Go.Proofs.YtikdkendinnalaaGreatDoor
end
section
namespace Go.Proofs.YtikdkendinnalaaGreatDoor
open Go
theorem feedParts_card : Rows.FeedPartsCardSaid :=
  Claim7.holds_tied_plain_at .later [] [.data, .data, .data, .sentinel, .sentinel, .listed, .data] true (true, "842466c98ea963c4a55eba32da679b0dc1f92c4c9876d2b292df2662035746fb") true
    feedParts_holds (fun _ h => by cases h) (by kernel_rfl) (fun _ h => by cases h) feedParts_row_tie rfl ⟨rfl, rfl⟩ (by kernel_rfl) rfl
    (fun f fn hf hfn => by
      obtain rfl : f = 4 := Option.some.inj ((show Tryz.prog.funcNamed "stepstone/stepstonelaw14.FeedParts" = some 4 by kernel_rfl).symm.trans hf) |>.symm
      obtain rfl : fn = Tryz.f4 := (Option.some.inj (Tryz.func4.symm.trans hfn)).symm
      exact ⟨by kernel_rfl, fun j t ht => by
        rw [Tryz.params4] at ht
        rcases j with _ | _ | j
        · obtain rfl : t = 9 := by simpa using ht.symm
          exact (show Tryz.prog.wantsStandIn 9 = false by kernel_rfl)
        · obtain rfl : t = 9 := by simpa using ht.symm
          exact (show Tryz.prog.wantsStandIn 9 = false by kernel_rfl)
        · simp at ht⟩)
    (by kernel_rfl)
end Go.Proofs.YtikdkendinnalaaGreatDoor
end
