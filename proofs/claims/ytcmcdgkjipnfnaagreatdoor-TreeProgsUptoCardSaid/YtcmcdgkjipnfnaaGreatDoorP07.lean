/- For every two programs, of a bulk of at most 1048576, the law TreeProgs holds of the given program. Part 7 of 18. -/
import Derived.Test.YtcmcdgkjipnfnaaGreatDoorP02
import Derived.Test.YtcmcdgkjipnfnaaGreatDoorP06
section
namespace Go.Proofs.YtcmcdgkjipnfnaaGreatDoor
open Go.RowKit Go.Sx
open Go.Tok Go.Tree

set_option maxRecDepth 100000 in
set_option maxHeartbeats 8000000 in
theorem decl_spec (x : Dc) (cs : List Value) (N : Nat → Prop) (w : World) (hx : dcW x < 10000000) (hm : dcM w N x cs) (hW : Wd w) :
  Ret Tryz.prog 41 #[.agg cs.toArray] w (fun v w' => v = .bool (dcOk x) ∧ Ext w w') := by
 obtain ⟨ty, at_, nm, sz, lo, up, ini⟩ := x
 have hm2 := hm
 unfold dcM at hm2
 obtain ⟨sa, sc, la, lc, ua, uc, ia, ic, hcs, hsz, hlo, hup, hini⟩ := hm2
 simp only [] at hcs
 subst hcs
 have hx2 := hx
 simp only [dcW] at hx2
 simp only [] at hsz hlo hup hini
 refine enter (S := No) (l := [_]) (L := []) 63 Tryz.func41 rfl rfl rfl (St.start w No) ?_; refine yA ?_; refine w_boxA rfl (fun t1b gt1b ut1b => ?_)
 refine aB rfl ?_; refine yC ?_; refine zf fa52_0 rfl ?_; refine zl z5 rfl (fun _ h => zc 0 rfl rfl h) ?_; refine w_r (fun _ => R_ge rfl rfl) rfl rfl ?_; refine aB rfl ?_; refine yB ?_; refine zq ?_; refine yA ?_; refine zf fa52_0 rfl ?_; refine zl z5 rfl (fun _ h => zc 0 rfl rfl h) ?_; refine w_r (fun _ => R_lt rfl rfl) rfl rfl ?_; refine mB rfl ?_; refine zd (t := 12) rfl (fun h2 => ?_) (fun h2 => ?_)
 ·(try (have qh2 := h2; norm_cast at qh2))
  refine zs rfl rfl (bT h2) ?_; refine zs rfl rfl (bT h2) ?_; refine zs rfl rfl (bT h2) ?_; refine w_r (v := .bool _) (fun _ => zT (bT h2) rfl) rfl rfl ?_; refine mB rfl ?_; refine zs rfl rfl rfl ?_; refine zs rfl rfl rfl ?_; refine zs rfl rfl rfl ?_; refine zs rfl rfl rfl ?_; refine w_r (v := .bool _) (fun _ => zT rfl rfl) rfl rfl ?_; refine mB rfl ?_; refine zs rfl rfl rfl ?_; refine zs rfl rfl rfl ?_; refine zs rfl rfl rfl ?_; refine zs rfl rfl rfl ?_; refine zs rfl rfl rfl ?_; refine zs rfl rfl rfl ?_; refine w_r (v := .bool _) (fun _ => zT rfl rfl) rfl rfl ?_; refine mB rfl ?_; refine zs rfl rfl rfl ?_; refine zs rfl rfl rfl ?_
  refine zs rfl rfl rfl ?_; refine zs rfl rfl rfl ?_; refine zU rfl rfl rfl ?_; refine zU rfl rfl rfl ?_; refine zU rfl rfl rfl ?_; refine zU rfl rfl rfl ?_; refine zs rfl rfl rfl ?_; refine w_r (v := .bool _) (fun _ => zT rfl rfl) rfl rfl ?_; refine yB ?_; refine zE rfl ?_; refine yA ?_; refine aB rfl ?_; refine yB ?_; refine ze ?_; refine zt (?_)
  refine zo (v := .bool _) rfl rfl rfl ?_; exact fun w' hw => ⟨by (try clear hw hm hW hsz hlo hup hini gt1b ut1b); simp only [dcOk, partOk]; grind, hw.fr _ (.head _)⟩
 ·(try (have qh2 := h2; norm_cast at qh2))
  refine zw rfl rfl (bF h2) ?_; refine zf fa52_0 rfl ?_; refine zw rfl rfl (bF h2) ?_; refine zl z5 rfl (fun _ h => zc 0 rfl rfl h) ?_; refine zw rfl rfl (bF h2) ?_; refine w_r (fun _ => R_gt rfl rfl) rfl rfl ?_; refine w_r (v := .bool _) (fun _ => zF (bF h2) rfl) rfl rfl ?_; refine mB rfl ?_; refine zd (t := 17) rfl (fun h3 => ?_) (fun h3 => ?_)
  ·(try (have qh3 := h3; norm_cast at qh3))
   refine zs rfl rfl (bT h3) ?_; refine zs rfl rfl (bT h3) ?_; refine zs rfl rfl (bT h3) ?_; refine zs rfl rfl (bT h3) ?_; refine w_r (v := .bool _) (fun _ => zT (bT h3) rfl) rfl rfl ?_; refine mB rfl ?_; refine zs rfl rfl rfl ?_; refine zs rfl rfl rfl ?_; refine zs rfl rfl rfl ?_; refine zs rfl rfl rfl ?_; refine zs rfl rfl rfl ?_; refine zs rfl rfl rfl ?_; refine w_r (v := .bool _) (fun _ => zT rfl rfl) rfl rfl ?_; refine mB rfl ?_; refine zs rfl rfl rfl ?_; refine zs rfl rfl rfl ?_; refine zs rfl rfl rfl ?_; refine zs rfl rfl rfl ?_; refine zU rfl rfl rfl ?_; refine zU rfl rfl rfl ?_; refine zU rfl rfl rfl ?_
   refine zU rfl rfl rfl ?_; refine zs rfl rfl rfl ?_; refine w_r (v := .bool _) (fun _ => zT rfl rfl) rfl rfl ?_; refine yB ?_; refine zE rfl ?_; refine yA ?_; refine aB rfl ?_; refine yB ?_; refine ze ?_; refine zt (?_)
   refine zo (v := .bool _) rfl rfl rfl ?_; exact fun w' hw => ⟨by (try clear hw hm hW hsz hlo hup hini gt1b ut1b); simp only [dcOk, partOk]; grind, hw.fr _ (.head _)⟩
  ·(try (have qh3 := h3; norm_cast at qh3))
   refine zw rfl rfl (bF h3) ?_; refine zf fa52_2 rfl ?_; refine zw rfl rfl (bF h3) ?_; refine zl z9 rfl (fun _ h => zc 0 rfl rfl h) ?_; refine zw rfl rfl (bF h3) ?_; refine zC (fun w => zR Tryz.func24 rfl rfl rfl) rfl rfl (fun w h => Name_spec _ (by omega) w (hW.now (.head _) h)) ?_; refine zw rfl rfl (bF h3) ?_; refine w_r (fun _ => R_not rfl) rfl rfl ?_; refine w_r (v := .bool _) (fun _ => zF (bF h3) rfl) rfl rfl ?_; refine mB rfl ?_; refine zp (t := 23) rfl (fun h4 => ?_) (fun h4 => ?_)
   ·(try (have qh4 := h4; norm_cast at qh4))
    refine zs rfl rfl (bV h4) ?_; refine zs rfl rfl (bV h4) ?_; refine zs rfl rfl (bV h4) ?_; refine zs rfl rfl (bV h4) ?_; refine zs rfl rfl (bV h4) ?_; refine zs rfl rfl (bV h4) ?_; refine w_r (v := .bool _) (fun _ => zT (bV h4) rfl) rfl rfl ?_; refine mB rfl ?_; refine zs rfl rfl rfl ?_; refine zs rfl rfl rfl ?_; refine zs rfl rfl rfl ?_; refine zs rfl rfl rfl ?_; refine zU rfl rfl rfl ?_; refine zU rfl rfl rfl ?_; refine zU rfl rfl rfl ?_; refine zU rfl rfl rfl ?_; refine zs rfl rfl rfl ?_; refine w_r (v := .bool _) (fun _ => zT rfl rfl) rfl rfl ?_; refine yB ?_; refine zE rfl ?_; refine yA ?_; refine aB rfl ?_; refine yB ?_; refine ze ?_; refine zt (?_)
    refine zo (v := .bool _) rfl rfl rfl ?_; exact fun w' hw => ⟨by (try clear hw hm hW hsz hlo hup hini gt1b ut1b); simp only [dcOk, partOk]; grind, hw.fr _ (.head _)⟩
   ·(try (have qh4 := h4; norm_cast at qh4))
    refine zw rfl rfl (bV h4) ?_; refine zf fa52_3 rfl ?_; refine zw rfl rfl (bV h4) ?_; refine zl z22 rfl (fun _ h => zc 0 rfl rfl h) ?_; refine zw rfl rfl (bV h4) ?_; refine w_r (fun _ => R_len sl22 rfl) rfl rfl ?_; refine zw rfl rfl (bV h4) ?_; refine w_r (fun _ => R_eq rfl rfl) rfl rfl ?_; refine zw rfl rfl (bV h4) ?_; refine mB rfl ?_; refine zw rfl rfl (bV h4) ?_; refine w_r (fun _ => R_bne unb4 rfl rfl) rfl rfl ?_; refine w_r (v := .bool _) (fun _ => zF (bV h4) rfl) rfl rfl ?_; refine mB rfl ?_; refine zp (t := 31) rfl (fun h5 => ?_) (fun h5 => ?_)
    ·(try (have qh5 := h5; norm_cast at qh5))
     refine zs rfl rfl (bV h5) ?_; refine zs rfl rfl (bV h5) ?_; refine zs rfl rfl (bV h5) ?_; refine zs rfl rfl (bV h5) ?_; refine zU rfl rfl rfl ?_; refine zU rfl rfl rfl ?_; refine zU rfl rfl rfl ?_; refine zU rfl rfl rfl ?_; refine zs rfl rfl (bV h5) ?_; refine w_r (v := .bool _) (fun _ => zT (bV h5) rfl) rfl rfl ?_; refine yB ?_; refine zE rfl ?_; refine yA ?_; refine aB rfl ?_; refine yB ?_; refine ze ?_; refine zt (?_)
     refine zo (v := .bool _) rfl rfl rfl ?_; exact fun w' hw => ⟨by (try clear hw hm hW hsz hlo hup hini gt1b ut1b); simp only [dcOk, partOk]; grind, hw.fr _ (.head _)⟩
    ·(try (have qh5 := h5; norm_cast at qh5))
     refine zw rfl rfl (bV h5) ?_; refine zf fa52_0 rfl ?_; refine zw rfl rfl (bV h5) ?_; refine zl z5 rfl (fun _ h => zc 0 rfl rfl h) ?_; refine zw rfl rfl (bV h5) ?_; refine w_r (fun _ => R_gt rfl rfl) rfl rfl ?_; refine zw rfl rfl (bV h5) ?_; refine mB rfl ?_; refine zd (t := 35) rfl (fun h6 => ?_) (fun h6 => ?_)
     ·(try (have qh6 := h6; norm_cast at qh6))
      refine zw rfl rfl (bT h6) ?_; refine zf fa52_6 rfl ?_; refine zw rfl rfl (bT h6) ?_; refine zl z22 rfl (fun _ h => zc 0 rfl rfl h) ?_; refine zw rfl rfl (bT h6) ?_; refine w_r (fun _ => R_len sl22 rfl) rfl rfl ?_; refine zw rfl rfl (bT h6) ?_; refine w_r (fun _ => R_gt rfl rfl) rfl rfl ?_; refine zw rfl rfl (bV h5) ?_; refine w_r (v := .bool _) (fun _ => zT (bT h6) rfl) rfl rfl ?_; refine w_r (v := .bool _) (fun _ => zF (bV h5) rfl) rfl rfl ?_; refine yB ?_; refine zD rfl (fun h7 => ?_) (fun h7 => ?_)
      ·(try (have qh7 := h7; norm_cast at qh7))
       refine yA ?_; refine aB rfl ?_; refine yB ?_; refine ze ?_; refine zt (?_)
       refine zo (v := .bool _) rfl rfl rfl ?_; exact fun w' hw => ⟨by (try clear hw hm hW hsz hlo hup hini gt1b ut1b); simp only [dcOk, partOk]; grind, hw.fr _ (.head _)⟩
      ·(try (have qh7 := h7; norm_cast at qh7))
       refine zi ?_; refine zk ?_; refine zq ?_; refine yA ?_; refine zf fa52_3 rfl ?_; refine zl z22 rfl (fun _ h => zc 0 rfl rfl h) ?_; refine zf fa52_4 rfl ?_; refine zl z22 rfl (fun _ h => zc 0 rfl rfl h) ?_; refine zf fa52_5 rfl ?_; refine zl z22 rfl (fun _ h => zc 0 rfl rfl h) ?_; refine zf fa52_6 rfl ?_; refine zl z22 rfl (fun _ h => zc 0 rfl rfl h) ?_; refine w_r (fun _ => R_buildA ar109 zr109 rfl) rfl rfl ?_; refine mI rfl ?_; refine yB ?_; refine zB ?_; refine c_rounds 5 ?_; refine yA ?_; refine w_r (fun _ => R_lt rfl rfl) rfl rfl ?_; refine yB ?_; refine zq ?_; refine zE (congrArg Value.bool (decide_eq_true (by decide))) ?_
       refine zi ?_; refine zk ?_; refine zq ?_; refine zB ?_; refine yA ?_; refine w_r (fun _ => R_aidx (i := 0) ar109 rfl rfl rfl rfl) rfl rfl ?_; refine za (v := .slice _ _ _) rfl ?_; refine yC ?_; refine mS rfl ?_; refine w_r (fun _ => R_len sl22 rfl) rfl rfl ?_; refine w_r (fun _ => R_gt rfl rfl) rfl rfl ?_; refine mB rfl ?_; refine zd (t := 57) rfl (fun h8 => ?_) (fun h8 => ?_)
       ·(try (have qh8 := h8; norm_cast at qh8))
        refine zs rfl rfl (bT h8) ?_; refine zs rfl rfl (bT h8) ?_; refine zs rfl rfl (bT h8) ?_; refine w_r (v := .bool _) (fun _ => zT (bT h8) rfl) rfl rfl ?_; refine yB ?_; refine zE rfl ?_; refine yA ?_; refine aB rfl ?_; refine yB ?_; refine ze ?_; refine zb (zt (zt (zb (zt (?_)))))
        refine zo (v := .bool _) rfl rfl rfl ?_; exact fun w' hw => ⟨by (try clear hw hm hW hsz hlo hup hini gt1b ut1b); simp only [dcOk, partOk]; grind, hw.fr _ (.head _)⟩
       ·(try (have qh8 := h8; norm_cast at qh8))
        refine zw rfl rfl (bF h8) ?_; refine mS rfl ?_; refine zw rfl rfl (bF h8) ?_; refine zC (fun w => zR Tryz.func58 rfl rfl rfl) rfl rfl (fun w h => exprs_ok sz sa sc N w (by omega) (by omega) (hsz.now (fun _ _ hh => hh) (.head _) h) (hW.now (.head _) h)) ?_; refine zw rfl rfl (bF h8) ?_; refine w_r (fun _ => R_not rfl) rfl rfl ?_; refine w_r (v := .bool _) (fun _ => zF (bF h8) rfl) rfl rfl ?_; refine yB ?_; refine c_condN rfl (fun h9 => ?_) (fun h9 => ?_)
        ·(try (have qh9 := h9; norm_cast at qh9))
         refine yA ?_; refine aB rfl ?_; refine yB ?_; refine ze ?_; refine zb (zt (zt (zb (zt (?_)))))
         refine zo (v := .bool _) rfl rfl rfl ?_; exact fun w' hw => ⟨by (try clear hw hm hW hsz hlo hup hini gt1b ut1b); simp only [dcOk, partOk]; grind, hw.fr _ (.head _)⟩
        ·(try (have qh9 := h9; norm_cast at qh9))
         refine zi ?_; refine b_on (zk ?_); refine zr ?_; refine w_r (fun _ => R_addi rfl rfl (by omega)) rfl rfl ?_; refine mI rfl ?_; refine zn ?_; refine k_rounds ?_; refine yA ?_; refine w_r (fun _ => R_lt rfl rfl) rfl rfl ?_; refine yB ?_; refine zq ?_; refine zE (congrArg Value.bool (decide_eq_true (by decide))) ?_; refine zi ?_; refine zk ?_; refine zq ?_; refine zB ?_; refine yA ?_; refine w_r (fun _ => R_aidx (i := 1) ar109 rfl rfl rfl rfl) rfl rfl ?_; refine za (v := .slice _ _ _) rfl ?_; refine yC ?_; refine mS rfl ?_; refine w_r (fun _ => R_len sl22 rfl) rfl rfl ?_; refine w_r (fun _ => R_gt rfl rfl) rfl rfl ?_; refine mB rfl ?_
         refine zd (t := 57) rfl (fun h10 => ?_) (fun h10 => ?_)
         ·(try (have qh10 := h10; norm_cast at qh10))
          refine zs rfl rfl (bT h10) ?_; refine zs rfl rfl (bT h10) ?_; refine zs rfl rfl (bT h10) ?_; refine w_r (v := .bool _) (fun _ => zT (bT h10) rfl) rfl rfl ?_; refine yB ?_; refine zE rfl ?_; refine yA ?_; refine aB rfl ?_; refine yB ?_; refine ze ?_; refine zb (zt (zt (zb (zt (?_)))))
          refine zo (v := .bool _) rfl rfl rfl ?_; exact fun w' hw => ⟨by (try clear hw hm hW hsz hlo hup hini gt1b ut1b); simp only [dcOk, partOk]; grind, hw.fr _ (.head _)⟩
         ·(try (have qh10 := h10; norm_cast at qh10))
          refine zw rfl rfl (bF h10) ?_; refine mS rfl ?_; refine zw rfl rfl (bF h10) ?_; refine zC (fun w => zR Tryz.func58 rfl rfl rfl) rfl rfl (fun w h => exprs_ok lo la lc N w (by omega) (by omega) (hlo.now (fun _ _ hh => hh) (.head _) h) (hW.now (.head _) h)) ?_; refine zw rfl rfl (bF h10) ?_; refine w_r (fun _ => R_not rfl) rfl rfl ?_; refine w_r (v := .bool _) (fun _ => zF (bF h10) rfl) rfl rfl ?_; refine yB ?_; refine c_condN rfl (fun h11 => ?_) (fun h11 => ?_)
          ·(try (have qh11 := h11; norm_cast at qh11))
           refine yA ?_; refine aB rfl ?_; refine yB ?_; refine ze ?_; refine zb (zt (zt (zb (zt (?_)))))
           refine zo (v := .bool _) rfl rfl rfl ?_; exact fun w' hw => ⟨by (try clear hw hm hW hsz hlo hup hini gt1b ut1b); simp only [dcOk, partOk]; grind, hw.fr _ (.head _)⟩
          ·(try (have qh11 := h11; norm_cast at qh11))
           refine zi ?_; refine b_on (zk ?_); refine zr ?_; refine w_r (fun _ => R_addi rfl rfl (by omega)) rfl rfl ?_; refine mI rfl ?_; refine zn ?_; refine k_rounds ?_; refine yA ?_; refine w_r (fun _ => R_lt rfl rfl) rfl rfl ?_; refine yB ?_; refine zq ?_; refine zE (congrArg Value.bool (decide_eq_true (by decide))) ?_; refine zi ?_; refine zk ?_; refine zq ?_; refine zB ?_; refine yA ?_; refine w_r (fun _ => R_aidx (i := 2) ar109 rfl rfl rfl rfl) rfl rfl ?_; refine za (v := .slice _ _ _) rfl ?_; refine yC ?_; refine mS rfl ?_; refine w_r (fun _ => R_len sl22 rfl) rfl rfl ?_; refine w_r (fun _ => R_gt rfl rfl) rfl rfl ?_; refine mB rfl ?_
           refine zd (t := 57) rfl (fun h12 => ?_) (fun h12 => ?_)
           ·(try (have qh12 := h12; norm_cast at qh12))
            refine zs rfl rfl (bT h12) ?_; refine zs rfl rfl (bT h12) ?_; refine zs rfl rfl (bT h12) ?_; refine w_r (v := .bool _) (fun _ => zT (bT h12) rfl) rfl rfl ?_; refine yB ?_; refine zE rfl ?_; refine yA ?_; refine aB rfl ?_; refine yB ?_; refine ze ?_; refine zb (zt (zt (zb (zt (?_)))))
            refine zo (v := .bool _) rfl rfl rfl ?_; exact fun w' hw => ⟨by (try clear hw hm hW hsz hlo hup hini gt1b ut1b); simp only [dcOk, partOk]; grind, hw.fr _ (.head _)⟩
           ·(try (have qh12 := h12; norm_cast at qh12))
            refine zw rfl rfl (bF h12) ?_; refine mS rfl ?_; refine zw rfl rfl (bF h12) ?_; refine zC (fun w => zR Tryz.func58 rfl rfl rfl) rfl rfl (fun w h => exprs_ok up ua uc N w (by omega) (by omega) (hup.now (fun _ _ hh => hh) (.head _) h) (hW.now (.head _) h)) ?_; refine zw rfl rfl (bF h12) ?_; refine w_r (fun _ => R_not rfl) rfl rfl ?_; refine w_r (v := .bool _) (fun _ => zF (bF h12) rfl) rfl rfl ?_; refine yB ?_; refine c_condN rfl (fun h13 => ?_) (fun h13 => ?_)
            ·(try (have qh13 := h13; norm_cast at qh13))
             refine yA ?_; refine aB rfl ?_; refine yB ?_; refine ze ?_; refine zb (zt (zt (zb (zt (?_)))))
             refine zo (v := .bool _) rfl rfl rfl ?_; exact fun w' hw => ⟨by (try clear hw hm hW hsz hlo hup hini gt1b ut1b); simp only [dcOk, partOk]; grind, hw.fr _ (.head _)⟩
            ·(try (have qh13 := h13; norm_cast at qh13))
             refine zi ?_; refine b_on (zk ?_); refine zr ?_; refine w_r (fun _ => R_addi rfl rfl (by omega)) rfl rfl ?_; refine mI rfl ?_; refine zn ?_; refine k_rounds ?_; refine yA ?_; refine w_r (fun _ => R_lt rfl rfl) rfl rfl ?_; refine yB ?_; refine zq ?_; refine zE (congrArg Value.bool (decide_eq_true (by decide))) ?_; refine zi ?_; refine zk ?_; refine zq ?_; refine zB ?_; refine yA ?_; refine w_r (fun _ => R_aidx (i := 3) ar109 rfl rfl rfl rfl) rfl rfl ?_; refine za (v := .slice _ _ _) rfl ?_; refine yC ?_; refine mS rfl ?_; refine w_r (fun _ => R_len sl22 rfl) rfl rfl ?_; refine w_r (fun _ => R_gt rfl rfl) rfl rfl ?_; refine mB rfl ?_
             refine zd (t := 57) rfl (fun h14 => ?_) (fun h14 => ?_)
             ·(try (have qh14 := h14; norm_cast at qh14))
              refine zs rfl rfl (bT h14) ?_; refine zs rfl rfl (bT h14) ?_; refine zs rfl rfl (bT h14) ?_; refine w_r (v := .bool _) (fun _ => zT (bT h14) rfl) rfl rfl ?_; refine yB ?_; refine zE rfl ?_; refine yA ?_; refine aB rfl ?_; refine yB ?_; refine ze ?_; refine zb (zt (zt (zb (zt (?_)))))
              refine zo (v := .bool _) rfl rfl rfl ?_; exact fun w' hw => ⟨by (try clear hw hm hW hsz hlo hup hini gt1b ut1b); simp only [dcOk, partOk]; grind, hw.fr _ (.head _)⟩
             ·(try (have qh14 := h14; norm_cast at qh14))
              refine zw rfl rfl (bF h14) ?_; refine mS rfl ?_; refine zw rfl rfl (bF h14) ?_; refine zC (fun w => zR Tryz.func58 rfl rfl rfl) rfl rfl (fun w h => exprs_ok ini ia ic N w (by omega) (by omega) (hini.now (fun _ _ hh => hh) (.head _) h) (hW.now (.head _) h)) ?_; refine zw rfl rfl (bF h14) ?_; refine w_r (fun _ => R_not rfl) rfl rfl ?_; refine w_r (v := .bool _) (fun _ => zF (bF h14) rfl) rfl rfl ?_; refine yB ?_; refine c_condN rfl (fun h15 => ?_) (fun h15 => ?_)
              ·(try (have qh15 := h15; norm_cast at qh15))
               refine yA ?_; refine aB rfl ?_; refine yB ?_; refine ze ?_; refine zb (zt (zt (zb (zt (?_)))))
               refine zo (v := .bool _) rfl rfl rfl ?_; exact fun w' hw => ⟨by (try clear hw hm hW hsz hlo hup hini gt1b ut1b); simp only [dcOk, partOk]; grind, hw.fr _ (.head _)⟩
              ·(try (have qh15 := h15; norm_cast at qh15))
               refine zi ?_; refine b_on (zk ?_); refine zr ?_; refine w_r (fun _ => R_addi rfl rfl (by omega)) rfl rfl ?_; refine mI rfl ?_; refine zn ?_; refine k_rounds ?_; refine yA ?_; refine w_r (fun _ => R_lt rfl rfl) rfl rfl ?_; refine yB ?_; refine zq ?_; refine c_condF (congrArg Value.bool (decide_eq_false (by decide))) ?_; refine c_exit ?_; refine zx (zx (b_here rfl (zk ?_))); refine yA ?_; refine aB rfl ?_; refine yB ?_; refine ze ?_; refine zo (v := .bool _) rfl rfl rfl ?_; exact fun w' hw => ⟨by (try clear hw hm hW hsz hlo hup hini gt1b ut1b); simp only [dcOk, partOk]; grind, hw.fr _ (.head _)⟩
     ·(try (have qh6 := h6; norm_cast at qh6))
      refine zs rfl rfl (bF h6) ?_; refine zs rfl rfl (bF h6) ?_; refine zs rfl rfl (bF h6) ?_; refine zs rfl rfl (bF h6) ?_; refine zw rfl rfl (bV h5) ?_; refine w_r (v := .bool _) (fun _ => zF (bF h6) rfl) rfl rfl ?_; refine w_r (v := .bool _) (fun _ => zF (bV h5) rfl) rfl rfl ?_; refine yB ?_; refine c_condF rfl ?_; refine zi ?_; refine zk ?_; refine zq ?_; refine yA ?_; refine zf fa52_3 rfl ?_; refine zl z22 rfl (fun _ h => zc 0 rfl rfl h) ?_; refine zf fa52_4 rfl ?_; refine zl z22 rfl (fun _ h => zc 0 rfl rfl h) ?_; refine zf fa52_5 rfl ?_; refine zl z22 rfl (fun _ h => zc 0 rfl rfl h) ?_; refine zf fa52_6 rfl ?_
      refine zl z22 rfl (fun _ h => zc 0 rfl rfl h) ?_; refine w_r (fun _ => R_buildA ar109 zr109 rfl) rfl rfl ?_; refine mI rfl ?_; refine yB ?_; refine zB ?_; refine c_rounds 5 ?_; refine yA ?_; refine w_r (fun _ => R_lt rfl rfl) rfl rfl ?_; refine yB ?_; refine zq ?_; refine zE (congrArg Value.bool (decide_eq_true (by decide))) ?_; refine zi ?_; refine zk ?_; refine zq ?_; refine zB ?_; refine yA ?_; refine w_r (fun _ => R_aidx (i := 0) ar109 rfl rfl rfl rfl) rfl rfl ?_; refine za (v := .slice _ _ _) rfl ?_; refine yC ?_; refine mS rfl ?_; refine w_r (fun _ => R_len sl22 rfl) rfl rfl ?_
      refine w_r (fun _ => R_gt rfl rfl) rfl rfl ?_; refine mB rfl ?_; refine zd (t := 57) rfl (fun h16 => ?_) (fun h16 => ?_)
      ·(try (have qh16 := h16; norm_cast at qh16))
       refine zs rfl rfl (bT h16) ?_; refine zs rfl rfl (bT h16) ?_; refine zs rfl rfl (bT h16) ?_; refine w_r (v := .bool _) (fun _ => zT (bT h16) rfl) rfl rfl ?_; refine yB ?_; refine zE rfl ?_; refine yA ?_; refine aB rfl ?_; refine yB ?_; refine ze ?_; refine zb (zt (zt (zb (zt (?_)))))
       refine zo (v := .bool _) rfl rfl rfl ?_; exact fun w' hw => ⟨by (try clear hw hm hW hsz hlo hup hini gt1b ut1b); simp only [dcOk, partOk]; grind, hw.fr _ (.head _)⟩
      ·(try (have qh16 := h16; norm_cast at qh16))
       refine zw rfl rfl (bF h16) ?_; refine mS rfl ?_; refine zw rfl rfl (bF h16) ?_; refine zC (fun w => zR Tryz.func58 rfl rfl rfl) rfl rfl (fun w h => exprs_ok sz sa sc N w (by omega) (by omega) (hsz.now (fun _ _ hh => hh) (.head _) h) (hW.now (.head _) h)) ?_; refine zw rfl rfl (bF h16) ?_; refine w_r (fun _ => R_not rfl) rfl rfl ?_; refine w_r (v := .bool _) (fun _ => zF (bF h16) rfl) rfl rfl ?_; refine yB ?_; refine c_condN rfl (fun h17 => ?_) (fun h17 => ?_)
       ·(try (have qh17 := h17; norm_cast at qh17))
        refine yA ?_; refine aB rfl ?_; refine yB ?_; refine ze ?_; refine zb (zt (zt (zb (zt (?_)))))
        refine zo (v := .bool _) rfl rfl rfl ?_; exact fun w' hw => ⟨by (try clear hw hm hW hsz hlo hup hini gt1b ut1b); simp only [dcOk, partOk]; grind, hw.fr _ (.head _)⟩
       ·(try (have qh17 := h17; norm_cast at qh17))
        refine zi ?_; refine b_on (zk ?_); refine zr ?_; refine w_r (fun _ => R_addi rfl rfl (by omega)) rfl rfl ?_; refine mI rfl ?_; refine zn ?_; refine k_rounds ?_; refine yA ?_; refine w_r (fun _ => R_lt rfl rfl) rfl rfl ?_; refine yB ?_; refine zq ?_; refine zE (congrArg Value.bool (decide_eq_true (by decide))) ?_; refine zi ?_; refine zk ?_; refine zq ?_; refine zB ?_; refine yA ?_; refine w_r (fun _ => R_aidx (i := 1) ar109 rfl rfl rfl rfl) rfl rfl ?_; refine za (v := .slice _ _ _) rfl ?_; refine yC ?_; refine mS rfl ?_; refine w_r (fun _ => R_len sl22 rfl) rfl rfl ?_; refine w_r (fun _ => R_gt rfl rfl) rfl rfl ?_; refine mB rfl ?_
        refine zd (t := 57) rfl (fun h18 => ?_) (fun h18 => ?_)
        ·(try (have qh18 := h18; norm_cast at qh18))
         refine zs rfl rfl (bT h18) ?_; refine zs rfl rfl (bT h18) ?_; refine zs rfl rfl (bT h18) ?_; refine w_r (v := .bool _) (fun _ => zT (bT h18) rfl) rfl rfl ?_; refine yB ?_; refine zE rfl ?_; refine yA ?_; refine aB rfl ?_; refine yB ?_; refine ze ?_; refine zb (zt (zt (zb (zt (?_)))))
         refine zo (v := .bool _) rfl rfl rfl ?_; exact fun w' hw => ⟨by (try clear hw hm hW hsz hlo hup hini gt1b ut1b); simp only [dcOk, partOk]; grind, hw.fr _ (.head _)⟩
        ·(try (have qh18 := h18; norm_cast at qh18))
         refine zw rfl rfl (bF h18) ?_; refine mS rfl ?_; refine zw rfl rfl (bF h18) ?_; refine zC (fun w => zR Tryz.func58 rfl rfl rfl) rfl rfl (fun w h => exprs_ok lo la lc N w (by omega) (by omega) (hlo.now (fun _ _ hh => hh) (.head _) h) (hW.now (.head _) h)) ?_; refine zw rfl rfl (bF h18) ?_; refine w_r (fun _ => R_not rfl) rfl rfl ?_; refine w_r (v := .bool _) (fun _ => zF (bF h18) rfl) rfl rfl ?_; refine yB ?_; refine c_condN rfl (fun h19 => ?_) (fun h19 => ?_)
         ·(try (have qh19 := h19; norm_cast at qh19))
          refine yA ?_; refine aB rfl ?_; refine yB ?_; refine ze ?_; refine zb (zt (zt (zb (zt (?_)))))
          refine zo (v := .bool _) rfl rfl rfl ?_; exact fun w' hw => ⟨by (try clear hw hm hW hsz hlo hup hini gt1b ut1b); simp only [dcOk, partOk]; grind, hw.fr _ (.head _)⟩
         ·(try (have qh19 := h19; norm_cast at qh19))
          refine zi ?_; refine b_on (zk ?_); refine zr ?_; refine w_r (fun _ => R_addi rfl rfl (by omega)) rfl rfl ?_; refine mI rfl ?_; refine zn ?_; refine k_rounds ?_; refine yA ?_; refine w_r (fun _ => R_lt rfl rfl) rfl rfl ?_; refine yB ?_; refine zq ?_; refine zE (congrArg Value.bool (decide_eq_true (by decide))) ?_; refine zi ?_; refine zk ?_; refine zq ?_; refine zB ?_; refine yA ?_; refine w_r (fun _ => R_aidx (i := 2) ar109 rfl rfl rfl rfl) rfl rfl ?_; refine za (v := .slice _ _ _) rfl ?_; refine yC ?_; refine mS rfl ?_; refine w_r (fun _ => R_len sl22 rfl) rfl rfl ?_; refine w_r (fun _ => R_gt rfl rfl) rfl rfl ?_; refine mB rfl ?_
          refine zd (t := 57) rfl (fun h20 => ?_) (fun h20 => ?_)
          ·(try (have qh20 := h20; norm_cast at qh20))
           refine zs rfl rfl (bT h20) ?_; refine zs rfl rfl (bT h20) ?_; refine zs rfl rfl (bT h20) ?_; refine w_r (v := .bool _) (fun _ => zT (bT h20) rfl) rfl rfl ?_; refine yB ?_; refine zE rfl ?_; refine yA ?_; refine aB rfl ?_; refine yB ?_; refine ze ?_; refine zb (zt (zt (zb (zt (?_)))))
           refine zo (v := .bool _) rfl rfl rfl ?_; exact fun w' hw => ⟨by (try clear hw hm hW hsz hlo hup hini gt1b ut1b); simp only [dcOk, partOk]; grind, hw.fr _ (.head _)⟩
          ·(try (have qh20 := h20; norm_cast at qh20))
           refine zw rfl rfl (bF h20) ?_; refine mS rfl ?_; refine zw rfl rfl (bF h20) ?_; refine zC (fun w => zR Tryz.func58 rfl rfl rfl) rfl rfl (fun w h => exprs_ok up ua uc N w (by omega) (by omega) (hup.now (fun _ _ hh => hh) (.head _) h) (hW.now (.head _) h)) ?_; refine zw rfl rfl (bF h20) ?_; refine w_r (fun _ => R_not rfl) rfl rfl ?_; refine w_r (v := .bool _) (fun _ => zF (bF h20) rfl) rfl rfl ?_; refine yB ?_; refine c_condN rfl (fun h21 => ?_) (fun h21 => ?_)
           ·(try (have qh21 := h21; norm_cast at qh21))
            refine yA ?_; refine aB rfl ?_; refine yB ?_; refine ze ?_; refine zb (zt (zt (zb (zt (?_)))))
            refine zo (v := .bool _) rfl rfl rfl ?_; exact fun w' hw => ⟨by (try clear hw hm hW hsz hlo hup hini gt1b ut1b); simp only [dcOk, partOk]; grind, hw.fr _ (.head _)⟩
           ·(try (have qh21 := h21; norm_cast at qh21))
            refine zi ?_; refine b_on (zk ?_); refine zr ?_; refine w_r (fun _ => R_addi rfl rfl (by omega)) rfl rfl ?_; refine mI rfl ?_; refine zn ?_; refine k_rounds ?_; refine yA ?_; refine w_r (fun _ => R_lt rfl rfl) rfl rfl ?_; refine yB ?_; refine zq ?_; refine zE (congrArg Value.bool (decide_eq_true (by decide))) ?_; refine zi ?_; refine zk ?_; refine zq ?_; refine zB ?_; refine yA ?_; refine w_r (fun _ => R_aidx (i := 3) ar109 rfl rfl rfl rfl) rfl rfl ?_; refine za (v := .slice _ _ _) rfl ?_; refine yC ?_; refine mS rfl ?_; refine w_r (fun _ => R_len sl22 rfl) rfl rfl ?_; refine w_r (fun _ => R_gt rfl rfl) rfl rfl ?_; refine mB rfl ?_
            refine zd (t := 57) rfl (fun h22 => ?_) (fun h22 => ?_)
            ·(try (have qh22 := h22; norm_cast at qh22))
             refine zs rfl rfl (bT h22) ?_; refine zs rfl rfl (bT h22) ?_; refine zs rfl rfl (bT h22) ?_; refine w_r (v := .bool _) (fun _ => zT (bT h22) rfl) rfl rfl ?_; refine yB ?_; refine zE rfl ?_; refine yA ?_; refine aB rfl ?_; refine yB ?_; refine ze ?_; refine zb (zt (zt (zb (zt (?_)))))
             refine zo (v := .bool _) rfl rfl rfl ?_; exact fun w' hw => ⟨by (try clear hw hm hW hsz hlo hup hini gt1b ut1b); simp only [dcOk, partOk]; grind, hw.fr _ (.head _)⟩
            ·(try (have qh22 := h22; norm_cast at qh22))
             refine zw rfl rfl (bF h22) ?_; refine mS rfl ?_; refine zw rfl rfl (bF h22) ?_; refine zC (fun w => zR Tryz.func58 rfl rfl rfl) rfl rfl (fun w h => exprs_ok ini ia ic N w (by omega) (by omega) (hini.now (fun _ _ hh => hh) (.head _) h) (hW.now (.head _) h)) ?_; refine zw rfl rfl (bF h22) ?_; refine w_r (fun _ => R_not rfl) rfl rfl ?_; refine w_r (v := .bool _) (fun _ => zF (bF h22) rfl) rfl rfl ?_; refine yB ?_; refine c_condN rfl (fun h23 => ?_) (fun h23 => ?_)
             ·(try (have qh23 := h23; norm_cast at qh23))
              refine yA ?_; refine aB rfl ?_; refine yB ?_; refine ze ?_; refine zb (zt (zt (zb (zt (?_)))))
              refine zo (v := .bool _) rfl rfl rfl ?_; exact fun w' hw => ⟨by (try clear hw hm hW hsz hlo hup hini gt1b ut1b); simp only [dcOk, partOk]; grind, hw.fr _ (.head _)⟩
             ·(try (have qh23 := h23; norm_cast at qh23))
              refine zi ?_; refine b_on (zk ?_); refine zr ?_; refine w_r (fun _ => R_addi rfl rfl (by omega)) rfl rfl ?_; refine mI rfl ?_; refine zn ?_; refine k_rounds ?_; refine yA ?_; refine w_r (fun _ => R_lt rfl rfl) rfl rfl ?_; refine yB ?_; refine zq ?_; refine c_condF (congrArg Value.bool (decide_eq_false (by decide))) ?_; refine c_exit ?_; refine zx (zx (b_here rfl (zk ?_))); refine yA ?_; refine aB rfl ?_; refine yB ?_; refine ze ?_; refine zo (v := .bool _) rfl rfl rfl ?_; exact fun w' hw => ⟨by (try clear hw hm hW hsz hlo hup hini gt1b ut1b); simp only [dcOk, partOk]; grind, hw.fr _ (.head _)⟩

set_option maxRecDepth 100000 in
set_option maxHeartbeats 8000000 in
theorem Check_spec (p : List Bk) (cs : List Value) (N : Nat → Prop) (w : World) (hp : ∀ b ∈ p, bkW b < 10000000) (hm : pgM w N p cs) (hW : Wd w) :
  Ret Tryz.prog 15 #[.agg cs.toArray] w (fun v w' => v = .int .i64 (if pgOk p then 0 else 120) ∧ Ext w w') := by
 refine enter (S := No) (l := [_]) (L := []) 80 Tryz.func15 rfl rfl rfl (St.start w No) ?_; refine yA ?_; refine w_boxA rfl (fun t1b gt1b ut1b => ?_)
 refine aI rfl ?_; refine yB ?_; refine zq ?_; refine yA ?_; refine zf fa40_0 rfl ?_; refine w_loadW z38 rfl (fun _ h => h.at_ 0 rfl) hm.len ?_; refine mI rfl ?_; refine yB ?_; refine zB ?_; refine c_loop (fun m e B L => ∃ (i : Nat), e 9 = .agg cs.toArray ∧ e 10 = .int .i64 (i : Nat) ∧ B = [(w, No)] ∧ L = [(t1b, cel cs 40)] ∧ i ≤ 6 ∧ (∀ j b, j < i → p[j]? = some b → bkOk j b = true) ∧ m = 6 - i) _ ⟨0, rfl, rfl, rfl, rfl, Nat.zero_le _, (fun _ _ h => absurd h (Nat.not_lt_zero _)), rfl⟩ ?_
 rintro m e B L ⟨i, e9_1, e10_1, rfl, rfl, hi, hj, rfl⟩
 refine yA ?_; refine w_r (fun _ => R_lt e10_1 rfl) rfl rfl ?_; refine yB ?_; refine zq ?_; refine zD rfl (fun h2 => ?_) (fun h2 => ?_)
 ·(try (have qh2 := h2; norm_cast at qh2))
  have hi6 : i < 6 := (by omega); obtain ⟨b, hb⟩ : ∃ b, p[i]? = some b := ⟨_, List.getElem?_eq_getElem (by rw [hm.six]; exact hi6)⟩; have hbw := hp b (List.mem_of_getElem? hb); unfold bkW at hbw; obtain ⟨da, dc, sa, sc, hcb, hds, hss⟩ := hm.one i b hb
  refine zi ?_; refine zk ?_; refine zq ?_; refine zB ?_; refine yA ?_; refine mI e10_1 ?_; refine w_r (v := .agg (List.toArray [.bool b.is, .slice da b.decls.length dc, .slice sa b.stmts.length sc])) (fun _ => R_aidxA (i := i) ara38 e9_1 e10_1 (by omega) hcb) rfl rfl ?_; refine w_alloc zr37 (fun t4b gt4b ut4b => ?_)
  refine aI rfl ?_; refine w_store 0 rfl z37 rfl rfl rfl rfl rfl rfl rfl ?_; refine yC ?_; refine mI rfl ?_; refine w_r (fun _ => R_eq rfl rfl) rfl rfl ?_; refine mB rfl ?_; refine zd (t := 16) rfl (fun h4 => ?_) (fun h4 => ?_)
  ·(try (have qh4 := h4; norm_cast at qh4))
   refine zs rfl rfl (bT h4) ?_; refine zs rfl rfl (bT h4) ?_; refine w_r (v := .bool _) (fun _ => zT (bT h4) rfl) rfl rfl ?_; refine aB rfl ?_; refine yB ?_; refine c_cut (fun e B L => e 3 = .int .i64 (i : Nat) ∧ e 4 = .pointer (some ⟨t4b, 0, none⟩) ∧ e 5 = .bool (gv i) ∧ e 9 = .agg cs.toArray ∧ e 10 = .int .i64 (i : Nat) ∧ B = [(w, No)] ∧ L = [(t4b, cel [.bool b.is, .slice da b.decls.length dc, .slice sa b.stmts.length sc] 37), (t1b, cel cs 40)] ∧ headB i b = true) ?_ ?_
   ·(try (have qmid2 := mid2; norm_cast at qmid2))
    refine zB ?_; refine yA ?_; refine zf fa37_0 rfl ?_; refine zl z4 rfl (fun _ h => zc 0 rfl rfl h) ?_; refine w_r (fun _ => R_not rfl) rfl rfl ?_; refine mB rfl ?_; refine zp (t := 24) rfl (fun h5 => ?_) (fun h5 => ?_)
    ·(try (have qh5 := h5; norm_cast at qh5))
     refine zw rfl rfl (bV h5) ?_; refine zf fa37_1 rfl ?_; refine zw rfl rfl (bV h5) ?_; refine zl z34 rfl (fun _ h => zc 0 rfl rfl h) ?_; refine zw rfl rfl (bV h5) ?_; refine w_r (fun _ => R_len sl34 rfl) rfl rfl ?_; refine zw rfl rfl (bV h5) ?_; refine zf fa37_2 rfl ?_; refine zw rfl rfl (bV h5) ?_; refine zl z35 rfl (fun _ h => zc 0 rfl rfl h) ?_; refine zw rfl rfl (bV h5) ?_; refine w_r (fun _ => R_len sl35 rfl) rfl rfl ?_; refine zw rfl rfl (bV h5) ?_; refine w_r (fun _ => R_addi rfl rfl (by omega)) rfl rfl ?_; refine zw rfl rfl (bV h5) ?_; refine w_r (fun _ => R_gt rfl rfl) rfl rfl ?_; refine w_r (v := .bool _) (fun _ => zT (bV h5) rfl) rfl rfl ?_; refine mB rfl ?_; refine zd (t := 34) rfl (fun h6 => ?_) (fun h6 => ?_)
     ·(try (have qh6 := h6; norm_cast at qh6))
      refine zs rfl rfl (bT h6) ?_; refine zs rfl rfl (bT h6) ?_; refine zU rfl rfl rfl ?_; refine zU rfl rfl rfl ?_; refine zU rfl rfl rfl ?_; refine zU rfl rfl rfl ?_; refine zs rfl rfl (bT h6) ?_; refine w_r (v := .bool _) (fun _ => zT (bT h6) rfl) rfl rfl ?_; refine mB rfl ?_; refine zs rfl rfl rfl ?_; refine zs rfl rfl rfl ?_; refine zs rfl rfl rfl ?_; refine zU rfl rfl rfl ?_; refine zU rfl rfl rfl ?_; refine zU rfl rfl rfl ?_; refine zU rfl rfl rfl ?_; refine zs rfl rfl rfl ?_; refine w_r (v := .bool _) (fun _ => zT rfl rfl) rfl rfl ?_; refine mB rfl ?_; refine zs rfl rfl rfl ?_
      refine zs rfl rfl rfl ?_; refine zs rfl rfl rfl ?_; refine zs rfl rfl rfl ?_; refine w_r (v := .bool _) (fun _ => zT rfl rfl) rfl rfl ?_; refine aB rfl ?_; refine yB ?_; refine zE rfl ?_; refine yA ?_; refine aI rfl ?_; refine yB ?_; refine ze ?_; refine zb (zt (zb (zt (zt (zb (zt (?_)))))))
      refine zo (v := .int _ _) rfl rfl rfl ?_; exact fun w' hw => ⟨by first | (rw [pgOk_yes hm.six (fun j b h => hj j b (by omega))]; rfl) | (rw [pgOk_no hi6 hb (by first | (unfold bkOk; rw [all_no hxk (by simp only [dgood]; grind)]; simp; done) | ((try clear hw hm hds hss hcb hp hW hj e10_1 e9_1 gt1b gt4b ut1b ut4b); simp only [bkOk, headB, gv]; grind))]; rfl), hw.fr _ (.head _)⟩
     ·(try (have qh6 := h6; norm_cast at qh6))
      refine zw rfl rfl (bF h6) ?_; refine mB rfl ?_; refine zw rfl rfl (bF h6) ?_; refine mB rfl ?_; refine zw rfl rfl rfl ?_; refine zf fa37_2 rfl ?_; refine zw rfl rfl rfl ?_; refine zl z35 rfl (fun _ h => zc 0 rfl rfl h) ?_; refine zw rfl rfl rfl ?_; refine w_r (fun _ => R_len sl35 rfl) rfl rfl ?_; refine zw rfl rfl rfl ?_; refine w_r (fun _ => R_gt rfl rfl) rfl rfl ?_; refine zw rfl rfl (bF h6) ?_; refine w_r (v := .bool _) (fun _ => zT rfl rfl) rfl rfl ?_; refine w_r (v := .bool _) (fun _ => zF (bF h6) rfl) rfl rfl ?_; refine mB rfl ?_; refine zd (t := 43) rfl (fun h7 => ?_) (fun h7 => ?_)
      ·(try (have qh7 := h7; norm_cast at qh7))
       refine zs rfl rfl (bT h7) ?_; refine zs rfl rfl (bT h7) ?_; refine zs rfl rfl (bT h7) ?_; refine zU rfl rfl rfl ?_; refine zU rfl rfl rfl ?_; refine zU rfl rfl rfl ?_; refine zU rfl rfl rfl ?_; refine zs rfl rfl (bT h7) ?_; refine w_r (v := .bool _) (fun _ => zT (bT h7) rfl) rfl rfl ?_; refine mB rfl ?_; refine zs rfl rfl rfl ?_; refine zs rfl rfl rfl ?_; refine zs rfl rfl rfl ?_; refine zs rfl rfl rfl ?_; refine w_r (v := .bool _) (fun _ => zT rfl rfl) rfl rfl ?_; refine aB rfl ?_; refine yB ?_; refine zE rfl ?_; refine yA ?_; refine aI rfl ?_; refine yB ?_; refine ze ?_; refine zb (zt (zb (zt (zt (zb (zt (?_)))))))
       refine zo (v := .int _ _) rfl rfl rfl ?_; exact fun w' hw => ⟨by first | (rw [pgOk_yes hm.six (fun j b h => hj j b (by omega))]; rfl) | (rw [pgOk_no hi6 hb (by first | (unfold bkOk; rw [all_no hxk (by simp only [dgood]; grind)]; simp; done) | ((try clear hw hm hds hss hcb hp hW hj e10_1 e9_1 gt1b gt4b ut1b ut4b); simp only [bkOk, headB, gv]; grind))]; rfl), hw.fr _ (.head _)⟩
      ·(try (have qh7 := h7; norm_cast at qh7))
       refine zw rfl rfl (bF h7) ?_; refine mI rfl ?_; refine zw rfl rfl (bF h7) ?_; refine w_r (fun _ => R_eq rfl rfl) rfl rfl ?_; refine zw rfl rfl (bF h7) ?_; refine mB rfl ?_; refine zd (t := 46) rfl (fun h8 => ?_) (fun h8 => ?_)
       ·(try (have qh8 := h8; norm_cast at qh8))
        refine zw rfl rfl (bT h8) ?_; refine zf fa37_1 rfl ?_; refine zw rfl rfl (bT h8) ?_; refine zl z34 rfl (fun _ h => zc 0 rfl rfl h) ?_; refine zw rfl rfl (bT h8) ?_; refine w_r (fun _ => R_len sl34 rfl) rfl rfl ?_; refine zw rfl rfl (bT h8) ?_; refine w_r (fun _ => R_gt rfl rfl) rfl rfl ?_; refine zw rfl rfl (bF h7) ?_; refine w_r (v := .bool _) (fun _ => zT (bT h8) rfl) rfl rfl ?_; refine w_r (v := .bool _) (fun _ => zF (bF h7) rfl) rfl rfl ?_; refine mB rfl ?_; refine zd (t := 53) rfl (fun h9 => ?_) (fun h9 => ?_)
        ·(try (have qh9 := h9; norm_cast at qh9))
         refine zs rfl rfl (bT h9) ?_; refine zs rfl rfl (bT h9) ?_; refine zs rfl rfl (bT h9) ?_; refine zs rfl rfl (bT h9) ?_; refine w_r (v := .bool _) (fun _ => zT (bT h9) rfl) rfl rfl ?_; refine aB rfl ?_; refine yB ?_; refine zE rfl ?_; refine yA ?_; refine aI rfl ?_; refine yB ?_; refine ze ?_; refine zb (zt (zb (zt (zt (zb (zt (?_)))))))
         refine zo (v := .int _ _) rfl rfl rfl ?_; exact fun w' hw => ⟨by first | (rw [pgOk_yes hm.six (fun j b h => hj j b (by omega))]; rfl) | (rw [pgOk_no hi6 hb (by first | (unfold bkOk; rw [all_no hxk (by simp only [dgood]; grind)]; simp; done) | ((try clear hw hm hds hss hcb hp hW hj e10_1 e9_1 gt1b gt4b ut1b ut4b); simp only [bkOk, headB, gv]; grind))]; rfl), hw.fr _ (.head _)⟩
        ·(try (have qh9 := h9; norm_cast at qh9))
         refine zw rfl rfl (bF h9) ?_; refine zf fa37_2 rfl ?_; refine zw rfl rfl (bF h9) ?_; refine zl z35 rfl (fun _ h => zc 0 rfl rfl h) ?_; refine zw rfl rfl (bF h9) ?_; refine zC (fun w => zR Tryz.func40 rfl rfl rfl) rfl rfl (fun w h => stmts_ok b.stmts sa sc N w (by omega) (by omega) (hss.now (fun _ _ hh => hh) (.head _) h) (hW.now (.head _) h)) ?_; refine zw rfl rfl (bF h9) ?_; refine w_r (fun _ => R_not rfl) rfl rfl ?_; refine w_r (v := .bool _) (fun _ => zF (bF h9) rfl) rfl rfl ?_; refine aB rfl ?_; refine yB ?_; refine c_condN rfl (fun h10 => ?_) (fun h10 => ?_)
         ·(try (have qh10 := h10; norm_cast at qh10))
          refine yA ?_; refine aI rfl ?_; refine yB ?_; refine ze ?_; refine zb (zt (zb (zt (zt (zb (zt (?_)))))))
          refine zo (v := .int _ _) rfl rfl rfl ?_; exact fun w' hw => ⟨by first | (rw [pgOk_yes hm.six (fun j b h => hj j b (by omega))]; rfl) | (rw [pgOk_no hi6 hb (by first | (unfold bkOk; rw [all_no hxk (by simp only [dgood]; grind)]; simp; done) | ((try clear hw hm hds hss hcb hp hW hj e10_1 e9_1 gt1b gt4b ut1b ut4b); simp only [bkOk, headB, gv]; grind))]; rfl), hw.fr _ (.head _)⟩
         ·(try (have qh10 := h10; norm_cast at qh10))
          refine zi ?_; refine b_on (?_)
          exact k_mid ⟨rfl, rfl, (congrArg Value.bool (by (try clear hm hds hss hcb hp hW hj e10_1 e9_1 gt1b gt4b ut1b ut4b); simp only [gv]; grind)), e9_1, e10_1, rfl, rfl, by (try clear hm hds hss hcb hp hW hj e10_1 e9_1 gt1b gt4b ut1b ut4b); simp only [headB, gv]; grind⟩
       ·(try (have qh8 := h8; norm_cast at qh8))
        refine zs rfl rfl (bF h8) ?_; refine zs rfl rfl (bF h8) ?_; refine zs rfl rfl (bF h8) ?_; refine zs rfl rfl (bF h8) ?_; refine zw rfl rfl (bF h7) ?_; refine w_r (v := .bool _) (fun _ => zF (bF h8) rfl) rfl rfl ?_; refine w_r (v := .bool _) (fun _ => zF (bF h7) rfl) rfl rfl ?_; refine mB rfl ?_; refine zw rfl rfl rfl ?_; refine zf fa37_2 rfl ?_; refine zw rfl rfl rfl ?_; refine zl z35 rfl (fun _ h => zc 0 rfl rfl h) ?_; refine zw rfl rfl rfl ?_; refine zC (fun w => zR Tryz.func40 rfl rfl rfl) rfl rfl (fun w h => stmts_ok b.stmts sa sc N w (by omega) (by omega) (hss.now (fun _ _ hh => hh) (.head _) h) (hW.now (.head _) h)) ?_
        refine zw rfl rfl rfl ?_; refine w_r (fun _ => R_not rfl) rfl rfl ?_; refine w_r (v := .bool _) (fun _ => zF rfl rfl) rfl rfl ?_; refine aB rfl ?_; refine yB ?_; refine c_condN rfl (fun h11 => ?_) (fun h11 => ?_)
        ·(try (have qh11 := h11; norm_cast at qh11))
         refine yA ?_; refine aI rfl ?_; refine yB ?_; refine ze ?_; refine zb (zt (zb (zt (zt (zb (zt (?_)))))))
         refine zo (v := .int _ _) rfl rfl rfl ?_; exact fun w' hw => ⟨by first | (rw [pgOk_yes hm.six (fun j b h => hj j b (by omega))]; rfl) | (rw [pgOk_no hi6 hb (by first | (unfold bkOk; rw [all_no hxk (by simp only [dgood]; grind)]; simp; done) | ((try clear hw hm hds hss hcb hp hW hj e10_1 e9_1 gt1b gt4b ut1b ut4b); simp only [bkOk, headB, gv]; grind))]; rfl), hw.fr _ (.head _)⟩
        ·(try (have qh11 := h11; norm_cast at qh11))
         refine zi ?_; refine b_on (?_)
         exact k_mid ⟨rfl, rfl, (congrArg Value.bool (by (try clear hm hds hss hcb hp hW hj e10_1 e9_1 gt1b gt4b ut1b ut4b); simp only [gv]; grind)), e9_1, e10_1, rfl, rfl, by (try clear hm hds hss hcb hp hW hj e10_1 e9_1 gt1b gt4b ut1b ut4b); simp only [headB, gv]; grind⟩
    ·(try (have qh5 := h5; norm_cast at qh5))
     refine zs rfl rfl (bV h5) ?_; refine zs rfl rfl (bV h5) ?_; refine zs rfl rfl (bV h5) ?_; refine zs rfl rfl (bV h5) ?_; refine zs rfl rfl (bV h5) ?_; refine zs rfl rfl (bV h5) ?_; refine zs rfl rfl (bV h5) ?_; refine zs rfl rfl (bV h5) ?_; refine w_r (v := .bool _) (fun _ => zF (bV h5) rfl) rfl rfl ?_; refine mB rfl ?_; refine zw rfl rfl rfl ?_; refine mB rfl ?_; refine zw rfl rfl rfl ?_; refine mB rfl ?_; refine zw rfl rfl rfl ?_; refine zf fa37_2 rfl ?_; refine zw rfl rfl rfl ?_; refine zl z35 rfl (fun _ h => zc 0 rfl rfl h) ?_; refine zw rfl rfl rfl ?_; refine w_r (fun _ => R_len sl35 rfl) rfl rfl ?_; refine zw rfl rfl rfl ?_; refine w_r (fun _ => R_gt rfl rfl) rfl rfl ?_; refine zw rfl rfl rfl ?_
     refine w_r (v := .bool _) (fun _ => zT rfl rfl) rfl rfl ?_; refine w_r (v := .bool _) (fun _ => zF rfl rfl) rfl rfl ?_; refine mB rfl ?_; refine zd (t := 43) rfl (fun h12 => ?_) (fun h12 => ?_)
     ·(try (have qh12 := h12; norm_cast at qh12))
      refine zs rfl rfl (bT h12) ?_; refine zs rfl rfl (bT h12) ?_; refine zs rfl rfl (bT h12) ?_; refine zU rfl rfl rfl ?_; refine zU rfl rfl rfl ?_; refine zU rfl rfl rfl ?_; refine zU rfl rfl rfl ?_; refine zs rfl rfl (bT h12) ?_; refine w_r (v := .bool _) (fun _ => zT (bT h12) rfl) rfl rfl ?_; refine mB rfl ?_; refine zs rfl rfl rfl ?_; refine zs rfl rfl rfl ?_; refine zs rfl rfl rfl ?_; refine zs rfl rfl rfl ?_; refine w_r (v := .bool _) (fun _ => zT rfl rfl) rfl rfl ?_; refine aB rfl ?_; refine yB ?_; refine zE rfl ?_; refine yA ?_; refine aI rfl ?_; refine yB ?_; refine ze ?_; refine zb (zt (zb (zt (zt (zb (zt (?_)))))))
      refine zo (v := .int _ _) rfl rfl rfl ?_; exact fun w' hw => ⟨by first | (rw [pgOk_yes hm.six (fun j b h => hj j b (by omega))]; rfl) | (rw [pgOk_no hi6 hb (by first | (unfold bkOk; rw [all_no hxk (by simp only [dgood]; grind)]; simp; done) | ((try clear hw hm hds hss hcb hp hW hj e10_1 e9_1 gt1b gt4b ut1b ut4b); simp only [bkOk, headB, gv]; grind))]; rfl), hw.fr _ (.head _)⟩
     ·(try (have qh12 := h12; norm_cast at qh12))
      refine zw rfl rfl (bF h12) ?_; refine mI rfl ?_; refine zw rfl rfl (bF h12) ?_; refine w_r (fun _ => R_eq rfl rfl) rfl rfl ?_; refine zw rfl rfl (bF h12) ?_; refine mB rfl ?_; refine zd (t := 46) rfl (fun h13 => ?_) (fun h13 => ?_)
      ·(try (have qh13 := h13; norm_cast at qh13))
       refine zw rfl rfl (bT h13) ?_; refine zf fa37_1 rfl ?_; refine zw rfl rfl (bT h13) ?_; refine zl z34 rfl (fun _ h => zc 0 rfl rfl h) ?_; refine zw rfl rfl (bT h13) ?_; refine w_r (fun _ => R_len sl34 rfl) rfl rfl ?_; refine zw rfl rfl (bT h13) ?_; refine w_r (fun _ => R_gt rfl rfl) rfl rfl ?_; refine zw rfl rfl (bF h12) ?_; refine w_r (v := .bool _) (fun _ => zT (bT h13) rfl) rfl rfl ?_; refine w_r (v := .bool _) (fun _ => zF (bF h12) rfl) rfl rfl ?_; refine mB rfl ?_; refine zd (t := 53) rfl (fun h14 => ?_) (fun h14 => ?_)
       ·(try (have qh14 := h14; norm_cast at qh14))
        refine zs rfl rfl (bT h14) ?_; refine zs rfl rfl (bT h14) ?_; refine zs rfl rfl (bT h14) ?_; refine zs rfl rfl (bT h14) ?_; refine w_r (v := .bool _) (fun _ => zT (bT h14) rfl) rfl rfl ?_; refine aB rfl ?_; refine yB ?_; refine zE rfl ?_; refine yA ?_; refine aI rfl ?_; refine yB ?_; refine ze ?_; refine zb (zt (zb (zt (zt (zb (zt (?_)))))))
        refine zo (v := .int _ _) rfl rfl rfl ?_; exact fun w' hw => ⟨by first | (rw [pgOk_yes hm.six (fun j b h => hj j b (by omega))]; rfl) | (rw [pgOk_no hi6 hb (by first | (unfold bkOk; rw [all_no hxk (by simp only [dgood]; grind)]; simp; done) | ((try clear hw hm hds hss hcb hp hW hj e10_1 e9_1 gt1b gt4b ut1b ut4b); simp only [bkOk, headB, gv]; grind))]; rfl), hw.fr _ (.head _)⟩
       ·(try (have qh14 := h14; norm_cast at qh14))
        refine zw rfl rfl (bF h14) ?_; refine zf fa37_2 rfl ?_; refine zw rfl rfl (bF h14) ?_; refine zl z35 rfl (fun _ h => zc 0 rfl rfl h) ?_; refine zw rfl rfl (bF h14) ?_; refine zC (fun w => zR Tryz.func40 rfl rfl rfl) rfl rfl (fun w h => stmts_ok b.stmts sa sc N w (by omega) (by omega) (hss.now (fun _ _ hh => hh) (.head _) h) (hW.now (.head _) h)) ?_; refine zw rfl rfl (bF h14) ?_; refine w_r (fun _ => R_not rfl) rfl rfl ?_; refine w_r (v := .bool _) (fun _ => zF (bF h14) rfl) rfl rfl ?_; refine aB rfl ?_; refine yB ?_; refine c_condN rfl (fun h15 => ?_) (fun h15 => ?_)
        ·(try (have qh15 := h15; norm_cast at qh15))
         refine yA ?_; refine aI rfl ?_; refine yB ?_; refine ze ?_; refine zb (zt (zb (zt (zt (zb (zt (?_)))))))
         refine zo (v := .int _ _) rfl rfl rfl ?_; exact fun w' hw => ⟨by first | (rw [pgOk_yes hm.six (fun j b h => hj j b (by omega))]; rfl) | (rw [pgOk_no hi6 hb (by first | (unfold bkOk; rw [all_no hxk (by simp only [dgood]; grind)]; simp; done) | ((try clear hw hm hds hss hcb hp hW hj e10_1 e9_1 gt1b gt4b ut1b ut4b); simp only [bkOk, headB, gv]; grind))]; rfl), hw.fr _ (.head _)⟩
        ·(try (have qh15 := h15; norm_cast at qh15))
         refine zi ?_; refine b_on (?_)
         exact k_mid ⟨rfl, rfl, (congrArg Value.bool (by (try clear hm hds hss hcb hp hW hj e10_1 e9_1 gt1b gt4b ut1b ut4b); simp only [gv]; grind)), e9_1, e10_1, rfl, rfl, by (try clear hm hds hss hcb hp hW hj e10_1 e9_1 gt1b gt4b ut1b ut4b); simp only [headB, gv]; grind⟩
      ·(try (have qh13 := h13; norm_cast at qh13))
       refine zs rfl rfl (bF h13) ?_; refine zs rfl rfl (bF h13) ?_; refine zs rfl rfl (bF h13) ?_; refine zs rfl rfl (bF h13) ?_; refine zw rfl rfl (bF h12) ?_; refine w_r (v := .bool _) (fun _ => zF (bF h13) rfl) rfl rfl ?_; refine w_r (v := .bool _) (fun _ => zF (bF h12) rfl) rfl rfl ?_; refine mB rfl ?_; refine zw rfl rfl rfl ?_; refine zf fa37_2 rfl ?_; refine zw rfl rfl rfl ?_; refine zl z35 rfl (fun _ h => zc 0 rfl rfl h) ?_; refine zw rfl rfl rfl ?_; refine zC (fun w => zR Tryz.func40 rfl rfl rfl) rfl rfl (fun w h => stmts_ok b.stmts sa sc N w (by omega) (by omega) (hss.now (fun _ _ hh => hh) (.head _) h) (hW.now (.head _) h)) ?_
       refine zw rfl rfl rfl ?_; refine w_r (fun _ => R_not rfl) rfl rfl ?_; refine w_r (v := .bool _) (fun _ => zF rfl rfl) rfl rfl ?_; refine aB rfl ?_; refine yB ?_; refine c_condN rfl (fun h16 => ?_) (fun h16 => ?_)
       ·(try (have qh16 := h16; norm_cast at qh16))
        refine yA ?_; refine aI rfl ?_; refine yB ?_; refine ze ?_; refine zb (zt (zb (zt (zt (zb (zt (?_)))))))
        refine zo (v := .int _ _) rfl rfl rfl ?_; exact fun w' hw => ⟨by first | (rw [pgOk_yes hm.six (fun j b h => hj j b (by omega))]; rfl) | (rw [pgOk_no hi6 hb (by first | (unfold bkOk; rw [all_no hxk (by simp only [dgood]; grind)]; simp; done) | ((try clear hw hm hds hss hcb hp hW hj e10_1 e9_1 gt1b gt4b ut1b ut4b); simp only [bkOk, headB, gv]; grind))]; rfl), hw.fr _ (.head _)⟩
       ·(try (have qh16 := h16; norm_cast at qh16))
        refine zi ?_; refine b_on (?_)
        exact k_mid ⟨rfl, rfl, (congrArg Value.bool (by (try clear hm hds hss hcb hp hW hj e10_1 e9_1 gt1b gt4b ut1b ut4b); simp only [gv]; grind)), e9_1, e10_1, rfl, rfl, by (try clear hm hds hss hcb hp hW hj e10_1 e9_1 gt1b gt4b ut1b ut4b); simp only [headB, gv]; grind⟩
   rintro e B L ⟨e3_2, e4_2, e5_2, e9_2, e10_2, rfl, rfl, hd⟩
   refine yA ?_; refine zf fa37_1 e4_2 ?_; refine zl z34 rfl (fun _ h => zc 0 rfl rfl h) ?_; refine w_r (fun _ => R_len sl34 rfl) rfl rfl ?_; refine mI rfl ?_; refine yB ?_; refine zB ?_; refine c_loop (fun m e B L => ∃ (k : Nat), e 3 = .int .i64 (i : Nat) ∧ e 5 = .bool (gv i) ∧ e 9 = .agg cs.toArray ∧ e 10 = .int .i64 (i : Nat) ∧ e 60 = .slice da b.decls.length dc ∧ e 61 = .int .i64 (b.decls.length : Nat) ∧ e 62 = .int .i64 (k : Nat) ∧ B = [(w, No)] ∧ L = [(t4b, cel [.bool b.is, .slice da b.decls.length dc, .slice sa b.stmts.length sc] 37), (t1b, cel cs 40)] ∧ k ≤ b.decls.length ∧ (∀ y ∈ b.decls.take k, (!dgood i y) = false) ∧ m = b.decls.length - k) _ ⟨0, e3_2, e5_2, e9_2, e10_2, rfl, rfl, rfl, rfl, rfl, Nat.zero_le _, (by simp), rfl⟩ ?_
   rintro m e B L ⟨k, e3_3, e5_3, e9_3, e10_3, e60_3, e61_3, e62_3, rfl, rfl, hk, hy, rfl⟩
   refine yA ?_; refine w_r (fun _ => R_lt e62_3 e61_3) rfl rfl ?_; refine yB ?_; refine zq ?_; refine zD rfl (fun h17 => ?_) (fun h17 => ?_)
   ·(try (have qh17 := h17; norm_cast at qh17))
    have hlt : k < b.decls.length := (by omega); obtain ⟨x, hxk⟩ : ∃ x, b.decls[k]? = some x := ⟨_, List.getElem?_eq_getElem hlt⟩; obtain ⟨cs2, hA, hE⟩ := hds k x hxk; have hxn := dcsW_mem (List.mem_of_getElem? hxk); obtain ⟨b1, o1, rfl⟩ := hA.ptr; have hE2 := hE; obtain ⟨ty, at_, nm, sz, lo, up, ini⟩ := x; unfold dcM at hE2; obtain ⟨xa, xc, la, lc, ua, uc, ia, ic, hcs, hsz, hlo, hup, hini⟩ := hE2; simp only [] at hcs; subst hcs
    refine zi ?_; refine zk ?_; refine zq ?_; refine zB ?_; refine yA ?_; refine w_r (fun _ => R_iaN (i := k) sl34 e60_3 e62_3 (by first | omega | decide)) rfl rfl ?_; refine w_loadC (l := [.int .u8 (ty : Nat), .int .i64 at_, str nm, .slice xa sz.length xc, .slice la lo.length lc, .slice ua up.length uc, .slice ia ini.length ic]) z52 rfl rfl (fun w h j v hj => hA.cell (fun _ _ hh => hh) (.head _) h j v hj) ?_; refine w_alloc zr52 (fun t7b gt7b ut7b => ?_)
    refine w_store 0 rfl z52 rfl rfl rfl rfl rfl rfl rfl ?_; refine yC ?_; refine w_loadA z52 rfl (fun _ h => h.at_ 0 rfl) rfl ?_; refine zC (fun w => zR Tryz.func41 rfl rfl rfl) rfl rfl (fun w h => decl_spec _ _ N w (by omega) (hE.now (fun _ _ hh => hh) (.head _) h) (hW.now (.head _) h)) ?_; refine w_r (fun _ => R_not rfl) rfl rfl ?_; refine mB rfl ?_; refine zp (t := 69) rfl (fun h19 => ?_) (fun h19 => ?_)
    ·(try (have qh19 := h19; norm_cast at qh19))
     refine zs rfl rfl (bV h19) ?_; refine zs rfl rfl (bV h19) ?_; refine zU rfl rfl rfl ?_; refine zU rfl rfl rfl ?_; refine zU rfl rfl rfl ?_; refine zU rfl rfl rfl ?_; refine zs rfl rfl (bV h19) ?_; refine w_r (v := .bool _) (fun _ => zT (bV h19) rfl) rfl rfl ?_; refine yB ?_; refine zE rfl ?_; refine yA ?_; refine aI rfl ?_; refine yB ?_; refine ze ?_; refine zb (zt (zt (zb (zb (zt (zt (zb (zt (?_)))))))))
     refine zo (v := .int _ _) rfl rfl rfl ?_; exact fun w' hw => ⟨by first | (rw [pgOk_yes hm.six (fun j b h => hj j b (by omega))]; rfl) | (rw [pgOk_no hi6 hb (by first | (unfold bkOk; rw [all_no hxk (by (try clear hw hm hds hss hcb hp hW hj hA hE hsz hlo hup hini e10_1 e10_2 e10_3 e3_2 e3_3 e4_2 e5_2 e5_3 e60_3 e61_3 e62_3 e9_1 e9_2 e9_3 gt1b gt4b gt7b ut1b ut4b ut7b); simp only [dgood]; grind)]; simp; done) | (simp only [bkOk, headB, gv]; grind))]; rfl), hw.fr _ (.head _)⟩
    ·(try (have qh19 := h19; norm_cast at qh19))
     refine zw rfl rfl (bV h19) ?_; refine mB e5_3 ?_; refine zw rfl rfl (bV h19) ?_; refine mB rfl ?_; refine zp (t := 71) rfl (fun h20 => ?_) (fun h20 => ?_)
     ·(try (have qh20 := h20; norm_cast at qh20))
      refine zw rfl rfl (bV h20) ?_; refine zf fa52_6 rfl ?_; refine zw rfl rfl (bV h20) ?_; refine zl z22 rfl (fun _ h => zc 0 rfl rfl h) ?_; refine zw rfl rfl (bV h20) ?_; refine w_r (fun _ => R_len sl22 rfl) rfl rfl ?_; refine zw rfl rfl (bV h20) ?_; refine w_r (fun _ => R_gt rfl rfl) rfl rfl ?_; refine zw rfl rfl (bV h19) ?_; refine w_r (v := .bool _) (fun _ => zT (bV h20) rfl) rfl rfl ?_; refine w_r (v := .bool _) (fun _ => zF (bV h19) rfl) rfl rfl ?_; refine yB ?_; refine zD rfl (fun h21 => ?_) (fun h21 => ?_)
      ·(try (have qh21 := h21; norm_cast at qh21))
       refine yA ?_; refine aI rfl ?_; refine yB ?_; refine ze ?_; refine zb (zt (zt (zb (zb (zt (zt (zb (zt (?_)))))))))
       refine zo (v := .int _ _) rfl rfl rfl ?_; exact fun w' hw => ⟨by first | (rw [pgOk_yes hm.six (fun j b h => hj j b (by omega))]; rfl) | (rw [pgOk_no hi6 hb (by first | (unfold bkOk; rw [all_no hxk (by (try clear hw hm hds hss hcb hp hW hj hA hE hsz hlo hup hini e10_1 e10_2 e10_3 e3_2 e3_3 e4_2 e5_2 e5_3 e60_3 e61_3 e62_3 e9_1 e9_2 e9_3 gt1b gt4b gt7b ut1b ut4b ut7b); simp only [dgood]; grind)]; simp; done) | (simp only [bkOk, headB, gv]; grind))]; rfl), hw.fr _ (.head _)⟩
      ·(try (have qh21 := h21; norm_cast at qh21))
       refine zi ?_; refine b_on (zk ?_); refine zr ?_; refine w_r (fun _ => R_addi e62_3 rfl (by omega)) rfl rfl ?_; refine mI rfl ?_; refine zn ?_; refine k_st (B' := [(w, No)]) (L' := _) (fun w h => h.drop (List.sublist_cons_self _ _)) ?_; exact k_again _ (by omega) ⟨k + 1, e3_3, e5_3, e9_3, e10_3, e60_3, e61_3, rfl, rfl, rfl, by omega, take_all hy hxk (by (try clear hm hds hss hcb hp hW hj hA hE hsz hlo hup hini e10_1 e10_2 e10_3 e3_2 e3_3 e4_2 e5_2 e5_3 e60_3 e61_3 e62_3 e9_1 e9_2 e9_3 gt1b gt4b gt7b ut1b ut4b ut7b); simp only [dgood]; grind), rfl⟩
     ·(try (have qh20 := h20; norm_cast at qh20))
      refine zs rfl rfl (bV h20) ?_; refine zs rfl rfl (bV h20) ?_; refine zs rfl rfl (bV h20) ?_; refine zs rfl rfl (bV h20) ?_; refine zw rfl rfl (bV h19) ?_; refine w_r (v := .bool _) (fun _ => zF (bV h20) rfl) rfl rfl ?_; refine w_r (v := .bool _) (fun _ => zF (bV h19) rfl) rfl rfl ?_; refine yB ?_; refine c_condF rfl ?_; refine zi ?_; refine b_on (zk ?_); refine zr ?_; refine w_r (fun _ => R_addi e62_3 rfl (by omega)) rfl rfl ?_; refine mI rfl ?_; refine zn ?_; refine k_st (B' := [(w, No)]) (L' := _) (fun w h => h.drop (List.sublist_cons_self _ _)) ?_
      exact k_again _ (by omega) ⟨k + 1, e3_3, e5_3, e9_3, e10_3, e60_3, e61_3, rfl, rfl, rfl, by omega, take_all hy hxk (by (try clear hm hds hss hcb hp hW hj hA hE hsz hlo hup hini e10_1 e10_2 e10_3 e3_2 e3_3 e4_2 e5_2 e5_3 e60_3 e61_3 e62_3 e9_1 e9_2 e9_3 gt1b gt4b gt7b ut1b ut4b ut7b); simp only [dgood]; grind), rfl⟩
   ·(try (have qh17 := h17; norm_cast at qh17))
    have hall : b.decls.all (dgood i) = true := all_of_take hy (by omega)
    refine c_exit ?_; refine zx (zx (b_here rfl (b_on (zk ?_)))); refine zr ?_; refine w_r (fun _ => R_addi e10_3 rfl (by omega)) rfl rfl ?_; refine mI rfl ?_; refine zn ?_; refine k_st (B' := [(w, No)]) (L' := [(t1b, cel cs 40)]) (fun w h => h.drop (List.sublist_cons_self _ _)) ?_; exact k_again _ (by omega) ⟨i + 1, e9_3, rfl, rfl, rfl, by omega, bk_next hj hb (by unfold bkOk; rw [hd, hall]; rfl), rfl⟩
  ·(try (have qh4 := h4; norm_cast at qh4))
   refine zw rfl rfl (bF h4) ?_; refine mI rfl ?_; refine zw rfl rfl (bF h4) ?_; refine w_r (fun _ => R_eq rfl rfl) rfl rfl ?_; refine w_r (v := .bool _) (fun _ => zF (bF h4) rfl) rfl rfl ?_; refine aB rfl ?_; refine yB ?_; refine c_cut (fun e B L => e 3 = .int .i64 (i : Nat) ∧ e 4 = .pointer (some ⟨t4b, 0, none⟩) ∧ e 5 = .bool (gv i) ∧ e 9 = .agg cs.toArray ∧ e 10 = .int .i64 (i : Nat) ∧ B = [(w, No)] ∧ L = [(t4b, cel [.bool b.is, .slice da b.decls.length dc, .slice sa b.stmts.length sc] 37), (t1b, cel cs 40)] ∧ headB i b = true) ?_ ?_
   ·(try (have qmid4 := mid4; norm_cast at qmid4))
    refine zB ?_; refine yA ?_; refine zf fa37_0 rfl ?_; refine zl z4 rfl (fun _ h => zc 0 rfl rfl h) ?_; refine w_r (fun _ => R_not rfl) rfl rfl ?_; refine mB rfl ?_; refine zp (t := 24) rfl (fun h22 => ?_) (fun h22 => ?_)
    ·(try (have qh22 := h22; norm_cast at qh22))
     refine zw rfl rfl (bV h22) ?_; refine zf fa37_1 rfl ?_; refine zw rfl rfl (bV h22) ?_; refine zl z34 rfl (fun _ h => zc 0 rfl rfl h) ?_; refine zw rfl rfl (bV h22) ?_; refine w_r (fun _ => R_len sl34 rfl) rfl rfl ?_; refine zw rfl rfl (bV h22) ?_; refine zf fa37_2 rfl ?_; refine zw rfl rfl (bV h22) ?_; refine zl z35 rfl (fun _ h => zc 0 rfl rfl h) ?_; refine zw rfl rfl (bV h22) ?_; refine w_r (fun _ => R_len sl35 rfl) rfl rfl ?_; refine zw rfl rfl (bV h22) ?_; refine w_r (fun _ => R_addi rfl rfl (by omega)) rfl rfl ?_; refine zw rfl rfl (bV h22) ?_; refine w_r (fun _ => R_gt rfl rfl) rfl rfl ?_; refine w_r (v := .bool _) (fun _ => zT (bV h22) rfl) rfl rfl ?_; refine mB rfl ?_; refine zd (t := 34) rfl (fun h23 => ?_) (fun h23 => ?_)
     ·(try (have qh23 := h23; norm_cast at qh23))
      refine zs rfl rfl (bT h23) ?_; refine zs rfl rfl (bT h23) ?_; refine zU rfl rfl rfl ?_; refine zU rfl rfl rfl ?_; refine zU rfl rfl rfl ?_; refine zU rfl rfl rfl ?_; refine zs rfl rfl (bT h23) ?_; refine w_r (v := .bool _) (fun _ => zT (bT h23) rfl) rfl rfl ?_; refine mB rfl ?_; refine zs rfl rfl rfl ?_; refine zs rfl rfl rfl ?_; refine zs rfl rfl rfl ?_; refine zU rfl rfl rfl ?_; refine zU rfl rfl rfl ?_; refine zU rfl rfl rfl ?_; refine zU rfl rfl rfl ?_; refine zs rfl rfl rfl ?_; refine w_r (v := .bool _) (fun _ => zT rfl rfl) rfl rfl ?_; refine mB rfl ?_; refine zs rfl rfl rfl ?_
      refine zs rfl rfl rfl ?_; refine zs rfl rfl rfl ?_; refine zs rfl rfl rfl ?_; refine w_r (v := .bool _) (fun _ => zT rfl rfl) rfl rfl ?_; refine aB rfl ?_; refine yB ?_; refine zE rfl ?_; refine yA ?_; refine aI rfl ?_; refine yB ?_; refine ze ?_; refine zb (zt (zb (zt (zt (zb (zt (?_)))))))
      refine zo (v := .int _ _) rfl rfl rfl ?_; exact fun w' hw => ⟨by first | (rw [pgOk_yes hm.six (fun j b h => hj j b (by omega))]; rfl) | (rw [pgOk_no hi6 hb (by first | (unfold bkOk; rw [all_no hxk (by simp only [dgood]; grind)]; simp; done) | ((try clear hw hm hds hss hcb hp hW hj e10_1 e9_1 gt1b gt4b ut1b ut4b); simp only [bkOk, headB, gv]; grind))]; rfl), hw.fr _ (.head _)⟩
     ·(try (have qh23 := h23; norm_cast at qh23))
      refine zw rfl rfl (bF h23) ?_; refine mB rfl ?_; refine zw rfl rfl (bF h23) ?_; refine mB rfl ?_; refine zd (t := 36) rfl (fun h24 => ?_) (fun h24 => ?_)
      ·(try (have qh24 := h24; norm_cast at qh24))
       refine zw rfl rfl (bT h24) ?_; refine zf fa37_2 rfl ?_; refine zw rfl rfl (bT h24) ?_; refine zl z35 rfl (fun _ h => zc 0 rfl rfl h) ?_; refine zw rfl rfl (bT h24) ?_; refine w_r (fun _ => R_len sl35 rfl) rfl rfl ?_; refine zw rfl rfl (bT h24) ?_; refine w_r (fun _ => R_gt rfl rfl) rfl rfl ?_; refine zw rfl rfl (bF h23) ?_; refine w_r (v := .bool _) (fun _ => zT (bT h24) rfl) rfl rfl ?_; refine w_r (v := .bool _) (fun _ => zF (bF h23) rfl) rfl rfl ?_; refine mB rfl ?_; refine zd (t := 43) rfl (fun h25 => ?_) (fun h25 => ?_)
       ·(try (have qh25 := h25; norm_cast at qh25))
        refine zs rfl rfl (bT h25) ?_; refine zs rfl rfl (bT h25) ?_; refine zs rfl rfl (bT h25) ?_; refine zU rfl rfl rfl ?_; refine zU rfl rfl rfl ?_; refine zU rfl rfl rfl ?_; refine zU rfl rfl rfl ?_; refine zs rfl rfl (bT h25) ?_; refine w_r (v := .bool _) (fun _ => zT (bT h25) rfl) rfl rfl ?_; refine mB rfl ?_; refine zs rfl rfl rfl ?_; refine zs rfl rfl rfl ?_; refine zs rfl rfl rfl ?_; refine zs rfl rfl rfl ?_; refine w_r (v := .bool _) (fun _ => zT rfl rfl) rfl rfl ?_; refine aB rfl ?_; refine yB ?_; refine zE rfl ?_; refine yA ?_; refine aI rfl ?_; refine yB ?_; refine ze ?_; refine zb (zt (zb (zt (zt (zb (zt (?_)))))))
        refine zo (v := .int _ _) rfl rfl rfl ?_; exact fun w' hw => ⟨by first | (rw [pgOk_yes hm.six (fun j b h => hj j b (by omega))]; rfl) | (rw [pgOk_no hi6 hb (by first | (unfold bkOk; rw [all_no hxk (by simp only [dgood]; grind)]; simp; done) | ((try clear hw hm hds hss hcb hp hW hj e10_1 e9_1 gt1b gt4b ut1b ut4b); simp only [bkOk, headB, gv]; grind))]; rfl), hw.fr _ (.head _)⟩
       ·(try (have qh25 := h25; norm_cast at qh25))
        refine zw rfl rfl (bF h25) ?_; refine mI rfl ?_; refine zw rfl rfl (bF h25) ?_; refine w_r (fun _ => R_eq rfl rfl) rfl rfl ?_; refine zw rfl rfl (bF h25) ?_; refine mB rfl ?_; refine zd (t := 46) rfl (fun h26 => ?_) (fun h26 => ?_)
        ·(try (have qh26 := h26; norm_cast at qh26))
         refine zw rfl rfl (bT h26) ?_; refine zf fa37_1 rfl ?_; refine zw rfl rfl (bT h26) ?_; refine zl z34 rfl (fun _ h => zc 0 rfl rfl h) ?_; refine zw rfl rfl (bT h26) ?_; refine w_r (fun _ => R_len sl34 rfl) rfl rfl ?_; refine zw rfl rfl (bT h26) ?_; refine w_r (fun _ => R_gt rfl rfl) rfl rfl ?_; refine zw rfl rfl (bF h25) ?_; refine w_r (v := .bool _) (fun _ => zT (bT h26) rfl) rfl rfl ?_; refine w_r (v := .bool _) (fun _ => zF (bF h25) rfl) rfl rfl ?_; refine mB rfl ?_; refine zd (t := 53) rfl (fun h27 => ?_) (fun h27 => ?_)
         ·(try (have qh27 := h27; norm_cast at qh27))
          refine zs rfl rfl (bT h27) ?_; refine zs rfl rfl (bT h27) ?_; refine zs rfl rfl (bT h27) ?_; refine zs rfl rfl (bT h27) ?_; refine w_r (v := .bool _) (fun _ => zT (bT h27) rfl) rfl rfl ?_; refine aB rfl ?_; refine yB ?_; refine zE rfl ?_; refine yA ?_; refine aI rfl ?_; refine yB ?_; refine ze ?_; refine zb (zt (zb (zt (zt (zb (zt (?_)))))))
          refine zo (v := .int _ _) rfl rfl rfl ?_; exact fun w' hw => ⟨by first | (rw [pgOk_yes hm.six (fun j b h => hj j b (by omega))]; rfl) | (rw [pgOk_no hi6 hb (by first | (unfold bkOk; rw [all_no hxk (by simp only [dgood]; grind)]; simp; done) | ((try clear hw hm hds hss hcb hp hW hj e10_1 e9_1 gt1b gt4b ut1b ut4b); simp only [bkOk, headB, gv]; grind))]; rfl), hw.fr _ (.head _)⟩
         ·(try (have qh27 := h27; norm_cast at qh27))
          refine zw rfl rfl (bF h27) ?_; refine zf fa37_2 rfl ?_; refine zw rfl rfl (bF h27) ?_; refine zl z35 rfl (fun _ h => zc 0 rfl rfl h) ?_; refine zw rfl rfl (bF h27) ?_; refine zC (fun w => zR Tryz.func40 rfl rfl rfl) rfl rfl (fun w h => stmts_ok b.stmts sa sc N w (by omega) (by omega) (hss.now (fun _ _ hh => hh) (.head _) h) (hW.now (.head _) h)) ?_; refine zw rfl rfl (bF h27) ?_; refine w_r (fun _ => R_not rfl) rfl rfl ?_; refine w_r (v := .bool _) (fun _ => zF (bF h27) rfl) rfl rfl ?_; refine aB rfl ?_; refine yB ?_; refine c_condN rfl (fun h28 => ?_) (fun h28 => ?_)
          ·(try (have qh28 := h28; norm_cast at qh28))
           refine yA ?_; refine aI rfl ?_; refine yB ?_; refine ze ?_; refine zb (zt (zb (zt (zt (zb (zt (?_)))))))
           refine zo (v := .int _ _) rfl rfl rfl ?_; exact fun w' hw => ⟨by first | (rw [pgOk_yes hm.six (fun j b h => hj j b (by omega))]; rfl) | (rw [pgOk_no hi6 hb (by first | (unfold bkOk; rw [all_no hxk (by simp only [dgood]; grind)]; simp; done) | ((try clear hw hm hds hss hcb hp hW hj e10_1 e9_1 gt1b gt4b ut1b ut4b); simp only [bkOk, headB, gv]; grind))]; rfl), hw.fr _ (.head _)⟩
          ·(try (have qh28 := h28; norm_cast at qh28))
           refine zi ?_; refine b_on (?_)
           exact k_mid ⟨rfl, rfl, (congrArg Value.bool (by (try clear hm hds hss hcb hp hW hj e10_1 e9_1 gt1b gt4b ut1b ut4b); simp only [gv]; grind)), e9_1, e10_1, rfl, rfl, by (try clear hm hds hss hcb hp hW hj e10_1 e9_1 gt1b gt4b ut1b ut4b); simp only [headB, gv]; grind⟩
        ·(try (have qh26 := h26; norm_cast at qh26))
         refine zs rfl rfl (bF h26) ?_; refine zs rfl rfl (bF h26) ?_; refine zs rfl rfl (bF h26) ?_; refine zs rfl rfl (bF h26) ?_; refine zw rfl rfl (bF h25) ?_; refine w_r (v := .bool _) (fun _ => zF (bF h26) rfl) rfl rfl ?_; refine w_r (v := .bool _) (fun _ => zF (bF h25) rfl) rfl rfl ?_; refine mB rfl ?_; refine zw rfl rfl rfl ?_; refine zf fa37_2 rfl ?_; refine zw rfl rfl rfl ?_; refine zl z35 rfl (fun _ h => zc 0 rfl rfl h) ?_; refine zw rfl rfl rfl ?_; refine zC (fun w => zR Tryz.func40 rfl rfl rfl) rfl rfl (fun w h => stmts_ok b.stmts sa sc N w (by omega) (by omega) (hss.now (fun _ _ hh => hh) (.head _) h) (hW.now (.head _) h)) ?_
         refine zw rfl rfl rfl ?_; refine w_r (fun _ => R_not rfl) rfl rfl ?_; refine w_r (v := .bool _) (fun _ => zF rfl rfl) rfl rfl ?_; refine aB rfl ?_; refine yB ?_; refine c_condN rfl (fun h29 => ?_) (fun h29 => ?_)
         ·(try (have qh29 := h29; norm_cast at qh29))
          refine yA ?_; refine aI rfl ?_; refine yB ?_; refine ze ?_; refine zb (zt (zb (zt (zt (zb (zt (?_)))))))
          refine zo (v := .int _ _) rfl rfl rfl ?_; exact fun w' hw => ⟨by first | (rw [pgOk_yes hm.six (fun j b h => hj j b (by omega))]; rfl) | (rw [pgOk_no hi6 hb (by first | (unfold bkOk; rw [all_no hxk (by simp only [dgood]; grind)]; simp; done) | ((try clear hw hm hds hss hcb hp hW hj e10_1 e9_1 gt1b gt4b ut1b ut4b); simp only [bkOk, headB, gv]; grind))]; rfl), hw.fr _ (.head _)⟩
         ·(try (have qh29 := h29; norm_cast at qh29))
          refine zi ?_; refine b_on (?_)
          exact k_mid ⟨rfl, rfl, (congrArg Value.bool (by (try clear hm hds hss hcb hp hW hj e10_1 e9_1 gt1b gt4b ut1b ut4b); simp only [gv]; grind)), e9_1, e10_1, rfl, rfl, by (try clear hm hds hss hcb hp hW hj e10_1 e9_1 gt1b gt4b ut1b ut4b); simp only [headB, gv]; grind⟩
      ·(try (have qh24 := h24; norm_cast at qh24))
       refine zs rfl rfl (bF h24) ?_; refine zs rfl rfl (bF h24) ?_; refine zs rfl rfl (bF h24) ?_; refine zs rfl rfl (bF h24) ?_; refine zw rfl rfl (bF h23) ?_; refine w_r (v := .bool _) (fun _ => zF (bF h24) rfl) rfl rfl ?_; refine w_r (v := .bool _) (fun _ => zF (bF h23) rfl) rfl rfl ?_; refine mB rfl ?_; refine zw rfl rfl rfl ?_; refine mI rfl ?_; refine zw rfl rfl rfl ?_; refine w_r (fun _ => R_eq rfl rfl) rfl rfl ?_; refine zw rfl rfl rfl ?_; refine mB rfl ?_; refine zd (t := 46) rfl (fun h30 => ?_) (fun h30 => ?_)
       ·(try (have qh30 := h30; norm_cast at qh30))
        refine zw rfl rfl (bT h30) ?_; refine zf fa37_1 rfl ?_; refine zw rfl rfl (bT h30) ?_; refine zl z34 rfl (fun _ h => zc 0 rfl rfl h) ?_; refine zw rfl rfl (bT h30) ?_; refine w_r (fun _ => R_len sl34 rfl) rfl rfl ?_; refine zw rfl rfl (bT h30) ?_; refine w_r (fun _ => R_gt rfl rfl) rfl rfl ?_; refine zw rfl rfl rfl ?_; refine w_r (v := .bool _) (fun _ => zT (bT h30) rfl) rfl rfl ?_; refine w_r (v := .bool _) (fun _ => zF rfl rfl) rfl rfl ?_; refine mB rfl ?_; refine zd (t := 53) rfl (fun h31 => ?_) (fun h31 => ?_)
        ·(try (have qh31 := h31; norm_cast at qh31))
         refine zs rfl rfl (bT h31) ?_; refine zs rfl rfl (bT h31) ?_; refine zs rfl rfl (bT h31) ?_; refine zs rfl rfl (bT h31) ?_; refine w_r (v := .bool _) (fun _ => zT (bT h31) rfl) rfl rfl ?_; refine aB rfl ?_; refine yB ?_; refine zE rfl ?_; refine yA ?_; refine aI rfl ?_; refine yB ?_; refine ze ?_; refine zb (zt (zb (zt (zt (zb (zt (?_)))))))
         refine zo (v := .int _ _) rfl rfl rfl ?_; exact fun w' hw => ⟨by first | (rw [pgOk_yes hm.six (fun j b h => hj j b (by omega))]; rfl) | (rw [pgOk_no hi6 hb (by first | (unfold bkOk; rw [all_no hxk (by simp only [dgood]; grind)]; simp; done) | ((try clear hw hm hds hss hcb hp hW hj e10_1 e9_1 gt1b gt4b ut1b ut4b); simp only [bkOk, headB, gv]; grind))]; rfl), hw.fr _ (.head _)⟩
        ·(try (have qh31 := h31; norm_cast at qh31))
         refine zw rfl rfl (bF h31) ?_; refine zf fa37_2 rfl ?_; refine zw rfl rfl (bF h31) ?_; refine zl z35 rfl (fun _ h => zc 0 rfl rfl h) ?_; refine zw rfl rfl (bF h31) ?_; refine zC (fun w => zR Tryz.func40 rfl rfl rfl) rfl rfl (fun w h => stmts_ok b.stmts sa sc N w (by omega) (by omega) (hss.now (fun _ _ hh => hh) (.head _) h) (hW.now (.head _) h)) ?_; refine zw rfl rfl (bF h31) ?_; refine w_r (fun _ => R_not rfl) rfl rfl ?_; refine w_r (v := .bool _) (fun _ => zF (bF h31) rfl) rfl rfl ?_; refine aB rfl ?_; refine yB ?_; refine c_condN rfl (fun h32 => ?_) (fun h32 => ?_)
         ·(try (have qh32 := h32; norm_cast at qh32))
          refine yA ?_; refine aI rfl ?_; refine yB ?_; refine ze ?_; refine zb (zt (zb (zt (zt (zb (zt (?_)))))))
          refine zo (v := .int _ _) rfl rfl rfl ?_; exact fun w' hw => ⟨by first | (rw [pgOk_yes hm.six (fun j b h => hj j b (by omega))]; rfl) | (rw [pgOk_no hi6 hb (by first | (unfold bkOk; rw [all_no hxk (by simp only [dgood]; grind)]; simp; done) | ((try clear hw hm hds hss hcb hp hW hj e10_1 e9_1 gt1b gt4b ut1b ut4b); simp only [bkOk, headB, gv]; grind))]; rfl), hw.fr _ (.head _)⟩
         ·(try (have qh32 := h32; norm_cast at qh32))
          refine zi ?_; refine b_on (?_)
          exact k_mid ⟨rfl, rfl, (congrArg Value.bool (by (try clear hm hds hss hcb hp hW hj e10_1 e9_1 gt1b gt4b ut1b ut4b); simp only [gv]; grind)), e9_1, e10_1, rfl, rfl, by (try clear hm hds hss hcb hp hW hj e10_1 e9_1 gt1b gt4b ut1b ut4b); simp only [headB, gv]; grind⟩
       ·(try (have qh30 := h30; norm_cast at qh30))
        refine zs rfl rfl (bF h30) ?_; refine zs rfl rfl (bF h30) ?_; refine zs rfl rfl (bF h30) ?_; refine zs rfl rfl (bF h30) ?_; refine zw rfl rfl rfl ?_; refine w_r (v := .bool _) (fun _ => zF (bF h30) rfl) rfl rfl ?_; refine w_r (v := .bool _) (fun _ => zF rfl rfl) rfl rfl ?_; refine mB rfl ?_; refine zw rfl rfl rfl ?_; refine zf fa37_2 rfl ?_; refine zw rfl rfl rfl ?_; refine zl z35 rfl (fun _ h => zc 0 rfl rfl h) ?_; refine zw rfl rfl rfl ?_; refine zC (fun w => zR Tryz.func40 rfl rfl rfl) rfl rfl (fun w h => stmts_ok b.stmts sa sc N w (by omega) (by omega) (hss.now (fun _ _ hh => hh) (.head _) h) (hW.now (.head _) h)) ?_; refine zw rfl rfl rfl ?_; refine w_r (fun _ => R_not rfl) rfl rfl ?_; refine w_r (v := .bool _) (fun _ => zF rfl rfl) rfl rfl ?_; refine aB rfl ?_
        refine yB ?_; refine c_condN rfl (fun h33 => ?_) (fun h33 => ?_)
        ·(try (have qh33 := h33; norm_cast at qh33))
         refine yA ?_; refine aI rfl ?_; refine yB ?_; refine ze ?_; refine zb (zt (zb (zt (zt (zb (zt (?_)))))))
         refine zo (v := .int _ _) rfl rfl rfl ?_; exact fun w' hw => ⟨by first | (rw [pgOk_yes hm.six (fun j b h => hj j b (by omega))]; rfl) | (rw [pgOk_no hi6 hb (by first | (unfold bkOk; rw [all_no hxk (by simp only [dgood]; grind)]; simp; done) | ((try clear hw hm hds hss hcb hp hW hj e10_1 e9_1 gt1b gt4b ut1b ut4b); simp only [bkOk, headB, gv]; grind))]; rfl), hw.fr _ (.head _)⟩
        ·(try (have qh33 := h33; norm_cast at qh33))
         refine zi ?_; refine b_on (?_)
         exact k_mid ⟨rfl, rfl, (congrArg Value.bool (by (try clear hm hds hss hcb hp hW hj e10_1 e9_1 gt1b gt4b ut1b ut4b); simp only [gv]; grind)), e9_1, e10_1, rfl, rfl, by (try clear hm hds hss hcb hp hW hj e10_1 e9_1 gt1b gt4b ut1b ut4b); simp only [headB, gv]; grind⟩
    ·(try (have qh22 := h22; norm_cast at qh22))
     refine zs rfl rfl (bV h22) ?_; refine zs rfl rfl (bV h22) ?_; refine zs rfl rfl (bV h22) ?_; refine zs rfl rfl (bV h22) ?_; refine zs rfl rfl (bV h22) ?_; refine zs rfl rfl (bV h22) ?_; refine zs rfl rfl (bV h22) ?_; refine zs rfl rfl (bV h22) ?_; refine w_r (v := .bool _) (fun _ => zF (bV h22) rfl) rfl rfl ?_; refine mB rfl ?_; refine zw rfl rfl rfl ?_; refine mB rfl ?_; refine zw rfl rfl rfl ?_; refine mB rfl ?_; refine zd (t := 36) rfl (fun h34 => ?_) (fun h34 => ?_)
     ·(try (have qh34 := h34; norm_cast at qh34))
      refine zw rfl rfl (bT h34) ?_; refine zf fa37_2 rfl ?_; refine zw rfl rfl (bT h34) ?_; refine zl z35 rfl (fun _ h => zc 0 rfl rfl h) ?_; refine zw rfl rfl (bT h34) ?_; refine w_r (fun _ => R_len sl35 rfl) rfl rfl ?_; refine zw rfl rfl (bT h34) ?_; refine w_r (fun _ => R_gt rfl rfl) rfl rfl ?_; refine zw rfl rfl rfl ?_; refine w_r (v := .bool _) (fun _ => zT (bT h34) rfl) rfl rfl ?_; refine w_r (v := .bool _) (fun _ => zF rfl rfl) rfl rfl ?_; refine mB rfl ?_; refine zd (t := 43) rfl (fun h35 => ?_) (fun h35 => ?_)
      ·(try (have qh35 := h35; norm_cast at qh35))
       refine zs rfl rfl (bT h35) ?_; refine zs rfl rfl (bT h35) ?_; refine zs rfl rfl (bT h35) ?_; refine zU rfl rfl rfl ?_; refine zU rfl rfl rfl ?_; refine zU rfl rfl rfl ?_; refine zU rfl rfl rfl ?_; refine zs rfl rfl (bT h35) ?_; refine w_r (v := .bool _) (fun _ => zT (bT h35) rfl) rfl rfl ?_; refine mB rfl ?_; refine zs rfl rfl rfl ?_; refine zs rfl rfl rfl ?_; refine zs rfl rfl rfl ?_; refine zs rfl rfl rfl ?_; refine w_r (v := .bool _) (fun _ => zT rfl rfl) rfl rfl ?_; refine aB rfl ?_; refine yB ?_; refine zE rfl ?_; refine yA ?_; refine aI rfl ?_; refine yB ?_; refine ze ?_; refine zb (zt (zb (zt (zt (zb (zt (?_)))))))
       refine zo (v := .int _ _) rfl rfl rfl ?_; exact fun w' hw => ⟨by first | (rw [pgOk_yes hm.six (fun j b h => hj j b (by omega))]; rfl) | (rw [pgOk_no hi6 hb (by first | (unfold bkOk; rw [all_no hxk (by simp only [dgood]; grind)]; simp; done) | ((try clear hw hm hds hss hcb hp hW hj e10_1 e9_1 gt1b gt4b ut1b ut4b); simp only [bkOk, headB, gv]; grind))]; rfl), hw.fr _ (.head _)⟩
      ·(try (have qh35 := h35; norm_cast at qh35))
       refine zw rfl rfl (bF h35) ?_; refine mI rfl ?_; refine zw rfl rfl (bF h35) ?_; refine w_r (fun _ => R_eq rfl rfl) rfl rfl ?_; refine zw rfl rfl (bF h35) ?_; refine mB rfl ?_; refine zd (t := 46) rfl (fun h36 => ?_) (fun h36 => ?_)
       ·(try (have qh36 := h36; norm_cast at qh36))
        refine zw rfl rfl (bT h36) ?_; refine zf fa37_1 rfl ?_; refine zw rfl rfl (bT h36) ?_; refine zl z34 rfl (fun _ h => zc 0 rfl rfl h) ?_; refine zw rfl rfl (bT h36) ?_; refine w_r (fun _ => R_len sl34 rfl) rfl rfl ?_; refine zw rfl rfl (bT h36) ?_; refine w_r (fun _ => R_gt rfl rfl) rfl rfl ?_; refine zw rfl rfl (bF h35) ?_; refine w_r (v := .bool _) (fun _ => zT (bT h36) rfl) rfl rfl ?_; refine w_r (v := .bool _) (fun _ => zF (bF h35) rfl) rfl rfl ?_; refine mB rfl ?_; refine zd (t := 53) rfl (fun h37 => ?_) (fun h37 => ?_)
        ·(try (have qh37 := h37; norm_cast at qh37))
         refine zs rfl rfl (bT h37) ?_; refine zs rfl rfl (bT h37) ?_; refine zs rfl rfl (bT h37) ?_; refine zs rfl rfl (bT h37) ?_; refine w_r (v := .bool _) (fun _ => zT (bT h37) rfl) rfl rfl ?_; refine aB rfl ?_; refine yB ?_; refine zE rfl ?_; refine yA ?_; refine aI rfl ?_; refine yB ?_; refine ze ?_; refine zb (zt (zb (zt (zt (zb (zt (?_)))))))
         refine zo (v := .int _ _) rfl rfl rfl ?_; exact fun w' hw => ⟨by first | (rw [pgOk_yes hm.six (fun j b h => hj j b (by omega))]; rfl) | (rw [pgOk_no hi6 hb (by first | (unfold bkOk; rw [all_no hxk (by simp only [dgood]; grind)]; simp; done) | ((try clear hw hm hds hss hcb hp hW hj e10_1 e9_1 gt1b gt4b ut1b ut4b); simp only [bkOk, headB, gv]; grind))]; rfl), hw.fr _ (.head _)⟩
        ·(try (have qh37 := h37; norm_cast at qh37))
         refine zw rfl rfl (bF h37) ?_; refine zf fa37_2 rfl ?_; refine zw rfl rfl (bF h37) ?_; refine zl z35 rfl (fun _ h => zc 0 rfl rfl h) ?_; refine zw rfl rfl (bF h37) ?_; refine zC (fun w => zR Tryz.func40 rfl rfl rfl) rfl rfl (fun w h => stmts_ok b.stmts sa sc N w (by omega) (by omega) (hss.now (fun _ _ hh => hh) (.head _) h) (hW.now (.head _) h)) ?_; refine zw rfl rfl (bF h37) ?_; refine w_r (fun _ => R_not rfl) rfl rfl ?_; refine w_r (v := .bool _) (fun _ => zF (bF h37) rfl) rfl rfl ?_; refine aB rfl ?_; refine yB ?_; refine c_condN rfl (fun h38 => ?_) (fun h38 => ?_)
         ·(try (have qh38 := h38; norm_cast at qh38))
          refine yA ?_; refine aI rfl ?_; refine yB ?_; refine ze ?_; refine zb (zt (zb (zt (zt (zb (zt (?_)))))))
          refine zo (v := .int _ _) rfl rfl rfl ?_; exact fun w' hw => ⟨by first | (rw [pgOk_yes hm.six (fun j b h => hj j b (by omega))]; rfl) | (rw [pgOk_no hi6 hb (by first | (unfold bkOk; rw [all_no hxk (by simp only [dgood]; grind)]; simp; done) | ((try clear hw hm hds hss hcb hp hW hj e10_1 e9_1 gt1b gt4b ut1b ut4b); simp only [bkOk, headB, gv]; grind))]; rfl), hw.fr _ (.head _)⟩
         ·(try (have qh38 := h38; norm_cast at qh38))
          refine zi ?_; refine b_on (?_)
          exact k_mid ⟨rfl, rfl, (congrArg Value.bool (by (try clear hm hds hss hcb hp hW hj e10_1 e9_1 gt1b gt4b ut1b ut4b); simp only [gv]; grind)), e9_1, e10_1, rfl, rfl, by (try clear hm hds hss hcb hp hW hj e10_1 e9_1 gt1b gt4b ut1b ut4b); simp only [headB, gv]; grind⟩
       ·(try (have qh36 := h36; norm_cast at qh36))
        refine zs rfl rfl (bF h36) ?_; refine zs rfl rfl (bF h36) ?_; refine zs rfl rfl (bF h36) ?_; refine zs rfl rfl (bF h36) ?_; refine zw rfl rfl (bF h35) ?_; refine w_r (v := .bool _) (fun _ => zF (bF h36) rfl) rfl rfl ?_; refine w_r (v := .bool _) (fun _ => zF (bF h35) rfl) rfl rfl ?_; refine mB rfl ?_; refine zw rfl rfl rfl ?_; refine zf fa37_2 rfl ?_; refine zw rfl rfl rfl ?_; refine zl z35 rfl (fun _ h => zc 0 rfl rfl h) ?_; refine zw rfl rfl rfl ?_; refine zC (fun w => zR Tryz.func40 rfl rfl rfl) rfl rfl (fun w h => stmts_ok b.stmts sa sc N w (by omega) (by omega) (hss.now (fun _ _ hh => hh) (.head _) h) (hW.now (.head _) h)) ?_
        refine zw rfl rfl rfl ?_; refine w_r (fun _ => R_not rfl) rfl rfl ?_; refine w_r (v := .bool _) (fun _ => zF rfl rfl) rfl rfl ?_; refine aB rfl ?_; refine yB ?_; refine c_condN rfl (fun h39 => ?_) (fun h39 => ?_)
        ·(try (have qh39 := h39; norm_cast at qh39))
         refine yA ?_; refine aI rfl ?_; refine yB ?_; refine ze ?_; refine zb (zt (zb (zt (zt (zb (zt (?_)))))))
         refine zo (v := .int _ _) rfl rfl rfl ?_; exact fun w' hw => ⟨by first | (rw [pgOk_yes hm.six (fun j b h => hj j b (by omega))]; rfl) | (rw [pgOk_no hi6 hb (by first | (unfold bkOk; rw [all_no hxk (by simp only [dgood]; grind)]; simp; done) | ((try clear hw hm hds hss hcb hp hW hj e10_1 e9_1 gt1b gt4b ut1b ut4b); simp only [bkOk, headB, gv]; grind))]; rfl), hw.fr _ (.head _)⟩
        ·(try (have qh39 := h39; norm_cast at qh39))
         refine zi ?_; refine b_on (?_)
         exact k_mid ⟨rfl, rfl, (congrArg Value.bool (by (try clear hm hds hss hcb hp hW hj e10_1 e9_1 gt1b gt4b ut1b ut4b); simp only [gv]; grind)), e9_1, e10_1, rfl, rfl, by (try clear hm hds hss hcb hp hW hj e10_1 e9_1 gt1b gt4b ut1b ut4b); simp only [headB, gv]; grind⟩
     ·(try (have qh34 := h34; norm_cast at qh34))
      refine zs rfl rfl (bF h34) ?_; refine zs rfl rfl (bF h34) ?_; refine zs rfl rfl (bF h34) ?_; refine zs rfl rfl (bF h34) ?_; refine zw rfl rfl rfl ?_; refine w_r (v := .bool _) (fun _ => zF (bF h34) rfl) rfl rfl ?_; refine w_r (v := .bool _) (fun _ => zF rfl rfl) rfl rfl ?_; refine mB rfl ?_; refine zw rfl rfl rfl ?_; refine mI rfl ?_; refine zw rfl rfl rfl ?_; refine w_r (fun _ => R_eq rfl rfl) rfl rfl ?_; refine zw rfl rfl rfl ?_; refine mB rfl ?_; refine zd (t := 46) rfl (fun h40 => ?_) (fun h40 => ?_)
      ·(try (have qh40 := h40; norm_cast at qh40))
       refine zw rfl rfl (bT h40) ?_; refine zf fa37_1 rfl ?_; refine zw rfl rfl (bT h40) ?_; refine zl z34 rfl (fun _ h => zc 0 rfl rfl h) ?_; refine zw rfl rfl (bT h40) ?_; refine w_r (fun _ => R_len sl34 rfl) rfl rfl ?_; refine zw rfl rfl (bT h40) ?_; refine w_r (fun _ => R_gt rfl rfl) rfl rfl ?_; refine zw rfl rfl rfl ?_; refine w_r (v := .bool _) (fun _ => zT (bT h40) rfl) rfl rfl ?_; refine w_r (v := .bool _) (fun _ => zF rfl rfl) rfl rfl ?_; refine mB rfl ?_; refine zd (t := 53) rfl (fun h41 => ?_) (fun h41 => ?_)
       ·(try (have qh41 := h41; norm_cast at qh41))
        refine zs rfl rfl (bT h41) ?_; refine zs rfl rfl (bT h41) ?_; refine zs rfl rfl (bT h41) ?_; refine zs rfl rfl (bT h41) ?_; refine w_r (v := .bool _) (fun _ => zT (bT h41) rfl) rfl rfl ?_; refine aB rfl ?_; refine yB ?_; refine zE rfl ?_; refine yA ?_; refine aI rfl ?_; refine yB ?_; refine ze ?_; refine zb (zt (zb (zt (zt (zb (zt (?_)))))))
        refine zo (v := .int _ _) rfl rfl rfl ?_; exact fun w' hw => ⟨by first | (rw [pgOk_yes hm.six (fun j b h => hj j b (by omega))]; rfl) | (rw [pgOk_no hi6 hb (by first | (unfold bkOk; rw [all_no hxk (by simp only [dgood]; grind)]; simp; done) | ((try clear hw hm hds hss hcb hp hW hj e10_1 e9_1 gt1b gt4b ut1b ut4b); simp only [bkOk, headB, gv]; grind))]; rfl), hw.fr _ (.head _)⟩
       ·(try (have qh41 := h41; norm_cast at qh41))
        refine zw rfl rfl (bF h41) ?_; refine zf fa37_2 rfl ?_; refine zw rfl rfl (bF h41) ?_; refine zl z35 rfl (fun _ h => zc 0 rfl rfl h) ?_; refine zw rfl rfl (bF h41) ?_; refine zC (fun w => zR Tryz.func40 rfl rfl rfl) rfl rfl (fun w h => stmts_ok b.stmts sa sc N w (by omega) (by omega) (hss.now (fun _ _ hh => hh) (.head _) h) (hW.now (.head _) h)) ?_; refine zw rfl rfl (bF h41) ?_; refine w_r (fun _ => R_not rfl) rfl rfl ?_; refine w_r (v := .bool _) (fun _ => zF (bF h41) rfl) rfl rfl ?_; refine aB rfl ?_; refine yB ?_; refine c_condN rfl (fun h42 => ?_) (fun h42 => ?_)
        ·(try (have qh42 := h42; norm_cast at qh42))
         refine yA ?_; refine aI rfl ?_; refine yB ?_; refine ze ?_; refine zb (zt (zb (zt (zt (zb (zt (?_)))))))
         refine zo (v := .int _ _) rfl rfl rfl ?_; exact fun w' hw => ⟨by first | (rw [pgOk_yes hm.six (fun j b h => hj j b (by omega))]; rfl) | (rw [pgOk_no hi6 hb (by first | (unfold bkOk; rw [all_no hxk (by simp only [dgood]; grind)]; simp; done) | ((try clear hw hm hds hss hcb hp hW hj e10_1 e9_1 gt1b gt4b ut1b ut4b); simp only [bkOk, headB, gv]; grind))]; rfl), hw.fr _ (.head _)⟩
        ·(try (have qh42 := h42; norm_cast at qh42))
         refine zi ?_; refine b_on (?_)
         exact k_mid ⟨rfl, rfl, (congrArg Value.bool (by (try clear hm hds hss hcb hp hW hj e10_1 e9_1 gt1b gt4b ut1b ut4b); simp only [gv]; grind)), e9_1, e10_1, rfl, rfl, by (try clear hm hds hss hcb hp hW hj e10_1 e9_1 gt1b gt4b ut1b ut4b); simp only [headB, gv]; grind⟩
      ·(try (have qh40 := h40; norm_cast at qh40))
       refine zs rfl rfl (bF h40) ?_; refine zs rfl rfl (bF h40) ?_; refine zs rfl rfl (bF h40) ?_; refine zs rfl rfl (bF h40) ?_; refine zw rfl rfl rfl ?_; refine w_r (v := .bool _) (fun _ => zF (bF h40) rfl) rfl rfl ?_; refine w_r (v := .bool _) (fun _ => zF rfl rfl) rfl rfl ?_; refine mB rfl ?_; refine zw rfl rfl rfl ?_; refine zf fa37_2 rfl ?_; refine zw rfl rfl rfl ?_; refine zl z35 rfl (fun _ h => zc 0 rfl rfl h) ?_; refine zw rfl rfl rfl ?_; refine zC (fun w => zR Tryz.func40 rfl rfl rfl) rfl rfl (fun w h => stmts_ok b.stmts sa sc N w (by omega) (by omega) (hss.now (fun _ _ hh => hh) (.head _) h) (hW.now (.head _) h)) ?_; refine zw rfl rfl rfl ?_; refine w_r (fun _ => R_not rfl) rfl rfl ?_; refine w_r (v := .bool _) (fun _ => zF rfl rfl) rfl rfl ?_; refine aB rfl ?_
       refine yB ?_; refine c_condN rfl (fun h43 => ?_) (fun h43 => ?_)
       ·(try (have qh43 := h43; norm_cast at qh43))
        refine yA ?_; refine aI rfl ?_; refine yB ?_; refine ze ?_; refine zb (zt (zb (zt (zt (zb (zt (?_)))))))
        refine zo (v := .int _ _) rfl rfl rfl ?_; exact fun w' hw => ⟨by first | (rw [pgOk_yes hm.six (fun j b h => hj j b (by omega))]; rfl) | (rw [pgOk_no hi6 hb (by first | (unfold bkOk; rw [all_no hxk (by simp only [dgood]; grind)]; simp; done) | ((try clear hw hm hds hss hcb hp hW hj e10_1 e9_1 gt1b gt4b ut1b ut4b); simp only [bkOk, headB, gv]; grind))]; rfl), hw.fr _ (.head _)⟩
       ·(try (have qh43 := h43; norm_cast at qh43))
        refine zi ?_; refine b_on (?_)
        exact k_mid ⟨rfl, rfl, (congrArg Value.bool (by (try clear hm hds hss hcb hp hW hj e10_1 e9_1 gt1b gt4b ut1b ut4b); simp only [gv]; grind)), e9_1, e10_1, rfl, rfl, by (try clear hm hds hss hcb hp hW hj e10_1 e9_1 gt1b gt4b ut1b ut4b); simp only [headB, gv]; grind⟩
   rintro e B L ⟨e3_4, e4_4, e5_4, e9_4, e10_4, rfl, rfl, hd⟩
   refine yA ?_; refine zf fa37_1 e4_4 ?_; refine zl z34 rfl (fun _ h => zc 0 rfl rfl h) ?_; refine w_r (fun _ => R_len sl34 rfl) rfl rfl ?_; refine mI rfl ?_; refine yB ?_; refine zB ?_; refine c_loop (fun m e B L => ∃ (k : Nat), e 3 = .int .i64 (i : Nat) ∧ e 5 = .bool (gv i) ∧ e 9 = .agg cs.toArray ∧ e 10 = .int .i64 (i : Nat) ∧ e 60 = .slice da b.decls.length dc ∧ e 61 = .int .i64 (b.decls.length : Nat) ∧ e 62 = .int .i64 (k : Nat) ∧ B = [(w, No)] ∧ L = [(t4b, cel [.bool b.is, .slice da b.decls.length dc, .slice sa b.stmts.length sc] 37), (t1b, cel cs 40)] ∧ k ≤ b.decls.length ∧ (∀ y ∈ b.decls.take k, (!dgood i y) = false) ∧ m = b.decls.length - k) _ ⟨0, e3_4, e5_4, e9_4, e10_4, rfl, rfl, rfl, rfl, rfl, Nat.zero_le _, (by simp), rfl⟩ ?_
   rintro m e B L ⟨k, e3_5, e5_5, e9_5, e10_5, e60_5, e61_5, e62_5, rfl, rfl, hk, hy, rfl⟩
   refine yA ?_; refine w_r (fun _ => R_lt e62_5 e61_5) rfl rfl ?_; refine yB ?_; refine zq ?_; refine zD rfl (fun h44 => ?_) (fun h44 => ?_)
   ·(try (have qh44 := h44; norm_cast at qh44))
    have hlt : k < b.decls.length := (by omega); obtain ⟨x, hxk⟩ : ∃ x, b.decls[k]? = some x := ⟨_, List.getElem?_eq_getElem hlt⟩; obtain ⟨cs2, hA, hE⟩ := hds k x hxk; have hxn := dcsW_mem (List.mem_of_getElem? hxk); obtain ⟨b1, o1, rfl⟩ := hA.ptr; have hE2 := hE; obtain ⟨ty, at_, nm, sz, lo, up, ini⟩ := x; unfold dcM at hE2; obtain ⟨xa, xc, la, lc, ua, uc, ia, ic, hcs, hsz, hlo, hup, hini⟩ := hE2; simp only [] at hcs; subst hcs
    refine zi ?_; refine zk ?_; refine zq ?_; refine zB ?_; refine yA ?_; refine w_r (fun _ => R_iaN (i := k) sl34 e60_5 e62_5 (by first | omega | decide)) rfl rfl ?_; refine w_loadC (l := [.int .u8 (ty : Nat), .int .i64 at_, str nm, .slice xa sz.length xc, .slice la lo.length lc, .slice ua up.length uc, .slice ia ini.length ic]) z52 rfl rfl (fun w h j v hj => hA.cell (fun _ _ hh => hh) (.head _) h j v hj) ?_; refine w_alloc zr52 (fun t7b gt7b ut7b => ?_)
    refine w_store 0 rfl z52 rfl rfl rfl rfl rfl rfl rfl ?_; refine yC ?_; refine w_loadA z52 rfl (fun _ h => h.at_ 0 rfl) rfl ?_; refine zC (fun w => zR Tryz.func41 rfl rfl rfl) rfl rfl (fun w h => decl_spec _ _ N w (by omega) (hE.now (fun _ _ hh => hh) (.head _) h) (hW.now (.head _) h)) ?_; refine w_r (fun _ => R_not rfl) rfl rfl ?_; refine mB rfl ?_; refine zp (t := 69) rfl (fun h46 => ?_) (fun h46 => ?_)
    ·(try (have qh46 := h46; norm_cast at qh46))
     refine zs rfl rfl (bV h46) ?_; refine zs rfl rfl (bV h46) ?_; refine zU rfl rfl rfl ?_; refine zU rfl rfl rfl ?_; refine zU rfl rfl rfl ?_; refine zU rfl rfl rfl ?_; refine zs rfl rfl (bV h46) ?_; refine w_r (v := .bool _) (fun _ => zT (bV h46) rfl) rfl rfl ?_; refine yB ?_; refine zE rfl ?_; refine yA ?_; refine aI rfl ?_; refine yB ?_; refine ze ?_; refine zb (zt (zt (zb (zb (zt (zt (zb (zt (?_)))))))))
     refine zo (v := .int _ _) rfl rfl rfl ?_; exact fun w' hw => ⟨by first | (rw [pgOk_yes hm.six (fun j b h => hj j b (by omega))]; rfl) | (rw [pgOk_no hi6 hb (by first | (unfold bkOk; rw [all_no hxk (by (try clear hw hm hds hss hcb hp hW hj hA hE hsz hlo hup hini e10_1 e10_4 e10_5 e3_4 e3_5 e4_4 e5_4 e5_5 e60_5 e61_5 e62_5 e9_1 e9_4 e9_5 gt1b gt4b gt7b ut1b ut4b ut7b); simp only [dgood]; grind)]; simp; done) | (simp only [bkOk, headB, gv]; grind))]; rfl), hw.fr _ (.head _)⟩
    ·(try (have qh46 := h46; norm_cast at qh46))
     refine zw rfl rfl (bV h46) ?_; refine mB e5_5 ?_; refine zw rfl rfl (bV h46) ?_; refine mB rfl ?_; refine zp (t := 71) rfl (fun h47 => ?_) (fun h47 => ?_)
     ·(try (have qh47 := h47; norm_cast at qh47))
      refine zw rfl rfl (bV h47) ?_; refine zf fa52_6 rfl ?_; refine zw rfl rfl (bV h47) ?_; refine zl z22 rfl (fun _ h => zc 0 rfl rfl h) ?_; refine zw rfl rfl (bV h47) ?_; refine w_r (fun _ => R_len sl22 rfl) rfl rfl ?_; refine zw rfl rfl (bV h47) ?_; refine w_r (fun _ => R_gt rfl rfl) rfl rfl ?_; refine zw rfl rfl (bV h46) ?_; refine w_r (v := .bool _) (fun _ => zT (bV h47) rfl) rfl rfl ?_; refine w_r (v := .bool _) (fun _ => zF (bV h46) rfl) rfl rfl ?_; refine yB ?_; refine zD rfl (fun h48 => ?_) (fun h48 => ?_)
      ·(try (have qh48 := h48; norm_cast at qh48))
       refine yA ?_; refine aI rfl ?_; refine yB ?_; refine ze ?_; refine zb (zt (zt (zb (zb (zt (zt (zb (zt (?_)))))))))
       refine zo (v := .int _ _) rfl rfl rfl ?_; exact fun w' hw => ⟨by first | (rw [pgOk_yes hm.six (fun j b h => hj j b (by omega))]; rfl) | (rw [pgOk_no hi6 hb (by first | (unfold bkOk; rw [all_no hxk (by (try clear hw hm hds hss hcb hp hW hj hA hE hsz hlo hup hini e10_1 e10_4 e10_5 e3_4 e3_5 e4_4 e5_4 e5_5 e60_5 e61_5 e62_5 e9_1 e9_4 e9_5 gt1b gt4b gt7b ut1b ut4b ut7b); simp only [dgood]; grind)]; simp; done) | (simp only [bkOk, headB, gv]; grind))]; rfl), hw.fr _ (.head _)⟩
      ·(try (have qh48 := h48; norm_cast at qh48))
       refine zi ?_; refine b_on (zk ?_); refine zr ?_; refine w_r (fun _ => R_addi e62_5 rfl (by omega)) rfl rfl ?_; refine mI rfl ?_; refine zn ?_; refine k_st (B' := [(w, No)]) (L' := _) (fun w h => h.drop (List.sublist_cons_self _ _)) ?_; exact k_again _ (by omega) ⟨k + 1, e3_5, e5_5, e9_5, e10_5, e60_5, e61_5, rfl, rfl, rfl, by omega, take_all hy hxk (by (try clear hm hds hss hcb hp hW hj hA hE hsz hlo hup hini e10_1 e10_4 e10_5 e3_4 e3_5 e4_4 e5_4 e5_5 e60_5 e61_5 e62_5 e9_1 e9_4 e9_5 gt1b gt4b gt7b ut1b ut4b ut7b); simp only [dgood]; grind), rfl⟩
     ·(try (have qh47 := h47; norm_cast at qh47))
      refine zs rfl rfl (bV h47) ?_; refine zs rfl rfl (bV h47) ?_; refine zs rfl rfl (bV h47) ?_; refine zs rfl rfl (bV h47) ?_; refine zw rfl rfl (bV h46) ?_; refine w_r (v := .bool _) (fun _ => zF (bV h47) rfl) rfl rfl ?_; refine w_r (v := .bool _) (fun _ => zF (bV h46) rfl) rfl rfl ?_; refine yB ?_; refine c_condF rfl ?_; refine zi ?_; refine b_on (zk ?_); refine zr ?_; refine w_r (fun _ => R_addi e62_5 rfl (by omega)) rfl rfl ?_; refine mI rfl ?_; refine zn ?_; refine k_st (B' := [(w, No)]) (L' := _) (fun w h => h.drop (List.sublist_cons_self _ _)) ?_
      exact k_again _ (by omega) ⟨k + 1, e3_5, e5_5, e9_5, e10_5, e60_5, e61_5, rfl, rfl, rfl, by omega, take_all hy hxk (by (try clear hm hds hss hcb hp hW hj hA hE hsz hlo hup hini e10_1 e10_4 e10_5 e3_4 e3_5 e4_4 e5_4 e5_5 e60_5 e61_5 e62_5 e9_1 e9_4 e9_5 gt1b gt4b gt7b ut1b ut4b ut7b); simp only [dgood]; grind), rfl⟩
   ·(try (have qh44 := h44; norm_cast at qh44))
    have hall : b.decls.all (dgood i) = true := all_of_take hy (by omega)
    refine c_exit ?_; refine zx (zx (b_here rfl (b_on (zk ?_)))); refine zr ?_; refine w_r (fun _ => R_addi e10_5 rfl (by omega)) rfl rfl ?_; refine mI rfl ?_; refine zn ?_; refine k_st (B' := [(w, No)]) (L' := [(t1b, cel cs 40)]) (fun w h => h.drop (List.sublist_cons_self _ _)) ?_; exact k_again _ (by omega) ⟨i + 1, e9_5, rfl, rfl, rfl, by omega, bk_next hj hb (by unfold bkOk; rw [hd, hall]; rfl), rfl⟩
 ·(try (have qh2 := h2; norm_cast at qh2))
  refine c_exit ?_; refine zx (zx (b_here rfl (zk ?_))); refine yA ?_; refine aI rfl ?_; refine yB ?_; refine ze ?_; refine zo (v := .int _ _) rfl rfl rfl ?_; exact fun w' hw => ⟨by first | (rw [pgOk_yes hm.six (fun j b h => hj j b (by omega))]; rfl) | (rw [pgOk_no hi6 hb (by first | (unfold bkOk; rw [all_no hxk (by simp only [dgood]; grind)]; simp; done) | (simp only [bkOk, headB, gv]; grind))]; rfl), hw.fr _ (.head _)⟩
end Go.Proofs.YtcmcdgkjipnfnaaGreatDoor
end

section
/- A pen: a slice of texts in a block of its own, written on by calls. -/
namespace Go.Sx
open Go.RowKit Go.Tree
abbrev OwnS (te : TypeId) (v : Value) (ts : List (List UInt8)) (W : Heap) : Prop := Own te 1 v (ts.map str) ts.length W
theorem OwnS.more {te : TypeId} {v : Value} {xs ts : List (List UInt8)} {W : Heap} (h : Own te 1 v (xs.map str ++ ts.map str) (xs.length + ts.length) W) : OwnS te v (xs ++ ts) W := by
  unfold OwnS; rw [List.map_append, List.length_append]; exact h
theorem strs_one (ts : List (List UInt8)) : (ts.map str).all Value.oneCell' = true := by
  rw [List.all_eq_true]; intro x hx
  obtain ⟨y, _, rfl⟩ := List.mem_map.1 hx
  rfl
def PenAt (te T : TypeId) (p : Nat) (xs : List (List UInt8)) (B : Base) (Lr : Heap) (w : World) : Prop := ∃ v W, OwnS te v xs W ∧ St B ((p, cel [v] T) :: (W ++ Lr)) w
theorem perm_pen (A W Lr : Heap) (q : Nat × Obj) : (A ++ (q :: (W ++ Lr))).Perm (q :: (W ++ (A ++ Lr))) := List.perm_middle.trans ((perm_mid A W Lr).cons q)
section
variable {P : Program} {ops : Array Oper} {Q : Exit → Act → World → Prop} {c : Cf} {e : Env} {B : Base} {rest : List Oper} {o : Oper} {d i fuel : Nat} {te T : TypeId} {p : Nat} {A Lr W : Heap} {v : Value} {xs : List (List UInt8)} {f : FuncId} {args : Array Value} {S : World → Prop} {listed : Array Bool}
/-- a call that writes on a pen -/
theorem w_pen (ts : List (List UInt8)) (hr : ∀ w, RunE P o (ev c.n e) w f args) (hg : plainB o = true) (hd : o.dst = some d) (hO : OwnS te v xs W)
    (hc : ∀ w, PenAt te T p xs B (A ++ Lr) w → Ret P f args w fun u w' => u = .tuple #[] ∧ PenAt te T p (xs ++ ts) B (A ++ Lr) w')
    (h : ∀ v' W', OwnS te v' (xs ++ ts) W' → WX .sq P ops c Q rest (upd e d (.tuple #[])) B (A ++ ((p, cel [v'] T) :: (W' ++ Lr)))) : WX .sq P ops c Q (o :: rest) e B (A ++ ((p, cel [v] T) :: (W ++ Lr))) :=
  w_callR (R := fun _ u w' => u = .tuple #[] ∧ PenAt te T p (xs ++ ts) B (A ++ Lr) w') hr hg hd (fun w hw => hc w ⟨v, W, hO, hw.perm (perm_pen A W Lr _)⟩)
    (fun w hw u w' ⟨hu, v', W', hO', hs⟩ => ⟨B, A ++ ((p, cel [v'] T) :: (W' ++ Lr)), hs.perm (perm_pen A W' Lr _).symm, by subst hu; exact h v' W' hO'⟩)
theorem h_pen (ts : List (List UInt8)) (i : Nat) (hi : ops[i]? = some o) (hk : Region.ready .any ops listed = [i]) (hg : plainB o = true) (hd : o.dst = some d) (hs : ∀ w, St B (A ++ ((p, cel [v] T) :: (W ++ Lr))) w → S w) (hr : ∀ w, RunE P o (ev c.n e) w f args) (hO : OwnS te v xs W)
    (hc : ∀ w, PenAt te T p xs B (A ++ Lr) w → Ret P f args w fun u w' => u = .tuple #[] ∧ PenAt te T p (xs ++ ts) B (A ++ Lr) w')
    (h : ∀ v' W', OwnS te v' (xs ++ ts) W' → WH P ops c Q S fuel (listed.setIfInBounds i true) (upd e d (.tuple #[])) B (A ++ ((p, cel [v'] T) :: (W' ++ Lr)))) : WH P ops c Q S (fuel + 1) listed e B (A ++ ((p, cel [v] T) :: (W ++ Lr))) :=
  h_call (R := fun _ u w' => u = .tuple #[] ∧ PenAt te T p (xs ++ ts) B (A ++ Lr) w') i hi hk hg hd hs hr (fun w hw => hc w ⟨v, W, hO, hw.perm (perm_pen A W Lr _)⟩)
    (fun w hw u w' ⟨hu, v', W', hO', hs⟩ => ⟨B, A ++ ((p, cel [v'] T) :: (W' ++ Lr)), hs.perm (perm_pen A W' Lr _).symm, by subst hu; exact h v' W' hO'⟩)
/-- a call that only reads, in a region that draws -/
theorem h_pure {L : Heap} {u : Value} (i : Nat) (hi : ops[i]? = some o) (hk : Region.ready .any ops listed = [i]) (hg : plainB o = true) (hd : o.dst = some d) (hs : ∀ w, St B L w → S w) (hr : ∀ w, RunE P o (ev c.n e) w f args)
    (hc : ∀ w, St B L w → Ret P f args w fun v w' => v = u ∧ Ext w w') (h : WH P ops c Q S fuel (listed.setIfInBounds i true) (upd e d u) B L) : WH P ops c Q S (fuel + 1) listed e B L :=
  h_call (R := fun w v w' => v = u ∧ Ext w w') i hi hk hg hd hs hr hc (fun w hw v w' ⟨hv, hx⟩ => ⟨B, L, hw.ext hx, by subst hv; exact h⟩)
end
theorem R_slLo {P : Program} {ρ : Operand → Value} {w : World} {D : Option Tmp} {ty t : TypeId} {pos : String} {aft : Array Edge} {g : Option (Nat × Bool)} {x lo : Operand} {k : IntKind} {a : Option Addr} {q l n m : Nat} (hu : slB P t q = true) (hx : ρ x = .slice a n m) (hlo : ρ lo = .int k (l : Nat)) (h1 : l ≤ n) (h2 : n ≤ m) :
    Run P ⟨D, .slice t x (some lo) none none, ty, pos, aft, g⟩ ρ w (.slice (if m = l then a else a.map (fun z => z.add (l * q))) (n - l) (m - l)) w := by
  obtain ⟨e, ti, h3, h4, h5⟩ := slB_spec hu
  have h6 : (l : Int) ≤ (n : Int) := by omega
  simp [Run, execOp, hx, hlo, go_sem, Instr.sliceAt, Instr.slice, run_underlying h3, Instr.sliceBounds, Instr.sliceBound, asIntOf, h1, sizeOf, typeInfo, h4, h5]
theorem R_slE {P : Program} {ρ : Operand → Value} {w : World} {D : Option Tmp} {ty t : TypeId} {pos : String} {aft : Array Edge} {g : Option (Nat × Bool)} {x lo : Operand} {k : IntKind} {a a' : Option Addr} {q l n n' m : Nat} (hu : slB P t q = true) (hx : ρ x = .slice a n m) (hlo : ρ lo = .int k (l : Nat)) (h1 : l ≤ n) (h2 : n ≤ m) (ha : (if m = l then a else a.map (fun z => z.add (l * q))) = a') (hn : n - l = n') :
    Run P ⟨D, .slice t x (some lo) none none, ty, pos, aft, g⟩ ρ w (.slice a' n' (m - l)) w := by subst ha; subst hn; exact R_slLo hu hx hlo h1 h2
theorem At.shift {W : World} {N : Nat → Prop} {b o i : Nat} {cs : List Value} (h : At W N (some ⟨b, o, none⟩) (i + 4) cs) : At W N (some ⟨b, o + 4, none⟩) i cs := by
  obtain ⟨b', o', ha, hb, hc⟩ := h
  cases ha
  exact ⟨b, o + 4, rfl, hb, fun j v hj => by have := hc j v hj; rwa [show o + (i + 4) + j = o + 4 + i + j by omega] at this⟩
theorem exsM.shift {W : World} {N : Nat → Prop} {b o : Nat} : ∀ {l : List Ex} {i : Nat}, exsM W N l (some ⟨b, o, none⟩) (i + 4) → exsM W N l (some ⟨b, o + 4, none⟩) i
  | [], _, _ => by unfold exsM; trivial
  | x :: l, i, h => by
    unfold exsM at h ⊢
    obtain ⟨⟨cs, h1, h2⟩, h3⟩ := h
    exact ⟨⟨cs, h1.shift, h2⟩, exsM.shift h3⟩
/-- a row but for its first one -/
theorem exsM.rest {W : World} {N : Nat → Prop} {b o c : Nat} {l : List Ex} (h : exsM W N l (some ⟨b, o, none⟩) 0) (hl : 1 ≤ l.length) (hc : l.length ≤ c) : ∃ a, (if c = 1 then (some ⟨b, o, none⟩ : Option Addr) else (some ⟨b, o, none⟩ : Option Addr).map (fun z => z.add (1 * 4))) = a ∧ exsM W N (l.drop 1) a 0 := by
  match l, hl with
  | x :: l, _ =>
    unfold exsM at h
    refine ⟨_, rfl, ?_⟩
    simp only [List.drop_succ_cons, List.drop_zero]
    split
    · have : l = [] := by cases l with | nil => rfl | cons => simp at hc; omega
      subst this; unfold exsM; trivial
    · exact exsM.shift h.2
theorem R_minE {P : Program} {ρ : Operand → Value} {w : World} {D : Option Tmp} {ty : TypeId} {tys : Array TypeId} {pos : String} {aft : Array Edge} {g : Option (Nat × Bool)} {x y : Operand} {k : IntKind} {i j m : Int} (hx : ρ x = .int k i) (hy : ρ y = .int k j) (he : (if j < i then j else i) = m) : Run P ⟨D, .call ⟨.builtin .min, #[x, y], tys⟩, ty, pos, aft, g⟩ ρ w (.int k m) w := he ▸ R_min hx hy
theorem exM_len {W : World} {N : Nat → Prop} {x : Ex} {cs : List Value} (h : exM W N x cs) : cs.length = 4 := by
  obtain ⟨op, at_, nm, ks⟩ := x
  unfold exM at h
  obtain ⟨a, c, rfl, _⟩ := h
  rfl
theorem OwnS.eq {te : TypeId} {v : Value} {xs ys : List (List UInt8)} {W : Heap} (h : OwnS te v xs W) (he : xs = ys) : OwnS te v ys W := he ▸ h
theorem h_bslice {P : Program} {ops : Array Oper} {Q : Exit → Act → World → Prop} {c : Cf} {e : Env} {B : Base} {L : Heap} {d fuel : Nat} {S : World → Prop} {listed : Array Bool} {T : TypeId} {pp : String} {ed : Array Edge} {t el k bytes len : Nat} {z : Value} {parts : List (Nat × Operand)} (i : Nat) (hi : ops[i]? = some ⟨some d, .buildSlice t len parts.toArray, T, pp, ed, none⟩) (hr : Region.ready .any ops listed = [i]) (hs : ∀ w, St B L w → S w)
    (hT : slT P t el k bytes z) (hk : 0 < len * k) (hsz : Nat.ble (len * k) 16777216 = true) (hf : fillB (plA len k) (parts.map fun p => (p.1, ev c.n e p.2)) (len * k) = true)
    (h : ∀ b, WH P ops c Q S fuel (listed.setIfInBounds i true) (upd e d (.slice (some ⟨b, 0, none⟩) len len)) B ((b, cel (fillL (plA len k) (parts.map fun p => (p.1, ev c.n e p.2)) (zsL z (len * k))) el) :: L)) : WH P ops c Q S (fuel + 1) listed e B L := by
  obtain ⟨ti, ht, hti, hsize, hby, hz, hzs⟩ := slT_spec hT
  subst hsize
  have hlen : (zsL z (len * ti.size)).length = len * ti.size := by simp [zsL]
  have hf' := hf
  rw [← hlen] at hf'
  have hfe := fill_eq (plA len ti.size) (parts.map fun p => (p.1, ev c.n e p.2)) _ hf'
  rw [← fill_arr len ti.size _ _ hf'] at hfe
  refine h_val i hi hr rfl rfl hs (fun w hw => ⟨_, _, B, _, ?_, hw.new, h w.heap.size⟩)
  have e1 : ((Array.range (len * ti.size)).map (fun j => z.cells[j % z.cells.size]!)) = (zsL z (len * ti.size)).toArray := by simp [zsL, Array.toList_range, ← List.toArray_range]
  have h0 : ¬ len * ti.size = 0 := by omega
  have h1 : ¬ 16777216 < len * ti.size := by have := Nat.le_of_ble_eq_true hsz; omega
  unfold Run
  simp only [execOp, Instr.buildSlice, Sem.run_bind, run_underlying ht, Result.andThen_ok, sizeOf, typeInfo, run_program, hti, Sem.run_pure, zeroValue, hz, h0, if_false, List.map_toArray]
  rw [if_neg (by simpa using h1)]
  simp only [Sem.run_bind, run_program, Result.andThen_ok, hti, Sem.run_pure, hz, e1, hfe, newRow, run_newObj]
  rfl
theorem PenAt.fin {te T : TypeId} {p : Nat} {xs ys : List (List UInt8)} {B : Base} {A Lr W : Heap} {v : Value} {w : World} (hO : OwnS te v xs W) (h : xs = ys) (hs : St B (A ++ ((p, cel [v] T) :: (W ++ Lr))) w) : PenAt te T p ys B Lr w := by
  subst h
  exact ⟨v, W, hO, hs.drop (List.sublist_append_right _ _)⟩
end Go.Sx
end
