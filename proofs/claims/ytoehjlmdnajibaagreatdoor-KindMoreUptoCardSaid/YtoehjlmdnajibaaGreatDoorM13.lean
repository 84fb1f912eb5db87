/- Layer 15, KindMore: an expression's kind does not hang on a variable whose name does not stand in it, nor on the places, but for that of a fault; in the Upto form. Part 13 of 16. -/
import Derived.Test.YtoehjlmdnajibaaGreatDoorM12
set_option maxRecDepth 100000
set_option maxHeartbeats 16000000
section
namespace Go.Proofs.YtoehjlmdnajibaaGreatDoor
open Go.RowKit Go.Sx
open Go.Tok Go.Tree

theorem decl_spec (x : Dc) (cs : List Value) (N : Nat → Prop) (w : World) (hx : dcW x < 10000000) (hm : dcM w N x cs) (hW : Wd w) :
  Ret Tryz.prog 79 #[.agg cs.toArray] w (fun v w' => v = .bool (dcOk x) ∧ Ext w w') := by
 obtain ⟨ty, at_, nm, sz, lo, up, ini⟩ := x
 have hm2 := hm
 unfold dcM at hm2
 obtain ⟨sa, sc, la, lc, ua, uc, ia, ic, hcs, hsz, hlo, hup, hini⟩ := hm2
 simp only [] at hcs
 subst hcs
 have hx2 := hx
 simp only [dcW] at hx2
 simp only [] at hsz hlo hup hini
 refine enter (S := No) (l := [_]) (L := []) 63 Tryz.func79 rfl rfl rfl (St.start w No) (yA (w_boxA rfl (fun t1b gt1b ut1b => aB rfl (yC (zf fa49_0 rfl (zL 0 z5 rfl rfl rfl (zg (fun _ => R_ge rfl rfl) (aB rfl (yB (zq (yA (zf fa49_0 rfl (zL 0 z5 rfl rfl rfl (zg (fun _ => R_lt rfl rfl) (mB rfl ?_))))))))))))))); refine zd (t := 12) rfl (fun h2 => ?_) (fun h2 => ?_)
 ·(try (have qh2 := h2; norm_cast at qh2))
  refine zs rfl rfl (bT h2) (zs rfl rfl (bT h2) (zs rfl rfl (bT h2) (zg (v := .bool _) (fun _ => zT (bT h2) rfl) (mB rfl ?_)))); (iterate 4 refine zs rfl rfl rfl ?_); refine zg (v := .bool _) (fun _ => zT rfl rfl) (mB rfl ?_); (iterate 6 refine zs rfl rfl rfl ?_); refine zg (v := .bool _) (fun _ => zT rfl rfl) (mB rfl (zs rfl rfl rfl (zs rfl rfl rfl ?_)))
  (iterate 2 refine zs rfl rfl rfl ?_); refine zU rfl rfl rfl (zU rfl rfl rfl (zU rfl rfl rfl (zU rfl rfl rfl (zs rfl rfl rfl (zg (v := .bool _) (fun _ => zT rfl rfl) (yB (zE rfl (yA (aB rfl (yB (ze (zt (?_)))))))))))))
  refine zo (v := .bool _) rfl rfl rfl ?_; exact fun w' hw => ⟨by (try clear hw hm hW hsz hlo hup hini gt1b ut1b); simp only [dcOk, partOk]; grind, hw.fr _ zm0⟩
 ·(try (have qh2 := h2; norm_cast at qh2))
  refine zw rfl rfl (bF h2) (zf fa49_0 rfl (zw rfl rfl (bF h2) (zL 0 z5 rfl rfl rfl (zw rfl rfl (bF h2) (zg (fun _ => R_gt rfl rfl) (zg (v := .bool _) (fun _ => zF (bF h2) rfl) (mB rfl ?_))))))); refine zd (t := 17) rfl (fun h3 => ?_) (fun h3 => ?_)
  ·(try (have qh3 := h3; norm_cast at qh3))
   refine zs rfl rfl (bT h3) (zs rfl rfl (bT h3) (zs rfl rfl (bT h3) (zs rfl rfl (bT h3) (zg (v := .bool _) (fun _ => zT (bT h3) rfl) (mB rfl ?_))))); (iterate 6 refine zs rfl rfl rfl ?_); refine zg (v := .bool _) (fun _ => zT rfl rfl) (mB rfl ?_); (iterate 4 refine zs rfl rfl rfl ?_); refine zU rfl rfl rfl (zU rfl rfl rfl (zU rfl rfl rfl ?_))
   refine zU rfl rfl rfl (zs rfl rfl rfl (zg (v := .bool _) (fun _ => zT rfl rfl) (yB (zE rfl (yA (aB rfl (yB (ze (zt ((zo (v := .bool _) rfl rfl rfl ?_))))))))))); exact fun w' hw => ⟨by (try clear hw hm hW hsz hlo hup hini gt1b ut1b); simp only [dcOk, partOk]; grind, hw.fr _ zm0⟩
  ·(try (have qh3 := h3; norm_cast at qh3))
   refine zw rfl rfl (bF h3) (zf fa49_2 rfl (zw rfl rfl (bF h3) (zL 0 z9 rfl rfl rfl (zw rfl rfl (bF h3) (zC (fun w => zR Tryz.func94 rfl rfl rfl) rfl rfl (fun w h => Name_spec _ (by omega) w (hW.now zm0 h)) (zw rfl rfl (bF h3) (zg (fun _ => R_not rfl) (zg (v := .bool _) (fun _ => zF (bF h3) rfl) (mB rfl ?_))))))))); refine zp (t := 23) rfl (fun h4 => ?_) (fun h4 => ?_)
   ·(try (have qh4 := h4; norm_cast at qh4))
    refine zs rfl rfl (bV h4) (zs rfl rfl (bV h4) (zs rfl rfl (bV h4) (zs rfl rfl (bV h4) (zs rfl rfl (bV h4) (zs rfl rfl (bV h4) (zg (v := .bool _) (fun _ => zT (bV h4) rfl) (mB rfl ?_))))))); (iterate 4 refine zs rfl rfl rfl ?_); refine zU rfl rfl rfl (zU rfl rfl rfl (zU rfl rfl rfl (zU rfl rfl rfl (zs rfl rfl rfl (zg (v := .bool _) (fun _ => zT rfl rfl) (yB (zE rfl (yA (aB rfl (yB (ze (zt (?_)))))))))))))
    refine zo (v := .bool _) rfl rfl rfl ?_; exact fun w' hw => ⟨by (try clear hw hm hW hsz hlo hup hini gt1b ut1b); simp only [dcOk, partOk]; grind, hw.fr _ zm0⟩
   ·(try (have qh4 := h4; norm_cast at qh4))
    refine zw rfl rfl (bV h4) (zf fa49_3 rfl (zw rfl rfl (bV h4) (zL 0 z47 rfl rfl rfl (zw rfl rfl (bV h4) (zg (fun _ => R_len sl47 rfl) (zw rfl rfl (bV h4) (zg (fun _ => R_eq rfl rfl) (zw rfl rfl (bV h4) (mB rfl (zw rfl rfl (bV h4) (zg (fun _ => R_bne unb4 rfl rfl) (zg (v := .bool _) (fun _ => zF (bV h4) rfl) (mB rfl ?_))))))))))))); refine zp (t := 31) rfl (fun h5 => ?_) (fun h5 => ?_)
    ·(try (have qh5 := h5; norm_cast at qh5))
     refine zs rfl rfl (bV h5) (zs rfl rfl (bV h5) (zs rfl rfl (bV h5) (zs rfl rfl (bV h5) (zU rfl rfl rfl (zU rfl rfl rfl (zU rfl rfl rfl (zU rfl rfl rfl (zs rfl rfl (bV h5) (zg (v := .bool _) (fun _ => zT (bV h5) rfl) (yB (zE rfl (yA (aB rfl (yB (ze (zt ((zo (v := .bool _) rfl rfl rfl ?_)))))))))))))))))); exact fun w' hw => ⟨by (try clear hw hm hW hsz hlo hup hini gt1b ut1b); simp only [dcOk, partOk]; grind, hw.fr _ zm0⟩
    ·(try (have qh5 := h5; norm_cast at qh5))
     refine zw rfl rfl (bV h5) (zf fa49_0 rfl (zw rfl rfl (bV h5) (zL 0 z5 rfl rfl rfl (zw rfl rfl (bV h5) (zg (fun _ => R_gt rfl rfl) (zw rfl rfl (bV h5) (mB rfl ?_))))))); refine zd (t := 35) rfl (fun h6 => ?_) (fun h6 => ?_)
     ·(try (have qh6 := h6; norm_cast at qh6))
      refine zw rfl rfl (bT h6) (zf fa49_6 rfl (zw rfl rfl (bT h6) (zL 0 z47 rfl rfl rfl (zw rfl rfl (bT h6) (zg (fun _ => R_len sl47 rfl) (zw rfl rfl (bT h6) (zg (fun _ => R_gt rfl rfl) (zw rfl rfl (bV h5) (zg (v := .bool _) (fun _ => zT (bT h6) rfl) (zg (v := .bool _) (fun _ => zF (bV h5) rfl) (yB ?_))))))))))); refine zD rfl (fun h7 => ?_) (fun h7 => ?_)
      ·(try (have qh7 := h7; norm_cast at qh7))
       refine yA (aB rfl (yB (ze (zt ((zo (v := .bool _) rfl rfl rfl ?_)))))); exact fun w' hw => ⟨by (try clear hw hm hW hsz hlo hup hini gt1b ut1b); simp only [dcOk, partOk]; grind, hw.fr _ zm0⟩
      ·(try (have qh7 := h7; norm_cast at qh7))
       refine zi (zk (zq (yA (zf fa49_3 rfl (zL 0 z47 rfl rfl rfl (zf fa49_4 rfl (zL 0 z47 rfl rfl rfl (zf fa49_5 rfl (zL 0 z47 rfl rfl rfl (zf fa49_6 rfl (zL 0 z47 rfl rfl rfl (zg (fun _ => R_buildA ar149 zr149 rfl) (mI rfl (yB (zB (c_rounds 5 (yA (zg (fun _ => R_lt rfl rfl) (yB (zq (zE (congrArg Value.bool (decide_eq_true (by decide))) (zi (zk (zq (zB (yA (zg (fun _ => R_aidx (i := 0) ar149 rfl rfl rfl rfl) (za (v := .slice _ _ _) rfl (yC (mS rfl (zg (fun _ => R_len sl47 rfl) (zg (fun _ => R_gt rfl rfl) (mB rfl ?_))))))))))))))))))))))))))))))))); refine zd (t := 57) rfl (fun h8 => ?_) (fun h8 => ?_)
       ·(try (have qh8 := h8; norm_cast at qh8))
        refine zs rfl rfl (bT h8) (zs rfl rfl (bT h8) (zs rfl rfl (bT h8) (zg (v := .bool _) (fun _ => zT (bT h8) rfl) (yB (zE rfl (yA (aB rfl (yB (ze (zb (zt (zt (zb (zt ((zo (v := .bool _) rfl rfl rfl ?_)))))))))))))))); exact fun w' hw => ⟨by (try clear hw hm hW hsz hlo hup hini gt1b ut1b); simp only [dcOk, partOk]; grind, hw.fr _ zm0⟩
       ·(try (have qh8 := h8; norm_cast at qh8))
        refine zw rfl rfl (bF h8) (mS rfl (zw rfl rfl (bF h8) (zC (fun w => zR Tryz.func98 rfl rfl rfl) rfl rfl (fun w h => exprs_ok sz sa sc N w (by omega) (by omega) (hsz.now (fun _ _ hh => hh) zm0 h) (hW.now zm0 h)) (zw rfl rfl (bF h8) (zg (fun _ => R_not rfl) (zg (v := .bool _) (fun _ => zF (bF h8) rfl) (yB ?_))))))); refine c_condN rfl (fun h9 => ?_) (fun h9 => ?_)
        ·(try (have qh9 := h9; norm_cast at qh9))
         refine yA (aB rfl (yB (ze (zb (zt (zt (zb (zt ((zo (v := .bool _) rfl rfl rfl ?_)))))))))); exact fun w' hw => ⟨by (try clear hw hm hW hsz hlo hup hini gt1b ut1b); simp only [dcOk, partOk]; grind, hw.fr _ zm0⟩
        ·(try (have qh9 := h9; norm_cast at qh9))
         refine zi (zO (zk (zr (zg (fun _ => R_addi rfl rfl (by omega)) (mI rfl (zn (k_rounds (yA (zg (fun _ => R_lt rfl rfl) (yB (zq (zE (congrArg Value.bool (decide_eq_true (by decide))) (zi (zk (zq (zB (yA (zg (fun _ => R_aidx (i := 1) ar149 rfl rfl rfl rfl) (za (v := .slice _ _ _) rfl (yC (mS rfl (zg (fun _ => R_len sl47 rfl) (zg (fun _ => R_gt rfl rfl) (mB rfl ?_))))))))))))))))))))))))
         refine zd (t := 57) rfl (fun h10 => ?_) (fun h10 => ?_)
         ·(try (have qh10 := h10; norm_cast at qh10))
          refine zs rfl rfl (bT h10) (zs rfl rfl (bT h10) (zs rfl rfl (bT h10) (zg (v := .bool _) (fun _ => zT (bT h10) rfl) (yB (zE rfl (yA (aB rfl (yB (ze (zb (zt (zt (zb (zt ((zo (v := .bool _) rfl rfl rfl ?_)))))))))))))))); exact fun w' hw => ⟨by (try clear hw hm hW hsz hlo hup hini gt1b ut1b); simp only [dcOk, partOk]; grind, hw.fr _ zm0⟩
         ·(try (have qh10 := h10; norm_cast at qh10))
          refine zw rfl rfl (bF h10) (mS rfl (zw rfl rfl (bF h10) (zC (fun w => zR Tryz.func98 rfl rfl rfl) rfl rfl (fun w h => exprs_ok lo la lc N w (by omega) (by omega) (hlo.now (fun _ _ hh => hh) zm0 h) (hW.now zm0 h)) (zw rfl rfl (bF h10) (zg (fun _ => R_not rfl) (zg (v := .bool _) (fun _ => zF (bF h10) rfl) (yB ?_))))))); refine c_condN rfl (fun h11 => ?_) (fun h11 => ?_)
          ·(try (have qh11 := h11; norm_cast at qh11))
           refine yA (aB rfl (yB (ze (zb (zt (zt (zb (zt ((zo (v := .bool _) rfl rfl rfl ?_)))))))))); exact fun w' hw => ⟨by (try clear hw hm hW hsz hlo hup hini gt1b ut1b); simp only [dcOk, partOk]; grind, hw.fr _ zm0⟩
          ·(try (have qh11 := h11; norm_cast at qh11))
           refine zi (zO (zk (zr (zg (fun _ => R_addi rfl rfl (by omega)) (mI rfl (zn (k_rounds (yA (zg (fun _ => R_lt rfl rfl) (yB (zq (zE (congrArg Value.bool (decide_eq_true (by decide))) (zi (zk (zq (zB (yA (zg (fun _ => R_aidx (i := 2) ar149 rfl rfl rfl rfl) (za (v := .slice _ _ _) rfl (yC (mS rfl (zg (fun _ => R_len sl47 rfl) (zg (fun _ => R_gt rfl rfl) (mB rfl ?_))))))))))))))))))))))))
           refine zd (t := 57) rfl (fun h12 => ?_) (fun h12 => ?_)
           ·(try (have qh12 := h12; norm_cast at qh12))
            refine zs rfl rfl (bT h12) (zs rfl rfl (bT h12) (zs rfl rfl (bT h12) (zg (v := .bool _) (fun _ => zT (bT h12) rfl) (yB (zE rfl (yA (aB rfl (yB (ze (zb (zt (zt (zb (zt ((zo (v := .bool _) rfl rfl rfl ?_)))))))))))))))); exact fun w' hw => ⟨by (try clear hw hm hW hsz hlo hup hini gt1b ut1b); simp only [dcOk, partOk]; grind, hw.fr _ zm0⟩
           ·(try (have qh12 := h12; norm_cast at qh12))
            refine zw rfl rfl (bF h12) (mS rfl (zw rfl rfl (bF h12) (zC (fun w => zR Tryz.func98 rfl rfl rfl) rfl rfl (fun w h => exprs_ok up ua uc N w (by omega) (by omega) (hup.now (fun _ _ hh => hh) zm0 h) (hW.now zm0 h)) (zw rfl rfl (bF h12) (zg (fun _ => R_not rfl) (zg (v := .bool _) (fun _ => zF (bF h12) rfl) (yB ?_))))))); refine c_condN rfl (fun h13 => ?_) (fun h13 => ?_)
            ·(try (have qh13 := h13; norm_cast at qh13))
             refine yA (aB rfl (yB (ze (zb (zt (zt (zb (zt ((zo (v := .bool _) rfl rfl rfl ?_)))))))))); exact fun w' hw => ⟨by (try clear hw hm hW hsz hlo hup hini gt1b ut1b); simp only [dcOk, partOk]; grind, hw.fr _ zm0⟩
            ·(try (have qh13 := h13; norm_cast at qh13))
             refine zi (zO (zk (zr (zg (fun _ => R_addi rfl rfl (by omega)) (mI rfl (zn (k_rounds (yA (zg (fun _ => R_lt rfl rfl) (yB (zq (zE (congrArg Value.bool (decide_eq_true (by decide))) (zi (zk (zq (zB (yA (zg (fun _ => R_aidx (i := 3) ar149 rfl rfl rfl rfl) (za (v := .slice _ _ _) rfl (yC (mS rfl (zg (fun _ => R_len sl47 rfl) (zg (fun _ => R_gt rfl rfl) (mB rfl ?_))))))))))))))))))))))))
             refine zd (t := 57) rfl (fun h14 => ?_) (fun h14 => ?_)
             ·(try (have qh14 := h14; norm_cast at qh14))
              refine zs rfl rfl (bT h14) (zs rfl rfl (bT h14) (zs rfl rfl (bT h14) (zg (v := .bool _) (fun _ => zT (bT h14) rfl) (yB (zE rfl (yA (aB rfl (yB (ze (zb (zt (zt (zb (zt ((zo (v := .bool _) rfl rfl rfl ?_)))))))))))))))); exact fun w' hw => ⟨by (try clear hw hm hW hsz hlo hup hini gt1b ut1b); simp only [dcOk, partOk]; grind, hw.fr _ zm0⟩
             ·(try (have qh14 := h14; norm_cast at qh14))
              refine zw rfl rfl (bF h14) (mS rfl (zw rfl rfl (bF h14) (zC (fun w => zR Tryz.func98 rfl rfl rfl) rfl rfl (fun w h => exprs_ok ini ia ic N w (by omega) (by omega) (hini.now (fun _ _ hh => hh) zm0 h) (hW.now zm0 h)) (zw rfl rfl (bF h14) (zg (fun _ => R_not rfl) (zg (v := .bool _) (fun _ => zF (bF h14) rfl) (yB ?_))))))); refine c_condN rfl (fun h15 => ?_) (fun h15 => ?_)
              ·(try (have qh15 := h15; norm_cast at qh15))
               refine yA (aB rfl (yB (ze (zb (zt (zt (zb (zt ((zo (v := .bool _) rfl rfl rfl ?_)))))))))); exact fun w' hw => ⟨by (try clear hw hm hW hsz hlo hup hini gt1b ut1b); simp only [dcOk, partOk]; grind, hw.fr _ zm0⟩
              ·(try (have qh15 := h15; norm_cast at qh15))
               refine zi (zO (zk (zr (zg (fun _ => R_addi rfl rfl (by omega)) (mI rfl (zn (k_rounds (yA (zg (fun _ => R_lt rfl rfl) (yB (zq (zG (congrArg Value.bool (decide_eq_false (by decide))) (zX (zx (zx (b_here rfl (zk (yA (aB rfl (yB (ze (zo (v := .bool _) rfl rfl rfl ?_)))))))))))))))))))))); exact fun w' hw => ⟨by (try clear hw hm hW hsz hlo hup hini gt1b ut1b); simp only [dcOk, partOk]; grind, hw.fr _ zm0⟩
     ·(try (have qh6 := h6; norm_cast at qh6))
      refine zs rfl rfl (bF h6) (zs rfl rfl (bF h6) (zs rfl rfl (bF h6) (zs rfl rfl (bF h6) (zw rfl rfl (bV h5) (zg (v := .bool _) (fun _ => zF (bF h6) rfl) (zg (v := .bool _) (fun _ => zF (bV h5) rfl) (yB (zG rfl (zi (zk (zq (yA (zf fa49_3 rfl (zL 0 z47 rfl rfl rfl (zf fa49_4 rfl (zL 0 z47 rfl rfl rfl (zf fa49_5 rfl (zL 0 z47 rfl rfl rfl (zf fa49_6 rfl (zL 0 z47 rfl rfl rfl (zg (fun _ => R_buildA ar149 zr149 rfl) (mI rfl (yB (zB (c_rounds 5 (yA (zg (fun _ => R_lt rfl rfl) (yB (zq (zE (congrArg Value.bool (decide_eq_true (by decide))) (zi (zk (zq (zB (yA (zg (fun _ => R_aidx (i := 0) ar149 rfl rfl rfl rfl) (za (v := .slice _ _ _) rfl (yC (mS rfl (zg (fun _ => R_len sl47 rfl) (zg (fun _ => R_gt rfl rfl) (mB rfl ?_)))))))))))))))))))))))))))))))))))))))))); refine zd (t := 57) rfl (fun h16 => ?_) (fun h16 => ?_)
      ·(try (have qh16 := h16; norm_cast at qh16))
       refine zs rfl rfl (bT h16) (zs rfl rfl (bT h16) (zs rfl rfl (bT h16) (zg (v := .bool _) (fun _ => zT (bT h16) rfl) (yB (zE rfl (yA (aB rfl (yB (ze (zb (zt (zt (zb (zt ((zo (v := .bool _) rfl rfl rfl ?_)))))))))))))))); exact fun w' hw => ⟨by (try clear hw hm hW hsz hlo hup hini gt1b ut1b); simp only [dcOk, partOk]; grind, hw.fr _ zm0⟩
      ·(try (have qh16 := h16; norm_cast at qh16))
       refine zw rfl rfl (bF h16) (mS rfl (zw rfl rfl (bF h16) (zC (fun w => zR Tryz.func98 rfl rfl rfl) rfl rfl (fun w h => exprs_ok sz sa sc N w (by omega) (by omega) (hsz.now (fun _ _ hh => hh) zm0 h) (hW.now zm0 h)) (zw rfl rfl (bF h16) (zg (fun _ => R_not rfl) (zg (v := .bool _) (fun _ => zF (bF h16) rfl) (yB ?_))))))); refine c_condN rfl (fun h17 => ?_) (fun h17 => ?_)
       ·(try (have qh17 := h17; norm_cast at qh17))
        refine yA (aB rfl (yB (ze (zb (zt (zt (zb (zt ((zo (v := .bool _) rfl rfl rfl ?_)))))))))); exact fun w' hw => ⟨by (try clear hw hm hW hsz hlo hup hini gt1b ut1b); simp only [dcOk, partOk]; grind, hw.fr _ zm0⟩
       ·(try (have qh17 := h17; norm_cast at qh17))
        refine zi (zO (zk (zr (zg (fun _ => R_addi rfl rfl (by omega)) (mI rfl (zn (k_rounds (yA (zg (fun _ => R_lt rfl rfl) (yB (zq (zE (congrArg Value.bool (decide_eq_true (by decide))) (zi (zk (zq (zB (yA (zg (fun _ => R_aidx (i := 1) ar149 rfl rfl rfl rfl) (za (v := .slice _ _ _) rfl (yC (mS rfl (zg (fun _ => R_len sl47 rfl) (zg (fun _ => R_gt rfl rfl) (mB rfl ?_))))))))))))))))))))))))
        refine zd (t := 57) rfl (fun h18 => ?_) (fun h18 => ?_)
        ·(try (have qh18 := h18; norm_cast at qh18))
         refine zs rfl rfl (bT h18) (zs rfl rfl (bT h18) (zs rfl rfl (bT h18) (zg (v := .bool _) (fun _ => zT (bT h18) rfl) (yB (zE rfl (yA (aB rfl (yB (ze (zb (zt (zt (zb (zt ((zo (v := .bool _) rfl rfl rfl ?_)))))))))))))))); exact fun w' hw => ⟨by (try clear hw hm hW hsz hlo hup hini gt1b ut1b); simp only [dcOk, partOk]; grind, hw.fr _ zm0⟩
        ·(try (have qh18 := h18; norm_cast at qh18))
         refine zw rfl rfl (bF h18) (mS rfl (zw rfl rfl (bF h18) (zC (fun w => zR Tryz.func98 rfl rfl rfl) rfl rfl (fun w h => exprs_ok lo la lc N w (by omega) (by omega) (hlo.now (fun _ _ hh => hh) zm0 h) (hW.now zm0 h)) (zw rfl rfl (bF h18) (zg (fun _ => R_not rfl) (zg (v := .bool _) (fun _ => zF (bF h18) rfl) (yB ?_))))))); refine c_condN rfl (fun h19 => ?_) (fun h19 => ?_)
         ·(try (have qh19 := h19; norm_cast at qh19))
          refine yA (aB rfl (yB (ze (zb (zt (zt (zb (zt ((zo (v := .bool _) rfl rfl rfl ?_)))))))))); exact fun w' hw => ⟨by (try clear hw hm hW hsz hlo hup hini gt1b ut1b); simp only [dcOk, partOk]; grind, hw.fr _ zm0⟩
         ·(try (have qh19 := h19; norm_cast at qh19))
          refine zi (zO (zk (zr (zg (fun _ => R_addi rfl rfl (by omega)) (mI rfl (zn (k_rounds (yA (zg (fun _ => R_lt rfl rfl) (yB (zq (zE (congrArg Value.bool (decide_eq_true (by decide))) (zi (zk (zq (zB (yA (zg (fun _ => R_aidx (i := 2) ar149 rfl rfl rfl rfl) (za (v := .slice _ _ _) rfl (yC (mS rfl (zg (fun _ => R_len sl47 rfl) (zg (fun _ => R_gt rfl rfl) (mB rfl ?_))))))))))))))))))))))))
          refine zd (t := 57) rfl (fun h20 => ?_) (fun h20 => ?_)
          ·(try (have qh20 := h20; norm_cast at qh20))
           refine zs rfl rfl (bT h20) (zs rfl rfl (bT h20) (zs rfl rfl (bT h20) (zg (v := .bool _) (fun _ => zT (bT h20) rfl) (yB (zE rfl (yA (aB rfl (yB (ze (zb (zt (zt (zb (zt ((zo (v := .bool _) rfl rfl rfl ?_)))))))))))))))); exact fun w' hw => ⟨by (try clear hw hm hW hsz hlo hup hini gt1b ut1b); simp only [dcOk, partOk]; grind, hw.fr _ zm0⟩
          ·(try (have qh20 := h20; norm_cast at qh20))
           refine zw rfl rfl (bF h20) (mS rfl (zw rfl rfl (bF h20) (zC (fun w => zR Tryz.func98 rfl rfl rfl) rfl rfl (fun w h => exprs_ok up ua uc N w (by omega) (by omega) (hup.now (fun _ _ hh => hh) zm0 h) (hW.now zm0 h)) (zw rfl rfl (bF h20) (zg (fun _ => R_not rfl) (zg (v := .bool _) (fun _ => zF (bF h20) rfl) (yB ?_))))))); refine c_condN rfl (fun h21 => ?_) (fun h21 => ?_)
           ·(try (have qh21 := h21; norm_cast at qh21))
            refine yA (aB rfl (yB (ze (zb (zt (zt (zb (zt ((zo (v := .bool _) rfl rfl rfl ?_)))))))))); exact fun w' hw => ⟨by (try clear hw hm hW hsz hlo hup hini gt1b ut1b); simp only [dcOk, partOk]; grind, hw.fr _ zm0⟩
           ·(try (have qh21 := h21; norm_cast at qh21))
            refine zi (zO (zk (zr (zg (fun _ => R_addi rfl rfl (by omega)) (mI rfl (zn (k_rounds (yA (zg (fun _ => R_lt rfl rfl) (yB (zq (zE (congrArg Value.bool (decide_eq_true (by decide))) (zi (zk (zq (zB (yA (zg (fun _ => R_aidx (i := 3) ar149 rfl rfl rfl rfl) (za (v := .slice _ _ _) rfl (yC (mS rfl (zg (fun _ => R_len sl47 rfl) (zg (fun _ => R_gt rfl rfl) (mB rfl ?_))))))))))))))))))))))))
            refine zd (t := 57) rfl (fun h22 => ?_) (fun h22 => ?_)
            ·(try (have qh22 := h22; norm_cast at qh22))
             refine zs rfl rfl (bT h22) (zs rfl rfl (bT h22) (zs rfl rfl (bT h22) (zg (v := .bool _) (fun _ => zT (bT h22) rfl) (yB (zE rfl (yA (aB rfl (yB (ze (zb (zt (zt (zb (zt ((zo (v := .bool _) rfl rfl rfl ?_)))))))))))))))); exact fun w' hw => ⟨by (try clear hw hm hW hsz hlo hup hini gt1b ut1b); simp only [dcOk, partOk]; grind, hw.fr _ zm0⟩
            ·(try (have qh22 := h22; norm_cast at qh22))
             refine zw rfl rfl (bF h22) (mS rfl (zw rfl rfl (bF h22) (zC (fun w => zR Tryz.func98 rfl rfl rfl) rfl rfl (fun w h => exprs_ok ini ia ic N w (by omega) (by omega) (hini.now (fun _ _ hh => hh) zm0 h) (hW.now zm0 h)) (zw rfl rfl (bF h22) (zg (fun _ => R_not rfl) (zg (v := .bool _) (fun _ => zF (bF h22) rfl) (yB ?_))))))); refine c_condN rfl (fun h23 => ?_) (fun h23 => ?_)
             ·(try (have qh23 := h23; norm_cast at qh23))
              refine yA (aB rfl (yB (ze (zb (zt (zt (zb (zt ((zo (v := .bool _) rfl rfl rfl ?_)))))))))); exact fun w' hw => ⟨by (try clear hw hm hW hsz hlo hup hini gt1b ut1b); simp only [dcOk, partOk]; grind, hw.fr _ zm0⟩
             ·(try (have qh23 := h23; norm_cast at qh23))
              refine zi (zO (zk (zr (zg (fun _ => R_addi rfl rfl (by omega)) (mI rfl (zn (k_rounds (yA (zg (fun _ => R_lt rfl rfl) (yB (zq (zG (congrArg Value.bool (decide_eq_false (by decide))) (zX (zx (zx (b_here rfl (zk (yA (aB rfl (yB (ze (zo (v := .bool _) rfl rfl rfl ?_)))))))))))))))))))))); exact fun w' hw => ⟨by (try clear hw hm hW hsz hlo hup hini gt1b ut1b); simp only [dcOk, partOk]; grind, hw.fr _ zm0⟩

theorem Check_spec (p : List Bk) (cs : List Value) (N : Nat → Prop) (w : World) (hp : ∀ b ∈ p, bkW b < 10000000) (hm : pgM w N p cs) (hW : Wd w) :
  Ret Tryz.prog 54 #[.agg cs.toArray] w (fun v w' => v = .int .i64 (if pgOk p then 0 else 120) ∧ Ext w w') := by
 refine enter (S := No) (l := [_]) (L := []) 80 Tryz.func54 rfl rfl rfl (St.start w No) (yA (w_boxA rfl (fun t1b gt1b ut1b => aI rfl (yB (zq (yA (zf fa32_0 rfl (w_loadW z30 rfl (fun _ h => h.at_ 0 rfl) hm.len (mI rfl (yB (zB (c_loop (fun m e B L => ∃ (i : Nat), e 9 = .agg cs.toArray ∧ e 10 = .int .i64 (i : Nat) ∧ B = [(w, No)] ∧ L = [(t1b, cel cs 32)] ∧ i ≤ 6 ∧ (∀ j b, j < i → p[j]? = some b → bkOk j b = true) ∧ m = 6 - i) _ ⟨0, rfl, rfl, rfl, rfl, Nat.zero_le _, (fun _ _ h => absurd h (Nat.not_lt_zero _)), rfl⟩ ?_))))))))))))
 rintro m e B L ⟨i, e9_1, e10_1, rfl, rfl, hi, hj, rfl⟩
 refine yA (zg (fun _ => R_lt e10_1 rfl) (yB (zq ?_))); refine zD rfl (fun h2 => ?_) (fun h2 => ?_)
 ·(try (have qh2 := h2; norm_cast at qh2))
  have hi6 : i < 6 := (by omega); obtain ⟨b, hb⟩ : ∃ b, p[i]? = some b := ⟨_, List.getElem?_eq_getElem (by rw [hm.six]; exact hi6)⟩; have hbw := hp b (List.mem_of_getElem? hb); unfold bkW at hbw; obtain ⟨da, dc, sa, sc, hcb, hds, hss⟩ := hm.one i b hb
  refine zi (zk (zq (zB (yA (mI e10_1 (w_r (v := .agg (List.toArray [.bool b.is, .slice da b.decls.length dc, .slice sa b.stmts.length sc])) (fun _ => R_aidxA (i := i) ara30 e9_1 e10_1 (by omega) hcb) rfl rfl (zA zr29 (fun t4b gt4b ut4b => aI rfl (zV 0 rfl z29 rfl rfl rfl rfl rfl rfl rfl (yC (mI rfl (zg (fun _ => R_eq rfl rfl) (mB rfl ?_))))))))))))); refine zd (t := 16) rfl (fun h4 => ?_) (fun h4 => ?_)
  ·(try (have qh4 := h4; norm_cast at qh4))
   refine zs rfl rfl (bT h4) (zs rfl rfl (bT h4) (zg (v := .bool _) (fun _ => zT (bT h4) rfl) (aB rfl (yB ?_)))); refine c_cut (fun e B L => e 3 = .int .i64 (i : Nat) ∧ e 4 = .pointer (some ⟨t4b, 0, none⟩) ∧ e 5 = .bool (gv i) ∧ e 9 = .agg cs.toArray ∧ e 10 = .int .i64 (i : Nat) ∧ B = [(w, No)] ∧ L = [(t4b, cel [.bool b.is, .slice da b.decls.length dc, .slice sa b.stmts.length sc] 29), (t1b, cel cs 32)] ∧ headB i b = true) ?_ ?_
   ·skip
    refine zB (yA (zf fa29_0 rfl (zL 0 z4 rfl rfl rfl (zg (fun _ => R_not rfl) (mB rfl ?_))))); refine zp (t := 24) rfl (fun h5 => ?_) (fun h5 => ?_)
    ·(try (have qh5 := h5; norm_cast at qh5))
     refine zw rfl rfl (bV h5) (zf fa29_1 rfl (zw rfl rfl (bV h5) (zL 0 z26 rfl rfl rfl (zw rfl rfl (bV h5) (zg (fun _ => R_len sl26 rfl) (zw rfl rfl (bV h5) (zf fa29_2 rfl (zw rfl rfl (bV h5) (zL 0 z27 rfl rfl rfl (zw rfl rfl (bV h5) (zg (fun _ => R_len sl27 rfl) (zw rfl rfl (bV h5) (zg (fun _ => R_addi rfl rfl (by omega)) (zw rfl rfl (bV h5) (zg (fun _ => R_gt rfl rfl) (zg (v := .bool _) (fun _ => zT (bV h5) rfl) (mB rfl ?_))))))))))))))))); refine zd (t := 34) rfl (fun h6 => ?_) (fun h6 => ?_)
     ·(try (have qh6 := h6; norm_cast at qh6))
      refine zs rfl rfl (bT h6) (zs rfl rfl (bT h6) (zU rfl rfl rfl (zU rfl rfl rfl (zU rfl rfl rfl (zU rfl rfl rfl (zs rfl rfl (bT h6) (zg (v := .bool _) (fun _ => zT (bT h6) rfl) (mB rfl ?_)))))))); (iterate 3 refine zs rfl rfl rfl ?_); refine zU rfl rfl rfl (zU rfl rfl rfl (zU rfl rfl rfl (zU rfl rfl rfl (zs rfl rfl rfl (zg (v := .bool _) (fun _ => zT rfl rfl) (mB rfl (zs rfl rfl rfl ?_)))))))
      (iterate 3 refine zs rfl rfl rfl ?_); refine zg (v := .bool _) (fun _ => zT rfl rfl) (aB rfl (yB (zE rfl (yA (aI rfl (yB (ze (zb (zt (zb (zt (zt (zb (zt (?_)))))))))))))))
      refine zo (v := .int _ _) rfl rfl rfl ?_; exact fun w' hw => ⟨by (rw [pgOk_no hi6 hb (by ((try clear hw hm hds hss hcb hp hW hj e10_1 e9_1 gt1b gt4b ut1b ut4b); simp only [bkOk, headB, gv]; grind))]; rfl), hw.fr _ zm0⟩
     ·(try (have qh6 := h6; norm_cast at qh6))
      refine zw rfl rfl (bF h6) (mB rfl (zw rfl rfl (bF h6) (mB rfl (zw rfl rfl rfl (zf fa29_2 rfl (zw rfl rfl rfl (zL 0 z27 rfl rfl rfl (zw rfl rfl rfl (zg (fun _ => R_len sl27 rfl) (zw rfl rfl rfl (zg (fun _ => R_gt rfl rfl) (zw rfl rfl (bF h6) (zg (v := .bool _) (fun _ => zT rfl rfl) (zg (v := .bool _) (fun _ => zF (bF h6) rfl) (mB rfl ?_))))))))))))))); refine zd (t := 43) rfl (fun h7 => ?_) (fun h7 => ?_)
      ·(try (have qh7 := h7; norm_cast at qh7))
       refine zs rfl rfl (bT h7) (zs rfl rfl (bT h7) (zs rfl rfl (bT h7) (zU rfl rfl rfl (zU rfl rfl rfl (zU rfl rfl rfl (zU rfl rfl rfl (zs rfl rfl (bT h7) (zg (v := .bool _) (fun _ => zT (bT h7) rfl) (mB rfl ?_))))))))); (iterate 4 refine zs rfl rfl rfl ?_); refine zg (v := .bool _) (fun _ => zT rfl rfl) (aB rfl (yB (zE rfl (yA (aI rfl (yB (ze (zb (zt (zb (zt (zt (zb (zt (?_)))))))))))))))
       refine zo (v := .int _ _) rfl rfl rfl ?_; exact fun w' hw => ⟨by (rw [pgOk_no hi6 hb (by ((try clear hw hm hds hss hcb hp hW hj e10_1 e9_1 gt1b gt4b ut1b ut4b); simp only [bkOk, headB, gv]; grind))]; rfl), hw.fr _ zm0⟩
      ·(try (have qh7 := h7; norm_cast at qh7))
       refine zw rfl rfl (bF h7) (mI rfl (zw rfl rfl (bF h7) (zg (fun _ => R_eq rfl rfl) (zw rfl rfl (bF h7) (mB rfl ?_))))); refine zd (t := 46) rfl (fun h8 => ?_) (fun h8 => ?_)
       ·(try (have qh8 := h8; norm_cast at qh8))
        refine zw rfl rfl (bT h8) (zf fa29_1 rfl (zw rfl rfl (bT h8) (zL 0 z26 rfl rfl rfl (zw rfl rfl (bT h8) (zg (fun _ => R_len sl26 rfl) (zw rfl rfl (bT h8) (zg (fun _ => R_gt rfl rfl) (zw rfl rfl (bF h7) (zg (v := .bool _) (fun _ => zT (bT h8) rfl) (zg (v := .bool _) (fun _ => zF (bF h7) rfl) (mB rfl ?_))))))))))); refine zd (t := 53) rfl (fun h9 => ?_) (fun h9 => ?_)
        ·(try (have qh9 := h9; norm_cast at qh9))
         refine zs rfl rfl (bT h9) (zs rfl rfl (bT h9) (zs rfl rfl (bT h9) (zs rfl rfl (bT h9) (zg (v := .bool _) (fun _ => zT (bT h9) rfl) (aB rfl (yB (zE rfl (yA (aI rfl (yB (ze (zb (zt (zb (zt (zt (zb (zt ((zo (v := .int _ _) rfl rfl rfl ?_)))))))))))))))))))); exact fun w' hw => ⟨by (rw [pgOk_no hi6 hb (by ((try clear hw hm hds hss hcb hp hW hj e10_1 e9_1 gt1b gt4b ut1b ut4b); simp only [bkOk, headB, gv]; grind))]; rfl), hw.fr _ zm0⟩
        ·(try (have qh9 := h9; norm_cast at qh9))
         refine zw rfl rfl (bF h9) (zf fa29_2 rfl (zw rfl rfl (bF h9) (zL 0 z27 rfl rfl rfl (zw rfl rfl (bF h9) (zC (fun w => zR Tryz.func78 rfl rfl rfl) rfl rfl (fun w h => stmts_ok b.stmts sa sc N w (by omega) (by omega) (hss.now (fun _ _ hh => hh) zm0 h) (hW.now zm0 h)) (zw rfl rfl (bF h9) (zg (fun _ => R_not rfl) (zg (v := .bool _) (fun _ => zF (bF h9) rfl) (aB rfl (yB ?_)))))))))); refine c_condN rfl (fun h10 => ?_) (fun h10 => ?_)
         ·(try (have qh10 := h10; norm_cast at qh10))
          refine yA (aI rfl (yB (ze (zb (zt (zb (zt (zt (zb (zt ((zo (v := .int _ _) rfl rfl rfl ?_)))))))))))); exact fun w' hw => ⟨by (rw [pgOk_no hi6 hb (by ((try clear hw hm hds hss hcb hp hW hj e10_1 e9_1 gt1b gt4b ut1b ut4b); simp only [bkOk, headB, gv]; grind))]; rfl), hw.fr _ zm0⟩
         ·(try (have qh10 := h10; norm_cast at qh10))
          refine zi (zO (?_))
          exact k_mid ⟨rfl, rfl, (congrArg Value.bool (by (try clear hm hds hss hcb hp hW hj e10_1 e9_1 gt1b gt4b ut1b ut4b); simp only [gv]; grind)), e9_1, e10_1, rfl, rfl, by (try clear hm hds hss hcb hp hW hj e10_1 e9_1 gt1b gt4b ut1b ut4b); simp only [headB, gv]; grind⟩
       ·(try (have qh8 := h8; norm_cast at qh8))
        refine zs rfl rfl (bF h8) (zs rfl rfl (bF h8) (zs rfl rfl (bF h8) (zs rfl rfl (bF h8) (zw rfl rfl (bF h7) (zg (v := .bool _) (fun _ => zF (bF h8) rfl) (zg (v := .bool _) (fun _ => zF (bF h7) rfl) (mB rfl (zw rfl rfl rfl (zf fa29_2 rfl (zw rfl rfl rfl (zL 0 z27 rfl rfl rfl (zw rfl rfl rfl (zC (fun w => zR Tryz.func78 rfl rfl rfl) rfl rfl (fun w h => stmts_ok b.stmts sa sc N w (by omega) (by omega) (hss.now (fun _ _ hh => hh) zm0 h) (hW.now zm0 h)) (zw rfl rfl rfl (zg (fun _ => R_not rfl) (zg (v := .bool _) (fun _ => zF rfl rfl) (aB rfl (yB ?_)))))))))))))))))); refine c_condN rfl (fun h11 => ?_) (fun h11 => ?_)
        ·(try (have qh11 := h11; norm_cast at qh11))
         refine yA (aI rfl (yB (ze (zb (zt (zb (zt (zt (zb (zt ((zo (v := .int _ _) rfl rfl rfl ?_)))))))))))); exact fun w' hw => ⟨by (rw [pgOk_no hi6 hb (by ((try clear hw hm hds hss hcb hp hW hj e10_1 e9_1 gt1b gt4b ut1b ut4b); simp only [bkOk, headB, gv]; grind))]; rfl), hw.fr _ zm0⟩
        ·(try (have qh11 := h11; norm_cast at qh11))
         refine zi (zO (?_))
         exact k_mid ⟨rfl, rfl, (congrArg Value.bool (by (try clear hm hds hss hcb hp hW hj e10_1 e9_1 gt1b gt4b ut1b ut4b); simp only [gv]; grind)), e9_1, e10_1, rfl, rfl, by (try clear hm hds hss hcb hp hW hj e10_1 e9_1 gt1b gt4b ut1b ut4b); simp only [headB, gv]; grind⟩
    ·(try (have qh5 := h5; norm_cast at qh5))
     refine zs rfl rfl (bV h5) (zs rfl rfl (bV h5) (zs rfl rfl (bV h5) (zs rfl rfl (bV h5) (zs rfl rfl (bV h5) (zs rfl rfl (bV h5) (zs rfl rfl (bV h5) (zs rfl rfl (bV h5) (zg (v := .bool _) (fun _ => zF (bV h5) rfl) (mB rfl (zw rfl rfl rfl (mB rfl (zw rfl rfl rfl (mB rfl (zw rfl rfl rfl (zf fa29_2 rfl (zw rfl rfl rfl (zL 0 z27 rfl rfl rfl (zw rfl rfl rfl (zg (fun _ => R_len sl27 rfl) (zw rfl rfl rfl (zg (fun _ => R_gt rfl rfl) (zw rfl rfl rfl (zg (v := .bool _) (fun _ => zT rfl rfl) (zg (v := .bool _) (fun _ => zF rfl rfl) (mB rfl ?_))))))))))))))))))))))))); refine zd (t := 43) rfl (fun h12 => ?_) (fun h12 => ?_)
     ·(try (have qh12 := h12; norm_cast at qh12))
      refine zs rfl rfl (bT h12) (zs rfl rfl (bT h12) (zs rfl rfl (bT h12) (zU rfl rfl rfl (zU rfl rfl rfl (zU rfl rfl rfl (zU rfl rfl rfl (zs rfl rfl (bT h12) (zg (v := .bool _) (fun _ => zT (bT h12) rfl) (mB rfl ?_))))))))); (iterate 4 refine zs rfl rfl rfl ?_); refine zg (v := .bool _) (fun _ => zT rfl rfl) (aB rfl (yB (zE rfl (yA (aI rfl (yB (ze (zb (zt (zb (zt (zt (zb (zt (?_)))))))))))))))
      refine zo (v := .int _ _) rfl rfl rfl ?_; exact fun w' hw => ⟨by (rw [pgOk_no hi6 hb (by ((try clear hw hm hds hss hcb hp hW hj e10_1 e9_1 gt1b gt4b ut1b ut4b); simp only [bkOk, headB, gv]; grind))]; rfl), hw.fr _ zm0⟩
     ·(try (have qh12 := h12; norm_cast at qh12))
      refine zw rfl rfl (bF h12) (mI rfl (zw rfl rfl (bF h12) (zg (fun _ => R_eq rfl rfl) (zw rfl rfl (bF h12) (mB rfl ?_))))); refine zd (t := 46) rfl (fun h13 => ?_) (fun h13 => ?_)
      ·(try (have qh13 := h13; norm_cast at qh13))
       refine zw rfl rfl (bT h13) (zf fa29_1 rfl (zw rfl rfl (bT h13) (zL 0 z26 rfl rfl rfl (zw rfl rfl (bT h13) (zg (fun _ => R_len sl26 rfl) (zw rfl rfl (bT h13) (zg (fun _ => R_gt rfl rfl) (zw rfl rfl (bF h12) (zg (v := .bool _) (fun _ => zT (bT h13) rfl) (zg (v := .bool _) (fun _ => zF (bF h12) rfl) (mB rfl ?_))))))))))); refine zd (t := 53) rfl (fun h14 => ?_) (fun h14 => ?_)
       ·(try (have qh14 := h14; norm_cast at qh14))
        refine zs rfl rfl (bT h14) (zs rfl rfl (bT h14) (zs rfl rfl (bT h14) (zs rfl rfl (bT h14) (zg (v := .bool _) (fun _ => zT (bT h14) rfl) (aB rfl (yB (zE rfl (yA (aI rfl (yB (ze (zb (zt (zb (zt (zt (zb (zt ((zo (v := .int _ _) rfl rfl rfl ?_)))))))))))))))))))); exact fun w' hw => ⟨by (rw [pgOk_no hi6 hb (by ((try clear hw hm hds hss hcb hp hW hj e10_1 e9_1 gt1b gt4b ut1b ut4b); simp only [bkOk, headB, gv]; grind))]; rfl), hw.fr _ zm0⟩
       ·(try (have qh14 := h14; norm_cast at qh14))
        refine zw rfl rfl (bF h14) (zf fa29_2 rfl (zw rfl rfl (bF h14) (zL 0 z27 rfl rfl rfl (zw rfl rfl (bF h14) (zC (fun w => zR Tryz.func78 rfl rfl rfl) rfl rfl (fun w h => stmts_ok b.stmts sa sc N w (by omega) (by omega) (hss.now (fun _ _ hh => hh) zm0 h) (hW.now zm0 h)) (zw rfl rfl (bF h14) (zg (fun _ => R_not rfl) (zg (v := .bool _) (fun _ => zF (bF h14) rfl) (aB rfl (yB ?_)))))))))); refine c_condN rfl (fun h15 => ?_) (fun h15 => ?_)
        ·(try (have qh15 := h15; norm_cast at qh15))
         refine yA (aI rfl (yB (ze (zb (zt (zb (zt (zt (zb (zt ((zo (v := .int _ _) rfl rfl rfl ?_)))))))))))); exact fun w' hw => ⟨by (rw [pgOk_no hi6 hb (by ((try clear hw hm hds hss hcb hp hW hj e10_1 e9_1 gt1b gt4b ut1b ut4b); simp only [bkOk, headB, gv]; grind))]; rfl), hw.fr _ zm0⟩
        ·(try (have qh15 := h15; norm_cast at qh15))
         refine zi (zO (?_))
         exact k_mid ⟨rfl, rfl, (congrArg Value.bool (by (try clear hm hds hss hcb hp hW hj e10_1 e9_1 gt1b gt4b ut1b ut4b); simp only [gv]; grind)), e9_1, e10_1, rfl, rfl, by (try clear hm hds hss hcb hp hW hj e10_1 e9_1 gt1b gt4b ut1b ut4b); simp only [headB, gv]; grind⟩
      ·(try (have qh13 := h13; norm_cast at qh13))
       refine zs rfl rfl (bF h13) (zs rfl rfl (bF h13) (zs rfl rfl (bF h13) (zs rfl rfl (bF h13) (zw rfl rfl (bF h12) (zg (v := .bool _) (fun _ => zF (bF h13) rfl) (zg (v := .bool _) (fun _ => zF (bF h12) rfl) (mB rfl (zw rfl rfl rfl (zf fa29_2 rfl (zw rfl rfl rfl (zL 0 z27 rfl rfl rfl (zw rfl rfl rfl (zC (fun w => zR Tryz.func78 rfl rfl rfl) rfl rfl (fun w h => stmts_ok b.stmts sa sc N w (by omega) (by omega) (hss.now (fun _ _ hh => hh) zm0 h) (hW.now zm0 h)) (zw rfl rfl rfl (zg (fun _ => R_not rfl) (zg (v := .bool _) (fun _ => zF rfl rfl) (aB rfl (yB ?_)))))))))))))))))); refine c_condN rfl (fun h16 => ?_) (fun h16 => ?_)
       ·(try (have qh16 := h16; norm_cast at qh16))
        refine yA (aI rfl (yB (ze (zb (zt (zb (zt (zt (zb (zt ((zo (v := .int _ _) rfl rfl rfl ?_)))))))))))); exact fun w' hw => ⟨by (rw [pgOk_no hi6 hb (by ((try clear hw hm hds hss hcb hp hW hj e10_1 e9_1 gt1b gt4b ut1b ut4b); simp only [bkOk, headB, gv]; grind))]; rfl), hw.fr _ zm0⟩
       ·(try (have qh16 := h16; norm_cast at qh16))
        refine zi (zO (?_))
        exact k_mid ⟨rfl, rfl, (congrArg Value.bool (by (try clear hm hds hss hcb hp hW hj e10_1 e9_1 gt1b gt4b ut1b ut4b); simp only [gv]; grind)), e9_1, e10_1, rfl, rfl, by (try clear hm hds hss hcb hp hW hj e10_1 e9_1 gt1b gt4b ut1b ut4b); simp only [headB, gv]; grind⟩
   rintro e B L ⟨e3_2, e4_2, e5_2, e9_2, e10_2, rfl, rfl, hd⟩
   refine yA (zf fa29_1 e4_2 (zL 0 z26 rfl rfl rfl (zg (fun _ => R_len sl26 rfl) (mI rfl (yB (zB (c_loop (fun m e B L => ∃ (k : Nat), e 3 = .int .i64 (i : Nat) ∧ e 5 = .bool (gv i) ∧ e 9 = .agg cs.toArray ∧ e 10 = .int .i64 (i : Nat) ∧ e 60 = .slice da b.decls.length dc ∧ e 61 = .int .i64 (b.decls.length : Nat) ∧ e 62 = .int .i64 (k : Nat) ∧ B = [(w, No)] ∧ L = [(t4b, cel [.bool b.is, .slice da b.decls.length dc, .slice sa b.stmts.length sc] 29), (t1b, cel cs 32)] ∧ k ≤ b.decls.length ∧ (∀ y ∈ b.decls.take k, (!dgood i y) = false) ∧ m = b.decls.length - k) _ ⟨0, e3_2, e5_2, e9_2, e10_2, rfl, rfl, rfl, rfl, rfl, Nat.zero_le _, (by simp), rfl⟩ ?_)))))))
   rintro m e B L ⟨k, e3_3, e5_3, e9_3, e10_3, e60_3, e61_3, e62_3, rfl, rfl, hk, hy, rfl⟩
   refine yA (zg (fun _ => R_lt e62_3 e61_3) (yB (zq ?_))); refine zD rfl (fun h17 => ?_) (fun h17 => ?_)
   ·(try (have qh17 := h17; norm_cast at qh17))
    have hlt : k < b.decls.length := (by omega); obtain ⟨x, hxk⟩ : ∃ x, b.decls[k]? = some x := ⟨_, List.getElem?_eq_getElem hlt⟩; obtain ⟨cs2, hA, hE⟩ := hds k x hxk; have hxn := dcsW_mem (List.mem_of_getElem? hxk); obtain ⟨b1, o1, rfl⟩ := hA.ptr; have hE2 := hE; obtain ⟨ty, at_, nm, sz, lo, up, ini⟩ := x; unfold dcM at hE2; obtain ⟨xa, xc, la, lc, ua, uc, ia, ic, hcs, hsz, hlo, hup, hini⟩ := hE2; simp only [] at hcs; subst hcs
    refine zi (zk (zq (zB (yA (zg (fun _ => R_iaN (i := k) sl26 e60_3 e62_3 (by omega)) (w_loadC (l := [.int .u8 (ty : Nat), .int .i64 at_, str nm, .slice xa sz.length xc, .slice la lo.length lc, .slice ua up.length uc, .slice ia ini.length ic]) z49 rfl rfl (fun w h j v hj => hA.cell (fun _ _ hh => hh) zm0 h j v hj) (zA zr49 (fun t7b gt7b ut7b => zV 0 rfl z49 rfl rfl rfl rfl rfl rfl rfl (yC (zY z49 rfl (fun _ h => h.at_ 0 rfl) rfl (zC (fun w => zR Tryz.func79 rfl rfl rfl) rfl rfl (fun w h => decl_spec _ _ N w (by omega) (hE.now (fun _ _ hh => hh) zm0 h) (hW.now zm0 h)) (zg (fun _ => R_not rfl) (mB rfl ?_))))))))))))); refine zp (t := 69) rfl (fun h19 => ?_) (fun h19 => ?_)
    ·(try (have qh19 := h19; norm_cast at qh19))
     refine zs rfl rfl (bV h19) (zs rfl rfl (bV h19) (zU rfl rfl rfl (zU rfl rfl rfl (zU rfl rfl rfl (zU rfl rfl rfl (zs rfl rfl (bV h19) (zg (v := .bool _) (fun _ => zT (bV h19) rfl) (yB (zE rfl (yA (aI rfl (yB (ze (zb (zt (zt (zb (zb (zt (zt (zb (zt ((zo (v := .int _ _) rfl rfl rfl ?_)))))))))))))))))))))))); exact fun w' hw => ⟨by (rw [pgOk_no hi6 hb (by (unfold bkOk; rw [all_no hxk (by (try clear hw hm hds hss hcb hp hW hj hA hE hsz hlo hup hini e10_1 e10_2 e10_3 e3_2 e3_3 e4_2 e5_2 e5_3 e60_3 e61_3 e62_3 e9_1 e9_2 e9_3 gt1b gt4b gt7b ut1b ut4b ut7b); simp only [dgood]; grind)]; simp; done))]; rfl), hw.fr _ zm0⟩
    ·(try (have qh19 := h19; norm_cast at qh19))
     refine zw rfl rfl (bV h19) (mB e5_3 (zw rfl rfl (bV h19) (mB rfl ?_))); refine zp (t := 71) rfl (fun h20 => ?_) (fun h20 => ?_)
     ·(try (have qh20 := h20; norm_cast at qh20))
      refine zw rfl rfl (bV h20) (zf fa49_6 rfl (zw rfl rfl (bV h20) (zL 0 z47 rfl rfl rfl (zw rfl rfl (bV h20) (zg (fun _ => R_len sl47 rfl) (zw rfl rfl (bV h20) (zg (fun _ => R_gt rfl rfl) (zw rfl rfl (bV h19) (zg (v := .bool _) (fun _ => zT (bV h20) rfl) (zg (v := .bool _) (fun _ => zF (bV h19) rfl) (yB ?_))))))))))); refine zD rfl (fun h21 => ?_) (fun h21 => ?_)
      ·(try (have qh21 := h21; norm_cast at qh21))
       refine yA (aI rfl (yB (ze (zb (zt (zt (zb (zb (zt (zt (zb (zt ((zo (v := .int _ _) rfl rfl rfl ?_)))))))))))))); exact fun w' hw => ⟨by (rw [pgOk_no hi6 hb (by (unfold bkOk; rw [all_no hxk (by (try clear hw hm hds hss hcb hp hW hj hA hE hsz hlo hup hini e10_1 e10_2 e10_3 e3_2 e3_3 e4_2 e5_2 e5_3 e60_3 e61_3 e62_3 e9_1 e9_2 e9_3 gt1b gt4b gt7b ut1b ut4b ut7b); simp only [dgood]; grind)]; simp; done))]; rfl), hw.fr _ zm0⟩
      ·(try (have qh21 := h21; norm_cast at qh21))
       refine zi (zO (zk (zr (zg (fun _ => R_addi e62_3 rfl (by omega)) (mI rfl (zn (zK (B' := [(w, No)]) (L' := _) (fun w h => h.drop (List.sublist_cons_self _ _)) ?_))))))); exact k_again _ (by omega) ⟨k + 1, e3_3, e5_3, e9_3, e10_3, e60_3, e61_3, rfl, rfl, rfl, by omega, take_all hy hxk (by (try clear hm hds hss hcb hp hW hj hA hE hsz hlo hup hini e10_1 e10_2 e10_3 e3_2 e3_3 e4_2 e5_2 e5_3 e60_3 e61_3 e62_3 e9_1 e9_2 e9_3 gt1b gt4b gt7b ut1b ut4b ut7b); simp only [dgood]; grind), rfl⟩
     ·(try (have qh20 := h20; norm_cast at qh20))
      refine zs rfl rfl (bV h20) (zs rfl rfl (bV h20) (zs rfl rfl (bV h20) (zs rfl rfl (bV h20) (zw rfl rfl (bV h19) (zg (v := .bool _) (fun _ => zF (bV h20) rfl) (zg (v := .bool _) (fun _ => zF (bV h19) rfl) (yB (zG rfl (zi (zO (zk (zr (zg (fun _ => R_addi e62_3 rfl (by omega)) (mI rfl (zn (zK (B' := [(w, No)]) (L' := _) (fun w h => h.drop (List.sublist_cons_self _ _)) ?_))))))))))))))))
      exact k_again _ (by omega) ⟨k + 1, e3_3, e5_3, e9_3, e10_3, e60_3, e61_3, rfl, rfl, rfl, by omega, take_all hy hxk (by (try clear hm hds hss hcb hp hW hj hA hE hsz hlo hup hini e10_1 e10_2 e10_3 e3_2 e3_3 e4_2 e5_2 e5_3 e60_3 e61_3 e62_3 e9_1 e9_2 e9_3 gt1b gt4b gt7b ut1b ut4b ut7b); simp only [dgood]; grind), rfl⟩
   ·(try (have qh17 := h17; norm_cast at qh17))
    have hall : b.decls.all (dgood i) = true := all_of_take hy (by omega)
    refine zX (zx (zx (b_here rfl (zO (zk (zr (zg (fun _ => R_addi e10_3 rfl (by omega)) (mI rfl (zn (zK (B' := [(w, No)]) (L' := [(t1b, cel cs 32)]) (fun w h => h.drop (List.sublist_cons_self _ _)) ?_)))))))))); exact k_again _ (by omega) ⟨i + 1, e9_3, rfl, rfl, rfl, by omega, bk_next hj hb (by unfold bkOk; rw [hd, hall]; rfl), rfl⟩
  ·(try (have qh4 := h4; norm_cast at qh4))
   refine zw rfl rfl (bF h4) (mI rfl (zw rfl rfl (bF h4) (zg (fun _ => R_eq rfl rfl) (zg (v := .bool _) (fun _ => zF (bF h4) rfl) (aB rfl (yB ?_)))))); refine c_cut (fun e B L => e 3 = .int .i64 (i : Nat) ∧ e 4 = .pointer (some ⟨t4b, 0, none⟩) ∧ e 5 = .bool (gv i) ∧ e 9 = .agg cs.toArray ∧ e 10 = .int .i64 (i : Nat) ∧ B = [(w, No)] ∧ L = [(t4b, cel [.bool b.is, .slice da b.decls.length dc, .slice sa b.stmts.length sc] 29), (t1b, cel cs 32)] ∧ headB i b = true) ?_ ?_
   ·skip
    refine zB (yA (zf fa29_0 rfl (zL 0 z4 rfl rfl rfl (zg (fun _ => R_not rfl) (mB rfl ?_))))); refine zp (t := 24) rfl (fun h22 => ?_) (fun h22 => ?_)
    ·(try (have qh22 := h22; norm_cast at qh22))
     refine zw rfl rfl (bV h22) (zf fa29_1 rfl (zw rfl rfl (bV h22) (zL 0 z26 rfl rfl rfl (zw rfl rfl (bV h22) (zg (fun _ => R_len sl26 rfl) (zw rfl rfl (bV h22) (zf fa29_2 rfl (zw rfl rfl (bV h22) (zL 0 z27 rfl rfl rfl (zw rfl rfl (bV h22) (zg (fun _ => R_len sl27 rfl) (zw rfl rfl (bV h22) (zg (fun _ => R_addi rfl rfl (by omega)) (zw rfl rfl (bV h22) (zg (fun _ => R_gt rfl rfl) (zg (v := .bool _) (fun _ => zT (bV h22) rfl) (mB rfl ?_))))))))))))))))); refine zd (t := 34) rfl (fun h23 => ?_) (fun h23 => ?_)
     ·(try (have qh23 := h23; norm_cast at qh23))
      refine zs rfl rfl (bT h23) (zs rfl rfl (bT h23) (zU rfl rfl rfl (zU rfl rfl rfl (zU rfl rfl rfl (zU rfl rfl rfl (zs rfl rfl (bT h23) (zg (v := .bool _) (fun _ => zT (bT h23) rfl) (mB rfl ?_)))))))); (iterate 3 refine zs rfl rfl rfl ?_); refine zU rfl rfl rfl (zU rfl rfl rfl (zU rfl rfl rfl (zU rfl rfl rfl (zs rfl rfl rfl (zg (v := .bool _) (fun _ => zT rfl rfl) (mB rfl (zs rfl rfl rfl ?_)))))))
      (iterate 3 refine zs rfl rfl rfl ?_); refine zg (v := .bool _) (fun _ => zT rfl rfl) (aB rfl (yB (zE rfl (yA (aI rfl (yB (ze (zb (zt (zb (zt (zt (zb (zt (?_)))))))))))))))
      refine zo (v := .int _ _) rfl rfl rfl ?_; exact fun w' hw => ⟨by (rw [pgOk_no hi6 hb (by ((try clear hw hm hds hss hcb hp hW hj e10_1 e9_1 gt1b gt4b ut1b ut4b); simp only [bkOk, headB, gv]; grind))]; rfl), hw.fr _ zm0⟩
     ·(try (have qh23 := h23; norm_cast at qh23))
      refine zw rfl rfl (bF h23) (mB rfl (zw rfl rfl (bF h23) (mB rfl ?_))); refine zd (t := 36) rfl (fun h24 => ?_) (fun h24 => ?_)
      ·(try (have qh24 := h24; norm_cast at qh24))
       refine zw rfl rfl (bT h24) (zf fa29_2 rfl (zw rfl rfl (bT h24) (zL 0 z27 rfl rfl rfl (zw rfl rfl (bT h24) (zg (fun _ => R_len sl27 rfl) (zw rfl rfl (bT h24) (zg (fun _ => R_gt rfl rfl) (zw rfl rfl (bF h23) (zg (v := .bool _) (fun _ => zT (bT h24) rfl) (zg (v := .bool _) (fun _ => zF (bF h23) rfl) (mB rfl ?_))))))))))); refine zd (t := 43) rfl (fun h25 => ?_) (fun h25 => ?_)
       ·(try (have qh25 := h25; norm_cast at qh25))
        refine zs rfl rfl (bT h25) (zs rfl rfl (bT h25) (zs rfl rfl (bT h25) (zU rfl rfl rfl (zU rfl rfl rfl (zU rfl rfl rfl (zU rfl rfl rfl (zs rfl rfl (bT h25) (zg (v := .bool _) (fun _ => zT (bT h25) rfl) (mB rfl ?_))))))))); (iterate 4 refine zs rfl rfl rfl ?_); refine zg (v := .bool _) (fun _ => zT rfl rfl) (aB rfl (yB (zE rfl (yA (aI rfl (yB (ze (zb (zt (zb (zt (zt (zb (zt (?_)))))))))))))))
        refine zo (v := .int _ _) rfl rfl rfl ?_; exact fun w' hw => ⟨by (rw [pgOk_no hi6 hb (by ((try clear hw hm hds hss hcb hp hW hj e10_1 e9_1 gt1b gt4b ut1b ut4b); simp only [bkOk, headB, gv]; grind))]; rfl), hw.fr _ zm0⟩
       ·(try (have qh25 := h25; norm_cast at qh25))
        refine zw rfl rfl (bF h25) (mI rfl (zw rfl rfl (bF h25) (zg (fun _ => R_eq rfl rfl) (zw rfl rfl (bF h25) (mB rfl ?_))))); refine zd (t := 46) rfl (fun h26 => ?_) (fun h26 => ?_)
        ·(try (have qh26 := h26; norm_cast at qh26))
         refine zw rfl rfl (bT h26) (zf fa29_1 rfl (zw rfl rfl (bT h26) (zL 0 z26 rfl rfl rfl (zw rfl rfl (bT h26) (zg (fun _ => R_len sl26 rfl) (zw rfl rfl (bT h26) (zg (fun _ => R_gt rfl rfl) (zw rfl rfl (bF h25) (zg (v := .bool _) (fun _ => zT (bT h26) rfl) (zg (v := .bool _) (fun _ => zF (bF h25) rfl) (mB rfl ?_))))))))))); refine zd (t := 53) rfl (fun h27 => ?_) (fun h27 => ?_)
         ·(try (have qh27 := h27; norm_cast at qh27))
          refine zs rfl rfl (bT h27) (zs rfl rfl (bT h27) (zs rfl rfl (bT h27) (zs rfl rfl (bT h27) (zg (v := .bool _) (fun _ => zT (bT h27) rfl) (aB rfl (yB (zE rfl (yA (aI rfl (yB (ze (zb (zt (zb (zt (zt (zb (zt ((zo (v := .int _ _) rfl rfl rfl ?_)))))))))))))))))))); exact fun w' hw => ⟨by (rw [pgOk_no hi6 hb (by ((try clear hw hm hds hss hcb hp hW hj e10_1 e9_1 gt1b gt4b ut1b ut4b); simp only [bkOk, headB, gv]; grind))]; rfl), hw.fr _ zm0⟩
         ·(try (have qh27 := h27; norm_cast at qh27))
          refine zw rfl rfl (bF h27) (zf fa29_2 rfl (zw rfl rfl (bF h27) (zL 0 z27 rfl rfl rfl (zw rfl rfl (bF h27) (zC (fun w => zR Tryz.func78 rfl rfl rfl) rfl rfl (fun w h => stmts_ok b.stmts sa sc N w (by omega) (by omega) (hss.now (fun _ _ hh => hh) zm0 h) (hW.now zm0 h)) (zw rfl rfl (bF h27) (zg (fun _ => R_not rfl) (zg (v := .bool _) (fun _ => zF (bF h27) rfl) (aB rfl (yB ?_)))))))))); refine c_condN rfl (fun h28 => ?_) (fun h28 => ?_)
          ·(try (have qh28 := h28; norm_cast at qh28))
           refine yA (aI rfl (yB (ze (zb (zt (zb (zt (zt (zb (zt ((zo (v := .int _ _) rfl rfl rfl ?_)))))))))))); exact fun w' hw => ⟨by (rw [pgOk_no hi6 hb (by ((try clear hw hm hds hss hcb hp hW hj e10_1 e9_1 gt1b gt4b ut1b ut4b); simp only [bkOk, headB, gv]; grind))]; rfl), hw.fr _ zm0⟩
          ·(try (have qh28 := h28; norm_cast at qh28))
           refine zi (zO (?_))
           exact k_mid ⟨rfl, rfl, (congrArg Value.bool (by (try clear hm hds hss hcb hp hW hj e10_1 e9_1 gt1b gt4b ut1b ut4b); simp only [gv]; grind)), e9_1, e10_1, rfl, rfl, by (try clear hm hds hss hcb hp hW hj e10_1 e9_1 gt1b gt4b ut1b ut4b); simp only [headB, gv]; grind⟩
        ·(try (have qh26 := h26; norm_cast at qh26))
         refine zs rfl rfl (bF h26) (zs rfl rfl (bF h26) (zs rfl rfl (bF h26) (zs rfl rfl (bF h26) (zw rfl rfl (bF h25) (zg (v := .bool _) (fun _ => zF (bF h26) rfl) (zg (v := .bool _) (fun _ => zF (bF h25) rfl) (mB rfl (zw rfl rfl rfl (zf fa29_2 rfl (zw rfl rfl rfl (zL 0 z27 rfl rfl rfl (zw rfl rfl rfl (zC (fun w => zR Tryz.func78 rfl rfl rfl) rfl rfl (fun w h => stmts_ok b.stmts sa sc N w (by omega) (by omega) (hss.now (fun _ _ hh => hh) zm0 h) (hW.now zm0 h)) (zw rfl rfl rfl (zg (fun _ => R_not rfl) (zg (v := .bool _) (fun _ => zF rfl rfl) (aB rfl (yB ?_)))))))))))))))))); refine c_condN rfl (fun h29 => ?_) (fun h29 => ?_)
         ·(try (have qh29 := h29; norm_cast at qh29))
          refine yA (aI rfl (yB (ze (zb (zt (zb (zt (zt (zb (zt ((zo (v := .int _ _) rfl rfl rfl ?_)))))))))))); exact fun w' hw => ⟨by (rw [pgOk_no hi6 hb (by ((try clear hw hm hds hss hcb hp hW hj e10_1 e9_1 gt1b gt4b ut1b ut4b); simp only [bkOk, headB, gv]; grind))]; rfl), hw.fr _ zm0⟩
         ·(try (have qh29 := h29; norm_cast at qh29))
          refine zi (zO (?_))
          exact k_mid ⟨rfl, rfl, (congrArg Value.bool (by (try clear hm hds hss hcb hp hW hj e10_1 e9_1 gt1b gt4b ut1b ut4b); simp only [gv]; grind)), e9_1, e10_1, rfl, rfl, by (try clear hm hds hss hcb hp hW hj e10_1 e9_1 gt1b gt4b ut1b ut4b); simp only [headB, gv]; grind⟩
      ·(try (have qh24 := h24; norm_cast at qh24))
       refine zs rfl rfl (bF h24) (zs rfl rfl (bF h24) (zs rfl rfl (bF h24) (zs rfl rfl (bF h24) (zw rfl rfl (bF h23) (zg (v := .bool _) (fun _ => zF (bF h24) rfl) (zg (v := .bool _) (fun _ => zF (bF h23) rfl) (mB rfl (zw rfl rfl rfl (mI rfl (zw rfl rfl rfl (zg (fun _ => R_eq rfl rfl) (zw rfl rfl rfl (mB rfl ?_))))))))))))); refine zd (t := 46) rfl (fun h30 => ?_) (fun h30 => ?_)
       ·(try (have qh30 := h30; norm_cast at qh30))
        refine zw rfl rfl (bT h30) (zf fa29_1 rfl (zw rfl rfl (bT h30) (zL 0 z26 rfl rfl rfl (zw rfl rfl (bT h30) (zg (fun _ => R_len sl26 rfl) (zw rfl rfl (bT h30) (zg (fun _ => R_gt rfl rfl) (zw rfl rfl rfl (zg (v := .bool _) (fun _ => zT (bT h30) rfl) (zg (v := .bool _) (fun _ => zF rfl rfl) (mB rfl ?_))))))))))); refine zd (t := 53) rfl (fun h31 => ?_) (fun h31 => ?_)
        ·(try (have qh31 := h31; norm_cast at qh31))
         refine zs rfl rfl (bT h31) (zs rfl rfl (bT h31) (zs rfl rfl (bT h31) (zs rfl rfl (bT h31) (zg (v := .bool _) (fun _ => zT (bT h31) rfl) (aB rfl (yB (zE rfl (yA (aI rfl (yB (ze (zb (zt (zb (zt (zt (zb (zt ((zo (v := .int _ _) rfl rfl rfl ?_)))))))))))))))))))); exact fun w' hw => ⟨by (rw [pgOk_no hi6 hb (by ((try clear hw hm hds hss hcb hp hW hj e10_1 e9_1 gt1b gt4b ut1b ut4b); simp only [bkOk, headB, gv]; grind))]; rfl), hw.fr _ zm0⟩
        ·(try (have qh31 := h31; norm_cast at qh31))
         refine zw rfl rfl (bF h31) (zf fa29_2 rfl (zw rfl rfl (bF h31) (zL 0 z27 rfl rfl rfl (zw rfl rfl (bF h31) (zC (fun w => zR Tryz.func78 rfl rfl rfl) rfl rfl (fun w h => stmts_ok b.stmts sa sc N w (by omega) (by omega) (hss.now (fun _ _ hh => hh) zm0 h) (hW.now zm0 h)) (zw rfl rfl (bF h31) (zg (fun _ => R_not rfl) (zg (v := .bool _) (fun _ => zF (bF h31) rfl) (aB rfl (yB ?_)))))))))); refine c_condN rfl (fun h32 => ?_) (fun h32 => ?_)
         ·(try (have qh32 := h32; norm_cast at qh32))
          refine yA (aI rfl (yB (ze (zb (zt (zb (zt (zt (zb (zt ((zo (v := .int _ _) rfl rfl rfl ?_)))))))))))); exact fun w' hw => ⟨by (rw [pgOk_no hi6 hb (by ((try clear hw hm hds hss hcb hp hW hj e10_1 e9_1 gt1b gt4b ut1b ut4b); simp only [bkOk, headB, gv]; grind))]; rfl), hw.fr _ zm0⟩
         ·(try (have qh32 := h32; norm_cast at qh32))
          refine zi (zO (?_))
          exact k_mid ⟨rfl, rfl, (congrArg Value.bool (by (try clear hm hds hss hcb hp hW hj e10_1 e9_1 gt1b gt4b ut1b ut4b); simp only [gv]; grind)), e9_1, e10_1, rfl, rfl, by (try clear hm hds hss hcb hp hW hj e10_1 e9_1 gt1b gt4b ut1b ut4b); simp only [headB, gv]; grind⟩
       ·(try (have qh30 := h30; norm_cast at qh30))
        refine zs rfl rfl (bF h30) (zs rfl rfl (bF h30) (zs rfl rfl (bF h30) (zs rfl rfl (bF h30) (zw rfl rfl rfl (zg (v := .bool _) (fun _ => zF (bF h30) rfl) (zg (v := .bool _) (fun _ => zF rfl rfl) (mB rfl (zw rfl rfl rfl (zf fa29_2 rfl (zw rfl rfl rfl (zL 0 z27 rfl rfl rfl (zw rfl rfl rfl (zC (fun w => zR Tryz.func78 rfl rfl rfl) rfl rfl (fun w h => stmts_ok b.stmts sa sc N w (by omega) (by omega) (hss.now (fun _ _ hh => hh) zm0 h) (hW.now zm0 h)) (zw rfl rfl rfl (zg (fun _ => R_not rfl) (zg (v := .bool _) (fun _ => zF rfl rfl) (aB rfl (yB ?_)))))))))))))))))); refine c_condN rfl (fun h33 => ?_) (fun h33 => ?_)
        ·(try (have qh33 := h33; norm_cast at qh33))
         refine yA (aI rfl (yB (ze (zb (zt (zb (zt (zt (zb (zt ((zo (v := .int _ _) rfl rfl rfl ?_)))))))))))); exact fun w' hw => ⟨by (rw [pgOk_no hi6 hb (by ((try clear hw hm hds hss hcb hp hW hj e10_1 e9_1 gt1b gt4b ut1b ut4b); simp only [bkOk, headB, gv]; grind))]; rfl), hw.fr _ zm0⟩
        ·(try (have qh33 := h33; norm_cast at qh33))
         refine zi (zO (?_))
         exact k_mid ⟨rfl, rfl, (congrArg Value.bool (by (try clear hm hds hss hcb hp hW hj e10_1 e9_1 gt1b gt4b ut1b ut4b); simp only [gv]; grind)), e9_1, e10_1, rfl, rfl, by (try clear hm hds hss hcb hp hW hj e10_1 e9_1 gt1b gt4b ut1b ut4b); simp only [headB, gv]; grind⟩
    ·(try (have qh22 := h22; norm_cast at qh22))
     refine zs rfl rfl (bV h22) (zs rfl rfl (bV h22) (zs rfl rfl (bV h22) (zs rfl rfl (bV h22) (zs rfl rfl (bV h22) (zs rfl rfl (bV h22) (zs rfl rfl (bV h22) (zs rfl rfl (bV h22) (zg (v := .bool _) (fun _ => zF (bV h22) rfl) (mB rfl (zw rfl rfl rfl (mB rfl (zw rfl rfl rfl (mB rfl ?_))))))))))))); refine zd (t := 36) rfl (fun h34 => ?_) (fun h34 => ?_)
     ·(try (have qh34 := h34; norm_cast at qh34))
      refine zw rfl rfl (bT h34) (zf fa29_2 rfl (zw rfl rfl (bT h34) (zL 0 z27 rfl rfl rfl (zw rfl rfl (bT h34) (zg (fun _ => R_len sl27 rfl) (zw rfl rfl (bT h34) (zg (fun _ => R_gt rfl rfl) (zw rfl rfl rfl (zg (v := .bool _) (fun _ => zT (bT h34) rfl) (zg (v := .bool _) (fun _ => zF rfl rfl) (mB rfl ?_))))))))))); refine zd (t := 43) rfl (fun h35 => ?_) (fun h35 => ?_)
      ·(try (have qh35 := h35; norm_cast at qh35))
       refine zs rfl rfl (bT h35) (zs rfl rfl (bT h35) (zs rfl rfl (bT h35) (zU rfl rfl rfl (zU rfl rfl rfl (zU rfl rfl rfl (zU rfl rfl rfl (zs rfl rfl (bT h35) (zg (v := .bool _) (fun _ => zT (bT h35) rfl) (mB rfl ?_))))))))); (iterate 4 refine zs rfl rfl rfl ?_); refine zg (v := .bool _) (fun _ => zT rfl rfl) (aB rfl (yB (zE rfl (yA (aI rfl (yB (ze (zb (zt (zb (zt (zt (zb (zt (?_)))))))))))))))
       refine zo (v := .int _ _) rfl rfl rfl ?_; exact fun w' hw => ⟨by (rw [pgOk_no hi6 hb (by ((try clear hw hm hds hss hcb hp hW hj e10_1 e9_1 gt1b gt4b ut1b ut4b); simp only [bkOk, headB, gv]; grind))]; rfl), hw.fr _ zm0⟩
      ·(try (have qh35 := h35; norm_cast at qh35))
       refine zw rfl rfl (bF h35) (mI rfl (zw rfl rfl (bF h35) (zg (fun _ => R_eq rfl rfl) (zw rfl rfl (bF h35) (mB rfl ?_))))); refine zd (t := 46) rfl (fun h36 => ?_) (fun h36 => ?_)
       ·(try (have qh36 := h36; norm_cast at qh36))
        refine zw rfl rfl (bT h36) (zf fa29_1 rfl (zw rfl rfl (bT h36) (zL 0 z26 rfl rfl rfl (zw rfl rfl (bT h36) (zg (fun _ => R_len sl26 rfl) (zw rfl rfl (bT h36) (zg (fun _ => R_gt rfl rfl) (zw rfl rfl (bF h35) (zg (v := .bool _) (fun _ => zT (bT h36) rfl) (zg (v := .bool _) (fun _ => zF (bF h35) rfl) (mB rfl ?_))))))))))); refine zd (t := 53) rfl (fun h37 => ?_) (fun h37 => ?_)
        ·(try (have qh37 := h37; norm_cast at qh37))
         refine zs rfl rfl (bT h37) (zs rfl rfl (bT h37) (zs rfl rfl (bT h37) (zs rfl rfl (bT h37) (zg (v := .bool _) (fun _ => zT (bT h37) rfl) (aB rfl (yB (zE rfl (yA (aI rfl (yB (ze (zb (zt (zb (zt (zt (zb (zt ((zo (v := .int _ _) rfl rfl rfl ?_)))))))))))))))))))); exact fun w' hw => ⟨by (rw [pgOk_no hi6 hb (by ((try clear hw hm hds hss hcb hp hW hj e10_1 e9_1 gt1b gt4b ut1b ut4b); simp only [bkOk, headB, gv]; grind))]; rfl), hw.fr _ zm0⟩
        ·(try (have qh37 := h37; norm_cast at qh37))
         refine zw rfl rfl (bF h37) (zf fa29_2 rfl (zw rfl rfl (bF h37) (zL 0 z27 rfl rfl rfl (zw rfl rfl (bF h37) (zC (fun w => zR Tryz.func78 rfl rfl rfl) rfl rfl (fun w h => stmts_ok b.stmts sa sc N w (by omega) (by omega) (hss.now (fun _ _ hh => hh) zm0 h) (hW.now zm0 h)) (zw rfl rfl (bF h37) (zg (fun _ => R_not rfl) (zg (v := .bool _) (fun _ => zF (bF h37) rfl) (aB rfl (yB ?_)))))))))); refine c_condN rfl (fun h38 => ?_) (fun h38 => ?_)
         ·(try (have qh38 := h38; norm_cast at qh38))
          refine yA (aI rfl (yB (ze (zb (zt (zb (zt (zt (zb (zt ((zo (v := .int _ _) rfl rfl rfl ?_)))))))))))); exact fun w' hw => ⟨by (rw [pgOk_no hi6 hb (by ((try clear hw hm hds hss hcb hp hW hj e10_1 e9_1 gt1b gt4b ut1b ut4b); simp only [bkOk, headB, gv]; grind))]; rfl), hw.fr _ zm0⟩
         ·(try (have qh38 := h38; norm_cast at qh38))
          refine zi (zO (?_))
          exact k_mid ⟨rfl, rfl, (congrArg Value.bool (by (try clear hm hds hss hcb hp hW hj e10_1 e9_1 gt1b gt4b ut1b ut4b); simp only [gv]; grind)), e9_1, e10_1, rfl, rfl, by (try clear hm hds hss hcb hp hW hj e10_1 e9_1 gt1b gt4b ut1b ut4b); simp only [headB, gv]; grind⟩
       ·(try (have qh36 := h36; norm_cast at qh36))
        refine zs rfl rfl (bF h36) (zs rfl rfl (bF h36) (zs rfl rfl (bF h36) (zs rfl rfl (bF h36) (zw rfl rfl (bF h35) (zg (v := .bool _) (fun _ => zF (bF h36) rfl) (zg (v := .bool _) (fun _ => zF (bF h35) rfl) (mB rfl (zw rfl rfl rfl (zf fa29_2 rfl (zw rfl rfl rfl (zL 0 z27 rfl rfl rfl (zw rfl rfl rfl (zC (fun w => zR Tryz.func78 rfl rfl rfl) rfl rfl (fun w h => stmts_ok b.stmts sa sc N w (by omega) (by omega) (hss.now (fun _ _ hh => hh) zm0 h) (hW.now zm0 h)) (zw rfl rfl rfl (zg (fun _ => R_not rfl) (zg (v := .bool _) (fun _ => zF rfl rfl) (aB rfl (yB ?_)))))))))))))))))); refine c_condN rfl (fun h39 => ?_) (fun h39 => ?_)
        ·(try (have qh39 := h39; norm_cast at qh39))
         refine yA (aI rfl (yB (ze (zb (zt (zb (zt (zt (zb (zt ((zo (v := .int _ _) rfl rfl rfl ?_)))))))))))); exact fun w' hw => ⟨by (rw [pgOk_no hi6 hb (by ((try clear hw hm hds hss hcb hp hW hj e10_1 e9_1 gt1b gt4b ut1b ut4b); simp only [bkOk, headB, gv]; grind))]; rfl), hw.fr _ zm0⟩
        ·(try (have qh39 := h39; norm_cast at qh39))
         refine zi (zO (?_))
         exact k_mid ⟨rfl, rfl, (congrArg Value.bool (by (try clear hm hds hss hcb hp hW hj e10_1 e9_1 gt1b gt4b ut1b ut4b); simp only [gv]; grind)), e9_1, e10_1, rfl, rfl, by (try clear hm hds hss hcb hp hW hj e10_1 e9_1 gt1b gt4b ut1b ut4b); simp only [headB, gv]; grind⟩
     ·(try (have qh34 := h34; norm_cast at qh34))
      refine zs rfl rfl (bF h34) (zs rfl rfl (bF h34) (zs rfl rfl (bF h34) (zs rfl rfl (bF h34) (zw rfl rfl rfl (zg (v := .bool _) (fun _ => zF (bF h34) rfl) (zg (v := .bool _) (fun _ => zF rfl rfl) (mB rfl (zw rfl rfl rfl (mI rfl (zw rfl rfl rfl (zg (fun _ => R_eq rfl rfl) (zw rfl rfl rfl (mB rfl ?_))))))))))))); refine zd (t := 46) rfl (fun h40 => ?_) (fun h40 => ?_)
      ·(try (have qh40 := h40; norm_cast at qh40))
       refine zw rfl rfl (bT h40) (zf fa29_1 rfl (zw rfl rfl (bT h40) (zL 0 z26 rfl rfl rfl (zw rfl rfl (bT h40) (zg (fun _ => R_len sl26 rfl) (zw rfl rfl (bT h40) (zg (fun _ => R_gt rfl rfl) (zw rfl rfl rfl (zg (v := .bool _) (fun _ => zT (bT h40) rfl) (zg (v := .bool _) (fun _ => zF rfl rfl) (mB rfl ?_))))))))))); refine zd (t := 53) rfl (fun h41 => ?_) (fun h41 => ?_)
       ·(try (have qh41 := h41; norm_cast at qh41))
        refine zs rfl rfl (bT h41) (zs rfl rfl (bT h41) (zs rfl rfl (bT h41) (zs rfl rfl (bT h41) (zg (v := .bool _) (fun _ => zT (bT h41) rfl) (aB rfl (yB (zE rfl (yA (aI rfl (yB (ze (zb (zt (zb (zt (zt (zb (zt ((zo (v := .int _ _) rfl rfl rfl ?_)))))))))))))))))))); exact fun w' hw => ⟨by (rw [pgOk_no hi6 hb (by ((try clear hw hm hds hss hcb hp hW hj e10_1 e9_1 gt1b gt4b ut1b ut4b); simp only [bkOk, headB, gv]; grind))]; rfl), hw.fr _ zm0⟩
       ·(try (have qh41 := h41; norm_cast at qh41))
        refine zw rfl rfl (bF h41) (zf fa29_2 rfl (zw rfl rfl (bF h41) (zL 0 z27 rfl rfl rfl (zw rfl rfl (bF h41) (zC (fun w => zR Tryz.func78 rfl rfl rfl) rfl rfl (fun w h => stmts_ok b.stmts sa sc N w (by omega) (by omega) (hss.now (fun _ _ hh => hh) zm0 h) (hW.now zm0 h)) (zw rfl rfl (bF h41) (zg (fun _ => R_not rfl) (zg (v := .bool _) (fun _ => zF (bF h41) rfl) (aB rfl (yB ?_)))))))))); refine c_condN rfl (fun h42 => ?_) (fun h42 => ?_)
        ·(try (have qh42 := h42; norm_cast at qh42))
         refine yA (aI rfl (yB (ze (zb (zt (zb (zt (zt (zb (zt ((zo (v := .int _ _) rfl rfl rfl ?_)))))))))))); exact fun w' hw => ⟨by (rw [pgOk_no hi6 hb (by ((try clear hw hm hds hss hcb hp hW hj e10_1 e9_1 gt1b gt4b ut1b ut4b); simp only [bkOk, headB, gv]; grind))]; rfl), hw.fr _ zm0⟩
        ·(try (have qh42 := h42; norm_cast at qh42))
         refine zi (zO (?_))
         exact k_mid ⟨rfl, rfl, (congrArg Value.bool (by (try clear hm hds hss hcb hp hW hj e10_1 e9_1 gt1b gt4b ut1b ut4b); simp only [gv]; grind)), e9_1, e10_1, rfl, rfl, by (try clear hm hds hss hcb hp hW hj e10_1 e9_1 gt1b gt4b ut1b ut4b); simp only [headB, gv]; grind⟩
      ·(try (have qh40 := h40; norm_cast at qh40))
       refine zs rfl rfl (bF h40) (zs rfl rfl (bF h40) (zs rfl rfl (bF h40) (zs rfl rfl (bF h40) (zw rfl rfl rfl (zg (v := .bool _) (fun _ => zF (bF h40) rfl) (zg (v := .bool _) (fun _ => zF rfl rfl) (mB rfl (zw rfl rfl rfl (zf fa29_2 rfl (zw rfl rfl rfl (zL 0 z27 rfl rfl rfl (zw rfl rfl rfl (zC (fun w => zR Tryz.func78 rfl rfl rfl) rfl rfl (fun w h => stmts_ok b.stmts sa sc N w (by omega) (by omega) (hss.now (fun _ _ hh => hh) zm0 h) (hW.now zm0 h)) (zw rfl rfl rfl (zg (fun _ => R_not rfl) (zg (v := .bool _) (fun _ => zF rfl rfl) (aB rfl (yB ?_)))))))))))))))))); refine c_condN rfl (fun h43 => ?_) (fun h43 => ?_)
       ·(try (have qh43 := h43; norm_cast at qh43))
        refine yA (aI rfl (yB (ze (zb (zt (zb (zt (zt (zb (zt ((zo (v := .int _ _) rfl rfl rfl ?_)))))))))))); exact fun w' hw => ⟨by (rw [pgOk_no hi6 hb (by ((try clear hw hm hds hss hcb hp hW hj e10_1 e9_1 gt1b gt4b ut1b ut4b); simp only [bkOk, headB, gv]; grind))]; rfl), hw.fr _ zm0⟩
       ·(try (have qh43 := h43; norm_cast at qh43))
        refine zi (zO (?_))
        exact k_mid ⟨rfl, rfl, (congrArg Value.bool (by (try clear hm hds hss hcb hp hW hj e10_1 e9_1 gt1b gt4b ut1b ut4b); simp only [gv]; grind)), e9_1, e10_1, rfl, rfl, by (try clear hm hds hss hcb hp hW hj e10_1 e9_1 gt1b gt4b ut1b ut4b); simp only [headB, gv]; grind⟩
   rintro e B L ⟨e3_4, e4_4, e5_4, e9_4, e10_4, rfl, rfl, hd⟩
   refine yA (zf fa29_1 e4_4 (zL 0 z26 rfl rfl rfl (zg (fun _ => R_len sl26 rfl) (mI rfl (yB (zB (c_loop (fun m e B L => ∃ (k : Nat), e 3 = .int .i64 (i : Nat) ∧ e 5 = .bool (gv i) ∧ e 9 = .agg cs.toArray ∧ e 10 = .int .i64 (i : Nat) ∧ e 60 = .slice da b.decls.length dc ∧ e 61 = .int .i64 (b.decls.length : Nat) ∧ e 62 = .int .i64 (k : Nat) ∧ B = [(w, No)] ∧ L = [(t4b, cel [.bool b.is, .slice da b.decls.length dc, .slice sa b.stmts.length sc] 29), (t1b, cel cs 32)] ∧ k ≤ b.decls.length ∧ (∀ y ∈ b.decls.take k, (!dgood i y) = false) ∧ m = b.decls.length - k) _ ⟨0, e3_4, e5_4, e9_4, e10_4, rfl, rfl, rfl, rfl, rfl, Nat.zero_le _, (by simp), rfl⟩ ?_)))))))
   rintro m e B L ⟨k, e3_5, e5_5, e9_5, e10_5, e60_5, e61_5, e62_5, rfl, rfl, hk, hy, rfl⟩
   refine yA (zg (fun _ => R_lt e62_5 e61_5) (yB (zq ?_))); refine zD rfl (fun h44 => ?_) (fun h44 => ?_)
   ·(try (have qh44 := h44; norm_cast at qh44))
    have hlt : k < b.decls.length := (by omega); obtain ⟨x, hxk⟩ : ∃ x, b.decls[k]? = some x := ⟨_, List.getElem?_eq_getElem hlt⟩; obtain ⟨cs2, hA, hE⟩ := hds k x hxk; have hxn := dcsW_mem (List.mem_of_getElem? hxk); obtain ⟨b1, o1, rfl⟩ := hA.ptr; have hE2 := hE; obtain ⟨ty, at_, nm, sz, lo, up, ini⟩ := x; unfold dcM at hE2; obtain ⟨xa, xc, la, lc, ua, uc, ia, ic, hcs, hsz, hlo, hup, hini⟩ := hE2; simp only [] at hcs; subst hcs
    refine zi (zk (zq (zB (yA (zg (fun _ => R_iaN (i := k) sl26 e60_5 e62_5 (by omega)) (w_loadC (l := [.int .u8 (ty : Nat), .int .i64 at_, str nm, .slice xa sz.length xc, .slice la lo.length lc, .slice ua up.length uc, .slice ia ini.length ic]) z49 rfl rfl (fun w h j v hj => hA.cell (fun _ _ hh => hh) zm0 h j v hj) (zA zr49 (fun t7b gt7b ut7b => zV 0 rfl z49 rfl rfl rfl rfl rfl rfl rfl (yC (zY z49 rfl (fun _ h => h.at_ 0 rfl) rfl (zC (fun w => zR Tryz.func79 rfl rfl rfl) rfl rfl (fun w h => decl_spec _ _ N w (by omega) (hE.now (fun _ _ hh => hh) zm0 h) (hW.now zm0 h)) (zg (fun _ => R_not rfl) (mB rfl ?_))))))))))))); refine zp (t := 69) rfl (fun h46 => ?_) (fun h46 => ?_)
    ·(try (have qh46 := h46; norm_cast at qh46))
     refine zs rfl rfl (bV h46) (zs rfl rfl (bV h46) (zU rfl rfl rfl (zU rfl rfl rfl (zU rfl rfl rfl (zU rfl rfl rfl (zs rfl rfl (bV h46) (zg (v := .bool _) (fun _ => zT (bV h46) rfl) (yB (zE rfl (yA (aI rfl (yB (ze (zb (zt (zt (zb (zb (zt (zt (zb (zt ((zo (v := .int _ _) rfl rfl rfl ?_)))))))))))))))))))))))); exact fun w' hw => ⟨by (rw [pgOk_no hi6 hb (by (unfold bkOk; rw [all_no hxk (by (try clear hw hm hds hss hcb hp hW hj hA hE hsz hlo hup hini e10_1 e10_4 e10_5 e3_4 e3_5 e4_4 e5_4 e5_5 e60_5 e61_5 e62_5 e9_1 e9_4 e9_5 gt1b gt4b gt7b ut1b ut4b ut7b); simp only [dgood]; grind)]; simp; done))]; rfl), hw.fr _ zm0⟩
    ·(try (have qh46 := h46; norm_cast at qh46))
     refine zw rfl rfl (bV h46) (mB e5_5 (zw rfl rfl (bV h46) (mB rfl ?_))); refine zp (t := 71) rfl (fun h47 => ?_) (fun h47 => ?_)
     ·(try (have qh47 := h47; norm_cast at qh47))
      refine zw rfl rfl (bV h47) (zf fa49_6 rfl (zw rfl rfl (bV h47) (zL 0 z47 rfl rfl rfl (zw rfl rfl (bV h47) (zg (fun _ => R_len sl47 rfl) (zw rfl rfl (bV h47) (zg (fun _ => R_gt rfl rfl) (zw rfl rfl (bV h46) (zg (v := .bool _) (fun _ => zT (bV h47) rfl) (zg (v := .bool _) (fun _ => zF (bV h46) rfl) (yB ?_))))))))))); refine zD rfl (fun h48 => ?_) (fun h48 => ?_)
      ·(try (have qh48 := h48; norm_cast at qh48))
       refine yA (aI rfl (yB (ze (zb (zt (zt (zb (zb (zt (zt (zb (zt ((zo (v := .int _ _) rfl rfl rfl ?_)))))))))))))); exact fun w' hw => ⟨by (rw [pgOk_no hi6 hb (by (unfold bkOk; rw [all_no hxk (by (try clear hw hm hds hss hcb hp hW hj hA hE hsz hlo hup hini e10_1 e10_4 e10_5 e3_4 e3_5 e4_4 e5_4 e5_5 e60_5 e61_5 e62_5 e9_1 e9_4 e9_5 gt1b gt4b gt7b ut1b ut4b ut7b); simp only [dgood]; grind)]; simp; done))]; rfl), hw.fr _ zm0⟩
      ·(try (have qh48 := h48; norm_cast at qh48))
       refine zi (zO (zk (zr (zg (fun _ => R_addi e62_5 rfl (by omega)) (mI rfl (zn (zK (B' := [(w, No)]) (L' := _) (fun w h => h.drop (List.sublist_cons_self _ _)) ?_))))))); exact k_again _ (by omega) ⟨k + 1, e3_5, e5_5, e9_5, e10_5, e60_5, e61_5, rfl, rfl, rfl, by omega, take_all hy hxk (by (try clear hm hds hss hcb hp hW hj hA hE hsz hlo hup hini e10_1 e10_4 e10_5 e3_4 e3_5 e4_4 e5_4 e5_5 e60_5 e61_5 e62_5 e9_1 e9_4 e9_5 gt1b gt4b gt7b ut1b ut4b ut7b); simp only [dgood]; grind), rfl⟩
     ·(try (have qh47 := h47; norm_cast at qh47))
      refine zs rfl rfl (bV h47) (zs rfl rfl (bV h47) (zs rfl rfl (bV h47) (zs rfl rfl (bV h47) (zw rfl rfl (bV h46) (zg (v := .bool _) (fun _ => zF (bV h47) rfl) (zg (v := .bool _) (fun _ => zF (bV h46) rfl) (yB (zG rfl (zi (zO (zk (zr (zg (fun _ => R_addi e62_5 rfl (by omega)) (mI rfl (zn (zK (B' := [(w, No)]) (L' := _) (fun w h => h.drop (List.sublist_cons_self _ _)) ?_))))))))))))))))
      exact k_again _ (by omega) ⟨k + 1, e3_5, e5_5, e9_5, e10_5, e60_5, e61_5, rfl, rfl, rfl, by omega, take_all hy hxk (by (try clear hm hds hss hcb hp hW hj hA hE hsz hlo hup hini e10_1 e10_4 e10_5 e3_4 e3_5 e4_4 e5_4 e5_5 e60_5 e61_5 e62_5 e9_1 e9_4 e9_5 gt1b gt4b gt7b ut1b ut4b ut7b); simp only [dgood]; grind), rfl⟩
   ·(try (have qh44 := h44; norm_cast at qh44))
    have hall : b.decls.all (dgood i) = true := all_of_take hy (by omega)
    refine zX (zx (zx (b_here rfl (zO (zk (zr (zg (fun _ => R_addi e10_5 rfl (by omega)) (mI rfl (zn (zK (B' := [(w, No)]) (L' := [(t1b, cel cs 32)]) (fun w h => h.drop (List.sublist_cons_self _ _)) ?_)))))))))); exact k_again _ (by omega) ⟨i + 1, e9_5, rfl, rfl, rfl, by omega, bk_next hj hb (by unfold bkOk; rw [hd, hall]; rfl), rfl⟩
 ·(try (have qh2 := h2; norm_cast at qh2))
  refine zX (zx (zx (b_here rfl (zk (yA (aI rfl (yB (ze (zo (v := .int _ _) rfl rfl rfl ?_))))))))); exact fun w' hw => ⟨by (rw [pgOk_yes hm.six (fun j b h => hj j b (by omega))]; rfl), hw.fr _ zm0⟩
end Go.Proofs.YtoehjlmdnajibaaGreatDoor
end

section
namespace Go.Proofs.YtoehjlmdnajibaaGreatDoor
open Go.RowKit Go.Sx
open Go.Tok Go.Tree Go.Knd

abbrev ftC (f : Ft) : List Value := [.int .i64 (f.1 : Nat), .int .i64 f.2]
def outK (X : Except Ft (Nat × Bool)) : (Nat × Bool) × Ft := match X with | .ok k => (k, (0, 0)) | .error f => ((0, false), f)
def outV (X : Except Ft (List Vr)) : List Vr × Ft := match X with | .ok l => (l, (0, 0)) | .error f => ([], f)
theorem outK_ok {X : Except Ft (Nat × Bool)} {k : Nat × Bool} (h : X = .ok k) : outK X = (k, (0, 0)) := by rw [h]; rfl
theorem outK_er {X : Except Ft (Nat × Bool)} {f : Ft} (h : X = .error f) : outK X = ((0, false), f) := by rw [h]; rfl
theorem outV_ok {X : Except Ft (List Vr)} {l : List Vr} (h : X = .ok l) : outV X = (l, (0, 0)) := by rw [h]; rfl
theorem outV_er {X : Except Ft (List Vr)} {f : Ft} (h : X = .error f) : outV X = ([], f) := by rw [h]; rfl
theorem vrsW.nil {w : World} {N : Nat → Prop} : vrsW w N [] (none, 0) := ⟨vrsV.nil, fun _ => rfl⟩

theorem kcatchK_ok (fl : Ft) (ob fb : Nat) (xs ys : List Value) (hxl : xs.length = 2) (hyl : ys.length = 2) (w : World) (ho : w.heap[ob]? = some (cel xs 58)) (hf : w.heap[fb]? = some (cel ys 37)) (hne : ob ≠ fb) : CallsD Tryz.prog 60 #[.pointer (some ⟨ob, 0, none⟩), .pointer (some ⟨fb, 0, none⟩)] (.panicking (panK fl)) w fun e u w' => (∃ v, e = .returned v) ∧ settle u = .returning ∧ Fr (fun j => j = ob ∨ j = fb) w w' ∧ w'.heap[ob]? = some (cel [.int .u8 0, .bool false] 58) ∧ w'.heap[fb]? = some (cel (ftC fl) 37) := by
 refine (enterR (l := [_, _]) (t := 37) (pv := (.agg #[.int .i64 (fl.1 : Nat), .int .i64 fl.2])) (older := []) (R := fun w' => Fr (fun j => j = ob ∨ j = fb) w w' ∧ w'.heap[ob]? = some (cel [.int .u8 0, .bool false] 58) ∧ w'.heap[fb]? = some (cel (ftC fl) 37)) 10 Tryz.func60 rfl rfl rfl rfl ⟨_, _, St.start2 (S := (fun j => j = ob ∨ j = fb)) w ho hf hne (.inl rfl) (.inr rfl), ?_⟩).mono (fun e u w' ⟨h1, h2, h3⟩ => ⟨h1, by rw [h2]; rfl, h3⟩)
 refine yA (zm rfl (zg (fun _ => R_ine uni20 rfl rfl) (yB (zE rfl (yA (zA zr58 (fun nb gnb unb => yB (c_held (fun w => w.heap[nb]? = some (cel [.int .u8 0, .bool false] 58)) mixed (zh2 0 rfl rfl (fun w h => h.at_ 0 rfl) (fun w h => R_ldb z58 rfl h rfl) (zh2 1 rfl rfl (fun w h => h.at_ 0 rfl) (fun w h => R_move rfl) (zh2 2 rfl rfl (fun w h => h.at_ 0 rfl) (fun w h => R_ta tab37 rfl) (zH2 3 (fun w h => h.at_ 0 rfl) (o_storeW [.int .u8 0, .bool false] 1 rfl rfl z58 rfl rfl rfl rfl rfl hxl (zH2 4 (fun w h => h.at_ 0 rfl) (o_storeW (ftC fl) 2 rfl rfl z37 rfl rfl rfl rfl rfl hyl (zN2 (fun w h => h.at_ 0 rfl) ?_)))))))))))))))); exact r_rec (.inr rfl) rfl fun w' hw => ⟨hw.fr _ zm0, hw.at_ 1 rfl, hw.at_ 2 rfl⟩

theorem kidleK_ok (ob fb : Nat) {B : Base} {L : Heap} (w : World) (hw : St B L w) : CallsD Tryz.prog 60 #[.pointer (some ⟨ob, 0, none⟩), .pointer (some ⟨fb, 0, none⟩)] .returning w fun e u w' => (∃ v, e = .returned v) ∧ u = .returning ∧ St B L w' := by
 refine enterR0 (l := [_, _]) 10 Tryz.func60 rfl rfl rfl rfl ⟨_, _, hw, ?_⟩
 refine yA (zm rfl (zg (fun _ => R_ine0 uni20 rfl rfl) (yB (zG rfl (zi ?_))))); exact r_rec (.inr rfl) rfl fun w' hw => hw

theorem kcatchV_ok (fl : Ft) (ob fb : Nat) (xs ys : List Value) (hxl : xs.length = 1) (hyl : ys.length = 2) (w : World) (ho : w.heap[ob]? = some (cel xs 34)) (hf : w.heap[fb]? = some (cel ys 37)) (hne : ob ≠ fb) : CallsD Tryz.prog 80 #[.pointer (some ⟨ob, 0, none⟩), .pointer (some ⟨fb, 0, none⟩)] (.panicking (panK fl)) w fun e u w' => (∃ v, e = .returned v) ∧ settle u = .returning ∧ Fr (fun j => j = ob ∨ j = fb) w w' ∧ w'.heap[ob]? = some (cel [.slice none 0 0] 34) ∧ w'.heap[fb]? = some (cel (ftC fl) 37) := by
 refine (enterR (l := [_, _]) (t := 37) (pv := (.agg #[.int .i64 (fl.1 : Nat), .int .i64 fl.2])) (older := []) (R := fun w' => Fr (fun j => j = ob ∨ j = fb) w w' ∧ w'.heap[ob]? = some (cel [.slice none 0 0] 34) ∧ w'.heap[fb]? = some (cel (ftC fl) 37)) 10 Tryz.func80 rfl rfl rfl rfl ⟨_, _, St.start2 (S := (fun j => j = ob ∨ j = fb)) w ho hf hne (.inl rfl) (.inr rfl), ?_⟩).mono (fun e u w' ⟨h1, h2, h3⟩ => ⟨h1, by rw [h2]; rfl, h3⟩)
 refine yA (zm rfl (zg (fun _ => R_ine uni20 rfl rfl) (yB (zE rfl (yA (za (v := .slice _ _ _) rfl (yB (c_held (fun _ => True) mixed (zh2 0 rfl rfl (fun w h => trivial) (fun w h => R_move rfl) (zh2 1 rfl rfl (fun w h => trivial) (fun w h => R_move rfl) (zh2 2 rfl rfl (fun w h => trivial) (fun w h => R_ta tab37 rfl) (zH2 3 (fun w h => trivial) (o_storeW [.slice none 0 0] 0 rfl rfl z34 rfl rfl rfl rfl rfl hxl (zH2 4 (fun w h => trivial) (o_storeW (ftC fl) 1 rfl rfl z37 rfl rfl rfl rfl rfl hyl (zN2 (fun w h => trivial) ?_)))))))))))))))); exact r_rec (.inr rfl) rfl fun w' hw => ⟨hw.fr _ zm0, hw.at_ 0 rfl, hw.at_ 1 rfl⟩

theorem kidleV_ok (ob fb : Nat) {B : Base} {L : Heap} (w : World) (hw : St B L w) : CallsD Tryz.prog 80 #[.pointer (some ⟨ob, 0, none⟩), .pointer (some ⟨fb, 0, none⟩)] .returning w fun e u w' => (∃ v, e = .returned v) ∧ u = .returning ∧ St B L w' := by
 refine enterR0 (l := [_, _]) 10 Tryz.func80 rfl rfl rfl rfl ⟨_, _, hw, ?_⟩
 refine yA (zm rfl (zg (fun _ => R_ine0 uni20 rfl rfl) (yB (zG rfl (zi ?_))))); exact r_rec (.inr rfl) rfl fun w' hw => hw

theorem ofC_ok (x : Ex) (cs : List Value) (vs : List Vr) (va : Option Addr) (vc : Nat) (vb eb : Nat) (w : World) (hx : exW x < 10000000) (hok : exOk x = true) (hm : exM w (fun _ => True) x cs) (hv : vrsV w (fun _ => True) vs (va, vc)) (hvl : vs.length ≤ 90000000) (hvb : w.heap[vb]? = some (cel [.slice va vs.length vc] 34)) (heb : w.heap[eb]? = some (cel cs 52)) :
  RetP Tryz.prog 40 #[.pointer (some ⟨vb, 0, none⟩), .pointer (some ⟨eb, 0, none⟩)] w (RK kdV (ofK vs x) w) (EK panK (ofK vs x) w) := by
 have hG : ofK vs x = andK (ofK vs x) (fun a => .ok a) := (andK_unit _).symm
 have hcl : cs.length = 4 := exM_len hm
 refine enterP (S := No) (l := [_, _]) (L := []) 6 Tryz.func40 rfl rfl rfl (St.start w No) (yA (zA zr58 (fun t2b gt2b ut2b => yC (zl z34 rfl (fun _ h => cel_oldb hvb zm0 (fun x => x) rfl h) (w_loadW z52 rfl (fun w h => h.old heb zm0 (fun x => x)) hcl (w_kc (V := kdV) (pan := panK) zm0 hG (fun w => zR Tryz.func41 rfl rfl rfl) rfl rfl (fun w h => of_ok _ _ vs va vc w hx hok (hm.nowT zm0 h) (hv.nowT zm0 h) hvl) (fun fl w' hx1 hx2 a ha => p_out ha ⟨fl, hx1, rfl, hx2⟩) (fun q2 hX2 hG2 => ?_)))))))
 obtain ⟨q1, q2⟩ := q2
 refine zV 0 rfl z58 rfl rfl rfl rfl rfl rfl rfl (yB (ze (k_p (.inl rfl) (r_fin (.inl rfl) rfl (.agg rfl rfl z58 (fun _ h => h.at_ 0 rfl) rfl .nil) ?_)))); exact fun w' hw => ⟨_, hG2, rfl, hw.fr _ zm0⟩

theorem faceK_ok (x : Ex) (cs : List Value) (vs : List Vr) (va : Option Addr) (vc : Nat) (vb eb : Nat) (w : World) (hx : exW x < 10000000) (hok : exOk x = true) (hm : exM w (fun _ => True) x cs) (hv : vrsV w (fun _ => True) vs (va, vc)) (hvl : vs.length ≤ 90000000) (hvb : w.heap[vb]? = some (cel [.slice va vs.length vc] 34)) (heb : w.heap[eb]? = some (cel cs 52)) :
  Ret Tryz.prog 39 #[.func (.func 40) #[] #[.pointer (some ⟨vb, 0, none⟩), .pointer (some ⟨eb, 0, none⟩)]] w (fun v w' => v = (.tuple #[kdV (outK (ofK vs x)).1, .agg (ftC (outK (ofK vs x)).2).toArray]) ∧ Ext w w') := by
 refine enterD (S := No) (l := [_]) (L := []) 8 Tryz.func39 rfl rfl rfl (St.start w No) (yA (zA zr58 (fun ob gob uob => zA zr37 (fun fb gfb ufb => yC (zg (fun _ => R_makeFunc) (w_defer (fun w => R_defer (ca := [.pointer (some ⟨ob, 0, none⟩), .pointer (some ⟨fb, 0, none⟩)]) rfl) rfl rfl (yC (zm rfl ?_))))))))
 refine w_callD (R := fun w => RK kdV (ofK vs x) w) (E := fun w => EK panK (ofK vs x) w) (fun w => R_callv rfl Tryz.func40 rfl rfl) rfl rfl (fun w h => ofC_ok x cs vs va vc vb eb w hx hok (hm.nowT zm0 h) (hv.nowT zm0 h) hvl (h.old hvb zm0 (fun x => x)) (h.old heb zm0 (fun x => x))) ?_ (fun w hw ch w' hh => by obtain ⟨fl, h1, rfl, hxx⟩ := hh; have hw' := hw.ext hxx; exact d_out (l := [.cell 2 58, .cell 3 37]) (B := _) (L := _) rfl (fun _ => invoke_cl (ca := [.pointer (some ⟨ob, 0, none⟩), .pointer (some ⟨fb, 0, none⟩)]) Tryz.func60 rfl rfl) ((kcatchK_ok _ ob fb [.int .u8 0, .bool false] [.int .i64 0, .int .i64 0] rfl rfl _ (hw'.at_ 1 rfl) (hw'.at_ 0 rfl) (hw'.ne 1 0 rfl rfl (by decide))).mono (fun e u w2 ⟨h1, h2, h3, h4, h5⟩ => ⟨h1, h2, hw'.mod2 1 0 rfl rfl (by decide) h3 h4 h5⟩)) (.agg rfl rfl z58 (fun _ h => h.at_ 1 rfl) rfl (.agg rfl rfl z37 (fun _ h => h.at_ 0 rfl) rfl .nil)) (fun w2 hw2 => ⟨by rw [outK_er h1]; rfl, hw2.fr _ zm0⟩))
 rintro w1 hw1 v w2 ⟨⟨q1, q2⟩, hX, rfl, hxx⟩; refine ⟨_, _, hw1.ext hxx, ?_⟩
 refine zg (fun _ => R_build bt37 rfl) (zV 1 rfl z58 rfl rfl rfl rfl rfl rfl rfl (zV 0 rfl z37 rfl rfl rfl rfl rfl rfl rfl (yB (ze (r_finD (.inl rfl) rfl (f := 60) (ca := [.pointer (some ⟨ob, 0, none⟩), .pointer (some ⟨fb, 0, none⟩)]) (fun _ => invoke_cl Tryz.func60 rfl rfl) (fun w hw => kidleK_ok ob fb w hw) (.agg rfl rfl z58 (fun _ h => h.at_ 1 rfl) rfl (.agg rfl rfl z37 (fun _ h => h.at_ 0 rfl) rfl .nil)) ?_))))); exact fun w' hw => ⟨by rw [outK_ok hX]; rfl, hw.fr _ zm0⟩

theorem kCheckE_ok (x : Ex) (cs : List Value) (N : Nat → Prop) (w : World) (hx : exW x < 10000000) (hm : exM w N x cs) (hW : Wd w) :
  Ret Tryz.prog 38 #[.agg cs.toArray] w (fun v w' => v = .int .i64 (if exOk x then 0 else 120) ∧ Ext w w') := by
 obtain ⟨op, at_, nm, ks⟩ := x
 have hm2 := hm
 unfold exM at hm2
 obtain ⟨ka, kc, rfl, hkc, hks⟩ := hm2
 have hx2 := hx
 unfold exW at hx2
 refine enter (S := No) (l := [_]) (L := []) 6 Tryz.func38 rfl rfl rfl (St.start w No) (yA (w_boxA rfl (fun t1b gt1b ut1b => aI rfl (yB (zq (yA (zY z52 rfl (fun _ h => h.at_ 0 rfl) rfl (zC (fun w => zR Tryz.func59 rfl rfl rfl) rfl rfl (fun w h => expr_ok _ _ N w hx (hm.now (fun _ _ hh => hh) zm0 h) (hW.now zm0 h)) (zg (fun _ => R_not rfl) (yB ?_)))))))))); refine c_condN rfl (fun h2 => ?_) (fun h2 => ?_)
 ·refine yA (aI rfl (yB (ze (zt ((zo (v := .int _ _) rfl rfl rfl ?_)))))); exact fun w' hw => ⟨by simp_all, hw.fr _ zm0⟩
 ·refine zi (zk (yA (aI rfl (yB (ze (zo (v := .int _ _) rfl rfl rfl ?_)))))); exact fun w' hw => ⟨by simp_all, hw.fr _ zm0⟩

theorem KOf_ok (x : Ex) (cs : List Value) (vs : List Vr) (va : Option Addr) (vc : Nat) (w : World) (hx : exW x < 10000000) (hm : exM w (fun _ => True) x cs) (hv : vrsV w (fun _ => True) vs (va, vc)) (hvl : vs.length ≤ 90000000) (hW : Wd w) :
  Ret Tryz.prog 20 #[.agg cs.toArray, .slice va vs.length vc] w (fun v w' => v = (.tuple #[kdV (outK (kindOf x vs)).1, .agg (ftC (outK (kindOf x vs)).2).toArray]) ∧ Ext w w') := by
 have hcl : cs.length = 4 := exM_len hm
 refine enter (S := No) (l := [_, _]) (L := []) 18 Tryz.func20 rfl rfl rfl (St.start w No) (yA (w_boxA rfl (fun t2b gt2b ut2b => w_box rfl (fun t3b gt3b ut3b => zA zr58 (fun t4b gt4b ut4b => zA zr37 (fun t5b gt5b ut5b => yB (zq (yA (w_loadW z52 rfl (fun w h => h.at_ 3 rfl) hcl ?_)))))))))
 rcases hok : exOk x with _ | _
 ·refine zC (v := .int .i64 120) (fun w => zR Tryz.func38 rfl rfl rfl) rfl rfl (fun w h => by have := kCheckE_ok x cs _ w hx (hm.nowT zm0 h) (hW.now zm0 h); rw [hok] at this; exact this) ?_; refine aI rfl (yC (mI rfl (zg (fun _ => R_ne rfl rfl) (yB (zE (congrArg Value.bool (decide_eq_true (by decide))) (yA (zg (fun _ => R_build bt58 rfl) (mI rfl (zg (fun _ => R_build bt37 rfl) (zV 1 rfl z58 rfl rfl rfl rfl rfl rfl rfl (zV 0 rfl z37 rfl rfl rfl rfl rfl rfl rfl (yB (ze (zt (?_)))))))))))))))
  refine r_fin (.inl rfl) rfl (.agg rfl rfl z58 (fun _ h => h.at_ 1 rfl) rfl (.agg rfl rfl z37 (fun _ h => h.at_ 0 rfl) rfl .nil)) ?_; exact fun w' hw => ⟨by unfold kindOf; rw [hok]; rfl, hw.fr _ zm0⟩
 ·refine zC (v := .int .i64 0) (fun w => zR Tryz.func38 rfl rfl rfl) rfl rfl (fun w h => by have := kCheckE_ok x cs _ w hx (hm.nowT zm0 h) (hW.now zm0 h); rw [hok] at this; exact this) ?_; refine aI rfl (yC (mI rfl (zg (fun _ => R_ne rfl rfl) (yB (zG (congrArg Value.bool (decide_eq_false (by decide))) (zi (zk (yA (zg (fun _ => R_makeFunc) (zC (fun w => zR Tryz.func39 rfl rfl rfl) rfl rfl (fun w h => faceK_ok x cs vs va vc t3b t2b w hx hok (hm.nowT zm0 h) (hv.nowT zm0 h) hvl (h.at_ 2 rfl) (h.at_ 3 rfl)) ?_))))))))))
  refine zg (fun _ => R_extract rfl rfl) (zg (fun _ => R_extract rfl rfl) (zV 1 rfl z58 rfl rfl rfl rfl rfl rfl rfl (zV 0 rfl z37 rfl rfl rfl rfl rfl rfl rfl (yB (ze (r_fin (.inl rfl) rfl (.agg rfl rfl z58 (fun _ h => h.at_ 1 rfl) rfl (.agg rfl rfl z37 (fun _ h => h.at_ 0 rfl) rfl .nil)) ?_)))))); exact fun w' hw => ⟨by unfold kindOf; rw [hok]; rfl, hw.fr _ zm0⟩

theorem allC_ok (p : List Bk) (cs : List Value) (pb : Nat) (w : World) (hp : ∀ b ∈ p, bkW b < 10000000) (hok : pgOk p = true) (hm : pgM w (fun _ => True) p cs) (hpb : w.heap[pb]? = some (cel cs 32)) :
  RetP Tryz.prog 56 #[.pointer (some ⟨pb, 0, none⟩)] w (RN vsV vrsW (blocksK 0 [] p) w) (EK panK (blocksK 0 [] p) w) := by
 refine enterP (S := No) (l := [_]) (L := []) 32 Tryz.func56 rfl rfl rfl (St.start w No) (yA (za (v := .slice _ _ _) rfl (yC (za (v := .slice _ _ _) rfl (yB (zq (yA (zf fa32_0 rfl (w_loadW z30 rfl (fun w h => h.old hpb zm0 (fun x => x)) hm.len (mI rfl (yB (zB (c_base (fun w9 h9 => c_loop (fun m e B L => ∃ (i : Nat) (vs : List Vr) (va : Option Addr) (vc : Nat) (x : Bw), e 2 = .slice va vs.length vc ∧ e 8 = .agg cs.toArray ∧ e 9 = .int .i64 (i : Nat) ∧ B = [x, (w, No)] ∧ L = [] ∧ i ≤ 6 ∧ Kt x w.heap.size vrsW vs (va, vc) ∧ vs.length ≤ i * 10000000 ∧ blocksK 0 [] p = blocksK i vs (p.drop i) ∧ m = 6 - i) _ ⟨0, [], none, 0, _, rfl, rfl, rfl, rfl, rfl, Nat.zero_le _, (vrsW.nil : vrsW _ _ [] (none, 0)), Nat.zero_le _, rfl, rfl⟩ ?_))))))))))))))
 rintro m e B L ⟨i, vs, va, vc, x, e2_1, e8_1, e9_1, rfl, rfl, hi, hK, hvs, hG1, rfl⟩
 refine yA (zg (fun _ => R_lt e9_1 rfl) (yB (zq ?_))); refine zD rfl (fun h1 => ?_) (fun h1 => ?_)
 ·have hi6 : i < 6 := (by omega); obtain ⟨b, hb⟩ : ∃ b, p[i]? = some b := ⟨_, List.getElem?_eq_getElem (by rw [hm.six]; exact hi6)⟩; have hbw := hp b (List.mem_of_getElem? hb); unfold bkW at hbw; obtain ⟨da, dc, sa, sc, hcb, hds, hss⟩ := hm.one i b hb; obtain ⟨hfd, hfs⟩ := pg_facts hok hi6 hb; have hG2 := hG1.trans (blocksK_step' hb)
  refine zi (zk (zq (zB (yA (mI e9_1 (w_r (v := .agg (List.toArray [.bool b.is, .slice da b.decls.length dc, .slice sa b.stmts.length sc])) (fun _ => R_aidxA (i := i) ara30 e8_1 e9_1 (by omega) hcb) rfl rfl (zA zr29 (fun t4b gt4b ut4b => aI rfl (zV 0 rfl z29 rfl rfl rfl rfl rfl rfl rfl (yB (zq (yA (zf fa29_1 rfl (zL 0 z26 rfl rfl rfl (zg (fun _ => R_len sl26 rfl) (mI rfl (yB (zB (c_loop (fun m e B L => ∃ (k : Nat) (vs2 : List Vr) (va2 : Option Addr) (vc2 : Nat) (x2 : Bw), e 2 = .slice va2 vs2.length vc2 ∧ e 3 = .int .i64 (i : Nat) ∧ e 4 = .pointer (some ⟨t4b, 0, none⟩) ∧ e 8 = .agg cs.toArray ∧ e 9 = .int .i64 (i : Nat) ∧ e 14 = .slice da b.decls.length dc ∧ e 15 = .int .i64 (b.decls.length : Nat) ∧ e 16 = .int .i64 (k : Nat) ∧ B = [x2, (w, No)] ∧ L = [(t4b, cel [.bool b.is, .slice da b.decls.length dc, .slice sa b.stmts.length sc] 29)] ∧ k ≤ b.decls.length ∧ Kt x2 w.heap.size vrsW vs2 (va2, vc2) ∧ vs2.length ≤ vs.length + k ∧ blocksK 0 [] p = andK (declsK i vs2 (b.decls.drop k)) (fun l2 => andK (stmtsK i l2 b.stmts) (fun _ => blocksK (i + 1) l2 (p.drop (i + 1)))) ∧ m = b.decls.length - k) _ ⟨0, vs, va, vc, _, e2_1, rfl, rfl, e8_1, e9_1, rfl, rfl, rfl, rfl, rfl, Nat.zero_le _, hK, Nat.le_refl _, hG2, rfl⟩ ?_)))))))))))))))))))
  rintro m e B L ⟨k, vs2, va2, vc2, x2, e2_2, e3_2, e4_2, e8_2, e9_2, e14_2, e15_2, e16_2, rfl, rfl, hk, hK2, hvs2, hG3, rfl⟩
  refine yA (zg (fun _ => R_lt e16_2 e15_2) (yB (zq ?_))); refine zD rfl (fun h3 => ?_) (fun h3 => ?_)
  ·have hlt : k < b.decls.length := (by omega); obtain ⟨x, hxk⟩ : ∃ x, b.decls[k]? = some x := ⟨_, List.getElem?_eq_getElem hlt⟩; obtain ⟨cs2, hA, hE⟩ := hds k x hxk; have hxn := dcsW_mem (List.mem_of_getElem? hxk); have hdo := hfd x (List.mem_of_getElem? hxk); obtain ⟨b1, o1, rfl⟩ := hA.ptr; have hG4 := hG3.trans (declsK_step' hxk _); obtain ⟨ty, at_, nm, sz, lo, up, ini⟩ := x; have hE2 := hE; unfold dcM at hE2; obtain ⟨xa, xc, la, lc, ua, uc, ia, ic, hcs, hsz, hlo, hup, hini⟩ := hE2; simp only [] at hcs; subst hcs
   refine zi (zk (zq (zB (yA (zg (fun _ => R_iaN (i := k) sl26 e14_2 e16_2 (by omega)) (w_loadC (l := [.int .u8 (ty : Nat), .int .i64 at_, str nm, .slice xa sz.length xc, .slice la lo.length lc, .slice ua up.length uc, .slice ia ini.length ic]) z49 rfl rfl (fun w h j v hj => hA.cell (fun _ _ hh => hh) zm1 h j v hj) (zA zr49 (fun t6b gt6b ut6b => zV 0 rfl z49 rfl rfl rfl rfl rfl rfl rfl (yB (zr (mS e2_2 (zY z49 rfl (fun _ h => h.at_ 0 rfl) rfl (mI e3_2 (w_kn (V2 := vsV) (M := vrsW) (pan := panK) zm1 TL.vrw hG4 (fun w => zR Tryz.func57 rfl rfl rfl) rfl rfl (fun w h => kdecl_ok _ _ vs2 va2 vc2 i w (by omega) hdo (hE.now (x := (_, No)) (fun _ _ h => h) zm1 h) (hK2.T TL.vrw zm0 h) (by omega)) (fun fl w' hx1 hx2 a ha => p_out ha ⟨fl, hx1, rfl, hx2⟩) (fun q b9 w9 hX9 hG9 hK9 => ?_)))))))))))))))
   obtain ⟨a9, c9⟩ := b9; have hq9 := declK_len hX9
   refine za (v := .slice _ _ _) rfl (zn (zO (zk (zr (zg (fun _ => R_addi e16_2 rfl (by omega)) (mI rfl (zn ?_))))))); refine zK (B' := [_, (w, No)]) (L' := _) (fun w h => (h.drop (List.sublist_cons_self _ _)).unbase (fun x hx => by rcases List.mem_cons.1 hx with rfl | hx; exact .head _; exact .tail _ (.tail _ hx))) ?_; exact k_again _ (by omega) ⟨k + 1, q, a9, c9, _, rfl, e3_2, e4_2, e8_2, e9_2, e14_2, e15_2, rfl, rfl, rfl, by omega, hK9, by omega, hG9, rfl⟩
  ·have hG5 := hG3.trans (declsK_end' (by omega) _)
   refine zX (zx (zx (b_here rfl (zk (zr (mS e2_2 (zf fa29_2 e4_2 (zL 0 z27 rfl rfl rfl (mI e3_2 (w_kc (V := (fun _ => .tuple #[])) (pan := panK) zm1 hG5 (fun w => zR Tryz.func58 rfl rfl rfl) rfl rfl (fun w h => kstmts_ok b.stmts sa sc vs2 va2 vc2 i w (by omega) hfs (by omega) (hss.nowT zm1 h) (hK2.T TL.vrw zm0 h) (by omega)) (fun fl w' hx1 hx2 a ha => p_out ha ⟨fl, hx1, rfl, hx2⟩) (fun q5 hX5 hG5 => zn (zO (zk (zr (zg (fun _ => R_addi e9_2 rfl (by omega)) (mI rfl (zn (zK (B' := [x2, (w, No)]) (L' := []) (fun w h => h.drop (List.nil_sublist _)) ?_)))))))))))))))))); exact k_again _ (by omega) ⟨i + 1, vs2, va2, vc2, _, e2_2, e8_2, rfl, rfl, rfl, by omega, hK2, by omega, hG5, rfl⟩
 ·refine zX (zx (zx (b_here rfl (zk (yA (mS e2_1 (za (v := .slice _ _ _) rfl (yB (ze (k_p (.inl rfl) (zo (v := .slice _ _ _) rfl rfl rfl ?_))))))))))); exact fun w' hw => ⟨vs, (va, vc), hG1.trans (blocksK_end (by rw [hm.six]; omega)), rfl, hK.fin TL.vrw zm0 hw, hw.fr _ zm1⟩

theorem faceV_ok (p : List Bk) (cs : List Value) (pb : Nat) (w : World) (hp : ∀ b ∈ p, bkW b < 10000000) (hok : pgOk p = true) (hm : pgM w (fun _ => True) p cs) (hpb : w.heap[pb]? = some (cel cs 32)) :
  Ret Tryz.prog 55 #[.func (.func 56) #[] #[.pointer (some ⟨pb, 0, none⟩)]] w (fun v w' => ∃ b : Option Addr × Nat, v = .tuple #[vsV (outV (blocksK 0 [] p)).1 b, .agg (ftC (outV (blocksK 0 [] p)).2).toArray] ∧ vrsW w' (Nn w w') (outV (blocksK 0 [] p)).1 b ∧ Ext w w') := by
 refine enterD (S := No) (l := [_]) (L := []) 8 Tryz.func55 rfl rfl rfl (St.start w No) (yA (zA zr34 (fun ob gob uob => zA zr37 (fun fb gfb ufb => yC (zg (fun _ => R_makeFunc) (w_defer (fun w => R_defer (ca := [.pointer (some ⟨ob, 0, none⟩), .pointer (some ⟨fb, 0, none⟩)]) rfl) rfl rfl (yC (zm rfl ?_))))))))
 refine w_callD (R := fun w => RN vsV vrsW (blocksK 0 [] p) w) (E := fun w => EK panK (blocksK 0 [] p) w) (fun w => R_callv rfl Tryz.func56 rfl rfl) rfl rfl (fun w h => allC_ok p cs pb w hp hok (hm.now (x := (_, No)) (fun _ _ h => h) zm0 h) (h.old hpb zm0 (fun x => x))) ?_ (fun w hw ch w' hh => by obtain ⟨fl, h1, rfl, hxx⟩ := hh; have hw' := hw.ext hxx; exact d_out (l := [.cell 2 34, .cell 3 37]) (B := _) (L := _) rfl (fun _ => invoke_cl (ca := [.pointer (some ⟨ob, 0, none⟩), .pointer (some ⟨fb, 0, none⟩)]) Tryz.func80 rfl rfl) ((kcatchV_ok _ ob fb [.slice none 0 0] [.int .i64 0, .int .i64 0] rfl rfl _ (hw'.at_ 1 rfl) (hw'.at_ 0 rfl) (hw'.ne 1 0 rfl rfl (by decide))).mono (fun e u w2 ⟨h1, h2, h3, h4, h5⟩ => ⟨h1, h2, hw'.mod2 1 0 rfl rfl (by decide) h3 h4 h5⟩)) (.cell rfl rfl z34 (fun _ h => zc 1 rfl rfl h) (.agg rfl rfl z37 (fun _ h => h.at_ 0 rfl) rfl .nil)) (fun w2 hw2 => ⟨(none, 0), by rw [outV_er h1]; rfl, by rw [outV_er h1]; exact vrsW.nil, hw2.fr _ zm0⟩))
 rintro w1 hw1 v w2 ⟨l2, b2, hX, rfl, hM, hxx⟩; refine ⟨_, _, (hw1.ext hxx).base1, ?_⟩; have hK : Kt (w2, inL [_, _]) w.heap.size vrsW l2 b2 := Kt.new hM TL.vrw hw1 (hw1.fr _ zm0).size
 refine zg (fun _ => R_build bt37 rfl) (zV 1 rfl z34 rfl rfl rfl rfl rfl rfl rfl (zV 0 rfl z37 rfl rfl rfl rfl rfl rfl rfl (yB (ze (r_finD (.inl rfl) rfl (f := 80) (ca := [.pointer (some ⟨ob, 0, none⟩), .pointer (some ⟨fb, 0, none⟩)]) (fun _ => invoke_cl Tryz.func80 rfl rfl) (fun w hw => kidleV_ok ob fb w hw) (.cell rfl rfl z34 (fun _ h => zc 1 rfl rfl h) (.agg rfl rfl z37 (fun _ h => h.at_ 0 rfl) rfl .nil)) ?_))))); exact fun w' hw => ⟨b2, by rw [outV_ok hX]; rfl, by rw [outV_ok hX]; exact hK.fin TL.vrw zm0 hw, hw.fr _ zm1⟩

theorem kall_ok (p : List Bk) (cs : List Value) (w : World) (hp : ∀ b ∈ p, bkW b < 10000000) (hm : pgM w (fun _ => True) p cs) (hW : Wd w) :
  Ret Tryz.prog 35 #[.agg cs.toArray] w (fun v w' => ∃ b : Option Addr × Nat, v = .tuple #[vsV (outV (allK p)).1 b, .agg (ftC (outV (allK p)).2).toArray] ∧ vrsW w' (Nn w w') (outV (allK p)).1 b ∧ Ext w w') := by
 refine enter (S := No) (l := [_]) (L := []) 15 Tryz.func35 rfl rfl rfl (St.start w No) (yA (w_boxA rfl (fun t1b gt1b ut1b => za (v := .slice _ _ _) rfl (zA zr37 (fun t3b gt3b ut3b => yB (zq (yA (w_loadW z32 rfl (fun w h => h.at_ 1 rfl) hm.len ?_))))))))
 rcases hok : pgOk p with _ | _
 ·refine zC (v := .int .i64 120) (fun w => zR Tryz.func54 rfl rfl rfl) rfl rfl (fun w h => by have := Check_spec p cs _ w hp (hm.now (x := (_, No)) (fun _ _ h => h) zm0 h) (hW.now zm0 h); rw [hok] at this; exact this) ?_; refine aI rfl (yC (mI rfl (zg (fun _ => R_ne rfl rfl) (yB (zE (congrArg Value.bool (decide_eq_true (by decide))) (yA (mI rfl (zg (fun _ => R_build bt37 rfl) (za (v := .slice _ _ _) rfl (zV 0 rfl z37 rfl rfl rfl rfl rfl rfl rfl (yB (ze (zt (?_))))))))))))))
  refine r_fin (.inl rfl) rfl (.tmp rfl rfl (.agg rfl rfl z37 (fun _ h => h.at_ 0 rfl) rfl .nil)) ?_; exact fun w' hw => ⟨(none, 0), by unfold allK; rw [hok]; rfl, by unfold allK; rw [hok]; exact vrsW.nil, hw.fr _ zm0⟩
 ·refine zC (v := .int .i64 0) (fun w => zR Tryz.func54 rfl rfl rfl) rfl rfl (fun w h => by have := Check_spec p cs _ w hp (hm.now (x := (_, No)) (fun _ _ h => h) zm0 h) (hW.now zm0 h); rw [hok] at this; exact this) ?_; refine aI rfl (yC (mI rfl (zg (fun _ => R_ne rfl rfl) (yB (zG (congrArg Value.bool (decide_eq_false (by decide))) (zi (zk (yA (zg (fun _ => R_makeFunc) (zP (fun w => zR Tryz.func55 rfl rfl rfl) rfl rfl (fun w h => faceV_ok p cs t1b w hp hok (hm.now (x := (_, No)) (fun _ _ h => h) zm0 h) (h.at_ 1 rfl)) ?_))))))))))
  rintro w1 hw1 v w2 ⟨⟨a2, c2⟩, rfl, hM, hxx⟩; refine ⟨_, _, (hw1.ext hxx).base1, ?_⟩; have hK : Kt (w2, inL [_, _]) w.heap.size vrsW _ (a2, c2) := Kt.new hM TL.vrw hw1 (hw1.fr _ zm0).size
  refine zg (fun _ => R_extract rfl rfl) (zg (fun _ => R_extract rfl rfl) (za (v := .slice _ _ _) rfl (zV 0 rfl z37 rfl rfl rfl rfl rfl rfl rfl (yB (ze (r_fin (.inl rfl) rfl (.tmp rfl rfl (.agg rfl rfl z37 (fun _ h => h.at_ 0 rfl) rfl .nil)) ?_)))))); exact fun w' hw => ⟨(a2, c2), by unfold allK; rw [if_pos hok]; rfl, by unfold allK; rw [if_pos hok]; exact hK.fin TL.vrw zm0 hw, hw.fr _ zm1⟩

theorem kCheck_ok (p : List Bk) (cs : List Value) (w : World) (hp : ∀ b ∈ p, bkW b < 10000000) (hm : pgM w (fun _ => True) p cs) (hW : Wd w) :
  Ret Tryz.prog 14 #[.agg cs.toArray] w (fun v w' => v = .agg (ftC (outV (allK p)).2).toArray ∧ Ext w w') := by
 refine enter (S := No) (l := [_]) (L := []) 11 Tryz.func14 rfl rfl rfl (St.start w No) (yA (w_boxA rfl (fun t1b gt1b ut1b => zA zr37 (fun t2b gt2b ut2b => yC (w_loadW z32 rfl (fun w h => h.at_ 1 rfl) hm.len (zP (fun w => zR Tryz.func35 rfl rfl rfl) rfl rfl (fun w h => kall_ok p cs w hp (hm.now (x := (_, No)) (fun _ _ h => h) zm0 h) (hW.now zm0 h)) ?_))))))
 rintro w1 hw1 v w2 ⟨⟨a2, c2⟩, rfl, hM, hxx⟩; refine ⟨_, _, hw1.ext hxx, ?_⟩; clear hM
 refine zm rfl (zg (fun _ => R_extract rfl rfl) (zg (fun _ => R_extract rfl rfl) (zA zr37 (fun t4b gt4b ut4b => za (v := .slice _ _ _) rfl (zV 0 rfl z37 rfl rfl rfl rfl rfl rfl rfl (yC (zY z37 rfl (fun _ h => h.at_ 0 rfl) rfl (zV 1 rfl z37 rfl rfl rfl rfl rfl rfl rfl (yB (ze (r_fin (.inl rfl) rfl (.agg rfl rfl z37 (fun _ h => h.at_ 1 rfl) rfl .nil) ?_))))))))))); exact fun w' hw => ⟨rfl, hw.fr _ zm0⟩

end Go.Proofs.YtoehjlmdnajibaaGreatDoor
end
