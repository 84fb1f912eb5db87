/- Layer 13, ParseWrites. Part 10 of 15. -/
import Derived.Test.YtaniogadknakoaaGreatDoorW09
set_option maxRecDepth 100000
set_option maxHeartbeats 16000000
section
namespace Go.Proofs.YtaniogadknakoaaGreatDoor
open Go.RowKit Go.Sx
open Go.Tok Go.Tree

theorem decl_spec (x : Dc) (cs : List Value) (N : Nat → Prop) (w : World) (hx : dcW x < 10000000) (hm : dcM w N x cs) (hW : Wd w) :
  Ret Tryz.prog 76 #[.agg cs.toArray] w (fun v w' => v = .bool (dcOk x) ∧ Ext w w') := by
 obtain ⟨ty, at_, nm, sz, lo, up, ini⟩ := x
 have hm2 := hm
 unfold dcM at hm2
 obtain ⟨sa, sc, la, lc, ua, uc, ia, ic, hcs, hsz, hlo, hup, hini⟩ := hm2
 simp only [] at hcs
 subst hcs
 have hx2 := hx
 simp only [dcW] at hx2
 simp only [] at hsz hlo hup hini
 refine enter (S := No) (l := [_]) (L := []) 63 Tryz.func76 rfl rfl rfl (St.start w No) (yA (w_boxA rfl (fun t1b gt1b ut1b => aB rfl (yC (zf fa46_0 rfl (zL 0 z5 rfl rfl rfl (zg (fun _ => R_ge rfl rfl) (aB rfl (yB (zq (yA (zf fa46_0 rfl (zL 0 z5 rfl rfl rfl (zg (fun _ => R_lt rfl rfl) (mB rfl ?_))))))))))))))); refine zd (t := 12) rfl (fun h2 => ?_) (fun h2 => ?_)
 ·(try (have qh2 := h2; norm_cast at qh2))
  refine zs rfl rfl (bT h2) (zs rfl rfl (bT h2) (zs rfl rfl (bT h2) (zg (v := .bool _) (fun _ => zT (bT h2) rfl) (mB rfl ?_)))); (iterate 4 refine zs rfl rfl rfl ?_); refine zg (v := .bool _) (fun _ => zT rfl rfl) (mB rfl ?_); (iterate 6 refine zs rfl rfl rfl ?_); refine zg (v := .bool _) (fun _ => zT rfl rfl) (mB rfl (zs rfl rfl rfl (zs rfl rfl rfl ?_)))
  (iterate 2 refine zs rfl rfl rfl ?_); refine zU rfl rfl rfl (zU rfl rfl rfl (zU rfl rfl rfl (zU rfl rfl rfl (zs rfl rfl rfl (zg (v := .bool _) (fun _ => zT rfl rfl) (yB (zE rfl (yA (aB rfl (yB (ze (zt (?_)))))))))))))
  refine zo (v := .bool _) rfl rfl rfl ?_; exact fun w' hw => ⟨by (try clear hw hm hW hsz hlo hup hini gt1b ut1b); simp only [dcOk, partOk]; grind, hw.fr _ zm0⟩
 ·(try (have qh2 := h2; norm_cast at qh2))
  refine zw rfl rfl (bF h2) (zf fa46_0 rfl (zw rfl rfl (bF h2) (zL 0 z5 rfl rfl rfl (zw rfl rfl (bF h2) (zg (fun _ => R_gt rfl rfl) (zg (v := .bool _) (fun _ => zF (bF h2) rfl) (mB rfl ?_))))))); refine zd (t := 17) rfl (fun h3 => ?_) (fun h3 => ?_)
  ·(try (have qh3 := h3; norm_cast at qh3))
   refine zs rfl rfl (bT h3) (zs rfl rfl (bT h3) (zs rfl rfl (bT h3) (zs rfl rfl (bT h3) (zg (v := .bool _) (fun _ => zT (bT h3) rfl) (mB rfl ?_))))); (iterate 6 refine zs rfl rfl rfl ?_); refine zg (v := .bool _) (fun _ => zT rfl rfl) (mB rfl ?_); (iterate 4 refine zs rfl rfl rfl ?_); refine zU rfl rfl rfl (zU rfl rfl rfl (zU rfl rfl rfl ?_))
   refine zU rfl rfl rfl (zs rfl rfl rfl (zg (v := .bool _) (fun _ => zT rfl rfl) (yB (zE rfl (yA (aB rfl (yB (ze (zt ((zo (v := .bool _) rfl rfl rfl ?_))))))))))); exact fun w' hw => ⟨by (try clear hw hm hW hsz hlo hup hini gt1b ut1b); simp only [dcOk, partOk]; grind, hw.fr _ zm0⟩
  ·(try (have qh3 := h3; norm_cast at qh3))
   refine zw rfl rfl (bF h3) (zf fa46_2 rfl (zw rfl rfl (bF h3) (zL 0 z9 rfl rfl rfl (zw rfl rfl (bF h3) (zC (fun w => zR Tryz.func96 rfl rfl rfl) rfl rfl (fun w h => Name_spec _ (by omega) w (hW.now zm0 h)) (zw rfl rfl (bF h3) (zg (fun _ => R_not rfl) (zg (v := .bool _) (fun _ => zF (bF h3) rfl) (mB rfl ?_))))))))); refine zp (t := 23) rfl (fun h4 => ?_) (fun h4 => ?_)
   ·(try (have qh4 := h4; norm_cast at qh4))
    refine zs rfl rfl (bV h4) (zs rfl rfl (bV h4) (zs rfl rfl (bV h4) (zs rfl rfl (bV h4) (zs rfl rfl (bV h4) (zs rfl rfl (bV h4) (zg (v := .bool _) (fun _ => zT (bV h4) rfl) (mB rfl ?_))))))); (iterate 4 refine zs rfl rfl rfl ?_); refine zU rfl rfl rfl (zU rfl rfl rfl (zU rfl rfl rfl (zU rfl rfl rfl (zs rfl rfl rfl (zg (v := .bool _) (fun _ => zT rfl rfl) (yB (zE rfl (yA (aB rfl (yB (ze (zt (?_)))))))))))))
    refine zo (v := .bool _) rfl rfl rfl ?_; exact fun w' hw => ⟨by (try clear hw hm hW hsz hlo hup hini gt1b ut1b); simp only [dcOk, partOk]; grind, hw.fr _ zm0⟩
   ·(try (have qh4 := h4; norm_cast at qh4))
    refine zw rfl rfl (bV h4) (zf fa46_3 rfl (zw rfl rfl (bV h4) (zL 0 z37 rfl rfl rfl (zw rfl rfl (bV h4) (zg (fun _ => R_len sl37 rfl) (zw rfl rfl (bV h4) (zg (fun _ => R_eq rfl rfl) (zw rfl rfl (bV h4) (mB rfl (zw rfl rfl (bV h4) (zg (fun _ => R_bne unb4 rfl rfl) (zg (v := .bool _) (fun _ => zF (bV h4) rfl) (mB rfl ?_))))))))))))); refine zp (t := 31) rfl (fun h5 => ?_) (fun h5 => ?_)
    ·(try (have qh5 := h5; norm_cast at qh5))
     refine zs rfl rfl (bV h5) (zs rfl rfl (bV h5) (zs rfl rfl (bV h5) (zs rfl rfl (bV h5) (zU rfl rfl rfl (zU rfl rfl rfl (zU rfl rfl rfl (zU rfl rfl rfl (zs rfl rfl (bV h5) (zg (v := .bool _) (fun _ => zT (bV h5) rfl) (yB (zE rfl (yA (aB rfl (yB (ze (zt ((zo (v := .bool _) rfl rfl rfl ?_)))))))))))))))))); exact fun w' hw => ⟨by (try clear hw hm hW hsz hlo hup hini gt1b ut1b); simp only [dcOk, partOk]; grind, hw.fr _ zm0⟩
    ·(try (have qh5 := h5; norm_cast at qh5))
     refine zw rfl rfl (bV h5) (zf fa46_0 rfl (zw rfl rfl (bV h5) (zL 0 z5 rfl rfl rfl (zw rfl rfl (bV h5) (zg (fun _ => R_gt rfl rfl) (zw rfl rfl (bV h5) (mB rfl ?_))))))); refine zd (t := 35) rfl (fun h6 => ?_) (fun h6 => ?_)
     ·(try (have qh6 := h6; norm_cast at qh6))
      refine zw rfl rfl (bT h6) (zf fa46_6 rfl (zw rfl rfl (bT h6) (zL 0 z37 rfl rfl rfl (zw rfl rfl (bT h6) (zg (fun _ => R_len sl37 rfl) (zw rfl rfl (bT h6) (zg (fun _ => R_gt rfl rfl) (zw rfl rfl (bV h5) (zg (v := .bool _) (fun _ => zT (bT h6) rfl) (zg (v := .bool _) (fun _ => zF (bV h5) rfl) (yB ?_))))))))))); refine zD rfl (fun h7 => ?_) (fun h7 => ?_)
      ·(try (have qh7 := h7; norm_cast at qh7))
       refine yA (aB rfl (yB (ze (zt ((zo (v := .bool _) rfl rfl rfl ?_)))))); exact fun w' hw => ⟨by (try clear hw hm hW hsz hlo hup hini gt1b ut1b); simp only [dcOk, partOk]; grind, hw.fr _ zm0⟩
      ·(try (have qh7 := h7; norm_cast at qh7))
       refine zi (zk (zq (yA (zf fa46_3 rfl (zL 0 z37 rfl rfl rfl (zf fa46_4 rfl (zL 0 z37 rfl rfl rfl (zf fa46_5 rfl (zL 0 z37 rfl rfl rfl (zf fa46_6 rfl (zL 0 z37 rfl rfl rfl (zg (fun _ => R_buildA ar146 zr146 rfl) (mI rfl (yB (zB (c_rounds 5 (yA (zg (fun _ => R_lt rfl rfl) (yB (zq (zE (congrArg Value.bool (decide_eq_true (by decide))) (zi (zk (zq (zB (yA (zg (fun _ => R_aidx (i := 0) ar146 rfl rfl rfl rfl) (za (v := .slice _ _ _) rfl (yC (mS rfl (zg (fun _ => R_len sl37 rfl) (zg (fun _ => R_gt rfl rfl) (mB rfl ?_))))))))))))))))))))))))))))))))); refine zd (t := 57) rfl (fun h8 => ?_) (fun h8 => ?_)
       ·(try (have qh8 := h8; norm_cast at qh8))
        refine zs rfl rfl (bT h8) (zs rfl rfl (bT h8) (zs rfl rfl (bT h8) (zg (v := .bool _) (fun _ => zT (bT h8) rfl) (yB (zE rfl (yA (aB rfl (yB (ze (zb (zt (zt (zb (zt ((zo (v := .bool _) rfl rfl rfl ?_)))))))))))))))); exact fun w' hw => ⟨by (try clear hw hm hW hsz hlo hup hini gt1b ut1b); simp only [dcOk, partOk]; grind, hw.fr _ zm0⟩
       ·(try (have qh8 := h8; norm_cast at qh8))
        refine zw rfl rfl (bF h8) (mS rfl (zw rfl rfl (bF h8) (zC (fun w => zR Tryz.func100 rfl rfl rfl) rfl rfl (fun w h => exprs_ok sz sa sc N w (by omega) (by omega) (hsz.now (fun _ _ hh => hh) zm0 h) (hW.now zm0 h)) (zw rfl rfl (bF h8) (zg (fun _ => R_not rfl) (zg (v := .bool _) (fun _ => zF (bF h8) rfl) (yB ?_))))))); refine c_condN rfl (fun h9 => ?_) (fun h9 => ?_)
        ·(try (have qh9 := h9; norm_cast at qh9))
         refine yA (aB rfl (yB (ze (zb (zt (zt (zb (zt ((zo (v := .bool _) rfl rfl rfl ?_)))))))))); exact fun w' hw => ⟨by (try clear hw hm hW hsz hlo hup hini gt1b ut1b); simp only [dcOk, partOk]; grind, hw.fr _ zm0⟩
        ·(try (have qh9 := h9; norm_cast at qh9))
         refine zi (zO (zk (zr (zg (fun _ => R_addi rfl rfl (by omega)) (mI rfl (zn (k_rounds (yA (zg (fun _ => R_lt rfl rfl) (yB (zq (zE (congrArg Value.bool (decide_eq_true (by decide))) (zi (zk (zq (zB (yA (zg (fun _ => R_aidx (i := 1) ar146 rfl rfl rfl rfl) (za (v := .slice _ _ _) rfl (yC (mS rfl (zg (fun _ => R_len sl37 rfl) (zg (fun _ => R_gt rfl rfl) (mB rfl ?_))))))))))))))))))))))))
         refine zd (t := 57) rfl (fun h10 => ?_) (fun h10 => ?_)
         ·(try (have qh10 := h10; norm_cast at qh10))
          refine zs rfl rfl (bT h10) (zs rfl rfl (bT h10) (zs rfl rfl (bT h10) (zg (v := .bool _) (fun _ => zT (bT h10) rfl) (yB (zE rfl (yA (aB rfl (yB (ze (zb (zt (zt (zb (zt ((zo (v := .bool _) rfl rfl rfl ?_)))))))))))))))); exact fun w' hw => ⟨by (try clear hw hm hW hsz hlo hup hini gt1b ut1b); simp only [dcOk, partOk]; grind, hw.fr _ zm0⟩
         ·(try (have qh10 := h10; norm_cast at qh10))
          refine zw rfl rfl (bF h10) (mS rfl (zw rfl rfl (bF h10) (zC (fun w => zR Tryz.func100 rfl rfl rfl) rfl rfl (fun w h => exprs_ok lo la lc N w (by omega) (by omega) (hlo.now (fun _ _ hh => hh) zm0 h) (hW.now zm0 h)) (zw rfl rfl (bF h10) (zg (fun _ => R_not rfl) (zg (v := .bool _) (fun _ => zF (bF h10) rfl) (yB ?_))))))); refine c_condN rfl (fun h11 => ?_) (fun h11 => ?_)
          ·(try (have qh11 := h11; norm_cast at qh11))
           refine yA (aB rfl (yB (ze (zb (zt (zt (zb (zt ((zo (v := .bool _) rfl rfl rfl ?_)))))))))); exact fun w' hw => ⟨by (try clear hw hm hW hsz hlo hup hini gt1b ut1b); simp only [dcOk, partOk]; grind, hw.fr _ zm0⟩
          ·(try (have qh11 := h11; norm_cast at qh11))
           refine zi (zO (zk (zr (zg (fun _ => R_addi rfl rfl (by omega)) (mI rfl (zn (k_rounds (yA (zg (fun _ => R_lt rfl rfl) (yB (zq (zE (congrArg Value.bool (decide_eq_true (by decide))) (zi (zk (zq (zB (yA (zg (fun _ => R_aidx (i := 2) ar146 rfl rfl rfl rfl) (za (v := .slice _ _ _) rfl (yC (mS rfl (zg (fun _ => R_len sl37 rfl) (zg (fun _ => R_gt rfl rfl) (mB rfl ?_))))))))))))))))))))))))
           refine zd (t := 57) rfl (fun h12 => ?_) (fun h12 => ?_)
           ·(try (have qh12 := h12; norm_cast at qh12))
            refine zs rfl rfl (bT h12) (zs rfl rfl (bT h12) (zs rfl rfl (bT h12) (zg (v := .bool _) (fun _ => zT (bT h12) rfl) (yB (zE rfl (yA (aB rfl (yB (ze (zb (zt (zt (zb (zt ((zo (v := .bool _) rfl rfl rfl ?_)))))))))))))))); exact fun w' hw => ⟨by (try clear hw hm hW hsz hlo hup hini gt1b ut1b); simp only [dcOk, partOk]; grind, hw.fr _ zm0⟩
           ·(try (have qh12 := h12; norm_cast at qh12))
            refine zw rfl rfl (bF h12) (mS rfl (zw rfl rfl (bF h12) (zC (fun w => zR Tryz.func100 rfl rfl rfl) rfl rfl (fun w h => exprs_ok up ua uc N w (by omega) (by omega) (hup.now (fun _ _ hh => hh) zm0 h) (hW.now zm0 h)) (zw rfl rfl (bF h12) (zg (fun _ => R_not rfl) (zg (v := .bool _) (fun _ => zF (bF h12) rfl) (yB ?_))))))); refine c_condN rfl (fun h13 => ?_) (fun h13 => ?_)
            ·(try (have qh13 := h13; norm_cast at qh13))
             refine yA (aB rfl (yB (ze (zb (zt (zt (zb (zt ((zo (v := .bool _) rfl rfl rfl ?_)))))))))); exact fun w' hw => ⟨by (try clear hw hm hW hsz hlo hup hini gt1b ut1b); simp only [dcOk, partOk]; grind, hw.fr _ zm0⟩
            ·(try (have qh13 := h13; norm_cast at qh13))
             refine zi (zO (zk (zr (zg (fun _ => R_addi rfl rfl (by omega)) (mI rfl (zn (k_rounds (yA (zg (fun _ => R_lt rfl rfl) (yB (zq (zE (congrArg Value.bool (decide_eq_true (by decide))) (zi (zk (zq (zB (yA (zg (fun _ => R_aidx (i := 3) ar146 rfl rfl rfl rfl) (za (v := .slice _ _ _) rfl (yC (mS rfl (zg (fun _ => R_len sl37 rfl) (zg (fun _ => R_gt rfl rfl) (mB rfl ?_))))))))))))))))))))))))
             refine zd (t := 57) rfl (fun h14 => ?_) (fun h14 => ?_)
             ·(try (have qh14 := h14; norm_cast at qh14))
              refine zs rfl rfl (bT h14) (zs rfl rfl (bT h14) (zs rfl rfl (bT h14) (zg (v := .bool _) (fun _ => zT (bT h14) rfl) (yB (zE rfl (yA (aB rfl (yB (ze (zb (zt (zt (zb (zt ((zo (v := .bool _) rfl rfl rfl ?_)))))))))))))))); exact fun w' hw => ⟨by (try clear hw hm hW hsz hlo hup hini gt1b ut1b); simp only [dcOk, partOk]; grind, hw.fr _ zm0⟩
             ·(try (have qh14 := h14; norm_cast at qh14))
              refine zw rfl rfl (bF h14) (mS rfl (zw rfl rfl (bF h14) (zC (fun w => zR Tryz.func100 rfl rfl rfl) rfl rfl (fun w h => exprs_ok ini ia ic N w (by omega) (by omega) (hini.now (fun _ _ hh => hh) zm0 h) (hW.now zm0 h)) (zw rfl rfl (bF h14) (zg (fun _ => R_not rfl) (zg (v := .bool _) (fun _ => zF (bF h14) rfl) (yB ?_))))))); refine c_condN rfl (fun h15 => ?_) (fun h15 => ?_)
              ·(try (have qh15 := h15; norm_cast at qh15))
               refine yA (aB rfl (yB (ze (zb (zt (zt (zb (zt ((zo (v := .bool _) rfl rfl rfl ?_)))))))))); exact fun w' hw => ⟨by (try clear hw hm hW hsz hlo hup hini gt1b ut1b); simp only [dcOk, partOk]; grind, hw.fr _ zm0⟩
              ·(try (have qh15 := h15; norm_cast at qh15))
               refine zi (zO (zk (zr (zg (fun _ => R_addi rfl rfl (by omega)) (mI rfl (zn (k_rounds (yA (zg (fun _ => R_lt rfl rfl) (yB (zq (zG (congrArg Value.bool (decide_eq_false (by decide))) (zX (zx (zx (b_here rfl (zk (yA (aB rfl (yB (ze (zo (v := .bool _) rfl rfl rfl ?_)))))))))))))))))))))); exact fun w' hw => ⟨by (try clear hw hm hW hsz hlo hup hini gt1b ut1b); simp only [dcOk, partOk]; grind, hw.fr _ zm0⟩
     ·(try (have qh6 := h6; norm_cast at qh6))
      refine zs rfl rfl (bF h6) (zs rfl rfl (bF h6) (zs rfl rfl (bF h6) (zs rfl rfl (bF h6) (zw rfl rfl (bV h5) (zg (v := .bool _) (fun _ => zF (bF h6) rfl) (zg (v := .bool _) (fun _ => zF (bV h5) rfl) (yB (zG rfl (zi (zk (zq (yA (zf fa46_3 rfl (zL 0 z37 rfl rfl rfl (zf fa46_4 rfl (zL 0 z37 rfl rfl rfl (zf fa46_5 rfl (zL 0 z37 rfl rfl rfl (zf fa46_6 rfl (zL 0 z37 rfl rfl rfl (zg (fun _ => R_buildA ar146 zr146 rfl) (mI rfl (yB (zB (c_rounds 5 (yA (zg (fun _ => R_lt rfl rfl) (yB (zq (zE (congrArg Value.bool (decide_eq_true (by decide))) (zi (zk (zq (zB (yA (zg (fun _ => R_aidx (i := 0) ar146 rfl rfl rfl rfl) (za (v := .slice _ _ _) rfl (yC (mS rfl (zg (fun _ => R_len sl37 rfl) (zg (fun _ => R_gt rfl rfl) (mB rfl ?_)))))))))))))))))))))))))))))))))))))))))); refine zd (t := 57) rfl (fun h16 => ?_) (fun h16 => ?_)
      ·(try (have qh16 := h16; norm_cast at qh16))
       refine zs rfl rfl (bT h16) (zs rfl rfl (bT h16) (zs rfl rfl (bT h16) (zg (v := .bool _) (fun _ => zT (bT h16) rfl) (yB (zE rfl (yA (aB rfl (yB (ze (zb (zt (zt (zb (zt ((zo (v := .bool _) rfl rfl rfl ?_)))))))))))))))); exact fun w' hw => ⟨by (try clear hw hm hW hsz hlo hup hini gt1b ut1b); simp only [dcOk, partOk]; grind, hw.fr _ zm0⟩
      ·(try (have qh16 := h16; norm_cast at qh16))
       refine zw rfl rfl (bF h16) (mS rfl (zw rfl rfl (bF h16) (zC (fun w => zR Tryz.func100 rfl rfl rfl) rfl rfl (fun w h => exprs_ok sz sa sc N w (by omega) (by omega) (hsz.now (fun _ _ hh => hh) zm0 h) (hW.now zm0 h)) (zw rfl rfl (bF h16) (zg (fun _ => R_not rfl) (zg (v := .bool _) (fun _ => zF (bF h16) rfl) (yB ?_))))))); refine c_condN rfl (fun h17 => ?_) (fun h17 => ?_)
       ·(try (have qh17 := h17; norm_cast at qh17))
        refine yA (aB rfl (yB (ze (zb (zt (zt (zb (zt ((zo (v := .bool _) rfl rfl rfl ?_)))))))))); exact fun w' hw => ⟨by (try clear hw hm hW hsz hlo hup hini gt1b ut1b); simp only [dcOk, partOk]; grind, hw.fr _ zm0⟩
       ·(try (have qh17 := h17; norm_cast at qh17))
        refine zi (zO (zk (zr (zg (fun _ => R_addi rfl rfl (by omega)) (mI rfl (zn (k_rounds (yA (zg (fun _ => R_lt rfl rfl) (yB (zq (zE (congrArg Value.bool (decide_eq_true (by decide))) (zi (zk (zq (zB (yA (zg (fun _ => R_aidx (i := 1) ar146 rfl rfl rfl rfl) (za (v := .slice _ _ _) rfl (yC (mS rfl (zg (fun _ => R_len sl37 rfl) (zg (fun _ => R_gt rfl rfl) (mB rfl ?_))))))))))))))))))))))))
        refine zd (t := 57) rfl (fun h18 => ?_) (fun h18 => ?_)
        ·(try (have qh18 := h18; norm_cast at qh18))
         refine zs rfl rfl (bT h18) (zs rfl rfl (bT h18) (zs rfl rfl (bT h18) (zg (v := .bool _) (fun _ => zT (bT h18) rfl) (yB (zE rfl (yA (aB rfl (yB (ze (zb (zt (zt (zb (zt ((zo (v := .bool _) rfl rfl rfl ?_)))))))))))))))); exact fun w' hw => ⟨by (try clear hw hm hW hsz hlo hup hini gt1b ut1b); simp only [dcOk, partOk]; grind, hw.fr _ zm0⟩
        ·(try (have qh18 := h18; norm_cast at qh18))
         refine zw rfl rfl (bF h18) (mS rfl (zw rfl rfl (bF h18) (zC (fun w => zR Tryz.func100 rfl rfl rfl) rfl rfl (fun w h => exprs_ok lo la lc N w (by omega) (by omega) (hlo.now (fun _ _ hh => hh) zm0 h) (hW.now zm0 h)) (zw rfl rfl (bF h18) (zg (fun _ => R_not rfl) (zg (v := .bool _) (fun _ => zF (bF h18) rfl) (yB ?_))))))); refine c_condN rfl (fun h19 => ?_) (fun h19 => ?_)
         ·(try (have qh19 := h19; norm_cast at qh19))
          refine yA (aB rfl (yB (ze (zb (zt (zt (zb (zt ((zo (v := .bool _) rfl rfl rfl ?_)))))))))); exact fun w' hw => ⟨by (try clear hw hm hW hsz hlo hup hini gt1b ut1b); simp only [dcOk, partOk]; grind, hw.fr _ zm0⟩
         ·(try (have qh19 := h19; norm_cast at qh19))
          refine zi (zO (zk (zr (zg (fun _ => R_addi rfl rfl (by omega)) (mI rfl (zn (k_rounds (yA (zg (fun _ => R_lt rfl rfl) (yB (zq (zE (congrArg Value.bool (decide_eq_true (by decide))) (zi (zk (zq (zB (yA (zg (fun _ => R_aidx (i := 2) ar146 rfl rfl rfl rfl) (za (v := .slice _ _ _) rfl (yC (mS rfl (zg (fun _ => R_len sl37 rfl) (zg (fun _ => R_gt rfl rfl) (mB rfl ?_))))))))))))))))))))))))
          refine zd (t := 57) rfl (fun h20 => ?_) (fun h20 => ?_)
          ·(try (have qh20 := h20; norm_cast at qh20))
           refine zs rfl rfl (bT h20) (zs rfl rfl (bT h20) (zs rfl rfl (bT h20) (zg (v := .bool _) (fun _ => zT (bT h20) rfl) (yB (zE rfl (yA (aB rfl (yB (ze (zb (zt (zt (zb (zt ((zo (v := .bool _) rfl rfl rfl ?_)))))))))))))))); exact fun w' hw => ⟨by (try clear hw hm hW hsz hlo hup hini gt1b ut1b); simp only [dcOk, partOk]; grind, hw.fr _ zm0⟩
          ·(try (have qh20 := h20; norm_cast at qh20))
           refine zw rfl rfl (bF h20) (mS rfl (zw rfl rfl (bF h20) (zC (fun w => zR Tryz.func100 rfl rfl rfl) rfl rfl (fun w h => exprs_ok up ua uc N w (by omega) (by omega) (hup.now (fun _ _ hh => hh) zm0 h) (hW.now zm0 h)) (zw rfl rfl (bF h20) (zg (fun _ => R_not rfl) (zg (v := .bool _) (fun _ => zF (bF h20) rfl) (yB ?_))))))); refine c_condN rfl (fun h21 => ?_) (fun h21 => ?_)
           ·(try (have qh21 := h21; norm_cast at qh21))
            refine yA (aB rfl (yB (ze (zb (zt (zt (zb (zt ((zo (v := .bool _) rfl rfl rfl ?_)))))))))); exact fun w' hw => ⟨by (try clear hw hm hW hsz hlo hup hini gt1b ut1b); simp only [dcOk, partOk]; grind, hw.fr _ zm0⟩
           ·(try (have qh21 := h21; norm_cast at qh21))
            refine zi (zO (zk (zr (zg (fun _ => R_addi rfl rfl (by omega)) (mI rfl (zn (k_rounds (yA (zg (fun _ => R_lt rfl rfl) (yB (zq (zE (congrArg Value.bool (decide_eq_true (by decide))) (zi (zk (zq (zB (yA (zg (fun _ => R_aidx (i := 3) ar146 rfl rfl rfl rfl) (za (v := .slice _ _ _) rfl (yC (mS rfl (zg (fun _ => R_len sl37 rfl) (zg (fun _ => R_gt rfl rfl) (mB rfl ?_))))))))))))))))))))))))
            refine zd (t := 57) rfl (fun h22 => ?_) (fun h22 => ?_)
            ·(try (have qh22 := h22; norm_cast at qh22))
             refine zs rfl rfl (bT h22) (zs rfl rfl (bT h22) (zs rfl rfl (bT h22) (zg (v := .bool _) (fun _ => zT (bT h22) rfl) (yB (zE rfl (yA (aB rfl (yB (ze (zb (zt (zt (zb (zt ((zo (v := .bool _) rfl rfl rfl ?_)))))))))))))))); exact fun w' hw => ⟨by (try clear hw hm hW hsz hlo hup hini gt1b ut1b); simp only [dcOk, partOk]; grind, hw.fr _ zm0⟩
            ·(try (have qh22 := h22; norm_cast at qh22))
             refine zw rfl rfl (bF h22) (mS rfl (zw rfl rfl (bF h22) (zC (fun w => zR Tryz.func100 rfl rfl rfl) rfl rfl (fun w h => exprs_ok ini ia ic N w (by omega) (by omega) (hini.now (fun _ _ hh => hh) zm0 h) (hW.now zm0 h)) (zw rfl rfl (bF h22) (zg (fun _ => R_not rfl) (zg (v := .bool _) (fun _ => zF (bF h22) rfl) (yB ?_))))))); refine c_condN rfl (fun h23 => ?_) (fun h23 => ?_)
             ·(try (have qh23 := h23; norm_cast at qh23))
              refine yA (aB rfl (yB (ze (zb (zt (zt (zb (zt ((zo (v := .bool _) rfl rfl rfl ?_)))))))))); exact fun w' hw => ⟨by (try clear hw hm hW hsz hlo hup hini gt1b ut1b); simp only [dcOk, partOk]; grind, hw.fr _ zm0⟩
             ·(try (have qh23 := h23; norm_cast at qh23))
              refine zi (zO (zk (zr (zg (fun _ => R_addi rfl rfl (by omega)) (mI rfl (zn (k_rounds (yA (zg (fun _ => R_lt rfl rfl) (yB (zq (zG (congrArg Value.bool (decide_eq_false (by decide))) (zX (zx (zx (b_here rfl (zk (yA (aB rfl (yB (ze (zo (v := .bool _) rfl rfl rfl ?_)))))))))))))))))))))); exact fun w' hw => ⟨by (try clear hw hm hW hsz hlo hup hini gt1b ut1b); simp only [dcOk, partOk]; grind, hw.fr _ zm0⟩

theorem Check_spec (p : List Bk) (cs : List Value) (N : Nat → Prop) (w : World) (hp : ∀ b ∈ p, bkW b < 10000000) (hm : pgM w N p cs) (hW : Wd w) :
  Ret Tryz.prog 39 #[.agg cs.toArray] w (fun v w' => v = .int .i64 (if pgOk p then 0 else 120) ∧ Ext w w') := by
 refine enter (S := No) (l := [_]) (L := []) 80 Tryz.func39 rfl rfl rfl (St.start w No) (yA (w_boxA rfl (fun t1b gt1b ut1b => aI rfl (yB (zq (yA (zf fa29_0 rfl (w_loadW z27 rfl (fun _ h => h.at_ 0 rfl) hm.len (mI rfl (yB (zB (c_loop (fun m e B L => ∃ (i : Nat), e 9 = .agg cs.toArray ∧ e 10 = .int .i64 (i : Nat) ∧ B = [(w, No)] ∧ L = [(t1b, cel cs 29)] ∧ i ≤ 6 ∧ (∀ j b, j < i → p[j]? = some b → bkOk j b = true) ∧ m = 6 - i) _ ⟨0, rfl, rfl, rfl, rfl, Nat.zero_le _, (fun _ _ h => absurd h (Nat.not_lt_zero _)), rfl⟩ ?_))))))))))))
 rintro m e B L ⟨i, e9_1, e10_1, rfl, rfl, hi, hj, rfl⟩
 refine yA (zg (fun _ => R_lt e10_1 rfl) (yB (zq ?_))); refine zD rfl (fun h2 => ?_) (fun h2 => ?_)
 ·(try (have qh2 := h2; norm_cast at qh2))
  have hi6 : i < 6 := (by omega); obtain ⟨b, hb⟩ : ∃ b, p[i]? = some b := ⟨_, List.getElem?_eq_getElem (by rw [hm.six]; exact hi6)⟩; have hbw := hp b (List.mem_of_getElem? hb); unfold bkW at hbw; obtain ⟨da, dc, sa, sc, hcb, hds, hss⟩ := hm.one i b hb
  refine zi (zk (zq (zB (yA (mI e10_1 (w_r (v := .agg (List.toArray [.bool b.is, .slice da b.decls.length dc, .slice sa b.stmts.length sc])) (fun _ => R_aidxA (i := i) ara27 e9_1 e10_1 (by omega) hcb) rfl rfl (zA zr26 (fun t4b gt4b ut4b => aI rfl (zV 0 rfl z26 rfl rfl rfl rfl rfl rfl rfl (yC (mI rfl (zg (fun _ => R_eq rfl rfl) (mB rfl ?_))))))))))))); refine zd (t := 16) rfl (fun h4 => ?_) (fun h4 => ?_)
  ·(try (have qh4 := h4; norm_cast at qh4))
   refine zs rfl rfl (bT h4) (zs rfl rfl (bT h4) (zg (v := .bool _) (fun _ => zT (bT h4) rfl) (aB rfl (yB ?_)))); refine c_cut (fun e B L => e 3 = .int .i64 (i : Nat) ∧ e 4 = .pointer (some ⟨t4b, 0, none⟩) ∧ e 5 = .bool (gv i) ∧ e 9 = .agg cs.toArray ∧ e 10 = .int .i64 (i : Nat) ∧ B = [(w, No)] ∧ L = [(t4b, cel [.bool b.is, .slice da b.decls.length dc, .slice sa b.stmts.length sc] 26), (t1b, cel cs 29)] ∧ headB i b = true) ?_ ?_
   ·skip
    refine zB (yA (zf fa26_0 rfl (zL 0 z4 rfl rfl rfl (zg (fun _ => R_not rfl) (mB rfl ?_))))); refine zp (t := 24) rfl (fun h5 => ?_) (fun h5 => ?_)
    ·(try (have qh5 := h5; norm_cast at qh5))
     refine zw rfl rfl (bV h5) (zf fa26_1 rfl (zw rfl rfl (bV h5) (zL 0 z23 rfl rfl rfl (zw rfl rfl (bV h5) (zg (fun _ => R_len sl23 rfl) (zw rfl rfl (bV h5) (zf fa26_2 rfl (zw rfl rfl (bV h5) (zL 0 z24 rfl rfl rfl (zw rfl rfl (bV h5) (zg (fun _ => R_len sl24 rfl) (zw rfl rfl (bV h5) (zg (fun _ => R_addi rfl rfl (by omega)) (zw rfl rfl (bV h5) (zg (fun _ => R_gt rfl rfl) (zg (v := .bool _) (fun _ => zT (bV h5) rfl) (mB rfl ?_))))))))))))))))); refine zd (t := 34) rfl (fun h6 => ?_) (fun h6 => ?_)
     ·(try (have qh6 := h6; norm_cast at qh6))
      refine zs rfl rfl (bT h6) (zs rfl rfl (bT h6) (zU rfl rfl rfl (zU rfl rfl rfl (zU rfl rfl rfl (zU rfl rfl rfl (zs rfl rfl (bT h6) (zg (v := .bool _) (fun _ => zT (bT h6) rfl) (mB rfl ?_)))))))); (iterate 3 refine zs rfl rfl rfl ?_); refine zU rfl rfl rfl (zU rfl rfl rfl (zU rfl rfl rfl (zU rfl rfl rfl (zs rfl rfl rfl (zg (v := .bool _) (fun _ => zT rfl rfl) (mB rfl (zs rfl rfl rfl ?_)))))))
      (iterate 3 refine zs rfl rfl rfl ?_); refine zg (v := .bool _) (fun _ => zT rfl rfl) (aB rfl (yB (zE rfl (yA (aI rfl (yB (ze (zb (zt (zb (zt (zt (zb (zt (?_)))))))))))))))
      refine zo (v := .int _ _) rfl rfl rfl ?_; exact fun w' hw => ⟨by (rw [pgOk_no hi6 hb (by ((try clear hw hm hds hss hcb hp hW hj e10_1 e9_1 gt1b gt4b ut1b ut4b); simp only [bkOk, headB, gv]; grind))]; rfl), hw.fr _ zm0⟩
     ·(try (have qh6 := h6; norm_cast at qh6))
      refine zw rfl rfl (bF h6) (mB rfl (zw rfl rfl (bF h6) (mB rfl (zw rfl rfl rfl (zf fa26_2 rfl (zw rfl rfl rfl (zL 0 z24 rfl rfl rfl (zw rfl rfl rfl (zg (fun _ => R_len sl24 rfl) (zw rfl rfl rfl (zg (fun _ => R_gt rfl rfl) (zw rfl rfl (bF h6) (zg (v := .bool _) (fun _ => zT rfl rfl) (zg (v := .bool _) (fun _ => zF (bF h6) rfl) (mB rfl ?_))))))))))))))); refine zd (t := 43) rfl (fun h7 => ?_) (fun h7 => ?_)
      ·(try (have qh7 := h7; norm_cast at qh7))
       refine zs rfl rfl (bT h7) (zs rfl rfl (bT h7) (zs rfl rfl (bT h7) (zU rfl rfl rfl (zU rfl rfl rfl (zU rfl rfl rfl (zU rfl rfl rfl (zs rfl rfl (bT h7) (zg (v := .bool _) (fun _ => zT (bT h7) rfl) (mB rfl ?_))))))))); (iterate 4 refine zs rfl rfl rfl ?_); refine zg (v := .bool _) (fun _ => zT rfl rfl) (aB rfl (yB (zE rfl (yA (aI rfl (yB (ze (zb (zt (zb (zt (zt (zb (zt (?_)))))))))))))))
       refine zo (v := .int _ _) rfl rfl rfl ?_; exact fun w' hw => ⟨by (rw [pgOk_no hi6 hb (by ((try clear hw hm hds hss hcb hp hW hj e10_1 e9_1 gt1b gt4b ut1b ut4b); simp only [bkOk, headB, gv]; grind))]; rfl), hw.fr _ zm0⟩
      ·(try (have qh7 := h7; norm_cast at qh7))
       refine zw rfl rfl (bF h7) (mI rfl (zw rfl rfl (bF h7) (zg (fun _ => R_eq rfl rfl) (zw rfl rfl (bF h7) (mB rfl ?_))))); refine zd (t := 46) rfl (fun h8 => ?_) (fun h8 => ?_)
       ·(try (have qh8 := h8; norm_cast at qh8))
        refine zw rfl rfl (bT h8) (zf fa26_1 rfl (zw rfl rfl (bT h8) (zL 0 z23 rfl rfl rfl (zw rfl rfl (bT h8) (zg (fun _ => R_len sl23 rfl) (zw rfl rfl (bT h8) (zg (fun _ => R_gt rfl rfl) (zw rfl rfl (bF h7) (zg (v := .bool _) (fun _ => zT (bT h8) rfl) (zg (v := .bool _) (fun _ => zF (bF h7) rfl) (mB rfl ?_))))))))))); refine zd (t := 53) rfl (fun h9 => ?_) (fun h9 => ?_)
        ·(try (have qh9 := h9; norm_cast at qh9))
         refine zs rfl rfl (bT h9) (zs rfl rfl (bT h9) (zs rfl rfl (bT h9) (zs rfl rfl (bT h9) (zg (v := .bool _) (fun _ => zT (bT h9) rfl) (aB rfl (yB (zE rfl (yA (aI rfl (yB (ze (zb (zt (zb (zt (zt (zb (zt ((zo (v := .int _ _) rfl rfl rfl ?_)))))))))))))))))))); exact fun w' hw => ⟨by (rw [pgOk_no hi6 hb (by ((try clear hw hm hds hss hcb hp hW hj e10_1 e9_1 gt1b gt4b ut1b ut4b); simp only [bkOk, headB, gv]; grind))]; rfl), hw.fr _ zm0⟩
        ·(try (have qh9 := h9; norm_cast at qh9))
         refine zw rfl rfl (bF h9) (zf fa26_2 rfl (zw rfl rfl (bF h9) (zL 0 z24 rfl rfl rfl (zw rfl rfl (bF h9) (zC (fun w => zR Tryz.func75 rfl rfl rfl) rfl rfl (fun w h => stmts_ok b.stmts sa sc N w (by omega) (by omega) (hss.now (fun _ _ hh => hh) zm0 h) (hW.now zm0 h)) (zw rfl rfl (bF h9) (zg (fun _ => R_not rfl) (zg (v := .bool _) (fun _ => zF (bF h9) rfl) (aB rfl (yB ?_)))))))))); refine c_condN rfl (fun h10 => ?_) (fun h10 => ?_)
         ·(try (have qh10 := h10; norm_cast at qh10))
          refine yA (aI rfl (yB (ze (zb (zt (zb (zt (zt (zb (zt ((zo (v := .int _ _) rfl rfl rfl ?_)))))))))))); exact fun w' hw => ⟨by (rw [pgOk_no hi6 hb (by ((try clear hw hm hds hss hcb hp hW hj e10_1 e9_1 gt1b gt4b ut1b ut4b); simp only [bkOk, headB, gv]; grind))]; rfl), hw.fr _ zm0⟩
         ·(try (have qh10 := h10; norm_cast at qh10))
          refine zi (zO (?_))
          exact k_mid ⟨rfl, rfl, (congrArg Value.bool (by (try clear hm hds hss hcb hp hW hj e10_1 e9_1 gt1b gt4b ut1b ut4b); simp only [gv]; grind)), e9_1, e10_1, rfl, rfl, by (try clear hm hds hss hcb hp hW hj e10_1 e9_1 gt1b gt4b ut1b ut4b); simp only [headB, gv]; grind⟩
       ·(try (have qh8 := h8; norm_cast at qh8))
        refine zs rfl rfl (bF h8) (zs rfl rfl (bF h8) (zs rfl rfl (bF h8) (zs rfl rfl (bF h8) (zw rfl rfl (bF h7) (zg (v := .bool _) (fun _ => zF (bF h8) rfl) (zg (v := .bool _) (fun _ => zF (bF h7) rfl) (mB rfl (zw rfl rfl rfl (zf fa26_2 rfl (zw rfl rfl rfl (zL 0 z24 rfl rfl rfl (zw rfl rfl rfl (zC (fun w => zR Tryz.func75 rfl rfl rfl) rfl rfl (fun w h => stmts_ok b.stmts sa sc N w (by omega) (by omega) (hss.now (fun _ _ hh => hh) zm0 h) (hW.now zm0 h)) (zw rfl rfl rfl (zg (fun _ => R_not rfl) (zg (v := .bool _) (fun _ => zF rfl rfl) (aB rfl (yB ?_)))))))))))))))))); refine c_condN rfl (fun h11 => ?_) (fun h11 => ?_)
        ·(try (have qh11 := h11; norm_cast at qh11))
         refine yA (aI rfl (yB (ze (zb (zt (zb (zt (zt (zb (zt ((zo (v := .int _ _) rfl rfl rfl ?_)))))))))))); exact fun w' hw => ⟨by (rw [pgOk_no hi6 hb (by ((try clear hw hm hds hss hcb hp hW hj e10_1 e9_1 gt1b gt4b ut1b ut4b); simp only [bkOk, headB, gv]; grind))]; rfl), hw.fr _ zm0⟩
        ·(try (have qh11 := h11; norm_cast at qh11))
         refine zi (zO (?_))
         exact k_mid ⟨rfl, rfl, (congrArg Value.bool (by (try clear hm hds hss hcb hp hW hj e10_1 e9_1 gt1b gt4b ut1b ut4b); simp only [gv]; grind)), e9_1, e10_1, rfl, rfl, by (try clear hm hds hss hcb hp hW hj e10_1 e9_1 gt1b gt4b ut1b ut4b); simp only [headB, gv]; grind⟩
    ·(try (have qh5 := h5; norm_cast at qh5))
     refine zs rfl rfl (bV h5) (zs rfl rfl (bV h5) (zs rfl rfl (bV h5) (zs rfl rfl (bV h5) (zs rfl rfl (bV h5) (zs rfl rfl (bV h5) (zs rfl rfl (bV h5) (zs rfl rfl (bV h5) (zg (v := .bool _) (fun _ => zF (bV h5) rfl) (mB rfl (zw rfl rfl rfl (mB rfl (zw rfl rfl rfl (mB rfl (zw rfl rfl rfl (zf fa26_2 rfl (zw rfl rfl rfl (zL 0 z24 rfl rfl rfl (zw rfl rfl rfl (zg (fun _ => R_len sl24 rfl) (zw rfl rfl rfl (zg (fun _ => R_gt rfl rfl) (zw rfl rfl rfl (zg (v := .bool _) (fun _ => zT rfl rfl) (zg (v := .bool _) (fun _ => zF rfl rfl) (mB rfl ?_))))))))))))))))))))))))); refine zd (t := 43) rfl (fun h12 => ?_) (fun h12 => ?_)
     ·(try (have qh12 := h12; norm_cast at qh12))
      refine zs rfl rfl (bT h12) (zs rfl rfl (bT h12) (zs rfl rfl (bT h12) (zU rfl rfl rfl (zU rfl rfl rfl (zU rfl rfl rfl (zU rfl rfl rfl (zs rfl rfl (bT h12) (zg (v := .bool _) (fun _ => zT (bT h12) rfl) (mB rfl ?_))))))))); (iterate 4 refine zs rfl rfl rfl ?_); refine zg (v := .bool _) (fun _ => zT rfl rfl) (aB rfl (yB (zE rfl (yA (aI rfl (yB (ze (zb (zt (zb (zt (zt (zb (zt (?_)))))))))))))))
      refine zo (v := .int _ _) rfl rfl rfl ?_; exact fun w' hw => ⟨by (rw [pgOk_no hi6 hb (by ((try clear hw hm hds hss hcb hp hW hj e10_1 e9_1 gt1b gt4b ut1b ut4b); simp only [bkOk, headB, gv]; grind))]; rfl), hw.fr _ zm0⟩
     ·(try (have qh12 := h12; norm_cast at qh12))
      refine zw rfl rfl (bF h12) (mI rfl (zw rfl rfl (bF h12) (zg (fun _ => R_eq rfl rfl) (zw rfl rfl (bF h12) (mB rfl ?_))))); refine zd (t := 46) rfl (fun h13 => ?_) (fun h13 => ?_)
      ·(try (have qh13 := h13; norm_cast at qh13))
       refine zw rfl rfl (bT h13) (zf fa26_1 rfl (zw rfl rfl (bT h13) (zL 0 z23 rfl rfl rfl (zw rfl rfl (bT h13) (zg (fun _ => R_len sl23 rfl) (zw rfl rfl (bT h13) (zg (fun _ => R_gt rfl rfl) (zw rfl rfl (bF h12) (zg (v := .bool _) (fun _ => zT (bT h13) rfl) (zg (v := .bool _) (fun _ => zF (bF h12) rfl) (mB rfl ?_))))))))))); refine zd (t := 53) rfl (fun h14 => ?_) (fun h14 => ?_)
       ·(try (have qh14 := h14; norm_cast at qh14))
        refine zs rfl rfl (bT h14) (zs rfl rfl (bT h14) (zs rfl rfl (bT h14) (zs rfl rfl (bT h14) (zg (v := .bool _) (fun _ => zT (bT h14) rfl) (aB rfl (yB (zE rfl (yA (aI rfl (yB (ze (zb (zt (zb (zt (zt (zb (zt ((zo (v := .int _ _) rfl rfl rfl ?_)))))))))))))))))))); exact fun w' hw => ⟨by (rw [pgOk_no hi6 hb (by ((try clear hw hm hds hss hcb hp hW hj e10_1 e9_1 gt1b gt4b ut1b ut4b); simp only [bkOk, headB, gv]; grind))]; rfl), hw.fr _ zm0⟩
       ·(try (have qh14 := h14; norm_cast at qh14))
        refine zw rfl rfl (bF h14) (zf fa26_2 rfl (zw rfl rfl (bF h14) (zL 0 z24 rfl rfl rfl (zw rfl rfl (bF h14) (zC (fun w => zR Tryz.func75 rfl rfl rfl) rfl rfl (fun w h => stmts_ok b.stmts sa sc N w (by omega) (by omega) (hss.now (fun _ _ hh => hh) zm0 h) (hW.now zm0 h)) (zw rfl rfl (bF h14) (zg (fun _ => R_not rfl) (zg (v := .bool _) (fun _ => zF (bF h14) rfl) (aB rfl (yB ?_)))))))))); refine c_condN rfl (fun h15 => ?_) (fun h15 => ?_)
        ·(try (have qh15 := h15; norm_cast at qh15))
         refine yA (aI rfl (yB (ze (zb (zt (zb (zt (zt (zb (zt ((zo (v := .int _ _) rfl rfl rfl ?_)))))))))))); exact fun w' hw => ⟨by (rw [pgOk_no hi6 hb (by ((try clear hw hm hds hss hcb hp hW hj e10_1 e9_1 gt1b gt4b ut1b ut4b); simp only [bkOk, headB, gv]; grind))]; rfl), hw.fr _ zm0⟩
        ·(try (have qh15 := h15; norm_cast at qh15))
         refine zi (zO (?_))
         exact k_mid ⟨rfl, rfl, (congrArg Value.bool (by (try clear hm hds hss hcb hp hW hj e10_1 e9_1 gt1b gt4b ut1b ut4b); simp only [gv]; grind)), e9_1, e10_1, rfl, rfl, by (try clear hm hds hss hcb hp hW hj e10_1 e9_1 gt1b gt4b ut1b ut4b); simp only [headB, gv]; grind⟩
      ·(try (have qh13 := h13; norm_cast at qh13))
       refine zs rfl rfl (bF h13) (zs rfl rfl (bF h13) (zs rfl rfl (bF h13) (zs rfl rfl (bF h13) (zw rfl rfl (bF h12) (zg (v := .bool _) (fun _ => zF (bF h13) rfl) (zg (v := .bool _) (fun _ => zF (bF h12) rfl) (mB rfl (zw rfl rfl rfl (zf fa26_2 rfl (zw rfl rfl rfl (zL 0 z24 rfl rfl rfl (zw rfl rfl rfl (zC (fun w => zR Tryz.func75 rfl rfl rfl) rfl rfl (fun w h => stmts_ok b.stmts sa sc N w (by omega) (by omega) (hss.now (fun _ _ hh => hh) zm0 h) (hW.now zm0 h)) (zw rfl rfl rfl (zg (fun _ => R_not rfl) (zg (v := .bool _) (fun _ => zF rfl rfl) (aB rfl (yB ?_)))))))))))))))))); refine c_condN rfl (fun h16 => ?_) (fun h16 => ?_)
       ·(try (have qh16 := h16; norm_cast at qh16))
        refine yA (aI rfl (yB (ze (zb (zt (zb (zt (zt (zb (zt ((zo (v := .int _ _) rfl rfl rfl ?_)))))))))))); exact fun w' hw => ⟨by (rw [pgOk_no hi6 hb (by ((try clear hw hm hds hss hcb hp hW hj e10_1 e9_1 gt1b gt4b ut1b ut4b); simp only [bkOk, headB, gv]; grind))]; rfl), hw.fr _ zm0⟩
       ·(try (have qh16 := h16; norm_cast at qh16))
        refine zi (zO (?_))
        exact k_mid ⟨rfl, rfl, (congrArg Value.bool (by (try clear hm hds hss hcb hp hW hj e10_1 e9_1 gt1b gt4b ut1b ut4b); simp only [gv]; grind)), e9_1, e10_1, rfl, rfl, by (try clear hm hds hss hcb hp hW hj e10_1 e9_1 gt1b gt4b ut1b ut4b); simp only [headB, gv]; grind⟩
   rintro e B L ⟨e3_2, e4_2, e5_2, e9_2, e10_2, rfl, rfl, hd⟩
   refine yA (zf fa26_1 e4_2 (zL 0 z23 rfl rfl rfl (zg (fun _ => R_len sl23 rfl) (mI rfl (yB (zB (c_loop (fun m e B L => ∃ (k : Nat), e 3 = .int .i64 (i : Nat) ∧ e 5 = .bool (gv i) ∧ e 9 = .agg cs.toArray ∧ e 10 = .int .i64 (i : Nat) ∧ e 60 = .slice da b.decls.length dc ∧ e 61 = .int .i64 (b.decls.length : Nat) ∧ e 62 = .int .i64 (k : Nat) ∧ B = [(w, No)] ∧ L = [(t4b, cel [.bool b.is, .slice da b.decls.length dc, .slice sa b.stmts.length sc] 26), (t1b, cel cs 29)] ∧ k ≤ b.decls.length ∧ (∀ y ∈ b.decls.take k, (!dgood i y) = false) ∧ m = b.decls.length - k) _ ⟨0, e3_2, e5_2, e9_2, e10_2, rfl, rfl, rfl, rfl, rfl, Nat.zero_le _, (by simp), rfl⟩ ?_)))))))
   rintro m e B L ⟨k, e3_3, e5_3, e9_3, e10_3, e60_3, e61_3, e62_3, rfl, rfl, hk, hy, rfl⟩
   refine yA (zg (fun _ => R_lt e62_3 e61_3) (yB (zq ?_))); refine zD rfl (fun h17 => ?_) (fun h17 => ?_)
   ·(try (have qh17 := h17; norm_cast at qh17))
    have hlt : k < b.decls.length := (by omega); obtain ⟨x, hxk⟩ : ∃ x, b.decls[k]? = some x := ⟨_, List.getElem?_eq_getElem hlt⟩; obtain ⟨cs2, hA, hE⟩ := hds k x hxk; have hxn := dcsW_mem (List.mem_of_getElem? hxk); obtain ⟨b1, o1, rfl⟩ := hA.ptr; have hE2 := hE; obtain ⟨ty, at_, nm, sz, lo, up, ini⟩ := x; unfold dcM at hE2; obtain ⟨xa, xc, la, lc, ua, uc, ia, ic, hcs, hsz, hlo, hup, hini⟩ := hE2; simp only [] at hcs; subst hcs
    refine zi (zk (zq (zB (yA (zg (fun _ => R_iaN (i := k) sl23 e60_3 e62_3 (by omega)) (w_loadC (l := [.int .u8 (ty : Nat), .int .i64 at_, str nm, .slice xa sz.length xc, .slice la lo.length lc, .slice ua up.length uc, .slice ia ini.length ic]) z46 rfl rfl (fun w h j v hj => hA.cell (fun _ _ hh => hh) zm0 h j v hj) (zA zr46 (fun t7b gt7b ut7b => zV 0 rfl z46 rfl rfl rfl rfl rfl rfl rfl (yC (zY z46 rfl (fun _ h => h.at_ 0 rfl) rfl (zC (fun w => zR Tryz.func76 rfl rfl rfl) rfl rfl (fun w h => decl_spec _ _ N w (by omega) (hE.now (fun _ _ hh => hh) zm0 h) (hW.now zm0 h)) (zg (fun _ => R_not rfl) (mB rfl ?_))))))))))))); refine zp (t := 69) rfl (fun h19 => ?_) (fun h19 => ?_)
    ·(try (have qh19 := h19; norm_cast at qh19))
     refine zs rfl rfl (bV h19) (zs rfl rfl (bV h19) (zU rfl rfl rfl (zU rfl rfl rfl (zU rfl rfl rfl (zU rfl rfl rfl (zs rfl rfl (bV h19) (zg (v := .bool _) (fun _ => zT (bV h19) rfl) (yB (zE rfl (yA (aI rfl (yB (ze (zb (zt (zt (zb (zb (zt (zt (zb (zt ((zo (v := .int _ _) rfl rfl rfl ?_)))))))))))))))))))))))); exact fun w' hw => ⟨by (rw [pgOk_no hi6 hb (by (unfold bkOk; rw [all_no hxk (by (try clear hw hm hds hss hcb hp hW hj hA hE hsz hlo hup hini e10_1 e10_2 e10_3 e3_2 e3_3 e4_2 e5_2 e5_3 e60_3 e61_3 e62_3 e9_1 e9_2 e9_3 gt1b gt4b gt7b ut1b ut4b ut7b); simp only [dgood]; grind)]; simp; done))]; rfl), hw.fr _ zm0⟩
    ·(try (have qh19 := h19; norm_cast at qh19))
     refine zw rfl rfl (bV h19) (mB e5_3 (zw rfl rfl (bV h19) (mB rfl ?_))); refine zp (t := 71) rfl (fun h20 => ?_) (fun h20 => ?_)
     ·(try (have qh20 := h20; norm_cast at qh20))
      refine zw rfl rfl (bV h20) (zf fa46_6 rfl (zw rfl rfl (bV h20) (zL 0 z37 rfl rfl rfl (zw rfl rfl (bV h20) (zg (fun _ => R_len sl37 rfl) (zw rfl rfl (bV h20) (zg (fun _ => R_gt rfl rfl) (zw rfl rfl (bV h19) (zg (v := .bool _) (fun _ => zT (bV h20) rfl) (zg (v := .bool _) (fun _ => zF (bV h19) rfl) (yB ?_))))))))))); refine zD rfl (fun h21 => ?_) (fun h21 => ?_)
      ·(try (have qh21 := h21; norm_cast at qh21))
       refine yA (aI rfl (yB (ze (zb (zt (zt (zb (zb (zt (zt (zb (zt ((zo (v := .int _ _) rfl rfl rfl ?_)))))))))))))); exact fun w' hw => ⟨by (rw [pgOk_no hi6 hb (by (unfold bkOk; rw [all_no hxk (by (try clear hw hm hds hss hcb hp hW hj hA hE hsz hlo hup hini e10_1 e10_2 e10_3 e3_2 e3_3 e4_2 e5_2 e5_3 e60_3 e61_3 e62_3 e9_1 e9_2 e9_3 gt1b gt4b gt7b ut1b ut4b ut7b); simp only [dgood]; grind)]; simp; done))]; rfl), hw.fr _ zm0⟩
      ·(try (have qh21 := h21; norm_cast at qh21))
       refine zi (zO (zk (zr (zg (fun _ => R_addi e62_3 rfl (by omega)) (mI rfl (zn (zK (B' := [(w, No)]) (L' := _) (fun w h => h.drop (List.sublist_cons_self _ _)) ?_))))))); exact k_again _ (by omega) ⟨k + 1, e3_3, e5_3, e9_3, e10_3, e60_3, e61_3, rfl, rfl, rfl, by omega, take_all hy hxk (by (try clear hm hds hss hcb hp hW hj hA hE hsz hlo hup hini e10_1 e10_2 e10_3 e3_2 e3_3 e4_2 e5_2 e5_3 e60_3 e61_3 e62_3 e9_1 e9_2 e9_3 gt1b gt4b gt7b ut1b ut4b ut7b); simp only [dgood]; grind), rfl⟩
     ·(try (have qh20 := h20; norm_cast at qh20))
      refine zs rfl rfl (bV h20) (zs rfl rfl (bV h20) (zs rfl rfl (bV h20) (zs rfl rfl (bV h20) (zw rfl rfl (bV h19) (zg (v := .bool _) (fun _ => zF (bV h20) rfl) (zg (v := .bool _) (fun _ => zF (bV h19) rfl) (yB (zG rfl (zi (zO (zk (zr (zg (fun _ => R_addi e62_3 rfl (by omega)) (mI rfl (zn (zK (B' := [(w, No)]) (L' := _) (fun w h => h.drop (List.sublist_cons_self _ _)) ?_))))))))))))))))
      exact k_again _ (by omega) ⟨k + 1, e3_3, e5_3, e9_3, e10_3, e60_3, e61_3, rfl, rfl, rfl, by omega, take_all hy hxk (by (try clear hm hds hss hcb hp hW hj hA hE hsz hlo hup hini e10_1 e10_2 e10_3 e3_2 e3_3 e4_2 e5_2 e5_3 e60_3 e61_3 e62_3 e9_1 e9_2 e9_3 gt1b gt4b gt7b ut1b ut4b ut7b); simp only [dgood]; grind), rfl⟩
   ·(try (have qh17 := h17; norm_cast at qh17))
    have hall : b.decls.all (dgood i) = true := all_of_take hy (by omega)
    refine zX (zx (zx (b_here rfl (zO (zk (zr (zg (fun _ => R_addi e10_3 rfl (by omega)) (mI rfl (zn (zK (B' := [(w, No)]) (L' := [(t1b, cel cs 29)]) (fun w h => h.drop (List.sublist_cons_self _ _)) ?_)))))))))); exact k_again _ (by omega) ⟨i + 1, e9_3, rfl, rfl, rfl, by omega, bk_next hj hb (by unfold bkOk; rw [hd, hall]; rfl), rfl⟩
  ·(try (have qh4 := h4; norm_cast at qh4))
   refine zw rfl rfl (bF h4) (mI rfl (zw rfl rfl (bF h4) (zg (fun _ => R_eq rfl rfl) (zg (v := .bool _) (fun _ => zF (bF h4) rfl) (aB rfl (yB ?_)))))); refine c_cut (fun e B L => e 3 = .int .i64 (i : Nat) ∧ e 4 = .pointer (some ⟨t4b, 0, none⟩) ∧ e 5 = .bool (gv i) ∧ e 9 = .agg cs.toArray ∧ e 10 = .int .i64 (i : Nat) ∧ B = [(w, No)] ∧ L = [(t4b, cel [.bool b.is, .slice da b.decls.length dc, .slice sa b.stmts.length sc] 26), (t1b, cel cs 29)] ∧ headB i b = true) ?_ ?_
   ·skip
    refine zB (yA (zf fa26_0 rfl (zL 0 z4 rfl rfl rfl (zg (fun _ => R_not rfl) (mB rfl ?_))))); refine zp (t := 24) rfl (fun h22 => ?_) (fun h22 => ?_)
    ·(try (have qh22 := h22; norm_cast at qh22))
     refine zw rfl rfl (bV h22) (zf fa26_1 rfl (zw rfl rfl (bV h22) (zL 0 z23 rfl rfl rfl (zw rfl rfl (bV h22) (zg (fun _ => R_len sl23 rfl) (zw rfl rfl (bV h22) (zf fa26_2 rfl (zw rfl rfl (bV h22) (zL 0 z24 rfl rfl rfl (zw rfl rfl (bV h22) (zg (fun _ => R_len sl24 rfl) (zw rfl rfl (bV h22) (zg (fun _ => R_addi rfl rfl (by omega)) (zw rfl rfl (bV h22) (zg (fun _ => R_gt rfl rfl) (zg (v := .bool _) (fun _ => zT (bV h22) rfl) (mB rfl ?_))))))))))))))))); refine zd (t := 34) rfl (fun h23 => ?_) (fun h23 => ?_)
     ·(try (have qh23 := h23; norm_cast at qh23))
      refine zs rfl rfl (bT h23) (zs rfl rfl (bT h23) (zU rfl rfl rfl (zU rfl rfl rfl (zU rfl rfl rfl (zU rfl rfl rfl (zs rfl rfl (bT h23) (zg (v := .bool _) (fun _ => zT (bT h23) rfl) (mB rfl ?_)))))))); (iterate 3 refine zs rfl rfl rfl ?_); refine zU rfl rfl rfl (zU rfl rfl rfl (zU rfl rfl rfl (zU rfl rfl rfl (zs rfl rfl rfl (zg (v := .bool _) (fun _ => zT rfl rfl) (mB rfl (zs rfl rfl rfl ?_)))))))
      (iterate 3 refine zs rfl rfl rfl ?_); refine zg (v := .bool _) (fun _ => zT rfl rfl) (aB rfl (yB (zE rfl (yA (aI rfl (yB (ze (zb (zt (zb (zt (zt (zb (zt (?_)))))))))))))))
      refine zo (v := .int _ _) rfl rfl rfl ?_; exact fun w' hw => ⟨by (rw [pgOk_no hi6 hb (by ((try clear hw hm hds hss hcb hp hW hj e10_1 e9_1 gt1b gt4b ut1b ut4b); simp only [bkOk, headB, gv]; grind))]; rfl), hw.fr _ zm0⟩
     ·(try (have qh23 := h23; norm_cast at qh23))
      refine zw rfl rfl (bF h23) (mB rfl (zw rfl rfl (bF h23) (mB rfl ?_))); refine zd (t := 36) rfl (fun h24 => ?_) (fun h24 => ?_)
      ·(try (have qh24 := h24; norm_cast at qh24))
       refine zw rfl rfl (bT h24) (zf fa26_2 rfl (zw rfl rfl (bT h24) (zL 0 z24 rfl rfl rfl (zw rfl rfl (bT h24) (zg (fun _ => R_len sl24 rfl) (zw rfl rfl (bT h24) (zg (fun _ => R_gt rfl rfl) (zw rfl rfl (bF h23) (zg (v := .bool _) (fun _ => zT (bT h24) rfl) (zg (v := .bool _) (fun _ => zF (bF h23) rfl) (mB rfl ?_))))))))))); refine zd (t := 43) rfl (fun h25 => ?_) (fun h25 => ?_)
       ·(try (have qh25 := h25; norm_cast at qh25))
        refine zs rfl rfl (bT h25) (zs rfl rfl (bT h25) (zs rfl rfl (bT h25) (zU rfl rfl rfl (zU rfl rfl rfl (zU rfl rfl rfl (zU rfl rfl rfl (zs rfl rfl (bT h25) (zg (v := .bool _) (fun _ => zT (bT h25) rfl) (mB rfl ?_))))))))); (iterate 4 refine zs rfl rfl rfl ?_); refine zg (v := .bool _) (fun _ => zT rfl rfl) (aB rfl (yB (zE rfl (yA (aI rfl (yB (ze (zb (zt (zb (zt (zt (zb (zt (?_)))))))))))))))
        refine zo (v := .int _ _) rfl rfl rfl ?_; exact fun w' hw => ⟨by (rw [pgOk_no hi6 hb (by ((try clear hw hm hds hss hcb hp hW hj e10_1 e9_1 gt1b gt4b ut1b ut4b); simp only [bkOk, headB, gv]; grind))]; rfl), hw.fr _ zm0⟩
       ·(try (have qh25 := h25; norm_cast at qh25))
        refine zw rfl rfl (bF h25) (mI rfl (zw rfl rfl (bF h25) (zg (fun _ => R_eq rfl rfl) (zw rfl rfl (bF h25) (mB rfl ?_))))); refine zd (t := 46) rfl (fun h26 => ?_) (fun h26 => ?_)
        ·(try (have qh26 := h26; norm_cast at qh26))
         refine zw rfl rfl (bT h26) (zf fa26_1 rfl (zw rfl rfl (bT h26) (zL 0 z23 rfl rfl rfl (zw rfl rfl (bT h26) (zg (fun _ => R_len sl23 rfl) (zw rfl rfl (bT h26) (zg (fun _ => R_gt rfl rfl) (zw rfl rfl (bF h25) (zg (v := .bool _) (fun _ => zT (bT h26) rfl) (zg (v := .bool _) (fun _ => zF (bF h25) rfl) (mB rfl ?_))))))))))); refine zd (t := 53) rfl (fun h27 => ?_) (fun h27 => ?_)
         ·(try (have qh27 := h27; norm_cast at qh27))
          refine zs rfl rfl (bT h27) (zs rfl rfl (bT h27) (zs rfl rfl (bT h27) (zs rfl rfl (bT h27) (zg (v := .bool _) (fun _ => zT (bT h27) rfl) (aB rfl (yB (zE rfl (yA (aI rfl (yB (ze (zb (zt (zb (zt (zt (zb (zt ((zo (v := .int _ _) rfl rfl rfl ?_)))))))))))))))))))); exact fun w' hw => ⟨by (rw [pgOk_no hi6 hb (by ((try clear hw hm hds hss hcb hp hW hj e10_1 e9_1 gt1b gt4b ut1b ut4b); simp only [bkOk, headB, gv]; grind))]; rfl), hw.fr _ zm0⟩
         ·(try (have qh27 := h27; norm_cast at qh27))
          refine zw rfl rfl (bF h27) (zf fa26_2 rfl (zw rfl rfl (bF h27) (zL 0 z24 rfl rfl rfl (zw rfl rfl (bF h27) (zC (fun w => zR Tryz.func75 rfl rfl rfl) rfl rfl (fun w h => stmts_ok b.stmts sa sc N w (by omega) (by omega) (hss.now (fun _ _ hh => hh) zm0 h) (hW.now zm0 h)) (zw rfl rfl (bF h27) (zg (fun _ => R_not rfl) (zg (v := .bool _) (fun _ => zF (bF h27) rfl) (aB rfl (yB ?_)))))))))); refine c_condN rfl (fun h28 => ?_) (fun h28 => ?_)
          ·(try (have qh28 := h28; norm_cast at qh28))
           refine yA (aI rfl (yB (ze (zb (zt (zb (zt (zt (zb (zt ((zo (v := .int _ _) rfl rfl rfl ?_)))))))))))); exact fun w' hw => ⟨by (rw [pgOk_no hi6 hb (by ((try clear hw hm hds hss hcb hp hW hj e10_1 e9_1 gt1b gt4b ut1b ut4b); simp only [bkOk, headB, gv]; grind))]; rfl), hw.fr _ zm0⟩
          ·(try (have qh28 := h28; norm_cast at qh28))
           refine zi (zO (?_))
           exact k_mid ⟨rfl, rfl, (congrArg Value.bool (by (try clear hm hds hss hcb hp hW hj e10_1 e9_1 gt1b gt4b ut1b ut4b); simp only [gv]; grind)), e9_1, e10_1, rfl, rfl, by (try clear hm hds hss hcb hp hW hj e10_1 e9_1 gt1b gt4b ut1b ut4b); simp only [headB, gv]; grind⟩
        ·(try (have qh26 := h26; norm_cast at qh26))
         refine zs rfl rfl (bF h26) (zs rfl rfl (bF h26) (zs rfl rfl (bF h26) (zs rfl rfl (bF h26) (zw rfl rfl (bF h25) (zg (v := .bool _) (fun _ => zF (bF h26) rfl) (zg (v := .bool _) (fun _ => zF (bF h25) rfl) (mB rfl (zw rfl rfl rfl (zf fa26_2 rfl (zw rfl rfl rfl (zL 0 z24 rfl rfl rfl (zw rfl rfl rfl (zC (fun w => zR Tryz.func75 rfl rfl rfl) rfl rfl (fun w h => stmts_ok b.stmts sa sc N w (by omega) (by omega) (hss.now (fun _ _ hh => hh) zm0 h) (hW.now zm0 h)) (zw rfl rfl rfl (zg (fun _ => R_not rfl) (zg (v := .bool _) (fun _ => zF rfl rfl) (aB rfl (yB ?_)))))))))))))))))); refine c_condN rfl (fun h29 => ?_) (fun h29 => ?_)
         ·(try (have qh29 := h29; norm_cast at qh29))
          refine yA (aI rfl (yB (ze (zb (zt (zb (zt (zt (zb (zt ((zo (v := .int _ _) rfl rfl rfl ?_)))))))))))); exact fun w' hw => ⟨by (rw [pgOk_no hi6 hb (by ((try clear hw hm hds hss hcb hp hW hj e10_1 e9_1 gt1b gt4b ut1b ut4b); simp only [bkOk, headB, gv]; grind))]; rfl), hw.fr _ zm0⟩
         ·(try (have qh29 := h29; norm_cast at qh29))
          refine zi (zO (?_))
          exact k_mid ⟨rfl, rfl, (congrArg Value.bool (by (try clear hm hds hss hcb hp hW hj e10_1 e9_1 gt1b gt4b ut1b ut4b); simp only [gv]; grind)), e9_1, e10_1, rfl, rfl, by (try clear hm hds hss hcb hp hW hj e10_1 e9_1 gt1b gt4b ut1b ut4b); simp only [headB, gv]; grind⟩
      ·(try (have qh24 := h24; norm_cast at qh24))
       refine zs rfl rfl (bF h24) (zs rfl rfl (bF h24) (zs rfl rfl (bF h24) (zs rfl rfl (bF h24) (zw rfl rfl (bF h23) (zg (v := .bool _) (fun _ => zF (bF h24) rfl) (zg (v := .bool _) (fun _ => zF (bF h23) rfl) (mB rfl (zw rfl rfl rfl (mI rfl (zw rfl rfl rfl (zg (fun _ => R_eq rfl rfl) (zw rfl rfl rfl (mB rfl ?_))))))))))))); refine zd (t := 46) rfl (fun h30 => ?_) (fun h30 => ?_)
       ·(try (have qh30 := h30; norm_cast at qh30))
        refine zw rfl rfl (bT h30) (zf fa26_1 rfl (zw rfl rfl (bT h30) (zL 0 z23 rfl rfl rfl (zw rfl rfl (bT h30) (zg (fun _ => R_len sl23 rfl) (zw rfl rfl (bT h30) (zg (fun _ => R_gt rfl rfl) (zw rfl rfl rfl (zg (v := .bool _) (fun _ => zT (bT h30) rfl) (zg (v := .bool _) (fun _ => zF rfl rfl) (mB rfl ?_))))))))))); refine zd (t := 53) rfl (fun h31 => ?_) (fun h31 => ?_)
        ·(try (have qh31 := h31; norm_cast at qh31))
         refine zs rfl rfl (bT h31) (zs rfl rfl (bT h31) (zs rfl rfl (bT h31) (zs rfl rfl (bT h31) (zg (v := .bool _) (fun _ => zT (bT h31) rfl) (aB rfl (yB (zE rfl (yA (aI rfl (yB (ze (zb (zt (zb (zt (zt (zb (zt ((zo (v := .int _ _) rfl rfl rfl ?_)))))))))))))))))))); exact fun w' hw => ⟨by (rw [pgOk_no hi6 hb (by ((try clear hw hm hds hss hcb hp hW hj e10_1 e9_1 gt1b gt4b ut1b ut4b); simp only [bkOk, headB, gv]; grind))]; rfl), hw.fr _ zm0⟩
        ·(try (have qh31 := h31; norm_cast at qh31))
         refine zw rfl rfl (bF h31) (zf fa26_2 rfl (zw rfl rfl (bF h31) (zL 0 z24 rfl rfl rfl (zw rfl rfl (bF h31) (zC (fun w => zR Tryz.func75 rfl rfl rfl) rfl rfl (fun w h => stmts_ok b.stmts sa sc N w (by omega) (by omega) (hss.now (fun _ _ hh => hh) zm0 h) (hW.now zm0 h)) (zw rfl rfl (bF h31) (zg (fun _ => R_not rfl) (zg (v := .bool _) (fun _ => zF (bF h31) rfl) (aB rfl (yB ?_)))))))))); refine c_condN rfl (fun h32 => ?_) (fun h32 => ?_)
         ·(try (have qh32 := h32; norm_cast at qh32))
          refine yA (aI rfl (yB (ze (zb (zt (zb (zt (zt (zb (zt ((zo (v := .int _ _) rfl rfl rfl ?_)))))))))))); exact fun w' hw => ⟨by (rw [pgOk_no hi6 hb (by ((try clear hw hm hds hss hcb hp hW hj e10_1 e9_1 gt1b gt4b ut1b ut4b); simp only [bkOk, headB, gv]; grind))]; rfl), hw.fr _ zm0⟩
         ·(try (have qh32 := h32; norm_cast at qh32))
          refine zi (zO (?_))
          exact k_mid ⟨rfl, rfl, (congrArg Value.bool (by (try clear hm hds hss hcb hp hW hj e10_1 e9_1 gt1b gt4b ut1b ut4b); simp only [gv]; grind)), e9_1, e10_1, rfl, rfl, by (try clear hm hds hss hcb hp hW hj e10_1 e9_1 gt1b gt4b ut1b ut4b); simp only [headB, gv]; grind⟩
       ·(try (have qh30 := h30; norm_cast at qh30))
        refine zs rfl rfl (bF h30) (zs rfl rfl (bF h30) (zs rfl rfl (bF h30) (zs rfl rfl (bF h30) (zw rfl rfl rfl (zg (v := .bool _) (fun _ => zF (bF h30) rfl) (zg (v := .bool _) (fun _ => zF rfl rfl) (mB rfl (zw rfl rfl rfl (zf fa26_2 rfl (zw rfl rfl rfl (zL 0 z24 rfl rfl rfl (zw rfl rfl rfl (zC (fun w => zR Tryz.func75 rfl rfl rfl) rfl rfl (fun w h => stmts_ok b.stmts sa sc N w (by omega) (by omega) (hss.now (fun _ _ hh => hh) zm0 h) (hW.now zm0 h)) (zw rfl rfl rfl (zg (fun _ => R_not rfl) (zg (v := .bool _) (fun _ => zF rfl rfl) (aB rfl (yB ?_)))))))))))))))))); refine c_condN rfl (fun h33 => ?_) (fun h33 => ?_)
        ·(try (have qh33 := h33; norm_cast at qh33))
         refine yA (aI rfl (yB (ze (zb (zt (zb (zt (zt (zb (zt ((zo (v := .int _ _) rfl rfl rfl ?_)))))))))))); exact fun w' hw => ⟨by (rw [pgOk_no hi6 hb (by ((try clear hw hm hds hss hcb hp hW hj e10_1 e9_1 gt1b gt4b ut1b ut4b); simp only [bkOk, headB, gv]; grind))]; rfl), hw.fr _ zm0⟩
        ·(try (have qh33 := h33; norm_cast at qh33))
         refine zi (zO (?_))
         exact k_mid ⟨rfl, rfl, (congrArg Value.bool (by (try clear hm hds hss hcb hp hW hj e10_1 e9_1 gt1b gt4b ut1b ut4b); simp only [gv]; grind)), e9_1, e10_1, rfl, rfl, by (try clear hm hds hss hcb hp hW hj e10_1 e9_1 gt1b gt4b ut1b ut4b); simp only [headB, gv]; grind⟩
    ·(try (have qh22 := h22; norm_cast at qh22))
     refine zs rfl rfl (bV h22) (zs rfl rfl (bV h22) (zs rfl rfl (bV h22) (zs rfl rfl (bV h22) (zs rfl rfl (bV h22) (zs rfl rfl (bV h22) (zs rfl rfl (bV h22) (zs rfl rfl (bV h22) (zg (v := .bool _) (fun _ => zF (bV h22) rfl) (mB rfl (zw rfl rfl rfl (mB rfl (zw rfl rfl rfl (mB rfl ?_))))))))))))); refine zd (t := 36) rfl (fun h34 => ?_) (fun h34 => ?_)
     ·(try (have qh34 := h34; norm_cast at qh34))
      refine zw rfl rfl (bT h34) (zf fa26_2 rfl (zw rfl rfl (bT h34) (zL 0 z24 rfl rfl rfl (zw rfl rfl (bT h34) (zg (fun _ => R_len sl24 rfl) (zw rfl rfl (bT h34) (zg (fun _ => R_gt rfl rfl) (zw rfl rfl rfl (zg (v := .bool _) (fun _ => zT (bT h34) rfl) (zg (v := .bool _) (fun _ => zF rfl rfl) (mB rfl ?_))))))))))); refine zd (t := 43) rfl (fun h35 => ?_) (fun h35 => ?_)
      ·(try (have qh35 := h35; norm_cast at qh35))
       refine zs rfl rfl (bT h35) (zs rfl rfl (bT h35) (zs rfl rfl (bT h35) (zU rfl rfl rfl (zU rfl rfl rfl (zU rfl rfl rfl (zU rfl rfl rfl (zs rfl rfl (bT h35) (zg (v := .bool _) (fun _ => zT (bT h35) rfl) (mB rfl ?_))))))))); (iterate 4 refine zs rfl rfl rfl ?_); refine zg (v := .bool _) (fun _ => zT rfl rfl) (aB rfl (yB (zE rfl (yA (aI rfl (yB (ze (zb (zt (zb (zt (zt (zb (zt (?_)))))))))))))))
       refine zo (v := .int _ _) rfl rfl rfl ?_; exact fun w' hw => ⟨by (rw [pgOk_no hi6 hb (by ((try clear hw hm hds hss hcb hp hW hj e10_1 e9_1 gt1b gt4b ut1b ut4b); simp only [bkOk, headB, gv]; grind))]; rfl), hw.fr _ zm0⟩
      ·(try (have qh35 := h35; norm_cast at qh35))
       refine zw rfl rfl (bF h35) (mI rfl (zw rfl rfl (bF h35) (zg (fun _ => R_eq rfl rfl) (zw rfl rfl (bF h35) (mB rfl ?_))))); refine zd (t := 46) rfl (fun h36 => ?_) (fun h36 => ?_)
       ·(try (have qh36 := h36; norm_cast at qh36))
        refine zw rfl rfl (bT h36) (zf fa26_1 rfl (zw rfl rfl (bT h36) (zL 0 z23 rfl rfl rfl (zw rfl rfl (bT h36) (zg (fun _ => R_len sl23 rfl) (zw rfl rfl (bT h36) (zg (fun _ => R_gt rfl rfl) (zw rfl rfl (bF h35) (zg (v := .bool _) (fun _ => zT (bT h36) rfl) (zg (v := .bool _) (fun _ => zF (bF h35) rfl) (mB rfl ?_))))))))))); refine zd (t := 53) rfl (fun h37 => ?_) (fun h37 => ?_)
        ·(try (have qh37 := h37; norm_cast at qh37))
         refine zs rfl rfl (bT h37) (zs rfl rfl (bT h37) (zs rfl rfl (bT h37) (zs rfl rfl (bT h37) (zg (v := .bool _) (fun _ => zT (bT h37) rfl) (aB rfl (yB (zE rfl (yA (aI rfl (yB (ze (zb (zt (zb (zt (zt (zb (zt ((zo (v := .int _ _) rfl rfl rfl ?_)))))))))))))))))))); exact fun w' hw => ⟨by (rw [pgOk_no hi6 hb (by ((try clear hw hm hds hss hcb hp hW hj e10_1 e9_1 gt1b gt4b ut1b ut4b); simp only [bkOk, headB, gv]; grind))]; rfl), hw.fr _ zm0⟩
        ·(try (have qh37 := h37; norm_cast at qh37))
         refine zw rfl rfl (bF h37) (zf fa26_2 rfl (zw rfl rfl (bF h37) (zL 0 z24 rfl rfl rfl (zw rfl rfl (bF h37) (zC (fun w => zR Tryz.func75 rfl rfl rfl) rfl rfl (fun w h => stmts_ok b.stmts sa sc N w (by omega) (by omega) (hss.now (fun _ _ hh => hh) zm0 h) (hW.now zm0 h)) (zw rfl rfl (bF h37) (zg (fun _ => R_not rfl) (zg (v := .bool _) (fun _ => zF (bF h37) rfl) (aB rfl (yB ?_)))))))))); refine c_condN rfl (fun h38 => ?_) (fun h38 => ?_)
         ·(try (have qh38 := h38; norm_cast at qh38))
          refine yA (aI rfl (yB (ze (zb (zt (zb (zt (zt (zb (zt ((zo (v := .int _ _) rfl rfl rfl ?_)))))))))))); exact fun w' hw => ⟨by (rw [pgOk_no hi6 hb (by ((try clear hw hm hds hss hcb hp hW hj e10_1 e9_1 gt1b gt4b ut1b ut4b); simp only [bkOk, headB, gv]; grind))]; rfl), hw.fr _ zm0⟩
         ·(try (have qh38 := h38; norm_cast at qh38))
          refine zi (zO (?_))
          exact k_mid ⟨rfl, rfl, (congrArg Value.bool (by (try clear hm hds hss hcb hp hW hj e10_1 e9_1 gt1b gt4b ut1b ut4b); simp only [gv]; grind)), e9_1, e10_1, rfl, rfl, by (try clear hm hds hss hcb hp hW hj e10_1 e9_1 gt1b gt4b ut1b ut4b); simp only [headB, gv]; grind⟩
       ·(try (have qh36 := h36; norm_cast at qh36))
        refine zs rfl rfl (bF h36) (zs rfl rfl (bF h36) (zs rfl rfl (bF h36) (zs rfl rfl (bF h36) (zw rfl rfl (bF h35) (zg (v := .bool _) (fun _ => zF (bF h36) rfl) (zg (v := .bool _) (fun _ => zF (bF h35) rfl) (mB rfl (zw rfl rfl rfl (zf fa26_2 rfl (zw rfl rfl rfl (zL 0 z24 rfl rfl rfl (zw rfl rfl rfl (zC (fun w => zR Tryz.func75 rfl rfl rfl) rfl rfl (fun w h => stmts_ok b.stmts sa sc N w (by omega) (by omega) (hss.now (fun _ _ hh => hh) zm0 h) (hW.now zm0 h)) (zw rfl rfl rfl (zg (fun _ => R_not rfl) (zg (v := .bool _) (fun _ => zF rfl rfl) (aB rfl (yB ?_)))))))))))))))))); refine c_condN rfl (fun h39 => ?_) (fun h39 => ?_)
        ·(try (have qh39 := h39; norm_cast at qh39))
         refine yA (aI rfl (yB (ze (zb (zt (zb (zt (zt (zb (zt ((zo (v := .int _ _) rfl rfl rfl ?_)))))))))))); exact fun w' hw => ⟨by (rw [pgOk_no hi6 hb (by ((try clear hw hm hds hss hcb hp hW hj e10_1 e9_1 gt1b gt4b ut1b ut4b); simp only [bkOk, headB, gv]; grind))]; rfl), hw.fr _ zm0⟩
        ·(try (have qh39 := h39; norm_cast at qh39))
         refine zi (zO (?_))
         exact k_mid ⟨rfl, rfl, (congrArg Value.bool (by (try clear hm hds hss hcb hp hW hj e10_1 e9_1 gt1b gt4b ut1b ut4b); simp only [gv]; grind)), e9_1, e10_1, rfl, rfl, by (try clear hm hds hss hcb hp hW hj e10_1 e9_1 gt1b gt4b ut1b ut4b); simp only [headB, gv]; grind⟩
     ·(try (have qh34 := h34; norm_cast at qh34))
      refine zs rfl rfl (bF h34) (zs rfl rfl (bF h34) (zs rfl rfl (bF h34) (zs rfl rfl (bF h34) (zw rfl rfl rfl (zg (v := .bool _) (fun _ => zF (bF h34) rfl) (zg (v := .bool _) (fun _ => zF rfl rfl) (mB rfl (zw rfl rfl rfl (mI rfl (zw rfl rfl rfl (zg (fun _ => R_eq rfl rfl) (zw rfl rfl rfl (mB rfl ?_))))))))))))); refine zd (t := 46) rfl (fun h40 => ?_) (fun h40 => ?_)
      ·(try (have qh40 := h40; norm_cast at qh40))
       refine zw rfl rfl (bT h40) (zf fa26_1 rfl (zw rfl rfl (bT h40) (zL 0 z23 rfl rfl rfl (zw rfl rfl (bT h40) (zg (fun _ => R_len sl23 rfl) (zw rfl rfl (bT h40) (zg (fun _ => R_gt rfl rfl) (zw rfl rfl rfl (zg (v := .bool _) (fun _ => zT (bT h40) rfl) (zg (v := .bool _) (fun _ => zF rfl rfl) (mB rfl ?_))))))))))); refine zd (t := 53) rfl (fun h41 => ?_) (fun h41 => ?_)
       ·(try (have qh41 := h41; norm_cast at qh41))
        refine zs rfl rfl (bT h41) (zs rfl rfl (bT h41) (zs rfl rfl (bT h41) (zs rfl rfl (bT h41) (zg (v := .bool _) (fun _ => zT (bT h41) rfl) (aB rfl (yB (zE rfl (yA (aI rfl (yB (ze (zb (zt (zb (zt (zt (zb (zt ((zo (v := .int _ _) rfl rfl rfl ?_)))))))))))))))))))); exact fun w' hw => ⟨by (rw [pgOk_no hi6 hb (by ((try clear hw hm hds hss hcb hp hW hj e10_1 e9_1 gt1b gt4b ut1b ut4b); simp only [bkOk, headB, gv]; grind))]; rfl), hw.fr _ zm0⟩
       ·(try (have qh41 := h41; norm_cast at qh41))
        refine zw rfl rfl (bF h41) (zf fa26_2 rfl (zw rfl rfl (bF h41) (zL 0 z24 rfl rfl rfl (zw rfl rfl (bF h41) (zC (fun w => zR Tryz.func75 rfl rfl rfl) rfl rfl (fun w h => stmts_ok b.stmts sa sc N w (by omega) (by omega) (hss.now (fun _ _ hh => hh) zm0 h) (hW.now zm0 h)) (zw rfl rfl (bF h41) (zg (fun _ => R_not rfl) (zg (v := .bool _) (fun _ => zF (bF h41) rfl) (aB rfl (yB ?_)))))))))); refine c_condN rfl (fun h42 => ?_) (fun h42 => ?_)
        ·(try (have qh42 := h42; norm_cast at qh42))
         refine yA (aI rfl (yB (ze (zb (zt (zb (zt (zt (zb (zt ((zo (v := .int _ _) rfl rfl rfl ?_)))))))))))); exact fun w' hw => ⟨by (rw [pgOk_no hi6 hb (by ((try clear hw hm hds hss hcb hp hW hj e10_1 e9_1 gt1b gt4b ut1b ut4b); simp only [bkOk, headB, gv]; grind))]; rfl), hw.fr _ zm0⟩
        ·(try (have qh42 := h42; norm_cast at qh42))
         refine zi (zO (?_))
         exact k_mid ⟨rfl, rfl, (congrArg Value.bool (by (try clear hm hds hss hcb hp hW hj e10_1 e9_1 gt1b gt4b ut1b ut4b); simp only [gv]; grind)), e9_1, e10_1, rfl, rfl, by (try clear hm hds hss hcb hp hW hj e10_1 e9_1 gt1b gt4b ut1b ut4b); simp only [headB, gv]; grind⟩
      ·(try (have qh40 := h40; norm_cast at qh40))
       refine zs rfl rfl (bF h40) (zs rfl rfl (bF h40) (zs rfl rfl (bF h40) (zs rfl rfl (bF h40) (zw rfl rfl rfl (zg (v := .bool _) (fun _ => zF (bF h40) rfl) (zg (v := .bool _) (fun _ => zF rfl rfl) (mB rfl (zw rfl rfl rfl (zf fa26_2 rfl (zw rfl rfl rfl (zL 0 z24 rfl rfl rfl (zw rfl rfl rfl (zC (fun w => zR Tryz.func75 rfl rfl rfl) rfl rfl (fun w h => stmts_ok b.stmts sa sc N w (by omega) (by omega) (hss.now (fun _ _ hh => hh) zm0 h) (hW.now zm0 h)) (zw rfl rfl rfl (zg (fun _ => R_not rfl) (zg (v := .bool _) (fun _ => zF rfl rfl) (aB rfl (yB ?_)))))))))))))))))); refine c_condN rfl (fun h43 => ?_) (fun h43 => ?_)
       ·(try (have qh43 := h43; norm_cast at qh43))
        refine yA (aI rfl (yB (ze (zb (zt (zb (zt (zt (zb (zt ((zo (v := .int _ _) rfl rfl rfl ?_)))))))))))); exact fun w' hw => ⟨by (rw [pgOk_no hi6 hb (by ((try clear hw hm hds hss hcb hp hW hj e10_1 e9_1 gt1b gt4b ut1b ut4b); simp only [bkOk, headB, gv]; grind))]; rfl), hw.fr _ zm0⟩
       ·(try (have qh43 := h43; norm_cast at qh43))
        refine zi (zO (?_))
        exact k_mid ⟨rfl, rfl, (congrArg Value.bool (by (try clear hm hds hss hcb hp hW hj e10_1 e9_1 gt1b gt4b ut1b ut4b); simp only [gv]; grind)), e9_1, e10_1, rfl, rfl, by (try clear hm hds hss hcb hp hW hj e10_1 e9_1 gt1b gt4b ut1b ut4b); simp only [headB, gv]; grind⟩
   rintro e B L ⟨e3_4, e4_4, e5_4, e9_4, e10_4, rfl, rfl, hd⟩
   refine yA (zf fa26_1 e4_4 (zL 0 z23 rfl rfl rfl (zg (fun _ => R_len sl23 rfl) (mI rfl (yB (zB (c_loop (fun m e B L => ∃ (k : Nat), e 3 = .int .i64 (i : Nat) ∧ e 5 = .bool (gv i) ∧ e 9 = .agg cs.toArray ∧ e 10 = .int .i64 (i : Nat) ∧ e 60 = .slice da b.decls.length dc ∧ e 61 = .int .i64 (b.decls.length : Nat) ∧ e 62 = .int .i64 (k : Nat) ∧ B = [(w, No)] ∧ L = [(t4b, cel [.bool b.is, .slice da b.decls.length dc, .slice sa b.stmts.length sc] 26), (t1b, cel cs 29)] ∧ k ≤ b.decls.length ∧ (∀ y ∈ b.decls.take k, (!dgood i y) = false) ∧ m = b.decls.length - k) _ ⟨0, e3_4, e5_4, e9_4, e10_4, rfl, rfl, rfl, rfl, rfl, Nat.zero_le _, (by simp), rfl⟩ ?_)))))))
   rintro m e B L ⟨k, e3_5, e5_5, e9_5, e10_5, e60_5, e61_5, e62_5, rfl, rfl, hk, hy, rfl⟩
   refine yA (zg (fun _ => R_lt e62_5 e61_5) (yB (zq ?_))); refine zD rfl (fun h44 => ?_) (fun h44 => ?_)
   ·(try (have qh44 := h44; norm_cast at qh44))
    have hlt : k < b.decls.length := (by omega); obtain ⟨x, hxk⟩ : ∃ x, b.decls[k]? = some x := ⟨_, List.getElem?_eq_getElem hlt⟩; obtain ⟨cs2, hA, hE⟩ := hds k x hxk; have hxn := dcsW_mem (List.mem_of_getElem? hxk); obtain ⟨b1, o1, rfl⟩ := hA.ptr; have hE2 := hE; obtain ⟨ty, at_, nm, sz, lo, up, ini⟩ := x; unfold dcM at hE2; obtain ⟨xa, xc, la, lc, ua, uc, ia, ic, hcs, hsz, hlo, hup, hini⟩ := hE2; simp only [] at hcs; subst hcs
    refine zi (zk (zq (zB (yA (zg (fun _ => R_iaN (i := k) sl23 e60_5 e62_5 (by omega)) (w_loadC (l := [.int .u8 (ty : Nat), .int .i64 at_, str nm, .slice xa sz.length xc, .slice la lo.length lc, .slice ua up.length uc, .slice ia ini.length ic]) z46 rfl rfl (fun w h j v hj => hA.cell (fun _ _ hh => hh) zm0 h j v hj) (zA zr46 (fun t7b gt7b ut7b => zV 0 rfl z46 rfl rfl rfl rfl rfl rfl rfl (yC (zY z46 rfl (fun _ h => h.at_ 0 rfl) rfl (zC (fun w => zR Tryz.func76 rfl rfl rfl) rfl rfl (fun w h => decl_spec _ _ N w (by omega) (hE.now (fun _ _ hh => hh) zm0 h) (hW.now zm0 h)) (zg (fun _ => R_not rfl) (mB rfl ?_))))))))))))); refine zp (t := 69) rfl (fun h46 => ?_) (fun h46 => ?_)
    ·(try (have qh46 := h46; norm_cast at qh46))
     refine zs rfl rfl (bV h46) (zs rfl rfl (bV h46) (zU rfl rfl rfl (zU rfl rfl rfl (zU rfl rfl rfl (zU rfl rfl rfl (zs rfl rfl (bV h46) (zg (v := .bool _) (fun _ => zT (bV h46) rfl) (yB (zE rfl (yA (aI rfl (yB (ze (zb (zt (zt (zb (zb (zt (zt (zb (zt ((zo (v := .int _ _) rfl rfl rfl ?_)))))))))))))))))))))))); exact fun w' hw => ⟨by (rw [pgOk_no hi6 hb (by (unfold bkOk; rw [all_no hxk (by (try clear hw hm hds hss hcb hp hW hj hA hE hsz hlo hup hini e10_1 e10_4 e10_5 e3_4 e3_5 e4_4 e5_4 e5_5 e60_5 e61_5 e62_5 e9_1 e9_4 e9_5 gt1b gt4b gt7b ut1b ut4b ut7b); simp only [dgood]; grind)]; simp; done))]; rfl), hw.fr _ zm0⟩
    ·(try (have qh46 := h46; norm_cast at qh46))
     refine zw rfl rfl (bV h46) (mB e5_5 (zw rfl rfl (bV h46) (mB rfl ?_))); refine zp (t := 71) rfl (fun h47 => ?_) (fun h47 => ?_)
     ·(try (have qh47 := h47; norm_cast at qh47))
      refine zw rfl rfl (bV h47) (zf fa46_6 rfl (zw rfl rfl (bV h47) (zL 0 z37 rfl rfl rfl (zw rfl rfl (bV h47) (zg (fun _ => R_len sl37 rfl) (zw rfl rfl (bV h47) (zg (fun _ => R_gt rfl rfl) (zw rfl rfl (bV h46) (zg (v := .bool _) (fun _ => zT (bV h47) rfl) (zg (v := .bool _) (fun _ => zF (bV h46) rfl) (yB ?_))))))))))); refine zD rfl (fun h48 => ?_) (fun h48 => ?_)
      ·(try (have qh48 := h48; norm_cast at qh48))
       refine yA (aI rfl (yB (ze (zb (zt (zt (zb (zb (zt (zt (zb (zt ((zo (v := .int _ _) rfl rfl rfl ?_)))))))))))))); exact fun w' hw => ⟨by (rw [pgOk_no hi6 hb (by (unfold bkOk; rw [all_no hxk (by (try clear hw hm hds hss hcb hp hW hj hA hE hsz hlo hup hini e10_1 e10_4 e10_5 e3_4 e3_5 e4_4 e5_4 e5_5 e60_5 e61_5 e62_5 e9_1 e9_4 e9_5 gt1b gt4b gt7b ut1b ut4b ut7b); simp only [dgood]; grind)]; simp; done))]; rfl), hw.fr _ zm0⟩
      ·(try (have qh48 := h48; norm_cast at qh48))
       refine zi (zO (zk (zr (zg (fun _ => R_addi e62_5 rfl (by omega)) (mI rfl (zn (zK (B' := [(w, No)]) (L' := _) (fun w h => h.drop (List.sublist_cons_self _ _)) ?_))))))); exact k_again _ (by omega) ⟨k + 1, e3_5, e5_5, e9_5, e10_5, e60_5, e61_5, rfl, rfl, rfl, by omega, take_all hy hxk (by (try clear hm hds hss hcb hp hW hj hA hE hsz hlo hup hini e10_1 e10_4 e10_5 e3_4 e3_5 e4_4 e5_4 e5_5 e60_5 e61_5 e62_5 e9_1 e9_4 e9_5 gt1b gt4b gt7b ut1b ut4b ut7b); simp only [dgood]; grind), rfl⟩
     ·(try (have qh47 := h47; norm_cast at qh47))
      refine zs rfl rfl (bV h47) (zs rfl rfl (bV h47) (zs rfl rfl (bV h47) (zs rfl rfl (bV h47) (zw rfl rfl (bV h46) (zg (v := .bool _) (fun _ => zF (bV h47) rfl) (zg (v := .bool _) (fun _ => zF (bV h46) rfl) (yB (zG rfl (zi (zO (zk (zr (zg (fun _ => R_addi e62_5 rfl (by omega)) (mI rfl (zn (zK (B' := [(w, No)]) (L' := _) (fun w h => h.drop (List.sublist_cons_self _ _)) ?_))))))))))))))))
      exact k_again _ (by omega) ⟨k + 1, e3_5, e5_5, e9_5, e10_5, e60_5, e61_5, rfl, rfl, rfl, by omega, take_all hy hxk (by (try clear hm hds hss hcb hp hW hj hA hE hsz hlo hup hini e10_1 e10_4 e10_5 e3_4 e3_5 e4_4 e5_4 e5_5 e60_5 e61_5 e62_5 e9_1 e9_4 e9_5 gt1b gt4b gt7b ut1b ut4b ut7b); simp only [dgood]; grind), rfl⟩
   ·(try (have qh44 := h44; norm_cast at qh44))
    have hall : b.decls.all (dgood i) = true := all_of_take hy (by omega)
    refine zX (zx (zx (b_here rfl (zO (zk (zr (zg (fun _ => R_addi e10_5 rfl (by omega)) (mI rfl (zn (zK (B' := [(w, No)]) (L' := [(t1b, cel cs 29)]) (fun w h => h.drop (List.sublist_cons_self _ _)) ?_)))))))))); exact k_again _ (by omega) ⟨i + 1, e9_5, rfl, rfl, rfl, by omega, bk_next hj hb (by unfold bkOk; rw [hd, hall]; rfl), rfl⟩
 ·(try (have qh2 := h2; norm_cast at qh2))
  refine zX (zx (zx (b_here rfl (zk (yA (aI rfl (yB (ze (zo (v := .int _ _) rfl rfl rfl ?_))))))))); exact fun w' hw => ⟨by (rw [pgOk_yes hm.six (fun j b h => hj j b (by omega))]; rfl), hw.fr _ zm0⟩
end Go.Proofs.YtaniogadknakoaaGreatDoor
end

section
namespace Go.Proofs.YtaniogadknakoaaGreatDoor
open Go.RowKit Go.Sx
open Go.Tok Go.Tree
abbrev Pen := PenAt 9 90
abbrev OwnT := OwnS 9

theorem rank_spec (op : Nat) (w : World) :
  Ret Tryz.prog 102 #[.int .u8 (op : Nat)] w (fun v w' => v = .int .i64 (rank op : Nat) ∧ Ext w w') := by
 refine enter (S := No) (l := [_]) (L := []) 12 Tryz.func102 rfl rfl rfl (St.start w No) (yA (aI rfl (yB (zq (yA (mI rfl (yB (zB (zq (yA (zg (fun _ => R_eq rfl rfl) (aB rfl (yB ?_))))))))))))); refine zD rfl (fun h1 => ?_) (fun h1 => ?_)
 ·refine zi (zk (zE (bT h1) (yA (aI rfl (yB (ze (zb (zt ((zo (v := .int _ _) rfl rfl rfl ?_)))))))))); exact fun w' hw => ⟨by unfold rank; (rw [if_pos (by omega)]; rfl), hw.fr _ zm0⟩
 ·refine zr (zg (fun _ => R_eq rfl rfl) (aB rfl (yB ?_))); refine zD rfl (fun h2 => ?_) (fun h2 => ?_)
  ·refine yA (aI rfl (yB (ze (zb (zt ((zo (v := .int _ _) rfl rfl rfl ?_))))))); exact fun w' hw => ⟨by unfold rank; (rw [if_pos (by omega)]; rfl), hw.fr _ zm0⟩
  ·refine zq (yA (zg (fun _ => R_eq rfl rfl) (aB rfl (yB ?_)))); refine zD rfl (fun h3 => ?_) (fun h3 => ?_)
   ·refine zi (zk (zE (bT h3) (yA (aI rfl (yB (ze (zb (zt ((zo (v := .int _ _) rfl rfl rfl ?_)))))))))); exact fun w' hw => ⟨by unfold rank; (rw [if_neg (by omega), if_pos (by omega)]; rfl), hw.fr _ zm0⟩
   ·refine zr (zg (fun _ => R_eq rfl rfl) (aB rfl (yB ?_))); refine zD rfl (fun h4 => ?_) (fun h4 => ?_)
    ·refine yA (aI rfl (yB (ze (zb (zt ((zo (v := .int _ _) rfl rfl rfl ?_))))))); exact fun w' hw => ⟨by unfold rank; (rw [if_neg (by omega), if_pos (by omega)]; rfl), hw.fr _ zm0⟩
    ·refine yA (zg (fun _ => R_eq rfl rfl) (aB rfl (yB ?_))); refine zD rfl (fun h5 => ?_) (fun h5 => ?_)
     ·refine yA (aI rfl (yB (ze (zb (zt ((zo (v := .int _ _) rfl rfl rfl ?_))))))); exact fun w' hw => ⟨by unfold rank; (rw [if_neg (by omega), if_neg (by omega), if_pos (by omega)]; rfl), hw.fr _ zm0⟩
     ·refine zi (zO (zk (yA (aI rfl (yB (ze (zo (v := .int _ _) rfl rfl rfl ?_))))))); exact fun w' hw => ⟨by unfold rank; (rw [if_neg (by omega), if_neg (by omega), if_neg (by omega)]; rfl), hw.fr _ zm0⟩

theorem put_spec (p : Nat) (Bs : Base) (Lr : Heap) (w : World) (xs : List Str) (b2 : Nat) (ts : List Str) (h0 : 0 < ts.length) (hb : xs.length + ts.length ≤ 1000000000) (hmem : (b2, cel (ts.map str) 9) ∈ Lr) (hP : Pen p xs Bs Lr w) :
  Ret Tryz.prog 40 #[.pointer (some ⟨p, 0, none⟩), .slice (some ⟨b2, 0, none⟩) ts.length ts.length] w (fun u w' => u = .tuple #[] ∧ Pen p (xs ++ ts) Bs Lr w') := by
 obtain ⟨v, W, hO, hs⟩ := hP
 refine enterB (l := [_, _]) 13 Tryz.func40 rfl rfl rfl (hs) (zr (mP rfl (mP rfl (zI rfl (zf fa90_0 rfl (zL 0 z56 rfl rfl rfl (mS rfl ?_))))))); refine w_app [(p, _)] (W := W) (L := Lr) (news := ts.map str) slt56 (by decide) rfl hO rfl (by simp) (fun w h j u hu => by rw [Nat.zero_add]; exact zM (List.mem_cons_of_mem _ (List.mem_append_right _ hmem)) hu h) (strs_one ts) h0 (by omega) (by omega) (fun v2 W2 hO2 => ?_)
 obtain ⟨a2, c2, rfl⟩ := hO2.slice
 refine zI rfl (zf fa90_0 rfl (zV 0 rfl z56 rfl rfl rfl rfl rfl rfl rfl (zn (r_none (.inr rfl) rfl ?_)))); exact fun w' hw => ⟨rfl, _, W2, OwnS.more hO2, hw⟩


def penOk (x : Ex) : Bool := exOk x || cmpOk x
def ExprP (n : Nat) : Prop := ∀ (x : Ex) (cs : List Value) (N : Nat → Prop) (y : World × (Nat → Prop)) (p : Nat) (Bs : Base) (Lr : Heap) (w : World) (xs : List Str), exW x < n → penOk x = true → exM y.1 N x cs → Apart y N → y ∈ Bs → xs.length + (exT x).length ≤ 1000000000 → Pen p xs Bs Lr w →
  Ret Tryz.prog 55 #[.pointer (some ⟨p, 0, none⟩), .agg cs.toArray] w fun u w' => u = .tuple #[] ∧ Pen p (xs ++ exT x) Bs Lr w'
theorem penOk_of {x : Ex} (h : exOk x = true) : penOk x = true := by unfold penOk; rw [h]; rfl
theorem exsOk_get {l : List Ex} {k : Nat} {x : Ex} (h : exsOk l = true) (hk : l[k]? = some x) : exOk x = true := by
 rw [exsOk_all, List.all_eq_true] at h
 exact h x (List.mem_of_getElem? hk)

theorem kid_spec (n : Nat) (ih : ExprP n) (hN : n ≤ 10000000) (least : Nat) (x : Ex) (cs : List Value) (N : Nat → Prop) (y : World × (Nat → Prop)) (p : Nat) (Bs : Base) (Lr : Heap) (w : World) (xs : List Str) (hx : exW x < n) (hok : penOk x = true) (hm : exM y.1 N x cs) (hn : Apart y N) (hy : y ∈ Bs) (hb : xs.length + (kidT x.op (exT x) least).length ≤ 1000000000) (hP : Pen p xs Bs Lr w) :
  Ret Tryz.prog 101 #[.pointer (some ⟨p, 0, none⟩), .agg cs.toArray, .int .i64 (least : Nat)] w (fun u w' => u = .tuple #[] ∧ Pen p (xs ++ kidT x.op (exT x) least) Bs Lr w') := by
 obtain ⟨op, at_, nm, ks⟩ := x
 have hm2 := hm
 unfold exM at hm2
 obtain ⟨ka, kc, rfl, hkc, hks⟩ := hm2
 have hx2 := hx
 unfold exW at hx2
 obtain ⟨v, W, hO, hs⟩ := hP
 refine enterB (l := [_, _, _]) 23 Tryz.func101 rfl rfl rfl (hs) (yA (w_boxA rfl (fun t4b gt4b ut4b => yB (zq (yA (zf fa39_0 rfl (zL 0 z5 rfl rfl rfl (zC (fun w => zR Tryz.func102 rfl rfl rfl) rfl rfl (fun w h => rank_spec op w) (mI rfl (zg (fun _ => R_lt rfl rfl) (yB ?_))))))))))); refine zD rfl (fun h2 => ?_) (fun h2 => ?_)
 ·have hr : rank (Ex.op (Ex.mk op at_ nm ks)) < least := (by simp only [Ex.op]; omega); rw [kidT, if_pos hr] at hb; simp only [List.length_append, List.length_cons, List.length_nil] at hb
  refine yA (mP rfl (zS slt56 (by decide) rfl rfl (fun b3 gb3 ub3 => ?_)))
  refine w_pen (A := [_, _]) (Lr := Lr) ([[40]]) (fun w => zR Tryz.func40 rfl rfl rfl) rfl rfl hO (fun w h => put_spec p _ _ w _ b3 ([[40]]) (Nat.succ_pos _) (by (simp only [List.length_append, List.length_cons, List.length_nil] at *; omega)) zm0 h) (fun v4 W4 hO4 => ?_)
  refine yC (mP rfl (zY z39 rfl (fun _ h => h.at_ 1 rfl) rfl ?_)); refine w_pen (A := [_, _]) (Lr := Lr) (exT (Ex.mk op at_ nm ks)) (fun w => zR Tryz.func55 rfl rfl rfl) rfl rfl hO4 (fun w h => ih _ _ N y p _ _ w _ hx hok hm hn hy (by (simp only [List.length_append, List.length_cons, List.length_nil] at *; omega)) h) (fun v5 W5 hO5 => ?_)
  refine yC (mP rfl (zS slt56 (by decide) rfl rfl (fun b6 gb6 ub6 => ?_)))
  refine w_pen (A := [_, _, _]) (Lr := Lr) ([[41]]) (fun w => zR Tryz.func40 rfl rfl rfl) rfl rfl hO5 (fun w h => put_spec p _ _ w _ b6 ([[41]]) (Nat.succ_pos _) (by (simp only [List.length_append, List.length_cons, List.length_nil] at *; omega)) zm0 h) (fun v7 W7 hO7 => ?_)
  refine yB (ze (zt ((r_none (.inl rfl) rfl ?_)))); exact fun w' hw => ⟨rfl, PenAt.fin (A := [_, _, _]) hO7 (by rw [kidT, if_pos hr]; simp) hw⟩
 ·have hr : ¬ rank (Ex.op (Ex.mk op at_ nm ks)) < least := (by simp only [Ex.op]; omega); rw [kidT, if_neg hr] at hb
  refine zi (zk (zr (mP rfl (zY z39 rfl (fun _ h => h.at_ 0 rfl) rfl (w_pen (A := [_]) (Lr := Lr) (exT (Ex.mk op at_ nm ks)) (fun w => zR Tryz.func55 rfl rfl rfl) rfl rfl hO (fun w h => ih _ _ N y p _ _ w _ hx hok hm hn hy (by omega) h) (fun v8 W8 hO8 => zn (r_none (.inr rfl) rfl ?_))))))); exact fun w' hw => ⟨rfl, PenAt.fin (A := [_]) hO8 (by rw [kidT, if_neg hr]) hw⟩

theorem row_spec (n : Nat) (ih : ExprP n) (hN : n ≤ 10000000) (l : List Ex) (a : Option Addr) (c : Nat) (N : Nat → Prop) (y : World × (Nat → Prop)) (p : Nat) (Bs : Base) (Lr : Heap) (w : World) (xs : List Str) (hl : ∀ x ∈ l, exW x < n) (hll : l.length ≤ 10000000) (hok : exsOk l = true) (hm : exsM y.1 N l a 0) (hn : Apart y N) (hy : y ∈ Bs) (hb : xs.length + (rowT (exsT l)).length ≤ 1000000000) (hP : Pen p xs Bs Lr w) :
  Ret Tryz.prog 80 #[.pointer (some ⟨p, 0, none⟩), .slice a l.length c] w (fun u w' => u = .tuple #[] ∧ Pen p (xs ++ rowT (exsT l)) Bs Lr w') := by
 obtain ⟨v, W, hO, hs⟩ := hP
 refine enterB (l := [_, _]) 22 Tryz.func80 rfl rfl rfl (hs) (yA (mS rfl (zg (fun _ => R_len sl37 rfl) (mI rfl (yB (zB (c_loop (fun m e B L => ∃ (k : Nat) (v : Value) (W : Heap), e 0 = .pointer (some ⟨p, 0, none⟩) ∧ e 6 = .slice a l.length c ∧ e 7 = .int .i64 (l.length : Nat) ∧ e 8 = .int .i64 (k : Nat) ∧ Bs = B ∧ L = (p, cel [v] 90) :: (W ++ Lr) ∧ k ≤ l.length ∧ OwnT v (xs ++ rowT (exsT (l.take k))) W ∧ m = l.length - k) _ ⟨0, v, W, rfl, rfl, rfl, rfl, rfl, rfl, Nat.zero_le _, (by simpa [exsT, rowT] using hO), rfl⟩ ?_)))))))
 rintro m e B L ⟨k, v, W, e0_1, e6_1, e7_1, e8_1, rfl, rfl, hk, hO, rfl⟩
 refine yA (zg (fun _ => R_lt e8_1 e7_1) (yB (zq ?_))); refine zD rfl (fun h1 => ?_) (fun h1 => ?_)
 ·have hlt : k < l.length := (by omega); obtain ⟨x, hxk⟩ : ∃ x, l[k]? = some x := ⟨_, List.getElem?_eq_getElem hlt⟩; obtain ⟨cs, hA, hE⟩ := hm.get0 hxk; have hxn := hl x (List.mem_of_getElem? hxk); have hxo := exsOk_get hok hxk; have hle := rowT_le l (k + 1); have hnx := rowT_next hxk; rw [hnx] at hle; simp only [List.length_append] at hle; obtain ⟨b1, o1, rfl⟩ := hA.ptr; obtain ⟨op, at_, nm, ks⟩ := x; have hE2 := hE; unfold exM at hE2; obtain ⟨ka, kc, rfl, hkc, hks⟩ := hE2
  refine zi (zk (zq (zB (yA (mI e8_1 (zg (fun _ => R_iaN (i := k) sl37 e6_1 e8_1 (by omega)) (w_loadC (l := [.int .u8 (op : Nat), .int .i64 at_, str nm, .slice ka ks.length kc]) z39 rfl rfl (fun w h j v hj => hA.cell hn hy h j v hj) (zA zr39 (fun t5b gt5b ut5b => aI rfl (zV 0 rfl z39 rfl rfl rfl rfl rfl rfl rfl (yB (zq (yA (mI rfl (zg (fun _ => R_gt rfl rfl) (yB ?_)))))))))))))))); refine zD rfl (fun h3 => ?_) (fun h3 => ?_)
  ·rw [if_pos (show 0 < k by omega)] at hle; simp only [List.length_cons, List.length_nil] at hle
   refine zr (mP e0_1 (zS slt56 (by decide) rfl rfl (fun b4 gb4 ub4 => ?_)))
   refine w_pen (A := [_, _]) (Lr := Lr) ([[44]]) (fun w => zR Tryz.func40 rfl rfl rfl) rfl rfl hO (fun w h => put_spec p _ _ w _ b4 ([[44]]) (Nat.succ_pos _) (by (simp only [List.length_append, List.length_cons, List.length_nil] at *; omega)) zm0 h) (fun v5 W5 hO5 => ?_)
   refine yB (zr (mP e0_1 (zY z39 rfl (fun _ h => h.at_ 1 rfl) rfl ?_))); refine w_pen (A := [_, _]) (Lr := Lr) (exT (Ex.mk op at_ nm ks)) (fun w => zR Tryz.func55 rfl rfl rfl) rfl rfl hO5 (fun w h => ih _ _ N y p _ _ w _ hxn (penOk_of hxo) hE hn hy (by (simp only [List.length_append, List.length_cons, List.length_nil] at *; omega)) h) (fun v6 W6 hO6 => ?_)
   refine zn (zO (zk (zr (zg (fun _ => R_addi e8_1 rfl (by omega)) (mI rfl (zn ?_))))))
   rw [if_pos (show 0 < k by omega)] at hnx
   refine zK (B' := Bs) (L' := _) (fun w h => h.drop (List.sublist_append_right [_, _] _)) ?_; exact k_again _ (by omega) ⟨k + 1, _, _, e0_1, e6_1, e7_1, rfl, rfl, rfl, by omega, OwnS.eq hO6 (by rw [hnx]; simp), rfl⟩
  ·refine zi (zk (zr (mP e0_1 (zY z39 rfl (fun _ h => h.at_ 0 rfl) rfl ?_)))); refine w_pen (A := [_]) (Lr := Lr) (exT (Ex.mk op at_ nm ks)) (fun w => zR Tryz.func55 rfl rfl rfl) rfl rfl hO (fun w h => ih _ _ N y p _ _ w _ hxn (penOk_of hxo) hE hn hy (by (simp only [List.length_append, List.length_cons, List.length_nil] at *; omega)) h) (fun v7 W7 hO7 => ?_)
   refine zn (zO (zk (zr (zg (fun _ => R_addi e8_1 rfl (by omega)) (mI rfl (zn ?_))))))
   rw [if_neg (show ¬ 0 < k by omega)] at hnx
   refine zK (B' := Bs) (L' := _) (fun w h => h.drop (List.sublist_append_right [_] _)) ?_; exact k_again _ (by omega) ⟨k + 1, _, _, e0_1, e6_1, e7_1, rfl, rfl, rfl, by omega, OwnS.eq hO7 (by rw [hnx]; simp), rfl⟩
 ·refine zX (zx (zx (b_here rfl ((r_none (.inr rfl) rfl ?_))))); exact fun w' hw => ⟨rfl, PenAt.fin (A := []) hO (by rw [List.take_of_length_le (by omega)]) hw⟩

theorem signs_spec (op : Nat) (h6 : 6 ≤ op) (h15 : op ≤ 15) (w : World) :
  Ret Tryz.prog 104 #[.int .u8 (op : Nat)] w (fun v w' => v = str (signs op) ∧ Ext w w') := by
 refine enter (S := No) (l := [_]) (L := []) 18 Tryz.func104 rfl rfl rfl (St.start w No) (yA (za (v := str _) rfl (yC (w_makeMap (k := .u8) (fun mb gmb umb => zg (fun _ => R_build bt157 rfl) (w_insI 0 rfl unm158 unk5 rfl rfl rfl rfl (zg (fun _ => R_build bt157 rfl) (w_insI 0 rfl unm158 unk5 rfl rfl rfl rfl (zg (fun _ => R_build bt157 rfl) (w_insI 0 rfl unm158 unk5 rfl rfl rfl rfl (zg (fun _ => R_build bt157 rfl) (w_insI 0 rfl unm158 unk5 rfl rfl rfl rfl (zg (fun _ => R_build bt157 rfl) (w_insI 0 rfl unm158 unk5 rfl rfl rfl rfl (zg (fun _ => R_build bt157 rfl) (w_insI 0 rfl unm158 unk5 rfl rfl rfl rfl (zg (fun _ => R_build bt157 rfl) (w_insI 0 rfl unm158 unk5 rfl rfl rfl rfl (zg (fun _ => R_build bt157 rfl) (w_insI 0 rfl unm158 unk5 rfl rfl rfl rfl (zg (fun _ => R_build bt157 rfl) (w_insI 0 rfl unm158 unk5 rfl rfl rfl rfl (zg (fun _ => R_build bt157 rfl) (w_insI 0 rfl unm158 unk5 rfl rfl rfl rfl (zm rfl ?_)))))))))))))))))))))))))
 obtain rfl | rfl | rfl | rfl | rfl | rfl | rfl | rfl | rfl | rfl : op = 6 ∨ op = 7 ∨ op = 8 ∨ op = 9 ∨ op = 10 ∨ op = 11 ∨ op = 12 ∨ op = 13 ∨ op = 14 ∨ op = 15 := by omega
 ·refine mI rfl (w_lookI 0 (v := .agg (List.toArray [str [43]])) rfl unm158 unk5 zr157 rfl rfl rfl (zg (fun _ => R_fieldA fd157_0 z9 rfl rfl) (za (v := str _) rfl (yB (ze (zo (v := str _) rfl rfl rfl ?_)))))); exact fun w' hw => ⟨rfl, hw.fr _ zm0⟩
 ·refine mI rfl (w_lookI 0 (v := .agg (List.toArray [str [45]])) rfl unm158 unk5 zr157 rfl rfl rfl (zg (fun _ => R_fieldA fd157_0 z9 rfl rfl) (za (v := str _) rfl (yB (ze (zo (v := str _) rfl rfl rfl ?_)))))); exact fun w' hw => ⟨rfl, hw.fr _ zm0⟩
 ·refine mI rfl (w_lookI 0 (v := .agg (List.toArray [str [42]])) rfl unm158 unk5 zr157 rfl rfl rfl (zg (fun _ => R_fieldA fd157_0 z9 rfl rfl) (za (v := str _) rfl (yB (ze (zo (v := str _) rfl rfl rfl ?_)))))); exact fun w' hw => ⟨rfl, hw.fr _ zm0⟩
 ·refine mI rfl (w_lookI 0 (v := .agg (List.toArray [str [47]])) rfl unm158 unk5 zr157 rfl rfl rfl (zg (fun _ => R_fieldA fd157_0 z9 rfl rfl) (za (v := str _) rfl (yB (ze (zo (v := str _) rfl rfl rfl ?_)))))); exact fun w' hw => ⟨rfl, hw.fr _ zm0⟩
 ·refine mI rfl (w_lookI 0 (v := .agg (List.toArray [str [61, 61]])) rfl unm158 unk5 zr157 rfl rfl rfl (zg (fun _ => R_fieldA fd157_0 z9 rfl rfl) (za (v := str _) rfl (yB (ze (zo (v := str _) rfl rfl rfl ?_)))))); exact fun w' hw => ⟨rfl, hw.fr _ zm0⟩
 ·refine mI rfl (w_lookI 0 (v := .agg (List.toArray [str [33, 61]])) rfl unm158 unk5 zr157 rfl rfl rfl (zg (fun _ => R_fieldA fd157_0 z9 rfl rfl) (za (v := str _) rfl (yB (ze (zo (v := str _) rfl rfl rfl ?_)))))); exact fun w' hw => ⟨rfl, hw.fr _ zm0⟩
 ·refine mI rfl (w_lookI 0 (v := .agg (List.toArray [str [60]])) rfl unm158 unk5 zr157 rfl rfl rfl (zg (fun _ => R_fieldA fd157_0 z9 rfl rfl) (za (v := str _) rfl (yB (ze (zo (v := str _) rfl rfl rfl ?_)))))); exact fun w' hw => ⟨rfl, hw.fr _ zm0⟩
 ·refine mI rfl (w_lookI 0 (v := .agg (List.toArray [str [60, 61]])) rfl unm158 unk5 zr157 rfl rfl rfl (zg (fun _ => R_fieldA fd157_0 z9 rfl rfl) (za (v := str _) rfl (yB (ze (zo (v := str _) rfl rfl rfl ?_)))))); exact fun w' hw => ⟨rfl, hw.fr _ zm0⟩
 ·refine mI rfl (w_lookI 0 (v := .agg (List.toArray [str [62]])) rfl unm158 unk5 zr157 rfl rfl rfl (zg (fun _ => R_fieldA fd157_0 z9 rfl rfl) (za (v := str _) rfl (yB (ze (zo (v := str _) rfl rfl rfl ?_)))))); exact fun w' hw => ⟨rfl, hw.fr _ zm0⟩
 ·refine mI rfl (w_lookI 0 (v := .agg (List.toArray [str [62, 61]])) rfl unm158 unk5 zr157 rfl rfl rfl (zg (fun _ => R_fieldA fd157_0 z9 rfl rfl) (za (v := str _) rfl (yB (ze (zo (v := str _) rfl rfl rfl ?_)))))); exact fun w' hw => ⟨rfl, hw.fr _ zm0⟩

theorem pexpr_step (n : Nat) (ih : ExprP n) (hN : n ≤ 10000000) (x : Ex) (cs : List Value) (N : Nat → Prop) (y : World × (Nat → Prop)) (p : Nat) (Bs : Base) (Lr : Heap) (w : World) (xs : List Str) (hx : exW x < n + 1) (hok : penOk x = true) (hm : exM y.1 N x cs) (hn : Apart y N) (hy : y ∈ Bs) (hb : xs.length + (exT x).length ≤ 1000000000) (hP : Pen p xs Bs Lr w) :
  Ret Tryz.prog 55 #[.pointer (some ⟨p, 0, none⟩), .agg cs.toArray] w (fun u w' => u = .tuple #[] ∧ Pen p (xs ++ exT x) Bs Lr w') := by
 obtain ⟨op, at_, nm, ks⟩ := x
 have hm2 := hm
 unfold exM at hm2
 obtain ⟨ka, kc, rfl, hkc, hks⟩ := hm2
 have hx2 := hx
 unfold exW at hx2
 obtain ⟨v, W, hO, hs⟩ := hP
 have hf := pen_facts hok
 have hkl : ∀ x ∈ ks, exW x < n := fun x hx => by have := exsW_mem hx; omega
 refine enterB (l := [_, _]) 87 Tryz.func55 rfl rfl rfl (hs) (yA (w_boxA rfl (fun t3b gt3b ut3b => yC (zf fa39_0 rfl (zL 0 z5 rfl rfl rfl (yB (zB (zq (yA (zg (fun _ => R_eq rfl rfl) (aB rfl (yB ?_)))))))))))); refine zD rfl (fun h2 => ?_) (fun h2 => ?_)
 ·have heq := exT_12 (op := op) (.inl (by omega)) at_ nm ks; rw [heq] at hb; simp only [List.length_append, List.length_cons, List.length_nil] at hb
  refine zi (zk (zE (bT h2) (zr (mP rfl (zf fa39_2 rfl (zL 0 z9 rfl rfl rfl (zS slt56 (by decide) rfl rfl (fun b3 gb3 ub3 => w_pen (A := [_, _]) (Lr := Lr) ([nm]) (fun w => zR Tryz.func40 rfl rfl rfl) rfl rfl hO (fun w h => put_spec p _ _ w _ b3 ([nm]) (Nat.succ_pos _) (by omega) zm0 h) (fun v4 W4 hO4 => zn (zO ((r_none (.inr rfl) rfl ?_)))))))))))); exact fun w' hw => ⟨rfl, PenAt.fin (A := [_, _]) hO4 (by (rw [heq]; done)) hw⟩
 ·refine zr (zg (fun _ => R_eq rfl rfl) (aB rfl (yB ?_))); refine zD rfl (fun h5 => ?_) (fun h5 => ?_)
  ·have heq := exT_12 (op := op) (.inr (by omega)) at_ nm ks; rw [heq] at hb; simp only [List.length_append, List.length_cons, List.length_nil] at hb
   refine zr (mP rfl (zf fa39_2 rfl (zL 0 z9 rfl rfl rfl (zS slt56 (by decide) rfl rfl (fun b6 gb6 ub6 => w_pen (A := [_, _]) (Lr := Lr) ([nm]) (fun w => zR Tryz.func40 rfl rfl rfl) rfl rfl hO (fun w h => put_spec p _ _ w _ b6 ([nm]) (Nat.succ_pos _) (by omega) zm0 h) (fun v7 W7 hO7 => zn (zO ((r_none (.inr rfl) rfl ?_))))))))); exact fun w' hw => ⟨rfl, PenAt.fin (A := [_, _]) hO7 (by (rw [heq]; done)) hw⟩
  ·refine yA (zg (fun _ => R_eq rfl rfl) (aB rfl (yB ?_))); refine zD rfl (fun h8 => ?_) (fun h8 => ?_)
   ·have heq := exT_3 (op := op) (by omega) at_ nm ks; rw [heq] at hb; simp only [List.length_append, List.length_cons, List.length_nil] at hb
    refine yA (mP rfl (zf fa39_2 rfl (zL 0 z9 rfl rfl rfl (zS slt56 (by decide) rfl rfl (fun b9 gb9 ub9 => ?_)))))
    refine w_pen (A := [_, _]) (Lr := Lr) ([nm, [91]]) (fun w => zR Tryz.func40 rfl rfl rfl) rfl rfl hO (fun w h => put_spec p _ _ w _ b9 ([nm, [91]]) (Nat.succ_pos _) (by (simp only [List.length_append, List.length_cons, List.length_nil] at *; omega)) zm0 h) (fun v10 W10 hO10 => ?_)
    refine yC (mP rfl (zf fa39_3 rfl (zL 1 z37 rfl rfl rfl ?_))); refine w_pen (A := [_, _]) (Lr := Lr) (rowT (exsT ks)) (fun w => zR Tryz.func80 rfl rfl rfl) rfl rfl hO10 (fun w h => row_spec n ih hN ks _ kc N y p _ _ w _ hkl (by omega) hf.1 hks hn hy (by (simp only [List.length_append, List.length_cons, List.length_nil] at *; omega)) h) (fun v11 W11 hO11 => ?_)
    refine yB (zr (mP rfl (zS slt56 (by decide) rfl rfl (fun b12 gb12 ub12 => ?_))))
    refine w_pen (A := [_, _, _]) (Lr := Lr) ([[93]]) (fun w => zR Tryz.func40 rfl rfl rfl) rfl rfl hO11 (fun w h => put_spec p _ _ w _ b12 ([[93]]) (Nat.succ_pos _) (by (simp only [List.length_append, List.length_cons, List.length_nil] at *; omega)) zm0 h) (fun v13 W13 hO13 => ?_)
    refine zn (zO ((r_none (.inr rfl) rfl ?_))); exact fun w' hw => ⟨rfl, PenAt.fin (A := [_, _, _]) hO13 (by (rw [heq]; simp)) hw⟩
   ·refine yA (zg (fun _ => R_eq rfl rfl) (aB rfl (yB ?_))); refine zD rfl (fun h14 => ?_) (fun h14 => ?_)
    ·have heq := exT_4 (op := op) (by omega) at_ nm ks; rw [heq] at hb; simp only [List.length_append, List.length_cons, List.length_nil] at hb
     refine yA (mP rfl (zf fa39_2 rfl (zL 0 z9 rfl rfl rfl (zS slt56 (by decide) rfl rfl (fun b15 gb15 ub15 => ?_)))))
     refine w_pen (A := [_, _]) (Lr := Lr) ([nm, [40]]) (fun w => zR Tryz.func40 rfl rfl rfl) rfl rfl hO (fun w h => put_spec p _ _ w _ b15 ([nm, [40]]) (Nat.succ_pos _) (by (simp only [List.length_append, List.length_cons, List.length_nil] at *; omega)) zm0 h) (fun v16 W16 hO16 => ?_)
     refine yC (mP rfl (zf fa39_3 rfl (zL 1 z37 rfl rfl rfl ?_))); refine w_pen (A := [_, _]) (Lr := Lr) (rowT (exsT ks)) (fun w => zR Tryz.func80 rfl rfl rfl) rfl rfl hO16 (fun w h => row_spec n ih hN ks _ kc N y p _ _ w _ hkl (by omega) hf.1 hks hn hy (by (simp only [List.length_append, List.length_cons, List.length_nil] at *; omega)) h) (fun v17 W17 hO17 => ?_)
     refine yB (zr (mP rfl (zS slt56 (by decide) rfl rfl (fun b18 gb18 ub18 => ?_))))
     refine w_pen (A := [_, _, _]) (Lr := Lr) ([[41]]) (fun w => zR Tryz.func40 rfl rfl rfl) rfl rfl hO17 (fun w h => put_spec p _ _ w _ b18 ([[41]]) (Nat.succ_pos _) (by (simp only [List.length_append, List.length_cons, List.length_nil] at *; omega)) zm0 h) (fun v19 W19 hO19 => ?_)
     refine zn (zO ((r_none (.inr rfl) rfl ?_))); exact fun w' hw => ⟨rfl, PenAt.fin (A := [_, _, _]) hO19 (by (rw [heq]; simp)) hw⟩
    ·refine yA (zg (fun _ => R_eq rfl rfl) (aB rfl (yB ?_))); refine zD rfl (fun h20 => ?_) (fun h20 => ?_)
     ·have hk2 := hf.2.1 (by omega); obtain ⟨x0, hx0⟩ : ∃ x, ks[0]? = some x := ⟨_, List.getElem?_eq_getElem (by omega)⟩; have ho0 := exsOk_get hf.1 hx0; have hw0 := exsW_mem (List.mem_of_getElem? hx0); obtain ⟨cs0, hA0, hE0⟩ := hks.get0 hx0; have hcl0 := exM_len hE0; obtain ⟨b0, o0, rfl⟩ := hA0.ptr; have heq := exT_5 (op := op) (by omega) at_ nm hx0; rw [heq] at hb; simp only [List.length_append, List.length_cons, List.length_nil] at hb
      refine yA (mP rfl (zS slt56 (by decide) rfl rfl (fun b21 gb21 ub21 => ?_)))
      refine w_pen (A := [_, _]) (Lr := Lr) ([[45]]) (fun w => zR Tryz.func40 rfl rfl rfl) rfl rfl hO (fun w h => put_spec p _ _ w _ b21 ([[45]]) (Nat.succ_pos _) (by (simp only [List.length_append, List.length_cons, List.length_nil] at *; omega)) zm0 h) (fun v22 W22 hO22 => ?_)
      refine yB (c_held (St Bs [(t3b, cel [.int .u8 (op : Nat), .int .i64 at_, str nm, .slice (some ⟨b0, o0, none⟩) ks.length kc] 39)]) mixed (zh2 0 rfl rfl (fun w h => h.drop (.cons _ (.cons_cons _ (List.nil_sublist _)))) (fun w h => R_move rfl) (zh2 1 rfl rfl (fun w h => h.drop (.cons _ (.cons_cons _ (List.nil_sublist _)))) (fun w h => R_fa fa39_3 rfl) (zh2 2 rfl rfl (fun w h => h.drop (.cons _ (.cons_cons _ (List.nil_sublist _)))) (fun w h => R_ld1 z37 rfl (zc 0 rfl rfl h)) (zh2 3 rfl rfl (fun w h => h.drop (.cons _ (.cons_cons _ (List.nil_sublist _)))) (fun w h => R_iaN (i := 0) sl37 rfl rfl (by omega)) (zh2 4 rfl rfl (fun w h => h.drop (.cons _ (.cons_cons _ (List.nil_sublist _)))) (fun w h => R_ldA z39 rfl hcl0 (fun j v hj => hA0.cell hn hy h j v hj)) (zh2 5 rfl rfl (fun w h => h.drop (.cons _ (.cons_cons _ (List.nil_sublist _)))) (fun w h => R_fa fa39_0 rfl) (zh2 6 rfl rfl (fun w h => h.drop (.cons _ (.cons_cons _ (List.nil_sublist _)))) (fun w h => R_ld1 z5 rfl (zc 0 rfl rfl h)) (h_pure 7 rfl (by kernel_rfl) rfl rfl (fun w h => h.drop (.cons _ (.cons_cons _ (List.nil_sublist _)))) (fun w => zR Tryz.func102 rfl rfl rfl) (fun w h => rank_spec op w) ?_)))))))))
      refine h_pen (A := [_, _]) (Lr := Lr) (kidT x0.op (exT x0) (rank op)) 8 rfl (by kernel_rfl) rfl rfl (fun w h => h.drop (.cons _ (.cons_cons _ (List.nil_sublist _)))) (fun w => zR Tryz.func101 rfl rfl rfl) hO22 (fun w h => kid_spec n ih hN (rank op) _ _ N y p _ _ w _ (by omega) (penOk_of ho0) hE0 hn hy (by (simp only [List.length_append, List.length_cons, List.length_nil] at *; omega)) h) (fun v23 W23 hO23 => ?_)
      refine zN2 (fun w h => h.drop (.cons _ (.cons_cons _ (List.nil_sublist _)))) (zO ((r_none (.inr rfl) rfl ?_))); exact fun w' hw => ⟨rfl, PenAt.fin (A := [_, _]) hO23 (by (rw [heq]; simp)) hw⟩
     ·have h6 : 6 ≤ op := (by omega); have hk2 := hf.2.2.1 (by omega); have h15 := hk2.2; have hk2 := hk2.1; obtain ⟨x0, hx0⟩ : ∃ x, ks[0]? = some x := ⟨_, List.getElem?_eq_getElem (by omega)⟩; have ho0 := exsOk_get hf.1 hx0; have hw0 := exsW_mem (List.mem_of_getElem? hx0); obtain ⟨cs0, hA0, hE0⟩ := hks.get0 hx0; have hcl0 := exM_len hE0; obtain ⟨b0, o0, rfl⟩ := hA0.ptr; obtain ⟨x1, hx1⟩ : ∃ x, ks[1]? = some x := ⟨_, List.getElem?_eq_getElem (by omega)⟩; have ho1 := exsOk_get hf.1 hx1; have hw1 := exsW_mem (List.mem_of_getElem? hx1); obtain ⟨cs1, hA1, hE1⟩ := hks.get0 hx1; have hcl1 := exM_len hE1; have heq := exT_two h6 at_ nm hx0 hx1; rw [heq] at hb; simp only [List.length_append, List.length_cons, List.length_nil] at hb
      refine yA (zf fa39_0 rfl (zL 0 z5 rfl rfl rfl (zC (fun w => zR Tryz.func102 rfl rfl rfl) rfl rfl (fun w h => rank_spec op w) (aI rfl (yB ?_))))); refine c_cut (fun e B L => e 0 = .pointer (some ⟨p, 0, none⟩) ∧ e 3 = .pointer (some ⟨t3b, 0, none⟩) ∧ e 4 = .int .i64 (low op : Nat) ∧ Bs = B ∧ L = (t3b, cel [.int .u8 (op : Nat), .int .i64 at_, str nm, .slice (some ⟨b0, o0, none⟩) ks.length kc] 39) :: (p, cel [v] 90) :: (W ++ Lr)) ?_ ?_
      ·refine yA (zf fa39_0 rfl (zL 0 z5 rfl rfl rfl (zC (fun w => zR Tryz.func103 rfl rfl rfl) rfl rfl (fun w h => compares_spec op w) (yB ?_)))); refine c_cond rfl (fun h24 => ?_) (fun h24 => ?_)
       ·refine zr (aI rfl (zn ?_)); exact k_mid ⟨rfl, rfl, (congrArg (Value.int .i64) (low_yes h24)), rfl, rfl⟩
       ·refine zi ?_; exact k_mid ⟨rfl, rfl, (congrArg (Value.int .i64) (low_no h24)), rfl, rfl⟩
      rintro e B L ⟨e0_1, e3_1, e4_1, rfl, rfl⟩
      have hlw := low_le op
      refine yA (mP e0_1 (zf fa39_3 e3_1 (zL 0 z37 rfl rfl rfl (zg (fun _ => R_iaN (i := 0) sl37 rfl rfl (by omega)) (w_loadC (l := cs0) z39 rfl hcl0 (fun w h j v hj => hA0.cell hn hy h j v hj) (mI e4_1 (w_pen (A := [_]) (Lr := Lr) (kidT x0.op (exT x0) (low op)) (fun w => zR Tryz.func101 rfl rfl rfl) rfl rfl hO (fun w h => kid_spec n ih hN (low op) _ _ N y p _ _ w _ (by omega) (penOk_of ho0) hE0 hn hy (by omega) h) (fun v25 W25 hO25 => yC (mP e0_1 (zf fa39_0 e3_1 (zL 0 z5 rfl rfl rfl (zC (fun w => zR Tryz.func104 rfl rfl rfl) rfl rfl (fun w h => signs_spec op (by omega) (by omega) w) (zS slt56 (by decide) rfl rfl (fun b26 gb26 ub26 => ?_))))))))))))))
      refine w_pen (A := [_, _]) (Lr := Lr) ([signs op]) (fun w => zR Tryz.func40 rfl rfl rfl) rfl rfl hO25 (fun w h => put_spec p _ _ w _ b26 ([signs op]) (Nat.succ_pos _) (by (simp only [List.length_append, List.length_cons, List.length_nil] at *; omega)) zm0 h) (fun v27 W27 hO27 => ?_)
      refine yB (zr (mP e0_1 (zf fa39_3 e3_1 (zL 1 z37 rfl rfl rfl (zg (fun _ => R_iaN (i := 1) sl37 rfl rfl (by omega)) (w_loadC (l := cs1) z39 rfl hcl1 (fun w h j v hj => hA1.cell hn hy h j v hj) (mI e4_1 (zg (fun _ => R_addi rfl rfl (by omega)) (mI e4_1 (zg (fun _ => R_muli rfl rfl (by omega)) (w_r (v := .int .i64 ((min (low op + 1) (low op * 9) : Nat))) (fun _ => R_minE rfl rfl (low_min (low op))) rfl rfl ?_)))))))))))
      refine w_pen (A := [_, _]) (Lr := Lr) (kidT x1.op (exT x1) (min (low op + 1) (low op * 9))) (fun w => zR Tryz.func101 rfl rfl rfl) rfl rfl hO27 (fun w h => kid_spec n ih hN (min (low op + 1) (low op * 9)) _ _ N y p _ _ w _ (by omega) (penOk_of ho1) hE1 hn hy (by (simp only [List.length_append, List.length_cons, List.length_nil] at *; omega)) h) (fun v28 W28 hO28 => ?_)
      refine zn (zO ((r_none (.inr rfl) rfl ?_))); exact fun w' hw => ⟨rfl, PenAt.fin (A := [_, _]) hO28 (by (rw [heq]; simp)) hw⟩
end Go.Proofs.YtaniogadknakoaaGreatDoor
end
