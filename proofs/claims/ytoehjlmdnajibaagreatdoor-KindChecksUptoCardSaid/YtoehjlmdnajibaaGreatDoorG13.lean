/- Layer 15, KindChecks: Check and Vars of kind tell the fault, and the variables, of the document, for programs of at most 600 nodes and names of at most 200 bytes; in the Upto form. Part 13 of 17. -/
import Derived.Test.YtoehjlmdnajibaaGreatDoorG12
set_option maxRecDepth 100000
set_option maxHeartbeats 16000000
section
namespace Go.Proofs.YtoehjlmdnajibaaGreatDoor
open Go.RowKit Go.Sx
open Go.Tok Go.Tree Go.Knd
theorem rnone_ok (w : World) :
  Ret Tryz.prog 34 #[] w (fun v w' => v = .agg #[.int .i64 0, .int .i64 0] ∧ Ext w w') := by
 refine enter (S := No) (l := []) (L := []) 2 Tryz.func34 rfl rfl rfl (St.start w No) (yA (zA zr37 (fun t0b gt0b ut0b => yC (jb bt37 rfl (jv 0 z37 rfl (yB (ze (r_fin (.inl rfl) rfl (.agg rfl rfl z37 (fun _ h => h.at_ 0 rfl) rfl .nil) ?_)))))))); exact fun w' hw => ⟨rfl, hw.f0⟩
theorem rbad_ok (e : Nat) (a : Int) (w : World) :
  Ret Tryz.prog 32 #[.agg #[.int .i64 (e : Nat), .int .i64 a]] w (fun v w' => v = .bool (decide (¬ ((e : Nat) : Int) = 0)) ∧ Ext w w') := by
 refine enter (S := No) (l := [_]) (L := []) 6 Tryz.func32 rfl rfl rfl (St.start w No) (yA (w_boxA rfl (fun t1b gt1b ut1b => aB rfl (yC (zf fa37_0 rfl (jM 0 z35 rfl (jn rfl rfl (aB rfl (yB (ze (zo (v := .bool _) rfl rfl rfl ?_))))))))))); exact fun w' hw => ⟨rfl, hw.f0⟩
theorem bad_t (e : Nat) (a : Int) (he : ¬ e = 0) (w : World) : Ret Tryz.prog 32 #[.agg #[.int .i64 (e : Nat), .int .i64 a]] w fun v w' => v = .bool true ∧ Ext w w' := by
 have h := rbad_ok e a w
 rw [decide_eq_true (by omega)] at h; exact h
theorem bad_f (a : Int) (w : World) : Ret Tryz.prog 32 #[.agg #[.int .i64 0, .int .i64 a]] w fun v w' => v = .bool false ∧ Ext w w' := rbad_ok 0 a w
theorem rscalar_ok (t : Nat) (w : World) :
  Ret Tryz.prog 50 #[.int .u8 (t : Nat)] w (fun v w' => v = .bool (scal t) ∧ Ext w w') := by
 refine enter (S := No) (l := [_]) (L := []) 9 Tryz.func50 rfl rfl rfl (St.start w No) (yA (aB rfl (yC (mI rfl (je rfl rfl (mB rfl ?_)))))); refine zd (t := 5) rfl (fun h1 => ?_) (fun h1 => ?_)
 ·refine zs rfl rfl (bT h1) (zs rfl rfl (bT h1) (jT (bT h1) rfl (aB rfl (yB (ze (zo (v := .bool _) rfl rfl rfl ?_)))))); exact fun w' hw => ⟨congrArg Value.bool (by clear hw; simp only [scal]; grind), hw.f0⟩
 ·refine zw rfl rfl (bF h1) (mI rfl (zw rfl rfl (bF h1) (je rfl rfl (jF (bF h1) rfl (aB rfl (yB (ze (zo (v := .bool _) rfl rfl rfl ?_)))))))); exact fun w' hw => ⟨congrArg Value.bool (by clear hw; simp only [scal]; grind), hw.f0⟩
theorem rfit_ok (v t : Nat) (w : World) :
  Ret Tryz.prog 52 #[.int .u8 (v : Nat), .int .u8 (t : Nat)] w (fun r w' => r = .bool (fitK v t) ∧ Ext w w') := by
 refine enter (S := No) (l := [_, _]) (L := []) 19 Tryz.func52 rfl rfl rfl (St.start w No) (yA (aB rfl (yB (zq (yA (mI rfl (je rfl rfl (yB ?_)))))))); refine zD rfl (fun h1 => ?_) (fun h1 => ?_)
 ·refine yA (mI rfl (je rfl rfl (aB rfl (yB (ze (zt ((zo (v := .bool _) rfl rfl rfl ?_)))))))); exact fun w' hw => ⟨congrArg Value.bool (by clear hw; simp only [fitK]; grind), hw.f0⟩
 ·refine zi (zk (zq (yA (mI rfl (je rfl rfl (yB ?_)))))); refine zD rfl (fun h2 => ?_) (fun h2 => ?_)
  ·refine yA (mI rfl (jD Tryz.func50 (fun w h => rscalar_ok _ w) (aB rfl (yB (ze (zt ((zo (v := .bool _) rfl rfl rfl ?_)))))))); exact fun w' hw => ⟨congrArg Value.bool (by clear hw; simp only [fitK]; grind), hw.f0⟩
  ·refine zi (zk (yA (mI rfl (je rfl rfl (mB rfl ?_))))); refine zd (t := 15) rfl (fun h3 => ?_) (fun h3 => ?_)
   ·refine zw rfl rfl (bT h3) (mI rfl (zw rfl rfl (bT h3) (je rfl rfl (jT (bT h3) rfl (aB rfl (yB (ze (zo (v := .bool _) rfl rfl rfl ?_)))))))); exact fun w' hw => ⟨congrArg Value.bool (by clear hw; simp only [fitK]; grind), hw.f0⟩
   ·refine zs rfl rfl (bF h3) (zs rfl rfl (bF h3) (jF (bF h3) rfl (aB rfl (yB (ze (zo (v := .bool _) rfl rfl rfl ?_)))))); exact fun w' hw => ⟨congrArg Value.bool (by clear hw; simp only [fitK]; grind), hw.f0⟩
theorem rtwo_ok (op a b : Nat) (hop : op = 6 ∨ op = 7 ∨ op = 8 ∨ op = 9) (w : World) :
  Ret Tryz.prog 74 #[.int .u8 (op : Nat), .int .u8 (a : Nat), .int .u8 (b : Nat)] w (fun v w' => v = .int .u8 (twoK op a b : Nat) ∧ Ext w w') := by
 refine enter (S := No) (l := [_, _, _]) (L := []) 63 Tryz.func74 rfl rfl rfl (St.start w No) (yA ?_)
 rcases hop with rfl | rfl | rfl | rfl
 ·refine aI rfl (yB ?_); refine c_cut (fun e B L => e 0 = .int .u8 6 ∧ e 1 = .int .u8 (a : Nat) ∧ e 2 = .int .u8 (b : Nat) ∧ B = [(w, No)] ∧ L = [] ∧ (scal a && scal b) = false) ?_ ?_
  ·refine yA (mI rfl (jD Tryz.func50 (fun w h => rscalar_ok _ w) (mB rfl (w_gT (v := .int _ _) rfl rfl rfl (fun hc w h => R_move rfl) rfl (w_cT rfl rfl rfl (fun hc w => runE_as (zR Tryz.func50 rfl rfl rfl) (arr1 (gvl_t hc))) rfl (fun hc w h => rscalar_ok _ w) (zg (v := .bool _) (fun _ => R_pickA rfl rfl rfl) (yB ?_))))))); refine c_cond rfl (fun h1 => ?_) (fun h1 => ?_)
   ·refine zq (yA (mI rfl (je rfl rfl (mB rfl (zw rfl rfl bE (mI rfl (zw rfl rfl bE (je rfl rfl (jF bE rfl (mB rfl (w_gF (v := .int _ _) rfl rfl rfl (fun hc w h => R_move rfl) rfl (gFx rfl (fun hc w h => R_eq (gvl_t hc) rfl) rfl (zg (v := .bool _) (fun _ => R_pickO rfl rfl rfl) (yB ?_)))))))))))))); refine c_cond rfl (fun h2 => ?_) (fun h2 => ?_)
    ·refine yA (aI rfl (yB (ze (zt (zt ((zo (v := .int _ _) rfl rfl rfl ?_))))))); exact fun w' hw => ⟨congrArg (fun n : Nat => Value.int .u8 (n : Int)) (show _ = twoK _ a b by clear hw; unfold twoK; simp only [scal] at *; grind), hw.f0⟩
    ·refine zi (zk (yA (aI rfl (yB (ze (zt ((zo (v := .int _ _) rfl rfl rfl ?_)))))))); exact fun w' hw => ⟨congrArg (fun n : Nat => Value.int .u8 (n : Int)) (show _ = twoK _ a b by clear hw; unfold twoK; simp only [scal] at *; grind), hw.f0⟩
   ·refine zi ?_; exact k_mid ⟨rfl, rfl, rfl, rfl, rfl, (by simp_all)⟩
  rintro e B L ⟨e0_1, e1_1, e2_1, rfl, rfl, hs⟩
  refine zq (yA (mI e0_1 (je rfl rfl (mB rfl (zs rfl rfl bD (zs rfl rfl bD (jT bD rfl (mB rfl (zw rfl rfl rfl (mI e1_1 (zw rfl rfl rfl (je rfl rfl (jT rfl rfl (mB rfl (w_gT (v := .int _ _) rfl rfl rfl (fun hc w h => R_move e2_1) rfl (gTx rfl (fun hc w h => R_eq (gvl_t hc) rfl) rfl (zg (v := .bool _) (fun _ => R_pickA rfl rfl rfl) (yB ?_)))))))))))))))))); refine c_cond rfl (fun h3 => ?_) (fun h3 => ?_)
  ·refine yA (aI rfl (yB (ze (zt ((zo (v := .int _ _) rfl rfl rfl ?_)))))); exact fun w' hw => ⟨congrArg (fun n : Nat => Value.int .u8 (n : Int)) (show _ = twoK _ a b by clear hw; unfold twoK; simp only [scal] at *; grind), hw.f0⟩
  ·refine zi (zk (zq (yA (mI e0_1 (je rfl rfl (mB rfl (zw rfl rfl bE (mI e0_1 (zw rfl rfl bE (je rfl rfl (jF bE rfl (mB rfl (zs rfl rfl bE (zs rfl rfl bE (jF bE rfl (mB rfl ?_)))))))))))))))); (iterate 2 refine zs rfl rfl rfl ?_); refine jF rfl rfl (mB rfl (zw rfl rfl rfl (mI e0_1 (zw rfl rfl rfl (je rfl rfl (zw rfl rfl rfl (mB rfl (zs rfl rfl bE (zs rfl rfl bE (zw rfl rfl rfl (jF bE rfl (zw rfl rfl rfl ?_))))))))))))
   refine mB rfl ?_; (iterate 2 refine zs rfl rfl rfl ?_); refine zw rfl rfl rfl (jF rfl rfl (jF rfl rfl (yB (zG rfl (zi (zk (yA (aI rfl (yB (ze (zo (v := .int _ _) rfl rfl rfl ?_))))))))))); exact fun w' hw => ⟨congrArg (fun n : Nat => Value.int .u8 (n : Int)) (show _ = twoK _ a b by clear hw; unfold twoK; simp only [scal] at *; grind), hw.f0⟩
 ·refine aI rfl (yB ?_); refine c_cut (fun e B L => e 0 = .int .u8 7 ∧ e 1 = .int .u8 (a : Nat) ∧ e 2 = .int .u8 (b : Nat) ∧ B = [(w, No)] ∧ L = [] ∧ (scal a && scal b) = false) ?_ ?_
  ·refine yA (mI rfl (jD Tryz.func50 (fun w h => rscalar_ok _ w) (mB rfl (w_gT (v := .int _ _) rfl rfl rfl (fun hc w h => R_move rfl) rfl (w_cT rfl rfl rfl (fun hc w => runE_as (zR Tryz.func50 rfl rfl rfl) (arr1 (gvl_t hc))) rfl (fun hc w h => rscalar_ok _ w) (zg (v := .bool _) (fun _ => R_pickA rfl rfl rfl) (yB ?_))))))); refine c_cond rfl (fun h4 => ?_) (fun h4 => ?_)
   ·refine zq (yA (mI rfl (je rfl rfl (mB rfl (zw rfl rfl bE (mI rfl (zw rfl rfl bE (je rfl rfl (jF bE rfl (mB rfl (w_gF (v := .int _ _) rfl rfl rfl (fun hc w h => R_move rfl) rfl (gFx rfl (fun hc w h => R_eq (gvl_t hc) rfl) rfl (zg (v := .bool _) (fun _ => R_pickO rfl rfl rfl) (yB ?_)))))))))))))); refine c_cond rfl (fun h5 => ?_) (fun h5 => ?_)
    ·refine yA (aI rfl (yB (ze (zt (zt ((zo (v := .int _ _) rfl rfl rfl ?_))))))); exact fun w' hw => ⟨congrArg (fun n : Nat => Value.int .u8 (n : Int)) (show _ = twoK _ a b by clear hw; unfold twoK; simp only [scal] at *; grind), hw.f0⟩
    ·refine zi (zk (yA (aI rfl (yB (ze (zt ((zo (v := .int _ _) rfl rfl rfl ?_)))))))); exact fun w' hw => ⟨congrArg (fun n : Nat => Value.int .u8 (n : Int)) (show _ = twoK _ a b by clear hw; unfold twoK; simp only [scal] at *; grind), hw.f0⟩
   ·refine zi ?_; exact k_mid ⟨rfl, rfl, rfl, rfl, rfl, (by simp_all)⟩
  rintro e B L ⟨e0_2, e1_2, e2_2, rfl, rfl, hs⟩
  refine zq (yA (mI e0_2 (je rfl rfl (mB rfl (zw rfl rfl bE (mI e0_2 (zw rfl rfl bE (je rfl rfl (jF bE rfl (mB rfl (zw rfl rfl bD (mI e1_2 (zw rfl rfl bD (je rfl rfl (jT bD rfl (mB rfl (w_gT (v := .int _ _) rfl rfl rfl (fun hc w h => R_move e2_2) rfl (gTx rfl (fun hc w h => R_eq (gvl_t hc) rfl) rfl (zg (v := .bool _) (fun _ => R_pickA rfl rfl rfl) (yB ?_)))))))))))))))))))); refine c_cond rfl (fun h6 => ?_) (fun h6 => ?_)
  ·refine yA (aI rfl (yB (ze (zt ((zo (v := .int _ _) rfl rfl rfl ?_)))))); exact fun w' hw => ⟨congrArg (fun n : Nat => Value.int .u8 (n : Int)) (show _ = twoK _ a b by clear hw; unfold twoK; simp only [scal] at *; grind), hw.f0⟩
  ·refine zi (zk (zq (yA (mI e0_2 (je rfl rfl (mB rfl (zw rfl rfl bE (mI e0_2 (zw rfl rfl bE (je rfl rfl (jF bE rfl (mB rfl (zs rfl rfl bE (zs rfl rfl bE (jF bE rfl (mB rfl ?_)))))))))))))))); (iterate 2 refine zs rfl rfl rfl ?_); refine jF rfl rfl (mB rfl (zw rfl rfl rfl (mI e0_2 (zw rfl rfl rfl (je rfl rfl (zw rfl rfl rfl (mB rfl (zs rfl rfl bE (zs rfl rfl bE (zw rfl rfl rfl (jF bE rfl (zw rfl rfl rfl ?_))))))))))))
   refine mB rfl ?_; (iterate 2 refine zs rfl rfl rfl ?_); refine zw rfl rfl rfl (jF rfl rfl (jF rfl rfl (yB (zG rfl (zi (zk (yA (aI rfl (yB (ze (zo (v := .int _ _) rfl rfl rfl ?_))))))))))); exact fun w' hw => ⟨congrArg (fun n : Nat => Value.int .u8 (n : Int)) (show _ = twoK _ a b by clear hw; unfold twoK; simp only [scal] at *; grind), hw.f0⟩
 ·refine aI rfl (yB ?_); refine c_cut (fun e B L => e 0 = .int .u8 8 ∧ e 1 = .int .u8 (a : Nat) ∧ e 2 = .int .u8 (b : Nat) ∧ B = [(w, No)] ∧ L = [] ∧ (scal a && scal b) = false) ?_ ?_
  ·refine yA (mI rfl (jD Tryz.func50 (fun w h => rscalar_ok _ w) (mB rfl (w_gT (v := .int _ _) rfl rfl rfl (fun hc w h => R_move rfl) rfl (w_cT rfl rfl rfl (fun hc w => runE_as (zR Tryz.func50 rfl rfl rfl) (arr1 (gvl_t hc))) rfl (fun hc w h => rscalar_ok _ w) (zg (v := .bool _) (fun _ => R_pickA rfl rfl rfl) (yB ?_))))))); refine c_cond rfl (fun h7 => ?_) (fun h7 => ?_)
   ·refine zq (yA (mI rfl (je rfl rfl (mB rfl (zw rfl rfl bE (mI rfl (zw rfl rfl bE (je rfl rfl (jF bE rfl (mB rfl (w_gF (v := .int _ _) rfl rfl rfl (fun hc w h => R_move rfl) rfl (gFx rfl (fun hc w h => R_eq (gvl_t hc) rfl) rfl (zg (v := .bool _) (fun _ => R_pickO rfl rfl rfl) (yB ?_)))))))))))))); refine c_cond rfl (fun h8 => ?_) (fun h8 => ?_)
    ·refine yA (aI rfl (yB (ze (zt (zt ((zo (v := .int _ _) rfl rfl rfl ?_))))))); exact fun w' hw => ⟨congrArg (fun n : Nat => Value.int .u8 (n : Int)) (show _ = twoK _ a b by clear hw; unfold twoK; simp only [scal] at *; grind), hw.f0⟩
    ·refine zi (zk (yA (aI rfl (yB (ze (zt ((zo (v := .int _ _) rfl rfl rfl ?_)))))))); exact fun w' hw => ⟨congrArg (fun n : Nat => Value.int .u8 (n : Int)) (show _ = twoK _ a b by clear hw; unfold twoK; simp only [scal] at *; grind), hw.f0⟩
   ·refine zi ?_; exact k_mid ⟨rfl, rfl, rfl, rfl, rfl, (by simp_all)⟩
  rintro e B L ⟨e0_3, e1_3, e2_3, rfl, rfl, hs⟩
  refine zq (yA (mI e0_3 (je rfl rfl (mB rfl (zw rfl rfl bE (mI e0_3 (zw rfl rfl bE (je rfl rfl (jF bE rfl (mB rfl (zs rfl rfl bE (zs rfl rfl bE (jF bE rfl (mB rfl ?_)))))))))))))); (iterate 2 refine zs rfl rfl rfl ?_); refine jF rfl rfl (yB (zG rfl (zi (zk (zq (yA (mI e0_3 (je rfl rfl (mB rfl (zs rfl rfl bD (zs rfl rfl bD (jT bD rfl ?_))))))))))))
  refine mB rfl (zw rfl rfl rfl (mI e1_3 (zw rfl rfl rfl (je rfl rfl (jT rfl rfl (mB rfl (w_gT (v := .int _ _) rfl rfl rfl (fun hc w h => R_move e2_3) rfl (w_cT rfl rfl rfl (fun hc w => runE_as (zR Tryz.func50 rfl rfl rfl) (arr1 (gvl_t hc))) rfl (fun hc w h => rscalar_ok _ w) (zg (v := .bool _) (fun _ => R_pickA rfl rfl rfl) (mB rfl (w_gF (v := .int _ _) rfl rfl rfl (fun hc w h => R_move e0_3) rfl (gFx rfl (fun hc w h => R_eq (gvl_t hc) rfl) rfl (gFx (v := .bool _) rfl (fun hc w h => R_move (gvl_t hc)) rfl (w_hT (v := .int _ _) rfl rfl rfl (fun hc w h => R_move e1_3) rfl (w_dT rfl rfl rfl (fun hc w => runE_as (zR Tryz.func50 rfl rfl rfl) (arr1 (gvl_t hc))) rfl (fun hc w h => rscalar_ok _ w) (gFx (v := .bool _) rfl (fun hc w h => R_pickA (gvl_t hc) (gvl_and hc) rfl) rfl (gFx (v := .bool _) rfl (fun hc w h => R_move (gvl_t hc)) rfl (w_hT (v := .int _ _) rfl rfl rfl (fun hc w h => R_move e2_3) rfl (hTx rfl (fun hc w h => R_eq (gvl_t hc) rfl) rfl (gFx (v := .bool _) rfl (fun hc w h => R_pickA (gvl_t hc) (gvl_and hc) rfl) rfl (zg (v := .bool _) (fun _ => R_pickO rfl rfl rfl) (yB ?_)))))))))))))))))))))); refine c_cond rfl (fun h9 => ?_) (fun h9 => ?_)
  ·refine yA (aI rfl (yB (ze (zt ((zo (v := .int _ _) rfl rfl rfl ?_)))))); exact fun w' hw => ⟨congrArg (fun n : Nat => Value.int .u8 (n : Int)) (show _ = twoK _ a b by clear hw; unfold twoK; simp only [scal] at *; grind), hw.f0⟩
  ·refine zi (zk (yA (aI rfl (yB (ze (zo (v := .int _ _) rfl rfl rfl ?_)))))); exact fun w' hw => ⟨congrArg (fun n : Nat => Value.int .u8 (n : Int)) (show _ = twoK _ a b by clear hw; unfold twoK; simp only [scal] at *; grind), hw.f0⟩
 ·refine aI rfl (yB ?_); refine c_cut (fun e B L => e 0 = .int .u8 9 ∧ e 1 = .int .u8 (a : Nat) ∧ e 2 = .int .u8 (b : Nat) ∧ B = [(w, No)] ∧ L = [] ∧ (scal a && scal b) = false) ?_ ?_
  ·refine yA (mI rfl (jD Tryz.func50 (fun w h => rscalar_ok _ w) (mB rfl (w_gT (v := .int _ _) rfl rfl rfl (fun hc w h => R_move rfl) rfl (w_cT rfl rfl rfl (fun hc w => runE_as (zR Tryz.func50 rfl rfl rfl) (arr1 (gvl_t hc))) rfl (fun hc w h => rscalar_ok _ w) (zg (v := .bool _) (fun _ => R_pickA rfl rfl rfl) (yB ?_))))))); refine c_cond rfl (fun h10 => ?_) (fun h10 => ?_)
   ·refine zq (yA (mI rfl (je rfl rfl (mB rfl (zs rfl rfl bD (zs rfl rfl bD (jT bD rfl (mB rfl ?_)))))))); (iterate 2 refine zs rfl rfl rfl ?_); refine jT rfl rfl (yB (zE rfl (yA (aI rfl (yB (ze (zt (zt (?_)))))))))
    refine zo (v := .int _ _) rfl rfl rfl ?_; exact fun w' hw => ⟨congrArg (fun n : Nat => Value.int .u8 (n : Int)) (show _ = twoK _ a b by clear hw; unfold twoK; simp only [scal] at *; grind), hw.f0⟩
   ·refine zi ?_; exact k_mid ⟨rfl, rfl, rfl, rfl, rfl, (by simp_all)⟩
  rintro e B L ⟨e0_4, e1_4, e2_4, rfl, rfl, hs⟩
  refine zq (yA (mI e0_4 (je rfl rfl (mB rfl (zw rfl rfl bE (mI e0_4 (zw rfl rfl bE (je rfl rfl (jF bE rfl (mB rfl (zs rfl rfl bE (zs rfl rfl bE (jF bE rfl (mB rfl ?_)))))))))))))); (iterate 2 refine zs rfl rfl rfl ?_); refine jF rfl rfl (yB (zG rfl (zi (zk (zq (yA (mI e0_4 (je rfl rfl (mB rfl (zw rfl rfl bE (mI e0_4 (zw rfl rfl bE (je rfl rfl (jF bE rfl ?_))))))))))))))
  refine mB rfl (zw rfl rfl bD (mI e1_4 (zw rfl rfl bD (je rfl rfl (jT bD rfl (mB rfl (w_gT (v := .int _ _) rfl rfl rfl (fun hc w h => R_move e2_4) rfl (w_cT rfl rfl rfl (fun hc w => runE_as (zR Tryz.func50 rfl rfl rfl) (arr1 (gvl_t hc))) rfl (fun hc w h => rscalar_ok _ w) (zg (v := .bool _) (fun _ => R_pickA rfl rfl rfl) (mB rfl (w_gF (v := .int _ _) rfl rfl rfl (fun hc w h => R_move e0_4) rfl (gFx rfl (fun hc w h => R_eq (gvl_t hc) rfl) rfl (gFx (v := .bool _) rfl (fun hc w h => R_move (gvl_t hc)) rfl (w_hT (v := .int _ _) rfl rfl rfl (fun hc w h => R_move e1_4) rfl (w_dT rfl rfl rfl (fun hc w => runE_as (zR Tryz.func50 rfl rfl rfl) (arr1 (gvl_t hc))) rfl (fun hc w h => rscalar_ok _ w) (gFx (v := .bool _) rfl (fun hc w h => R_pickA (gvl_t hc) (gvl_and hc) rfl) rfl (gFx (v := .bool _) rfl (fun hc w h => R_move (gvl_t hc)) rfl (w_hT (v := .int _ _) rfl rfl rfl (fun hc w h => R_move e2_4) rfl (hTx rfl (fun hc w h => R_eq (gvl_t hc) rfl) rfl (gFx (v := .bool _) rfl (fun hc w h => R_pickA (gvl_t hc) (gvl_and hc) rfl) rfl (zg (v := .bool _) (fun _ => R_pickO rfl rfl rfl) (yB ?_)))))))))))))))))))))); refine c_cond rfl (fun h11 => ?_) (fun h11 => ?_)
  ·refine yA (aI rfl (yB (ze (zt ((zo (v := .int _ _) rfl rfl rfl ?_)))))); exact fun w' hw => ⟨congrArg (fun n : Nat => Value.int .u8 (n : Int)) (show _ = twoK _ a b by clear hw; unfold twoK; simp only [scal] at *; grind), hw.f0⟩
  ·refine zi (zk (yA (aI rfl (yB (ze (zo (v := .int _ _) rfl rfl rfl ?_)))))); exact fun w' hw => ⟨congrArg (fun n : Nat => Value.int .u8 (n : Int)) (show _ = twoK _ a b by clear hw; unfold twoK; simp only [scal] at *; grind), hw.f0⟩
theorem rint_ok (s : Str) (hs : s.length ≤ 10000000) (w : World) :
  Ret Tryz.prog 72 #[str s] w (fun v w' => v = .bool (digitsK s) ∧ Ext w w') := by
 refine enter (S := No) (l := [_]) (L := []) 23 Tryz.func72 rfl rfl rfl (St.start w No) (yA (aB rfl (yB (zq (yA (aI rfl (yB (zB (c_loop (fun m e B L => ∃ (k : Nat), e 0 = str s ∧ e 3 = .int .i64 (k : Nat) ∧ B = [(w, No)] ∧ L = [] ∧ k ≤ s.length ∧ (∀ b ∈ s.take k, (!(decide (48 ≤ b.toNat) && decide (b.toNat ≤ 57))) = false) ∧ m = s.length - k) _ ⟨0, rfl, rfl, rfl, rfl, Nat.zero_le _, (by simp), rfl⟩ ?_)))))))))
 rintro m e B L ⟨k, e0_1, e3_1, rfl, rfl, hk, hy, rfl⟩
 refine zq (yA (mI e3_1 (zm (v := str _) e0_1 (zg (fun _ => R_slen st9 rfl (by omega)) (jl rfl rfl (yB ?_)))))); refine zD rfl (fun h1 => ?_) (fun h1 => ?_)
 ·refine zi (zk (zq (zB (yA (zm (v := str _) e0_1 (mI e3_1 (w_sidx st9 rfl rfl (by omega) (jl rfl rfl (mB rfl ?_))))))))); refine zd (t := 14) rfl (fun h2 => ?_) (fun h2 => ?_)
  ·refine zs rfl rfl (bT h2) (zs rfl rfl (bT h2) (zs rfl rfl (bT h2) (zs rfl rfl (bT h2) (jT (bT h2) rfl (yB (zE rfl (yA (aB rfl (yB (ze (zb (zt (zt (zb (zt ((zo (v := .bool _) rfl rfl rfl ?_))))))))))))))))); exact fun w' hw => ⟨congrArg Value.bool (by unfold digitsK; (rw [dig_all, any_yes (List.getElem?_eq_getElem (show k < s.length by omega)) (by clear hw; grind), Bool.not_true, Bool.and_false])), hw.f0⟩
  ·refine zw rfl rfl (bF h2) (zm (v := str _) e0_1 (zw rfl rfl (bF h2) (mI e3_1 (zw rfl rfl (bF h2) (w_sidx st9 rfl rfl (by omega) (zw rfl rfl (bF h2) (jg rfl rfl (jF (bF h2) rfl (yB ?_))))))))); refine zD rfl (fun h3 => ?_) (fun h3 => ?_)
   ·refine yA (aB rfl (yB (ze (zb (zt (zt (zb (zt ((zo (v := .bool _) rfl rfl rfl ?_)))))))))); exact fun w' hw => ⟨congrArg Value.bool (by unfold digitsK; (rw [dig_all, any_yes (List.getElem?_eq_getElem (show k < s.length by omega)) (by clear hw; grind), Bool.not_true, Bool.and_false])), hw.f0⟩
   ·refine zi (zO (zk (zr (mI e3_1 (ji rfl rfl (by omega) (aI rfl (zn ?_))))))); exact k_again _ (by omega) ⟨k + 1, e0_1, rfl, rfl, rfl, by omega, take_all hy (List.getElem?_eq_getElem (by omega)) (by grind), rfl⟩
 ·refine zX (zx (zx (b_here rfl (zk (yA (zm (v := str _) e0_1 (zg (fun _ => R_slen st9 rfl (by omega)) (jm rfl rfl (aB rfl (yB (ze (zo (v := .bool _) rfl rfl rfl ?_)))))))))))); exact fun w' hw => ⟨congrArg Value.bool (by unfold digitsK; (rw [dig_all, any_of_take hy (by omega), Bool.not_false, Bool.and_true, Bool.eq_iff_iff]; simp only [decide_eq_true_eq]; omega)), hw.f0⟩
theorem rFind_ok (vs : List Vr) (va : Option Addr) (vc : Nat) (nm : Str) (w : World) (hv : vrsV w (fun _ => True) vs (va, vc)) (hvl : vs.length ≤ 90000000) :
  Ret Tryz.prog 48 #[.slice va vs.length vc, str nm] w (fun v w' => v = .tuple #[.agg (vrO (findV vs nm)).toArray, .bool (findV vs nm).isSome] ∧ Ext w w') := by
 refine enter (S := No) (l := [_, _]) (L := []) 26 Tryz.func48 rfl rfl rfl (St.start w No) (yA (zA zr54 (fun t4b gt4b ut4b => aB rfl (yB (zq (yA (mS rfl (jj sl34 rfl (zg (fun _ => R_subi rfl rfl (by omega)) (aI rfl (yB (zB (c_loop (fun m e B L => ∃ (k : Nat), e 0 = .slice va vs.length vc ∧ e 1 = str nm ∧ e 4 = pX t4b ∧ e 6 = .int .i64 ((k : Nat) - 1) ∧ B = [(w, No)] ∧ L = [(t4b, cel (vrO none) 54)] ∧ k ≤ vs.length ∧ findV vs nm = findV (vs.take k) nm ∧ m = k + 1) _ ⟨vs.length, rfl, rfl, rfl, rfl, rfl, rfl, Nat.le_refl _, (findV_full (Nat.le_refl _)).symm, rfl⟩ ?_)))))))))))))
 rintro m e B L ⟨k, e0_1, e1_1, e4_1, e6_1, rfl, rfl, hk, hf, rfl⟩
 refine zq (yA (mI e6_1 (jh rfl rfl (yB ?_)))); refine zD rfl (fun h2 => ?_) (fun h2 => ?_)
 ·obtain ⟨q, rfl⟩ : ∃ q, k = q + 1 := ⟨k - 1, by omega⟩; have e6q : e 6 = .int .i64 ((q : Nat) : Int) := e6_1.trans (congrArg (Value.int .i64) (by omega)); have hlt : q < vs.length := (by omega); obtain ⟨v, hxk⟩ : ∃ x, vs[q]? = some x := ⟨_, List.getElem?_eq_getElem hlt⟩; have hA := hv.2 q v hxk; have hA1 : ∃ b1 o1, va = some ⟨b1, o1, none⟩ := hA.ptr; obtain ⟨b1, o1, rfl⟩ := hA1
  refine zi (zk (zq (zB (yA (mS e0_1 (mI e6q (zg (fun _ => R_iaN (i := q) sl34 rfl rfl (by omega)) (zf fa54_0 rfl (zl (v := str v.nm) z9 rfl (fun w h => hA.cell (x := (_, No)) (fun _ _ h => h) zm0 h 0 _ rfl) (zm (v := str _) e1_1 (js rfl rfl (yB ?_)))))))))))); refine zD rfl (fun h3 => ?_) (fun h3 => ?_)
  ·refine yA (mS e0_1 (mI e6q (zg (fun _ => R_iaN (i := q) sl34 rfl rfl (by omega)) (w_loadC (l := vrC v) z54 rfl rfl (fun w h j v hj => hA.cell (x := (_, No)) (fun _ _ h => h) zm0 h j v hj) (ju 0 z54 e4_1 rfl rfl (aB rfl (yB (ze (zb (zt (zt (zb (zt ((r_fin (.inl rfl) rfl (.agg rfl e4_1 z54 (fun _ h => h.at_ 0 rfl) rfl (.tmp rfl rfl .nil)) ?_))))))))))))))); exact fun w' hw => ⟨by rw [hf.trans ((findV_take hxk).trans (if_pos h3))]; rfl, hw.f0⟩
  ·refine zi (zO (zk (zr (mI e6q (zg (fun _ => R_subi rfl rfl (by omega)) (aI rfl (zn ?_))))))); exact k_again _ (by omega) ⟨q, e0_1, e1_1, e4_1, rfl, rfl, rfl, by omega, (hf.trans ((findV_take hxk).trans (if_neg h3))), rfl⟩
 ·refine zX (zx (zx (b_here rfl (zk (yA (jb bt54 rfl (ju 0 z54 e4_1 rfl rfl (aB rfl (yB (ze (r_fin (.inl rfl) rfl (.agg rfl e4_1 z54 (fun _ h => h.at_ 0 rfl) rfl (.tmp rfl rfl .nil)) ?_))))))))))); exact fun w' hw => ⟨by obtain rfl : k = 0 := (by omega); rw [hf, show List.take 0 vs = [] from rfl, findV_none]; rfl, hw.f0⟩
theorem rc_real {nm : Str} {ts : List Nat} (h : nm ∈ ([[101, 120, 112], [108, 111, 103], [115, 113, 114, 116], [115, 113, 117, 97, 114, 101], [105, 110, 118, 95, 108, 111, 103, 105, 116]] : List Str)) : rcall nm ts = some (if scal (oneY ts) = true then 2 else if oneY ts = 3 then 3 else 0) := by unfold rcall; rw [if_pos h]
theorem rc_sum (ts : List Nat) : rcall [115, 117, 109] ts = some (if oneY ts = 4 then 1 else if oneY ts = 3 ∨ oneY ts = 5 then 2 else 0) := by unfold rcall; rw [if_neg (by decide), if_pos rfl]
theorem rc_dot (ts : List Nat) : rcall [100, 111, 116] ts = some (if ts.length = 2 ∧ ts.getD 0 0 = 3 ∧ ts.getD 1 0 = 3 then 2 else 0) := by unfold rcall; rw [if_neg (by decide), if_neg (by decide), if_pos rfl]
theorem rc_size (ts : List Nat) : rcall [115, 105, 122, 101] ts = some (if 3 ≤ oneY ts ∧ oneY ts ≤ 5 then 1 else 0) := by unfold rcall; rw [if_neg (by decide), if_neg (by decide), if_neg (by decide), if_pos rfl]
theorem rc_none {nm : Str} {ts : List Nat} (h1 : ¬ nm ∈ ([[101, 120, 112], [108, 111, 103], [115, 113, 114, 116], [115, 113, 117, 97, 114, 101], [105, 110, 118, 95, 108, 111, 103, 105, 116]] : List Str)) (h2 : ¬ nm = [115, 117, 109]) (h3 : ¬ nm = [100, 111, 116]) (h4 : ¬ nm = [115, 105, 122, 101]) : rcall nm ts = none := by unfold rcall; rw [if_neg h1, if_neg h2, if_neg h3, if_neg h4]
theorem rcv {o : Option Nat} {t n : Nat} (h : o = some t) (hn : t = n) : Value.tuple #[.int .u8 (n : Nat), .bool true] = .tuple #[.int .u8 (o.getD 0 : Nat), .bool o.isSome] := by subst hn; rw [h]; rfl
theorem rcall_ok (nm : Str) (ts : List Nat) (a : Option Addr) (c : Nat) (w : World) (hl : ts.length ≤ 10000000) (hT : ∀ (j t : Nat), ts[j]? = some t → ∃ b, a = some ⟨b, 0, none⟩ ∧ w.cell? ⟨b, j, none⟩ = some (.int .u8 (t : Nat))) :
  Ret Tryz.prog 73 #[str nm, .slice a ts.length c] w (fun v w' => v = (.tuple #[.int .u8 ((rcall nm ts).getD 0 : Nat), .bool (rcall nm ts).isSome]) ∧ Ext w w') := by
 refine enter (S := No) (l := [_, _]) (L := []) 59 Tryz.func73 rfl rfl rfl (St.start w No) (yA (aI rfl (aB rfl (yC (aI rfl (yB ?_)))))); refine c_cut (fun e B L => e 0 = str nm ∧ e 1 = .slice a ts.length c ∧ e 6 = .int .u8 (oneY ts : Nat) ∧ B = [(w, No)] ∧ L = []) ?_ ?_
 ·refine yA (mS rfl (jj sl115 rfl (je rfl rfl (yB ?_)))); refine zD rfl (fun h1 => ?_) (fun h1 => ?_)
  ·obtain ⟨tb, rfl, hc0⟩ := hT 0 (ts.getD 0 0) (at_get (by omega))
   refine zr (mS rfl (zg (fun _ => R_iaN (i := 0) sl115 rfl rfl (by omega)) (zl (v := .int .u8 (ts.getD 0 0 : Nat)) z5 rfl (fun w h => cel_old zm0 (by rw [Nat.zero_add]; exact hc0) (fun x => x) h) (aI rfl (zn ?_))))); exact k_mid ⟨rfl, rfl, (congrArg (fun n : Nat => Value.int .u8 (n : Int)) (show _ = oneY ts by unfold oneY; rw [if_pos (by omega)])), rfl, rfl⟩
  ·refine zi ?_; exact k_mid ⟨rfl, rfl, (congrArg (fun n : Nat => Value.int .u8 (n : Int)) (show 0 = oneY ts by unfold oneY; rw [if_neg (by omega)])), rfl, rfl⟩
 rintro e B L ⟨e0_1, e1_1, e6_1, rfl, rfl⟩
 refine zq (yA (zm (v := str _) e0_1 (yB (zB (zq (yA (js rfl rfl (aB rfl (yB ?_))))))))); refine zD rfl (fun h2 => ?_) (fun h2 => ?_)
 ·refine zi (zk (zE (bT h2) (zq (yA (mI e6_1 (jD Tryz.func50 (fun w h => rscalar_ok _ w) (yB ?_))))))); refine c_cond rfl (fun h3 => ?_) (fun h3 => ?_)
  ·refine yA (aI rfl (aB rfl (yB (ze (zt (zb (zt ((r_two (v := .int _ _) (v2 := .bool _) rfl rfl rfl rfl rfl ?_))))))))); exact fun w' hw => ⟨by exact rcv (rc_real (by clear hw; simp only [List.mem_cons, List.not_mem_nil, or_false]; grind)) (by clear hw; simp only [scal] at *; grind), hw.f0⟩
  ·refine zi (zk (zq (yA (mI e6_1 (je rfl rfl (yB ?_)))))); refine zD rfl (fun h4 => ?_) (fun h4 => ?_)
   ·refine yA (aI rfl (aB rfl (yB (ze (zt (zb (zt ((r_two (v := .int _ _) (v2 := .bool _) rfl rfl rfl rfl rfl ?_))))))))); exact fun w' hw => ⟨by exact rcv (rc_real (by clear hw; simp only [List.mem_cons, List.not_mem_nil, or_false]; grind)) (by clear hw; simp only [scal] at *; grind), hw.f0⟩
   ·refine zi (zk (yA (aI rfl (aB rfl (yB (ze (zb (zt ((r_two (v := .int _ _) (v2 := .bool _) rfl rfl rfl rfl rfl ?_)))))))))); exact fun w' hw => ⟨by exact rcv (rc_real (by clear hw; simp only [List.mem_cons, List.not_mem_nil, or_false]; grind)) (by clear hw; simp only [scal] at *; grind), hw.f0⟩
 ·refine yA (js rfl rfl (aB rfl (yB ?_))); refine zD rfl (fun h5 => ?_) (fun h5 => ?_)
  ·refine zi (zk (zE (bT h5) (zq (yA (mI e6_1 (jD Tryz.func50 (fun w h => rscalar_ok _ w) (yB ?_))))))); refine c_cond rfl (fun h6 => ?_) (fun h6 => ?_)
   ·refine yA (aI rfl (aB rfl (yB (ze (zt (zb (zt ((r_two (v := .int _ _) (v2 := .bool _) rfl rfl rfl rfl rfl ?_))))))))); exact fun w' hw => ⟨by exact rcv (rc_real (by clear hw; simp only [List.mem_cons, List.not_mem_nil, or_false]; grind)) (by clear hw; simp only [scal] at *; grind), hw.f0⟩
   ·refine zi (zk (zq (yA (mI e6_1 (je rfl rfl (yB ?_)))))); refine zD rfl (fun h7 => ?_) (fun h7 => ?_)
    ·refine yA (aI rfl (aB rfl (yB (ze (zt (zb (zt ((r_two (v := .int _ _) (v2 := .bool _) rfl rfl rfl rfl rfl ?_))))))))); exact fun w' hw => ⟨by exact rcv (rc_real (by clear hw; simp only [List.mem_cons, List.not_mem_nil, or_false]; grind)) (by clear hw; simp only [scal] at *; grind), hw.f0⟩
    ·refine zi (zk (yA (aI rfl (aB rfl (yB (ze (zb (zt ((r_two (v := .int _ _) (v2 := .bool _) rfl rfl rfl rfl rfl ?_)))))))))); exact fun w' hw => ⟨by exact rcv (rc_real (by clear hw; simp only [List.mem_cons, List.not_mem_nil, or_false]; grind)) (by clear hw; simp only [scal] at *; grind), hw.f0⟩
  ·refine yA (js rfl rfl (aB rfl (yB ?_))); refine zD rfl (fun h8 => ?_) (fun h8 => ?_)
   ·refine zi (zk (zE (bT h8) (zq (yA (mI e6_1 (jD Tryz.func50 (fun w h => rscalar_ok _ w) (yB ?_))))))); refine c_cond rfl (fun h9 => ?_) (fun h9 => ?_)
    ·refine yA (aI rfl (aB rfl (yB (ze (zt (zb (zt ((r_two (v := .int _ _) (v2 := .bool _) rfl rfl rfl rfl rfl ?_))))))))); exact fun w' hw => ⟨by exact rcv (rc_real (by clear hw; simp only [List.mem_cons, List.not_mem_nil, or_false]; grind)) (by clear hw; simp only [scal] at *; grind), hw.f0⟩
    ·refine zi (zk (zq (yA (mI e6_1 (je rfl rfl (yB ?_)))))); refine zD rfl (fun h10 => ?_) (fun h10 => ?_)
     ·refine yA (aI rfl (aB rfl (yB (ze (zt (zb (zt ((r_two (v := .int _ _) (v2 := .bool _) rfl rfl rfl rfl rfl ?_))))))))); exact fun w' hw => ⟨by exact rcv (rc_real (by clear hw; simp only [List.mem_cons, List.not_mem_nil, or_false]; grind)) (by clear hw; simp only [scal] at *; grind), hw.f0⟩
     ·refine zi (zk (yA (aI rfl (aB rfl (yB (ze (zb (zt ((r_two (v := .int _ _) (v2 := .bool _) rfl rfl rfl rfl rfl ?_)))))))))); exact fun w' hw => ⟨by exact rcv (rc_real (by clear hw; simp only [List.mem_cons, List.not_mem_nil, or_false]; grind)) (by clear hw; simp only [scal] at *; grind), hw.f0⟩
   ·refine yA (js rfl rfl (aB rfl (yB ?_))); refine zD rfl (fun h11 => ?_) (fun h11 => ?_)
    ·refine zi (zk (zE (bT h11) (zq (yA (mI e6_1 (jD Tryz.func50 (fun w h => rscalar_ok _ w) (yB ?_))))))); refine c_cond rfl (fun h12 => ?_) (fun h12 => ?_)
     ·refine yA (aI rfl (aB rfl (yB (ze (zt (zb (zt ((r_two (v := .int _ _) (v2 := .bool _) rfl rfl rfl rfl rfl ?_))))))))); exact fun w' hw => ⟨by exact rcv (rc_real (by clear hw; simp only [List.mem_cons, List.not_mem_nil, or_false]; grind)) (by clear hw; simp only [scal] at *; grind), hw.f0⟩
     ·refine zi (zk (zq (yA (mI e6_1 (je rfl rfl (yB ?_)))))); refine zD rfl (fun h13 => ?_) (fun h13 => ?_)
      ·refine yA (aI rfl (aB rfl (yB (ze (zt (zb (zt ((r_two (v := .int _ _) (v2 := .bool _) rfl rfl rfl rfl rfl ?_))))))))); exact fun w' hw => ⟨by exact rcv (rc_real (by clear hw; simp only [List.mem_cons, List.not_mem_nil, or_false]; grind)) (by clear hw; simp only [scal] at *; grind), hw.f0⟩
      ·refine zi (zk (yA (aI rfl (aB rfl (yB (ze (zb (zt ((r_two (v := .int _ _) (v2 := .bool _) rfl rfl rfl rfl rfl ?_)))))))))); exact fun w' hw => ⟨by exact rcv (rc_real (by clear hw; simp only [List.mem_cons, List.not_mem_nil, or_false]; grind)) (by clear hw; simp only [scal] at *; grind), hw.f0⟩
    ·refine zr (js rfl rfl (aB rfl (yB ?_))); refine zD rfl (fun h14 => ?_) (fun h14 => ?_)
     ·refine zq (yA (mI e6_1 (jD Tryz.func50 (fun w h => rscalar_ok _ w) (yB ?_)))); refine c_cond rfl (fun h15 => ?_) (fun h15 => ?_)
      ·refine yA (aI rfl (aB rfl (yB (ze (zt (zb (zt ((r_two (v := .int _ _) (v2 := .bool _) rfl rfl rfl rfl rfl ?_))))))))); exact fun w' hw => ⟨by exact rcv (rc_real (by clear hw; simp only [List.mem_cons, List.not_mem_nil, or_false]; grind)) (by clear hw; simp only [scal] at *; grind), hw.f0⟩
      ·refine zi (zk (zq (yA (mI e6_1 (je rfl rfl (yB ?_)))))); refine zD rfl (fun h16 => ?_) (fun h16 => ?_)
       ·refine yA (aI rfl (aB rfl (yB (ze (zt (zb (zt ((r_two (v := .int _ _) (v2 := .bool _) rfl rfl rfl rfl rfl ?_))))))))); exact fun w' hw => ⟨by exact rcv (rc_real (by clear hw; simp only [List.mem_cons, List.not_mem_nil, or_false]; grind)) (by clear hw; simp only [scal] at *; grind), hw.f0⟩
       ·refine zi (zk (yA (aI rfl (aB rfl (yB (ze (zb (zt ((r_two (v := .int _ _) (v2 := .bool _) rfl rfl rfl rfl rfl ?_)))))))))); exact fun w' hw => ⟨by exact rcv (rc_real (by clear hw; simp only [List.mem_cons, List.not_mem_nil, or_false]; grind)) (by clear hw; simp only [scal] at *; grind), hw.f0⟩
     ·refine yA (js rfl rfl (aB rfl (yB ?_))); refine zD rfl (fun h17 => ?_) (fun h17 => ?_)
      ·refine zq (yA (mI e6_1 (je rfl rfl (yB ?_)))); refine zD rfl (fun h18 => ?_) (fun h18 => ?_)
       ·refine yA (aI rfl (aB rfl (yB (ze (zt (zb (zt ((r_two (v := .int _ _) (v2 := .bool _) rfl rfl rfl rfl rfl ?_))))))))); exact fun w' hw => ⟨by (subst_vars; exact rcv (rc_sum _) (by clear hw; grind)), hw.f0⟩
       ·refine zi (zk (zq (yA (mI e6_1 (je rfl rfl (mB rfl ?_)))))); refine zd (t := 30) rfl (fun h19 => ?_) (fun h19 => ?_)
        ·refine zs rfl rfl (bT h19) (zs rfl rfl (bT h19) (jT (bT h19) rfl (yB (zE rfl (yA (aI rfl (aB rfl (yB (ze (zt (zb (zt ((r_two (v := .int _ _) (v2 := .bool _) rfl rfl rfl rfl rfl ?_)))))))))))))); exact fun w' hw => ⟨by (subst_vars; exact rcv (rc_sum _) (by clear hw; grind)), hw.f0⟩
        ·refine zw rfl rfl (bF h19) (mI e6_1 (zw rfl rfl (bF h19) (je rfl rfl (jF (bF h19) rfl (yB ?_))))); refine zD rfl (fun h20 => ?_) (fun h20 => ?_)
         ·refine yA (aI rfl (aB rfl (yB (ze (zt (zb (zt ((r_two (v := .int _ _) (v2 := .bool _) rfl rfl rfl rfl rfl ?_))))))))); exact fun w' hw => ⟨by (subst_vars; exact rcv (rc_sum _) (by clear hw; grind)), hw.f0⟩
         ·refine zi (zk (yA (aI rfl (aB rfl (yB (ze (zb (zt ((r_two (v := .int _ _) (v2 := .bool _) rfl rfl rfl rfl rfl ?_)))))))))); exact fun w' hw => ⟨by (subst_vars; exact rcv (rc_sum _) (by clear hw; grind)), hw.f0⟩
      ·refine yA (js rfl rfl (aB rfl (yB ?_))); refine zD rfl (fun h21 => ?_) (fun h21 => ?_)
       ·refine zq (yA (mS e1_1 (jj sl115 rfl (je rfl rfl (mB rfl ?_))))); refine zd (t := 39) rfl (fun h22 => ?_) (fun h22 => ?_)
        ·obtain ⟨tb, rfl, hc0⟩ := hT 0 (ts.getD 0 0) (at_get (by omega)); obtain ⟨tb1, htb, hc1⟩ := hT 1 (ts.getD 1 0) (at_get (by omega)); cases htb
         refine zw rfl rfl (bT h22) (mS e1_1 (zw rfl rfl (bT h22) (zg (fun _ => R_iaN (i := 0) sl115 rfl rfl (by omega)) (zw rfl rfl (bT h22) (zl (v := .int .u8 (ts.getD 0 0 : Nat)) z5 rfl (fun w h => cel_old zm0 (by rw [Nat.zero_add]; exact hc0) (fun x => x) h) (zw rfl rfl (bT h22) (je rfl rfl (jT (bT h22) rfl (mB rfl ?_))))))))); refine zd (t := 45) rfl (fun h23 => ?_) (fun h23 => ?_)
         ·refine zw rfl rfl (bT h23) (mS e1_1 (zw rfl rfl (bT h23) (zg (fun _ => R_iaN (i := 1) sl115 rfl rfl (by omega)) (zw rfl rfl (bT h23) (zl (v := .int .u8 (ts.getD 1 0 : Nat)) z5 rfl (fun w h => cel_old zm0 (by rw [Nat.zero_add]; exact hc1) (fun x => x) h) (zw rfl rfl (bT h23) (je rfl rfl (jT (bT h23) rfl (yB ?_))))))))); refine zD rfl (fun h24 => ?_) (fun h24 => ?_)
          ·refine yA (aI rfl (aB rfl (yB (ze (zt (zb (zt ((r_two (v := .int _ _) (v2 := .bool _) rfl rfl rfl rfl rfl ?_))))))))); exact fun w' hw => ⟨by (subst_vars; exact rcv (rc_dot _) (by clear hw; grind)), hw.f0⟩
          ·refine zi (zk (yA (aI rfl (aB rfl (yB (ze (zb (zt ((r_two (v := .int _ _) (v2 := .bool _) rfl rfl rfl rfl rfl ?_)))))))))); exact fun w' hw => ⟨by (subst_vars; exact rcv (rc_dot _) (by clear hw; grind)), hw.f0⟩
         ·refine zs rfl rfl (bF h23) (zs rfl rfl (bF h23) (zs rfl rfl (bF h23) (zs rfl rfl (bF h23) (jF (bF h23) rfl (yB (zG rfl (zi (zk (yA (aI rfl (aB rfl (yB (ze (zb (zt ((r_two (v := .int _ _) (v2 := .bool _) rfl rfl rfl rfl rfl ?_))))))))))))))))); exact fun w' hw => ⟨by (subst_vars; exact rcv (rc_dot _) (by clear hw; grind)), hw.f0⟩
        ·refine zs rfl rfl (bF h22) (zs rfl rfl (bF h22) (zs rfl rfl (bF h22) (zs rfl rfl (bF h22) (jF (bF h22) rfl (mB rfl ?_))))); (iterate 4 refine zs rfl rfl rfl ?_); refine jF rfl rfl (yB (zG rfl (zi (zk (yA (aI rfl (aB rfl (yB (ze (zb (zt (?_))))))))))))
         refine r_two (v := .int _ _) (v2 := .bool _) rfl rfl rfl rfl rfl ?_; exact fun w' hw => ⟨by (subst_vars; exact rcv (rc_dot _) (by clear hw; grind)), hw.f0⟩
       ·refine yA (js rfl rfl (aB rfl (yB ?_))); refine zD rfl (fun h25 => ?_) (fun h25 => ?_)
        ·refine zq (yA (mI e6_1 (jh rfl rfl (mB rfl ?_)))); refine zd (t := 55) rfl (fun h26 => ?_) (fun h26 => ?_)
         ·refine zw rfl rfl (bT h26) (mI e6_1 (zw rfl rfl (bT h26) (jm rfl rfl (jT (bT h26) rfl (yB ?_))))); refine zD rfl (fun h27 => ?_) (fun h27 => ?_)
          ·refine yA (aI rfl (aB rfl (yB (ze (zt (zb (zt ((r_two (v := .int _ _) (v2 := .bool _) rfl rfl rfl rfl rfl ?_))))))))); exact fun w' hw => ⟨by (subst_vars; exact rcv (rc_size _) (by clear hw; grind)), hw.f0⟩
          ·refine zi (zk (yA (aI rfl (aB rfl (yB (ze (zb (zt ((r_two (v := .int _ _) (v2 := .bool _) rfl rfl rfl rfl rfl ?_)))))))))); exact fun w' hw => ⟨by (subst_vars; exact rcv (rc_size _) (by clear hw; grind)), hw.f0⟩
         ·refine zs rfl rfl (bF h26) (zs rfl rfl (bF h26) (jF (bF h26) rfl (yB (zG rfl (zi (zk (yA (aI rfl (aB rfl (yB (ze (zb (zt ((r_two (v := .int _ _) (v2 := .bool _) rfl rfl rfl rfl rfl ?_))))))))))))))); exact fun w' hw => ⟨by (subst_vars; exact rcv (rc_size _) (by clear hw; grind)), hw.f0⟩
        ·refine zi (zO (zk (yA (aI rfl (aB rfl (yB (ze (r_two (v := .int _ _) (v2 := .bool _) rfl rfl rfl rfl rfl ?_)))))))); exact fun w' hw => ⟨by (rw [rc_none (by clear hw; simp only [List.mem_cons, List.not_mem_nil, or_false]; grind) (by assumption) (by assumption) (by assumption)]; rfl), hw.f0⟩
end Go.Proofs.YtoehjlmdnajibaaGreatDoor
end
section
namespace Go.Proofs.YtoehjlmdnajibaaGreatDoor
open Go.RowKit Go.Sx
open Go.Tok Go.Tree Go.Knd
def ROfH (n : Nat) : Prop := ∀ (x : Ex) (cs : List Value) (vs : List Vr) (va : Option Addr) (vc : Nat) (w : World), exW x < n → exOk x = true → exM w (fun _ => True) x cs → vrsV w (fun _ => True) vs (va, vc) → vs.length ≤ 90000000 →
    Ret Tryz.prog 43 #[.agg cs.toArray, .slice va vs.length vc] w fun v w' => v = (.tuple #[kdV (outK (ofK vs x)).1, .agg (ftC (outK (ofK vs x)).2).toArray]) ∧ Ext w w'
theorem op5_len {nm : Str} {n : Nat} (h : ruleOk 5 nm n = true) : n = 1 := by
  simp only [ruleOk, Bool.and_eq_true, decide_eq_true_eq] at h; exact h.2
theorem op6_len {op : Nat} {nm : Str} {n : Nat} (ho : op = 6 ∨ op = 7 ∨ op = 8 ∨ op = 9) (h : ruleOk op nm n = true) : n = 2 := by
  rcases ho with rfl | rfl | rfl | rfl <;> (simp only [ruleOk, Bool.and_eq_true, decide_eq_true_eq] at h; exact h.2)
theorem rof_step (n : Nat) (ih : ROfH n) (hn : n ≤ 10000000) (x : Ex) (cs : List Value) (vs : List Vr) (va : Option Addr) (vc : Nat) (w : World) (hx : exW x < n + 1) (hok : exOk x = true) (hm : exM w (fun _ => True) x cs) (hv : vrsV w (fun _ => True) vs (va, vc)) (hvl : vs.length ≤ 90000000) :
    Ret Tryz.prog 43 #[.agg cs.toArray, .slice va vs.length vc] w (fun v w' => v = (.tuple #[kdV (outK (ofK vs x)).1, .agg (ftC (outK (ofK vs x)).2).toArray]) ∧ Ext w w') := by
  obtain ⟨op, at_, nm, ks⟩ := x
  have hm2 := hm
  unfold exM at hm2
  obtain ⟨ka, kc, rfl, hkc, hks⟩ := hm2
  have hx2 := hx
  unfold exW at hx2
  have ho := hok
  unfold exOk at ho
  rw [Bool.and_eq_true] at ho
  obtain ⟨ho1, ho2⟩ := ho
  refine enter (S := No) (l := [_, _]) (L := []) 167 Tryz.func43 rfl rfl rfl (St.start w No) (yA (w_boxA rfl (fun t2b gt2b ut2b => zA zr58 (fun t4b gt4b ut4b => zA zr37 (fun t5b gt5b ut5b => yC (za (v := .slice _ _ _) rfl (yC (aB rfl (yB (zq (yA (aI rfl (yB (zB ?_))))))))))))))
  refine c_loop (fun m e B L => ∃ (k : Nat) (ts : List Nat) (a : Option Addr) (c : Nat) (p : Bool) (W : Heap), e 1 = .slice va vs.length vc ∧ e 2 = pX t2b ∧ e 4 = pX t4b ∧ e 5 = pX t5b ∧ e 6 = .slice a ts.length c ∧ e 7 = .bool p ∧ e 8 = .int .i64 (k : Nat) ∧ B = [(w, No)] ∧ L = (t5b, cel [.int .i64 0, .int .i64 0] 37) :: (t4b, cel [.int .u8 0, .bool false] 58) :: (t2b, cel [.int .u8 (op : Nat), .int .i64 at_, str nm, .slice ka ks.length kc] 52) :: (W ++ []) ∧ k ≤ ks.length ∧ ts.length = k ∧ OwnU 5 (.slice a ts.length c) ts W ∧ ofK vs (Ex.mk op at_ nm ks) = andK (kidsG vs ts p (ks.drop k)) (fun r => ruleK vs op at_ nm ks (r.1.getD 0 0) (r.1.getD 1 0) r.2) ∧ m = ks.length - k) _ ⟨0, [], none, 0, false, [], rfl, rfl, rfl, rfl, rfl, rfl, rfl, rfl, rfl, Nat.zero_le _, rfl, (Own.nil _ 1), ofK_go vs op at_ nm ks, rfl⟩ ?_
  rintro m e B L ⟨k, ts, a, c, p, W, e1_1, e2_1, e4_1, e5_1, e6_1, e7_1, e8_1, rfl, rfl, hk, htl, hO, hG1, rfl⟩
  refine zq (yA (mI e8_1 (zf fa52_3 e2_1 (jM 2 z47 rfl (jj sl47 rfl (jl rfl rfl (yB ?_))))))); refine zD rfl (fun h4 => ?_) (fun h4 => ?_)
  · have hlt : k < ks.length := (by omega); obtain ⟨x, hxk⟩ : ∃ x, ks[k]? = some x := ⟨_, List.getElem?_eq_getElem hlt⟩; obtain ⟨cs, hA, hE⟩ := hks.get0 hxk; have hxn := exsW_mem (List.mem_of_getElem? hxk); have hxo := exsOk_mem ho2 (List.mem_of_getElem? hxk); obtain ⟨b1, o1, rfl⟩ := hA.ptr; have hG2 := hG1.trans (kidsG_step hxk ts p _); obtain ⟨op2, at2, nm2, ks2⟩ := x; have hE2 := hE; unfold exM at hE2; obtain ⟨ka2, kc2, rfl, hkc2, hks2⟩ := hE2
    refine zi (zk (zq (zB (yA (zf fa52_3 e2_1 (jM 2 z47 rfl (mI e8_1 (zg (fun _ => R_iaN (i := k) sl47 rfl rfl (by omega)) (w_loadC (l := [.int .u8 (op2 : Nat), .int .i64 at2, str nm2, .slice ka2 ks2.length kc2]) z52 rfl rfl (fun w h j v hj => hA.cell (fun _ _ hh => hh) zm0 h j v hj) (mS e1_1 ?_))))))))))
    rcases hX : ofK vs (Ex.mk op2 at2 nm2 ks2) with f | ⟨q1, q2⟩
    · refine jD (v := .tuple #[.agg #[.int .u8 0, .bool false], .agg #[.int .i64 (f.1 : Nat), .int .i64 f.2]]) Tryz.func43 (fun w h => by have := ih _ _ vs va vc w (by omega) hxo (hE.nowT zm0 h) (hv.nowT zm0 h) hvl; rw [hX] at this; exact this) ?_
      have hfc := of_code _ f hX; have hG3 := hG2.trans (andK_er hX)
      refine zm rfl (jx rfl rfl (jx rfl rfl (zA zr58 (fun t9b gt9b ut9b => zA zr37 (fun t10b gt10b ut10b => jv 1 z58 rfl (jv 0 z37 rfl (yB (zq (yA (jy 0 z37 rfl rfl (jD Tryz.func32 (fun w h => bad_t f.1 f.2 (by omega) w) (yB (zE rfl (zq ?_)))))))))))))); refine c_heldI [0, 1, 4] mixed ?_; refine zh2 0 rfl rfl (pk [0, 1, 4]) (fun w h => R_build bt58 rfl) ?_; refine h_loadA 1 rfl (by kernel_rfl) (pk [0, 1, 4]) z37 rfl (fun _ h => h.at_ 0 rfl) rfl ?_; refine zH2 2 (pk [0, 1, 4]) ?_; refine zJ 3 rfl rfl z58 e4_1 rfl rfl rfl rfl rfl rfl ?_
      refine zH2 3 (pk [0, 1, 4]) ?_; refine zJ 2 rfl rfl z37 e5_1 rfl rfl rfl rfl rfl rfl ?_; refine zN2 (pk [0, 1, 4]) ?_; refine zk (ze (zt (zb (zt (zt (zb (zt (?_))))))))
      refine r_fin (.inl rfl) rfl (.agg rfl e4_1 z58 (fun _ h => h.at_ 3 rfl) rfl (.agg rfl e5_1 z37 (fun _ h => h.at_ 2 rfl) rfl .nil)) ?_; exact fun w' hw => ⟨kE hG3, hw.f0⟩
    refine jD (v := .tuple #[.agg #[.int .u8 (q1 : Nat), .bool q2], .agg #[.int .i64 0, .int .i64 0]]) Tryz.func43 (fun w h => by have := ih _ _ vs va vc w (by omega) hxo (hE.nowT zm0 h) (hv.nowT zm0 h) hvl; rw [hX] at this; exact this) ?_
    have hG3 := hG2.trans (andK_of hX)
    refine zm rfl (jx rfl rfl (jx rfl rfl (zA zr58 (fun t9b gt9b ut9b => zA zr37 (fun t10b gt10b ut10b => jv 1 z58 rfl (jv 0 z37 rfl (yB (zq (yA (jy 0 z37 rfl rfl (jD Tryz.func32 (fun w h => bad_f 0 w) (yB (zG rfl (zi (zk (yA (mS e6_1 (zf fa58_0 rfl (jM 1 z5 rfl (zS slt115 (by decide) rfl rfl (fun sb gsb usb => w_app (L := []) (W := W) (news := [.int .u8 (q1 : Nat)]) [_, _, _, _, _, _] slt115 (by decide) rfl hO rfl rfl (row_own 0 rfl (fun j u h => h)) rfl (by decide) (by omega) (by omega) (fun v2 W2 hO2 => ?_))))))))))))))))))))))
    obtain ⟨a9, c9, hv2, hO9⟩ : ∃ (a : Option Addr) (c : Nat), v2 = .slice a (ts ++ [q1]).length c ∧ OwnU 5 (.slice a (ts ++ [q1]).length c) (ts ++ [q1]) W2 := (by obtain ⟨a, c, rfl⟩ := hO2.slice; exact ⟨a, c, by simp, OwnU.more hO2⟩); subst hv2
    refine za (v := .slice _ _ _) rfl (yB (zr (mB e7_1 (mB rfl ?_)))); refine zp (t := 43) rfl (fun h9 => ?_) (fun h9 => ?_)
    · refine zs rfl rfl (bV h9) (zs rfl rfl (bV h9) (jT (bV h9) rfl (aB rfl (zn (zO (zk (zr (mI e8_1 (ji rfl rfl (by omega) (aI rfl (zn (zK (B' := [(w, No)]) (L' := (t5b, cel [.int .i64 0, .int .i64 0] 37) :: (t4b, cel [.int .u8 0, .bool false] 58) :: (t2b, cel [.int .u8 (op : Nat), .int .i64 at_, str nm, .slice (some ⟨b1, o1, none⟩) ks.length kc] 52) :: (W2 ++ [])) (fun w h => h.drop (.cons _ (.cons _ (.cons _ (List.Sublist.refl _))))) ?_))))))))))))
      exact k_again _ (by omega) ⟨k + 1, ts ++ [q1], a9, c9, p || q2, W2, e1_1, e2_1, e4_1, e5_1, rfl, (by exact congrArg Value.bool (show true = (p || q2) by simp_all)), rfl, rfl, rfl, by omega, (by rw [List.length_append, List.length_singleton]; omega), hO9, hG3, rfl⟩
    refine zw rfl rfl (bV h9) (zf fa58_1 rfl (zw rfl rfl (bV h9) (jM 2 z4 rfl (jF (bV h9) rfl (aB rfl (zn (zO (zk (zr (mI e8_1 (ji rfl rfl (by omega) (aI rfl (zn (zK (B' := [(w, No)]) (L' := (t5b, cel [.int .i64 0, .int .i64 0] 37) :: (t4b, cel [.int .u8 0, .bool false] 58) :: (t2b, cel [.int .u8 (op : Nat), .int .i64 at_, str nm, .slice (some ⟨b1, o1, none⟩) ks.length kc] 52) :: (W2 ++ [])) (fun w h => h.drop (.cons _ (.cons _ (.cons _ (List.Sublist.refl _))))) ?_)))))))))))))); exact k_again _ (by omega) ⟨k + 1, ts ++ [q1], a9, c9, p || q2, W2, e1_1, e2_1, e4_1, e5_1, rfl, (by exact congrArg Value.bool (show q2 = (p || q2) by simp_all)), rfl, rfl, rfl, by omega, (by rw [List.length_append, List.length_singleton]; omega), hO9, hG3, rfl⟩
  have hG4 : ofK vs (Ex.mk op at_ nm ks) = ruleK vs op at_ nm ks (ts.getD 0 0) (ts.getD 1 0) p := hG1.trans (kidsG_end (by omega) ts p _); clear hG1; have htk : ts.length = ks.length := (by omega)
  refine zX (zx (zx (b_here rfl (zk (yA (aI rfl (yB (zq (yA ?_)))))))))
  rcases op_ok9 ho1 with rfl | rfl | rfl | rfl | rfl | hop
  · refine zf fa52_0 e2_1 (jM 2 z5 rfl (yB (zB (yA (je rfl rfl (aB rfl (yB (zE bD (yA (aI rfl (yC (zf fa52_2 e2_1 (jM 2 z9 rfl (jD Tryz.func72 (fun w h => rint_ok nm (by omega) w) (yB ?_))))))))))))))); refine c_cond rfl (fun h10 => ?_) (fun h10 => ?_)
    · refine zr (aI rfl (zn (zO (zk (zq (yA (mI rfl (je rfl rfl (yB (zG bE (zi (zk (yA (mI rfl (mB e7_1 (jb bt58 rfl (jD Tryz.func34 (fun w h => rnone_ok w) (ju 1 z58 e4_1 rfl rfl (ju 0 z37 e5_1 rfl rfl (yB (ze (r_fin (.inl rfl) rfl (.agg rfl e4_1 z58 (fun _ h => h.at_ 1 rfl) rfl (.agg rfl e5_1 z37 (fun _ h => h.at_ 0 rfl) rfl .nil)) ?_)))))))))))))))))))))); exact fun w' hw => ⟨by clear hw; (rw [outK_ok (hG4.trans (rule_1'.trans (needT_1 (by (rw [if_pos (by omega)]; omega)))))]; (rw [if_pos (by assumption)]; rfl)), hw.f0⟩
    refine zi (zO (zk (zq (yA (mI rfl (je rfl rfl (yB (zG bE (zi (zk (yA (mI rfl (mB e7_1 (jb bt58 rfl (jD Tryz.func34 (fun w h => rnone_ok w) (ju 1 z58 e4_1 rfl rfl (ju 0 z37 e5_1 rfl rfl (yB (ze (r_fin (.inl rfl) rfl (.agg rfl e4_1 z58 (fun _ h => h.at_ 1 rfl) rfl (.agg rfl e5_1 z37 (fun _ h => h.at_ 0 rfl) rfl .nil)) ?_))))))))))))))))))))
    exact fun w' hw => ⟨by clear hw; (rw [outK_ok (hG4.trans (rule_1'.trans (needT_1 (by (split <;> decide)))))]; (rw [if_neg (by rw [h10]; exact Bool.false_ne_true)]; rfl)), hw.f0⟩
  · refine zf fa52_0 e2_1 (jM 2 z5 rfl (yB (zB (yA (je rfl rfl (aB rfl (yB (zG bE (zq (yA (je rfl rfl (aB rfl (yB (zE bD (zi (zk (zE bD (yA (mS e1_1 (zf fa52_2 e2_1 (jM 2 z9 rfl (jD Tryz.func48 (fun w h => rFind_ok vs va vc nm w (hv.nowT zm0 h) hvl) ?_))))))))))))))))))))))
    rcases hq11 : findV vs nm with _ | v11
    · have hG5 := hG4.trans (rule_2n hq11)
      refine zm rfl (jx rfl rfl (jx rfl rfl (zA zr54 (fun t12b gt12b ut12b => jv 0 z54 rfl (aB rfl (yB (zq (yA (mB rfl (jk rfl (yB (zE rfl (zq ?_))))))))))))); refine c_heldI [0, 3] mixed ?_; refine zh2 0 rfl rfl (pk [0, 3]) (fun w h => R_build bt58 rfl) ?_; refine zh2 1 rfl rfl (pk [0, 3]) (fun w h => R_fa fa52_1 e2_1) ?_; refine zh (v := .int _ _) 2 rfl (by kernel_rfl) rfl rfl (pk [0, 3]) (fun w h => R_ld1 z3 rfl ((fun _ h => zc 1 rfl rfl h) w h)) ?_; refine zh2 3 rfl rfl (pk [0, 3]) (fun w h => R_build bt37 rfl) ?_
      refine zH2 4 (pk [0, 3]) ?_; refine zJ 2 rfl rfl z58 e4_1 rfl rfl rfl rfl rfl rfl ?_; refine zH2 5 (pk [0, 3]) ?_; refine zJ 1 rfl rfl z37 e5_1 rfl rfl rfl rfl rfl rfl ?_; refine zN2 (pk [0, 3]) ?_; refine zk (ze (zt (zb (zt (?_)))))
      refine r_fin (.inl rfl) rfl (.agg rfl e4_1 z58 (fun _ h => h.at_ 2 rfl) rfl (.agg rfl e5_1 z37 (fun _ h => h.at_ 1 rfl) rfl .nil)) ?_; exact fun w' hw => ⟨kE hG5, hw.f0⟩
    have hG5 := hG4.trans (rule_2s hq11)
    refine zm rfl (jx rfl rfl (jx rfl rfl (zA zr54 (fun t12b gt12b ut12b => jv 0 z54 rfl (aB rfl (yB (zq (yA (mB rfl (jk rfl (yB (zG rfl (zi (zk (zq (yA (zf fa52_0 e2_1 (jM 3 z5 rfl (je rfl rfl (yB (zE bD (zq ?_)))))))))))))))))))))); refine c_heldI [0, 3] mixed ?_; refine zh2 0 rfl rfl (pk [0, 3]) (fun w h => R_fa fa54_1 rfl) ?_
    refine zh (v := .int _ _) 1 rfl (by kernel_rfl) rfl rfl (pk [0, 3]) (fun w h => R_ld1 z5 rfl ((fun _ h => zc 0 rfl rfl h) w h)) ?_; refine zh2 2 rfl rfl (pk [0, 3]) (fun w h => R_fa fa54_3 rfl) ?_; refine zh (v := .bool _) 3 rfl (by kernel_rfl) rfl rfl (pk [0, 3]) (fun w h => R_ld1 z4 rfl ((fun _ h => zc 0 rfl rfl h) w h)) ?_; refine zh2 4 rfl rfl (pk [0, 3]) (fun w h => R_build bt58 rfl) ?_; refine zH2 5 (pk [0, 3]) ?_; refine o_pureW rfl (wn_none rfl) rfl (fun w => zR Tryz.func34 rfl rfl rfl) (fun w h => rnone_ok w) ?_; refine zH2 6 (pk [0, 3]) ?_
    refine zJ 2 rfl rfl z58 e4_1 rfl rfl rfl rfl rfl rfl ?_; refine zH2 7 (pk [0, 3]) ?_; refine zJ 1 rfl rfl z37 e5_1 rfl rfl rfl rfl rfl rfl ?_; refine zN2 (pk [0, 3]) ?_; refine zk (ze (zt (zb (zt (?_)))))
    refine r_fin (.inl rfl) rfl (.agg rfl e4_1 z58 (fun _ h => h.at_ 2 rfl) rfl (.agg rfl e5_1 z37 (fun _ h => h.at_ 1 rfl) rfl .nil)) ?_; exact fun w' hw => ⟨by clear hw; (rw [outK_ok hG5]; rfl), hw.f0⟩
  · refine zf fa52_0 e2_1 (jM 2 z5 rfl (yB (zB (yA (je rfl rfl (aB rfl (yB (zG bE (zq (yA (je rfl rfl (aB rfl (yB (zG bE (zr (je rfl rfl (aB rfl (yB (zE bD (yA (mS e1_1 (zf fa52_2 e2_1 (jM 2 z9 rfl (jD Tryz.func48 (fun w h => rFind_ok vs va vc nm w (hv.nowT zm0 h) hvl) ?_))))))))))))))))))))))))
    rcases hq14 : findV vs nm with _ | v14
    · have hG5 := hG4.trans (rule_3n hq14)
      refine zm rfl (jx rfl rfl (jx rfl rfl (zA zr54 (fun t12b gt12b ut12b => jv 0 z54 rfl (aB rfl (yB (zq (yA (mB rfl (jk rfl (yB (zE rfl (zq ?_))))))))))))); refine c_heldI [0, 3] mixed ?_; refine zh2 0 rfl rfl (pk [0, 3]) (fun w h => R_build bt58 rfl) ?_; refine zh2 1 rfl rfl (pk [0, 3]) (fun w h => R_fa fa52_1 e2_1) ?_; refine zh (v := .int _ _) 2 rfl (by kernel_rfl) rfl rfl (pk [0, 3]) (fun w h => R_ld1 z3 rfl ((fun _ h => zc 1 rfl rfl h) w h)) ?_; refine zh2 3 rfl rfl (pk [0, 3]) (fun w h => R_build bt37 rfl) ?_
      refine zH2 4 (pk [0, 3]) ?_; refine zJ 2 rfl rfl z58 e4_1 rfl rfl rfl rfl rfl rfl ?_; refine zH2 5 (pk [0, 3]) ?_; refine zJ 1 rfl rfl z37 e5_1 rfl rfl rfl rfl rfl rfl ?_; refine zN2 (pk [0, 3]) ?_; refine zk (ze (zt (zb (zt (?_)))))
      refine r_fin (.inl rfl) rfl (.agg rfl e4_1 z58 (fun _ h => h.at_ 2 rfl) rfl (.agg rfl e5_1 z37 (fun _ h => h.at_ 1 rfl) rfl .nil)) ?_; exact fun w' hw => ⟨kE hG5, hw.f0⟩
    obtain ⟨k0, rfl⟩ : ∃ k, ks = [k] := List.length_eq_one_iff.1 (rule3_len ho1)
    obtain ⟨cs, hA, hE⟩ := hks.get0 (k := 0) (e := k0) rfl; obtain ⟨b1, o1, rfl⟩ := hA.ptr; obtain ⟨op2, at2, nm2, ks2⟩ := k0; have hE2 := hE; unfold exM at hE2; obtain ⟨ka2, kc2, rfl, hkc2, hks2⟩ := hE2; have htk1 : ts.length = 1 := htk; obtain ⟨tb, rfl, hct⟩ := hO.cell (i := 0) (by omega)
    refine zm rfl (jx rfl rfl (jx rfl rfl (zA zr54 (fun t12b gt12b ut12b => jv 0 z54 rfl (aB rfl (yB (zq (yA (mB rfl (jk rfl (yB (zG rfl (zi (zk (zq (yA (zf fa52_0 e2_1 (jM 3 z5 rfl (je rfl rfl (yB (zG bE (zi (zk (zq (zq (zr (zf fa54_1 rfl (jM 0 z5 rfl (jD Tryz.func50 (fun w h => rscalar_ok _ w) (mB rfl ?_)))))))))))))))))))))))))))))); refine zp (t := 91) rfl (fun h17 => ?_) (fun h17 => ?_)
    · refine zs rfl rfl (bV h17) (zs rfl rfl (bV h17) (zs rfl rfl (bV h17) (jT (bV h17) rfl (mB rfl ?_)))); (iterate 3 refine zs rfl rfl rfl ?_); refine jT rfl rfl (yB (zE rfl (zq ?_))); refine c_heldI [0, 3] mixed ?_; refine zh2 0 rfl rfl (pk [0, 3]) (fun w h => R_build bt58 rfl) ?_; refine zh2 1 rfl rfl (pk [0, 3]) (fun w h => R_fa fa52_1 e2_1) ?_; refine zh (v := .int _ _) 2 rfl (by kernel_rfl) rfl rfl (pk [0, 3]) (fun w h => R_ld1 z3 rfl ((fun _ h => zc 1 rfl rfl h) w h)) ?_
      refine zh2 3 rfl rfl (pk [0, 3]) (fun w h => R_build bt37 rfl) ?_; refine zH2 4 (pk [0, 3]) ?_; refine zJ 2 rfl rfl z58 e4_1 rfl rfl rfl rfl rfl rfl ?_; refine zH2 5 (pk [0, 3]) ?_; refine zJ 1 rfl rfl z37 e5_1 rfl rfl rfl rfl rfl rfl ?_; refine zN2 (pk [0, 3]) ?_; refine zk (ze (zt (zb (zt (?_)))))
      refine r_fin (.inl rfl) rfl (.agg rfl e4_1 z58 (fun _ h => h.at_ 2 rfl) rfl (.agg rfl e5_1 z37 (fun _ h => h.at_ 1 rfl) rfl .nil)) ?_; exact fun w' hw => ⟨by clear hw; first | (rw [outK_er (hG4.trans (rule_3a hq14 (by (have hsc : scal v14.ty = true := (by assumption); simp only [scal, Bool.or_eq_true, decide_eq_true_eq] at hsc; omega))))]; rfl), hw.f0⟩
    refine zw rfl rfl (bV h17) (zf fa54_1 rfl (zw rfl rfl (bV h17) (jM 0 z5 rfl (zw rfl rfl (bV h17) (je rfl rfl (jF (bV h17) rfl (mB rfl ?_))))))); refine zd (t := 96) rfl (fun h18 => ?_) (fun h18 => ?_)
    · refine zs rfl rfl (bT h18) (zs rfl rfl (bT h18) (zs rfl rfl (bT h18) (jT (bT h18) rfl (yB (zE rfl (zq ?_)))))); refine c_heldI [0, 3] mixed ?_; refine zh2 0 rfl rfl (pk [0, 3]) (fun w h => R_build bt58 rfl) ?_; refine zh2 1 rfl rfl (pk [0, 3]) (fun w h => R_fa fa52_1 e2_1) ?_; refine zh (v := .int _ _) 2 rfl (by kernel_rfl) rfl rfl (pk [0, 3]) (fun w h => R_ld1 z3 rfl ((fun _ h => zc 1 rfl rfl h) w h)) ?_; refine zh2 3 rfl rfl (pk [0, 3]) (fun w h => R_build bt37 rfl) ?_; refine zH2 4 (pk [0, 3]) ?_
      refine zJ 2 rfl rfl z58 e4_1 rfl rfl rfl rfl rfl rfl ?_; refine zH2 5 (pk [0, 3]) ?_; refine zJ 1 rfl rfl z37 e5_1 rfl rfl rfl rfl rfl rfl ?_; refine zN2 (pk [0, 3]) ?_; refine zk (ze (zt (zb (zt (?_)))))
      refine r_fin (.inl rfl) rfl (.agg rfl e4_1 z58 (fun _ h => h.at_ 2 rfl) rfl (.agg rfl e5_1 z37 (fun _ h => h.at_ 1 rfl) rfl .nil)) ?_; exact fun w' hw => ⟨by clear hw; first | (rw [outK_er (hG4.trans (rule_3a hq14 (by omega)))]; rfl), hw.f0⟩
    refine zw rfl rfl (bF h18) (zf fa54_1 rfl (zw rfl rfl (bF h18) (jM 0 z5 rfl (zw rfl rfl (bF h18) (jg rfl rfl (jF (bF h18) rfl (yB ?_))))))); refine zD rfl (fun h19 => ?_) (fun h19 => ?_)
    · refine zq ?_; refine c_heldI [0, 3] mixed ?_; refine zh2 0 rfl rfl (pk [0, 3]) (fun w h => R_build bt58 rfl) ?_; refine zh2 1 rfl rfl (pk [0, 3]) (fun w h => R_fa fa52_1 e2_1) ?_; refine zh (v := .int _ _) 2 rfl (by kernel_rfl) rfl rfl (pk [0, 3]) (fun w h => R_ld1 z3 rfl ((fun _ h => zc 1 rfl rfl h) w h)) ?_; refine zh2 3 rfl rfl (pk [0, 3]) (fun w h => R_build bt37 rfl) ?_; refine zH2 4 (pk [0, 3]) ?_; refine zJ 2 rfl rfl z58 e4_1 rfl rfl rfl rfl rfl rfl ?_; refine zH2 5 (pk [0, 3]) ?_; refine zJ 1 rfl rfl z37 e5_1 rfl rfl rfl rfl rfl rfl ?_
      refine zN2 (pk [0, 3]) ?_; refine zk (ze (zt (zb (zt (?_)))))
      refine r_fin (.inl rfl) rfl (.agg rfl e4_1 z58 (fun _ h => h.at_ 2 rfl) rfl (.agg rfl e5_1 z37 (fun _ h => h.at_ 1 rfl) rfl .nil)) ?_; exact fun w' hw => ⟨by clear hw; first | (rw [outK_er (hG4.trans (rule_3a hq14 (by omega)))]; rfl), hw.f0⟩
    have h345 : v14.ty = 3 ∨ v14.ty = 4 ∨ v14.ty = 5 := (by have hsc : scal v14.ty = false := (by assumption); simp only [scal, Bool.or_eq_false_iff, decide_eq_false_iff_not] at hsc; omega)
    refine zi (zk (zq (yA (mS e6_1 (zg (fun _ => R_iaN (i := 0) sl115 rfl rfl (by omega)) ?_))))); refine zl (v := .int .u8 (ts.getD 0 0 : Nat)) z5 rfl (fun w h => (by have := hct _ _ w (fun p hp => by simp [hp]) h 0 _ (at_get (by omega)); rw [show 0 + 0 * 1 = 0 from rfl]; exact this)) ?_; refine jn rfl rfl (yB ?_); refine zD rfl (fun h20 => ?_) (fun h20 => ?_)
    · have hG5 := hG4.trans (rule_3b hq14 h345 (by omega))
      refine zq ?_; refine c_heldI [0, 3] mixed ?_; refine zh2 0 rfl rfl (pk [0, 3]) (fun w h => R_build bt58 rfl) ?_; refine zh2 1 rfl rfl (pk [0, 3]) (fun w h => R_fa fa52_3 e2_1) ?_; refine zh (v := .slice _ _ _) 2 rfl (by kernel_rfl) rfl rfl (pk [0, 3]) (fun w h => R_ld1 z47 rfl ((fun _ h => zc 1 rfl rfl h) w h)) ?_; refine zh2 3 rfl rfl (pk [0, 3]) (fun w h => R_iaN (i := 0) sl47 rfl rfl (by omega)) ?_; refine zh2 4 rfl rfl (pk [0, 3]) (fun w h => R_fa fa52_1 rfl) ?_
      refine zh (v := .int .i64 at2) 5 rfl (by kernel_rfl) rfl rfl (pk [0, 3]) (fun w h => R_ld1 z3 rfl (hA.cell (x := (_, No)) (fun _ _ h => h) zm0 h 1 (.int .i64 at2) rfl)) ?_; refine zh2 6 rfl rfl (pk [0, 3]) (fun w h => R_build bt37 rfl) ?_; refine zH2 7 (pk [0, 3]) ?_; refine zJ 2 rfl rfl z58 e4_1 rfl rfl rfl rfl rfl rfl ?_; refine zH2 8 (pk [0, 3]) ?_; refine zJ 1 rfl rfl z37 e5_1 rfl rfl rfl rfl rfl rfl ?_; refine zN2 (pk [0, 3]) ?_; refine zk (ze (zt (zb (zt (?_)))))
      refine r_fin (.inl rfl) rfl (.agg rfl e4_1 z58 (fun _ h => h.at_ 2 rfl) rfl (.agg rfl e5_1 z37 (fun _ h => h.at_ 1 rfl) rfl .nil)) ?_; exact fun w' hw => ⟨kE hG5, hw.f0⟩
    have ha1 : ts.getD 0 0 = 1 := (by omega)
    refine zi (zk (zq (yA (mB e7_1 (yB ?_))))); refine c_cond rfl (fun h21 => ?_) (fun h21 => ?_)
    · have hG5 := hG4.trans (rule_3c hq14 h345 ha1 (by assumption))
      refine zq ?_; refine c_heldI [0, 3] mixed ?_; refine zh2 0 rfl rfl (pk [0, 3]) (fun w h => R_build bt58 rfl) ?_; refine zh2 1 rfl rfl (pk [0, 3]) (fun w h => R_fa fa52_3 e2_1) ?_; refine zh (v := .slice _ _ _) 2 rfl (by kernel_rfl) rfl rfl (pk [0, 3]) (fun w h => R_ld1 z47 rfl ((fun _ h => zc 1 rfl rfl h) w h)) ?_; refine zh2 3 rfl rfl (pk [0, 3]) (fun w h => R_iaN (i := 0) sl47 rfl rfl (by omega)) ?_; refine zh2 4 rfl rfl (pk [0, 3]) (fun w h => R_fa fa52_1 rfl) ?_
      refine zh (v := .int .i64 at2) 5 rfl (by kernel_rfl) rfl rfl (pk [0, 3]) (fun w h => R_ld1 z3 rfl (hA.cell (x := (_, No)) (fun _ _ h => h) zm0 h 1 (.int .i64 at2) rfl)) ?_; refine zh2 6 rfl rfl (pk [0, 3]) (fun w h => R_build bt37 rfl) ?_; refine zH2 7 (pk [0, 3]) ?_; refine zJ 2 rfl rfl z58 e4_1 rfl rfl rfl rfl rfl rfl ?_; refine zH2 8 (pk [0, 3]) ?_; refine zJ 1 rfl rfl z37 e5_1 rfl rfl rfl rfl rfl rfl ?_; refine zN2 (pk [0, 3]) ?_; refine zk (ze (zt (zb (zt (?_)))))
      refine r_fin (.inl rfl) rfl (.agg rfl e4_1 z58 (fun _ h => h.at_ 2 rfl) rfl (.agg rfl e5_1 z37 (fun _ h => h.at_ 1 rfl) rfl .nil)) ?_; exact fun w' hw => ⟨kE hG5, hw.f0⟩
    have hG5 := hG4.trans (rule_3d hq14 h345 ha1 (by assumption))
    refine zi (zk (yA (aI rfl (yB (zq (yA (zf fa54_1 rfl (jM 0 z5 rfl (je rfl rfl (yB ?_)))))))))); refine zD rfl (fun h22 => ?_) (fun h22 => ?_)
    · refine zr (aI rfl (yB (zr (zf fa54_3 rfl (jM 0 z4 rfl (aB rfl (zn (zO (zk (zq (yA (mI rfl (je rfl rfl (yB (zG bE (zi (zk (yA (mI rfl (mB rfl (jb bt58 rfl (jD Tryz.func34 (fun w h => rnone_ok w) (ju 2 z58 e4_1 rfl rfl (ju 1 z37 e5_1 rfl rfl (yB (ze (r_fin (.inl rfl) rfl (.agg rfl e4_1 z58 (fun _ h => h.at_ 2 rfl) rfl (.agg rfl e5_1 z37 (fun _ h => h.at_ 1 rfl) rfl .nil)) ?_))))))))))))))))))))))))))); exact fun w' hw => ⟨by clear hw; (rw [outK_ok hG5]; (rw [if_pos (by omega)]; rfl)), hw.f0⟩
    refine zi (zk (zr (zf fa54_3 rfl (jM 0 z4 rfl (aB rfl (zn (zO (zk (zq (yA (mI rfl (je rfl rfl (yB (zG bE (zi (zk (yA (mI rfl (mB rfl (jb bt58 rfl (jD Tryz.func34 (fun w h => rnone_ok w) (ju 2 z58 e4_1 rfl rfl (ju 1 z37 e5_1 rfl rfl (yB (ze (r_fin (.inl rfl) rfl (.agg rfl e4_1 z58 (fun _ h => h.at_ 2 rfl) rfl (.agg rfl e5_1 z37 (fun _ h => h.at_ 1 rfl) rfl .nil)) ?_)))))))))))))))))))))))))); exact fun w' hw => ⟨by clear hw; (rw [outK_ok hG5]; (rw [if_neg (by omega)]; rfl)), hw.f0⟩
  · refine zf fa52_0 e2_1 (jM 2 z5 rfl (yB (zB (yA (je rfl rfl (aB rfl (yB (zG bE (zq (yA (je rfl rfl (aB rfl (yB (zG bE (zr (je rfl rfl (aB rfl (yB (zG bE (yA (je rfl rfl (aB rfl (yB (zE bD (yA (zf fa52_2 e2_1 (jM 2 z9 rfl (mS e6_1 ?_))))))))))))))))))))))))))))
    rcases hc : rcall nm ts with _ | ct
    · refine jD (v := .tuple #[.int .u8 0, .bool false]) Tryz.func73 (fun w h => by have := rcall_ok nm ts a c w (by omega) (fun j t ht => by obtain ⟨b, h1, h2⟩ := hO.cell (List.getElem?_eq_some_iff.1 ht).1; exact ⟨b, h1, h2 _ _ w (fun p hp => by simp [hp]) h j t ht⟩); rw [hc] at this; exact this) ?_
      have hG5 := hG4.trans (rcall_n hc)
      refine zm rfl (jx rfl rfl (jx rfl rfl (aI rfl (aB rfl (yB (zq (yA (mB rfl (jk rfl (yB (zE rfl (zq ?_)))))))))))); refine c_heldI [2] mixed ?_; refine zh2 0 rfl rfl (pk [2]) (fun w h => R_build bt58 rfl) ?_; refine zh2 1 rfl rfl (pk [2]) (fun w h => R_fa fa52_1 e2_1) ?_; refine zh (v := .int _ _) 2 rfl (by kernel_rfl) rfl rfl (pk [2]) (fun w h => R_ld1 z3 rfl ((fun _ h => zc 0 rfl rfl h) w h)) ?_
      refine zh2 3 rfl rfl (pk [2]) (fun w h => R_build bt37 rfl) ?_; refine zH2 4 (pk [2]) ?_; refine zJ 1 rfl rfl z58 e4_1 rfl rfl rfl rfl rfl rfl ?_; refine zH2 5 (pk [2]) ?_; refine zJ 0 rfl rfl z37 e5_1 rfl rfl rfl rfl rfl rfl ?_; refine zN2 (pk [2]) ?_; refine zk (ze (zt (zb (zt (?_)))))
      refine r_fin (.inl rfl) rfl (.agg rfl e4_1 z58 (fun _ h => h.at_ 1 rfl) rfl (.agg rfl e5_1 z37 (fun _ h => h.at_ 0 rfl) rfl .nil)) ?_; exact fun w' hw => ⟨kE hG5, hw.f0⟩
    refine jD (v := .tuple #[.int .u8 (ct : Nat), .bool true]) Tryz.func73 (fun w h => by have := rcall_ok nm ts a c w (by omega) (fun j t ht => by obtain ⟨b, h1, h2⟩ := hO.cell (List.getElem?_eq_some_iff.1 ht).1; exact ⟨b, h1, h2 _ _ w (fun p hp => by simp [hp]) h j t ht⟩); rw [hc] at this; exact this) ?_
    have hG5 := hG4.trans (rcall_s htk hc)
    refine zm rfl (jx rfl rfl (jx rfl rfl (aI rfl (aB rfl (yB (zq (yA (mB rfl (jk rfl (yB (zG rfl (zi (zk (yA (mI rfl (aI rfl (yC (zf fa52_2 e2_1 (jM 2 z9 rfl (js rfl rfl (yB ?_))))))))))))))))))))); refine zD rfl (fun h23 => ?_) (fun h23 => ?_)
    · refine zr (aB rfl (zn (zO (zk (zq (yA (mI rfl (je rfl rfl (yB ?_))))))))); refine zD rfl (fun h24 => ?_) (fun h24 => ?_)
      · refine zq ?_; refine c_heldI [2] mixed ?_; refine zh2 0 rfl rfl (pk [2]) (fun w h => R_build bt58 rfl) ?_; refine zh2 1 rfl rfl (pk [2]) (fun w h => R_fa fa52_1 e2_1) ?_; refine zh (v := .int _ _) 2 rfl (by kernel_rfl) rfl rfl (pk [2]) (fun w h => R_ld1 z3 rfl ((fun _ h => zc 0 rfl rfl h) w h)) ?_; refine zh2 3 rfl rfl (pk [2]) (fun w h => R_build bt37 rfl) ?_; refine zH2 4 (pk [2]) ?_; refine zJ 1 rfl rfl z58 e4_1 rfl rfl rfl rfl rfl rfl ?_; refine zH2 5 (pk [2]) ?_; refine zJ 0 rfl rfl z37 e5_1 rfl rfl rfl rfl rfl rfl ?_
        refine zN2 (pk [2]) ?_; refine zk (ze (zt (?_)))
        refine r_fin (.inl rfl) rfl (.agg rfl e4_1 z58 (fun _ h => h.at_ 1 rfl) rfl (.agg rfl e5_1 z37 (fun _ h => h.at_ 0 rfl) rfl .nil)) ?_; exact fun w' hw => ⟨by clear hw; (rw [outK_er (hG5.trans (needT_0 (by omega)))]; rfl), hw.f0⟩
      refine zi (zk (yA (mI rfl (mB rfl (jb bt58 rfl (jD Tryz.func34 (fun w h => rnone_ok w) (ju 1 z58 e4_1 rfl rfl (ju 0 z37 e5_1 rfl rfl (yB (ze (r_fin (.inl rfl) rfl (.agg rfl e4_1 z58 (fun _ h => h.at_ 1 rfl) rfl (.agg rfl e5_1 z37 (fun _ h => h.at_ 0 rfl) rfl .nil)) ?_))))))))))); exact fun w' hw => ⟨by clear hw; (rw [outK_ok (hG5.trans (needT_1 (by omega)))]; (rw [if_pos (by assumption)]; rfl)), hw.f0⟩
    refine zi (zO (zk (zq (yA (mI rfl (je rfl rfl (yB ?_))))))); refine zD rfl (fun h25 => ?_) (fun h25 => ?_)
    · refine zq ?_; refine c_heldI [2] mixed ?_; refine zh2 0 rfl rfl (pk [2]) (fun w h => R_build bt58 rfl) ?_; refine zh2 1 rfl rfl (pk [2]) (fun w h => R_fa fa52_1 e2_1) ?_; refine zh (v := .int _ _) 2 rfl (by kernel_rfl) rfl rfl (pk [2]) (fun w h => R_ld1 z3 rfl ((fun _ h => zc 0 rfl rfl h) w h)) ?_; refine zh2 3 rfl rfl (pk [2]) (fun w h => R_build bt37 rfl) ?_; refine zH2 4 (pk [2]) ?_; refine zJ 1 rfl rfl z58 e4_1 rfl rfl rfl rfl rfl rfl ?_; refine zH2 5 (pk [2]) ?_; refine zJ 0 rfl rfl z37 e5_1 rfl rfl rfl rfl rfl rfl ?_
      refine zN2 (pk [2]) ?_; refine zk (ze (zt (?_)))
      refine r_fin (.inl rfl) rfl (.agg rfl e4_1 z58 (fun _ h => h.at_ 1 rfl) rfl (.agg rfl e5_1 z37 (fun _ h => h.at_ 0 rfl) rfl .nil)) ?_; exact fun w' hw => ⟨by clear hw; (rw [outK_er (hG5.trans (needT_0 (by omega)))]; rfl), hw.f0⟩
    refine zi (zk (yA (mI rfl (mB e7_1 (jb bt58 rfl (jD Tryz.func34 (fun w h => rnone_ok w) (ju 1 z58 e4_1 rfl rfl (ju 0 z37 e5_1 rfl rfl (yB (ze (r_fin (.inl rfl) rfl (.agg rfl e4_1 z58 (fun _ h => h.at_ 1 rfl) rfl (.agg rfl e5_1 z37 (fun _ h => h.at_ 0 rfl) rfl .nil)) ?_))))))))))); exact fun w' hw => ⟨by clear hw; (rw [outK_ok (hG5.trans (needT_1 (by omega)))]; (rw [if_neg (by assumption)]; rfl)), hw.f0⟩
  · have htk2 : ks.length = 1 := op5_len ho1; obtain ⟨tb, rfl, hct⟩ := hO.cell (i := 0) (by have := op5_len ho1; omega)
    refine zf fa52_0 e2_1 (jM 2 z5 rfl (yB (zB (yA (je rfl rfl (aB rfl (yB (zG bE (zq (yA (je rfl rfl (aB rfl (yB (zG bE (zr (je rfl rfl (aB rfl (yB (zG bE (yA (je rfl rfl (aB rfl (yB (zG bE (yA (je rfl rfl (aB rfl (yB (zE bD (yA (mS e6_1 (zg (fun _ => R_iaN (i := 0) sl115 rfl rfl (by omega)) ?_)))))))))))))))))))))))))))))))); refine zl (v := .int .u8 (ts.getD 0 0 : Nat)) z5 rfl (fun w h => (by have := hct _ _ w (fun p hp => by simp [hp]) h 0 _ (at_get (by omega)); rw [show 0 + 0 * 1 = 0 from rfl]; exact this)) ?_; refine jm rfl rfl (yB ?_); refine zD rfl (fun h26 => ?_) (fun h26 => ?_)
    · refine zr (mS e6_1 (zg (fun _ => R_iaN (i := 0) sl115 rfl rfl (by omega)) ?_)); refine zl (v := .int .u8 (ts.getD 0 0 : Nat)) z5 rfl (fun w h => (by have := hct _ _ w (fun p hp => by simp [hp]) h 0 _ (at_get (by omega)); rw [show 0 + 0 * 1 = 0 from rfl]; exact this)) ?_; refine aI rfl (zn (zO (zk (zq (yA (mI rfl (je rfl rfl (yB ?_)))))))); refine zD rfl (fun h27 => ?_) (fun h27 => ?_)
      · refine zq ?_; refine c_heldI [2] mixed ?_; refine zh2 0 rfl rfl (pk [2]) (fun w h => R_build bt58 rfl) ?_; refine zh2 1 rfl rfl (pk [2]) (fun w h => R_fa fa52_1 e2_1) ?_; refine zh (v := .int _ _) 2 rfl (by kernel_rfl) rfl rfl (pk [2]) (fun w h => R_ld1 z3 rfl ((fun _ h => zc 0 rfl rfl h) w h)) ?_; refine zh2 3 rfl rfl (pk [2]) (fun w h => R_build bt37 rfl) ?_; refine zH2 4 (pk [2]) ?_; refine zJ 1 rfl rfl z58 e4_1 rfl rfl rfl rfl rfl rfl ?_; refine zH2 5 (pk [2]) ?_; refine zJ 0 rfl rfl z37 e5_1 rfl rfl rfl rfl rfl rfl ?_
        refine zN2 (pk [2]) ?_; refine zk (ze (zt (?_)))
        refine r_fin (.inl rfl) rfl (.agg rfl e4_1 z58 (fun _ h => h.at_ 1 rfl) rfl (.agg rfl e5_1 z37 (fun _ h => h.at_ 0 rfl) rfl .nil)) ?_; exact fun w' hw => ⟨by clear hw; (rw [outK_er (hG4.trans (rule_5'.trans (needT_0 (by (rw [if_pos (by omega)]; omega)))))]; rfl), hw.f0⟩
      refine zi (zk (yA (mI rfl (mB e7_1 (jb bt58 rfl (jD Tryz.func34 (fun w h => rnone_ok w) (ju 1 z58 e4_1 rfl rfl (ju 0 z37 e5_1 rfl rfl (yB (ze (r_fin (.inl rfl) rfl (.agg rfl e4_1 z58 (fun _ h => h.at_ 1 rfl) rfl (.agg rfl e5_1 z37 (fun _ h => h.at_ 0 rfl) rfl .nil)) ?_))))))))))); exact fun w' hw => ⟨by clear hw; (rw [outK_ok (hG4.trans (rule_5'.trans (needT_1 (by (rw [if_pos (by omega)]; omega)))))]; (rw [if_pos (by omega)]; rfl)), hw.f0⟩
    refine zi (zO (zk (zq (yA (mI rfl (je rfl rfl (yB (zE bD (zq ?_))))))))); refine c_heldI [2] mixed ?_; refine zh2 0 rfl rfl (pk [2]) (fun w h => R_build bt58 rfl) ?_; refine zh2 1 rfl rfl (pk [2]) (fun w h => R_fa fa52_1 e2_1) ?_; refine zh (v := .int _ _) 2 rfl (by kernel_rfl) rfl rfl (pk [2]) (fun w h => R_ld1 z3 rfl ((fun _ h => zc 0 rfl rfl h) w h)) ?_; refine zh2 3 rfl rfl (pk [2]) (fun w h => R_build bt37 rfl) ?_
    refine zH2 4 (pk [2]) ?_; refine zJ 1 rfl rfl z58 e4_1 rfl rfl rfl rfl rfl rfl ?_; refine zH2 5 (pk [2]) ?_; refine zJ 0 rfl rfl z37 e5_1 rfl rfl rfl rfl rfl rfl ?_; refine zN2 (pk [2]) ?_; refine zk (ze (zt (?_)))
    refine r_fin (.inl rfl) rfl (.agg rfl e4_1 z58 (fun _ h => h.at_ 1 rfl) rfl (.agg rfl e5_1 z37 (fun _ h => h.at_ 0 rfl) rfl .nil)) ?_; exact fun w' hw => ⟨by clear hw; (rw [outK_er (hG4.trans (rule_5'.trans (needT_0 (by (rw [if_neg (by omega)])))))]; rfl), hw.f0⟩
  have htk2 : ks.length = 2 := op6_len hop ho1; obtain ⟨tb, rfl, hct⟩ := hO.cell (i := 0) (by omega)
  refine zf fa52_0 e2_1 (jM 2 z5 rfl (yB (zB (yA (je rfl rfl (aB rfl (yB ?_))))))); refine zD rfl (fun h28 => ?_) (fun h28 => ?_)
  · exfalso; omega
  refine zq (yA (je rfl rfl (aB rfl (yB ?_)))); refine zD rfl (fun h29 => ?_) (fun h29 => ?_)
  · exfalso; omega
  refine zr (je rfl rfl (aB rfl (yB ?_))); refine zD rfl (fun h30 => ?_) (fun h30 => ?_)
  · exfalso; omega
  refine yA (je rfl rfl (aB rfl (yB ?_))); refine zD rfl (fun h31 => ?_) (fun h31 => ?_)
  · exfalso; omega
  refine yA (je rfl rfl (aB rfl (yB ?_))); refine zD rfl (fun h32 => ?_) (fun h32 => ?_)
  · exfalso; omega
  refine c_heldS mixed ?_; refine zh2 0 rfl rfl (fun w h => h) (fun w h => R_fa fa52_0 e2_1) ?_; refine zh (v := .int _ _) 1 rfl (by kernel_rfl) rfl rfl (fun w h => h) (fun w h => R_ld1 z5 rfl ((fun _ h => zc 2 rfl rfl h) w h)) ?_; refine zh (v := .slice _ _ _) 2 rfl (by kernel_rfl) rfl rfl (fun w h => h) (fun w h => R_move e6_1) ?_; refine zh2 3 rfl rfl (fun w h => h) (fun w h => R_iaN (i := 0) sl115 rfl rfl (by omega)) ?_; refine zh (v := .int .u8 (ts.getD 0 0 : Nat)) 4 rfl (by kernel_rfl) rfl rfl (fun w h => h) (fun w h => R_ld1 z5 rfl (by have := hct _ _ w (fun p hp => by simp [hp]) h 0 _ (at_get (by omega)); rw [show 0 + 0 * 1 = 0 from rfl]; exact this)) ?_; refine zh (v := .slice _ _ _) 5 rfl (by kernel_rfl) rfl rfl (fun w h => h) (fun w h => R_move e6_1) ?_
  refine zh2 6 rfl rfl (fun w h => h) (fun w h => R_iaN (i := 1) sl115 rfl rfl (by omega)) ?_; refine zh (v := .int .u8 (ts.getD 1 0 : Nat)) 7 rfl (by kernel_rfl) rfl rfl (fun w h => h) (fun w h => R_ld1 z5 rfl (by have := hct _ _ w (fun p hp => by simp [hp]) h 1 _ (at_get (by omega)); rw [show 0 + 1 * 1 = 1 from rfl]; exact this)) ?_; refine zH2 8 (fun w h => h) ?_; refine o_pureW rfl (wn_none rfl) rfl (fun w => zR Tryz.func74 rfl rfl rfl) (fun w h => rtwo_ok op (ts.getD 0 0) (ts.getD 1 0) hop w) ?_; refine zh (v := .int _ _) 9 rfl (by kernel_rfl) rfl rfl (fun w h => h) (fun w h => R_assign rfl) ?_; refine zN2 (fun w h => h) ?_; refine zO (zk (zq (yA (mI rfl (je rfl rfl (zn ?_))))))
  refine zk ?_; refine zD rfl (fun h33 => ?_) (fun h33 => ?_)
  · refine zq ?_; refine c_heldI [2] mixed ?_; refine zh2 0 rfl rfl (pk [2]) (fun w h => R_build bt58 rfl) ?_; refine zh2 1 rfl rfl (pk [2]) (fun w h => R_fa fa52_1 e2_1) ?_; refine zh (v := .int _ _) 2 rfl (by kernel_rfl) rfl rfl (pk [2]) (fun w h => R_ld1 z3 rfl ((fun _ h => zc 0 rfl rfl h) w h)) ?_; refine zh2 3 rfl rfl (pk [2]) (fun w h => R_build bt37 rfl) ?_; refine zH2 4 (pk [2]) ?_; refine zJ 1 rfl rfl z58 e4_1 rfl rfl rfl rfl rfl rfl ?_; refine zH2 5 (pk [2]) ?_; refine zJ 0 rfl rfl z37 e5_1 rfl rfl rfl rfl rfl rfl ?_
    refine zN2 (pk [2]) ?_; refine zk (ze (zt (?_)))
    refine r_fin (.inl rfl) rfl (.agg rfl e4_1 z58 (fun _ h => h.at_ 1 rfl) rfl (.agg rfl e5_1 z37 (fun _ h => h.at_ 0 rfl) rfl .nil)) ?_; exact fun w' hw => ⟨by clear hw; (rw [outK_er (hG4.trans ((rule_6' hop).trans (needT_0 (by omega))))]; rfl), hw.f0⟩
  refine zi (zk (yA (mI rfl (mB e7_1 (jb bt58 rfl (jD Tryz.func34 (fun w h => rnone_ok w) (ju 1 z58 e4_1 rfl rfl (ju 0 z37 e5_1 rfl rfl (yB (ze (r_fin (.inl rfl) rfl (.agg rfl e4_1 z58 (fun _ h => h.at_ 1 rfl) rfl (.agg rfl e5_1 z37 (fun _ h => h.at_ 0 rfl) rfl .nil)) ?_))))))))))); exact fun w' hw => ⟨by clear hw; (rw [outK_ok (hG4.trans ((rule_6' hop).trans (needT_1 (by omega))))]; rfl), hw.f0⟩
theorem rof_all : ∀ n : Nat, n ≤ 10000000 → ROfH n
  | 0, _ => fun _ _ _ _ _ _ h => absurd h (Nat.not_lt_zero _)
  | n + 1, h => rof_step n (rof_all n (by omega)) (by omega)
theorem rof_ok : ROfH 10000000 := rof_all _ (Nat.le_refl _)
end Go.Proofs.YtoehjlmdnajibaaGreatDoor
end
section
namespace Go.Knd
open Go.Tok Go.Tree
def szS : Str := [115, 105, 122, 101]
def parS (l : List Vr) (nm : Str) : Bool := l.any fun v => decide (v.nm = nm) && v.par
mutual
def hangsK (l : List Vr) : Ex → Bool
  | .mk op _ nm ks => ((decide (op = 2) || decide (op = 3)) && parS l nm) || (!(decide (op = 4) && decide (nm = szS)) && hangsS l ks)
def hangsS (l : List Vr) : List Ex → Bool
  | [] => false
  | e :: r => hangsK l e || hangsS l r
end
mutual
def placesK (l : List Vr) : Ex → Bool
  | .mk op _ _ ks => !(decide (op = 3) && hangsS l ks) && placesS l ks
def placesS (l : List Vr) : List Ex → Bool
  | [] => true
  | e :: r => placesK l e && placesS l r
end
def uniq (l : List Vr) : Prop := ∀ v ∈ l, ∀ u ∈ l, v.nm = u.nm → v = u
theorem need_ok {t : Nat} {a : Int} {p : Bool} {k : Nat × Bool} (h : needT t a p = .ok k) : k.2 = p := by
  unfold needT at h
  split at h
  · cases h
  cases h; rfl
end Go.Knd
end
section
namespace Go.Tree
def tb (ts : List Str) : Nat := (ts.map fun s => s.length + 1).sum
def pgW (p : List Bk) : Nat := (p.map bkW).sum
def sp (s : Str) : Str := s ++ (if brk s then [10] else [32])
def setIs (p : List Bk) (i : Nat) (b : Bk) : List Bk := p.set i { b with is := true }
end Go.Tree
end
section
namespace Go.Tree
open Go.Tok
mutual
def exZ : Ex → Ex
  | .mk o _ n k => .mk o 0 n (exsZ k)
def exsZ : List Ex → List Ex
  | [] => []
  | e :: l => exZ e :: exsZ l
end
abbrev PR := Option (Ex × List Str)
mutual
def pSum : Nat → List Str → PR
  | 0, _ => none
  | f + 1, ts => match pProd f ts with | some (e, r) => sumL f e r | none => none
def sumL : Nat → Ex → List Str → PR
  | 0, _, _ => none
  | f + 1, e, ts =>
    if ts.head? = some [43] then (match pProd f ts.tail with | some (k, r) => sumL f (.mk 6 0 [] [e, k]) r | none => none)
    else if ts.head? = some [45] then (match pProd f ts.tail with | some (k, r) => sumL f (.mk 7 0 [] [e, k]) r | none => none)
    else some (e, ts)
def pProd : Nat → List Str → PR
  | 0, _ => none
  | f + 1, ts => match pSign f ts with | some (e, r) => prodL f e r | none => none
def prodL : Nat → Ex → List Str → PR
  | 0, _, _ => none
  | f + 1, e, ts =>
    if ts.head? = some [42] then (match pSign f ts.tail with | some (k, r) => prodL f (.mk 8 0 [] [e, k]) r | none => none)
    else if ts.head? = some [47] then (match pSign f ts.tail with | some (k, r) => prodL f (.mk 9 0 [] [e, k]) r | none => none)
    else some (e, ts)
def pSign : Nat → List Str → PR
  | 0, _ => none
  | f + 1, ts => match ts with
    | [] => none
    | t :: r =>
      if t = [45] then (match pSign f r with | some (k, r) => some (.mk 5 0 [] [k], r) | none => none)
      else if t = [40] then (match pSum f r with | some (e, r) => if r.head? = some [41] then some (e, r.tail) else none | none => none)
      else if oneB 2 t then some (.mk 1 0 t [], r)
      else if r.head? = some [91] then (match pSum f r.tail with | some (e, r) => if r.head? = some [93] then some (.mk 3 0 t [e], r.tail) else none | none => none)
      else if r.head? = some [40] then (if r.tail.head? = some [41] then some (.mk 4 0 t [], r.tail.tail) else match pSum f r.tail with | some (e, r) => argL f t [e] r | none => none)
      else some (.mk 2 0 t [], r)
def argL : Nat → Str → List Ex → List Str → PR
  | 0, _, _, _ => none
  | f + 1, t, l, ts =>
    if ts.head? = some [44] then (match pSum f ts.tail with | some (e, r) => argL f t (l ++ [e]) r | none => none)
    else if ts.head? = some [41] then some (.mk 4 0 t l, ts.tail)
    else none
end
def nb (r : List Str) : Prop := r.head? ≠ some [91] ∧ r.head? ≠ some [40]
def nm8 (r : List Str) : Prop := nb r ∧ r.head? ≠ some [42] ∧ r.head? ≠ some [47]
def nm6 (r : List Str) : Prop := nm8 r ∧ r.head? ≠ some [43] ∧ r.head? ≠ some [45]
def K (e : Ex) : Nat := 8 * exW e
def SgP (e : Ex) : Prop := ∀ f r, K e ≤ f + 4 → nb r → pSign f (exT e ++ r) = some (exZ e, r)
def PdP (e : Ex) : Prop := ∀ f r, K e ≤ f + 2 → nb r → ∃ g, f + 4 ≤ g + K e ∧ pProd f (exT e ++ r) = prodL g (exZ e) r
def SuP (e : Ex) : Prop := ∀ f r, K e ≤ f → nm8 r → ∃ g, f + 2 ≤ g + K e ∧ pSum f (exT e ++ r) = sumL g (exZ e) r
end Go.Tree
end
section
namespace Go.Tok
inductive Chain (s : List UInt8) : Nat → List Tk → Prop
  | nil (i : Nat) : Chain s i []
  | cons {i e kd : Nat} {ts : List Tk} : i ≤ s.length → skipTo s i < s.length → tokAt s (skipTo s i) = (kd, e, true) → Chain s e ts → Chain s i ((kd, tokTx s (skipTo s i), skipTo s i) :: ts)
def Bl (R : List UInt8) : Prop := R = [] ∨ ∃ r, R = 32 :: r
end Go.Tok
end
section
namespace Go.Tok
def Jn (ts : List Tk) : List UInt8 := ts.flatMap fun t => 32 :: t.2.1
def kt (t : Tk) : Nat × List UInt8 := (t.1, t.2.1)
def Good (t : Tk) : Prop := ∃ s k e, k ≤ s.length ∧ tokAt s k = (t.1, e, true) ∧ t.2.1 = (s.drop k).take (e - k)
end Go.Tok
end
section
namespace Go.Tok.W
open Go.Tok
def Bl (R : List UInt8) : Prop := R = [] ∨ ∃ c r, (c = 32 ∨ c = 10) ∧ R = c :: r
def Sp (xs : List (Tk × UInt8)) : List UInt8 := xs.flatMap fun t => t.1.2.1 ++ [t.2]
def isSp (c : UInt8) : Prop := c = 32 ∨ c = 10
end Go.Tok.W
end
section
namespace Go.Tree
open Go.Tok Go.Tok.W
def Tk1 (s : Str) : Prop := ∃ kd, Go.Tok.Good (kd, s, 0)
def Tks (l : List Str) : Prop := ∀ s ∈ l, Tk1 s
end Go.Tree
end
section
namespace Go.Tree
open Go.Tok Go.Tok.W
def exHd (h : Str) : Bool := decide (h = [45]) || (decide (h = [40]) || (oneB 2 h || nameOk h))
def hdK (h : Str) : Nat :=
  if h = [116, 97, 114, 103, 101, 116] then 2 else if h = [102, 111, 114] then 4 else if h = [105, 102] then 5 else if h = [123] then 6
  else if h = [125] then 7 else if h = [101, 108, 115, 101] then 8 else if h = [97, 114, 114, 97, 121] then 9 else if h = [105, 110, 116] then 10
  else if h = [114, 101, 97, 108] then 11 else if h = [118, 101, 99, 116, 111, 114] then 12 else if h = [60] then 13 else if h = [91] then 14 else 0
def hk : List Str → Nat
  | [] => 99
  | h :: _ => hdK h
def kS (op : Nat) : Nat := if op = 1 ∨ op = 3 then 0 else op
def elT (e : List Sm) : List Str := if 0 < e.length then [101, 108, 115, 101] :: [123] :: ((smsT e).flatten ++ [[125]]) else []
end Go.Tree
end
section
namespace Go.Tree
open Go.Tok Go.Tok.W
def bT (lo up : List Ex) : List Str := if lo.length + up.length = 0 then [] else [[60]] ++ ldT lowW lo ++ (if lo.length + up.length = 2 then [[44]] else []) ++ ldT upW up ++ [[62]]
def iT (i : List Ex) (r : List Str) : List Str := ldT [[61]] i ++ [59] :: r
def scT (d : Dc) (r : List Str) : List Str := bT d.lower d.upper ++ d.nm :: iT d.init r
end Go.Tree
end
section
namespace Go.Tree
open Go.Tok Go.Tok.W
def nhd (i : Nat) (r : List Str) : Prop := r.take 2 ≠ (headW i ++ [[123]]).take 2
theorem six {p : List Bk} (h : p.length = 6) : ∃ a b c d e f, p = [a, b, c, d, e, f] := by
  match p, h with
  | [a, b, c, d, e, f], _ => exact ⟨a, b, c, d, e, f, rfl⟩
def moveS (at_ : Int) : Sm → Sm
  | .mk o _ n k b e => .mk o at_ n k b e
def moveB (at_ : Int) (b : Bk) : Bk := { b with stmts := b.stmts.map (moveS at_) }
end Go.Tree
end
section
namespace Go.Knd
open Go.Tok Go.Tree
theorem andK_is {α β : Type} {x : Except Ft α} {f : α → Except Ft β} {b : β} (h : andK x f = .ok b) : ∃ a, x = .ok a ∧ f a = .ok b := by
  cases x with
  | error e => cases h
  | ok a => exact ⟨a, rfl, h⟩
theorem eachK_is {α : Type} {f : α → Except Ft Unit} : ∀ {l : List α} {u : Unit}, eachK f l = .ok u → ∀ x ∈ l, f x = .ok ()
  | [], _, _, x, hx => by cases hx
  | y :: l, u, h, x, hx => by
    rw [eachK] at h
    obtain ⟨⟨⟩, h1, h2⟩ := andK_is h
    rcases List.mem_cons.1 hx with rfl | hx
    · exact h1
    · exact eachK_is h2 x hx
def countB (op n k : Nat) : Bool := decide (op = 4) || decide (op = 5) || (decide (op = 1) && decide (k = 0) && decide (n = 2))
def kidsC (s : List Vr) (op n : Nat) : Nat → List Ex → Bool
  | _, [] => true
  | k, x :: r => !(countB op n k && hangsK s x) && placesK s x && kidsC s op n (k + 1) r
mutual
def chosenS (s : List Vr) : Sm → Bool
  | .mk op _ _ ks b e => kidsC s op ks.length 0 ks && (chosenK s b && chosenK s e)
def chosenK (s : List Vr) : List Sm → Bool
  | [] => true
  | x :: r => chosenS s x && chosenK s r
end
section
variable {l s : List Vr}
theorem isSome_no {α : Type} {x : Option α} (h : ¬ x.isSome = true) : x = none := by
  cases x with
  | none => rfl
  | some a => exact absurd rfl h
end
end Go.Knd
end
section
namespace Go.Knd
open Go.Tok Go.Tree
theorem declK_is {l l2 : List Vr} {d : Dc} {i : Nat} (h : declK l d i = .ok l2) : l2 = l ++ [⟨d.nm, d.ty, i, decide (2 ≤ i)⟩] ∧ findV l d.nm = none ∧ (∀ x ∈ d.size, countK l x = .ok ()) ∧ (∀ x ∈ d.lower ++ d.upper, boundK l d.ty i x = .ok ()) := by
  unfold declK at h
  split at h
  · cases h
  rename_i hf
  obtain ⟨_, _, h2⟩ := andK_is h
  obtain ⟨_, h3, h4⟩ := andK_is h2
  obtain ⟨_, h5, h6⟩ := andK_is h4
  obtain ⟨_, _, h7⟩ := andK_is h6
  cases h7
  exact ⟨rfl, isSome_no hf, eachK_is h3, eachK_is h5⟩
def noB : Bk := ⟨false, [], []⟩
def cutB (d s : Nat) (b : Bk) : Bk := ⟨b.is, b.decls.take d, b.stmts.take s⟩
def cutP (n d s : Nat) : List Bk → List Bk
  | [] => []
  | b :: r => match n with
    | 0 => cutB d s b :: List.replicate r.length noB
    | n + 1 => b :: cutP n d s r
end Go.Knd
end
section
namespace Go.Knd
open Go.Tok Go.Tree
def Bad {α : Type} (X : Except Ft α) : Prop := ∀ f, X = .error f → f.1 ≠ 0
theorem bad_ok {α : Type} (a : α) : Bad (.ok a : Except Ft α) := fun f h => by cases h
theorem bad_er {α : Type} {c : Nat} {a : Int} (h : c ≠ 0) : Bad (.error (c, a) : Except Ft α) := fun f hf => by cases hf; exact h
theorem bad_and {α β : Type} {X : Except Ft α} {F : α → Except Ft β} (h : Bad X) (hF : ∀ a, Bad (F a)) : Bad (andK X F) := by
  cases X with
  | error e => intro f hf; rw [andK_no] at hf; cases hf; exact h e rfl
  | ok a => rw [andK_ok]; exact hF a
theorem bad_need (b : Bool) (a : Int) : Bad (needK b a) := by unfold needK; split; exact bad_ok _; exact bad_er (by decide)
theorem bad_each {α : Type} {f : α → Except Ft Unit} (h : ∀ x, Bad (f x)) : ∀ l : List α, Bad (eachK f l)
  | [] => by rw [eachK]; exact bad_ok _
  | x :: r => by rw [eachK]; exact bad_and (h x) fun _ => bad_each h r
theorem bad_of (l : List Vr) (e : Ex) : Bad (ofK l e) := fun f h => by have := of_code e f h; omega
theorem bad_par (p : Bool) (a : Int) : Bad (if p = true then (.error (153, a) : Except Ft Unit) else .ok ()) := by split; exact bad_er (by decide); exact bad_ok _
theorem bad_counted (e : Ex) (k : Nat × Bool) : Bad (countedK e k) := bad_and (bad_need _ _) fun _ => bad_par _ _
theorem bad_count (l : List Vr) (e : Ex) : Bad (countK l e) := bad_and (bad_of l e) fun _ => bad_counted _ _
mutual
theorem bad_smooth : ∀ e : Ex, Bad (smoothK e)
  | .mk op a nm ks => by rw [smoothK]; exact bad_and (bad_smooths ks) fun _ => bad_need _ _
theorem bad_smooths : ∀ l : List Ex, Bad (smoothsK l)
  | [] => by rw [smoothsK]; exact bad_ok _
  | x :: r => by rw [smoothsK]; exact bad_and (bad_smooth x) fun _ => bad_smooths r
end
theorem bad_bound (l : List Vr) (ty i : Nat) (e : Ex) : Bad (boundK l ty i e) :=
  bad_and (bad_need _ _) fun _ => bad_and (bad_of l e) fun _ => bad_and (bad_need _ _) fun _ => bad_and (by split; exact bad_smooth e; exact bad_ok _) fun _ => bad_par _ _
theorem bad_decl (l : List Vr) (d : Dc) (i : Nat) : Bad (declK l d i) := by
  unfold declK
  split
  · exact bad_er (by decide)
  exact bad_and (bad_need _ _) fun _ => bad_and (bad_each (bad_count l) _) fun _ => bad_and (bad_each (bad_bound l _ _) _) fun _ => bad_and (bad_each (fun e => bad_and (bad_of l e) fun _ => bad_need _ _) _) fun _ => bad_ok _
theorem bad_set (l : List Vr) (a : Int) (nm : Str) (ks : List Ex) (i : Nat) : Bad (setK l a nm ks i) := by
  unfold setK
  split
  · exact bad_er (by decide)
  refine bad_and (bad_need _ _) fun _ => ?_
  split
  · exact bad_and (bad_of l _) fun _ => bad_need _ _
  · exact bad_and (bad_need _ _) fun _ => bad_and (bad_count l _) fun _ => bad_and (bad_of l _) fun _ => bad_need _ _
  exact bad_ok _
theorem bad_args (l : List Vr) (t m : Nat) : ∀ (ks : List Ex) (i : Nat), Bad (argsK l t m i ks)
  | [], i => by rw [argsK]; exact bad_ok _
  | x :: r, i => by
    rw [argsK]
    exact bad_and (bad_of l x) fun _ => bad_and (bad_need _ _) fun _ => bad_and (by split; exact bad_er (by decide); exact bad_ok _) fun _ => bad_args l t m r (i + 1)
theorem bad_dist (l : List Vr) (a : Int) (nm : Str) (ks : List Ex) (i : Nat) : Bad (distS l a nm ks i) := by
  unfold distS
  refine bad_and (bad_need _ _) fun _ => ?_
  split
  · exact bad_er (by decide)
  refine bad_and (bad_need _ _) fun _ => ?_
  split
  · exact bad_ok _
  exact bad_and (bad_of l _) fun _ => bad_and (bad_need _ _) fun _ => bad_args l _ _ _ _
theorem bad_head (l : List Vr) (op : Nat) (a : Int) (nm : Str) (ks : List Ex) (i : Nat) : Bad (headK l op a nm ks i) := by
  unfold headK
  split
  · exact bad_and (bad_set _ _ _ _ _) fun _ => bad_ok _
  split
  · refine bad_and (bad_need _ _) fun _ => ?_
    split
    · exact bad_ok _
    exact bad_and (bad_of l _) fun _ => bad_and (bad_need _ _) fun _ => bad_ok _
  split
  · exact bad_and (bad_dist _ _ _ _ _) fun _ => bad_ok _
  split
  · split
    · exact bad_er (by decide)
    exact bad_and (bad_each (bad_count l) _) fun _ => bad_ok _
  split
  · split
    · exact bad_ok _
    exact bad_and (bad_each (bad_count l) _) fun _ => bad_ok _
  exact bad_ok _
mutual
theorem bad_stmt (i : Nat) : ∀ (l : List Vr) (s : Sm), Bad (stmtK i l s)
  | l, .mk op a nm ks b e => by rw [stmtK]; exact bad_and (bad_head _ _ _ _ _ _) fun l2 => bad_and (bad_stmts i l2 b) fun _ => bad_stmts i l2 e
theorem bad_stmts (i : Nat) : ∀ (l : List Vr) (s : List Sm), Bad (stmtsK i l s)
  | l, [] => by rw [stmtsK]; exact bad_ok _
  | l, s :: r => by rw [stmtsK]; exact bad_and (bad_stmt i l s) fun _ => bad_stmts i l r
end
theorem declsK_len {i : Nat} : ∀ (ds : List Dc) (l l2 : List Vr), declsK i l ds = .ok l2 → l2.length = l.length + ds.length
  | [], l, l2, h => by rw [declsK] at h; cases h; rfl
  | d :: r, l, l2, h => by
    rw [declsK] at h
    obtain ⟨l3, h1, h2⟩ := andK_is h
    have h3 := (declK_is h1).1
    have h4 := declsK_len r l3 l2 h2
    rw [h4, h3]; simp only [List.length_append, List.length_cons, List.length_nil]; omega
theorem blocksK_len {m : Nat} : ∀ (bs : List Bk) (i : Nat) (l l2 : List Vr), (∀ b ∈ bs, b.decls.length ≤ m) → blocksK i l bs = .ok l2 → l2.length ≤ l.length + bs.length * m
  | [], i, l, l2, _, h => by rw [blocksK] at h; cases h; exact Nat.le_add_right _ _
  | b :: r, i, l, l2, hb, h => by
    rw [blocksK] at h
    obtain ⟨l3, h1, h2⟩ := andK_is h
    obtain ⟨_, _, h3⟩ := andK_is h2
    have h4 := declsK_len b.decls l l3 h1
    have h5 := blocksK_len r (i + 1) l3 l2 (fun c hc => hb c (.tail _ hc)) h3
    have h6 := hb b (.head _)
    rw [List.length_cons, Nat.add_mul, Nat.one_mul]; omega
theorem allK_len {p : List Bk} {m : Nat} {l : List Vr} (lp : p.length = 6) (hb : ∀ b ∈ p, b.decls.length ≤ m) (h : allK p = .ok l) : l.length ≤ 6 * m := by
  unfold allK at h
  split at h
  · have h1 := blocksK_len p 0 [] l hb h
    rw [lp, List.length_nil, Nat.zero_add] at h1; exact h1
  cases h
end Go.Knd
end
