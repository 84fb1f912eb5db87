/- Layer 15, KindChecks: Check and Vars of kind tell the fault, and the variables, of the document, for programs of at most 600 nodes and names of at most 200 bytes; in the Upto form. Part 12 of 17. -/
import Derived.Test.YtoehjlmdnajibaaGreatDoorG11
set_option maxRecDepth 100000
set_option maxHeartbeats 16000000
section
namespace Go.Proofs.YtoehjlmdnajibaaGreatDoor
open Go.RowKit Go.Sx
open Go.Tok Go.Tree
theorem td_0 {ty : Nat} {nm : Str} {sz ini : List Ex} : (decide ((ty : Int) < 1) || decide (5 < (ty : Int)) || !nameOk nm || !(decide ((sz.length : Int) = 1) == decide (3 ≤ (ty : Int))) || decide (3 < (ty : Int)) && decide (0 < (ini.length : Int))) = !(decide (1 ≤ ty) && decide (ty ≤ 5) && nameOk nm && (decide (sz.length = 1) == decide (3 ≤ ty)) && !(decide (3 < ty) && decide (0 < ini.length))) := by
 rw [show decide ((ty : Int) < 1) = !decide (1 ≤ ty) by rw [Bool.eq_iff_iff]; simp only [decide_eq_true_eq, Bool.not_eq_true', decide_eq_false_iff_not]; omega, show decide (5 < (ty : Int)) = !decide (ty ≤ 5) by rw [Bool.eq_iff_iff]; simp only [decide_eq_true_eq, Bool.not_eq_true', decide_eq_false_iff_not]; omega,
  show decide ((sz.length : Int) = 1) = decide (sz.length = 1) from decide_eq_decide.2 (by omega), show decide (3 ≤ (ty : Int)) = decide (3 ≤ ty) from decide_eq_decide.2 (by omega), show decide (3 < (ty : Int)) = decide (3 < ty) from decide_eq_decide.2 (by omega), show decide (0 < (ini.length : Int)) = decide (0 < ini.length) from decide_eq_decide.2 (by omega)]
 simp only [Bool.not_and, Bool.not_or, Bool.not_not]
theorem td_p {l : List Ex} : (decide (1 < (l.length : Int)) || !exsOk l) = !partOk l := by
 unfold partOk
 rw [show decide (1 < (l.length : Int)) = !decide (l.length ≤ 1) by rw [Bool.eq_iff_iff]; simp only [decide_eq_true_eq, Bool.not_eq_true', decide_eq_false_iff_not]; omega, Bool.not_and]
theorem decl_spec (x : Dc) (cs : List Value) (N : Nat → Prop) (w : World) (hx : dcW x < 10000000) (hm : dcM w N x cs) (hW : Wd w) :
  Ret Tryz.prog 79 #[.agg cs.toArray] w (fun v w' => v = .bool (dcOk x) ∧ Ext w w') := by
 obtain ⟨ty, at_, nm, sz, lo, up, ini⟩ := x
 have hm2 := hm
 unfold dcM at hm2
 obtain ⟨sa, sc, la, lc, ua, uc, ia, ic, hcs, hsz, hlo, hup, hini⟩ := hm2
 simp only [] at hcs
 subst hcs
 have hx2 := hx
 simp only [dcW] at hx2
 simp only [] at hsz hlo hup hini
 refine enter (S := No) (l := [_]) (L := []) 63 Tryz.func79 rfl rfl rfl (St.start w No) (yA (w_boxA rfl (fun t1b gt1b ut1b => aB rfl (yC (zf fa49_0 rfl (jM 0 z5 rfl (jh rfl rfl (aB rfl (yB (zq (yA (zf fa49_0 rfl (jM 0 z5 rfl (jl rfl rfl (mB rfl (gFx rfl (fun hc w h => R_fa fa49_0 rfl) rfl (gFx rfl (fun hc w h => R_ld1 z5 (gvl_t hc) (zc 0 rfl rfl h)) rfl (gFx rfl (fun hc w h => R_gt (gvl_t hc) rfl) rfl (zg (v := .bool _) (fun _ => R_pickO rfl rfl rfl) (mB rfl (gFx rfl (fun hc w h => R_fa fa49_2 rfl) rfl (gFx rfl (fun hc w h => R_ld1 z9 (gvl_t hc) (zc 0 rfl rfl h)) rfl (w_cF rfl rfl rfl (fun hc w => runE_as (zR Tryz.func94 rfl rfl rfl) (arr1 (gvl_t hc))) rfl (fun hc w h => Name_spec _ (by omega) w (hW.now zm0 h)) (gFx rfl (fun hc w h => R_not (gvl_t hc)) rfl (zg (v := .bool _) (fun _ => R_pickO rfl rfl rfl) (mB rfl (gFx rfl (fun hc w h => R_fa fa49_3 rfl) rfl (gFx rfl (fun hc w h => R_ld1 z47 (gvl_t hc) (zc 0 rfl rfl h)) rfl (gFx rfl (fun hc w h => R_len sl47 (gvl_t hc)) rfl (gFx rfl (fun hc w h => R_eq (gvl_t hc) rfl) rfl (gFx (v := .bool _) rfl (fun hc w h => R_move rfl) rfl (gFx rfl (fun hc w h => R_bne unb4 (gvl_t hc) (gvl_t hc)) rfl (zg (v := .bool _) (fun _ => R_pickO rfl rfl rfl) (mB rfl (gFx rfl (fun hc w h => R_fa fa49_0 rfl) rfl (gFx rfl (fun hc w h => R_ld1 z5 (gvl_t hc) (zc 0 rfl rfl h)) rfl (gFx rfl (fun hc w h => R_gt (gvl_t hc) rfl) rfl (gFx (v := .bool _) rfl (fun hc w h => R_move (gvl_t hc)) rfl (hTx rfl (fun hc w h => R_fa fa49_6 rfl) rfl (hTx rfl (fun hc w h => R_ld1 z47 (gvl_t hc) (zc 0 rfl rfl h)) rfl (hTx rfl (fun hc w h => R_len sl47 (gvl_t hc)) rfl (hTx rfl (fun hc w h => R_gt (gvl_t hc) rfl) rfl (gFx (v := .bool _) rfl (fun hc w h => R_pickA (gvl_t hc) (gvl_and hc) rfl) rfl (zg (v := .bool _) (fun _ => R_pickO rfl rfl rfl) (yB ?_))))))))))))))))))))))))))))))))))))))))))))); refine c_cond rfl (fun h2 => ?_) (fun h2 => ?_)
 ·(try (have qh2 := h2; norm_cast at qh2))
  refine yA (aB rfl (yB (ze (zt ((zo (v := .bool _) rfl rfl rfl ?_)))))); exact fun w' hw => ⟨congrArg Value.bool (by (try clear hw hm hW hsz hlo hup hini gt1b ut1b); simp only [td_0, td_p, Bool.not_eq_true', Bool.not_eq_false'] at *; unfold dcOk; simp only [*, Bool.and_true, Bool.true_and, Bool.and_false, Bool.false_and]), hw.f0⟩
 ·(try (have qh2 := h2; norm_cast at qh2))
  refine zi (zk (zq (yA (zf fa49_3 rfl (jM 0 z47 rfl (zf fa49_4 rfl (jM 0 z47 rfl (zf fa49_5 rfl (jM 0 z47 rfl (zf fa49_6 rfl (jM 0 z47 rfl (zg (fun _ => R_buildA ar149 zr149 rfl) (mI rfl (yB (zB (c_rounds 5 (yA (jl rfl rfl (yB (zq (zE bD (zi (zk (zq (zB (yA (zg (fun _ => R_aidx (i := 0) ar149 rfl rfl rfl rfl) (za (v := .slice _ _ _) rfl (yC (mS rfl (jj sl47 rfl (jg rfl rfl (mB rfl (w_gF (v := .slice _ _ _) rfl rfl rfl (fun hc w h => R_move rfl) rfl (w_cF rfl rfl rfl (fun hc w => runE_as (zR Tryz.func98 rfl rfl rfl) (arr1 (gvl_t hc))) rfl (fun hc w h => exprs_ok sz sa sc N w (by omega) (by omega) (hsz.now (fun _ _ hh => hh) zm0 h) (hW.now zm0 h)) (gFx rfl (fun hc w h => R_not (gvl_t hc)) rfl (zg (v := .bool _) (fun _ => R_pickO rfl rfl rfl) (yB ?_)))))))))))))))))))))))))))))))))))))); refine c_cond rfl (fun h3 => ?_) (fun h3 => ?_)
  ·(try (have qh3 := h3; norm_cast at qh3))
   refine yA (aB rfl (yB (ze (zb (zt (zt (zb (zt ((zo (v := .bool _) rfl rfl rfl ?_)))))))))); exact fun w' hw => ⟨congrArg Value.bool (by (try clear hw hm hW hsz hlo hup hini gt1b ut1b); simp only [td_0, td_p, Bool.not_eq_true', Bool.not_eq_false'] at *; unfold dcOk; simp only [*, Bool.and_true, Bool.true_and, Bool.and_false, Bool.false_and]), hw.f0⟩
  ·(try (have qh3 := h3; norm_cast at qh3))
   refine zi (zO (zk (zr (ji rfl rfl (by omega) (mI rfl (zn (k_rounds (yA (jl rfl rfl (yB (zq (zE bD (zi (zk (zq (zB (yA (zg (fun _ => R_aidx (i := 1) ar149 rfl rfl rfl rfl) (za (v := .slice _ _ _) rfl (yC (mS rfl (jj sl47 rfl (jg rfl rfl (mB rfl (w_gF (v := .slice _ _ _) rfl rfl rfl (fun hc w h => R_move rfl) rfl (w_cF rfl rfl rfl (fun hc w => runE_as (zR Tryz.func98 rfl rfl rfl) (arr1 (gvl_t hc))) rfl (fun hc w h => exprs_ok lo la lc N w (by omega) (by omega) (hlo.now (fun _ _ hh => hh) zm0 h) (hW.now zm0 h)) (gFx rfl (fun hc w h => R_not (gvl_t hc)) rfl (zg (v := .bool _) (fun _ => R_pickO rfl rfl rfl) (yB ?_))))))))))))))))))))))))))))); refine c_cond rfl (fun h4 => ?_) (fun h4 => ?_)
   ·(try (have qh4 := h4; norm_cast at qh4))
    refine yA (aB rfl (yB (ze (zb (zt (zt (zb (zt ((zo (v := .bool _) rfl rfl rfl ?_)))))))))); exact fun w' hw => ⟨congrArg Value.bool (by (try clear hw hm hW hsz hlo hup hini gt1b ut1b); simp only [td_0, td_p, Bool.not_eq_true', Bool.not_eq_false'] at *; unfold dcOk; simp only [*, Bool.and_true, Bool.true_and, Bool.and_false, Bool.false_and]), hw.f0⟩
   ·(try (have qh4 := h4; norm_cast at qh4))
    refine zi (zO (zk (zr (ji rfl rfl (by omega) (mI rfl (zn (k_rounds (yA (jl rfl rfl (yB (zq (zE bD (zi (zk (zq (zB (yA (zg (fun _ => R_aidx (i := 2) ar149 rfl rfl rfl rfl) (za (v := .slice _ _ _) rfl (yC (mS rfl (jj sl47 rfl (jg rfl rfl (mB rfl (w_gF (v := .slice _ _ _) rfl rfl rfl (fun hc w h => R_move rfl) rfl (w_cF rfl rfl rfl (fun hc w => runE_as (zR Tryz.func98 rfl rfl rfl) (arr1 (gvl_t hc))) rfl (fun hc w h => exprs_ok up ua uc N w (by omega) (by omega) (hup.now (fun _ _ hh => hh) zm0 h) (hW.now zm0 h)) (gFx rfl (fun hc w h => R_not (gvl_t hc)) rfl (zg (v := .bool _) (fun _ => R_pickO rfl rfl rfl) (yB ?_))))))))))))))))))))))))))))); refine c_cond rfl (fun h5 => ?_) (fun h5 => ?_)
    ·(try (have qh5 := h5; norm_cast at qh5))
     refine yA (aB rfl (yB (ze (zb (zt (zt (zb (zt ((zo (v := .bool _) rfl rfl rfl ?_)))))))))); exact fun w' hw => ⟨congrArg Value.bool (by (try clear hw hm hW hsz hlo hup hini gt1b ut1b); simp only [td_0, td_p, Bool.not_eq_true', Bool.not_eq_false'] at *; unfold dcOk; simp only [*, Bool.and_true, Bool.true_and, Bool.and_false, Bool.false_and]), hw.f0⟩
    ·(try (have qh5 := h5; norm_cast at qh5))
     refine zi (zO (zk (zr (ji rfl rfl (by omega) (mI rfl (zn (k_rounds (yA (jl rfl rfl (yB (zq (zE bD (zi (zk (zq (zB (yA (zg (fun _ => R_aidx (i := 3) ar149 rfl rfl rfl rfl) (za (v := .slice _ _ _) rfl (yC (mS rfl (jj sl47 rfl (jg rfl rfl (mB rfl (w_gF (v := .slice _ _ _) rfl rfl rfl (fun hc w h => R_move rfl) rfl (w_cF rfl rfl rfl (fun hc w => runE_as (zR Tryz.func98 rfl rfl rfl) (arr1 (gvl_t hc))) rfl (fun hc w h => exprs_ok ini ia ic N w (by omega) (by omega) (hini.now (fun _ _ hh => hh) zm0 h) (hW.now zm0 h)) (gFx rfl (fun hc w h => R_not (gvl_t hc)) rfl (zg (v := .bool _) (fun _ => R_pickO rfl rfl rfl) (yB ?_))))))))))))))))))))))))))))); refine c_cond rfl (fun h6 => ?_) (fun h6 => ?_)
     ·(try (have qh6 := h6; norm_cast at qh6))
      refine yA (aB rfl (yB (ze (zb (zt (zt (zb (zt ((zo (v := .bool _) rfl rfl rfl ?_)))))))))); exact fun w' hw => ⟨congrArg Value.bool (by (try clear hw hm hW hsz hlo hup hini gt1b ut1b); simp only [td_0, td_p, Bool.not_eq_true', Bool.not_eq_false'] at *; unfold dcOk; simp only [*, Bool.and_true, Bool.true_and, Bool.and_false, Bool.false_and]), hw.f0⟩
     ·(try (have qh6 := h6; norm_cast at qh6))
      refine zi (zO (zk (zr (ji rfl rfl (by omega) (mI rfl (zn (k_rounds (yA (jl rfl rfl (yB (zq (zG bE (zX (zx (zx (b_here rfl (zk (yA (aB rfl (yB (ze (zo (v := .bool _) rfl rfl rfl ?_))))))))))))))))))))))
      exact fun w' hw => ⟨congrArg Value.bool (by (try clear hw hm hW hsz hlo hup hini gt1b ut1b); simp only [td_0, td_p, Bool.not_eq_true', Bool.not_eq_false'] at *; unfold dcOk; simp only [*, Bool.and_true, Bool.true_and, Bool.and_false, Bool.false_and]), hw.f0⟩
theorem Check_spec (p : List Bk) (cs : List Value) (N : Nat → Prop) (w : World) (hp : ∀ b ∈ p, bkW b < 10000000) (hm : pgM w N p cs) (hW : Wd w) :
  Ret Tryz.prog 54 #[.agg cs.toArray] w (fun v w' => v = .int .i64 (if pgOk p then 0 else 120) ∧ Ext w w') := by
 refine enter (S := No) (l := [_]) (L := []) 80 Tryz.func54 rfl rfl rfl (St.start w No) (yA (w_boxA rfl (fun t1b gt1b ut1b => aI rfl (yB (zq (yA (zf fa32_0 rfl (w_loadW z30 rfl (fun _ h => h.at_ 0 rfl) hm.len (mI rfl (yB (zB (c_loop (fun m e B L => ∃ (i : Nat), e 9 = .agg cs.toArray ∧ e 10 = .int .i64 (i : Nat) ∧ B = [(w, No)] ∧ L = [(t1b, cel cs 32)] ∧ i ≤ 6 ∧ (∀ j b, j < i → p[j]? = some b → bkOk j b = true) ∧ m = 6 - i) _ ⟨0, rfl, rfl, rfl, rfl, Nat.zero_le _, (fun _ _ h => absurd h (Nat.not_lt_zero _)), rfl⟩ ?_))))))))))))
 rintro m e B L ⟨i, e9_1, e10_1, rfl, rfl, hi, hj, rfl⟩
 refine yA (jl e10_1 rfl (yB (zq ?_))); refine zD rfl (fun h2 => ?_) (fun h2 => ?_)
 ·(try (have qh2 := h2; norm_cast at qh2))
  have hi6 : i < 6 := (by omega); obtain ⟨b, hb⟩ : ∃ b, p[i]? = some b := ⟨_, List.getElem?_eq_getElem (by rw [hm.six]; exact hi6)⟩; have hbw := hp b (List.mem_of_getElem? hb); unfold bkW at hbw; obtain ⟨da, dc, sa, sc, hcb, hds, hss⟩ := hm.one i b hb
  refine zi (zk (zq (zB (yA (mI e10_1 (w_r (v := .agg (List.toArray [.bool b.is, .slice da b.decls.length dc, .slice sa b.stmts.length sc])) (fun _ => R_aidxA (i := i) ara30 e9_1 e10_1 (by omega) hcb) rfl rfl (zA zr29 (fun t4b gt4b ut4b => aI rfl (jv 0 z29 rfl (yC (mI rfl (je rfl rfl (mB rfl (w_gF (v := .int _ _) rfl rfl rfl (fun hc w h => R_move rfl) rfl (gFx rfl (fun hc w h => R_eq (gvl_t hc) rfl) rfl (zg (v := .bool _) (fun _ => R_pickO rfl rfl rfl) (aB rfl (yB ?_)))))))))))))))))); refine c_cut (fun e B L => e 3 = .int .i64 (i : Nat) ∧ e 4 = pX t4b ∧ e 5 = .bool (gv i) ∧ e 9 = .agg cs.toArray ∧ e 10 = .int .i64 (i : Nat) ∧ B = [(w, No)] ∧ L = [(t4b, cel [.bool b.is, .slice da b.decls.length dc, .slice sa b.stmts.length sc] 29), (t1b, cel cs 32)] ∧ headB i b = true) ?_ ?_
  ·skip
   refine zB (yA (zf fa29_0 rfl (jM 0 z4 rfl (jk rfl (mB rfl (gTx rfl (fun hc w h => R_fa fa29_1 rfl) rfl (gTx rfl (fun hc w h => R_ld1 z26 (gvl_t hc) (zc 0 rfl rfl h)) rfl (gTx rfl (fun hc w h => R_len sl26 (gvl_t hc)) rfl (gTx rfl (fun hc w h => R_fa fa29_2 rfl) rfl (gTx rfl (fun hc w h => R_ld1 z27 (gvl_t hc) (zc 0 rfl rfl h)) rfl (gTx rfl (fun hc w h => R_len sl27 (gvl_t hc)) rfl (gTx rfl (fun hc w h => R_addi (gvl_t hc) (gvl_t hc) (by omega)) rfl (gTx rfl (fun hc w h => R_gt (gvl_t hc) rfl) rfl (zg (v := .bool _) (fun _ => R_pickA rfl rfl rfl) (mB rfl (gFx (v := .bool _) rfl (fun hc w h => R_move rfl) rfl (gFx (v := .bool _) rfl (fun hc w h => R_move (gvl_t hc)) rfl (hTx rfl (fun hc w h => R_fa fa29_2 rfl) rfl (hTx rfl (fun hc w h => R_ld1 z27 (gvl_t hc) (zc 0 rfl rfl h)) rfl (hTx rfl (fun hc w h => R_len sl27 (gvl_t hc)) rfl (hTx rfl (fun hc w h => R_gt (gvl_t hc) rfl) rfl (gFx (v := .bool _) rfl (fun hc w h => R_pickA (gvl_t hc) (gvl_and hc) rfl) rfl (zg (v := .bool _) (fun _ => R_pickO rfl rfl rfl) (mB rfl (w_gF (v := .int _ _) rfl rfl rfl (fun hc w h => R_move rfl) rfl (gFx rfl (fun hc w h => R_eq (gvl_t hc) rfl) rfl (gFx (v := .bool _) rfl (fun hc w h => R_move (gvl_t hc)) rfl (hTx rfl (fun hc w h => R_fa fa29_1 rfl) rfl (hTx rfl (fun hc w h => R_ld1 z26 (gvl_t hc) (zc 0 rfl rfl h)) rfl (hTx rfl (fun hc w h => R_len sl26 (gvl_t hc)) rfl (hTx rfl (fun hc w h => R_gt (gvl_t hc) rfl) rfl (gFx (v := .bool _) rfl (fun hc w h => R_pickA (gvl_t hc) (gvl_and hc) rfl) rfl (zg (v := .bool _) (fun _ => R_pickO rfl rfl rfl) (mB rfl (gFx rfl (fun hc w h => R_fa fa29_2 rfl) rfl (gFx rfl (fun hc w h => R_ld1 z27 (gvl_t hc) (zc 0 rfl rfl h)) rfl (w_cF rfl rfl rfl (fun hc w => runE_as (zR Tryz.func78 rfl rfl rfl) (arr1 (gvl_t hc))) rfl (fun hc w h => stmts_ok b.stmts sa sc N w (by omega) (by omega) (hss.now (fun _ _ hh => hh) zm0 h) (hW.now zm0 h)) (gFx rfl (fun hc w h => R_not (gvl_t hc)) rfl (zg (v := .bool _) (fun _ => R_pickO rfl rfl rfl) (aB rfl (yB ?_))))))))))))))))))))))))))))))))))))))))); refine c_cond rfl (fun h4 => ?_) (fun h4 => ?_)
   ·(try (have qh4 := h4; norm_cast at qh4))
    refine yA (aI rfl (yB (ze (zb (zt (zb (zt (zt (zb (zt ((zo (v := .int _ _) rfl rfl rfl ?_)))))))))))); exact fun w' hw => ⟨by (rw [pgOk_no hi6 hb (by ((try clear hw hm hds hss hcb hp hW hj e10_1 e9_1 gt1b gt4b ut1b ut4b); simp only [bkOk, headB, gv]; grind))]; rfl), hw.f0⟩
   ·(try (have qh4 := h4; norm_cast at qh4))
    refine zi (zO (?_))
    exact k_mid ⟨rfl, rfl, (congrArg Value.bool (by (try clear hm hds hss hcb hp hW hj e10_1 e9_1 gt1b gt4b ut1b ut4b); simp only [gv]; grind)), e9_1, e10_1, rfl, rfl, by (try clear hm hds hss hcb hp hW hj e10_1 e9_1 gt1b gt4b ut1b ut4b); simp only [headB, gv]; grind⟩
  rintro e B L ⟨e3_2, e4_2, e5_2, e9_2, e10_2, rfl, rfl, hd⟩
  refine yA (zf fa29_1 e4_2 (jM 0 z26 rfl (jj sl26 rfl (mI rfl (yB (zB (c_loop (fun m e B L => ∃ (k : Nat), e 3 = .int .i64 (i : Nat) ∧ e 5 = .bool (gv i) ∧ e 9 = .agg cs.toArray ∧ e 10 = .int .i64 (i : Nat) ∧ e 60 = .slice da b.decls.length dc ∧ e 61 = .int .i64 (b.decls.length : Nat) ∧ e 62 = .int .i64 (k : Nat) ∧ B = [(w, No)] ∧ L = [(t4b, cel [.bool b.is, .slice da b.decls.length dc, .slice sa b.stmts.length sc] 29), (t1b, cel cs 32)] ∧ k ≤ b.decls.length ∧ (∀ y ∈ b.decls.take k, (!dgood i y) = false) ∧ m = b.decls.length - k) _ ⟨0, e3_2, e5_2, e9_2, e10_2, rfl, rfl, rfl, rfl, rfl, Nat.zero_le _, (by simp), rfl⟩ ?_)))))))
  rintro m e B L ⟨k, e3_3, e5_3, e9_3, e10_3, e60_3, e61_3, e62_3, rfl, rfl, hk, hy, rfl⟩
  refine yA (jl e62_3 e61_3 (yB (zq ?_))); refine zD rfl (fun h5 => ?_) (fun h5 => ?_)
  ·(try (have qh5 := h5; norm_cast at qh5))
   have hlt : k < b.decls.length := (by omega); obtain ⟨x, hxk⟩ : ∃ x, b.decls[k]? = some x := ⟨_, List.getElem?_eq_getElem hlt⟩; obtain ⟨cs2, hA, hE⟩ := hds k x hxk; have hxn := dcsW_mem (List.mem_of_getElem? hxk); obtain ⟨b1, o1, rfl⟩ := hA.ptr; have hE2 := hE; obtain ⟨ty, at_, nm, sz, lo, up, ini⟩ := x; unfold dcM at hE2; obtain ⟨xa, xc, la, lc, ua, uc, ia, ic, hcs, hsz, hlo, hup, hini⟩ := hE2; simp only [] at hcs; subst hcs
   refine zi (zk (zq (zB (yA (zg (fun _ => R_iaN (i := k) sl26 e60_3 e62_3 (by omega)) (w_loadC (l := [.int .u8 (ty : Nat), .int .i64 at_, str nm, .slice xa sz.length xc, .slice la lo.length lc, .slice ua up.length uc, .slice ia ini.length ic]) z49 rfl rfl (fun w h j v hj => hA.cell (fun _ _ hh => hh) zm0 h j v hj) (zA zr49 (fun t7b gt7b ut7b => jv 0 z49 rfl (yC (jy 0 z49 rfl rfl (jD Tryz.func79 (fun w h => decl_spec _ _ N w (by omega) (hE.now (fun _ _ hh => hh) zm0 h) (hW.now zm0 h)) (jk rfl (mB rfl (gFx (v := .bool _) rfl (fun hc w h => R_move e5_3) rfl (gFx (v := .bool _) rfl (fun hc w h => R_move (gvl_t hc)) rfl (hTx rfl (fun hc w h => R_fa fa49_6 rfl) rfl (hTx rfl (fun hc w h => R_ld1 z47 (gvl_t hc) (zc 0 rfl rfl h)) rfl (hTx rfl (fun hc w h => R_len sl47 (gvl_t hc)) rfl (hTx rfl (fun hc w h => R_gt (gvl_t hc) rfl) rfl (gFx (v := .bool _) rfl (fun hc w h => R_pickA (gvl_t hc) (gvl_and hc) rfl) rfl (zg (v := .bool _) (fun _ => R_pickO rfl rfl rfl) (yB ?_)))))))))))))))))))))); refine c_cond rfl (fun h7 => ?_) (fun h7 => ?_)
   ·(try (have qh7 := h7; norm_cast at qh7))
    refine yA (aI rfl (yB (ze (zb (zt (zt (zb (zb (zt (zt (zb (zt ((zo (v := .int _ _) rfl rfl rfl ?_)))))))))))))); exact fun w' hw => ⟨by (rw [pgOk_no hi6 hb (by (unfold bkOk; rw [all_no hxk (by (try clear hw hm hds hss hcb hp hW hj hA hE hsz hlo hup hini e10_1 e10_2 e10_3 e3_2 e3_3 e4_2 e5_2 e5_3 e60_3 e61_3 e62_3 e9_1 e9_2 e9_3 gt1b gt4b gt7b ut1b ut4b ut7b); simp only [dgood]; grind)]; simp; done))]; rfl), hw.f0⟩
   ·(try (have qh7 := h7; norm_cast at qh7))
    refine zi (zO (zk (zr (ji e62_3 rfl (by omega) (mI rfl (zn (zK (B' := [(w, No)]) (L' := _) (fun w h => h.d1) ?_))))))); exact k_again _ (by omega) ⟨k + 1, e3_3, e5_3, e9_3, e10_3, e60_3, e61_3, rfl, rfl, rfl, by omega, take_all hy hxk (by (try clear hm hds hss hcb hp hW hj hA hE hsz hlo hup hini e10_1 e10_2 e10_3 e3_2 e3_3 e4_2 e5_2 e5_3 e60_3 e61_3 e62_3 e9_1 e9_2 e9_3 gt1b gt4b gt7b ut1b ut4b ut7b); simp only [dgood]; grind), rfl⟩
  ·(try (have qh5 := h5; norm_cast at qh5))
   have hall : b.decls.all (dgood i) = true := all_of_take hy (by omega)
   refine zX (zx (zx (b_here rfl (zO (zk (zr (ji e10_3 rfl (by omega) (mI rfl (zn (zK (B' := [(w, No)]) (L' := [(t1b, cel cs 32)]) (fun w h => h.d1) ?_)))))))))); exact k_again _ (by omega) ⟨i + 1, e9_3, rfl, rfl, rfl, by omega, bk_next hj hb (by unfold bkOk; rw [hd, hall]; rfl), rfl⟩
 ·(try (have qh2 := h2; norm_cast at qh2))
  refine zX (zx (zx (b_here rfl (zk (yA (aI rfl (yB (ze (zo (v := .int _ _) rfl rfl rfl ?_))))))))); exact fun w' hw => ⟨by (rw [pgOk_yes hm.six (fun j b h => hj j b (by omega))]; rfl), hw.f0⟩
end Go.Proofs.YtoehjlmdnajibaaGreatDoor
end
section
namespace Go.Proofs.YtoehjlmdnajibaaGreatDoor
open Go.RowKit Go.Sx
open Go.Tok Go.Tree Go.Knd
abbrev ftC (f : Ft) : List Value := [.int .i64 (f.1 : Nat), .int .i64 f.2]
def outK (X : Except Ft (Nat × Bool)) : (Nat × Bool) × Ft := match X with | .ok k => (k, (0, 0)) | .error f => ((0, false), f)
def outV (X : Except Ft (List Vr)) : List Vr × Ft := match X with | .ok l => (l, (0, 0)) | .error f => ([], f)
theorem outK_ok {X : Except Ft (Nat × Bool)} {k : Nat × Bool} (h : X = .ok k) : outK X = (k, (0, 0)) := by rw [h]; rfl
theorem outK_er {X : Except Ft (Nat × Bool)} {f : Ft} (h : X = .error f) : outK X = ((0, false), f) := by rw [h]; rfl
theorem kE {X : Except Ft (Nat × Bool)} {f : Ft} (h : X = .error f) : Value.tuple #[.agg #[.int .u8 0, .bool false], .agg #[.int .i64 (f.1 : Nat), .int .i64 f.2]] = .tuple #[kdV (outK X).1, .agg (ftC (outK X).2).toArray] := by rw [h]; rfl
theorem outV_ok {X : Except Ft (List Vr)} {l : List Vr} (h : X = .ok l) : outV X = (l, (0, 0)) := by rw [h]; rfl
theorem outV_er {X : Except Ft (List Vr)} {f : Ft} (h : X = .error f) : outV X = ([], f) := by rw [h]; rfl
theorem vE {X : Except Ft (List Vr)} {f : Ft} (h : X = .error f) : Value.agg #[.int .i64 (f.1 : Nat), .int .i64 f.2] = .agg (ftC (outV X).2).toArray := by rw [h]; rfl
theorem vrsW.nil {w : World} {N : Nat → Prop} : vrsW w N [] (none, 0) := ⟨vrsV.nil, fun _ => rfl⟩
theorem kcatchV_ok (fl : Ft) (ob fb : Nat) (xs ys : List Value) (hxl : xs.length = 1) (hyl : ys.length = 2) (w : World) (ho : w.heap[ob]? = some (cel xs 34)) (hf : w.heap[fb]? = some (cel ys 37)) (hne : ob ≠ fb) : CallsD Tryz.prog 80 #[pX ob, pX fb] (.panicking (panK fl)) w fun e u w' => (∃ v, e = .returned v) ∧ settle u = .returning ∧ Fr (fun j => j = ob ∨ j = fb) w w' ∧ w'.heap[ob]? = some (cel [.slice none 0 0] 34) ∧ w'.heap[fb]? = some (cel (ftC fl) 37) := by
 refine (enterR (l := [_, _]) (t := 37) (pv := (.agg #[.int .i64 (fl.1 : Nat), .int .i64 fl.2])) (older := []) (R := fun w' => Fr (fun j => j = ob ∨ j = fb) w w' ∧ w'.heap[ob]? = some (cel [.slice none 0 0] 34) ∧ w'.heap[fb]? = some (cel (ftC fl) 37)) 10 Tryz.func80 rfl rfl rfl rfl ⟨_, _, St.start2 (S := (fun j => j = ob ∨ j = fb)) w ho hf hne (.inl rfl) (.inr rfl), ?_⟩).mono (fun e u w' ⟨h1, h2, h3⟩ => ⟨h1, by rw [h2]; rfl, h3⟩)
 refine yA (zm rfl (zg (fun _ => R_ine uni20 rfl rfl) (yB (zE rfl (yA (za (v := .slice _ _ _) rfl (yB (c_held (fun _ => True) mixed (zh2 0 rfl rfl (fun w h => trivial) (fun w h => R_move rfl) (zh2 1 rfl rfl (fun w h => trivial) (fun w h => R_move rfl) (zh2 2 rfl rfl (fun w h => trivial) (fun w h => R_ta tab37 rfl) (zH2 3 (fun w h => trivial) (o_storeW [.slice none 0 0] 0 rfl rfl z34 rfl rfl rfl rfl rfl hxl (zH2 4 (fun w h => trivial) (o_storeW (ftC fl) 1 rfl rfl z37 rfl rfl rfl rfl rfl hyl (zN2 (fun w h => trivial) ?_)))))))))))))))); exact r_rec (.inr rfl) rfl fun w' hw => ⟨hw.f0, hw.at_ 0 rfl, hw.at_ 1 rfl⟩
theorem kidleV_ok (ob fb : Nat) {B : Base} {L : Heap} (w : World) (hw : St B L w) : CallsD Tryz.prog 80 #[pX ob, pX fb] .returning w fun e u w' => (∃ v, e = .returned v) ∧ u = .returning ∧ St B L w' := by
 refine enterR0 (l := [_, _]) 10 Tryz.func80 rfl rfl rfl rfl ⟨_, _, hw, ?_⟩
 refine yA (zm rfl (zg (fun _ => R_ine0 uni20 rfl rfl) (yB (zG rfl (zi ?_))))); exact r_rec (.inr rfl) rfl fun w' hw => hw
theorem allC_ok (p : List Bk) (cs : List Value) (pb : Nat) (w : World) (hp : ∀ b ∈ p, bkW b < 10000000) (hok : pgOk p = true) (hm : pgM w (fun _ => True) p cs) (hpb : w.heap[pb]? = some (cel cs 32)) :
  RetP Tryz.prog 56 #[pX pb] w (RN vsV vrsW (blocksK 0 [] p) w) (EK panK (blocksK 0 [] p) w) := by
 refine enterP (S := No) (l := [_]) (L := []) 32 Tryz.func56 rfl rfl rfl (St.start w No) (yA (za (v := .slice _ _ _) rfl (yC (za (v := .slice _ _ _) rfl (yB (zq (yA (zf fa32_0 rfl (w_loadW z30 rfl (fun w h => h.old hpb zm0 (fun x => x)) hm.len (mI rfl (yB (zB (c_base (fun w9 h9 => c_loop (fun m e B L => ∃ (i : Nat) (vs : List Vr) (va : Option Addr) (vc : Nat) (x : Bw), e 2 = .slice va vs.length vc ∧ e 8 = .agg cs.toArray ∧ e 9 = .int .i64 (i : Nat) ∧ B = [x, (w, No)] ∧ L = [] ∧ i ≤ 6 ∧ Kt x w.heap.size vrsW vs (va, vc) ∧ vs.length ≤ i * 10000000 ∧ blocksK 0 [] p = blocksK i vs (p.drop i) ∧ m = 6 - i) _ ⟨0, [], none, 0, _, rfl, rfl, rfl, rfl, rfl, Nat.zero_le _, (vrsW.nil : vrsW _ _ [] (none, 0)), Nat.zero_le _, rfl, rfl⟩ ?_))))))))))))))
 rintro m e B L ⟨i, vs, va, vc, x, e2_1, e8_1, e9_1, rfl, rfl, hi, hK, hvs, hG1, rfl⟩
 refine yA (jl e9_1 rfl (yB (zq ?_))); refine zD rfl (fun h1 => ?_) (fun h1 => ?_)
 ·have hi6 : i < 6 := (by omega); obtain ⟨b, hb⟩ : ∃ b, p[i]? = some b := ⟨_, List.getElem?_eq_getElem (by rw [hm.six]; exact hi6)⟩; have hbw := hp b (List.mem_of_getElem? hb); unfold bkW at hbw; obtain ⟨da, dc, sa, sc, hcb, hds, hss⟩ := hm.one i b hb; obtain ⟨hfd, hfs⟩ := pg_facts hok hi6 hb; have hG2 := hG1.trans (blocksK_step' hb)
  refine zi (zk (zq (zB (yA (mI e9_1 (w_r (v := .agg (List.toArray [.bool b.is, .slice da b.decls.length dc, .slice sa b.stmts.length sc])) (fun _ => R_aidxA (i := i) ara30 e8_1 e9_1 (by omega) hcb) rfl rfl (zA zr29 (fun t4b gt4b ut4b => aI rfl (jv 0 z29 rfl (yB (zq (yA (zf fa29_1 rfl (jM 0 z26 rfl (jj sl26 rfl (mI rfl (yB (zB (c_loop (fun m e B L => ∃ (k : Nat) (vs2 : List Vr) (va2 : Option Addr) (vc2 : Nat) (x2 : Bw), e 2 = .slice va2 vs2.length vc2 ∧ e 3 = .int .i64 (i : Nat) ∧ e 4 = pX t4b ∧ e 8 = .agg cs.toArray ∧ e 9 = .int .i64 (i : Nat) ∧ e 14 = .slice da b.decls.length dc ∧ e 15 = .int .i64 (b.decls.length : Nat) ∧ e 16 = .int .i64 (k : Nat) ∧ B = [x2, (w, No)] ∧ L = [(t4b, cel [.bool b.is, .slice da b.decls.length dc, .slice sa b.stmts.length sc] 29)] ∧ k ≤ b.decls.length ∧ Kt x2 w.heap.size vrsW vs2 (va2, vc2) ∧ vs2.length ≤ vs.length + k ∧ blocksK 0 [] p = andK (declsK i vs2 (b.decls.drop k)) (fun l2 => andK (stmtsK i l2 b.stmts) (fun _ => blocksK (i + 1) l2 (p.drop (i + 1)))) ∧ m = b.decls.length - k) _ ⟨0, vs, va, vc, _, e2_1, rfl, rfl, e8_1, e9_1, rfl, rfl, rfl, rfl, rfl, Nat.zero_le _, hK, Nat.le_refl _, hG2, rfl⟩ ?_)))))))))))))))))))
  rintro m e B L ⟨k, vs2, va2, vc2, x2, e2_2, e3_2, e4_2, e8_2, e9_2, e14_2, e15_2, e16_2, rfl, rfl, hk, hK2, hvs2, hG3, rfl⟩
  refine yA (jl e16_2 e15_2 (yB (zq ?_))); refine zD rfl (fun h3 => ?_) (fun h3 => ?_)
  ·have hlt : k < b.decls.length := (by omega); obtain ⟨x, hxk⟩ : ∃ x, b.decls[k]? = some x := ⟨_, List.getElem?_eq_getElem hlt⟩; obtain ⟨cs2, hA, hE⟩ := hds k x hxk; have hxn := dcsW_mem (List.mem_of_getElem? hxk); have hdo := hfd x (List.mem_of_getElem? hxk); obtain ⟨b1, o1, rfl⟩ := hA.ptr; have hG4 := hG3.trans (declsK_step' hxk _); obtain ⟨ty, at_, nm, sz, lo, up, ini⟩ := x; have hE2 := hE; unfold dcM at hE2; obtain ⟨xa, xc, la, lc, ua, uc, ia, ic, hcs, hsz, hlo, hup, hini⟩ := hE2; simp only [] at hcs; subst hcs
   refine zi (zk (zq (zB (yA (zg (fun _ => R_iaN (i := k) sl26 e14_2 e16_2 (by omega)) (w_loadC (l := [.int .u8 (ty : Nat), .int .i64 at_, str nm, .slice xa sz.length xc, .slice la lo.length lc, .slice ua up.length uc, .slice ia ini.length ic]) z49 rfl rfl (fun w h j v hj => hA.cell (fun _ _ hh => hh) zm1 h j v hj) (zA zr49 (fun t6b gt6b ut6b => jv 0 z49 rfl (yB (zr (mS e2_2 (jy 0 z49 rfl rfl (mI e3_2 (w_kn (V2 := vsV) (M := vrsW) (pan := panK) zm1 TL.vrw hG4 (fun w => zR Tryz.func57 rfl rfl rfl) rfl rfl (fun w h => kdecl_ok _ _ vs2 va2 vc2 i w (by omega) hdo (hE.now (x := (_, No)) (fun _ _ h => h) zm1 h) (hK2.T TL.vrw zm0 h) (by omega)) (fun fl w' hx1 hx2 a ha => p_out ha ⟨fl, hx1, rfl, hx2⟩) (fun q b9 w9 hX9 hG9 hK9 => ?_)))))))))))))))
   obtain ⟨a9, c9⟩ := b9; have hq9 := declK_len hX9
   refine za (v := .slice _ _ _) rfl (zn (zO (zk (zr (ji e16_2 rfl (by omega) (mI rfl (zn ?_))))))); refine zK (B' := [_, (w, No)]) (L' := _) (fun w h => (h.d1).unbase (fun x hx => by rcases List.mem_cons.1 hx with rfl | hx; exact .head _; exact .tail _ (.tail _ hx))) ?_; exact k_again _ (by omega) ⟨k + 1, q, a9, c9, _, rfl, e3_2, e4_2, e8_2, e9_2, e14_2, e15_2, rfl, rfl, rfl, by omega, hK9, by omega, hG9, rfl⟩
  ·have hG5 := hG3.trans (declsK_end' (by omega) _)
   refine zX (zx (zx (b_here rfl (zk (zr (mS e2_2 (zf fa29_2 e4_2 (jM 0 z27 rfl (mI e3_2 (w_kc (V := (fun _ => .tuple #[])) (pan := panK) zm1 hG5 (fun w => zR Tryz.func58 rfl rfl rfl) rfl rfl (fun w h => kstmts_ok b.stmts sa sc vs2 va2 vc2 i w (by omega) hfs (by omega) (hss.nowT zm1 h) (hK2.T TL.vrw zm0 h) (by omega)) (fun fl w' hx1 hx2 a ha => p_out ha ⟨fl, hx1, rfl, hx2⟩) (fun q5 hX5 hG5 => zn (zO (zk (zr (ji e9_2 rfl (by omega) (mI rfl (zn (zK (B' := [x2, (w, No)]) (L' := []) (fun w h => h.drop (List.nil_sublist _)) ?_)))))))))))))))))); exact k_again _ (by omega) ⟨i + 1, vs2, va2, vc2, _, e2_2, e8_2, rfl, rfl, rfl, by omega, hK2, by omega, hG5, rfl⟩
 ·refine zX (zx (zx (b_here rfl (zk (yA (mS e2_1 (za (v := .slice _ _ _) rfl (yB (ze (k_p (.inl rfl) (zo (v := .slice _ _ _) rfl rfl rfl ?_))))))))))); exact fun w' hw => ⟨vs, (va, vc), hG1.trans (blocksK_end (by rw [hm.six]; omega)), rfl, hK.fin TL.vrw zm0 hw, hw.fr _ zm1⟩
theorem faceV_ok (p : List Bk) (cs : List Value) (pb : Nat) (w : World) (hp : ∀ b ∈ p, bkW b < 10000000) (hok : pgOk p = true) (hm : pgM w (fun _ => True) p cs) (hpb : w.heap[pb]? = some (cel cs 32)) :
  Ret Tryz.prog 55 #[.func (.func 56) #[] #[pX pb]] w (fun v w' => ∃ b : Option Addr × Nat, v = .tuple #[vsV (outV (blocksK 0 [] p)).1 b, .agg (ftC (outV (blocksK 0 [] p)).2).toArray] ∧ vrsW w' (Nn w w') (outV (blocksK 0 [] p)).1 b ∧ Ext w w') := by
 refine enterD (S := No) (l := [_]) (L := []) 8 Tryz.func55 rfl rfl rfl (St.start w No) (yA (zA zr34 (fun ob gob uob => zA zr37 (fun fb gfb ufb => yC (zg (fun _ => R_makeFunc) (w_defer (fun w => R_defer (ca := [pX ob, pX fb]) rfl) rfl rfl (yC (zm rfl ?_))))))))
 refine w_callD (R := fun w => RN vsV vrsW (blocksK 0 [] p) w) (E := fun w => EK panK (blocksK 0 [] p) w) (fun w => R_callv rfl Tryz.func56 rfl rfl) rfl rfl (fun w h => allC_ok p cs pb w hp hok (hm.now (x := (_, No)) (fun _ _ h => h) zm0 h) (h.old hpb zm0 (fun x => x))) ?_ (fun w hw ch w' hh => by obtain ⟨fl, h1, rfl, hxx⟩ := hh; have hw' := hw.ext hxx; exact d_out (l := [.cell 2 34, .cell 3 37]) (B := _) (L := _) rfl (fun _ => invoke_cl (ca := [pX ob, pX fb]) Tryz.func80 rfl rfl) ((kcatchV_ok _ ob fb [.slice none 0 0] [.int .i64 0, .int .i64 0] rfl rfl _ (hw'.at_ 1 rfl) (hw'.at_ 0 rfl) (hw'.ne 1 0 rfl rfl (by decide))).mono (fun e u w2 ⟨h1, h2, h3, h4, h5⟩ => ⟨h1, h2, hw'.mod2 1 0 rfl rfl (by decide) h3 h4 h5⟩)) (.cell rfl rfl z34 (fun _ h => zc 1 rfl rfl h) (.agg rfl rfl z37 (fun _ h => h.at_ 0 rfl) rfl .nil)) (fun w2 hw2 => ⟨(none, 0), by rw [outV_er h1]; rfl, by rw [outV_er h1]; exact vrsW.nil, hw2.fr _ zm0⟩))
 rintro w1 hw1 v w2 ⟨l2, b2, hX, rfl, hM, hxx⟩; refine ⟨_, _, (hw1.ext hxx).base1, ?_⟩; have hK : Kt (w2, inL [_, _]) w.heap.size vrsW l2 b2 := Kt.new hM TL.vrw hw1 (hw1.fr _ zm0).size
 refine jb bt37 rfl (jv 1 z34 rfl (jv 0 z37 rfl (yB (ze (r_finD (.inl rfl) rfl (f := 80) (ca := [pX ob, pX fb]) (fun _ => invoke_cl Tryz.func80 rfl rfl) (fun w hw => kidleV_ok ob fb w hw) (.cell rfl rfl z34 (fun _ h => zc 1 rfl rfl h) (.agg rfl rfl z37 (fun _ h => h.at_ 0 rfl) rfl .nil)) ?_))))); exact fun w' hw => ⟨b2, by rw [outV_ok hX]; rfl, by rw [outV_ok hX]; exact hK.fin TL.vrw zm0 hw, hw.fr _ zm1⟩
theorem kall_ok (p : List Bk) (cs : List Value) (w : World) (hp : ∀ b ∈ p, bkW b < 10000000) (hm : pgM w (fun _ => True) p cs) (hW : Wd w) :
  Ret Tryz.prog 35 #[.agg cs.toArray] w (fun v w' => ∃ b : Option Addr × Nat, v = .tuple #[vsV (outV (allK p)).1 b, .agg (ftC (outV (allK p)).2).toArray] ∧ vrsW w' (Nn w w') (outV (allK p)).1 b ∧ Ext w w') := by
 refine enter (S := No) (l := [_]) (L := []) 15 Tryz.func35 rfl rfl rfl (St.start w No) (yA (w_boxA rfl (fun t1b gt1b ut1b => za (v := .slice _ _ _) rfl (zA zr37 (fun t3b gt3b ut3b => yB (zq (yA (w_loadW z32 rfl (fun w h => h.at_ 1 rfl) hm.len ?_))))))))
 rcases hok : pgOk p with _ | _
 ·refine jD (v := .int .i64 120) Tryz.func54 (fun w h => by have := Check_spec p cs _ w hp (hm.now (x := (_, No)) (fun _ _ h => h) zm0 h) (hW.now zm0 h); rw [hok] at this; exact this) ?_; refine aI rfl (yC (mI rfl (jn rfl rfl (yB (zE bD (yA (mI rfl (jb bt37 rfl (za (v := .slice _ _ _) rfl (jv 0 z37 rfl (yB (ze (zt (?_))))))))))))))
  refine r_fin (.inl rfl) rfl (.tmp rfl rfl (.agg rfl rfl z37 (fun _ h => h.at_ 0 rfl) rfl .nil)) ?_; exact fun w' hw => ⟨(none, 0), by unfold allK; rw [hok]; rfl, by unfold allK; rw [hok]; exact vrsW.nil, hw.f0⟩
 ·refine jD (v := .int .i64 0) Tryz.func54 (fun w h => by have := Check_spec p cs _ w hp (hm.now (x := (_, No)) (fun _ _ h => h) zm0 h) (hW.now zm0 h); rw [hok] at this; exact this) ?_; refine aI rfl (yC (mI rfl (jn rfl rfl (yB (zG bE (zi (zk (yA (zg (fun _ => R_makeFunc) (zP (fun w => zR Tryz.func55 rfl rfl rfl) rfl rfl (fun w h => faceV_ok p cs t1b w hp hok (hm.now (x := (_, No)) (fun _ _ h => h) zm0 h) (h.at_ 1 rfl)) ?_))))))))))
  rintro w1 hw1 v w2 ⟨⟨a2, c2⟩, rfl, hM, hxx⟩; refine ⟨_, _, (hw1.ext hxx).base1, ?_⟩; have hK : Kt (w2, inL [_, _]) w.heap.size vrsW _ (a2, c2) := Kt.new hM TL.vrw hw1 (hw1.fr _ zm0).size
  refine jx rfl rfl (jx rfl rfl (za (v := .slice _ _ _) rfl (jv 0 z37 rfl (yB (ze (r_fin (.inl rfl) rfl (.tmp rfl rfl (.agg rfl rfl z37 (fun _ h => h.at_ 0 rfl) rfl .nil)) ?_)))))); exact fun w' hw => ⟨(a2, c2), by unfold allK; rw [if_pos hok]; rfl, by unfold allK; rw [if_pos hok]; exact hK.fin TL.vrw zm0 hw, hw.fr _ zm1⟩
theorem kCheck_ok (p : List Bk) (cs : List Value) (w : World) (hp : ∀ b ∈ p, bkW b < 10000000) (hm : pgM w (fun _ => True) p cs) (hW : Wd w) :
  Ret Tryz.prog 14 #[.agg cs.toArray] w (fun v w' => v = .agg (ftC (outV (allK p)).2).toArray ∧ Ext w w') := by
 refine enter (S := No) (l := [_]) (L := []) 11 Tryz.func14 rfl rfl rfl (St.start w No) (yA (w_boxA rfl (fun t1b gt1b ut1b => zA zr37 (fun t2b gt2b ut2b => yC (w_loadW z32 rfl (fun w h => h.at_ 1 rfl) hm.len (zP (fun w => zR Tryz.func35 rfl rfl rfl) rfl rfl (fun w h => kall_ok p cs w hp (hm.now (x := (_, No)) (fun _ _ h => h) zm0 h) (hW.now zm0 h)) ?_))))))
 rintro w1 hw1 v w2 ⟨⟨a2, c2⟩, rfl, hM, hxx⟩; refine ⟨_, _, hw1.ext hxx, ?_⟩; clear hM
 refine zm rfl (jx rfl rfl (jx rfl rfl (zA zr37 (fun t4b gt4b ut4b => za (v := .slice _ _ _) rfl (jv 0 z37 rfl (yC (jy 0 z37 rfl rfl (jv 1 z37 rfl (yB (ze (r_fin (.inl rfl) rfl (.agg rfl rfl z37 (fun _ h => h.at_ 1 rfl) rfl .nil) ?_))))))))))); exact fun w' hw => ⟨rfl, hw.f0⟩
theorem kVars_ok (p : List Bk) (cs : List Value) (w : World) (hp : ∀ b ∈ p, bkW b < 10000000) (hm : pgM w (fun _ => True) p cs) (hW : Wd w) :
  Ret Tryz.prog 16 #[.agg cs.toArray] w (fun v w' => ∃ b : Option Addr × Nat, v = vsV (outV (allK p)).1 b ∧ vrsW w' (Nn w w') (outV (allK p)).1 b ∧ Ext w w') := by
 refine enter (S := No) (l := [_]) (L := []) 11 Tryz.func16 rfl rfl rfl (St.start w No) (yA (w_boxA rfl (fun t1b gt1b ut1b => za (v := .slice _ _ _) rfl (yC (w_loadW z32 rfl (fun w h => h.at_ 0 rfl) hm.len (zP (fun w => zR Tryz.func35 rfl rfl rfl) rfl rfl (fun w h => kall_ok p cs w hp (hm.now (x := (_, No)) (fun _ _ h => h) zm0 h) (hW.now zm0 h)) ?_))))))
 rintro w1 hw1 v w2 ⟨⟨a2, c2⟩, rfl, hM, hxx⟩; refine ⟨_, _, (hw1.ext hxx).base1, ?_⟩; have hK : Kt (w2, inL [_]) w.heap.size vrsW _ (a2, c2) := Kt.new hM TL.vrw hw1 (hw1.fr _ zm0).size
 refine zm rfl (jx rfl rfl (jx rfl rfl (zA zr37 (fun t4b gt4b ut4b => za (v := .slice _ _ _) rfl (jv 0 z37 rfl (yC (mS rfl (za (v := .slice _ _ _) rfl (yB (ze (zo (v := .slice _ _ _) rfl rfl rfl ?_))))))))))); exact fun w' hw => ⟨(a2, c2), rfl, hK.fin TL.vrw zm0 hw, hw.fr _ zm1⟩
end Go.Proofs.YtoehjlmdnajibaaGreatDoor
end
section
namespace Go.Proofs.YtoehjlmdnajibaaGreatDoor
open Go.RowKit Go.Sx
open Go.Tok Go.Tree Go.Knd Go.Prs
def refD (o : Option (Nat × Nat × Bool)) : Value := .tuple #[.int .i64 ((o.map fun d => ((d.1 : Nat) : Int)).getD (-1)), .int .i64 ((o.map (·.2.1)).getD 0 : Nat), .bool ((o.map (·.2.2)).getD false)]
theorem distK_none {s : Str} (h : ¬ s = [110, 111, 114, 109, 97, 108] ∧ ¬ s = [99, 97, 117, 99, 104, 121] ∧ ¬ s = [117, 110, 105, 102, 111, 114, 109] ∧ ¬ s = [108, 111, 103, 110, 111, 114, 109, 97, 108] ∧ ¬ s = [103, 97, 109, 109, 97] ∧ ¬ s = [98, 101, 116, 97] ∧ ¬ s = [101, 120, 112, 111, 110, 101, 110, 116, 105, 97, 108] ∧ ¬ s = [98, 101, 114, 110, 111, 117, 108, 108, 105] ∧ ¬ s = [98, 101, 114, 110, 111, 117, 108, 108, 105, 95, 108, 111, 103, 105, 116] ∧ ¬ s = [112, 111, 105, 115, 115, 111, 110] ∧ ¬ s = [112, 111, 105, 115, 115, 111, 110, 95, 108, 111, 103]) : distK s = none := by
 obtain ⟨h0, h1, h2, h3, h4, h5, h6, h7, h8, h9, h10⟩ := h
 unfold distK; simp only [List.mem_cons, List.not_mem_nil, or_false]; rw [if_neg (by grind), if_neg (by assumption), if_neg (by assumption), if_neg (by assumption), if_neg (by grind)]
theorem rdist_ok (s : Str) (w : World) :
  Ret Tryz.prog 26 #[str s] w (fun v w' => v = refD (distK s) ∧ Ext w w') := by
 refine enter (S := No) (l := [_]) (L := []) 22 Tryz.func26 rfl rfl rfl (St.start w No) (yA (aI rfl (aI rfl (aB rfl (yB (zq (yA (zm (v := str _) rfl (yB (zB (zq (yA (js rfl rfl (aB rfl (yB ?_))))))))))))))); refine zD rfl (fun h1 => ?_) (fun h1 => ?_)
 ·refine zi (zk (zE (bT h1) (yA (aI rfl (aI rfl (aB rfl (yB (ze (zb (zt ((r_fin (.inl rfl) rfl (.tmp rfl rfl (.tmp rfl rfl (.tmp rfl rfl .nil))) ?_)))))))))))); exact fun w' hw => ⟨by (subst_vars; rfl), hw.f0⟩
 ·refine yA (js rfl rfl (aB rfl (yB ?_))); refine zD rfl (fun h2 => ?_) (fun h2 => ?_)
  ·refine zi (zk (zE (bT h2) (yA (aI rfl (aI rfl (aB rfl (yB (ze (zb (zt ((r_fin (.inl rfl) rfl (.tmp rfl rfl (.tmp rfl rfl (.tmp rfl rfl .nil))) ?_)))))))))))); exact fun w' hw => ⟨by (subst_vars; rfl), hw.f0⟩
  ·refine yA (js rfl rfl (aB rfl (yB ?_))); refine zD rfl (fun h3 => ?_) (fun h3 => ?_)
   ·refine zi (zk (zE (bT h3) (yA (aI rfl (aI rfl (aB rfl (yB (ze (zb (zt ((r_fin (.inl rfl) rfl (.tmp rfl rfl (.tmp rfl rfl (.tmp rfl rfl .nil))) ?_)))))))))))); exact fun w' hw => ⟨by (subst_vars; rfl), hw.f0⟩
   ·refine zr (js rfl rfl (aB rfl (yB ?_))); refine zD rfl (fun h4 => ?_) (fun h4 => ?_)
    ·refine yA (aI rfl (aI rfl (aB rfl (yB (ze (zb (zt ((r_fin (.inl rfl) rfl (.tmp rfl rfl (.tmp rfl rfl (.tmp rfl rfl .nil))) ?_))))))))); exact fun w' hw => ⟨by (subst_vars; rfl), hw.f0⟩
    ·refine yA (js rfl rfl (aB rfl (yB ?_))); refine zD rfl (fun h5 => ?_) (fun h5 => ?_)
     ·refine yA (aI rfl (aI rfl (aB rfl (yB (ze (zb (zt ((r_fin (.inl rfl) rfl (.tmp rfl rfl (.tmp rfl rfl (.tmp rfl rfl .nil))) ?_))))))))); exact fun w' hw => ⟨by (subst_vars; rfl), hw.f0⟩
     ·refine yA (js rfl rfl (aB rfl (yB ?_))); refine zD rfl (fun h6 => ?_) (fun h6 => ?_)
      ·refine yA (aI rfl (aI rfl (aB rfl (yB (ze (zb (zt ((r_fin (.inl rfl) rfl (.tmp rfl rfl (.tmp rfl rfl (.tmp rfl rfl .nil))) ?_))))))))); exact fun w' hw => ⟨by (subst_vars; rfl), hw.f0⟩
      ·refine yA (js rfl rfl (aB rfl (yB ?_))); refine zD rfl (fun h7 => ?_) (fun h7 => ?_)
       ·refine yA (aI rfl (aI rfl (aB rfl (yB (ze (zb (zt ((r_fin (.inl rfl) rfl (.tmp rfl rfl (.tmp rfl rfl (.tmp rfl rfl .nil))) ?_))))))))); exact fun w' hw => ⟨by (subst_vars; rfl), hw.f0⟩
       ·refine zq (yA (js rfl rfl (aB rfl (yB ?_)))); refine zD rfl (fun h8 => ?_) (fun h8 => ?_)
        ·refine zi (zk (zE (bT h8) (yA (aI rfl (aI rfl (aB rfl (yB (ze (zb (zt ((r_fin (.inl rfl) rfl (.tmp rfl rfl (.tmp rfl rfl (.tmp rfl rfl .nil))) ?_)))))))))))); exact fun w' hw => ⟨by (subst_vars; rfl), hw.f0⟩
        ·refine yA (js rfl rfl (aB rfl (yB ?_))); refine zD rfl (fun h9 => ?_) (fun h9 => ?_)
         ·refine zi (zk (zE (bT h9) (yA (aI rfl (aI rfl (aB rfl (yB (ze (zb (zt ((r_fin (.inl rfl) rfl (.tmp rfl rfl (.tmp rfl rfl (.tmp rfl rfl .nil))) ?_)))))))))))); exact fun w' hw => ⟨by (subst_vars; rfl), hw.f0⟩
         ·refine yA (js rfl rfl (aB rfl (yB ?_))); refine zD rfl (fun h10 => ?_) (fun h10 => ?_)
          ·refine zi (zk (zE (bT h10) (yA (aI rfl (aI rfl (aB rfl (yB (ze (zb (zt ((r_fin (.inl rfl) rfl (.tmp rfl rfl (.tmp rfl rfl (.tmp rfl rfl .nil))) ?_)))))))))))); exact fun w' hw => ⟨by (subst_vars; rfl), hw.f0⟩
          ·refine zr (js rfl rfl (aB rfl (yB ?_))); refine zD rfl (fun h11 => ?_) (fun h11 => ?_)
           ·refine yA (aI rfl (aI rfl (aB rfl (yB (ze (zb (zt ((r_fin (.inl rfl) rfl (.tmp rfl rfl (.tmp rfl rfl (.tmp rfl rfl .nil))) ?_))))))))); exact fun w' hw => ⟨by (subst_vars; rfl), hw.f0⟩
           ·refine zi (zO (zk (yA (aI rfl (aI rfl (aB rfl (yB (ze (r_fin (.inl rfl) rfl (.tmp rfl rfl (.tmp rfl rfl (.tmp rfl rfl .nil))) ?_))))))))); exact fun w' hw => ⟨by (rw [distK_none (by refine ⟨?_, ?_, ?_, ?_, ?_, ?_, ?_, ?_, ?_, ?_, ?_⟩ <;> assumption)]; rfl), hw.f0⟩
abbrev srcP (s : Str) : List Bk := (resOf (List.replicate 6 noBk) (parseP s)).1
abbrev srcF (s : Str) : Fl := (resOf (List.replicate 6 noBk) (parseP s)).2
def faultS (s : Str) : Ft := if (srcF s).1 = 0 then (outV (allK (srcP s))).2 else ((srcF s).1, ((srcF s).2 : Int))
theorem fault_ok (s : Str) (hs : s.length ≤ 10000000) (hp : ∀ b ∈ srcP s, bkW b < 10000000) (w : World) (hW : Wd w) (hng : 4 ≤ w.heap.size) :
  Ret Tryz.prog 24 #[str s] w (fun v w' => v = .agg (ftC (faultS s)).toArray ∧ Ext w w') := by
 refine enter (S := No) (l := [_]) (L := []) 16 Tryz.func24 rfl rfl rfl (St.start w No) (yA (zA zr37 (fun t2b gt2b ut2b => yC (zm (v := str _) rfl (zP (fun w => zR Tryz.func44 rfl rfl rfl) rfl rfl (fun w h => Parse_ok s hs w (hW.now zm0 h) (Nat.le_trans hng (h.fr _ zm0).size)) ?_)))))
 rintro w1 hw1 v w2 ⟨cs, rfl, hM, hne, hxx⟩; refine ⟨_, _, (hw1.ext hxx).base1, ?_⟩; have hK : Kt (w2, inL [_]) w.heap.size pgM (srcP s) cs := Kt.new hM TL.pg hw1 (hw1.fr _ zm0).size; have hcl : cs.length = 18 := hK.len; clear hM hne
 refine zm rfl (jx rfl rfl (jx rfl rfl (zA zr32 (fun t3b gt3b ut3b => zA zr37 (fun t4b gt4b ut4b => w_storeW cs 1 rfl z32 rfl rfl rfl hcl (pg_one hK) rfl (jv 0 z37 rfl (yB (zq (yA (zf fa37_0 rfl (jM 0 z35 rfl (jn rfl rfl (yB ?_))))))))))))); refine zD rfl (fun h4 => ?_) (fun h4 => ?_)
 ·refine yA (jy 0 z37 rfl rfl (jv 2 z37 rfl (yB (ze (zt ((r_fin (.inl rfl) rfl (.agg rfl rfl z37 (fun _ h => h.at_ 2 rfl) rfl .nil) ?_))))))); exact fun w' hw => ⟨by unfold faultS; rw [if_neg (show ¬ (srcF s).1 = 0 by show ¬ (resOf (List.replicate 6 noBk) (parseP s)).2.1 = 0; omega)]; rfl, hw.fr _ zm1⟩
 ·refine zi (zk (yA (w_loadW z32 rfl (fun w h => h.at_ 1 rfl) hcl (jD Tryz.func14 (fun w h => kCheck_ok (srcP s) cs w hp (hK.T TL.pg zm0 h) (hW.now zm1 h)) (jv 2 z37 rfl (yB (ze (r_fin (.inl rfl) rfl (.agg rfl rfl z37 (fun _ h => h.at_ 2 rfl) rfl .nil) ?_)))))))); exact fun w' hw => ⟨by unfold faultS; rw [if_pos (show (srcF s).1 = 0 by show (resOf (List.replicate 6 noBk) (parseP s)).2.1 = 0; omega)]; rfl, hw.fr _ zm1⟩
theorem fault0 (w : World) (hW : Wd w) (hng : 4 ≤ w.heap.size) : Ret Tryz.prog 24 #[str [112, 97, 114, 97, 109, 101, 116, 101, 114, 115, 32, 123, 32, 114, 101, 97, 108, 32, 120, 59, 32, 125, 32, 109, 111, 100, 101, 108, 32, 123, 32, 105, 102, 32, 40, 120, 32, 61, 61, 32, 49, 41, 32, 123, 32, 125, 32, 125]] w fun v w' => v = .agg #[.int .i64 152, .int .i64 35] ∧ Ext w w' := by
 have h := fault_ok [112, 97, 114, 97, 109, 101, 116, 101, 114, 115, 32, 123, 32, 114, 101, 97, 108, 32, 120, 59, 32, 125, 32, 109, 111, 100, 101, 108, 32, 123, 32, 105, 102, 32, 40, 120, 32, 61, 61, 32, 49, 41, 32, 123, 32, 125, 32, 125] (by decide) (by decide +kernel) w hW hng
 rw [show faultS [112, 97, 114, 97, 109, 101, 116, 101, 114, 115, 32, 123, 32, 114, 101, 97, 108, 32, 120, 59, 32, 125, 32, 109, 111, 100, 101, 108, 32, 123, 32, 105, 102, 32, 40, 120, 32, 61, 61, 32, 49, 41, 32, 123, 32, 125, 32, 125] = (152, 35) by kernel_rfl] at h
 exact h
theorem fault1 (w : World) (hW : Wd w) (hng : 4 ≤ w.heap.size) : Ret Tryz.prog 24 #[str [112, 97, 114, 97, 109, 101, 116, 101, 114, 115, 32, 123, 32, 114, 101, 97, 108, 32, 120, 59, 32, 125, 32, 109, 111, 100, 101, 108, 32, 123, 32, 120, 32, 126, 32, 110, 111, 114, 109, 97, 108, 40, 48, 44, 32, 121, 41, 59, 32, 125]] w fun v w' => v = .agg #[.int .i64 150, .int .i64 45] ∧ Ext w w' := by
 have h := fault_ok [112, 97, 114, 97, 109, 101, 116, 101, 114, 115, 32, 123, 32, 114, 101, 97, 108, 32, 120, 59, 32, 125, 32, 109, 111, 100, 101, 108, 32, 123, 32, 120, 32, 126, 32, 110, 111, 114, 109, 97, 108, 40, 48, 44, 32, 121, 41, 59, 32, 125] (by decide) (by decide +kernel) w hW hng
 rw [show faultS [112, 97, 114, 97, 109, 101, 116, 101, 114, 115, 32, 123, 32, 114, 101, 97, 108, 32, 120, 59, 32, 125, 32, 109, 111, 100, 101, 108, 32, 123, 32, 120, 32, 126, 32, 110, 111, 114, 109, 97, 108, 40, 48, 44, 32, 121, 41, 59, 32, 125] = (150, 45) by kernel_rfl] at h
 exact h
theorem fault2 (w : World) (hW : Wd w) (hng : 4 ≤ w.heap.size) : Ret Tryz.prog 24 #[str [100, 97, 116, 97, 32, 123, 32, 105, 110, 116, 32, 110, 59, 32, 114, 101, 97, 108, 32, 110, 59, 32, 125]] w fun v w' => v = .agg #[.int .i64 151, .int .i64 14] ∧ Ext w w' := by
 have h := fault_ok [100, 97, 116, 97, 32, 123, 32, 105, 110, 116, 32, 110, 59, 32, 114, 101, 97, 108, 32, 110, 59, 32, 125] (by decide) (by decide +kernel) w hW hng
 rw [show faultS [100, 97, 116, 97, 32, 123, 32, 105, 110, 116, 32, 110, 59, 32, 114, 101, 97, 108, 32, 110, 59, 32, 125] = (151, 14) by kernel_rfl] at h
 exact h
theorem fault3 (w : World) (hW : Wd w) (hng : 4 ≤ w.heap.size) : Ret Tryz.prog 24 #[str [112, 97, 114, 97, 109, 101, 116, 101, 114, 115, 32, 123, 32, 118, 101, 99, 116, 111, 114, 91, 50, 93, 32, 120, 59, 32, 125, 32, 109, 111, 100, 101, 108, 32, 123, 32, 116, 97, 114, 103, 101, 116, 32, 43, 61, 32, 120, 59, 32, 125]] w fun v w' => v = .agg #[.int .i64 152, .int .i64 46] ∧ Ext w w' := by
 have h := fault_ok [112, 97, 114, 97, 109, 101, 116, 101, 114, 115, 32, 123, 32, 118, 101, 99, 116, 111, 114, 91, 50, 93, 32, 120, 59, 32, 125, 32, 109, 111, 100, 101, 108, 32, 123, 32, 116, 97, 114, 103, 101, 116, 32, 43, 61, 32, 120, 59, 32, 125] (by decide) (by decide +kernel) w hW hng
 rw [show faultS [112, 97, 114, 97, 109, 101, 116, 101, 114, 115, 32, 123, 32, 118, 101, 99, 116, 111, 114, 91, 50, 93, 32, 120, 59, 32, 125, 32, 109, 111, 100, 101, 108, 32, 123, 32, 116, 97, 114, 103, 101, 116, 32, 43, 61, 32, 120, 59, 32, 125] = (152, 46) by kernel_rfl] at h
 exact h
theorem fault4 (w : World) (hW : Wd w) (hng : 4 ≤ w.heap.size) : Ret Tryz.prog 24 #[str [112, 97, 114, 97, 109, 101, 116, 101, 114, 115, 32, 123, 32, 114, 101, 97, 108, 32, 120, 59, 32, 125, 32, 109, 111, 100, 101, 108, 32, 123, 32, 120, 32, 126, 32, 110, 111, 114, 109, 97, 108, 40, 48, 44, 32, 49, 41, 59, 32, 125]] w fun v w' => v = .agg #[.int .i64 0, .int .i64 0] ∧ Ext w w' := by
 have h := fault_ok [112, 97, 114, 97, 109, 101, 116, 101, 114, 115, 32, 123, 32, 114, 101, 97, 108, 32, 120, 59, 32, 125, 32, 109, 111, 100, 101, 108, 32, 123, 32, 120, 32, 126, 32, 110, 111, 114, 109, 97, 108, 40, 48, 44, 32, 49, 41, 59, 32, 125] (by decide) (by decide +kernel) w hW hng
 rw [show faultS [112, 97, 114, 97, 109, 101, 116, 101, 114, 115, 32, 123, 32, 114, 101, 97, 108, 32, 120, 59, 32, 125, 32, 109, 111, 100, 101, 108, 32, 123, 32, 120, 32, 126, 32, 110, 111, 114, 109, 97, 108, 40, 48, 44, 32, 49, 41, 59, 32, 125] = (0, 0) by kernel_rfl] at h
 exact h
theorem disc_p (w : World) : Ret Tryz.prog 10 #[str [112, 111, 105, 115, 115, 111, 110]] w fun v w' => v = .tuple #[.int .i64 1, .bool true, .bool true] ∧ Ext w w' := Discrete_ok [112, 111, 105, 115, 115, 111, 110] w
theorem disc_x (w : World) : Ret Tryz.prog 10 #[str [120]] w fun v w' => v = .tuple #[.int .i64 0, .bool false, .bool false] ∧ Ext w w' := Discrete_ok [120] w
theorem head15_ok (w : World) (hW : Wd w) (hng : 4 ≤ w.heap.size) :
  Ret Tryz.prog 9 #[] w (fun v w' => v = .bool true ∧ Ext w w') := by
 refine enter (S := No) (l := []) (L := []) 54 Tryz.func9 rfl rfl rfl (St.start w No) (yA (aB rfl (yC (jD Tryz.func10 (fun w h => disc_p w) (zm rfl (jx rfl rfl (jx rfl rfl (jx rfl rfl (aI rfl (aB rfl (aB rfl (yC (jD Tryz.func10 (fun w h => disc_x w) (zm rfl (jx rfl rfl (jx rfl rfl (jx rfl rfl (aI rfl (aB rfl (aB rfl (yC (jD Tryz.func24 (fun w h => fault0 w (hW.now zm0 h) (Nat.le_trans hng (h.fr _ zm0).size)) (jb bt37 rfl (zg (fun _ => R_eqS fl37 rfl rfl (eq2_run (n := 9998) fl37 z35 z3 un35 un3)) (mB rfl ?_))))))))))))))))))))))))); refine zp (t := 20) rfl (fun h1 => ?_) (fun h1 => ?_)
 ·refine zw rfl rfl (bV h1) (jD Tryz.func24 (fun w h => fault1 w (hW.now zm0 h) (Nat.le_trans hng (h.fr _ zm0).size)) (zw rfl rfl (bV h1) (jb bt37 rfl (zw rfl rfl (bV h1) (zg (fun _ => R_eqS fl37 rfl rfl (eq2_run (n := 9998) fl37 z35 z3 un35 un3)) (jT (bV h1) rfl (mB rfl ?_))))))); refine zp (t := 25) rfl (fun h2 => ?_) (fun h2 => ?_)
  ·refine zw rfl rfl (bV h2) (jD Tryz.func24 (fun w h => fault2 w (hW.now zm0 h) (Nat.le_trans hng (h.fr _ zm0).size)) (zw rfl rfl (bV h2) (jb bt37 rfl (zw rfl rfl (bV h2) (zg (fun _ => R_eqS fl37 rfl rfl (eq2_run (n := 9998) fl37 z35 z3 un35 un3)) (jT (bV h2) rfl (mB rfl ?_))))))); refine zp (t := 30) rfl (fun h3 => ?_) (fun h3 => ?_)
   ·refine zw rfl rfl (bV h3) (jD Tryz.func24 (fun w h => fault3 w (hW.now zm0 h) (Nat.le_trans hng (h.fr _ zm0).size)) (zw rfl rfl (bV h3) (jb bt37 rfl (zw rfl rfl (bV h3) (zg (fun _ => R_eqS fl37 rfl rfl (eq2_run (n := 9998) fl37 z35 z3 un35 un3)) (jT (bV h3) rfl (mB rfl ?_))))))); refine zp (t := 35) rfl (fun h4 => ?_) (fun h4 => ?_)
    ·refine zw rfl rfl (bV h4) (jD Tryz.func24 (fun w h => fault4 w (hW.now zm0 h) (Nat.le_trans hng (h.fr _ zm0).size)) (zw rfl rfl (bV h4) (jb bt37 rfl (zw rfl rfl (bV h4) (zg (fun _ => R_eqS fl37 rfl rfl (eq2_run (n := 9998) fl37 z35 z3 un35 un3)) (jT (bV h4) rfl (mB rfl ?_))))))); refine zp (t := 40) rfl (fun h5 => ?_) (fun h5 => ?_)
     ·refine zw rfl rfl (bV h5) (mI rfl (zw rfl rfl (bV h5) (je rfl rfl (jT (bV h5) rfl (mB rfl ?_))))); refine zd (t := 44) rfl (fun h6 => ?_) (fun h6 => ?_)
      ·refine zw rfl rfl (bT h6) (mB rfl (jT (bT h6) rfl (mB rfl ?_))); refine zp (t := 47) rfl (fun h7 => ?_) (fun h7 => ?_)
       ·refine zw rfl rfl (bV h7) (mB rfl (jT (bV h7) rfl (mB rfl ?_))); refine zp (t := 50) rfl (fun h8 => ?_) (fun h8 => ?_)
        ·refine zw rfl rfl (bV h8) (mB rfl (zw rfl rfl (bV h8) (jk rfl (jT (bV h8) rfl (aB rfl (yB (ze (zo (v := .bool _) rfl rfl rfl ?_)))))))); exact fun w' hw => ⟨rfl, hw.f0⟩
        ·exact absurd h8 (by decide)
       ·exact absurd h7 (by decide)
      ·exact absurd (by rfl) h6
     ·exact absurd h5 (by decide)
    ·exact absurd h4 (by decide)
   ·exact absurd h3 (by decide)
  ·exact absurd h2 (by decide)
 ·exact absurd h1 (by decide)
end Go.Proofs.YtoehjlmdnajibaaGreatDoor
end
section
open Go.RowKit
namespace Go.Sx
theorem c_heldI {P : Program} {ops : Array Oper} {Q : Exit → Act → World → Prop} {e : Env} {B : Base} {L : Heap} {id : Nat} {n : Nat} {ds : List Deferred} (idx : List Nat) (hm : P.follows .mixedOrders = true) (h : WH P ops ⟨n, ds, none⟩ Q (St B (idx.filterMap fun i => L[i]?)) ops.size (Array.replicate ops.size false) e B L) : WC P ⟨n, ds, none⟩ (.region id ops true) Q e B L := c_held _ hm h
open Go.RowKit
def u8s (ts : List Nat) : List Value := ts.map fun t => .int .u8 (t : Nat)
abbrev OwnU (te : TypeId) (v : Value) (ts : List Nat) (W : Heap) : Prop := Own te 1 v (u8s ts) ts.length W
theorem OwnU.more {te : TypeId} {a : Option Addr} {c : Nat} {ts : List Nat} {t : Nat} {W : Heap} (h : Own te 1 (.slice a (ts.length + 1) c) (u8s ts ++ [.int .u8 (t : Nat)]) (ts.length + 1) W) : OwnU te (.slice a (ts ++ [t]).length c) (ts ++ [t]) W := by
  have e1 : (ts ++ [t]).length = ts.length + 1 := by simp
  have e2 : u8s (ts ++ [t]) = u8s ts ++ [.int .u8 (t : Nat)] := by simp [u8s]
  unfold OwnU; rw [e1, e2]; exact h
theorem OwnU.cell {te : TypeId} {a : Option Addr} {c i : Nat} {ts : List Nat} {W : Heap} (h : OwnU te (.slice a ts.length c) ts W) (hi : i < ts.length) : ∃ b, a = some ⟨b, 0, none⟩ ∧ ∀ (B : Base) (L : Heap) (w : World), (∀ p ∈ W, p ∈ L) → St B L w → ∀ (j t : Nat), ts[j]? = some t → w.cell? ⟨b, j, none⟩ = some (.int .u8 (t : Nat)) := by
  obtain ⟨b, h1, h2⟩ := Own.cell h hi
  exact ⟨b, h1, fun B L w hW hw j t ht => h2 B L w hW hw j _ (by unfold u8s; rw [List.getElem?_map, ht]; rfl)⟩
theorem at_get {ts : List Nat} {i : Nat} (h : i < ts.length) : ts[i]? = some (ts.getD i 0) := by rw [List.getD_eq_getElem?_getD, List.getElem?_eq_getElem h]; rfl
end Go.Sx
end
section
namespace Go.Knd
open Go.Tok Go.Tree
def oneY (ts : List Nat) : Nat := if ts.length = 1 then ts.getD 0 0 else 0
def rcall (nm : Str) (ts : List Nat) : Option Nat :=
  if nm ∈ ([[101, 120, 112], [108, 111, 103], [115, 113, 114, 116], [115, 113, 117, 97, 114, 101], [105, 110, 118, 95, 108, 111, 103, 105, 116]] : List Str) then some (if scal (oneY ts) = true then 2 else if oneY ts = 3 then 3 else 0)
  else if nm = [115, 117, 109] then some (if oneY ts = 4 then 1 else if oneY ts = 3 ∨ oneY ts = 5 then 2 else 0)
  else if nm = [100, 111, 116] then some (if ts.length = 2 ∧ ts.getD 0 0 = 3 ∧ ts.getD 1 0 = 3 then 2 else 0)
  else if nm = [115, 105, 122, 101] then some (if 3 ≤ oneY ts ∧ oneY ts ≤ 5 then 1 else 0)
  else none
theorem getD1 {ts : List Nat} (h : ts.length = 1) : ts.getD 1 0 = 0 := by
  rw [List.getD_eq_getElem?_getD, List.getElem?_eq_none (by omega)]; rfl
section
variable {l : List Vr} {at_ : Int} {nm : Str} {ks : List Ex} {ts : List Nat} {p : Bool}
theorem rcall_n (h : rcall nm ts = none) : ruleK l 4 at_ nm ks (ts.getD 0 0) (ts.getD 1 0) p = .error (150, at_) := by
  refine rule_4n ?_
  unfold rcall at h; unfold callK
  split at h
  · cases h
  rename_i h1
  rw [if_neg h1]
  split at h
  · cases h
  rename_i h2
  rw [if_neg h2]
  split at h
  · cases h
  rename_i h3
  rw [if_neg h3]
  split at h
  · cases h
  rename_i h4
  rw [if_neg h4]
theorem rcall_s {t : Nat} (hl : ts.length = ks.length) (h : rcall nm ts = some t) : ruleK l 4 at_ nm ks (ts.getD 0 0) (ts.getD 1 0) p = needT t at_ (if nm = [115, 105, 122, 101] then false else p) := by
  have hp : (p && !decide (nm = [115, 105, 122, 101])) = (if nm = [115, 105, 122, 101] then false else p) := by
    by_cases q : nm = [115, 105, 122, 101]
    · rw [if_pos q, decide_eq_true q]; simp
    rw [if_neg q, decide_eq_false q]; simp
  have fin : ∀ (c : Nat) (n : Nat), callK nm (ts.getD 0 0) (ts.getD 1 0) = some c → (if nm = [100, 111, 116] then 2 else 1) = n → (ts.length = n → c = t) → (ts.length ≠ n → t = 0) → ruleK l 4 at_ nm ks (ts.getD 0 0) (ts.getD 1 0) p = needT t at_ (if nm = [115, 105, 122, 101] then false else p) := by
    intro c n hc hn h1 h2
    rw [rule_4s hc, hn, ← hp]
    by_cases q : ts.length = n
    · rw [decide_eq_true (hl.symm.trans q), h1 q, needT_k]; rfl
    rw [decide_eq_false (fun hh => q (hl.trans hh)), h2 q]; rfl
  unfold rcall at h
  have hone : ts.length ≠ 1 → oneY ts = 0 := fun q => by unfold oneY; rw [if_neg q]
  have hone1 : ts.length = 1 → oneY ts = ts.getD 0 0 := fun q => by unfold oneY; rw [if_pos q]
  split at h
  · rename_i h1
    have hd : ¬ nm = [100, 111, 116] := by rintro rfl; exact absurd h1 (by decide)
    refine fin _ 1 (by unfold callK; rw [if_pos h1]) (if_neg hd) (fun q => ?_) (fun q => ?_)
    · cases h
      rw [hone1 q, getD1 q, if_pos rfl]
      unfold scal
      by_cases q1 : ts.getD 0 0 = 1 <;> by_cases q2 : ts.getD 0 0 = 2 <;> simp [q1, q2]
    cases h
    rw [hone q]; rfl
  rename_i h1
  split at h
  · rename_i h2
    subst h2
    refine fin _ 1 (by unfold callK; rw [if_neg (by decide), if_pos rfl]) rfl (fun q => ?_) (fun q => ?_)
    · cases h; rw [hone1 q, getD1 q, if_pos rfl]
    cases h; rw [hone q]; rfl
  rename_i h2
  split at h
  · rename_i h3
    subst h3
    refine fin _ 2 (by unfold callK; rw [if_neg (by decide), if_neg (by decide), if_pos rfl]) rfl (fun q => ?_) (fun q => ?_)
    · cases h; simp [q]
    cases h; rw [if_neg (fun hh => q hh.1)]
  rename_i h3
  split at h
  · rename_i h4
    subst h4
    refine fin _ 1 (by unfold callK; rw [if_neg (by decide), if_neg (by decide), if_neg (by decide), if_pos rfl]) rfl (fun q => ?_) (fun q => ?_)
    · cases h
      rw [hone1 q, getD1 q, if_pos rfl]
      by_cases q2 : 3 ≤ ts.getD 0 0 ∧ ts.getD 0 0 ≤ 5
      · rw [if_pos q2, if_pos (by omega)]
      rw [if_neg q2, if_neg (by omega)]
    cases h; rw [hone q]; rfl
  cases h
end
theorem needT_0 {t : Nat} {a : Int} {p : Bool} (h : t = 0) : needT t a p = .error (152, a) := by unfold needT; rw [if_pos h]
theorem needT_1 {t : Nat} {a : Int} {p : Bool} (h : ¬ t = 0) : needT t a p = .ok (t, p) := by unfold needT; rw [if_neg h]
theorem idx_0 {t : Nat} (h : ¬ (t = 3 ∨ t = 4 ∨ t = 5)) : idxT t = 0 := by unfold idxT; split <;> (try split) <;> omega
theorem idx_n {t : Nat} (h : t = 3 ∨ t = 4 ∨ t = 5) : idxT t ≠ 0 := by unfold idxT; split <;> (try split) <;> omega
section
variable {l : List Vr} {at_ : Int} {nm : Str} {a b : Nat} {p : Bool} {v : Vr} {k : Ex} {ks : List Ex}
theorem rule_1' : ruleK l 1 at_ nm ks a b p = needT (if digitsK nm = true then 1 else 2) at_ p := rfl
theorem rule_5' : ruleK l 5 at_ nm ks a b p = needT (if a ≤ 3 then a else 0) at_ p := rfl
theorem rule_6' {op : Nat} (h : op = 6 ∨ op = 7 ∨ op = 8 ∨ op = 9) : ruleK l op at_ nm ks a b p = needT (twoK op a b) at_ p := by rw [rule_6 h, needT_k]
theorem rule_3a (h : findV l nm = some v) (h1 : ¬ (v.ty = 3 ∨ v.ty = 4 ∨ v.ty = 5)) : ruleK l 3 at_ nm [k] a b p = .error (152, at_) := by rw [rule_3s h, idx_0 h1]; rfl
theorem rule_3b (h : findV l nm = some v) (h1 : v.ty = 3 ∨ v.ty = 4 ∨ v.ty = 5) (h2 : ¬ a = 1) : ruleK l 3 at_ nm [k] a b p = .error (152, k.at_) := by
  rw [rule_3s h, decide_eq_false (idx_n h1)]
  show andK (countedK k (a, p)) _ = _
  unfold countedK; rw [decide_eq_false (show ¬ (a, p).1 = 1 from h2)]; rfl
theorem rule_3c (h : findV l nm = some v) (h1 : v.ty = 3 ∨ v.ty = 4 ∨ v.ty = 5) (h2 : a = 1) (h3 : p = true) : ruleK l 3 at_ nm [k] a b p = .error (153, k.at_) := by
  rw [rule_3s h, decide_eq_false (idx_n h1)]
  show andK (countedK k (a, p)) _ = _
  subst h2; subst h3; rfl
theorem rule_3d (h : findV l nm = some v) (h1 : v.ty = 3 ∨ v.ty = 4 ∨ v.ty = 5) (h2 : a = 1) (h3 : p = false) : ruleK l 3 at_ nm [k] a b p = .ok (if v.ty = 4 then 1 else 2, v.par) := by
  rw [rule_3s h, decide_eq_false (idx_n h1)]
  show andK (countedK k (a, p)) _ = _
  subst h2; subst h3
  have : idxT v.ty = (if v.ty = 4 then 1 else 2) := by unfold idxT; split <;> (try split) <;> omega
  rw [this]; rfl
end
end Go.Knd
end
section
namespace Go.Knd
open Go.Tok Go.Tree
mutual
def mapA (g : Int → Int) : Ex → Ex
  | .mk op a nm ks => .mk op (g a) nm (mapsA g ks)
def mapsA (g : Int → Int) : List Ex → List Ex
  | [] => []
  | e :: l => mapA g e :: mapsA g l
end
def mapF {α : Type} (g : Int → Int) : Except Ft α → Except Ft α
  | .ok a => .ok a
  | .error f => .error (f.1, g f.2)
mutual
def speaksK (s : Str) : Ex → Bool
  | .mk _ _ nm ks => decide (nm = s) || speaksS s ks
def speaksS (s : Str) : List Ex → Bool
  | [] => false
  | e :: l => speaksK s e || speaksS s l
end
end Go.Knd
end
section
namespace Go.Knd
open Go.Tok Go.Tree
theorem need_code {t : Nat} {a : Int} {p : Bool} {f : Ft} (h : needT t a p = .error f) : f.1 = 152 := by
  unfold needT at h
  split at h
  · cases h; rfl
  cases h
theorem rule_code {l : List Vr} {op : Nat} {a : Int} {nm : Str} {ks : List Ex} {t u : Nat} {p : Bool} {f : Ft} (h : ruleK l op a nm ks t u p = .error f) : f.1 = 150 ∨ f.1 = 152 ∨ f.1 = 153 := by
  unfold ruleK at h
  by_cases h1 : op = 1
  · rw [if_pos h1] at h; exact .inr (.inl (need_code h))
  · rw [if_neg h1] at h
    by_cases h2 : op = 2
    · rw [if_pos h2] at h
      cases hf : findV l nm with
      | none => rw [hf] at h; cases h; exact .inl rfl
      | some v => rw [hf] at h; cases h
    · rw [if_neg h2] at h
      by_cases h3 : op = 3
      · rw [if_pos h3] at h
        cases hf : findV l nm with
        | none => rw [hf] at h; cases h; exact .inl rfl
        | some v =>
          rw [hf] at h
          dsimp only at h
          split at h
          · cases h; exact .inr (.inl rfl)
          · cases ks with
            | nil => cases h; exact .inr (.inl rfl)
            | cons k r =>
              dsimp only at h
              split at h
              · cases h; exact .inr (.inl rfl)
              · split at h
                · cases h; exact .inr (.inr rfl)
                · exact .inr (.inl (need_code h))
      · rw [if_neg h3] at h
        by_cases h4 : op = 4
        · rw [if_pos h4] at h
          cases hc : callK nm t u with
          | none => rw [hc] at h; cases h; exact .inl rfl
          | some x =>
            rw [hc] at h
            dsimp only at h
            by_cases h5 : ks.length ≠ (if nm = [100, 111, 116] then 2 else 1)
            · rw [if_pos h5] at h; cases h; exact .inr (.inl rfl)
            · rw [if_neg h5] at h; exact .inr (.inl (need_code h))
        · rw [if_neg h4] at h
          split at h
          · exact .inr (.inl (need_code h))
          · exact .inr (.inl (need_code h))
mutual
theorem of_code {l : List Vr} : ∀ (e : Ex) (f : Ft), ofK l e = .error f → f.1 = 150 ∨ f.1 = 152 ∨ f.1 = 153
  | .mk op a nm ks, f, h => by
    rw [ofK] at h
    cases hq : kidsK l ks with
    | error f2 => rw [hq] at h; cases h; exact kids_code ks f hq
    | ok r => rw [hq] at h; exact rule_code h
theorem kids_code {l : List Vr} : ∀ (ks : List Ex) (f : Ft), kidsK l ks = .error f → f.1 = 150 ∨ f.1 = 152 ∨ f.1 = 153
  | [], f, h => by rw [kidsK] at h; cases h
  | e :: r, f, h => by
    rw [kidsK] at h
    cases hq : ofK l e with
    | error f2 => rw [hq] at h; cases h; exact of_code e f hq
    | ok k =>
      rw [hq] at h
      dsimp only at h
      cases hr : kidsK l r with
      | error f2 => rw [hr] at h; cases h; exact kids_code r f hr
      | ok r2 => rw [hr] at h; cases h
end
end Go.Knd
end
