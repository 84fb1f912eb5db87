/- TreeApart: what is written of two right programs is the same just when they are. Part 9 of 12. -/
import Derived.Test.YtcmcdgkjipnfnaaDoorA02
import Derived.Test.YtcmcdgkjipnfnaaDoorA08
import Derived.Test.YtcmcdgkjipnfnaaDoorA07
section
namespace Go.Proofs.YtcmcdgkjipnfnaaDoor
open Go.RowKit Go.Sx
open Go.Tok Go.Tree


theorem OwnT_nil : OwnT (.slice none 0 0) [] [] := Own.nil _ 1
theorem heads_get {i : Nat} (h : i < 6) : [str (headS 0), str (headS 1), str (headS 2), str (headS 3), str (headS 4), str (headS 5)][0 + i * 1]? = some (str (headS i)) := by
 obtain rfl | rfl | rfl | rfl | rfl | rfl : i = 0 ∨ i = 1 ∨ i = 2 ∨ i = 3 ∨ i = 4 ∨ i = 5 := by omega
 all_goals rfl
theorem Fields_head {i : Nat} (h : i < 6) (w : World) (ht : Tb w) : Ret Tryd.prog 27 #[str (headS i)] w fun v w' =>
  v = .slice (some ⟨w.heap.size, 0, none⟩) (headW i).length (headW i).length ∧ w' = w.alloc (cel ((headW i).map str) 9) := by
 have := Fields_spec (headS i) w (heads_ok h).1 (heads_ascii h) ht
 rw [(heads_ok h).2.2.1] at this
 exact this

set_option maxRecDepth 100000 in
set_option maxHeartbeats 8000000 in
theorem Write_spec (pg : List Bk) (cs : List Value) (N : Nat → Prop) (w : World) (hp : ∀ b ∈ pg, bkW b < 10000000) (hm : pgM w N pg cs) (hW : Wd w) (hl : (pgT pg).length ≤ 1000000000) (hb : (textT (pgT pg)).length ≤ 1000000000) :
  Ret Tryd.prog 10 #[.agg cs.toArray] w (fun v w' => v = .tuple #[str (if pgOk pg then textT (pgT pg) else []), .int .i64 (if pgOk pg then 0 else 120)] ∧ Ext w w') := by
 refine enter (S := No) (l := [_]) (L := []) 67 Tryd.func10 rfl rfl rfl (St.start w No) ?_; refine yA ?_; refine w_boxA rfl (fun t1b gt1b ut1b => ?_)
 refine za (v := str _) rfl ?_; refine aI rfl ?_; refine yB ?_; refine zq ?_; refine yA ?_; refine w_loadW z30 rfl (fun _ h => h.at_ 0 rfl) hm.len ?_; refine zC (fun w => zR Tryd.func25 rfl rfl rfl) rfl rfl (fun w h => Check_spec pg cs N w hp (hm.now (fun _ _ hh => hh) (.head _) h) (hW.now (.head _) h)) ?_; refine aI rfl ?_; refine yC ?_; refine mI rfl ?_; refine w_r (fun _ => R_ne rfl rfl) rfl rfl ?_; refine yB ?_; refine zD rfl (fun h2 => ?_) (fun h2 => ?_)
 ·have hok : pgOk pg = false := (by cases hq : pgOk pg with | false => rfl | true => rw [hq] at h2; exact absurd rfl h2)
  refine yA ?_; refine mI rfl ?_; refine za (v := str _) rfl ?_; refine aI rfl ?_; refine yB ?_; refine ze ?_; refine zt (?_)
  refine r_two (v := str _) (v2 := .int _ _) rfl rfl rfl rfl rfl ?_; exact fun w' hw => ⟨by rw [hok]; rfl, hw.fr _ (.head _)⟩
 ·have hok : pgOk pg = true := (by cases hq : pgOk pg with | true => rfl | false => rw [hq] at h2; exact absurd (by decide) h2)
  refine zi ?_; refine zk ?_; refine yA ?_; refine w_r (fun _ => R_buildA ar60 zr60 rfl) rfl rfl ?_; refine w_alloc zr60 (fun t5b gt5b ut5b => ?_)
  refine w_store 0 rfl z60 rfl rfl rfl rfl rfl rfl rfl ?_; refine yC ?_; refine w_r (fun _ => R_build bt64 rfl) rfl rfl ?_; refine w_boxA rfl (fun p gp up => ?_)
  refine za (v := .pointer _) rfl ?_; refine yB ?_; refine zq ?_; refine yA ?_; refine zf fa30_0 rfl ?_; refine w_loadW z28 rfl (fun _ h => h.at_ 2 rfl) hm.len ?_; refine mI rfl ?_; refine yB ?_; refine zB ?_; refine c_st (B' := _) (L' := (p, cel [.slice none 0 0] 64) :: ([] ++ [(t5b, cel [str (headS 0), str (headS 1), str (headS 2), str (headS 3), str (headS 4), str (headS 5)] 60), (t1b, cel cs 30)])) (fun w h => h) ?_
  refine c_loop (fun m e B L => ∃ (i : Nat) (v : Value) (W : Heap), e 5 = .pointer (some ⟨t5b, 0, none⟩) ∧ e 6 = .pointer (some ⟨p, 0, none⟩) ∧ e 22 = .agg cs.toArray ∧ e 23 = .int .i64 (i : Nat) ∧ B = [(w, No)] ∧ L = (p, cel [v] 64) :: (W ++ [(t5b, cel [str (headS 0), str (headS 1), str (headS 2), str (headS 3), str (headS 4), str (headS 5)] 60), (t1b, cel cs 30)]) ∧ i ≤ 6 ∧ OwnT v (pgTo pg i) W ∧ m = 6 - i) _ ⟨0, _, [], rfl, rfl, rfl, rfl, rfl, rfl, Nat.zero_le _, OwnS.eq OwnT_nil (pgTo_zero pg).symm, rfl⟩ ?_
  rintro m e B L ⟨i, v, W, e5_1, e6_1, e22_1, e23_1, rfl, rfl, hi, hO, rfl⟩
  refine yA ?_; refine w_r (fun _ => R_lt e23_1 rfl) rfl rfl ?_; refine yB ?_; refine zq ?_; refine zD rfl (fun h5 => ?_) (fun h5 => ?_)
  ·have hi6 : i < 6 := (by omega); obtain ⟨b, hb⟩ : ∃ b, pg[i]? = some b := ⟨_, List.getElem?_eq_getElem (by rw [hm.six]; exact hi6)⟩; have hbw := hp b (List.mem_of_getElem? hb); unfold bkW at hbw; obtain ⟨da, dc, sa, sc, hcb, hds, hss⟩ := hm.one i b hb; have hfb := pg_facts hok hi6 hb; have hnb := pgTo_next hb; have hlb := pgTo_le (p := pg) (k := i + 1) (n := 6) (by omega)
   refine zi ?_; refine zk ?_; refine zq ?_; refine zB ?_; refine yA ?_; refine mI e23_1 ?_; refine w_r (v := .agg (List.toArray [.bool b.is, .slice da b.decls.length dc, .slice sa b.stmts.length sc])) (fun _ => R_aidxA (i := i) ara28 e22_1 e23_1 (by omega) hcb) rfl rfl ?_; refine w_alloc zr27 (fun t8b gt8b ut8b => ?_)
   refine aI rfl ?_; refine w_store 0 rfl z27 rfl rfl rfl rfl rfl rfl rfl ?_; refine yB ?_; refine zq ?_; refine yA ?_; refine zf fa27_0 rfl ?_; refine zl z4 rfl (fun _ h => zc 0 rfl rfl h) ?_; refine w_r (fun _ => R_not rfl) rfl rfl ?_; refine yB ?_; refine c_condN rfl (fun h7 => ?_) (fun h7 => ?_)
   ·have heq : bkT i b = [] := (by unfold bkT; rw [if_neg (by simp_all)])
    refine c_exit ?_; refine zx (b_here rfl (zk ?_)); refine zr ?_; refine w_r (fun _ => R_addi e23_1 rfl (by omega)) rfl rfl ?_; refine mI rfl ?_; refine zn ?_; refine k_st (B' := _) (L' := _) (fun w h => h.drop (List.sublist_append_right [_] _)) ?_; exact k_again _ (by omega) ⟨i + 1, _, _, e5_1, e6_1, e22_1, rfl, rfl, rfl, by omega, OwnS.eq hO (by rw [hnb, heq]; simp), rfl⟩
   ·have heq : bkT i b = headW i ++ [[123]] ++ dcsT b.decls ++ (smsT b.stmts).flatten ++ [[125]] := (by unfold bkT; rw [if_pos (by simp_all)]); have hnl := congrArg List.length hnb; rw [heq] at hnl; simp only [List.length_append, List.length_cons, List.length_nil] at hnl; have hle0 : (pgTo pg 6).length ≤ 1000000000 := hl
    refine zi ?_; refine zk ?_; refine yA ?_; refine mP e6_1 ?_; refine mI rfl ?_; refine w_r (fun _ => R_iaA (i := i) ar60 (by decide) e5_1 rfl (by first | omega | decide)) rfl rfl ?_; refine zl (v := str (headS i)) z9 rfl (fun w h => zM (b := t5b) (cs := [str (headS 0), str (headS 1), str (headS 2), str (headS 3), str (headS 4), str (headS 5)]) (T := 60) (by simp) (heads_get hi6) h) ?_; refine w_callN (g := fun b => .slice (some ⟨b, 0, none⟩) (headW i).length (headW i).length) (fun w => zR Tryd.func27 rfl rfl rfl) rfl rfl (fun w h => Fields_head hi6 w (hW.now (.head _) h).tb) (fun b8 gb8 ub8 => ?_)
    refine w_pen (A := [_, _]) (Lr := [(t5b, cel [str (headS 0), str (headS 1), str (headS 2), str (headS 3), str (headS 4), str (headS 5)] 60), (t1b, cel cs 30)]) (headW i) (fun w => zR Tryd.func26 rfl rfl rfl) rfl rfl hO (fun w h => put_spec p _ _ w _ _ (headW i) (heads_ok hi6).2.2.2.2 (by first | omega | (simp only [List.length_append, List.length_cons, List.length_nil] at *; omega)) (.head _) h) (fun v9 W9 hO9 => ?_)
    refine yC ?_; refine mP e6_1 ?_; refine zS slt62 (by decide) rfl rfl (fun b10 gb10 ub10 => ?_)
    refine w_pen (A := [_, _, _]) (Lr := [(t5b, cel [str (headS 0), str (headS 1), str (headS 2), str (headS 3), str (headS 4), str (headS 5)] 60), (t1b, cel cs 30)]) ([[123]]) (fun w => zR Tryd.func26 rfl rfl rfl) rfl rfl hO9 (fun w h => put_spec p _ _ w _ b10 ([[123]]) (Nat.succ_pos _) (by first | omega | (simp only [List.length_append, List.length_cons, List.length_nil] at *; omega)) (.head _) h) (fun v11 W11 hO11 => ?_)
    refine yB ?_; refine zq ?_; refine yA ?_; refine zf fa27_1 rfl ?_; refine zl z24 rfl (fun _ h => zc 2 rfl rfl h) ?_; refine w_r (fun _ => R_len sl24 rfl) rfl rfl ?_; refine mI rfl ?_; refine yB ?_; refine zB ?_; refine c_st (B' := _) (L' := (t8b, cel [.bool b.is, .slice da b.decls.length dc, .slice sa b.stmts.length sc] 27) :: _) (fun w h => h.drop (List.sublist_append_right [_, _] _)) ?_
    refine c_loop (fun m e B L => ∃ (k : Nat) (v : Value) (W : Heap), e 5 = .pointer (some ⟨t5b, 0, none⟩) ∧ e 6 = .pointer (some ⟨p, 0, none⟩) ∧ e 22 = .agg cs.toArray ∧ e 23 = .int .i64 (i : Nat) ∧ e 8 = .pointer (some ⟨t8b, 0, none⟩) ∧ e 40 = .slice da b.decls.length dc ∧ e 41 = .int .i64 (b.decls.length : Nat) ∧ e 42 = .int .i64 (k : Nat) ∧ B = [(w, No)] ∧ L = (t8b, cel [.bool b.is, .slice da b.decls.length dc, .slice sa b.stmts.length sc] 27) :: (p, cel [v] 64) :: (W ++ [(t5b, cel [str (headS 0), str (headS 1), str (headS 2), str (headS 3), str (headS 4), str (headS 5)] 60), (t1b, cel cs 30)]) ∧ k ≤ b.decls.length ∧ OwnT v (pgTo pg i ++ headW i ++ [[123]] ++ dcsT (b.decls.take k)) W ∧ m = b.decls.length - k) _ ⟨0, _, _, e5_1, e6_1, e22_1, e23_1, rfl, rfl, rfl, rfl, rfl, rfl, Nat.zero_le _, OwnS.eq hO11 (by simp [dcsT]), rfl⟩ ?_
    rintro m e B L ⟨k, v, W, e5_2, e6_2, e22_2, e23_2, e8_2, e40_2, e41_2, e42_2, rfl, rfl, hk, hO, rfl⟩
    refine yA ?_; refine w_r (fun _ => R_lt e42_2 e41_2) rfl rfl ?_; refine yB ?_; refine zq ?_; refine zD rfl (fun h12 => ?_) (fun h12 => ?_)
    ·have hlt : k < b.decls.length := (by omega); obtain ⟨x, hxk⟩ : ∃ x, b.decls[k]? = some x := ⟨_, List.getElem?_eq_getElem hlt⟩; obtain ⟨cs2, hA, hE⟩ := hds k x hxk; have hxn := dcsW_mem (List.mem_of_getElem? hxk); obtain ⟨b1, o1, rfl⟩ := hA.ptr; have hE2 := hE; obtain ⟨ty, at_, nm, sz, lo, up, ini⟩ := x; unfold dcM at hE2; obtain ⟨xa, xc, la, lc, ua, uc, ia, ic, hcs, hsz, hlo, hup, hini⟩ := hE2; simp only [] at hcs; subst hcs; have hxo := hfb.1 _ (List.mem_of_getElem? hxk); have hnx := dcsT_next hxk; have hle := dcsT_le b.decls (k + 1); have hnl2 := congrArg List.length hnx; simp only [List.length_append] at hnl2
     refine zi ?_; refine zk ?_; refine zq ?_; refine zB ?_; refine yA ?_; refine w_r (fun _ => R_iaN (i := k) sl24 e40_2 e42_2 (by first | omega | decide)) rfl rfl ?_; refine w_loadC (l := [.int .u8 (ty : Nat), .int .i64 at_, str nm, .slice xa sz.length xc, .slice la lo.length lc, .slice ua up.length uc, .slice ia ini.length ic]) z53 rfl rfl (fun w h j v hj => hA.cell (fun _ _ hh => hh) (.head _) h j v hj) ?_; refine w_alloc zr53 (fun t10b gt10b ut10b => ?_)
     refine w_store 0 rfl z53 rfl rfl rfl rfl rfl rfl rfl ?_; refine yB ?_; refine zr ?_; refine mP e6_2 ?_; refine w_loadA z53 rfl (fun _ h => h.at_ 0 rfl) rfl ?_; refine w_pen (A := [_, _]) (Lr := [(t5b, cel [str (headS 0), str (headS 1), str (headS 2), str (headS 3), str (headS 4), str (headS 5)] 60), (t1b, cel cs 30)]) (dcT (Dc.mk ty at_ nm sz lo up ini)) (fun w => zR Tryd.func28 rfl rfl rfl) rfl rfl hO (fun w h => pdecl_spec _ _ N _ p _ _ w _ (by omega) hxo hE (fun _ _ hh => hh) (.head _) (by first | omega | (simp only [List.length_append, List.length_cons, List.length_nil] at *; omega)) h) (fun v14 W14 hO14 => ?_)
     refine zn ?_; refine b_on (zk ?_); refine zr ?_; refine w_r (fun _ => R_addi e42_2 rfl (by omega)) rfl rfl ?_; refine mI rfl ?_; refine zn ?_; refine k_st (B' := _) (L' := _) (fun w h => h.drop (List.sublist_append_right [_] _)) ?_; exact k_again _ (by omega) ⟨k + 1, _, _, e5_2, e6_2, e22_2, e23_2, e8_2, e40_2, e41_2, rfl, rfl, rfl, by omega, OwnS.eq hO14 (by rw [hnx]; simp), rfl⟩
    ·refine c_exit ?_; refine zx (zx (b_here rfl (zk ?_))); refine zq ?_; refine yA ?_; refine zf fa27_2 e8_2 ?_; refine zl z25 rfl (fun _ h => zc 0 rfl rfl h) ?_; refine w_r (fun _ => R_len sl25 rfl) rfl rfl ?_; refine mI rfl ?_; refine yB ?_; refine zB ?_
     refine c_loop (fun m e B L => ∃ (k : Nat) (v : Value) (W : Heap), e 5 = .pointer (some ⟨t5b, 0, none⟩) ∧ e 6 = .pointer (some ⟨p, 0, none⟩) ∧ e 22 = .agg cs.toArray ∧ e 23 = .int .i64 (i : Nat) ∧ e 8 = .pointer (some ⟨t8b, 0, none⟩) ∧ e 51 = .slice sa b.stmts.length sc ∧ e 52 = .int .i64 (b.stmts.length : Nat) ∧ e 53 = .int .i64 (k : Nat) ∧ B = [(w, No)] ∧ L = (t8b, cel [.bool b.is, .slice da b.decls.length dc, .slice sa b.stmts.length sc] 27) :: (p, cel [v] 64) :: (W ++ [(t5b, cel [str (headS 0), str (headS 1), str (headS 2), str (headS 3), str (headS 4), str (headS 5)] 60), (t1b, cel cs 30)]) ∧ k ≤ b.stmts.length ∧ OwnT v (pgTo pg i ++ headW i ++ [[123]] ++ dcsT b.decls ++ (smsT (b.stmts.take k)).flatten) W ∧ m = b.stmts.length - k) _ ⟨0, _, _, e5_2, e6_2, e22_2, e23_2, e8_2, rfl, rfl, rfl, rfl, rfl, Nat.zero_le _, OwnS.eq hO (by rw [List.take_of_length_le (by omega)]; simp [smsT]), rfl⟩ ?_
     rintro m e B L ⟨k, v, W, e5_3, e6_3, e22_3, e23_3, e8_3, e51_3, e52_3, e53_3, rfl, rfl, hk, hO, rfl⟩
     refine yA ?_; refine w_r (fun _ => R_lt e53_3 e52_3) rfl rfl ?_; refine yB ?_; refine zq ?_; refine zD rfl (fun h15 => ?_) (fun h15 => ?_)
     ·have hlt : k < b.stmts.length := (by omega); obtain ⟨x, hxk⟩ : ∃ x, b.stmts[k]? = some x := ⟨_, List.getElem?_eq_getElem hlt⟩; obtain ⟨cs, hA, hE⟩ := hss.get0 hxk; have hxn := smsW_mem (List.mem_of_getElem? hxk); have hxo := smsOk_get hfb.2 hxk; have hle := smsT_le b.stmts (k + 1); have hnx := smsT_next hxk; rw [hnx] at hle; simp only [List.length_append] at hle; obtain ⟨b1, o1, rfl⟩ := hA.ptr; obtain ⟨op, at_, nm, ks, bo, el⟩ := x; have hE2 := hE; unfold smM at hE2; obtain ⟨ka, kc, ba, bc, ea, ec, rfl, hkc, hks, hbo, hel⟩ := hE2
      refine zi ?_; refine zk ?_; refine zq ?_; refine zB ?_; refine yA ?_; refine w_r (fun _ => R_iaN (i := k) sl25 e51_3 e53_3 (by first | omega | decide)) rfl rfl ?_; refine w_loadC (l := [.int .u8 (op : Nat), .int .i64 at_, str nm, .slice ka ks.length kc, .slice ba bo.length bc, .slice ea el.length ec]) z38 rfl rfl (fun w h j v hj => hA.cell (fun _ _ hh => hh) (.head _) h j v hj) ?_; refine w_alloc zr38 (fun t12b gt12b ut12b => ?_)
      refine w_store 0 rfl z38 rfl rfl rfl rfl rfl rfl rfl ?_; refine yB ?_; refine zr ?_; refine mP e6_3 ?_; refine w_loadA z38 rfl (fun _ h => h.at_ 0 rfl) rfl ?_; refine w_pen (A := [_, _]) (Lr := [(t5b, cel [str (headS 0), str (headS 1), str (headS 2), str (headS 3), str (headS 4), str (headS 5)] 60), (t1b, cel cs 30)]) (smT (Sm.mk op at_ nm ks bo el)) (fun w => zR Tryd.func29 rfl rfl rfl) rfl rfl hO (fun w h => pstmt_ok _ _ N _ p _ _ w _ (by omega) hxo hE (fun _ _ hh => hh) (.head _) (by first | omega | (simp only [List.length_append, List.length_cons, List.length_nil] at *; omega)) h) (fun v17 W17 hO17 => ?_)
      refine zn ?_; refine b_on (zk ?_); refine zr ?_; refine w_r (fun _ => R_addi e53_3 rfl (by omega)) rfl rfl ?_; refine mI rfl ?_; refine zn ?_; refine k_st (B' := _) (L' := _) (fun w h => h.drop (List.sublist_append_right [_] _)) ?_; exact k_again _ (by omega) ⟨k + 1, _, _, e5_3, e6_3, e22_3, e23_3, e8_3, e51_3, e52_3, rfl, rfl, rfl, by omega, OwnS.eq hO17 (by rw [hnx]; simp), rfl⟩
     ·have hle := smsT_le b.stmts k
      refine c_exit ?_; refine zx (zx (b_here rfl (zk ?_))); refine zr ?_; refine mP e6_3 ?_; refine zS slt62 (by decide) rfl rfl (fun b18 gb18 ub18 => ?_)
      refine w_pen (A := [_, _]) (Lr := [(t5b, cel [str (headS 0), str (headS 1), str (headS 2), str (headS 3), str (headS 4), str (headS 5)] 60), (t1b, cel cs 30)]) ([[125]]) (fun w => zR Tryd.func26 rfl rfl rfl) rfl rfl hO (fun w h => put_spec p _ _ w _ b18 ([[125]]) (Nat.succ_pos _) (by first | omega | (simp only [List.length_append, List.length_cons, List.length_nil] at *; omega)) (.head _) h) (fun v19 W19 hO19 => ?_)
      refine zn ?_; refine b_on (zk ?_); refine zr ?_; refine w_r (fun _ => R_addi e23_3 rfl (by omega)) rfl rfl ?_; refine mI rfl ?_; refine zn ?_; refine k_st (B' := _) (L' := _) (fun w h => h.drop (List.sublist_append_right [_, _] _)) ?_; exact k_again _ (by omega) ⟨i + 1, _, _, e5_3, e6_3, e22_3, rfl, rfl, rfl, by omega, OwnS.eq hO19 (by rw [hnb, heq, List.take_of_length_le (by omega)]; simp), rfl⟩
  ·obtain rfl : i = 6 := (by omega)
   refine c_exit ?_; refine zx (zx (b_here rfl (zk ?_))); refine yA ?_; refine mP e6_1 ?_; refine w_lets (str (textT (pgT pg))) (fun w => zR Tryd.func30 rfl rfl rfl) rfl rfl (fun w h => text_spec p _ _ w _ hl hb ⟨_, _, hO, h⟩) ?_; refine za (v := str _) rfl ?_; refine aI rfl ?_; refine yB ?_; refine ze ?_; refine r_two (v := str _) (v2 := .int _ _) rfl rfl rfl rfl rfl ?_; exact fun w' hw => ⟨by rw [hok]; rfl, hw.fr _ (.head _)⟩
end Go.Proofs.YtcmcdgkjipnfnaaDoor
end

section
namespace Go.Proofs.YtcmcdgkjipnfnaaDoor
open Go.RowKit Go.Sx
open Go.Tok Go.Tree
theorem celEq {B : Base} {b : Nat} {l l' : List Value} {T : TypeId} {L : Heap} {w : World} (h : St B ((b, cel l T) :: L) w) (e : l = l') : St B ((b, cel l' T) :: L) w := e ▸ h
end Go.Proofs.YtcmcdgkjipnfnaaDoor
end

section
namespace Go.Proofs.YtcmcdgkjipnfnaaDoor
open Go.RowKit Go.Sx
open Go.Tok Go.Tree

set_option maxRecDepth 100000 in
set_option maxHeartbeats 400000 in
theorem hname_spec (s : Str) (w : World) :
  Ret Tryd.prog 16 #[str s] w (fun v w' => v = .agg #[.int .u8 2, .int .i64 0, str s, .slice none 0 0] ∧ Ext w w') := by
 refine enter (S := No) (l := [_]) (L := []) 5 Tryd.func16 rfl rfl rfl (St.start w No) ?_; refine yA ?_; refine w_alloc zr49 (fun t2b gt2b ut2b => ?_)
 refine yC ?_; refine zm (v := str _) rfl ?_; refine w_r (fun _ => R_build bt49 rfl) rfl rfl ?_; refine w_store 0 rfl z49 rfl rfl rfl rfl rfl rfl rfl ?_; refine yB ?_; refine ze ?_; refine r_fin (.inl rfl) rfl (.agg rfl rfl z49 (fun _ h => h.at_ 0 rfl) rfl .nil) ?_; exact fun w' hw => ⟨rfl, hw.fr _ (.head _)⟩

set_option maxRecDepth 100000 in
set_option maxHeartbeats 400000 in
theorem htwo_spec (op : Nat) (o1 : Nat) (a1 : Int) (n1 : Str) (ka1 : Option Addr) (kn1 kc1 : Nat) (o2 : Nat) (a2 : Int) (n2 : Str) (ka2 : Option Addr) (kn2 kc2 : Nat) (w : World) :
  Ret Tryd.prog 15 #[.int .u8 (op : Nat), .agg [.int .u8 (o1 : Nat), .int .i64 a1, str n1, .slice ka1 kn1 kc1].toArray, .agg [.int .u8 (o2 : Nat), .int .i64 a2, str n2, .slice ka2 kn2 kc2].toArray] w (fun v w' => ∃ W, (∃ b, v = .agg #[.int .u8 (op : Nat), .int .i64 0, str [], .slice (some ⟨b, 0, none⟩) 2 2] ∧ W = [(b, cel ([.int .u8 (o1 : Nat), .int .i64 a1, str n1, .slice ka1 kn1 kc1] ++ [.int .u8 (o2 : Nat), .int .i64 a2, str n2, .slice ka2 kn2 kc2]) 49)]) ∧ New w w' W) := by
 refine enter (S := No) (l := [_, _, _]) (L := []) 12 Tryd.func15 rfl rfl rfl (St.start w No) ?_; refine yA ?_; refine w_boxA rfl (fun t4b gt4b ut4b => ?_)
 refine w_boxA rfl (fun t5b gt5b ut5b => ?_)
 refine w_alloc zr49 (fun t6b gt6b ut6b => ?_)
 refine yC ?_; refine mI rfl ?_; refine w_loadA z49 rfl (fun _ h => h.at_ 2 rfl) rfl ?_; refine w_loadA z49 rfl (fun _ h => h.at_ 1 rfl) rfl ?_; refine zS slt36 (by decide) rfl rfl (fun bk gbk ubk => ?_)
 refine w_r (fun _ => R_build bt49 rfl) rfl rfl ?_; refine w_store 1 rfl z49 rfl rfl rfl rfl rfl rfl rfl ?_; refine yB ?_; refine ze ?_; refine r_fin (.inl rfl) rfl (.agg rfl rfl z49 (fun _ h => h.at_ 1 rfl) rfl .nil) ?_; exact fun w' hw => ⟨_, ⟨bk, rfl, rfl⟩, St.made (A := []) (celEq (hw.drop (.cons_cons _ (List.nil_sublist _))) (by rfl))⟩
end Go.Proofs.YtcmcdgkjipnfnaaDoor
end

section
/- How many nodes. -/
namespace Go.Tree
mutual
def exN : Ex → Nat
  | .mk _ _ _ ks => 1 + exsN ks
def exsN : List Ex → Nat
  | [] => 0
  | e :: l => exN e + exsN l
end
mutual
theorem exN_le : ∀ x : Ex, exN x ≤ exW x
  | .mk _ _ _ ks => by
    have := exsN_le ks
    unfold exN exW; omega
theorem exsN_le : ∀ l : List Ex, exsN l ≤ exsW l
  | [] => by unfold exsN; exact Nat.zero_le _
  | e :: l => by
    have h1 := exN_le e
    have h2 := exsN_le l
    unfold exsN exsW; omega
end
theorem exsN_append : ∀ (l m : List Ex), exsN (l ++ m) = exsN l + exsN m
  | [], m => by simp [exsN]
  | e :: l, m => by
    have := exsN_append l m
    simp only [List.cons_append, exsN, this]; omega
theorem exsN_next {l : List Ex} {k : Nat} {x : Ex} (h : l[k]? = some x) : exsN (l.take (k + 1)) = exsN (l.take k) + exN x := by
  obtain ⟨hk, hg⟩ := List.getElem?_eq_some_iff.1 h
  rw [List.take_succ_eq_append_getElem hk, exsN_append, hg]
  simp [exsN]
theorem exsN_take (l : List Ex) (k : Nat) : exsN (l.take k) ≤ exsN l := by
  have : exsN l = exsN (l.take k) + exsN (l.drop k) := by rw [← exsN_append, List.take_append_drop]
  omega
end Go.Tree
end

section
/- Ranges over functions within loops: the marks that gather. -/
namespace Go.Sx
open Go.RowKit
section
variable {P : Program} {Q : Exit → Act → World → Prop} {x : Code} {e : Env} {B : Base} {L : Heap} {n : Nat} {ro : Option Nat} {ds : List Deferred}
def AgainD (n : Nat) (ro : Option Nat) (I : Nat → List Deferred → Env → Base → Heap → Prop) (m : Nat) : Act → World → Prop := fun a w => ∃ m', m' < m ∧ ∃ ds e B L, a = act ⟨n, ds, ro⟩ e ∧ St B L w ∧ I m' ds e B L
theorem c_loopD (I : Nat → List Deferred → Env → Base → Heap → Prop) (m : Nat) (h0 : I m ds e B L) (h : ∀ m ds e B L, I m ds e B L → WC P ⟨n, ds, ro⟩ x (Exit.then (AgainD n ro I m) Q) e B L) : WC P ⟨n, ds, ro⟩ (.loop x) Q e B L := by
  unfold WC at *
  intro w hw
  refine loop_ghost (fun m a w => ∃ ds e B L, a = act ⟨n, ds, ro⟩ e ∧ St B L w ∧ I m ds e B L) m ⟨ds, e, B, L, rfl, hw, h0⟩ ?_
  rintro m a w ⟨ds, e, B, L, rfl, hw, hI⟩
  exact h m ds e B L hI w hw
theorem k_againD {I : Nat → List Deferred → Env → Base → Heap → Prop} {m : Nat} {Q' : Exit → Act → World → Prop} (m' : Nat) (hm : m' < m) (h : I m' ds e B L) : WK ⟨n, ds, ro⟩ (Exit.then (AgainD n ro I m) Q') .normal e B L := by
  unfold WK
  exact fun _ hw => ⟨m', hm, ds, e, B, L, rfl, hw, h⟩
theorem enterBM {P : Program} {f : FuncId} {fn : Func} {x : Code} {l : List Value} {w : World} {R : Value → World → Prop} {B : Base} {L : Heap} (n : Nat)
    (hf : P.funcs[f]? = some fn) (hb : fn.body = some x) (hn : fn.ntmps = n) (hl : Nat.ble l.length n = true) (hL : St B L w)
    (h : WC P (cf n) x (PostM P fn R) (ofL l) B L) : Ret P f l.toArray w R := by
  unfold WC PostM at h
  exact calls_m n hf hb hn hl (h w hL)
/-- the marks' blocks -/
def Mks (rs : List Nat) : Heap := rs.map fun r => (r, .deferred (some []))
variable {F : Func} {R : Value → World → Prop} {l : List ResultVar} {vs : List Value} {y : Exit}
theorem r_finMs (rs : List Nat) (hx : y = .ret ∨ y = .normal) (hr : F.results = l.toArray) (hv : ∀ L, Res P ⟨n, rs.map mark, none⟩ e B L l vs) (h : ∀ w, St B L w → R (pack vs) w) :
    WK ⟨n, rs.map mark, none⟩ (PostM P F R) y e B (Mks rs ++ L) := by
  have key : ∀ (qs : List Nat) (w : World), St B (Mks qs ++ L) w → LeavesInM (fw none) 0 P F (act ⟨n, rs.map mark, none⟩ e).tmps (fun e w' => ∃ v, e = .returned v ∧ R v w') (qs.map mark) .returning w := by
    intro qs
    induction qs with
    | nil => exact fun w hw => ⟨_, (hv L).results hr hw, _, rfl, h w hw⟩
    | cons q qs ih =>
      intro w hw
      refine ⟨by simp, .inl ⟨q, _, rfl, run_takeDeferred (hw.at_ 0 rfl), ?_⟩⟩
      have hs := hw.putO 0 (o' := .deferred none) rfl
      exact ih _ (hs.drop (List.sublist_cons_self _ _))
  unfold WK PostM
  intro w hw
  have h1 := key rs w hw
  rcases hx with rfl | rfl <;> exact h1
end
end Go.Sx
end

section
namespace Go.Proofs.YtcmcdgkjipnfnaaDoor
open Go.RowKit Go.Sx
open Go.Tok Go.Tree
def ptPs : Array Go.Tmp := #[19]
def ptAs : Go.Code := (Go.Code.region 6 #[(Go.Oper.mk (some 5) (Go.Op.alloc 49) 0 "tree.go:374" #[] none), (Go.Oper.mk none (Go.Op.store 49 (Go.Operand.tmp 5) (Go.Operand.tmp 19)) 0 "tree.go:374" #[(Go.Edge.mk 0 Go.Ground.data), (Go.Edge.mk 0 Go.Ground.phase)] none)] false)
def ptBo : Go.Code := (Go.Code.block 3 (Go.Code.seq (Go.Code.region 7 #[(Go.Oper.mk (some 20) (Go.Op.load 83 (Go.Operand.tmp 2)) 83 "tree.go:375" #[] none), (Go.Oper.mk (some 21) (Go.Op.load 49 (Go.Operand.tmp 5)) 49 "tree.go:375" #[] none), (Go.Oper.mk (some 22) (Go.Op.call (Go.Call.mk (Go.Callee.value (Go.Operand.tmp 20)) #[(Go.Operand.tmp 21)] #[49])) 4 "tree.go:375" #[(Go.Edge.mk 0 Go.Ground.data), (Go.Edge.mk 1 Go.Ground.data)] none), (Go.Oper.mk (some 23) (Go.Op.unOp Go.UnOp.not 4 (Go.Operand.tmp 22)) 4 "tree.go:375" #[(Go.Edge.mk 2 Go.Ground.data)] none)] false) (Go.Code.cond (Go.Operand.tmp 23) Go.Code.ret Go.Code.skip)))

/-- what a round over nodes does: J tells how many there have been -/
def CountR (J : Nat → Heap → Prop) (lo : Nat) : Prop :=
  ∀ (k : Nat) (op : Nat) (at_ : Int) (nm : Str) (ka : Option Addr) (kn kc : Nat) (Lc Lr : Heap) (B : Base) (w : World), k < 1000000000 → J k Lc → St B (Lc ++ Lr) w →
    YieldAt (fw none) 0 Tryd.prog lo #[.agg [.int .u8 (op : Nat), .int .i64 at_, str nm, .slice ka kn kc].toArray] w (fun en w' => ∃ v, en = .returned v ∧ ∃ Lc', v = .bool true ∧ J (k + 1) Lc' ∧ St B (Lc' ++ Lr) w')
def ptJ (J : Nat → Heap → Prop) (lo : Nat) (e : Env) (fn r l t2b : Nat) (ds : List Deferred) (k : Nat) (Lc : Heap) : Prop :=
  ∃ L1, J k L1 ∧ Lc = (l, lpO .ready none fn ⟨25, ds, none⟩ e ptPs ptAs ptBo r) :: (t2b, cel [.func (.yield lo) #[] #[]] 83) :: L1
def PartsP (n : Nat) : Prop := ∀ (l : List Ex) (a : Option Addr) (c : Nat) (N : Nat → Prop) (y : World × (Nat → Prop)) (vb lo : Nat) (J : Nat → Heap → Prop) (k0 : Nat) (Lc Lr : Heap) (Bs : Base) (w : World), exsW l < n → l.length + exsW l ≤ 10000000 → exsM y.1 N l a 0 → Apart y N → y ∈ Bs → CountR J lo → J k0 Lc → k0 + exsN l ≤ 1000000000 →
    St Bs ((vb, cel [.slice a l.length c] 36) :: (Lc ++ Lr)) w →
    Ret Tryd.prog 90 #[.func (.yield lo) #[] #[], .pointer (some ⟨vb, 0, none⟩)] w fun v w' => v = .tuple #[] ∧ ∃ Lc', J (k0 + exsN l) Lc' ∧ St Bs ((vb, cel [.slice a l.length c] 36) :: (Lc' ++ Lr)) w'

set_option maxRecDepth 100000 in
set_option maxHeartbeats 400000 in
theorem parts_round (J : Nat → Heap → Prop) (lo : Nat) (hJ : CountR J lo) (e : Env) (fn r l t2b : Nat) (ds : List Deferred) (he2 : e 2 = .pointer (some ⟨t2b, 0, none⟩)) : CountR (ptJ J lo e fn r l t2b ds) l := by
  intro k op at_ nm ka kn kc Lc Lr B w hk hJ0 hw
  obtain ⟨L1, hJ1, rfl⟩ := hJ0
  refine yield_round 0 (L := _ :: _ :: (L1 ++ Lr)) hw rfl rfl ?_; refine zr ?_; refine w_alloc zr49 (fun t5b gt5b ut5b => ?_)
  refine w_store 0 rfl z49 rfl rfl rfl rfl rfl rfl rfl ?_; refine zn ?_; refine k_begin (l' := 0) 1 rfl ?_; refine zB ?_; refine yA ?_; refine zl z83 he2 (fun _ h => zc 2 rfl rfl h) ?_; refine w_loadA z49 rfl (fun _ h => h.at_ 0 rfl) rfl ?_; refine w_yield rfl (fun w h => hJ k op at_ nm ka kn kc L1 ([(t5b, _), (l, _), (t2b, _)] ++ Lr) B w hk hJ1 (h.perm (perm_mid [(t5b, _), (l, _), (t2b, _)] L1 Lr))) ?_
  rintro w h v w' ⟨L2, rfl, hJ2, h2⟩
  refine ⟨_, _, h2.perm (perm_mid [(t5b, _), (l, _), (t2b, _)] L2 Lr).symm, ?_⟩
  refine w_r (fun _ => R_not rfl) rfl rfl ?_; refine yB ?_; refine c_condF rfl ?_; refine zi ?_; refine b_on (?_)
  refine k_round 1 rfl ?_; exact fun w h => ⟨_, rfl, _, rfl, ⟨L2, hJ2, rfl⟩, h.drop (List.sublist_cons_self _ _)⟩

set_option maxRecDepth 100000 in
set_option maxHeartbeats 400000 in
theorem parts_spec (l : List Ex) (a : Option Addr) (c : Nat) (w : World) :
    Ret Tryd.prog 63 #[.slice a l.length c] w (fun v w' => ∃ W, (∃ vb, v = .func (.func 90) #[] #[.pointer (some ⟨vb, 0, none⟩)] ∧ W = [(vb, cel [.slice a l.length c] 36)]) ∧ New w w' W) := by
  refine enter (S := No) (l := [_]) (L := []) 4 Tryd.func63 rfl rfl rfl (St.start w No) ?_; refine yA ?_; refine w_box rfl (fun vb gvb uvb => ?_)
  refine za rfl ?_; refine yC ?_; refine w_r (fun _ => R_makeFunc) rfl rfl ?_; refine za rfl ?_; refine yB ?_; refine ze ?_; refine zo rfl rfl rfl ?_; exact fun w' hw => ⟨_, ⟨vb, rfl, rfl⟩, St.made (A := []) hw⟩

set_option maxRecDepth 100000 in
set_option maxHeartbeats 2000000 in
theorem parts1_step (n : Nat) (ih : PartsP n) (l : List Ex) (a : Option Addr) (c : Nat) (N : Nat → Prop) (y : World × (Nat → Prop)) (vb lo : Nat) (J : Nat → Heap → Prop) (k0 : Nat) (Lc Lr : Heap) (Bs : Base) (w : World) (hl : exsW l < n + 1) (hll : l.length + exsW l ≤ 10000000) (hm : exsM y.1 N l a 0) (hn : Apart y N) (hy : y ∈ Bs) (hJ : CountR J lo) (hJ0 : J k0 Lc) (hb : k0 + exsN l ≤ 1000000000) (hs : St Bs ((vb, cel [.slice a l.length c] 36) :: (Lc ++ Lr)) w) :
    Ret Tryd.prog 90 #[.func (.yield lo) #[] #[], .pointer (some ⟨vb, 0, none⟩)] w (fun v w' => v = .tuple #[] ∧ ∃ Lc', J (k0 + exsN l) Lc' ∧ St Bs ((vb, cel [.slice a l.length c] 36) :: (Lc' ++ Lr)) w') := by
  refine enterBM (l := [_, _]) 25 Tryd.func90 rfl rfl rfl (hs) ?_; refine yA ?_; refine w_box rfl (fun t2b gt2b ut2b => ?_)
  refine yC ?_; refine zl z36 rfl (fun _ h => zc 1 rfl rfl h) ?_; refine w_r (fun _ => R_len sl36 rfl) rfl rfl ?_; refine mI rfl ?_; refine yB ?_; refine zB ?_; refine c_loopD (n := 25) (ro := none) (fun m ds e B L => ∃ (k : Nat) (rs : List Nat) (L1 : Heap), ds = rs.map Go.Sx.mark ∧ e 2 = .pointer (some ⟨t2b, 0, none⟩) ∧ e 6 = .slice a l.length c ∧ e 7 = .int .i64 (l.length : Nat) ∧ e 8 = .int .i64 (k : Nat) ∧ Bs = B ∧ L = (t2b, cel [.func (.yield lo) #[] #[]] 83) :: (vb, cel [.slice a l.length c] 36) :: (L1 ++ (Mks rs ++ Lr)) ∧ k ≤ l.length ∧ J (k0 + exsN (l.take k)) L1 ∧ m = l.length - k) _ ⟨0, [], Lc, rfl, rfl, rfl, rfl, rfl, rfl, rfl, Nat.zero_le _, hJ0, rfl⟩ ?_
  rintro m ds e B L ⟨k, rs, L1, rfl, e2_1, e6_1, e7_1, e8_1, rfl, rfl, hk, hJ1, rfl⟩
  refine yA ?_; refine w_r (fun _ => R_lt e8_1 e7_1) rfl rfl ?_; refine yB ?_; refine zq ?_; refine zD rfl (fun h2 => ?_) (fun h2 => ?_)
  · have hlt : k < l.length := (by omega); obtain ⟨x, hxk⟩ : ∃ x, l[k]? = some x := ⟨_, List.getElem?_eq_getElem hlt⟩; obtain ⟨cs, hA, hE⟩ := hm.get0 hxk; have hxn := exsW_mem (List.mem_of_getElem? hxk); have hle := exsN_take l (k + 1); have hnx := exsN_next hxk; obtain ⟨b1, o1, rfl⟩ := hA.ptr; obtain ⟨op, at_, nm, ks⟩ := x; have hE2 := hE; unfold exM at hE2; obtain ⟨ka, kc, rfl, hkc, hks⟩ := hE2; have hxw := hxn; unfold exW at hxw; have hxN := hnx; unfold exN at hxN
    refine zi ?_; refine zk ?_; refine zq ?_; refine zB ?_; refine yA ?_; refine w_r (fun _ => R_iaN (i := k) sl36 e6_1 e8_1 (by first | omega | decide)) rfl rfl ?_; refine w_loadC (l := [.int .u8 (op : Nat), .int .i64 at_, str nm, .slice ka ks.length kc]) z49 rfl rfl (fun w h j v hj => hA.cell hn hy h j v hj) ?_; refine w_alloc zr49 (fun t4b gt4b ut4b => ?_)
    refine w_store 0 rfl z49 rfl rfl rfl rfl rfl rfl rfl ?_; refine yB ?_; refine zq ?_; refine yA ?_; refine zl z83 e2_1 (fun _ h => zc 1 rfl rfl h) ?_; refine w_loadA z49 rfl (fun _ h => h.at_ 0 rfl) rfl ?_; refine w_yield rfl (fun w h => hJ (k0 + exsN (l.take k)) op at_ nm ka ks.length kc L1 ([(t4b, _), (t2b, _), (vb, _)] ++ (Mks rs ++ Lr)) Bs w (by omega) hJ1 (h.perm (perm_mid [(t4b, _), (t2b, _), (vb, _)] L1 _))) ?_
    rintro w h v w' ⟨L2, rfl, hJ2, h2⟩
    refine ⟨_, _, h2.perm (perm_mid [(t4b, _), (t2b, _), (vb, _)] L2 _).symm, ?_⟩
    refine w_r (fun _ => R_not rfl) rfl rfl ?_; refine yB ?_; refine c_condF rfl ?_; refine zi ?_; refine zk ?_; refine yA ?_; refine zf fa49_3 rfl ?_; refine zl z36 rfl (fun _ h => zc 0 rfl rfl h) ?_; refine w_callW (fun w => zR Tryd.func63 rfl rfl rfl) rfl rfl (fun w _ => parts_spec ks ka kc w) ?_
    rintro u W0 ⟨v1, rfl, rfl⟩
    refine yB ?_; refine zB ?_; refine c_gen fun e he => ?_
    have he2 : e 2 = .pointer (some ⟨t2b, 0, none⟩) := (congrFun he 2).trans e2_1
    have he6 := (congrFun he 6).trans e6_1
    have he7 := (congrFun he 7).trans e7_1
    have he8 := (congrFun he 8).trans e8_1
    have he18 : e 18 = .func (.func 90) #[] #[.pointer (some ⟨v1, 0, none⟩)] := congrFun he 18
    refine c_range (f := 90) (fi := []) (ca := [.pointer (some ⟨v1, 0, none⟩)]) he18 rfl rfl rfl (fun r l2 fn w' => ∃ Lc', ptJ J lo e fn r l2 t2b (rs.map Go.Sx.mark) (k0 + exsN (l.take k) + 1 + exsN ks) Lc' ∧ St Bs ((v1, cel [.slice ka ks.length kc] 36) :: (Lc' ++ ((r, .deferred (some [])) :: (t4b, cel [.int .u8 (op : Nat), .int .i64 at_, str nm, .slice ka ks.length kc] 49) :: (vb, cel [.slice (some ⟨b1, o1, none⟩) l.length c] 36) :: (Mks rs ++ Lr)))) w') ?_ ?_
    · intro fn r l2 hr1 hr2 hl w1 hw1
      refine (ih ks ka kc N y v1 l2 (ptJ J lo e fn r l2 t2b (rs.map Go.Sx.mark)) (k0 + exsN (l.take k) + 1) ((l2, lpO .ready none fn ⟨25, rs.map Go.Sx.mark, none⟩ e ptPs ptAs ptBo r) :: (t2b, cel [.func (.yield lo) #[] #[]] 83) :: L2) ((r, .deferred (some [])) :: (t4b, cel [.int .u8 (op : Nat), .int .i64 at_, str nm, .slice ka ks.length kc] 49) :: (vb, cel [.slice (some ⟨b1, o1, none⟩) l.length c] 36) :: (Mks rs ++ Lr)) Bs w1 (by omega) (by omega) hks hn hy (parts_round J lo hJ e fn r l2 t2b (rs.map Go.Sx.mark) he2) ⟨L2, hJ2, rfl⟩ (by omega) ((St.pickT [_, _, _, _, _, _] hw1 [2, 0, 4, 1, 3, 5] (by decide)).perm (.cons _ (.cons _ (.cons _ (perm_mid [_, _, _] L2 _)))))).mono ?_
      rintro v w2 ⟨rfl, Lc', hJ3, hs⟩; exact ⟨Lc', hJ3, hs⟩
    · rintro fn r l2 hr1 hr2 hl w1 ⟨Lc', ⟨L3, hJ3, rfl⟩, hs⟩
      refine ⟨Bs, (t2b, cel [.func (.yield lo) #[] #[]] 83) :: (vb, cel [.slice (some ⟨b1, o1, none⟩) l.length c] 36) :: (L3 ++ ((r, .deferred (some [])) :: (Mks rs ++ Lr))), .ready, none, (fun h => by cases h), ?_, ?_⟩
      · exact (St.pickT [_, _, _, _, _, _] (hs.perm (.cons _ (.cons _ (.cons _ (perm_mid [_, _, _] L3 _).symm)))) [1, 2, 5, 3] (by decide)).perm (.cons _ (.cons _ (.cons _ (perm_mid [_] L3 _))))
      · refine b_on (b_on (zk ?_)); refine zr ?_; refine w_r (fun _ => R_addi he8 rfl (by omega)) rfl rfl ?_; refine mI rfl ?_; refine zn ?_; refine k_st (B' := Bs) (L' := _) (fun w h => h.drop (List.sublist_cons_self _ _)) ?_; exact k_againD _ (by omega) ⟨k + 1, r :: rs, L3, rfl, he2, he6, he7, rfl, rfl, rfl, by omega, (by rw [show k0 + exsN (l.take (k + 1)) = k0 + exsN (l.take k) + 1 + exsN ks by omega]; exact hJ3), rfl⟩
  · refine c_exit ?_; refine zx (zx (b_here rfl (?_)))
    refine k_st (B' := Bs) (L' := Mks rs ++ ((vb, cel [.slice a l.length c] 36) :: (L1 ++ Lr))) (fun w h => (h.drop (List.sublist_cons_self _ _)).perm ((List.Perm.cons _ (perm_mid L1 (Mks rs) Lr)).trans List.perm_middle.symm)) ?_; refine r_finMs rs (.inr rfl) rfl (fun L => .nil) ?_; exact fun w' hw => ⟨rfl, L1, by rw [List.take_of_length_le (by omega)] at hJ1; exact hJ1, hw⟩


theorem parts_all : ∀ n : Nat, PartsP n
  | 0 => fun _ _ _ _ _ _ _ _ _ _ _ _ _ h => absurd h (Nat.not_lt_zero _)
  | n + 1 => parts1_step n (parts_all n)

def ctPs : Array Go.Tmp := #[14]
def ctAs : Go.Code := Go.Code.skip
def ctBo : Go.Code := (Go.Code.block 3 (Go.Code.region 6 #[(Go.Oper.mk (some 15) (Go.Op.load 3 (Go.Operand.tmp 3)) 3 "tree.go:388" #[] none), (Go.Oper.mk (some 16) (Go.Op.binOp Go.BinOp.add 3 (Go.Operand.tmp 15) (Go.Operand.const (Go.Value.int Go.IntKind.i64 1)) 3) 3 "tree.go:388" #[(Go.Edge.mk 0 Go.Ground.data)] none), (Go.Oper.mk none (Go.Op.store 3 (Go.Operand.tmp 3) (Go.Operand.tmp 16)) 0 "tree.go:388" #[(Go.Edge.mk 1 Go.Ground.data), (Go.Edge.mk 0 Go.Ground.phase), (Go.Edge.mk 1 Go.Ground.phase)] none)] false))

def slv (t : List Ex × Option Addr × Nat) : Value := .slice t.2.1 t.1.length t.2.2
def cntN (ts : List (List Ex × Option Addr × Nat)) : Nat := (ts.map fun t => exsN t.1).sum
theorem cntN_next {ts : List (List Ex × Option Addr × Nat)} {k : Nat} {t : List Ex × Option Addr × Nat} (h : ts[k]? = some t) : cntN (ts.take (k + 1)) = cntN (ts.take k) + exsN t.1 := by
  obtain ⟨hk, hg⟩ := List.getElem?_eq_some_iff.1 h
  unfold cntN
  rw [List.take_succ_eq_append_getElem hk, List.map_append, List.sum_append, hg]
  simp
theorem cntN_take (ts : List (List Ex × Option Addr × Nat)) (k : Nat) : cntN (ts.take k) ≤ cntN ts := by
  have : cntN ts = cntN (ts.take k) + cntN (ts.drop k) := by unfold cntN; rw [← List.sum_append, ← List.map_append, List.take_append_drop]
  omega
def ctJ (e : Env) (fn r l t3b : Nat) (ds : List Deferred) (k : Nat) (Lc : Heap) : Prop := Lc = [(l, lpO .ready none fn ⟨19, ds, none⟩ e ctPs ctAs ctBo r), (t3b, cel [.int .i64 (k : Nat)] 3)]

set_option maxRecDepth 100000 in
set_option maxHeartbeats 400000 in
theorem count_round (e : Env) (fn r l t3b : Nat) (ds : List Deferred) (he3 : e 3 = .pointer (some ⟨t3b, 0, none⟩)) : CountR (ctJ e fn r l t3b ds) l := by
  intro k op at_ nm ka kn kc Lc Lr B w hk hJ0 hw
  obtain rfl := hJ0
  refine yield_round 0 (L := _ :: _ :: Lr) hw rfl rfl ?_; refine zi ?_; refine k_begin (l' := 0) 0 rfl ?_; refine zB ?_; refine zr ?_; refine zl z3 he3 (fun _ h => zc 1 rfl rfl h) ?_; refine w_r (fun _ => R_addi rfl rfl (by omega)) rfl rfl ?_; refine w_store 1 rfl z3 he3 rfl rfl rfl rfl rfl rfl ?_; refine zn ?_; refine b_on (?_)
  refine k_round 0 rfl ?_; exact fun w h => ⟨_, rfl, _, rfl, rfl, h⟩

set_option maxRecDepth 100000 in
set_option maxHeartbeats 2000000 in
theorem count_spec (ts : List (List Ex × Option Addr × Nat)) (q cap : Nat) (N : Nat → Prop) (w : World) (hq : w.heap[q]? = some (cel (ts.map slv) 36)) (hm : ∀ t ∈ ts, exsM w N t.1 t.2.1 0) (hl : ∀ t ∈ ts, t.1.length + exsW t.1 ≤ 10000000) (hc : ts.length ≤ 1000) (hn : cntN ts ≤ 1000000000) :
    Ret Tryd.prog 37 #[.slice (some ⟨q, 0, none⟩) ts.length cap] w (fun v w' => v = .int .i64 (cntN ts : Nat) ∧ Ext w w') := by
  refine enterM (S := No) (l := [_]) (L := []) 19 Tryd.func37 rfl rfl rfl (St.start w No) ?_; refine yA ?_; refine aI rfl ?_; refine yC ?_; refine w_alloc zr3 (fun t3b gt3b ut3b => ?_)
  refine w_store 0 rfl z3 rfl rfl rfl rfl rfl rfl rfl ?_; refine yB ?_; refine zq ?_; refine yA ?_; refine mS rfl ?_; refine w_r (fun _ => R_len sl110 rfl) rfl rfl ?_; refine mI rfl ?_; refine yB ?_; refine zB ?_; refine c_loopD (n := 19) (ro := none) (fun m ds e B L => ∃ (k : Nat) (rs : List Nat), ds = rs.map Go.Sx.mark ∧ e 3 = .pointer (some ⟨t3b, 0, none⟩) ∧ e 6 = .slice (some ⟨q, 0, none⟩) ts.length cap ∧ e 7 = .int .i64 (ts.length : Nat) ∧ e 8 = .int .i64 (k : Nat) ∧ B = [(w, No)] ∧ L = (t3b, cel [.int .i64 (cntN (ts.take k) : Nat)] 3) :: Mks rs ∧ k ≤ ts.length ∧ m = ts.length - k) _ ⟨0, [], rfl, rfl, rfl, rfl, rfl, rfl, rfl, Nat.zero_le _, rfl⟩ ?_
  rintro m ds e B L ⟨k, rs, rfl, e3_1, e6_1, e7_1, e8_1, rfl, rfl, hk, rfl⟩
  refine yA ?_; refine w_r (fun _ => R_lt e8_1 e7_1) rfl rfl ?_; refine yB ?_; refine zq ?_; refine zD rfl (fun h2 => ?_) (fun h2 => ?_)
  · have hlt : k < ts.length := (by omega); obtain ⟨⟨tl, ta, tc⟩, hxk⟩ : ∃ x, ts[k]? = some x := ⟨_, List.getElem?_eq_getElem hlt⟩; have hmx := hm _ (List.mem_of_getElem? hxk); have hlx := hl _ (List.mem_of_getElem? hxk); simp only [] at hmx hlx; have hnx := cntN_next hxk; have hle := cntN_take ts (k + 1); simp only [] at hnx; have hget : (ts.map slv)[0 + k * 1]? = some (.slice ta tl.length tc) := (by rw [Nat.zero_add, Nat.mul_one, List.getElem?_map, hxk]; rfl)
    refine zi ?_; refine zk ?_; refine zq ?_; refine zB ?_; refine yA ?_; refine w_r (fun _ => R_iaN (i := k) sl110 e6_1 e8_1 (by first | omega | decide)) rfl rfl ?_; refine zl (v := .slice ta tl.length tc) z36 rfl (fun w h => cel_oldb hq (.head _) id hget h) ?_; refine za (v := .slice _ _ _) rfl ?_; refine yC ?_; refine mS rfl ?_; refine w_callW (fun w => zR Tryd.func63 rfl rfl rfl) rfl rfl (fun w _ => parts_spec tl ta tc w) ?_
    rintro u W0 ⟨v1, rfl, rfl⟩
    refine yB ?_; refine zB ?_; refine c_gen fun e he => ?_
    have he3 : e 3 = .pointer (some ⟨t3b, 0, none⟩) := (congrFun he 3).trans e3_1
    have he6 := (congrFun he 6).trans e6_1
    have he7 := (congrFun he 7).trans e7_1
    have he8 := (congrFun he 8).trans e8_1
    have he13 : e 13 = .func (.func 90) #[] #[.pointer (some ⟨v1, 0, none⟩)] := congrFun he 13
    refine c_range (f := 90) (fi := []) (ca := [.pointer (some ⟨v1, 0, none⟩)]) he13 rfl rfl rfl (fun r l2 fn w' => ∃ Lc', ctJ e fn r l2 t3b (rs.map Go.Sx.mark) (cntN (ts.take k) + exsN tl) Lc' ∧ St [(w, No)] ((v1, cel [.slice ta tl.length tc] 36) :: (Lc' ++ ((r, .deferred (some [])) :: Mks rs))) w') ?_ ?_
    · intro fn r l2 hr1 hr2 hl w1 hw1
      refine (parts_all _ tl ta tc N (w, No) v1 l2 (ctJ e fn r l2 t3b (rs.map Go.Sx.mark)) (cntN (ts.take k)) [(l2, lpO .ready none fn ⟨19, rs.map Go.Sx.mark, none⟩ e ctPs ctAs ctBo r), (t3b, cel [.int .i64 (cntN (ts.take k) : Nat)] 3)] ((r, .deferred (some [])) :: Mks rs) [(w, No)] w1 (Nat.lt_succ_self _) hlx hmx (fun _ _ hh => hh) (.head _) (count_round e fn r l2 t3b (rs.map Go.Sx.mark) he3) rfl (by omega) (St.pickT [_, _, _, _] hw1 [2, 0, 3, 1] (by decide))).mono ?_
      rintro v w2 ⟨rfl, Lc', hJ3, hs⟩; exact ⟨Lc', hJ3, hs⟩
    · rintro fn r l2 hr1 hr2 hl w1 ⟨Lc', rfl, hs⟩
      refine ⟨[(w, No)], (t3b, cel [.int .i64 (cntN (ts.take k) + exsN tl : Nat)] 3) :: (r, .deferred (some [])) :: Mks rs, .ready, none, (fun h => by cases h), hs.drop (List.sublist_cons_self _ _), ?_⟩
      · refine b_on (b_on (zk ?_)); refine zr ?_; refine w_r (fun _ => R_addi he8 rfl (by omega)) rfl rfl ?_; refine mI rfl ?_; refine zn ?_
        rw [← hnx]
        refine k_st (B' := _) (L' := _) (fun w h => h.drop (List.sublist_cons_self _ _)) ?_; exact k_againD _ (by omega) ⟨k + 1, r :: rs, rfl, he3, he6, he7, rfl, rfl, rfl, by omega, rfl⟩
  · refine c_exit ?_; refine zx (zx (b_here rfl (zk ?_))); refine yA ?_; refine zl z3 e3_1 (fun _ h => zc 0 rfl rfl h) ?_; refine aI rfl ?_; refine yB ?_; refine ze ?_; refine k_st (B' := _) (L' := Mks rs ++ []) (fun w h => by rw [List.append_nil]; exact h.drop (List.sublist_cons_self _ _)) ?_; refine r_finMs rs (.inl rfl) rfl (fun L => (.tmp rfl rfl .nil)) ?_; exact fun w' hw => ⟨by rw [List.take_of_length_le (by omega)]; rfl, hw.fr _ (.head _)⟩
end Go.Proofs.YtcmcdgkjipnfnaaDoor
end

section
/- How many nodes: statements. -/
namespace Go.Tree
mutual
def smN : Sm → Nat
  | .mk _ _ _ ks b e => 1 + exsN ks + smsN b + smsN e
def smsN : List Sm → Nat
  | [] => 0
  | s :: l => smN s + smsN l
end
mutual
theorem smN_le : ∀ x : Sm, smN x ≤ smW x
  | .mk _ _ _ ks b e => by
    have h1 := exsN_le ks
    have h2 := smsN_le b
    have h3 := smsN_le e
    unfold smN smW; omega
theorem smsN_le : ∀ l : List Sm, smsN l ≤ smsW l
  | [] => by unfold smsN; exact Nat.zero_le _
  | s :: l => by
    have h1 := smN_le s
    have h2 := smsN_le l
    unfold smsN smsW; omega
end
theorem smsN_append : ∀ (l m : List Sm), smsN (l ++ m) = smsN l + smsN m
  | [], m => by simp [smsN]
  | e :: l, m => by
    have := smsN_append l m
    simp only [List.cons_append, smsN, this]; omega
theorem smsN_next {l : List Sm} {k : Nat} {x : Sm} (h : l[k]? = some x) : smsN (l.take (k + 1)) = smsN (l.take k) + smN x := by
  obtain ⟨hk, hg⟩ := List.getElem?_eq_some_iff.1 h
  rw [List.take_succ_eq_append_getElem hk, smsN_append, hg]
  simp [smsN]
theorem smsN_take (l : List Sm) (k : Nat) : smsN (l.take k) ≤ smsN l := by
  have : smsN l = smsN (l.take k) + smsN (l.drop k) := by rw [← smsN_append, List.take_append_drop]
  omega
end Go.Tree
end

section
namespace Go.Proofs.YtcmcdgkjipnfnaaDoor
open Go.RowKit Go.Sx
open Go.Tok Go.Tree


def SizeP (n : Nat) : Prop := ∀ (l : List Sm) (a : Option Addr) (c : Nat) (N : Nat → Prop) (w : World), smsW l < n → l.length ≤ 10000000 → smsM w N l a 0 →
    Ret Tryd.prog 36 #[.slice a l.length c] w fun v w' => v = .int .i64 (smsN l : Nat) ∧ Ext w w'

set_option maxRecDepth 100000 in
set_option maxHeartbeats 2000000 in
theorem size_step (n : Nat) (ih : SizeP n) (hN : n ≤ 10000000) (l : List Sm) (a : Option Addr) (c : Nat) (N : Nat → Prop) (w : World) (hl : smsW l < n + 1) (hll : l.length ≤ 10000000) (hm : smsM w N l a 0) :
    Ret Tryd.prog 36 #[.slice a l.length c] w (fun v w' => v = .int .i64 (smsN l : Nat) ∧ Ext w w') := by
  refine enter (S := No) (l := [_]) (L := []) 29 Tryd.func36 rfl rfl rfl (St.start w No) ?_; refine yA ?_; refine aI rfl ?_; refine yC ?_; refine aI rfl ?_; refine yB ?_; refine zq ?_; refine yA ?_; refine mS rfl ?_; refine w_r (fun _ => R_len sl25 rfl) rfl rfl ?_; refine mI rfl ?_; refine yB ?_; refine zB ?_; refine c_loop (fun m e B L => ∃ (k : Nat), e 3 = .int .i64 (smsN (l.take k) : Nat) ∧ e 6 = .slice a l.length c ∧ e 7 = .int .i64 (l.length : Nat) ∧ e 8 = .int .i64 (k : Nat) ∧ B = [(w, No)] ∧ L = [] ∧ k ≤ l.length ∧ m = l.length - k) _ ⟨0, rfl, rfl, rfl, rfl, rfl, rfl, Nat.zero_le _, rfl⟩ ?_
  rintro m e B L ⟨k, e3_1, e6_1, e7_1, e8_1, rfl, rfl, hk, rfl⟩
  refine yA ?_; refine w_r (fun _ => R_lt e8_1 e7_1) rfl rfl ?_; refine yB ?_; refine zq ?_; refine zD rfl (fun h1 => ?_) (fun h1 => ?_)
  · have hlt : k < l.length := (by omega); obtain ⟨x, hxk⟩ : ∃ x, l[k]? = some x := ⟨_, List.getElem?_eq_getElem hlt⟩; obtain ⟨cs, hA, hE⟩ := hm.get0 hxk; have hxn := smsW_mem (List.mem_of_getElem? hxk); have hle := smsN_take l (k + 1); have hnx := smsN_next hxk; have hlN := smsN_le l; obtain ⟨b1, o1, rfl⟩ := hA.ptr; obtain ⟨op, at_, nm, ks, bo, el⟩ := x; have hE2 := hE; unfold smM at hE2; obtain ⟨ka, kc, ba, bc, ea, ec, rfl, hkc, hks, hbo, hel⟩ := hE2; have hxw := hxn; unfold smW at hxw; have hxN := hnx; unfold smN at hxN; have hkN := exsN_le ks; have hcn : cntN [(ks, ka, kc)] = exsN ks := (by simp [cntN])
    refine zi ?_; refine zk ?_; refine zq ?_; refine zB ?_; refine yA ?_; refine w_r (fun _ => R_iaN (i := k) sl25 e6_1 e8_1 (by first | omega | decide)) rfl rfl ?_; refine w_loadC (l := [.int .u8 (op : Nat), .int .i64 at_, str nm, .slice ka ks.length kc, .slice ba bo.length bc, .slice ea el.length ec]) z38 rfl rfl (fun w h j v hj => hA.cell (fun _ _ hh => hh) (.head _) h j v hj) ?_; refine w_alloc zr38 (fun t5b gt5b ut5b => ?_)
    refine w_store 0 rfl z38 rfl rfl rfl rfl rfl rfl rfl ?_; refine yB ?_; refine c_held (St [(w, No)] [(t5b, cel [.int .u8 (op : Nat), .int .i64 at_, str nm, .slice ka ks.length kc, .slice ba bo.length bc, .slice ea el.length ec] 38)]) mixed ?_; refine zh 0 rfl (by kernel_rfl) rfl rfl (fun w h => h.drop (.cons_cons _ (List.nil_sublist _))) (fun w h => R_move e3_1) ?_; refine zh 1 rfl (by kernel_rfl) rfl rfl (fun w h => h.drop (.cons_cons _ (List.nil_sublist _))) (fun w h => R_fa fa38_3 rfl) ?_; refine zh 2 rfl (by kernel_rfl) rfl rfl (fun w h => h.drop (.cons_cons _ (List.nil_sublist _))) (fun w h => R_ld1 z36 rfl (zc 0 rfl rfl h)) ?_; refine zh 6 rfl (by kernel_rfl) rfl rfl (fun w h => h.drop (.cons_cons _ (List.nil_sublist _))) (fun w h => R_fa fa38_4 rfl) ?_
    refine zh 7 rfl (by kernel_rfl) rfl rfl (fun w h => h.drop (.cons_cons _ (List.nil_sublist _))) (fun w h => R_ld1 z25 rfl (zc 0 rfl rfl h)) ?_; refine zh 10 rfl (by kernel_rfl) rfl rfl (fun w h => h.drop (.cons_cons _ (List.nil_sublist _))) (fun w h => R_fa fa38_5 rfl) ?_; refine zh 11 rfl (by kernel_rfl) rfl rfl (fun w h => h.drop (.cons_cons _ (List.nil_sublist _))) (fun w h => R_ld1 z25 rfl (zc 0 rfl rfl h)) ?_; refine h_bslice 3 rfl (by kernel_rfl) (fun w h => h.drop (.cons_cons _ (List.nil_sublist _))) slt110 (by decide) rfl rfl (fun b3 => ?_)
    refine h_pure 4 rfl (by kernel_rfl) rfl rfl (fun w h => h.drop (.cons _ (.cons_cons _ (List.nil_sublist _)))) (fun w => zR Tryd.func37 rfl rfl rfl) (fun w h => count_spec [(ks, ka, kc)] b3 1 N w (h.at_ 0 rfl) (fun t ht => by obtain rfl := List.mem_singleton.1 ht; exact hks.now (fun _ _ hh => hh) (.head _) h) (fun t ht => by obtain rfl := List.mem_singleton.1 ht; show ks.length + exsW ks ≤ 10000000; omega) (by simp) (by rw [hcn]; omega)) ?_; refine zh 5 rfl (by kernel_rfl) rfl rfl (fun w h => h.drop (.cons _ (.cons_cons _ (List.nil_sublist _)))) (fun w h => R_addi rfl rfl (by omega)) ?_; refine h_pure 8 rfl (by kernel_rfl) rfl rfl (fun w h => h.drop (.cons _ (.cons_cons _ (List.nil_sublist _)))) (fun w => zR Tryd.func36 rfl rfl rfl) (fun w h => ih bo ba bc N w (by omega) (by omega) (hbo.now (fun _ _ hh => hh) (.head _) h)) ?_
    refine zh 9 rfl (by kernel_rfl) rfl rfl (fun w h => h.drop (.cons _ (.cons_cons _ (List.nil_sublist _)))) (fun w h => R_addi rfl rfl (by omega)) ?_; refine h_pure 12 rfl (by kernel_rfl) rfl rfl (fun w h => h.drop (.cons _ (.cons_cons _ (List.nil_sublist _)))) (fun w => zR Tryd.func36 rfl rfl rfl) (fun w h => ih el ea ec N w (by omega) (by omega) (hel.now (fun _ _ hh => hh) (.head _) h)) ?_; refine zh 13 rfl (by kernel_rfl) rfl rfl (fun w h => h.drop (.cons _ (.cons_cons _ (List.nil_sublist _)))) (fun w h => R_addi rfl rfl (by omega)) ?_; refine zh 14 rfl (by kernel_rfl) rfl rfl (fun w h => h.drop (.cons _ (.cons_cons _ (List.nil_sublist _)))) (fun w h => R_addi rfl rfl (by omega)) ?_; refine zh 15 rfl (by kernel_rfl) rfl rfl (fun w h => h.drop (.cons _ (.cons_cons _ (List.nil_sublist _)))) (fun w h => R_assign rfl) ?_
    refine h_done (by kernel_rfl) (fun w h => h.drop (.cons _ (.cons_cons _ (List.nil_sublist _)))) ?_; refine b_on (zk ?_); refine zr ?_; refine w_r (fun _ => R_addi e8_1 rfl (by omega)) rfl rfl ?_; refine mI rfl ?_; refine zn ?_
    have hfin : ((smsN (l.take k) : Nat) : Int) + (1 + ((cntN [(ks, ka, kc)] : Nat) : Int) + ((smsN bo : Nat) : Int) + ((smsN el : Nat) : Int)) = ((smsN (l.take (k + 1)) : Nat) : Int) := by omega
    refine k_st (B' := _) (L' := []) (fun w h => h.drop (List.nil_sublist _)) ?_; exact k_again _ (by omega) ⟨k + 1, (congrArg (Value.int .i64) hfin), e6_1, e7_1, rfl, rfl, rfl, by omega, rfl⟩
  · refine c_exit ?_; refine zx (zx (b_here rfl (zk ?_))); refine yA ?_; refine mI e3_1 ?_; refine aI rfl ?_; refine yB ?_; refine ze ?_; refine zo (v := .int _ _) rfl rfl rfl ?_; exact fun w' hw => ⟨by rw [List.take_of_length_le (by omega)], hw.fr _ (.head _)⟩


theorem size_all : ∀ n : Nat, n ≤ 10000000 → SizeP n
  | 0, _ => fun _ _ _ _ _ h => absurd h (Nat.not_lt_zero _)
  | n + 1, h => size_step n (size_all n (by omega)) (by omega)
theorem size_ok (l : List Sm) (a : Option Addr) (c : Nat) (N : Nat → Prop) (w : World) (hl : smsW l < 10000000) (hll : l.length ≤ 10000000) (hm : smsM w N l a 0) : Ret Tryd.prog 36 #[.slice a l.length c] w fun v w' => v = .int .i64 (smsN l : Nat) ∧ Ext w w' :=
  size_all _ (Nat.le_refl _) l a c N w hl hll hm
end Go.Proofs.YtcmcdgkjipnfnaaDoor
end

section
/- How many nodes: programs. -/
namespace Go.Tree
def dcN (d : Dc) : Nat := 1 + (exsN d.size + exsN d.lower + exsN d.upper + exsN d.init)
def dcsN : List Dc → Nat
  | [] => 0
  | d :: l => dcN d + dcsN l
theorem dcN_le (d : Dc) : dcN d ≤ dcW d := by
  have h1 := exsN_le d.size
  have h2 := exsN_le d.lower
  have h3 := exsN_le d.upper
  have h4 := exsN_le d.init
  unfold dcN dcW; omega
theorem dcsN_le : ∀ l : List Dc, dcsN l ≤ dcsW l
  | [] => Nat.zero_le _
  | d :: l => by
    have h1 := dcN_le d
    have h2 := dcsN_le l
    unfold dcsN dcsW; omega
theorem dcsN_append : ∀ (l m : List Dc), dcsN (l ++ m) = dcsN l + dcsN m
  | [], m => by simp [dcsN]
  | e :: l, m => by
    have := dcsN_append l m
    simp only [List.cons_append, dcsN, this]; omega
theorem dcsN_next {l : List Dc} {k : Nat} {x : Dc} (h : l[k]? = some x) : dcsN (l.take (k + 1)) = dcsN (l.take k) + dcN x := by
  obtain ⟨hk, hg⟩ := List.getElem?_eq_some_iff.1 h
  rw [List.take_succ_eq_append_getElem hk, dcsN_append, hg]
  simp [dcsN]
theorem dcsN_take (l : List Dc) (k : Nat) : dcsN (l.take k) ≤ dcsN l := by
  have : dcsN l = dcsN (l.take k) + dcsN (l.drop k) := by rw [← dcsN_append, List.take_append_drop]
  omega
def bkN (b : Bk) : Nat := smsN b.stmts + dcsN b.decls
theorem bkN_le (b : Bk) : bkN b ≤ bkW b := by
  have h1 := smsN_le b.stmts
  have h2 := dcsN_le b.decls
  unfold bkN bkW; omega
def pgNTo (p : List Bk) (i : Nat) : Nat := ((List.range i).map fun j => match p[j]? with | some b => bkN b | none => 0).sum
def pgN (p : List Bk) : Nat := pgNTo p 6
theorem pgNTo_next {p : List Bk} {i : Nat} {b : Bk} (h : p[i]? = some b) : pgNTo p (i + 1) = pgNTo p i + bkN b := by
  unfold pgNTo
  rw [List.range_succ, List.map_append, List.sum_append]
  simp [h]
end Go.Tree
end

section
namespace Go.Proofs.YtcmcdgkjipnfnaaDoor
open Go.RowKit Go.Sx
open Go.Tok Go.Tree

set_option maxRecDepth 100000 in
set_option maxHeartbeats 4000000 in
theorem Nodes_spec (pg : List Bk) (cs : List Value) (N : Nat → Prop) (w : World) (hp : ∀ b ∈ pg, bkW b < 10000000) (hm : pgM w N pg cs) :
  Ret Tryd.prog 13 #[.agg cs.toArray] w (fun v w' => v = .int .i64 (pgN pg : Nat) ∧ Ext w w') := by
 refine enter (S := No) (l := [_]) (L := []) 41 Tryd.func13 rfl rfl rfl (St.start w No) ?_; refine yA ?_; refine w_boxA rfl (fun t1b gt1b ut1b => ?_)
 refine aI rfl ?_; refine yC ?_; refine aI rfl ?_; refine yB ?_; refine zq ?_; refine yA ?_; refine zf fa30_0 rfl ?_; refine w_loadW z28 rfl (fun _ h => h.at_ 0 rfl) hm.len ?_; refine mI rfl ?_; refine yB ?_; refine zB ?_; refine c_loop (fun m e B L => ∃ (i : Nat), e 3 = .int .i64 (pgNTo pg i : Nat) ∧ e 9 = .agg cs.toArray ∧ e 10 = .int .i64 (i : Nat) ∧ B = [(w, No)] ∧ L = [(t1b, cel cs 30)] ∧ i ≤ 6 ∧ pgNTo pg i ≤ i * 10000000 ∧ m = 6 - i) _ ⟨0, rfl, rfl, rfl, rfl, rfl, Nat.zero_le _, Nat.zero_le _, rfl⟩ ?_
 rintro m e B L ⟨i, e3_1, e9_1, e10_1, rfl, rfl, hi, hN, rfl⟩
 refine yA ?_; refine w_r (fun _ => R_lt e10_1 rfl) rfl rfl ?_; refine yB ?_; refine zq ?_; refine zD rfl (fun h2 => ?_) (fun h2 => ?_)
 ·have hi6 : i < 6 := (by omega); obtain ⟨b, hb⟩ : ∃ b, pg[i]? = some b := ⟨_, List.getElem?_eq_getElem (by rw [hm.six]; exact hi6)⟩; have hbw := hp b (List.mem_of_getElem? hb); unfold bkW at hbw; obtain ⟨da, dc, sa, sc, hcb, hds, hss⟩ := hm.one i b hb; have hnb := pgNTo_next hb; have hNb := bkN_le b; unfold bkN at hnb hNb; have hsN := smsN_le b.stmts; have hdN := dcsN_le b.decls
  refine zi ?_; refine zk ?_; refine zq ?_; refine zB ?_; refine yA ?_; refine w_r (v := .agg (List.toArray [.bool b.is, .slice da b.decls.length dc, .slice sa b.stmts.length sc])) (fun _ => R_aidxA (i := i) ara28 e9_1 e10_1 (by omega) hcb) rfl rfl ?_; refine w_alloc zr27 (fun t5b gt5b ut5b => ?_)
  refine w_store 0 rfl z27 rfl rfl rfl rfl rfl rfl rfl ?_; refine yC ?_; refine mI e3_1 ?_; refine zf fa27_2 rfl ?_; refine zl z25 rfl (fun _ h => zc 0 rfl rfl h) ?_; refine zC (fun w => zR Tryd.func36 rfl rfl rfl) rfl rfl (fun w h => size_ok b.stmts sa sc N w (by omega) (by omega) (hss.now (fun _ _ hh => hh) (.head _) h)) ?_; refine w_r (fun _ => R_addi rfl rfl (by omega)) rfl rfl ?_; refine aI rfl ?_; refine yC ?_; refine zf fa27_1 rfl ?_; refine zl z24 rfl (fun _ h => zc 0 rfl rfl h) ?_; refine w_r (fun _ => R_len sl24 rfl) rfl rfl ?_; refine mI rfl ?_; refine yB ?_; refine zB ?_
  refine c_loop (fun m e B L => ∃ (k : Nat), e 3 = .int .i64 (pgNTo pg i + smsN b.stmts + dcsN (b.decls.take k) : Nat) ∧ e 9 = .agg cs.toArray ∧ e 10 = .int .i64 (i : Nat) ∧ e 19 = .slice da b.decls.length dc ∧ e 20 = .int .i64 (b.decls.length : Nat) ∧ e 21 = .int .i64 (k : Nat) ∧ B = [(w, No)] ∧ L = [(t5b, cel [.bool b.is, .slice da b.decls.length dc, .slice sa b.stmts.length sc] 27), (t1b, cel cs 30)] ∧ k ≤ b.decls.length ∧ m = b.decls.length - k) _ ⟨0, rfl, e9_1, e10_1, rfl, rfl, rfl, rfl, rfl, Nat.zero_le _, rfl⟩ ?_
  rintro m e B L ⟨k, e3_2, e9_2, e10_2, e19_2, e20_2, e21_2, rfl, rfl, hk, rfl⟩
  refine yA ?_; refine w_r (fun _ => R_lt e21_2 e20_2) rfl rfl ?_; refine yB ?_; refine zq ?_; refine zD rfl (fun h4 => ?_) (fun h4 => ?_)
  ·have hlt : k < b.decls.length := (by omega); obtain ⟨x, hxk⟩ : ∃ x, b.decls[k]? = some x := ⟨_, List.getElem?_eq_getElem hlt⟩; obtain ⟨cs2, hA, hE⟩ := hds k x hxk; have hxn := dcsW_mem (List.mem_of_getElem? hxk); obtain ⟨b1, o1, rfl⟩ := hA.ptr; have hE2 := hE; obtain ⟨ty, at_, nm, sz, lo, up, ini⟩ := x; unfold dcM at hE2; obtain ⟨xa, xc, la, lc, ua, uc, ia, ic, hcs, hsz, hlo, hup, hini⟩ := hE2; simp only [] at hcs; subst hcs; have hnx := dcsN_next hxk; have hle := dcsN_take b.decls (k + 1); have hdw := hxn; unfold dcW at hdw; have hxN := hnx; unfold dcN at hxN; have hk1 := exsN_le sz; have hk2 := exsN_le lo; have hk3 := exsN_le up; have hk4 := exsN_le ini; have hcn : cntN [(sz, xa, xc), (lo, la, lc), (up, ua, uc), (ini, ia, ic)] = exsN sz + exsN lo + exsN up + exsN ini := (by simp [cntN]; omega); simp only [] at hxN hdw
   refine zi ?_; refine zk ?_; refine zq ?_; refine zB ?_; refine yA ?_; refine w_r (fun _ => R_iaN (i := k) sl24 e19_2 e21_2 (by first | omega | decide)) rfl rfl ?_; refine w_loadC (l := [.int .u8 (ty : Nat), .int .i64 at_, str nm, .slice xa sz.length xc, .slice la lo.length lc, .slice ua up.length uc, .slice ia ini.length ic]) z53 rfl rfl (fun w h j v hj => hA.cell (fun _ _ hh => hh) (.head _) h j v hj) ?_; refine w_alloc zr53 (fun t7b gt7b ut7b => ?_)
   refine w_store 0 rfl z53 rfl rfl rfl rfl rfl rfl rfl ?_; refine yB ?_; refine zr ?_; refine mI e3_2 ?_; refine zf fa53_3 rfl ?_; refine zl z36 rfl (fun _ h => zc 0 rfl rfl h) ?_; refine zf fa53_4 rfl ?_; refine zl z36 rfl (fun _ h => zc 0 rfl rfl h) ?_; refine zf fa53_5 rfl ?_; refine zl z36 rfl (fun _ h => zc 0 rfl rfl h) ?_; refine zf fa53_6 rfl ?_; refine zl z36 rfl (fun _ h => zc 0 rfl rfl h) ?_; refine zS slt110 (by decide) rfl rfl (fun b6 gb6 ub6 => ?_)
   refine zC (fun w => zR Tryd.func37 rfl rfl rfl) rfl rfl (fun w h => count_spec [(sz, xa, xc), (lo, la, lc), (up, ua, uc), (ini, ia, ic)] _ 4 N w (h.at_ 0 rfl) (fun t ht => by simp only [List.mem_cons, List.not_mem_nil, or_false] at ht; rcases ht with rfl | rfl | rfl | rfl <;> first | exact hsz.now (fun _ _ hh => hh) (.head _) h | exact hlo.now (fun _ _ hh => hh) (.head _) h | exact hup.now (fun _ _ hh => hh) (.head _) h | exact hini.now (fun _ _ hh => hh) (.head _) h) (fun t ht => by simp only [List.mem_cons, List.not_mem_nil, or_false] at ht; rcases ht with rfl | rfl | rfl | rfl <;> simp only [] <;> omega) (by simp) (by rw [hcn]; omega)) ?_; refine w_r (fun _ => R_addi rfl rfl (by omega)) rfl rfl ?_; refine w_r (fun _ => R_addi rfl rfl (by omega)) rfl rfl ?_; refine aI rfl ?_
   refine zn ?_; refine b_on (zk ?_); refine zr ?_; refine w_r (fun _ => R_addi e21_2 rfl (by omega)) rfl rfl ?_; refine mI rfl ?_; refine zn ?_
   have hfin : ((pgNTo pg i + smsN b.stmts + dcsN (b.decls.take k) : Nat) : Int) + (1 + ((cntN [(sz, xa, xc), (lo, la, lc), (up, ua, uc), (ini, ia, ic)] : Nat) : Int)) = ((pgNTo pg i + smsN b.stmts + dcsN (b.decls.take (k + 1)) : Nat) : Int) := by omega
   refine k_st (B' := [(w, No)]) (L' := _) (fun w h => h.drop (List.sublist_append_right [_, _] _)) ?_; exact k_again _ (by omega) ⟨k + 1, (congrArg (Value.int .i64) hfin), e9_2, e10_2, e19_2, e20_2, rfl, rfl, rfl, by omega, rfl⟩
  ·refine c_exit ?_; refine zx (zx (b_here rfl (b_on (zk ?_)))); refine zr ?_; refine w_r (fun _ => R_addi e10_2 rfl (by omega)) rfl rfl ?_; refine mI rfl ?_; refine zn ?_; refine k_st (B' := [(w, No)]) (L' := [(t1b, cel cs 30)]) (fun w h => h.drop (List.sublist_cons_self _ _)) ?_
   have hfin : ((pgNTo pg i + smsN b.stmts + dcsN (b.decls.take k) : Nat) : Int) = ((pgNTo pg (i + 1) : Nat) : Int) := by rw [List.take_of_length_le (by omega)]; omega
   exact k_again _ (by omega) ⟨i + 1, (e3_2.trans (congrArg (Value.int .i64) hfin)), e9_2, rfl, rfl, rfl, by omega, by omega, rfl⟩
 ·refine c_exit ?_; refine zx (zx (b_here rfl (zk ?_))); refine yA ?_; refine mI e3_1 ?_; refine aI rfl ?_; refine yB ?_; refine ze ?_; refine zo (v := .int _ _) rfl rfl rfl ?_; exact fun w' hw => ⟨by rw [show i = 6 by omega]; rfl, hw.fr _ (.head _)⟩
end Go.Proofs.YtcmcdgkjipnfnaaDoor
end

section
namespace Go.Proofs.YtcmcdgkjipnfnaaDoor
open Go.RowKit Go.Sx
open Go.Tok Go.Tree


def hNm (s : Str) : Ex := .mk 2 0 s []
def hTwo (op : Nat) (a b : Ex) : Ex := .mk op 0 [] [a, b]
def hA : Ex := hNm [97]
def hB : Ex := hNm [98]
def hC : Ex := hNm [99]
def hAB : Ex := hTwo 7 hA hB
def hABC : Ex := hTwo 7 hAB hC
def hBC : Ex := hTwo 7 hB hC
def hABC2 : Ex := hTwo 7 hA hBC
theorem hABC_ok : exOk hABC = true := by decide
theorem hABC_t : textT (exT hABC) = [97, 32, 45, 32, 98, 32, 45, 32, 99] := by kernel_rfl
theorem hABC2_ok : exOk hABC2 = true := by decide
theorem hABC2_t : textT (exT hABC2) = [97, 32, 45, 32, 40, 32, 98, 32, 45, 32, 99, 32, 41] := by kernel_rfl
theorem exM_nm (w : World) (N : Nat → Prop) (s : Str) : exM w N (hNm s) [.int .u8 2, .int .i64 0, str s, .slice none 0 0] := by
  unfold hNm exM
  exact ⟨none, 0, rfl, Nat.zero_le _, by unfold exsM; trivial⟩
theorem exM_two {w : World} {N : Nat → Prop} {op b : Nat} {x y : Ex} {cx cy : List Value} (hN : N b) (h : w.heap[b]? = some (cel (cx ++ cy) 49)) (hx : exM w N x cx) (hy : exM w N y cy) : exM w N (hTwo op x y) [.int .u8 (op : Nat), .int .i64 0, str [], .slice (some ⟨b, 0, none⟩) 2 2] := by
  have lx := exM_len hx
  have ly := exM_len hy
  unfold hTwo exM
  refine ⟨some ⟨b, 0, none⟩, 2, rfl, Nat.le_refl _, ?_⟩
  unfold exsM
  refine ⟨⟨cx, ⟨b, 0, rfl, hN, fun j v hj => ?_⟩, hx⟩, ?_⟩
  · have hj2 := (List.getElem?_eq_some_iff.1 hj).1
    simp only [World.cell?, h]
    simp [cel, List.getElem?_append_left hj2, hj]
  unfold exsM
  refine ⟨⟨cy, ⟨b, 0, rfl, hN, fun j v hj => ?_⟩, hy⟩, by unfold exsM; trivial⟩
  simp only [World.cell?, h]
  simp [cel, List.getElem?_append_right, lx, hj]


theorem write1 (b1 b2 : Nat) (w : World) (hW : Wd w) (h1 : w.heap[b1]? = some (cel ([.int .u8 2, .int .i64 0, str [97], .slice none 0 0] ++ [.int .u8 2, .int .i64 0, str [98], .slice none 0 0]) 49)) (h2 : w.heap[b2]? = some (cel ([.int .u8 7, .int .i64 0, str [], .slice (some ⟨b1, 0, none⟩) 2 2] ++ [.int .u8 2, .int .i64 0, str [99], .slice none 0 0]) 49)) : Ret Tryd.prog 14 #[.agg [.int .u8 7, .int .i64 0, str [], .slice (some ⟨b2, 0, none⟩) 2 2].toArray] w fun v w' => v = .tuple #[str [97, 32, 45, 32, 98, 32, 45, 32, 99], .int .i64 0] ∧ Ext w w' := by
  have h := WriteExpr_spec hABC _ (fun j => j = b2 ∨ j = b1) w (by decide) (exM_two (.inl rfl) h2 (exM_two (.inr rfl) h1 (exM_nm w _ [97]) (exM_nm w _ [98])) (exM_nm w _ [99])) hW (by decide) (by rw [hABC_t]; decide)
  rw [hABC_ok, hABC_t] at h
  exact h
theorem write2 (b1 b2 : Nat) (w : World) (hW : Wd w) (h1 : w.heap[b1]? = some (cel ([.int .u8 2, .int .i64 0, str [98], .slice none 0 0] ++ [.int .u8 2, .int .i64 0, str [99], .slice none 0 0]) 49)) (h2 : w.heap[b2]? = some (cel ([.int .u8 2, .int .i64 0, str [97], .slice none 0 0] ++ [.int .u8 7, .int .i64 0, str [], .slice (some ⟨b1, 0, none⟩) 2 2]) 49)) : Ret Tryd.prog 14 #[.agg [.int .u8 7, .int .i64 0, str [], .slice (some ⟨b2, 0, none⟩) 2 2].toArray] w fun v w' => v = .tuple #[str [97, 32, 45, 32, 40, 32, 98, 32, 45, 32, 99, 32, 41], .int .i64 0] ∧ Ext w w' := by
  have h := WriteExpr_spec hABC2 _ (fun j => j = b2 ∨ j = b1) w (by decide) (exM_two (.inl rfl) h2 (exM_nm w _ [97]) (exM_two (.inr rfl) h1 (exM_nm w _ [98]) (exM_nm w _ [99]))) hW (by decide) (by rw [hABC2_t]; decide)
  rw [hABC2_ok, hABC2_t] at h
  exact h


def hNum (s : Str) : Ex := .mk 1 0 s []
theorem exM_num (w : World) (N : Nat → Prop) (s : Str) : exM w N (hNum s) [.int .u8 1, .int .i64 0, str s, .slice none 0 0] := by
  unfold hNum exM
  exact ⟨none, 0, rfl, Nat.zero_le _, by unfold exsM; trivial⟩
theorem exsM_one {w : World} {N : Nat → Prop} {b : Nat} {x : Ex} {cx : List Value} (hN : N b) (h : w.heap[b]? = some (cel cx 49)) (hx : exM w N x cx) : exsM w N [x] (some ⟨b, 0, none⟩) 0 := by
  unfold exsM
  refine ⟨⟨cx, ⟨b, 0, rfl, hN, fun j v hj => ?_⟩, hx⟩, by unfold exsM; trivial⟩
  simp only [World.cell?, h]
  simp [cel, hj]
def hNeg : Ex := .mk 5 0 [] [hTwo 6 hA (hNum [49])]
theorem hNeg_ok : exOk hNeg = true := by decide
theorem hNeg_t : textT (exT hNeg) = [45, 32, 40, 32, 97, 32, 43, 32, 49, 32, 41] := by kernel_rfl
theorem exM_neg {w : World} {N : Nat → Prop} {b : Nat} {x : Ex} {cx : List Value} (hN : N b) (h : w.heap[b]? = some (cel cx 49)) (hx : exM w N x cx) : exM w N (.mk 5 0 [] [x]) [.int .u8 5, .int .i64 0, str [], .slice (some ⟨b, 0, none⟩) 1 1] := by
  unfold exM
  exact ⟨some ⟨b, 0, none⟩, 1, rfl, Nat.le_refl _, exsM_one hN h hx⟩
theorem write3 (b1 b2 : Nat) (w : World) (hW : Wd w) (h1 : w.heap[b1]? = some (cel ([.int .u8 2, .int .i64 0, str [97], .slice none 0 0] ++ [.int .u8 1, .int .i64 0, str [49], .slice none 0 0]) 49)) (h2 : w.heap[b2]? = some (cel [.int .u8 6, .int .i64 0, str [], .slice (some ⟨b1, 0, none⟩) 2 2] 49)) : Ret Tryd.prog 14 #[.agg [.int .u8 5, .int .i64 0, str [], .slice (some ⟨b2, 0, none⟩) 1 1].toArray] w fun v w' => v = .tuple #[str [45, 32, 40, 32, 97, 32, 43, 32, 49, 32, 41], .int .i64 0] ∧ Ext w w' := by
  have h := WriteExpr_spec hNeg _ (fun j => j = b2 ∨ j = b1) w (by decide) (exM_neg (.inl rfl) h2 (exM_two (.inr rfl) h1 (exM_nm w _ [97]) (exM_num w _ [49]))) hW (by decide) (by rw [hNeg_t]; decide)
  rw [hNeg_ok, hNeg_t] at h
  exact h
def hD : Dc := ⟨1, 0, [110], [], [hNum [48]], [], []⟩
def hO : Bk := ⟨false, [], []⟩
def hPg : List Bk := [⟨true, [hD], []⟩, hO, hO, hO, hO, hO]
theorem hPg_ok : pgOk hPg = true := by decide
theorem hPg_t : textT (pgT hPg) = [100, 97, 116, 97, 32, 123, 10, 105, 110, 116, 32, 60, 32, 108, 111, 119, 101, 114, 32, 61, 32, 48, 32, 62, 32, 110, 32, 59, 10, 125, 10] := by kernel_rfl
theorem hPg_l : (pgT hPg).length = 11 := by kernel_rfl
theorem hO_m (w : World) (N : Nat → Prop) : bkM w N hO [.bool false, .slice none 0 0, .slice none 0 0] := ⟨none, 0, none, 0, rfl, fun k d h => by simp [hO] at h, by unfold hO smsM; trivial⟩
theorem hPg_m {w : World} {b1 b2 : Nat} (h1 : w.heap[b1]? = some (cel [.int .u8 1, .int .i64 0, str [48], .slice none 0 0] 49)) (h2 : w.heap[b2]? = some (cel [.int .u8 1, .int .i64 0, str [110], .slice none 0 0, .slice (some ⟨b1, 0, none⟩) 1 1, .slice none 0 0, .slice none 0 0] 53)) : pgM w (fun j => j = b2 ∨ j = b1) hPg [.bool true, .slice (some ⟨b2, 0, none⟩) 1 1, .slice none 0 0, .bool false, .slice none 0 0, .slice none 0 0, .bool false, .slice none 0 0, .slice none 0 0, .bool false, .slice none 0 0, .slice none 0 0, .bool false, .slice none 0 0, .slice none 0 0, .bool false, .slice none 0 0, .slice none 0 0] := by
  refine ⟨rfl, rfl, fun i b hb => ?_⟩
  match i, hb with
  | 0, hb =>
    obtain rfl := Option.some.inj hb
    refine ⟨some ⟨b2, 0, none⟩, 1, none, 0, rfl, fun k d h => ?_, by unfold smsM; trivial⟩
    match k, h with
    | 0, h =>
      obtain rfl := Option.some.inj h
      refine ⟨[.int .u8 1, .int .i64 0, str [110], .slice none 0 0, .slice (some ⟨b1, 0, none⟩) 1 1, .slice none 0 0, .slice none 0 0], ⟨b2, 0, rfl, .inl rfl, fun j v hj => ?_⟩, none, 0, some ⟨b1, 0, none⟩, 1, none, 0, none, 0, rfl, by unfold exsM; trivial, exsM_one (.inr rfl) h1 (exM_num w _ [48]), by unfold exsM; trivial, by unfold exsM; trivial⟩
      simp only [World.cell?, h2]
      simp [cel, hj]
    | k + 1, h => simp at h
  | 1, hb => obtain rfl := Option.some.inj hb; exact hO_m w _
  | 2, hb => obtain rfl := Option.some.inj hb; exact hO_m w _
  | 3, hb => obtain rfl := Option.some.inj hb; exact hO_m w _
  | 4, hb => obtain rfl := Option.some.inj hb; exact hO_m w _
  | 5, hb => obtain rfl := Option.some.inj hb; exact hO_m w _
  | i + 6, hb => simp [hPg] at hb
theorem hPg_w : ∀ b ∈ hPg, bkW b < 10000000 := by decide
theorem write4 (b1 b2 : Nat) (w : World) (hW : Wd w) (h1 : w.heap[b1]? = some (cel [.int .u8 1, .int .i64 0, str [48], .slice none 0 0] 49)) (h2 : w.heap[b2]? = some (cel [.int .u8 1, .int .i64 0, str [110], .slice none 0 0, .slice (some ⟨b1, 0, none⟩) 1 1, .slice none 0 0, .slice none 0 0] 53)) : Ret Tryd.prog 10 #[.agg [.bool true, .slice (some ⟨b2, 0, none⟩) 1 1, .slice none 0 0, .bool false, .slice none 0 0, .slice none 0 0, .bool false, .slice none 0 0, .slice none 0 0, .bool false, .slice none 0 0, .slice none 0 0, .bool false, .slice none 0 0, .slice none 0 0, .bool false, .slice none 0 0, .slice none 0 0].toArray] w fun v w' => v = .tuple #[str [100, 97, 116, 97, 32, 123, 10, 105, 110, 116, 32, 60, 32, 108, 111, 119, 101, 114, 32, 61, 32, 48, 32, 62, 32, 110, 32, 59, 10, 125, 10], .int .i64 0] ∧ Ext w w' := by
  have h := Write_spec hPg _ _ w hPg_w (hPg_m h1 h2) hW (by rw [hPg_l]; decide) (by rw [hPg_t]; decide)
  rw [hPg_ok, hPg_t] at h
  exact h
theorem nodes4 (b1 b2 : Nat) (w : World) (h1 : w.heap[b1]? = some (cel [.int .u8 1, .int .i64 0, str [48], .slice none 0 0] 49)) (h2 : w.heap[b2]? = some (cel [.int .u8 1, .int .i64 0, str [110], .slice none 0 0, .slice (some ⟨b1, 0, none⟩) 1 1, .slice none 0 0, .slice none 0 0] 53)) : Ret Tryd.prog 13 #[.agg [.bool true, .slice (some ⟨b2, 0, none⟩) 1 1, .slice none 0 0, .bool false, .slice none 0 0, .slice none 0 0, .bool false, .slice none 0 0, .slice none 0 0, .bool false, .slice none 0 0, .slice none 0 0, .bool false, .slice none 0 0, .slice none 0 0, .bool false, .slice none 0 0, .slice none 0 0].toArray] w fun v w' => v = .int .i64 2 ∧ Ext w w' :=
  Nodes_spec hPg _ _ w hPg_w (hPg_m h1 h2)
end Go.Proofs.YtcmcdgkjipnfnaaDoor
end

section
namespace Go.Proofs.YtcmcdgkjipnfnaaDoor
open Go.RowKit Go.Sx
open Go.Tok Go.Tree


theorem name_x (w : World) (hW : Wd w) : Ret Tryd.prog 7 #[str [120]] w fun v w' => v = .bool true ∧ Ext w w' := by
 have h := Name_spec [120] (by decide) w hW
 rw [show nameOk [120] = true by decide] at h; exact h
theorem name_for (w : World) (hW : Wd w) : Ret Tryd.prog 7 #[str [102, 111, 114]] w fun v w' => v = .bool false ∧ Ext w w' := by
 have h := Name_spec [102, 111, 114] (by decide) w hW
 rw [show nameOk [102, 111, 114] = false by decide] at h; exact h
theorem name_1 (w : World) (hW : Wd w) : Ret Tryd.prog 7 #[str [49]] w fun v w' => v = .bool false ∧ Ext w w' := by
 have h := Name_spec [49] (by decide) w hW
 rw [show nameOk [49] = false by decide] at h; exact h
theorem check_0 (w : World) (hW : Wd w) : Ret Tryd.prog 17 #[.agg #[.int .u8 0, .int .i64 0, str [], .slice none 0 0]] w fun v w' => v = .int .i64 120 ∧ Ext w w' := by
 have h := CheckExpr_spec (.mk 0 0 [] []) [.int .u8 0, .int .i64 0, str [], .slice none 0 0] No w (by decide) (by unfold exM; exact ⟨none, 0, rfl, Nat.zero_le _, by unfold exsM; trivial⟩) hW
 rw [show exOk (.mk 0 0 [] []) = false by decide] at h; exact h

set_option maxRecDepth 100000 in
set_option maxHeartbeats 4000000 in
theorem thead_spec (w : World) (hW : Wd w) :
  Ret Tryd.prog 6 #[] w (fun v w' => v = .bool true ∧ Ext w w') := by
 refine enter (S := No) (l := []) (L := []) 100 Tryd.func6 rfl rfl rfl (St.start w No) ?_; refine yA ?_; refine aB rfl ?_; refine yC ?_; refine zC (fun w => zR Tryd.func16 rfl rfl rfl) rfl rfl (fun w h => hname_spec _ w) ?_; refine zC (fun w => zR Tryd.func16 rfl rfl rfl) rfl rfl (fun w h => hname_spec _ w) ?_; refine w_callW (fun w => zR Tryd.func15 rfl rfl rfl) rfl rfl (fun w _ => htwo_spec 7 _ _ _ _ _ _ _ _ _ _ _ _ w) ?_
 rintro u W0 ⟨b1, rfl, rfl⟩
 refine zC (fun w => zR Tryd.func16 rfl rfl rfl) rfl rfl (fun w h => hname_spec _ w) ?_; refine w_callW (fun w => zR Tryd.func15 rfl rfl rfl) rfl rfl (fun w _ => htwo_spec 7 _ _ _ _ _ _ _ _ _ _ _ _ w) ?_
 rintro u W0 ⟨b2, rfl, rfl⟩
 refine zC (fun w => zR Tryd.func14 rfl rfl rfl) rfl rfl (fun w h => write1 _ _ w (hW.now (.head _) h) (h.at_ 1 rfl) (h.at_ 0 rfl)) ?_; refine zm rfl ?_; refine w_r (fun _ => R_extract rfl rfl) rfl rfl ?_; refine w_r (fun _ => R_extract rfl rfl) rfl rfl ?_; refine za (v := str _) rfl ?_; refine aI rfl ?_; refine yC ?_; refine zC (fun w => zR Tryd.func16 rfl rfl rfl) rfl rfl (fun w h => hname_spec _ w) ?_; refine zC (fun w => zR Tryd.func16 rfl rfl rfl) rfl rfl (fun w h => hname_spec _ w) ?_; refine zC (fun w => zR Tryd.func16 rfl rfl rfl) rfl rfl (fun w h => hname_spec _ w) ?_; refine w_callW (fun w => zR Tryd.func15 rfl rfl rfl) rfl rfl (fun w _ => htwo_spec 7 _ _ _ _ _ _ _ _ _ _ _ _ w) ?_
 rintro u W0 ⟨b3, rfl, rfl⟩
 refine w_callW (fun w => zR Tryd.func15 rfl rfl rfl) rfl rfl (fun w _ => htwo_spec 7 _ _ _ _ _ _ _ _ _ _ _ _ w) ?_
 rintro u W0 ⟨b4, rfl, rfl⟩
 refine zC (fun w => zR Tryd.func14 rfl rfl rfl) rfl rfl (fun w h => write2 _ _ w (hW.now (.head _) h) (h.at_ 1 rfl) (h.at_ 0 rfl)) ?_; refine zm rfl ?_; refine w_r (fun _ => R_extract rfl rfl) rfl rfl ?_; refine w_r (fun _ => R_extract rfl rfl) rfl rfl ?_; refine za (v := str _) rfl ?_; refine aI rfl ?_; refine yC ?_; refine zC (fun w => zR Tryd.func16 rfl rfl rfl) rfl rfl (fun w h => hname_spec _ w) ?_; refine w_r (fun _ => R_build bt49 rfl) rfl rfl ?_; refine w_callW (fun w => zR Tryd.func15 rfl rfl rfl) rfl rfl (fun w _ => htwo_spec 6 _ _ _ _ _ _ _ _ _ _ _ _ w) ?_
 rintro u W0 ⟨b5, rfl, rfl⟩
 refine zS slt36 (by decide) rfl rfl (fun b6 gb6 ub6 => ?_)
 refine w_r (fun _ => R_build bt49 rfl) rfl rfl ?_; refine zC (fun w => zR Tryd.func14 rfl rfl rfl) rfl rfl (fun w h => write3 _ _ w (hW.now (.head _) h) (h.at_ 1 rfl) (h.at_ 0 rfl)) ?_; refine zm rfl ?_; refine w_r (fun _ => R_extract rfl rfl) rfl rfl ?_; refine w_r (fun _ => R_extract rfl rfl) rfl rfl ?_; refine za (v := str _) rfl ?_; refine aI rfl ?_; refine yC ?_; refine w_alloc zr30 (fun t7b gt7b ut7b => ?_)
 refine yC ?_; refine w_r (fun _ => R_build bt49 rfl) rfl rfl ?_; refine zS slt36 (by decide) rfl rfl (fun b8 gb8 ub8 => ?_)
 refine w_r (fun _ => R_build bt53 rfl) rfl rfl ?_; refine zS slt24 (by decide) rfl rfl (fun b9 gb9 ub9 => ?_)
 refine w_r (fun _ => R_build bt27 rfl) rfl rfl ?_; refine zf fa30_0 rfl ?_; refine w_r (fun _ => R_iaA ara28 (by decide) rfl rfl (by first | omega | decide)) rfl rfl ?_; refine w_store 2 rfl z27 rfl rfl rfl rfl rfl rfl rfl ?_; refine yC ?_; refine w_loadA z30 rfl (fun _ h => h.at_ 2 rfl) rfl ?_; refine zC (fun w => zR Tryd.func10 rfl rfl rfl) rfl rfl (fun w h => write4 _ _ w (hW.now (.head _) h) (h.at_ 1 rfl) (h.at_ 0 rfl)) ?_; refine zm rfl ?_; refine w_r (fun _ => R_extract rfl rfl) rfl rfl ?_; refine w_r (fun _ => R_extract rfl rfl) rfl rfl ?_; refine za (v := str _) rfl ?_; refine aI rfl ?_; refine yC ?_; refine mI rfl ?_; refine w_r (fun _ => R_eq rfl rfl) rfl rfl ?_; refine mB rfl ?_
 refine zd (t := 51) rfl (fun h10 => ?_) (fun h10 => ?_)
 ·refine zw rfl rfl (bT h10) ?_; refine zm (v := str _) rfl ?_; refine zw rfl rfl (bT h10) ?_; refine w_r (fun _ => R_seq rfl rfl) rfl rfl ?_; refine w_r (v := .bool _) (fun _ => zT (bT h10) rfl) rfl rfl ?_; refine mB rfl ?_; refine zd (t := 55) rfl (fun h11 => ?_) (fun h11 => ?_)
  ·refine zw rfl rfl (bT h11) ?_; refine mI rfl ?_; refine zw rfl rfl (bT h11) ?_; refine w_r (fun _ => R_eq rfl rfl) rfl rfl ?_; refine w_r (v := .bool _) (fun _ => zT (bT h11) rfl) rfl rfl ?_; refine mB rfl ?_; refine zd (t := 59) rfl (fun h12 => ?_) (fun h12 => ?_)
   ·refine zw rfl rfl (bT h12) ?_; refine zm (v := str _) rfl ?_; refine zw rfl rfl (bT h12) ?_; refine w_r (fun _ => R_seq rfl rfl) rfl rfl ?_; refine w_r (v := .bool _) (fun _ => zT (bT h12) rfl) rfl rfl ?_; refine mB rfl ?_; refine zd (t := 63) rfl (fun h13 => ?_) (fun h13 => ?_)
    ·refine zw rfl rfl (bT h13) ?_; refine mI rfl ?_; refine zw rfl rfl (bT h13) ?_; refine w_r (fun _ => R_eq rfl rfl) rfl rfl ?_; refine w_r (v := .bool _) (fun _ => zT (bT h13) rfl) rfl rfl ?_; refine mB rfl ?_; refine zd (t := 67) rfl (fun h14 => ?_) (fun h14 => ?_)
     ·refine zw rfl rfl (bT h14) ?_; refine zm (v := str _) rfl ?_; refine zw rfl rfl (bT h14) ?_; refine w_r (fun _ => R_seq rfl rfl) rfl rfl ?_; refine w_r (v := .bool _) (fun _ => zT (bT h14) rfl) rfl rfl ?_; refine mB rfl ?_; refine zd (t := 71) rfl (fun h15 => ?_) (fun h15 => ?_)
      ·refine zw rfl rfl (bT h15) ?_; refine mI rfl ?_; refine zw rfl rfl (bT h15) ?_; refine w_r (fun _ => R_eq rfl rfl) rfl rfl ?_; refine w_r (v := .bool _) (fun _ => zT (bT h15) rfl) rfl rfl ?_; refine mB rfl ?_; refine zd (t := 75) rfl (fun h16 => ?_) (fun h16 => ?_)
       ·refine zw rfl rfl (bT h16) ?_; refine zm (v := str _) rfl ?_; refine zw rfl rfl (bT h16) ?_; refine w_r (fun _ => R_seq rfl rfl) rfl rfl ?_; refine w_r (v := .bool _) (fun _ => zT (bT h16) rfl) rfl rfl ?_; refine mB rfl ?_; refine zd (t := 79) rfl (fun h17 => ?_) (fun h17 => ?_)
        ·refine zw rfl rfl (bT h17) ?_; refine zC (fun w => zR Tryd.func7 rfl rfl rfl) rfl rfl (fun w h => name_x w (hW.now (.head _) h)) ?_; refine w_r (v := .bool _) (fun _ => zT (bT h17) rfl) rfl rfl ?_; refine mB rfl ?_; refine zw rfl rfl rfl ?_; refine zC (fun w => zR Tryd.func7 rfl rfl rfl) rfl rfl (fun w h => name_for w (hW.now (.head _) h)) ?_; refine zw rfl rfl rfl ?_; refine w_r (fun _ => R_not rfl) rfl rfl ?_; refine w_r (v := .bool _) (fun _ => zT rfl rfl) rfl rfl ?_; refine mB rfl ?_; refine zw rfl rfl rfl ?_; refine zC (fun w => zR Tryd.func7 rfl rfl rfl) rfl rfl (fun w h => name_1 w (hW.now (.head _) h)) ?_
         refine zw rfl rfl rfl ?_; refine w_r (fun _ => R_not rfl) rfl rfl ?_; refine w_r (v := .bool _) (fun _ => zT rfl rfl) rfl rfl ?_; refine mB rfl ?_; refine zw rfl rfl rfl ?_; refine w_r (fun _ => R_build bt49 rfl) rfl rfl ?_; refine zw rfl rfl rfl ?_; refine zC (fun w => zR Tryd.func17 rfl rfl rfl) rfl rfl (fun w h => check_0 w (hW.now (.head _) h)) ?_; refine zw rfl rfl rfl ?_; refine w_r (fun _ => R_eq rfl rfl) rfl rfl ?_; refine w_r (v := .bool _) (fun _ => zT rfl rfl) rfl rfl ?_; refine mB rfl ?_; refine zd (t := 95) rfl (fun h18 => ?_) (fun h18 => ?_)
         ·refine zw rfl rfl (bT h18) ?_; refine w_loadA z30 rfl (fun _ h => h.at_ 2 rfl) rfl ?_; refine zw rfl rfl (bT h18) ?_; refine zC (fun w => zR Tryd.func13 rfl rfl rfl) rfl rfl (fun w h => nodes4 _ _ w (h.at_ 1 rfl) (h.at_ 0 rfl)) ?_; refine zw rfl rfl (bT h18) ?_; refine w_r (fun _ => R_eq rfl rfl) rfl rfl ?_; refine w_r (v := .bool _) (fun _ => zT (bT h18) rfl) rfl rfl ?_; refine aB rfl ?_; refine yB ?_; refine ze ?_; refine zo (v := .bool _) rfl rfl rfl ?_; exact fun w' hw => ⟨rfl, hw.fr _ (.head _)⟩
         ·first | exact absurd (by first | rfl | decide) h18 | exact absurd h18 (by decide) | (simp at h18)
        ·first | exact absurd (by first | rfl | decide) h17 | exact absurd h17 (by decide) | (simp at h17)
       ·first | exact absurd (by first | rfl | decide) h16 | exact absurd h16 (by decide) | (simp at h16)
      ·first | exact absurd (by first | rfl | decide) h15 | exact absurd h15 (by decide) | (simp at h15)
     ·first | exact absurd (by first | rfl | decide) h14 | exact absurd h14 (by decide) | (simp at h14)
    ·first | exact absurd (by first | rfl | decide) h13 | exact absurd h13 (by decide) | (simp at h13)
   ·first | exact absurd (by first | rfl | decide) h12 | exact absurd h12 (by decide) | (simp at h12)
  ·first | exact absurd (by first | rfl | decide) h11 | exact absurd h11 (by decide) | (simp at h11)
 ·first | exact absurd (by first | rfl | decide) h10 | exact absurd h10 (by decide) | (simp at h10)

end Go.Proofs.YtcmcdgkjipnfnaaDoor
end

section
/- Trees: names that are too long; which trees are the same, but for places. -/
namespace Go.Tree
mutual
def exLong : Ex → Bool
  | .mk _ _ nm ks => decide (200 < nm.length) || exsLong ks
def exsLong : List Ex → Bool
  | [] => false
  | e :: l => exLong e || exsLong l
end
theorem exsLong_any : ∀ l : List Ex, exsLong l = l.any exLong
  | [] => by simp [exsLong]
  | e :: l => by rw [exsLong, exsLong_any l, List.any_cons]
mutual
def smLong : Sm → Bool
  | .mk _ _ nm ks b e => decide (200 < nm.length) || exsLong ks || smsLong b || smsLong e
def smsLong : List Sm → Bool
  | [] => false
  | e :: l => smLong e || smsLong l
end
theorem smsLong_any : ∀ l : List Sm, smsLong l = l.any smLong
  | [] => by simp [smsLong]
  | e :: l => by rw [smsLong, smsLong_any l, List.any_cons]
def dcLong (d : Dc) : Bool := decide (200 < d.nm.length) || exsLong d.size || exsLong d.lower || exsLong d.upper || exsLong d.init
def bkLong (b : Bk) : Bool := smsLong b.stmts || b.decls.any dcLong
def pgLong (p : List Bk) : Bool := p.any bkLong
def exSmall (x : Ex) : Bool := decide (exN x ≤ 400) && !exLong x
def pgSmall (p : List Bk) : Bool := decide (pgN p ≤ 600) && !pgLong p
theorem any_of_take {α : Type} {q : α → Bool} {l : List α} {k : Nat} (h : ∀ y ∈ l.take k, q y = false) (hk : l.length ≤ k) : l.any q = false := by
  rw [List.take_of_length_le hk] at h
  rw [List.any_eq_false]
  intro x hx
  simp [h x hx]
theorem any_yes {α : Type} {q : α → Bool} {l : List α} {k : Nat} {x : α} (hx : l[k]? = some x) (h : q x = true) : l.any q = true := by
  rw [List.any_eq_true]
  exact ⟨x, List.mem_of_getElem? hx, h⟩
mutual
def exSame : Ex → Ex → Bool
  | .mk o _ n k, y => decide (o = y.op) && (decide (n = y.nm) && exsSame k y.kids)
def exsSame : List Ex → List Ex → Bool
  | [], m => m.isEmpty
  | x :: l, m => match m with
    | [] => false
    | y :: m => exSame x y && exsSame l m
end
def pairOk {α : Type} (q : α → α → Bool) (l m : List α) : Bool := decide (l.length = m.length) && (l.zip m).all (fun p => q p.1 p.2)
theorem pairOk_cons {α : Type} (q : α → α → Bool) (x y : α) (l m : List α) : pairOk q (x :: l) (y :: m) = (q x y && pairOk q l m) := by
  unfold pairOk
  simp only [List.length_cons, List.zip_cons_cons, List.all_cons]
  by_cases h : l.length = m.length <;> simp [h]
theorem exsSame_eq : ∀ l m : List Ex, exsSame l m = pairOk exSame l m
  | [], [] => by simp [exsSame, pairOk]
  | [], y :: m => by simp [exsSame, pairOk]
  | x :: l, [] => by simp [exsSame, pairOk]
  | x :: l, y :: m => by rw [exsSame, pairOk_cons, exsSame_eq l m]
namespace Sm
def nm : Sm → Str | .mk _ _ n _ _ _ => n
def kids : Sm → List Ex | .mk _ _ _ k _ _ => k
def body : Sm → List Sm | .mk _ _ _ _ b _ => b
def els : Sm → List Sm | .mk _ _ _ _ _ e => e
end Sm
mutual
def smSame : Sm → Sm → Bool
  | .mk o _ n k b e, y => decide (o = y.op) && (decide (n = y.nm) && (exsSame k y.kids && (smsSame b y.body && smsSame e y.els)))
def smsSame : List Sm → List Sm → Bool
  | [], m => m.isEmpty
  | x :: l, m => match m with
    | [] => false
    | y :: m => smSame x y && smsSame l m
end
theorem smsSame_eq : ∀ l m : List Sm, smsSame l m = pairOk smSame l m
  | [], [] => by simp [smsSame, pairOk]
  | [], y :: m => by simp [smsSame, pairOk]
  | x :: l, [] => by simp [smsSame, pairOk]
  | x :: l, y :: m => by rw [smsSame, pairOk_cons, smsSame_eq l m]
def dcSame (c d : Dc) : Bool := decide (c.ty = d.ty) && (decide (c.nm = d.nm) && (exsSame c.size d.size && (exsSame c.lower d.lower && (exsSame c.upper d.upper && exsSame c.init d.init))))
def bkSame (x y : Bk) : Bool := decide (x.is = y.is) && (pairOk dcSame x.decls y.decls && smsSame x.stmts y.stmts)
def pgSame (p q : List Bk) : Bool := pairOk bkSame p q
theorem zip_get {α β : Type} {l : List α} {m : List β} {k : Nat} {x : α} {y : β} (hx : l[k]? = some x) (hy : m[k]? = some y) : (l.zip m)[k]? = some (x, y) := by
  rw [List.getElem?_zip_eq_some]
  exact ⟨hx, hy⟩
theorem pairOk_len {α : Type} {q : α → α → Bool} {l m : List α} (h : ¬ l.length = m.length) : pairOk q l m = false := by simp [pairOk, h]
theorem pairOk_no {α : Type} {q : α → α → Bool} {l m : List α} {k : Nat} {x y : α} (hx : l[k]? = some x) (hy : m[k]? = some y) (h : q x y = false) : pairOk q l m = false := by
  unfold pairOk
  rw [all_no (zip_get hx hy) h, Bool.and_false]
theorem pairOk_yes {α : Type} {q : α → α → Bool} {l m : List α} {k : Nat} (hl : l.length = m.length) (h : ∀ p ∈ (l.zip m).take k, (!q p.1 p.2) = false) (hk : l.length ≤ k) : pairOk q l m = true := by
  have e : (l.zip m).all (fun p => q p.1 p.2) = true := all_of_take (q := fun p : α × α => q p.1 p.2) h (by rw [List.length_zip]; omega)
  unfold pairOk
  rw [e, decide_eq_true hl]; rfl
theorem pair_next {α : Type} {q : α → α → Bool} {l m : List α} {k : Nat} {x y : α} (h : ∀ p ∈ (l.zip m).take k, (!q p.1 p.2) = false) (hx : l[k]? = some x) (hy : m[k]? = some y) (hq : q x y = true) : ∀ p ∈ (l.zip m).take (k + 1), (!q p.1 p.2) = false :=
  take_all (p := fun p => !q p.1 p.2) h (zip_get hx hy) (by simp [hq])
end Go.Tree
namespace Go.Tree
/-- a part of a row -/
theorem sub_get {α : Type} {cs l : List α} {k n : Nat} (h : (cs.drop k).take n = l) {j : Nat} {v : α} (hj : l[j]? = some v) : cs[0 + k + j]? = some v := by
  subst h
  have h1 := (List.getElem?_eq_some_iff.1 hj).1
  rw [List.getElem?_take, if_pos (by rw [List.length_take] at h1; omega), List.getElem?_drop] at hj
  rw [Nat.zero_add]; exact hj
end Go.Tree
end

section
namespace Go.Proofs.YtcmcdgkjipnfnaaDoor
open Go.RowKit Go.Sx
open Go.Tok Go.Tree


def RNodesP (n : Nat) : Prop := ∀ (l : List Ex) (a : Option Addr) (c : Nat) (N : Nat → Prop) (w : World), exsW l < n → l.length ≤ 10000000 → exsM w N l a 0 →
    Ret Tryd.prog 43 #[.slice a l.length c] w fun v w' => v = .int .i64 (exsN l : Nat) ∧ Ext w w'
def RLongP (n : Nat) : Prop := ∀ (l : List Ex) (a : Option Addr) (c : Nat) (N : Nat → Prop) (w : World), exsW l < n → l.length ≤ 10000000 → exsM w N l a 0 →
    Ret Tryd.prog 24 #[.slice a l.length c] w fun v w' => v = .bool (exsLong l) ∧ Ext w w'

set_option maxRecDepth 100000 in
set_option maxHeartbeats 400000 in
theorem rnodes_step (n : Nat) (ih : RNodesP n) (hN : n ≤ 10000000) (l : List Ex) (a : Option Addr) (c : Nat) (N : Nat → Prop) (w : World) (hl : exsW l < n + 1) (hll : l.length ≤ 10000000) (hm : exsM w N l a 0) :
    Ret Tryd.prog 43 #[.slice a l.length c] w (fun v w' => v = .int .i64 (exsN l : Nat) ∧ Ext w w') := by
  refine enter (S := No) (l := [_]) (L := []) 21 Tryd.func43 rfl rfl rfl (St.start w No) ?_; refine yA ?_; refine aI rfl ?_; refine yC ?_; refine aI rfl ?_; refine yB ?_; refine zq ?_; refine yA ?_; refine aI rfl ?_; refine yB ?_; refine zB ?_; refine c_loop (fun m e B L => ∃ (k : Nat), e 0 = .slice a l.length c ∧ e 3 = .int .i64 (exsN (l.take k) : Nat) ∧ e 4 = .int .i64 (k : Nat) ∧ B = [(w, No)] ∧ L = [] ∧ k ≤ l.length ∧ m = l.length - k) _ ⟨0, rfl, rfl, rfl, rfl, rfl, Nat.zero_le _, rfl⟩ ?_
  rintro m e B L ⟨k, e0_1, e3_1, e4_1, rfl, rfl, hk, rfl⟩
  refine zq ?_; refine yA ?_; refine mI e4_1 ?_; refine mS e0_1 ?_; refine w_r (fun _ => R_len sl36 rfl) rfl rfl ?_; refine w_r (fun _ => R_lt rfl rfl) rfl rfl ?_; refine yB ?_; refine zD rfl (fun h1 => ?_) (fun h1 => ?_)
  · have hlt : k < l.length := (by omega); obtain ⟨x, hxk⟩ : ∃ x, l[k]? = some x := ⟨_, List.getElem?_eq_getElem hlt⟩; obtain ⟨cs, hA, hE⟩ := hm.get0 hxk; have hxn := exsW_mem (List.mem_of_getElem? hxk); have hle := exsN_take l (k + 1); have hnx := exsN_next hxk; have hlN := exsN_le l; obtain ⟨b1, o1, rfl⟩ := hA.ptr; obtain ⟨op, at_, nm, ks⟩ := x; have hE2 := hE; unfold exM at hE2; obtain ⟨ka, kc, rfl, hkc, hks⟩ := hE2; have hxw := hxn; unfold exW at hxw; have hxN := hnx; unfold exN at hxN; have hkN := exsN_le ks
    refine zi ?_; refine zk ?_; refine zq ?_; refine zB ?_; refine zr ?_; refine mI e3_1 ?_; refine w_r (fun _ => R_addi rfl rfl (by omega)) rfl rfl ?_; refine mS e0_1 ?_; refine mI e4_1 ?_; refine w_r (fun _ => R_iaN (i := k) sl36 rfl rfl (by first | omega | decide)) rfl rfl ?_; refine zf fa49_3 rfl ?_; refine zl z36 rfl (fun _ h => hA.cell (fun _ _ hh => hh) (.head _) h 3 _ rfl) ?_; refine zC (fun w => zR Tryd.func43 rfl rfl rfl) rfl rfl (fun w h => ih ks ka kc N w (by omega) (by omega) (hks.now (fun _ _ hh => hh) (.head _) h)) ?_; refine w_r (fun _ => R_addi rfl rfl (by omega)) rfl rfl ?_; refine aI rfl ?_; refine zn ?_; refine b_on (zk ?_); refine zr ?_; refine mI e4_1 ?_
    refine w_r (fun _ => R_addi rfl rfl (by omega)) rfl rfl ?_; refine aI rfl ?_; refine zn ?_
    have hfin : ((exsN (l.take k) : Nat) : Int) + 1 + ((exsN ks : Nat) : Int) = ((exsN (l.take (k + 1)) : Nat) : Int) := by omega
    exact k_again _ (by omega) ⟨k + 1, e0_1, (congrArg (Value.int .i64) hfin), rfl, rfl, rfl, by omega, rfl⟩
  · refine c_exit ?_; refine zx (zx (b_here rfl (zk ?_))); refine yA ?_; refine mI e3_1 ?_; refine aI rfl ?_; refine yB ?_; refine ze ?_; refine zo (v := .int _ _) rfl rfl rfl ?_; exact fun w' hw => ⟨by rw [List.take_of_length_le (by omega)], hw.fr _ (.head _)⟩


theorem rnodes_all : ∀ n : Nat, n ≤ 10000000 → RNodesP n
  | 0, _ => fun _ _ _ _ _ h => absurd h (Nat.not_lt_zero _)
  | n + 1, h => rnodes_step n (rnodes_all n (by omega)) (by omega)
theorem rnodes_ok : RNodesP 10000000 := rnodes_all _ (Nat.le_refl _)

set_option maxRecDepth 100000 in
set_option maxHeartbeats 400000 in
theorem rlong_step (n : Nat) (ih : RLongP n) (hN : n ≤ 10000000) (l : List Ex) (a : Option Addr) (c : Nat) (N : Nat → Prop) (w : World) (hl : exsW l < n + 1) (hll : l.length ≤ 10000000) (hm : exsM w N l a 0) :
    Ret Tryd.prog 24 #[.slice a l.length c] w (fun v w' => v = .bool (exsLong l) ∧ Ext w w') := by
  refine enter (S := No) (l := [_]) (L := []) 25 Tryd.func24 rfl rfl rfl (St.start w No) ?_; refine yA ?_; refine aB rfl ?_; refine yB ?_; refine zq ?_; refine yA ?_; refine aI rfl ?_; refine yB ?_; refine zB ?_; refine c_loop (fun m e B L => ∃ (k : Nat), e 0 = .slice a l.length c ∧ e 3 = .int .i64 (k : Nat) ∧ B = [(w, No)] ∧ L = [] ∧ k ≤ l.length ∧ (∀ y ∈ l.take k, exLong y = false) ∧ m = l.length - k) _ ⟨0, rfl, rfl, rfl, rfl, Nat.zero_le _, (by simp), rfl⟩ ?_
  rintro m e B L ⟨k, e0_1, e3_1, rfl, rfl, hk, hy, rfl⟩
  refine zq ?_; refine yA ?_; refine mI e3_1 ?_; refine mS e0_1 ?_; refine w_r (fun _ => R_len sl36 rfl) rfl rfl ?_; refine w_r (fun _ => R_lt rfl rfl) rfl rfl ?_; refine yB ?_; refine zD rfl (fun h1 => ?_) (fun h1 => ?_)
  · have hlt : k < l.length := (by omega); obtain ⟨x, hxk⟩ : ∃ x, l[k]? = some x := ⟨_, List.getElem?_eq_getElem hlt⟩; obtain ⟨cs, hA, hE⟩ := hm.get0 hxk; have hxn := exsW_mem (List.mem_of_getElem? hxk); have hle := exsN_take l (k + 1); have hnx := exsN_next hxk; have hlN := exsN_le l; obtain ⟨b1, o1, rfl⟩ := hA.ptr; obtain ⟨op, at_, nm, ks⟩ := x; have hE2 := hE; unfold exM at hE2; obtain ⟨ka, kc, rfl, hkc, hks⟩ := hE2; have hxw := hxn; unfold exW at hxw; have hxN := hnx; unfold exN at hxN; have hkN := exsN_le ks
    refine zi ?_; refine zk ?_; refine zq ?_; refine zB ?_; refine yA ?_; refine mS e0_1 ?_; refine mI e3_1 ?_; refine w_r (fun _ => R_iaN (i := k) sl36 rfl rfl (by first | omega | decide)) rfl rfl ?_; refine zf fa49_2 rfl ?_; refine zl z9 rfl (fun _ h => by first | exact hA.cell (fun _ _ hh => hh) (.head _) h 3 _ rfl | exact hA.cell (fun _ _ hh => hh) (.head _) h 2 _ rfl) ?_; refine w_r (fun _ => R_slen st9 rfl (by omega)) rfl rfl ?_; refine w_r (fun _ => R_gt rfl rfl) rfl rfl ?_; refine mB rfl ?_; refine zd (t := 17) rfl (fun h2 => ?_) (fun h2 => ?_)
    · refine zs rfl rfl (bT h2) ?_; refine zs rfl rfl (bT h2) ?_; refine zs rfl rfl (bT h2) ?_; refine zs rfl rfl (bT h2) ?_; refine zs rfl rfl (bT h2) ?_; refine zs rfl rfl (bT h2) ?_; refine w_r (v := .bool _) (fun _ => zT (bT h2) rfl) rfl rfl ?_; refine yB ?_; refine zE rfl ?_; refine yA ?_; refine aB rfl ?_; refine yB ?_; refine ze ?_; refine zb (zt (zt (zb (zt (?_)))))
      refine zo (v := .bool _) rfl rfl rfl ?_; exact fun w' hw => ⟨by rw [exsLong_any]; first | (rw [any_of_take hy (by omega)]; done) | (rw [any_yes hxk (by (try clear ih); (try clear hm); (try clear hks); (try clear hw); (try clear hl); (try clear hxn); (try clear hle); (try clear hnx); (try clear hxN); (try clear hxw); (try clear hy); (try clear hlN); (try clear hkN); (try clear e0_1); (try clear e3_1); (try clear hA hE); simp only [exLong]; grind)]; done), hw.fr _ (.head _)⟩
    · refine zw rfl rfl (bF h2) ?_; refine mS e0_1 ?_; refine zw rfl rfl (bF h2) ?_; refine mI e3_1 ?_; refine zw rfl rfl (bF h2) ?_; refine w_r (fun _ => R_iaN (i := k) sl36 rfl rfl (by first | omega | decide)) rfl rfl ?_; refine zw rfl rfl (bF h2) ?_; refine zf fa49_3 rfl ?_; refine zw rfl rfl (bF h2) ?_; refine zl z36 rfl (fun _ h => by first | exact hA.cell (fun _ _ hh => hh) (.head _) h 3 _ rfl | exact hA.cell (fun _ _ hh => hh) (.head _) h 2 _ rfl) ?_; refine zw rfl rfl (bF h2) ?_; refine zC (fun w => zR Tryd.func24 rfl rfl rfl) rfl rfl (fun w h => ih ks ka kc N w (by omega) (by omega) (hks.now (fun _ _ hh => hh) (.head _) h)) ?_; refine w_r (v := .bool _) (fun _ => zF (bF h2) rfl) rfl rfl ?_; refine yB ?_; refine c_cond rfl (fun h3 => ?_) (fun h3 => ?_)
      · refine yA ?_; refine aB rfl ?_; refine yB ?_; refine ze ?_; refine zb (zt (zt (zb (zt (?_)))))
        refine zo (v := .bool _) rfl rfl rfl ?_; exact fun w' hw => ⟨by rw [exsLong_any]; first | (rw [any_of_take hy (by omega)]; done) | (rw [any_yes hxk (by (try clear ih); (try clear hm); (try clear hks); (try clear hw); (try clear hl); (try clear hxn); (try clear hle); (try clear hnx); (try clear hxN); (try clear hxw); (try clear hy); (try clear hlN); (try clear hkN); (try clear e0_1); (try clear e3_1); (try clear hA hE); simp only [exLong]; grind)]; done), hw.fr _ (.head _)⟩
      · refine zi ?_; refine b_on (zk ?_); refine zr ?_; refine mI e3_1 ?_; refine w_r (fun _ => R_addi rfl rfl (by omega)) rfl rfl ?_; refine aI rfl ?_; refine zn ?_; exact k_again _ (by omega) ⟨k + 1, e0_1, rfl, rfl, rfl, by omega, take_all hy hxk (by (try clear ih); (try clear hm); (try clear hks); (try clear hl); (try clear hxn); (try clear hle); (try clear hnx); (try clear hxN); (try clear hxw); (try clear hy); (try clear hlN); (try clear hkN); (try clear e0_1); (try clear e3_1); (try clear hA hE); simp only [exLong]; grind), rfl⟩
  · refine c_exit ?_; refine zx (zx (b_here rfl (zk ?_))); refine yA ?_; refine aB rfl ?_; refine yB ?_; refine ze ?_; refine zo (v := .bool _) rfl rfl rfl ?_; exact fun w' hw => ⟨by rw [exsLong_any]; first | (rw [any_of_take hy (by omega)]; done) | (rw [any_yes hxk (by (try clear ih); (try clear hm); (try clear hw); (try clear hl); (try clear hy); (try clear e0_1); (try clear e3_1); simp only [exLong]; grind)]; done), hw.fr _ (.head _)⟩


theorem rlong_all : ∀ n : Nat, n ≤ 10000000 → RLongP n
  | 0, _ => fun _ _ _ _ _ h => absurd h (Nat.not_lt_zero _)
  | n + 1, h => rlong_step n (rlong_all n (by omega)) (by omega)
theorem rlong_ok : RLongP 10000000 := rlong_all _ (Nat.le_refl _)
def RNodesOfP (n : Nat) : Prop := ∀ (l : List Sm) (a : Option Addr) (c : Nat) (N : Nat → Prop) (w : World), smsW l < n → l.length ≤ 10000000 → smsM w N l a 0 →
    Ret Tryd.prog 42 #[.slice a l.length c] w fun v w' => v = .int .i64 (smsN l : Nat) ∧ Ext w w'
def RLongOfP (n : Nat) : Prop := ∀ (l : List Sm) (a : Option Addr) (c : Nat) (N : Nat → Prop) (w : World), smsW l < n → l.length ≤ 10000000 → smsM w N l a 0 →
    Ret Tryd.prog 23 #[.slice a l.length c] w fun v w' => v = .bool (smsLong l) ∧ Ext w w'

set_option maxRecDepth 100000 in
set_option maxHeartbeats 2000000 in
theorem rnodesOf_step (n : Nat) (ih : RNodesOfP n) (hN : n ≤ 10000000) (l : List Sm) (a : Option Addr) (c : Nat) (N : Nat → Prop) (w : World) (hl : smsW l < n + 1) (hll : l.length ≤ 10000000) (hm : smsM w N l a 0) :
    Ret Tryd.prog 42 #[.slice a l.length c] w (fun v w' => v = .int .i64 (smsN l : Nat) ∧ Ext w w') := by
  refine enter (S := No) (l := [_]) (L := []) 35 Tryd.func42 rfl rfl rfl (St.start w No) ?_; refine yA ?_; refine aI rfl ?_; refine yC ?_; refine aI rfl ?_; refine yB ?_; refine zq ?_; refine yA ?_; refine aI rfl ?_; refine yB ?_; refine zB ?_; refine c_loop (fun m e B L => ∃ (k : Nat), e 0 = .slice a l.length c ∧ e 3 = .int .i64 (smsN (l.take k) : Nat) ∧ e 4 = .int .i64 (k : Nat) ∧ B = [(w, No)] ∧ L = [] ∧ k ≤ l.length ∧ m = l.length - k) _ ⟨0, rfl, rfl, rfl, rfl, rfl, Nat.zero_le _, rfl⟩ ?_
  rintro m e B L ⟨k, e0_1, e3_1, e4_1, rfl, rfl, hk, rfl⟩
  refine zq ?_; refine yA ?_; refine mI e4_1 ?_; refine mS e0_1 ?_; refine w_r (fun _ => R_len sl25 rfl) rfl rfl ?_; refine w_r (fun _ => R_lt rfl rfl) rfl rfl ?_; refine yB ?_; refine zD rfl (fun h1 => ?_) (fun h1 => ?_)
  · have hlt : k < l.length := (by omega); obtain ⟨x, hxk⟩ : ∃ x, l[k]? = some x := ⟨_, List.getElem?_eq_getElem hlt⟩; obtain ⟨cs, hA, hE⟩ := hm.get0 hxk; have hxn := smsW_mem (List.mem_of_getElem? hxk); have hle := smsN_take l (k + 1); have hnx := smsN_next hxk; have hlN := smsN_le l; obtain ⟨b1, o1, rfl⟩ := hA.ptr; obtain ⟨op, at_, nm, ks, bo, el⟩ := x; have hE2 := hE; unfold smM at hE2; obtain ⟨ka, kc, ba, bc, ea, ec, rfl, hkc, hks, hbo, hel⟩ := hE2; have hxw := hxn; unfold smW at hxw; have hxN := hnx; unfold smN at hxN; have hkN := exsN_le ks
    refine zi ?_; refine zk ?_; refine zq ?_; refine zB ?_; refine c_held (St [(w, No)] []) mixed ?_; refine zh 0 rfl (by kernel_rfl) rfl rfl (fun w h => h) (fun w h => R_move e3_1) ?_; refine zh 1 rfl (by kernel_rfl) rfl rfl (fun w h => h) (fun w h => R_addi rfl rfl (by omega)) ?_; refine zh 2 rfl (by kernel_rfl) rfl rfl (fun w h => h) (fun w h => R_move e0_1) ?_; refine zh 3 rfl (by kernel_rfl) rfl rfl (fun w h => h) (fun w h => R_move e4_1) ?_; refine zh 4 rfl (by kernel_rfl) rfl rfl (fun w h => h) (fun w h => R_iaN (i := k) sl25 rfl rfl (by first | omega | decide)) ?_; refine zh 5 rfl (by kernel_rfl) rfl rfl (fun w h => h) (fun w h => R_fa fa38_3 rfl) ?_
    refine zh 6 rfl (by kernel_rfl) rfl rfl (fun w h => h) (fun w h => R_ld1 z36 rfl (by first | exact hA.cell (fun _ _ hh => hh) (.head _) h 3 _ rfl | exact hA.cell (fun _ _ hh => hh) (.head _) h 4 _ rfl | exact hA.cell (fun _ _ hh => hh) (.head _) h 5 _ rfl)) ?_; refine zh 9 rfl (by kernel_rfl) rfl rfl (fun w h => h) (fun w h => R_move e0_1) ?_; refine zh 10 rfl (by kernel_rfl) rfl rfl (fun w h => h) (fun w h => R_move e4_1) ?_; refine zh 11 rfl (by kernel_rfl) rfl rfl (fun w h => h) (fun w h => R_iaN (i := k) sl25 rfl rfl (by first | omega | decide)) ?_; refine zh 12 rfl (by kernel_rfl) rfl rfl (fun w h => h) (fun w h => R_fa fa38_4 rfl) ?_
    refine zh 13 rfl (by kernel_rfl) rfl rfl (fun w h => h) (fun w h => R_ld1 z25 rfl (by first | exact hA.cell (fun _ _ hh => hh) (.head _) h 3 _ rfl | exact hA.cell (fun _ _ hh => hh) (.head _) h 4 _ rfl | exact hA.cell (fun _ _ hh => hh) (.head _) h 5 _ rfl)) ?_; refine zh 16 rfl (by kernel_rfl) rfl rfl (fun w h => h) (fun w h => R_move e0_1) ?_; refine zh 17 rfl (by kernel_rfl) rfl rfl (fun w h => h) (fun w h => R_move e4_1) ?_; refine zh 18 rfl (by kernel_rfl) rfl rfl (fun w h => h) (fun w h => R_iaN (i := k) sl25 rfl rfl (by first | omega | decide)) ?_; refine zh 19 rfl (by kernel_rfl) rfl rfl (fun w h => h) (fun w h => R_fa fa38_5 rfl) ?_
    refine zh 20 rfl (by kernel_rfl) rfl rfl (fun w h => h) (fun w h => R_ld1 z25 rfl (by first | exact hA.cell (fun _ _ hh => hh) (.head _) h 3 _ rfl | exact hA.cell (fun _ _ hh => hh) (.head _) h 4 _ rfl | exact hA.cell (fun _ _ hh => hh) (.head _) h 5 _ rfl)) ?_; refine h_pure 7 rfl (by kernel_rfl) rfl rfl (fun w h => h) (fun w => zR Tryd.func43 rfl rfl rfl) (fun w h => rnodes_ok ks ka kc N w (by omega) (by omega) (hks.now (fun _ _ hh => hh) (.head _) h)) ?_; refine zh 8 rfl (by kernel_rfl) rfl rfl (fun w h => h) (fun w h => R_addi rfl rfl (by omega)) ?_; refine h_pure 14 rfl (by kernel_rfl) rfl rfl (fun w h => h) (fun w => zR Tryd.func42 rfl rfl rfl) (fun w h => ih bo ba bc N w (by omega) (by omega) (hbo.now (fun _ _ hh => hh) (.head _) h)) ?_; refine zh 15 rfl (by kernel_rfl) rfl rfl (fun w h => h) (fun w h => R_addi rfl rfl (by omega)) ?_
    refine h_pure 21 rfl (by kernel_rfl) rfl rfl (fun w h => h) (fun w => zR Tryd.func42 rfl rfl rfl) (fun w h => ih el ea ec N w (by omega) (by omega) (hel.now (fun _ _ hh => hh) (.head _) h)) ?_; refine zh 22 rfl (by kernel_rfl) rfl rfl (fun w h => h) (fun w h => R_addi rfl rfl (by omega)) ?_; refine zh 23 rfl (by kernel_rfl) rfl rfl (fun w h => h) (fun w h => R_assign rfl) ?_; refine h_done (by kernel_rfl) (fun w h => h) ?_; refine b_on (zk ?_); refine zr ?_; refine mI e4_1 ?_; refine w_r (fun _ => R_addi rfl rfl (by omega)) rfl rfl ?_; refine aI rfl ?_; refine zn ?_
    have hfin : ((smsN (l.take k) : Nat) : Int) + 1 + ((exsN ks : Nat) : Int) + ((smsN bo : Nat) : Int) + ((smsN el : Nat) : Int) = ((smsN (l.take (k + 1)) : Nat) : Int) := by omega
    exact k_again _ (by omega) ⟨k + 1, e0_1, (congrArg (Value.int .i64) hfin), rfl, rfl, rfl, by omega, rfl⟩
  · refine c_exit ?_; refine zx (zx (b_here rfl (zk ?_))); refine yA ?_; refine mI e3_1 ?_; refine aI rfl ?_; refine yB ?_; refine ze ?_; refine zo (v := .int _ _) rfl rfl rfl ?_; exact fun w' hw => ⟨by rw [List.take_of_length_le (by omega)], hw.fr _ (.head _)⟩


theorem rnodesOf_all : ∀ n : Nat, n ≤ 10000000 → RNodesOfP n
  | 0, _ => fun _ _ _ _ _ h => absurd h (Nat.not_lt_zero _)
  | n + 1, h => rnodesOf_step n (rnodesOf_all n (by omega)) (by omega)
theorem rnodesOf_ok : RNodesOfP 10000000 := rnodesOf_all _ (Nat.le_refl _)

set_option maxRecDepth 100000 in
set_option maxHeartbeats 2000000 in
theorem rlongOf_step (n : Nat) (ih : RLongOfP n) (hN : n ≤ 10000000) (l : List Sm) (a : Option Addr) (c : Nat) (N : Nat → Prop) (w : World) (hl : smsW l < n + 1) (hll : l.length ≤ 10000000) (hm : smsM w N l a 0) :
    Ret Tryd.prog 23 #[.slice a l.length c] w (fun v w' => v = .bool (smsLong l) ∧ Ext w w') := by
  refine enter (S := No) (l := [_]) (L := []) 41 Tryd.func23 rfl rfl rfl (St.start w No) ?_; refine yA ?_; refine aB rfl ?_; refine yB ?_; refine zq ?_; refine yA ?_; refine aI rfl ?_; refine yB ?_; refine zB ?_; refine c_loop (fun m e B L => ∃ (k : Nat), e 0 = .slice a l.length c ∧ e 3 = .int .i64 (k : Nat) ∧ B = [(w, No)] ∧ L = [] ∧ k ≤ l.length ∧ (∀ y ∈ l.take k, smLong y = false) ∧ m = l.length - k) _ ⟨0, rfl, rfl, rfl, rfl, Nat.zero_le _, (by simp), rfl⟩ ?_
  rintro m e B L ⟨k, e0_1, e3_1, rfl, rfl, hk, hy, rfl⟩
  refine zq ?_; refine yA ?_; refine mI e3_1 ?_; refine mS e0_1 ?_; refine w_r (fun _ => R_len sl25 rfl) rfl rfl ?_; refine w_r (fun _ => R_lt rfl rfl) rfl rfl ?_; refine yB ?_; refine zD rfl (fun h1 => ?_) (fun h1 => ?_)
  · have hlt : k < l.length := (by omega); obtain ⟨x, hxk⟩ : ∃ x, l[k]? = some x := ⟨_, List.getElem?_eq_getElem hlt⟩; obtain ⟨cs, hA, hE⟩ := hm.get0 hxk; have hxn := smsW_mem (List.mem_of_getElem? hxk); have hle := smsN_take l (k + 1); have hnx := smsN_next hxk; have hlN := smsN_le l; obtain ⟨b1, o1, rfl⟩ := hA.ptr; obtain ⟨op, at_, nm, ks, bo, el⟩ := x; have hE2 := hE; unfold smM at hE2; obtain ⟨ka, kc, ba, bc, ea, ec, rfl, hkc, hks, hbo, hel⟩ := hE2; have hxw := hxn; unfold smW at hxw; have hxN := hnx; unfold smN at hxN; have hkN := exsN_le ks
    refine zi ?_; refine zk ?_; refine zq ?_; refine zB ?_; refine yA ?_; refine mS e0_1 ?_; refine mI e3_1 ?_; refine w_r (fun _ => R_iaN (i := k) sl25 rfl rfl (by first | omega | decide)) rfl rfl ?_; refine zf fa38_2 rfl ?_; refine zl z9 rfl (fun _ h => by first | exact hA.cell (fun _ _ hh => hh) (.head _) h 2 _ rfl | exact hA.cell (fun _ _ hh => hh) (.head _) h 3 _ rfl | exact hA.cell (fun _ _ hh => hh) (.head _) h 4 _ rfl | exact hA.cell (fun _ _ hh => hh) (.head _) h 5 _ rfl) ?_; refine w_r (fun _ => R_slen st9 rfl (by omega)) rfl rfl ?_; refine w_r (fun _ => R_gt rfl rfl) rfl rfl ?_; refine mB rfl ?_; refine zd (t := 17) rfl (fun h2 => ?_) (fun h2 => ?_)
    · refine zs rfl rfl (bT h2) ?_; refine zs rfl rfl (bT h2) ?_; refine zs rfl rfl (bT h2) ?_; refine zs rfl rfl (bT h2) ?_; refine zs rfl rfl (bT h2) ?_; refine zs rfl rfl (bT h2) ?_; refine w_r (v := .bool _) (fun _ => zT (bT h2) rfl) rfl rfl ?_; refine mB rfl ?_; refine zs rfl rfl rfl ?_; refine zs rfl rfl rfl ?_; refine zs rfl rfl rfl ?_; refine zs rfl rfl rfl ?_; refine zs rfl rfl rfl ?_; refine zs rfl rfl rfl ?_; refine w_r (v := .bool _) (fun _ => zT rfl rfl) rfl rfl ?_; refine mB rfl ?_; refine zs rfl rfl rfl ?_; refine zs rfl rfl rfl ?_; refine zs rfl rfl rfl ?_; refine zs rfl rfl rfl ?_; refine zs rfl rfl rfl ?_
      refine zs rfl rfl rfl ?_; refine w_r (v := .bool _) (fun _ => zT rfl rfl) rfl rfl ?_; refine yB ?_; refine zE rfl ?_; refine yA ?_; refine aB rfl ?_; refine yB ?_; refine ze ?_; refine zb (zt (zt (zb (zt (?_)))))
      refine zo (v := .bool _) rfl rfl rfl ?_; exact fun w' hw => ⟨by rw [smsLong_any]; first | (rw [any_of_take hy (by omega)]; done) | (rw [any_yes hxk (by (try clear ih); (try clear hm); (try clear hw); (try clear hl); (try clear hxn); (try clear hle); (try clear hnx); (try clear hxN); (try clear hxw); (try clear hy); (try clear hlN); (try clear hkN); (try clear e0_1); (try clear e3_1); (try clear hks hbo hel); (try clear hA hE); simp only [smLong]; grind)]; done), hw.fr _ (.head _)⟩
    · refine zw rfl rfl (bF h2) ?_; refine mS e0_1 ?_; refine zw rfl rfl (bF h2) ?_; refine mI e3_1 ?_; refine zw rfl rfl (bF h2) ?_; refine w_r (fun _ => R_iaN (i := k) sl25 rfl rfl (by first | omega | decide)) rfl rfl ?_; refine zw rfl rfl (bF h2) ?_; refine zf fa38_3 rfl ?_; refine zw rfl rfl (bF h2) ?_; refine zl z36 rfl (fun _ h => by first | exact hA.cell (fun _ _ hh => hh) (.head _) h 2 _ rfl | exact hA.cell (fun _ _ hh => hh) (.head _) h 3 _ rfl | exact hA.cell (fun _ _ hh => hh) (.head _) h 4 _ rfl | exact hA.cell (fun _ _ hh => hh) (.head _) h 5 _ rfl) ?_; refine zw rfl rfl (bF h2) ?_; refine zC (fun w => zR Tryd.func24 rfl rfl rfl) rfl rfl (fun w h => rlong_ok ks ka kc N w (by omega) (by omega) (hks.now (fun _ _ hh => hh) (.head _) h)) ?_
      refine w_r (v := .bool _) (fun _ => zF (bF h2) rfl) rfl rfl ?_; refine mB rfl ?_; refine zp (t := 25) rfl (fun h3 => ?_) (fun h3 => ?_)
      · refine zs rfl rfl (bV h3) ?_; refine zs rfl rfl (bV h3) ?_; refine zs rfl rfl (bV h3) ?_; refine zs rfl rfl (bV h3) ?_; refine zs rfl rfl (bV h3) ?_; refine zs rfl rfl (bV h3) ?_; refine w_r (v := .bool _) (fun _ => zT (bV h3) rfl) rfl rfl ?_; refine mB rfl ?_; refine zs rfl rfl rfl ?_; refine zs rfl rfl rfl ?_; refine zs rfl rfl rfl ?_; refine zs rfl rfl rfl ?_; refine zs rfl rfl rfl ?_; refine zs rfl rfl rfl ?_; refine w_r (v := .bool _) (fun _ => zT rfl rfl) rfl rfl ?_; refine yB ?_; refine zE rfl ?_; refine yA ?_; refine aB rfl ?_; refine yB ?_; refine ze ?_; refine zb (zt (zt (zb (zt (?_)))))
        refine zo (v := .bool _) rfl rfl rfl ?_; exact fun w' hw => ⟨by rw [smsLong_any]; first | (rw [any_of_take hy (by omega)]; done) | (rw [any_yes hxk (by (try clear ih); (try clear hm); (try clear hw); (try clear hl); (try clear hxn); (try clear hle); (try clear hnx); (try clear hxN); (try clear hxw); (try clear hy); (try clear hlN); (try clear hkN); (try clear e0_1); (try clear e3_1); (try clear hks hbo hel); (try clear hA hE); simp only [smLong]; grind)]; done), hw.fr _ (.head _)⟩
      · refine zw rfl rfl (bV h3) ?_; refine mS e0_1 ?_; refine zw rfl rfl (bV h3) ?_; refine mI e3_1 ?_; refine zw rfl rfl (bV h3) ?_; refine w_r (fun _ => R_iaN (i := k) sl25 rfl rfl (by first | omega | decide)) rfl rfl ?_; refine zw rfl rfl (bV h3) ?_; refine zf fa38_4 rfl ?_; refine zw rfl rfl (bV h3) ?_; refine zl z25 rfl (fun _ h => by first | exact hA.cell (fun _ _ hh => hh) (.head _) h 2 _ rfl | exact hA.cell (fun _ _ hh => hh) (.head _) h 3 _ rfl | exact hA.cell (fun _ _ hh => hh) (.head _) h 4 _ rfl | exact hA.cell (fun _ _ hh => hh) (.head _) h 5 _ rfl) ?_; refine zw rfl rfl (bV h3) ?_; refine zC (fun w => zR Tryd.func23 rfl rfl rfl) rfl rfl (fun w h => ih bo ba bc N w (by omega) (by omega) (hbo.now (fun _ _ hh => hh) (.head _) h)) ?_
        refine w_r (v := .bool _) (fun _ => zF (bV h3) rfl) rfl rfl ?_; refine mB rfl ?_; refine zp (t := 33) rfl (fun h4 => ?_) (fun h4 => ?_)
        · refine zs rfl rfl (bV h4) ?_; refine zs rfl rfl (bV h4) ?_; refine zs rfl rfl (bV h4) ?_; refine zs rfl rfl (bV h4) ?_; refine zs rfl rfl (bV h4) ?_; refine zs rfl rfl (bV h4) ?_; refine w_r (v := .bool _) (fun _ => zT (bV h4) rfl) rfl rfl ?_; refine yB ?_; refine zE rfl ?_; refine yA ?_; refine aB rfl ?_; refine yB ?_; refine ze ?_; refine zb (zt (zt (zb (zt (?_)))))
          refine zo (v := .bool _) rfl rfl rfl ?_; exact fun w' hw => ⟨by rw [smsLong_any]; first | (rw [any_of_take hy (by omega)]; done) | (rw [any_yes hxk (by (try clear ih); (try clear hm); (try clear hw); (try clear hl); (try clear hxn); (try clear hle); (try clear hnx); (try clear hxN); (try clear hxw); (try clear hy); (try clear hlN); (try clear hkN); (try clear e0_1); (try clear e3_1); (try clear hks hbo hel); (try clear hA hE); simp only [smLong]; grind)]; done), hw.fr _ (.head _)⟩
        · refine zw rfl rfl (bV h4) ?_; refine mS e0_1 ?_; refine zw rfl rfl (bV h4) ?_; refine mI e3_1 ?_; refine zw rfl rfl (bV h4) ?_; refine w_r (fun _ => R_iaN (i := k) sl25 rfl rfl (by first | omega | decide)) rfl rfl ?_; refine zw rfl rfl (bV h4) ?_; refine zf fa38_5 rfl ?_; refine zw rfl rfl (bV h4) ?_; refine zl z25 rfl (fun _ h => by first | exact hA.cell (fun _ _ hh => hh) (.head _) h 2 _ rfl | exact hA.cell (fun _ _ hh => hh) (.head _) h 3 _ rfl | exact hA.cell (fun _ _ hh => hh) (.head _) h 4 _ rfl | exact hA.cell (fun _ _ hh => hh) (.head _) h 5 _ rfl) ?_; refine zw rfl rfl (bV h4) ?_; refine zC (fun w => zR Tryd.func23 rfl rfl rfl) rfl rfl (fun w h => ih el ea ec N w (by omega) (by omega) (hel.now (fun _ _ hh => hh) (.head _) h)) ?_
          refine w_r (v := .bool _) (fun _ => zF (bV h4) rfl) rfl rfl ?_; refine yB ?_; refine c_cond rfl (fun h5 => ?_) (fun h5 => ?_)
          · refine yA ?_; refine aB rfl ?_; refine yB ?_; refine ze ?_; refine zb (zt (zt (zb (zt (?_)))))
            refine zo (v := .bool _) rfl rfl rfl ?_; exact fun w' hw => ⟨by rw [smsLong_any]; first | (rw [any_of_take hy (by omega)]; done) | (rw [any_yes hxk (by (try clear ih); (try clear hm); (try clear hw); (try clear hl); (try clear hxn); (try clear hle); (try clear hnx); (try clear hxN); (try clear hxw); (try clear hy); (try clear hlN); (try clear hkN); (try clear e0_1); (try clear e3_1); (try clear hks hbo hel); (try clear hA hE); simp only [smLong]; grind)]; done), hw.fr _ (.head _)⟩
          · refine zi ?_; refine b_on (zk ?_); refine zr ?_; refine mI e3_1 ?_; refine w_r (fun _ => R_addi rfl rfl (by omega)) rfl rfl ?_; refine aI rfl ?_; refine zn ?_; exact k_again _ (by omega) ⟨k + 1, e0_1, rfl, rfl, rfl, by omega, take_all hy hxk (by (try clear ih); (try clear hm); (try clear hl); (try clear hxn); (try clear hle); (try clear hnx); (try clear hxN); (try clear hxw); (try clear hy); (try clear hlN); (try clear hkN); (try clear e0_1); (try clear e3_1); (try clear hks hbo hel); (try clear hA hE); simp only [smLong]; grind), rfl⟩
  · refine c_exit ?_; refine zx (zx (b_here rfl (zk ?_))); refine yA ?_; refine aB rfl ?_; refine yB ?_; refine ze ?_; refine zo (v := .bool _) rfl rfl rfl ?_; exact fun w' hw => ⟨by rw [smsLong_any]; first | (rw [any_of_take hy (by omega)]; done) | (rw [any_yes hxk (by (try clear ih); (try clear hm); (try clear hw); (try clear hl); (try clear hy); (try clear e0_1); (try clear e3_1); simp only [smLong]; grind)]; done), hw.fr _ (.head _)⟩


theorem rlongOf_all : ∀ n : Nat, n ≤ 10000000 → RLongOfP n
  | 0, _ => fun _ _ _ _ _ h => absurd h (Nat.not_lt_zero _)
  | n + 1, h => rlongOf_step n (rlongOf_all n (by omega)) (by omega)
theorem rlongOf_ok : RLongOfP 10000000 := rlongOf_all _ (Nat.le_refl _)
end Go.Proofs.YtcmcdgkjipnfnaaDoor
end
