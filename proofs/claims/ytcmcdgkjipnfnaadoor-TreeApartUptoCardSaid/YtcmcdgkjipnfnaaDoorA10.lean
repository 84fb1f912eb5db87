/- TreeApart: what is written of two right programs is the same just when they are. Part 10 of 12. -/
import Derived.Test.YtcmcdgkjipnfnaaDoorA02
import Derived.Test.YtcmcdgkjipnfnaaDoorA09
import Derived.Test.YtcmcdgkjipnfnaaDoorA08
section
namespace Go.Proofs.YtcmcdgkjipnfnaaDoor
open Go.RowKit Go.Sx
open Go.Tok Go.Tree


mutual
theorem exM.any {w : World} {N : Nat → Prop} : ∀ (e : Ex) (cs : List Value), exM w N e cs → exM w (fun _ => True) e cs
  | .mk op at_ nm ks, cs, h => by
    unfold exM at h ⊢
    obtain ⟨a, c, h1, h2, h3⟩ := h
    exact ⟨a, c, h1, h2, exsM.any ks a 0 h3⟩
theorem exsM.any {w : World} {N : Nat → Prop} : ∀ (l : List Ex) (a : Option Addr) (i : Nat), exsM w N l a i → exsM w (fun _ => True) l a i
  | [], _, _, _ => by unfold exsM; trivial
  | e :: l, a, i, h => by
    unfold exsM at h ⊢
    obtain ⟨⟨cs, ⟨b, o, ha, hb, hc⟩, h2⟩, h3⟩ := h
    exact ⟨⟨cs, ⟨b, o, ha, trivial, hc⟩, exM.any e cs h2⟩, exsM.any l a (i + 4) h3⟩
end

set_option maxRecDepth 100000 in
set_option maxHeartbeats 4000000 in
theorem rNodes_spec (pg : List Bk) (cs : List Value) (N : Nat → Prop) (w : World) (hp : ∀ b ∈ pg, bkW b < 10000000) (hm : pgM w N pg cs) :
    Ret Tryd.prog 22 #[.agg cs.toArray] w (fun v w' => v = .int .i64 (pgN pg : Nat) ∧ Ext w w') := by
  refine enter (S := No) (l := [_]) (L := []) 52 Tryd.func22 rfl rfl rfl (St.start w No) ?_; refine yA ?_; refine w_boxA rfl (fun t1b gt1b ut1b => ?_)
  refine aI rfl ?_; refine yC ?_; refine aI rfl ?_; refine yB ?_; refine zq ?_; refine yA ?_; refine aI rfl ?_; refine yB ?_; refine zB ?_; refine c_loop (fun m e B L => ∃ (i : Nat), e 1 = .pointer (some ⟨t1b, 0, none⟩) ∧ e 3 = .int .i64 (pgNTo pg i : Nat) ∧ e 4 = .int .i64 (i : Nat) ∧ B = [(w, No)] ∧ L = [(t1b, cel cs 30)] ∧ i ≤ 6 ∧ pgNTo pg i ≤ i * 10000000 ∧ m = 6 - i) _ ⟨0, rfl, rfl, rfl, rfl, rfl, Nat.zero_le _, Nat.zero_le _, rfl⟩ ?_
  rintro m e B L ⟨i, e1_1, e3_1, e4_1, rfl, rfl, hi, hN, rfl⟩
  refine zq ?_; refine yA ?_; refine mI e4_1 ?_; refine w_r (fun _ => R_lt rfl rfl) rfl rfl ?_; refine yB ?_; refine zD rfl (fun h2 => ?_) (fun h2 => ?_)
  · have hi6 : i < 6 := (by omega); obtain ⟨b, hb⟩ : ∃ b, pg[i]? = some b := ⟨_, List.getElem?_eq_getElem (by rw [hm.six]; exact hi6)⟩; have hbw := hp b (List.mem_of_getElem? hb); unfold bkW at hbw; obtain ⟨da, dc, sa, sc, hcb, hds, hss⟩ := hm.one i b hb; have hnb := pgNTo_next hb; have hNb := bkN_le b; unfold bkN at hnb hNb; have hsN := smsN_le b.stmts; have hdN := dcsN_le b.decls
    refine zi ?_; refine zk ?_; refine zq ?_; refine zB ?_; refine yA ?_; refine mI e4_1 ?_; refine zf fa30_0 e1_1 ?_; refine w_r (fun _ => R_iaA (i := i) ara28 (by decide) rfl rfl (by first | omega | decide)) rfl rfl ?_; refine w_loadC (l := [.bool b.is, .slice da b.decls.length dc, .slice sa b.stmts.length sc]) z27 rfl rfl (fun w h j v hj => zc 0 rfl (sub_get hcb hj) h) ?_; refine w_alloc zr27 (fun t5b gt5b ut5b => ?_)
    refine w_store 0 rfl z27 rfl rfl rfl rfl rfl rfl rfl ?_; refine yC ?_; refine mI e3_1 ?_; refine zf fa27_2 rfl ?_; refine zl z25 rfl (fun _ h => zc 0 rfl rfl h) ?_; refine zC (fun w => zR Tryd.func42 rfl rfl rfl) rfl rfl (fun w h => rnodesOf_ok b.stmts sa sc N w (by omega) (by omega) (hss.now (fun _ _ hh => hh) (.head _) h)) ?_; refine w_r (fun _ => R_addi rfl rfl (by omega)) rfl rfl ?_; refine aI rfl ?_; refine yC ?_; refine aI rfl ?_; refine yB ?_; refine zB ?_
    refine c_loop (fun m e B L => ∃ (k : Nat), e 1 = .pointer (some ⟨t1b, 0, none⟩) ∧ e 3 = .int .i64 (pgNTo pg i + smsN b.stmts + dcsN (b.decls.take k) : Nat) ∧ e 4 = .int .i64 (i : Nat) ∧ e 5 = .pointer (some ⟨t5b, 0, none⟩) ∧ e 6 = .int .i64 (k : Nat) ∧ B = [(w, No)] ∧ L = [(t5b, cel [.bool b.is, .slice da b.decls.length dc, .slice sa b.stmts.length sc] 27), (t1b, cel cs 30)] ∧ k ≤ b.decls.length ∧ m = b.decls.length - k) _ ⟨0, e1_1, rfl, e4_1, rfl, rfl, rfl, rfl, Nat.zero_le _, rfl⟩ ?_
    rintro m e B L ⟨k, e1_2, e3_2, e4_2, e5_2, e6_2, rfl, rfl, hk, rfl⟩
    refine zq ?_; refine yA ?_; refine mI e6_2 ?_; refine zf fa27_1 e5_2 ?_; refine zl z24 rfl (fun _ h => zc 0 rfl rfl h) ?_; refine w_r (fun _ => R_len sl24 rfl) rfl rfl ?_; refine w_r (fun _ => R_lt rfl rfl) rfl rfl ?_; refine yB ?_; refine zD rfl (fun h4 => ?_) (fun h4 => ?_)
    · have hlt : k < b.decls.length := (by omega); obtain ⟨x, hxk⟩ : ∃ x, b.decls[k]? = some x := ⟨_, List.getElem?_eq_getElem hlt⟩; obtain ⟨cs2, hA, hE⟩ := hds k x hxk; have hxn := dcsW_mem (List.mem_of_getElem? hxk); obtain ⟨b1, o1, rfl⟩ := hA.ptr; have hE2 := hE; obtain ⟨ty, at_, nm, sz, lo, up, ini⟩ := x; unfold dcM at hE2; obtain ⟨xa, xc, la, lc, ua, uc, ia, ic, hcs, hsz, hlo, hup, hini⟩ := hE2; simp only [] at hcs; subst hcs; have hnx := dcsN_next hxk; have hle := dcsN_take b.decls (k + 1); have hdw := hxn; unfold dcW at hdw; have hxN := hnx; unfold dcN at hxN; have hk1 := exsN_le sz; have hk2 := exsN_le lo; have hk3 := exsN_le up; have hk4 := exsN_le ini; simp only [] at hxN hdw
      refine zi ?_; refine zk ?_; refine zq ?_; refine zB ?_; refine yA ?_; refine zf fa27_1 e5_2 ?_; refine zl z24 rfl (fun _ h => zc 0 rfl rfl h) ?_; refine mI e6_2 ?_; refine w_r (fun _ => R_iaN (i := k) sl24 rfl rfl (by first | omega | decide)) rfl rfl ?_; refine w_loadC (l := [.int .u8 (ty : Nat), .int .i64 at_, str nm, .slice xa sz.length xc, .slice la lo.length lc, .slice ua up.length uc, .slice ia ini.length ic]) z53 rfl rfl (fun w h j v hj => hA.cell (fun _ _ hh => hh) (.head _) h j v hj) ?_; refine w_alloc zr53 (fun t7b gt7b ut7b => ?_)
      refine w_store 0 rfl z53 rfl rfl rfl rfl rfl rfl rfl ?_; refine yB ?_; refine c_held (St [(w, No)] [(t7b, cel [.int .u8 (ty : Nat), .int .i64 at_, str nm, .slice xa sz.length xc, .slice la lo.length lc, .slice ua up.length uc, .slice ia ini.length ic] 53)]) mixed ?_; refine zh 0 rfl (by kernel_rfl) rfl rfl (fun w h => h.drop (.cons_cons _ (List.nil_sublist _))) (fun w h => R_move e3_2) ?_; refine zh 1 rfl (by kernel_rfl) rfl rfl (fun w h => h.drop (.cons_cons _ (List.nil_sublist _))) (fun w h => R_addi rfl rfl (by omega)) ?_; refine zh 2 rfl (by kernel_rfl) rfl rfl (fun w h => h.drop (.cons_cons _ (List.nil_sublist _))) (fun w h => R_fa fa53_3 rfl) ?_; refine zh 3 rfl (by kernel_rfl) rfl rfl (fun w h => h.drop (.cons_cons _ (List.nil_sublist _))) (fun w h => R_ld1 z36 rfl (zc 0 rfl rfl h)) ?_
      refine zh 6 rfl (by kernel_rfl) rfl rfl (fun w h => h.drop (.cons_cons _ (List.nil_sublist _))) (fun w h => R_fa fa53_4 rfl) ?_; refine zh 7 rfl (by kernel_rfl) rfl rfl (fun w h => h.drop (.cons_cons _ (List.nil_sublist _))) (fun w h => R_ld1 z36 rfl (zc 0 rfl rfl h)) ?_; refine zh 10 rfl (by kernel_rfl) rfl rfl (fun w h => h.drop (.cons_cons _ (List.nil_sublist _))) (fun w h => R_fa fa53_5 rfl) ?_; refine zh 11 rfl (by kernel_rfl) rfl rfl (fun w h => h.drop (.cons_cons _ (List.nil_sublist _))) (fun w h => R_ld1 z36 rfl (zc 0 rfl rfl h)) ?_; refine zh 14 rfl (by kernel_rfl) rfl rfl (fun w h => h.drop (.cons_cons _ (List.nil_sublist _))) (fun w h => R_fa fa53_6 rfl) ?_; refine zh 15 rfl (by kernel_rfl) rfl rfl (fun w h => h.drop (.cons_cons _ (List.nil_sublist _))) (fun w h => R_ld1 z36 rfl (zc 0 rfl rfl h)) ?_
      refine h_pure 4 rfl (by kernel_rfl) rfl rfl (fun w h => h.drop (.cons_cons _ (List.nil_sublist _))) (fun w => zR Tryd.func43 rfl rfl rfl) (fun w h => rnodes_ok sz xa xc N w (by omega) (by omega) (hsz.now (fun _ _ hh => hh) (.head _) h)) ?_; refine zh 5 rfl (by kernel_rfl) rfl rfl (fun w h => h.drop (.cons_cons _ (List.nil_sublist _))) (fun w h => R_addi rfl rfl (by omega)) ?_; refine h_pure 8 rfl (by kernel_rfl) rfl rfl (fun w h => h.drop (.cons_cons _ (List.nil_sublist _))) (fun w => zR Tryd.func43 rfl rfl rfl) (fun w h => rnodes_ok lo la lc N w (by omega) (by omega) (hlo.now (fun _ _ hh => hh) (.head _) h)) ?_; refine zh 9 rfl (by kernel_rfl) rfl rfl (fun w h => h.drop (.cons_cons _ (List.nil_sublist _))) (fun w h => R_addi rfl rfl (by omega)) ?_
      refine h_pure 12 rfl (by kernel_rfl) rfl rfl (fun w h => h.drop (.cons_cons _ (List.nil_sublist _))) (fun w => zR Tryd.func43 rfl rfl rfl) (fun w h => rnodes_ok up ua uc N w (by omega) (by omega) (hup.now (fun _ _ hh => hh) (.head _) h)) ?_; refine zh 13 rfl (by kernel_rfl) rfl rfl (fun w h => h.drop (.cons_cons _ (List.nil_sublist _))) (fun w h => R_addi rfl rfl (by omega)) ?_; refine h_pure 16 rfl (by kernel_rfl) rfl rfl (fun w h => h.drop (.cons_cons _ (List.nil_sublist _))) (fun w => zR Tryd.func43 rfl rfl rfl) (fun w h => rnodes_ok ini ia ic N w (by omega) (by omega) (hini.now (fun _ _ hh => hh) (.head _) h)) ?_; refine zh 17 rfl (by kernel_rfl) rfl rfl (fun w h => h.drop (.cons_cons _ (List.nil_sublist _))) (fun w h => R_addi rfl rfl (by omega)) ?_
      refine zh 18 rfl (by kernel_rfl) rfl rfl (fun w h => h.drop (.cons_cons _ (List.nil_sublist _))) (fun w h => R_assign rfl) ?_; refine h_done (by kernel_rfl) (fun w h => h.drop (.cons_cons _ (List.nil_sublist _))) ?_; refine b_on (zk ?_); refine zr ?_; refine mI e6_2 ?_; refine w_r (fun _ => R_addi rfl rfl (by omega)) rfl rfl ?_; refine aI rfl ?_; refine zn ?_
      have hfin : ((pgNTo pg i + smsN b.stmts + dcsN (b.decls.take k) : Nat) : Int) + 1 + ((exsN sz : Nat) : Int) + ((exsN lo : Nat) : Int) + ((exsN up : Nat) : Int) + ((exsN ini : Nat) : Int) = ((pgNTo pg i + smsN b.stmts + dcsN (b.decls.take (k + 1)) : Nat) : Int) := by omega
      refine k_st (B' := [(w, No)]) (L' := _) (fun w h => h.drop (List.sublist_cons_self _ _)) ?_; exact k_again _ (by omega) ⟨k + 1, e1_2, (congrArg (Value.int .i64) hfin), e4_2, e5_2, rfl, rfl, rfl, by omega, rfl⟩
    · refine c_exit ?_; refine zx (zx (b_here rfl (b_on (zk ?_)))); refine zr ?_; refine mI e4_2 ?_; refine w_r (fun _ => R_addi rfl rfl (by omega)) rfl rfl ?_; refine aI rfl ?_; refine zn ?_; refine k_st (B' := [(w, No)]) (L' := [(t1b, cel cs 30)]) (fun w h => h.drop (List.sublist_cons_self _ _)) ?_
      have hfin : ((pgNTo pg i + smsN b.stmts + dcsN (b.decls.take k) : Nat) : Int) = ((pgNTo pg (i + 1) : Nat) : Int) := by rw [List.take_of_length_le (by omega)]; omega
      exact k_again _ (by omega) ⟨i + 1, e1_2, (e3_2.trans (congrArg (Value.int .i64) hfin)), rfl, rfl, rfl, by omega, by omega, rfl⟩
  · refine c_exit ?_; refine zx (zx (b_here rfl (zk ?_))); refine yA ?_; refine mI e3_1 ?_; refine aI rfl ?_; refine yB ?_; refine ze ?_; refine zo (v := .int _ _) rfl rfl rfl ?_; exact fun w' hw => ⟨by rw [show i = 6 by omega]; rfl, hw.fr _ (.head _)⟩

set_option maxRecDepth 100000 in
set_option maxHeartbeats 4000000 in
theorem Small_spec (pg : List Bk) (cs : List Value) (N : Nat → Prop) (w : World) (hp : ∀ b ∈ pg, bkW b < 10000000) (hm : pgM w N pg cs) :
    Ret Tryd.prog 9 #[.agg cs.toArray] w (fun v w' => v = .bool (pgSmall pg) ∧ Ext w w') := by
  refine enter (S := No) (l := [_]) (L := []) 57 Tryd.func9 rfl rfl rfl (St.start w No) ?_; refine yA ?_; refine w_boxA rfl (fun t1b gt1b ut1b => ?_)
  refine aB rfl ?_; refine yB ?_; refine zq ?_; refine yA ?_; refine w_loadW z30 rfl (fun _ h => h.at_ 0 rfl) hm.len ?_; refine zC (fun w => zR Tryd.func22 rfl rfl rfl) rfl rfl (fun w h => rNodes_spec pg cs N w hp (hm.now (fun _ _ hh => hh) (.head _) h)) ?_; refine w_r (fun _ => R_gt rfl rfl) rfl rfl ?_; refine yB ?_; refine zD rfl (fun h2 => ?_) (fun h2 => ?_)
  · refine yA ?_; refine aB rfl ?_; refine yB ?_; refine ze ?_; refine zt (?_)
    refine zo (v := .bool _) rfl rfl rfl ?_; exact fun w' hw => ⟨by unfold pgSmall; rw [decide_eq_false (by omega)]; rfl, hw.fr _ (.head _)⟩
  · refine zi ?_; refine zk ?_; refine zq ?_; refine yA ?_; refine aI rfl ?_; refine yB ?_; refine zB ?_; refine c_loop (fun m e B L => ∃ (i : Nat), e 1 = .pointer (some ⟨t1b, 0, none⟩) ∧ e 3 = .int .i64 (i : Nat) ∧ B = [(w, No)] ∧ L = [(t1b, cel cs 30)] ∧ i ≤ 6 ∧ (∀ y ∈ pg.take i, bkLong y = false) ∧ m = 6 - i) _ ⟨0, rfl, rfl, rfl, rfl, Nat.zero_le _, (by simp), rfl⟩ ?_
    rintro m e B L ⟨i, e1_1, e3_1, rfl, rfl, hi, hy, rfl⟩
    refine zq ?_; refine yA ?_; refine mI e3_1 ?_; refine w_r (fun _ => R_lt rfl rfl) rfl rfl ?_; refine yB ?_; refine zD rfl (fun h3 => ?_) (fun h3 => ?_)
    · have hi6 : i < 6 := (by omega); obtain ⟨b, hb⟩ : ∃ b, pg[i]? = some b := ⟨_, List.getElem?_eq_getElem (by rw [hm.six]; exact hi6)⟩; have hbw := hp b (List.mem_of_getElem? hb); unfold bkW at hbw; obtain ⟨da, dc, sa, sc, hcb, hds, hss⟩ := hm.one i b hb
      refine zi ?_; refine zk ?_; refine zq ?_; refine zB ?_; refine yA ?_; refine mI e3_1 ?_; refine zf fa30_0 e1_1 ?_; refine w_r (fun _ => R_iaA (i := i) ara28 (by decide) rfl rfl (by first | omega | decide)) rfl rfl ?_; refine w_loadC (l := [.bool b.is, .slice da b.decls.length dc, .slice sa b.stmts.length sc]) z27 rfl rfl (fun w h j v hj => zc 0 rfl (sub_get hcb hj) h) ?_; refine w_alloc zr27 (fun t4b gt4b ut4b => ?_)
      refine w_store 0 rfl z27 rfl rfl rfl rfl rfl rfl rfl ?_; refine yB ?_; refine zq ?_; refine yA ?_; refine zf fa27_2 rfl ?_; refine zl z25 rfl (fun _ h => zc 0 rfl rfl h) ?_; refine zC (fun w => zR Tryd.func23 rfl rfl rfl) rfl rfl (fun w h => rlongOf_ok b.stmts sa sc N w (by omega) (by omega) (hss.now (fun _ _ hh => hh) (.head _) h)) ?_; refine yB ?_; refine c_cond rfl (fun h5 => ?_) (fun h5 => ?_)
      · refine yA ?_; refine aB rfl ?_; refine yB ?_; refine ze ?_; refine zt (zb (zt (zt (zb (zt (?_))))))
        refine zo (v := .bool _) rfl rfl rfl ?_; exact fun w' hw => ⟨by unfold pgSmall pgLong; rw [any_yes hb (by unfold bkLong; rw [h5]; rfl)]; simp, hw.fr _ (.head _)⟩
      · refine zi ?_; refine zk ?_; refine yA ?_; refine aI rfl ?_; refine yB ?_; refine zB ?_; refine c_loop (fun m e B L => ∃ (k : Nat), e 1 = .pointer (some ⟨t1b, 0, none⟩) ∧ e 3 = .int .i64 (i : Nat) ∧ e 4 = .pointer (some ⟨t4b, 0, none⟩) ∧ e 5 = .int .i64 (k : Nat) ∧ B = [(w, No)] ∧ L = [(t4b, cel [.bool b.is, .slice da b.decls.length dc, .slice sa b.stmts.length sc] 27), (t1b, cel cs 30)] ∧ k ≤ b.decls.length ∧ (∀ y ∈ b.decls.take k, dcLong y = false) ∧ m = b.decls.length - k) _ ⟨0, e1_1, e3_1, rfl, rfl, rfl, rfl, Nat.zero_le _, (by simp), rfl⟩ ?_
        rintro m e B L ⟨k, e1_2, e3_2, e4_2, e5_2, rfl, rfl, hk, hz, rfl⟩
        refine zq ?_; refine yA ?_; refine mI e5_2 ?_; refine zf fa27_1 e4_2 ?_; refine zl z24 rfl (fun _ h => zc 0 rfl rfl h) ?_; refine w_r (fun _ => R_len sl24 rfl) rfl rfl ?_; refine w_r (fun _ => R_lt rfl rfl) rfl rfl ?_; refine yB ?_; refine zD rfl (fun h6 => ?_) (fun h6 => ?_)
        · have hlt : k < b.decls.length := (by omega); obtain ⟨x, hxk⟩ : ∃ x, b.decls[k]? = some x := ⟨_, List.getElem?_eq_getElem hlt⟩; obtain ⟨cs2, hA, hE⟩ := hds k x hxk; have hxn := dcsW_mem (List.mem_of_getElem? hxk); obtain ⟨b1, o1, rfl⟩ := hA.ptr; have hE2 := hE; obtain ⟨ty, at_, nm, sz, lo, up, ini⟩ := x; unfold dcM at hE2; obtain ⟨xa, xc, la, lc, ua, uc, ia, ic, hcs, hsz, hlo, hup, hini⟩ := hE2; simp only [] at hcs; subst hcs; have hdw := hxn; unfold dcW at hdw; simp only [] at hdw
          refine zi ?_; refine zk ?_; refine zq ?_; refine zB ?_; refine yA ?_; refine zf fa27_1 e4_2 ?_; refine zl z24 rfl (fun _ h => zc 0 rfl rfl h) ?_; refine mI e5_2 ?_; refine w_r (fun _ => R_iaN (i := k) sl24 rfl rfl (by first | omega | decide)) rfl rfl ?_; refine w_loadC (l := [.int .u8 (ty : Nat), .int .i64 at_, str nm, .slice xa sz.length xc, .slice la lo.length lc, .slice ua up.length uc, .slice ia ini.length ic]) z53 rfl rfl (fun w h j v hj => hA.cell (fun _ _ hh => hh) (.head _) h j v hj) ?_; refine w_alloc zr53 (fun t6b gt6b ut6b => ?_)
          refine w_store 0 rfl z53 rfl rfl rfl rfl rfl rfl rfl ?_; refine yC ?_; refine zf fa53_2 rfl ?_; refine zl z9 rfl (fun _ h => zc 0 rfl rfl h) ?_; refine w_r (fun _ => R_slen st9 rfl (by omega)) rfl rfl ?_; refine w_r (fun _ => R_gt rfl rfl) rfl rfl ?_; refine mB rfl ?_; refine zd (t := 37) rfl (fun h8 => ?_) (fun h8 => ?_)
          · refine zs rfl rfl (bT h8) ?_; refine zs rfl rfl (bT h8) ?_; refine zs rfl rfl (bT h8) ?_; refine w_r (v := .bool _) (fun _ => zT (bT h8) rfl) rfl rfl ?_; refine mB rfl ?_; refine zs rfl rfl rfl ?_; refine zs rfl rfl rfl ?_; refine zs rfl rfl rfl ?_; refine w_r (v := .bool _) (fun _ => zT rfl rfl) rfl rfl ?_; refine mB rfl ?_; refine zs rfl rfl rfl ?_; refine zs rfl rfl rfl ?_; refine zs rfl rfl rfl ?_; refine w_r (v := .bool _) (fun _ => zT rfl rfl) rfl rfl ?_; refine mB rfl ?_; refine zs rfl rfl rfl ?_; refine zs rfl rfl rfl ?_; refine zs rfl rfl rfl ?_; refine w_r (v := .bool _) (fun _ => zT rfl rfl) rfl rfl ?_; refine zn ?_
            refine zk ?_; refine zE rfl ?_; refine yA ?_; refine aB rfl ?_; refine yB ?_; refine ze ?_; refine zb (zt (zt (zb (zb (zt (zt (zb (zt (?_)))))))))
            refine zo (v := .bool _) rfl rfl rfl ?_; exact fun w' hw => ⟨by first | (unfold pgSmall pgLong; rw [any_of_take hy (by have := hm.six; omega), decide_eq_true (by omega)]; rfl) | (unfold pgSmall pgLong; rw [any_yes hb (by unfold bkLong; rw [any_yes hxk (by (try clear hm); (try clear hw); (try clear hp); (try clear hbw); (try clear hxn); (try clear hdw); (try clear e1_1); (try clear e1_2); (try clear e3_1); (try clear e3_2); (try clear e4_2); (try clear e5_2); (try clear gt1b); (try clear gt4b); (try clear gt6b); (try clear ut1b); (try clear ut4b); (try clear ut6b); (try clear hcb hds hss); (try clear hsz hlo hup hini); (try clear hA hE); simp only [dcLong]; grind)]; simp)]; simp), hw.fr _ (.head _)⟩
          · refine zw rfl rfl (bF h8) ?_; refine zf fa53_3 rfl ?_; refine zw rfl rfl (bF h8) ?_; refine zl z36 rfl (fun _ h => zc 0 rfl rfl h) ?_; refine zw rfl rfl (bF h8) ?_; refine zC (fun w => zR Tryd.func24 rfl rfl rfl) rfl rfl (fun w h => rlong_ok sz xa xc N w (by omega) (by omega) (hsz.now (fun _ _ hh => hh) (.head _) h)) ?_; refine w_r (v := .bool _) (fun _ => zF (bF h8) rfl) rfl rfl ?_; refine mB rfl ?_; refine zp (t := 42) rfl (fun h9 => ?_) (fun h9 => ?_)
            · refine zs rfl rfl (bV h9) ?_; refine zs rfl rfl (bV h9) ?_; refine zs rfl rfl (bV h9) ?_; refine w_r (v := .bool _) (fun _ => zT (bV h9) rfl) rfl rfl ?_; refine mB rfl ?_; refine zs rfl rfl rfl ?_; refine zs rfl rfl rfl ?_; refine zs rfl rfl rfl ?_; refine w_r (v := .bool _) (fun _ => zT rfl rfl) rfl rfl ?_; refine mB rfl ?_; refine zs rfl rfl rfl ?_; refine zs rfl rfl rfl ?_; refine zs rfl rfl rfl ?_; refine w_r (v := .bool _) (fun _ => zT rfl rfl) rfl rfl ?_; refine yB ?_; refine zE rfl ?_; refine yA ?_; refine aB rfl ?_; refine yB ?_; refine ze ?_; refine zb (zt (zt (zb (zb (zt (zt (zb (zt (?_)))))))))
              refine zo (v := .bool _) rfl rfl rfl ?_; exact fun w' hw => ⟨by first | (unfold pgSmall pgLong; rw [any_of_take hy (by have := hm.six; omega), decide_eq_true (by omega)]; rfl) | (unfold pgSmall pgLong; rw [any_yes hb (by unfold bkLong; rw [any_yes hxk (by (try clear hm); (try clear hw); (try clear hp); (try clear hbw); (try clear hxn); (try clear hdw); (try clear e1_1); (try clear e1_2); (try clear e3_1); (try clear e3_2); (try clear e4_2); (try clear e5_2); (try clear gt1b); (try clear gt4b); (try clear gt6b); (try clear ut1b); (try clear ut4b); (try clear ut6b); (try clear hcb hds hss); (try clear hsz hlo hup hini); (try clear hA hE); simp only [dcLong]; grind)]; simp)]; simp), hw.fr _ (.head _)⟩
            · refine zw rfl rfl (bV h9) ?_; refine zf fa53_4 rfl ?_; refine zw rfl rfl (bV h9) ?_; refine zl z36 rfl (fun _ h => zc 0 rfl rfl h) ?_; refine zw rfl rfl (bV h9) ?_; refine zC (fun w => zR Tryd.func24 rfl rfl rfl) rfl rfl (fun w h => rlong_ok lo la lc N w (by omega) (by omega) (hlo.now (fun _ _ hh => hh) (.head _) h)) ?_; refine w_r (v := .bool _) (fun _ => zF (bV h9) rfl) rfl rfl ?_; refine mB rfl ?_; refine zp (t := 47) rfl (fun h10 => ?_) (fun h10 => ?_)
              · refine zs rfl rfl (bV h10) ?_; refine zs rfl rfl (bV h10) ?_; refine zs rfl rfl (bV h10) ?_; refine w_r (v := .bool _) (fun _ => zT (bV h10) rfl) rfl rfl ?_; refine mB rfl ?_; refine zs rfl rfl rfl ?_; refine zs rfl rfl rfl ?_; refine zs rfl rfl rfl ?_; refine w_r (v := .bool _) (fun _ => zT rfl rfl) rfl rfl ?_; refine yB ?_; refine zE rfl ?_; refine yA ?_; refine aB rfl ?_; refine yB ?_; refine ze ?_; refine zb (zt (zt (zb (zb (zt (zt (zb (zt (?_)))))))))
                refine zo (v := .bool _) rfl rfl rfl ?_; exact fun w' hw => ⟨by first | (unfold pgSmall pgLong; rw [any_of_take hy (by have := hm.six; omega), decide_eq_true (by omega)]; rfl) | (unfold pgSmall pgLong; rw [any_yes hb (by unfold bkLong; rw [any_yes hxk (by (try clear hm); (try clear hw); (try clear hp); (try clear hbw); (try clear hxn); (try clear hdw); (try clear e1_1); (try clear e1_2); (try clear e3_1); (try clear e3_2); (try clear e4_2); (try clear e5_2); (try clear gt1b); (try clear gt4b); (try clear gt6b); (try clear ut1b); (try clear ut4b); (try clear ut6b); (try clear hcb hds hss); (try clear hsz hlo hup hini); (try clear hA hE); simp only [dcLong]; grind)]; simp)]; simp), hw.fr _ (.head _)⟩
              · refine zw rfl rfl (bV h10) ?_; refine zf fa53_5 rfl ?_; refine zw rfl rfl (bV h10) ?_; refine zl z36 rfl (fun _ h => zc 0 rfl rfl h) ?_; refine zw rfl rfl (bV h10) ?_; refine zC (fun w => zR Tryd.func24 rfl rfl rfl) rfl rfl (fun w h => rlong_ok up ua uc N w (by omega) (by omega) (hup.now (fun _ _ hh => hh) (.head _) h)) ?_; refine w_r (v := .bool _) (fun _ => zF (bV h10) rfl) rfl rfl ?_; refine mB rfl ?_; refine zp (t := 52) rfl (fun h11 => ?_) (fun h11 => ?_)
                · refine zs rfl rfl (bV h11) ?_; refine zs rfl rfl (bV h11) ?_; refine zs rfl rfl (bV h11) ?_; refine w_r (v := .bool _) (fun _ => zT (bV h11) rfl) rfl rfl ?_; refine yB ?_; refine zE rfl ?_; refine yA ?_; refine aB rfl ?_; refine yB ?_; refine ze ?_; refine zb (zt (zt (zb (zb (zt (zt (zb (zt (?_)))))))))
                  refine zo (v := .bool _) rfl rfl rfl ?_; exact fun w' hw => ⟨by first | (unfold pgSmall pgLong; rw [any_of_take hy (by have := hm.six; omega), decide_eq_true (by omega)]; rfl) | (unfold pgSmall pgLong; rw [any_yes hb (by unfold bkLong; rw [any_yes hxk (by (try clear hm); (try clear hw); (try clear hp); (try clear hbw); (try clear hxn); (try clear hdw); (try clear e1_1); (try clear e1_2); (try clear e3_1); (try clear e3_2); (try clear e4_2); (try clear e5_2); (try clear gt1b); (try clear gt4b); (try clear gt6b); (try clear ut1b); (try clear ut4b); (try clear ut6b); (try clear hcb hds hss); (try clear hsz hlo hup hini); (try clear hA hE); simp only [dcLong]; grind)]; simp)]; simp), hw.fr _ (.head _)⟩
                · refine zw rfl rfl (bV h11) ?_; refine zf fa53_6 rfl ?_; refine zw rfl rfl (bV h11) ?_; refine zl z36 rfl (fun _ h => zc 0 rfl rfl h) ?_; refine zw rfl rfl (bV h11) ?_; refine zC (fun w => zR Tryd.func24 rfl rfl rfl) rfl rfl (fun w h => rlong_ok ini ia ic N w (by omega) (by omega) (hini.now (fun _ _ hh => hh) (.head _) h)) ?_; refine w_r (v := .bool _) (fun _ => zF (bV h11) rfl) rfl rfl ?_; refine yB ?_; refine c_cond rfl (fun h12 => ?_) (fun h12 => ?_)
                  · refine yA ?_; refine aB rfl ?_; refine yB ?_; refine ze ?_; refine zb (zt (zt (zb (zb (zt (zt (zb (zt (?_)))))))))
                    refine zo (v := .bool _) rfl rfl rfl ?_; exact fun w' hw => ⟨by first | (unfold pgSmall pgLong; rw [any_of_take hy (by have := hm.six; omega), decide_eq_true (by omega)]; rfl) | (unfold pgSmall pgLong; rw [any_yes hb (by unfold bkLong; rw [any_yes hxk (by (try clear hm); (try clear hw); (try clear hp); (try clear hbw); (try clear hxn); (try clear hdw); (try clear e1_1); (try clear e1_2); (try clear e3_1); (try clear e3_2); (try clear e4_2); (try clear e5_2); (try clear gt1b); (try clear gt4b); (try clear gt6b); (try clear ut1b); (try clear ut4b); (try clear ut6b); (try clear hcb hds hss); (try clear hsz hlo hup hini); (try clear hA hE); simp only [dcLong]; grind)]; simp)]; simp), hw.fr _ (.head _)⟩
                  · refine zi ?_; refine b_on (zk ?_); refine zr ?_; refine mI e5_2 ?_; refine w_r (fun _ => R_addi rfl rfl (by omega)) rfl rfl ?_; refine aI rfl ?_; refine zn ?_; refine k_st (B' := [(w, No)]) (L' := _) (fun w h => h.drop (List.sublist_cons_self _ _)) ?_; exact k_again _ (by omega) ⟨k + 1, e1_2, e3_2, e4_2, rfl, rfl, rfl, by omega, take_all hz hxk (by (try clear hm); (try clear hp); (try clear hbw); (try clear hxn); (try clear hdw); (try clear e1_1); (try clear e1_2); (try clear e3_1); (try clear e3_2); (try clear e4_2); (try clear e5_2); (try clear gt1b); (try clear gt4b); (try clear gt6b); (try clear ut1b); (try clear ut4b); (try clear ut6b); (try clear hcb hds hss); (try clear hsz hlo hup hini); (try clear hA hE); simp only [dcLong]; grind), rfl⟩
        · refine c_exit ?_; refine zx (zx (b_here rfl (b_on (zk ?_)))); refine zr ?_; refine mI e3_2 ?_; refine w_r (fun _ => R_addi rfl rfl (by omega)) rfl rfl ?_; refine aI rfl ?_; refine zn ?_; refine k_st (B' := [(w, No)]) (L' := [(t1b, cel cs 30)]) (fun w h => h.drop (List.sublist_cons_self _ _)) ?_; exact k_again _ (by omega) ⟨i + 1, e1_2, rfl, rfl, rfl, by omega, take_all hy hb (by unfold bkLong; rw [h5, any_of_take hz (by omega)]; rfl), rfl⟩
    · refine c_exit ?_; refine zx (zx (b_here rfl (zk ?_))); refine yA ?_; refine aB rfl ?_; refine yB ?_; refine ze ?_; refine zo (v := .bool _) rfl rfl rfl ?_; exact fun w' hw => ⟨by first | (unfold pgSmall pgLong; rw [any_of_take hy (by have := hm.six; omega), decide_eq_true (by omega)]; rfl) | (unfold pgSmall pgLong; rw [any_yes hb (by unfold bkLong; rw [any_yes hxk (by (try clear hm); (try clear hw); (try clear hp); (try clear e1_1); (try clear e3_1); (try clear gt1b); (try clear ut1b); simp only [dcLong]; grind)]; simp)]; simp), hw.fr _ (.head _)⟩
end Go.Proofs.YtcmcdgkjipnfnaaDoor
end

section
namespace Go.Proofs.YtcmcdgkjipnfnaaDoor
open Go.RowKit Go.Sx
open Go.Tok Go.Tree


def SameH (f : FuncId) (n : Nat) : Prop := ∀ (x z : Ex) (cs ds : List Value) (N : Nat → Prop) (w : World), exW x < n → exM w N x cs → exM w N z ds → Ret Tryd.prog f #[.agg cs.toArray, .agg ds.toArray] w fun v w' => v = .bool (exSame x z) ∧ Ext w w'

set_option maxRecDepth 100000 in
set_option maxHeartbeats 1000000 in
theorem eqE_spec (n : Nat) (ih : SameH 57 n) (l r : List Ex) (a b : Option Addr) (c d : Nat) (N : Nat → Prop) (w : World) (hl : ∀ x ∈ l, exW x < n) (hll : l.length ≤ 10000000) (hm : exsM w N l a 0) (hm2 : exsM w N r b 0) :
    Ret Tryd.prog 56 #[.slice a l.length c, .slice b r.length d, .func (.func 57) #[] #[]] w (fun v w' => v = .bool (pairOk exSame l r) ∧ Ext w w') := by
  refine enter (S := No) (l := [_, _, _]) (L := []) 32 Tryd.func56 rfl rfl rfl (St.start w No) ?_; refine yA ?_; refine aB rfl ?_; refine yB ?_; refine zq ?_; refine yA ?_; refine mS rfl ?_; refine w_r (fun _ => R_len sl36 rfl) rfl rfl ?_; refine mS rfl ?_; refine w_r (fun _ => R_len sl36 rfl) rfl rfl ?_; refine w_r (fun _ => R_ne rfl rfl) rfl rfl ?_; refine yB ?_; refine zD rfl (fun h1 => ?_) (fun h1 => ?_)
  · refine yA ?_; refine aB rfl ?_; refine yB ?_; refine ze ?_; refine zt (?_)
    refine zo (v := .bool _) rfl rfl rfl ?_; exact fun w' hw => ⟨by rw [pairOk_len (by omega)], hw.fr _ (.head _)⟩
  · have hlen : l.length = r.length := (by omega)
    refine zi ?_; refine zk ?_; refine zq ?_; refine yA ?_; refine mS rfl ?_; refine w_r (fun _ => R_len sl36 rfl) rfl rfl ?_; refine mI rfl ?_; refine yB ?_; refine zB ?_; refine c_loop (fun m e B L => ∃ (k : Nat), e 1 = .slice b r.length d ∧ e 2 = .func (.func 57) #[] #[] ∧ e 15 = .slice a l.length c ∧ e 16 = .int .i64 (l.length : Nat) ∧ e 17 = .int .i64 (k : Nat) ∧ B = [(w, No)] ∧ L = [] ∧ k ≤ l.length ∧ (∀ p ∈ (l.zip r).take k, (!exSame p.1 p.2) = false) ∧ m = l.length - k) _ ⟨0, rfl, rfl, rfl, rfl, rfl, rfl, rfl, Nat.zero_le _, (by simp), rfl⟩ ?_
    rintro m e B L ⟨k, e1_1, e2_1, e15_1, e16_1, e17_1, rfl, rfl, hk, hy, rfl⟩
    refine yA ?_; refine w_r (fun _ => R_lt e17_1 e16_1) rfl rfl ?_; refine yB ?_; refine zq ?_; refine zD rfl (fun h2 => ?_) (fun h2 => ?_)
    · have hlt : k < l.length := (by omega); obtain ⟨x, hxk⟩ : ∃ x, l[k]? = some x := ⟨_, List.getElem?_eq_getElem hlt⟩; obtain ⟨z, hzk⟩ : ∃ z, r[k]? = some z := ⟨_, List.getElem?_eq_getElem (by omega)⟩; obtain ⟨cs, hA, hE⟩ := hm.get0 hxk; obtain ⟨ds, hA2, hE2⟩ := hm2.get0 hzk; have hxn := hl x (List.mem_of_getElem? hxk); obtain ⟨b1, o1, rfl⟩ := hA.ptr; obtain ⟨b2, o2, rfl⟩ := hA2.ptr; have hxe := hxk; have hze := hzk; have hEx := hE; have hEz := hE2; obtain ⟨op, at_, nm, ks⟩ := x; obtain ⟨op2, at2, nm2, ks2⟩ := z; unfold exM at hEx hEz; obtain ⟨ka, kc, rfl, hkc, hks⟩ := hEx; obtain ⟨ka2, kc2, rfl, hkc2, hks2⟩ := hEz
      refine zi ?_; refine zk ?_; refine zq ?_; refine zB ?_; refine yA ?_; refine mI e17_1 ?_; refine w_r (fun _ => R_iaN (i := k) sl36 e15_1 e17_1 (by first | omega | decide)) rfl rfl ?_; refine w_loadC (l := [.int .u8 (op : Nat), .int .i64 at_, str nm, .slice ka ks.length kc]) z49 rfl rfl (fun w h j v hj => hA.cell (fun _ _ hh => hh) (.head _) h j v hj) ?_; refine w_alloc zr49 (fun t8b gt8b ut8b => ?_)
      refine aI rfl ?_; refine w_store 0 rfl z49 rfl rfl rfl rfl rfl rfl rfl ?_; refine yC ?_; refine mS e1_1 ?_; refine mI rfl ?_; refine w_r (fun _ => R_iaN (i := k) sl36 rfl rfl (by first | omega | decide)) rfl rfl ?_; refine w_loadC (l := [.int .u8 (op2 : Nat), .int .i64 at2, str nm2, .slice ka2 ks2.length kc2]) z49 rfl rfl (fun w h j v hj => hA2.cell (fun _ _ hh => hh) (.head _) h j v hj) ?_; refine w_alloc zr49 (fun t9b gt9b ut9b => ?_)
      refine w_store 0 rfl z49 rfl rfl rfl rfl rfl rfl rfl ?_; refine yC ?_; refine zm e2_1 ?_; refine w_loadA z49 rfl (fun _ h => h.at_ 1 rfl) rfl ?_; refine w_loadA z49 rfl (fun _ h => h.at_ 0 rfl) rfl ?_; refine zC (fun w => R_callv rfl Tryd.func57 rfl rfl) rfl rfl (fun w h => ih _ _ _ _ N w hxn (hE.now (fun _ _ hh => hh) (.head _) h) (hE2.now (fun _ _ hh => hh) (.head _) h)) ?_; refine w_r (fun _ => R_not rfl) rfl rfl ?_; refine yB ?_; refine c_condN rfl (fun h5 => ?_) (fun h5 => ?_)
      · refine yA ?_; refine aB rfl ?_; refine yB ?_; refine ze ?_; refine zb (zt (zt (zb (zt (?_)))))
        refine zo (v := .bool _) rfl rfl rfl ?_; exact fun w' hw => ⟨by first | (rw [pairOk_no hxk hzk h5]; done) | (rw [pairOk_yes hlen hy (by omega)]; done), hw.fr _ (.head _)⟩
      · refine zi ?_; refine b_on (zk ?_); refine zr ?_; refine w_r (fun _ => R_addi e17_1 rfl (by omega)) rfl rfl ?_; refine mI rfl ?_; refine zn ?_; refine k_st (B' := [(w, No)]) (L' := []) (fun w h => h.drop (List.nil_sublist _)) ?_; exact k_again _ (by omega) ⟨k + 1, e1_1, e2_1, e15_1, e16_1, rfl, rfl, rfl, by omega, pair_next hy hxk hzk h5, rfl⟩
    · refine c_exit ?_; refine zx (zx (b_here rfl (zk ?_))); refine yA ?_; refine aB rfl ?_; refine yB ?_; refine ze ?_; refine zo (v := .bool _) rfl rfl rfl ?_; exact fun w' hw => ⟨by first | (rw [pairOk_no hxk hzk h5]; done) | (rw [pairOk_yes hlen hy (by omega)]; done), hw.fr _ (.head _)⟩

set_option maxRecDepth 100000 in
set_option maxHeartbeats 1000000 in
theorem same_step (n : Nat) (ih : SameH 57 n) (hN : n ≤ 10000000) (x z : Ex) (cs ds : List Value) (N : Nat → Prop) (w : World) (hx : exW x < n + 1) (hm : exM w N x cs) (hm2 : exM w N z ds) :
    Ret Tryd.prog 57 #[.agg cs.toArray, .agg ds.toArray] w (fun v w' => v = .bool (exSame x z) ∧ Ext w w') := by
  obtain ⟨op, at_, nm, ks⟩ := x
  have hmx := hm
  unfold exM at hmx
  obtain ⟨ka, kc, rfl, hkc, hks⟩ := hmx
  obtain ⟨op2, at2, nm2, ks2⟩ := z
  have hmz := hm2
  unfold exM at hmz
  obtain ⟨ka2, kc2, rfl, hkc2, hks2⟩ := hmz
  have hx2 := hx
  unfold exW at hx2
  refine enter (S := No) (l := [_, _]) (L := []) 24 Tryd.func57 rfl rfl rfl (St.start w No) ?_; refine yA ?_; refine w_boxA rfl (fun t2b gt2b ut2b => ?_)
  refine w_boxA rfl (fun t3b gt3b ut3b => ?_)
  refine aB rfl ?_; refine yC ?_; refine zf fa49_0 rfl ?_; refine zl z5 rfl (fun _ h => zc 1 rfl rfl h) ?_; refine zf fa49_0 rfl ?_; refine zl z5 rfl (fun _ h => zc 0 rfl rfl h) ?_; refine w_r (fun _ => R_eq rfl rfl) rfl rfl ?_; refine mB rfl ?_; refine zd (t := 10) rfl (fun h3 => ?_) (fun h3 => ?_)
  · have hop : op = op2 := (by omega)
    refine zw rfl rfl (bT h3) ?_; refine zf fa49_2 rfl ?_; refine zw rfl rfl (bT h3) ?_; refine zl z9 rfl (fun _ h => zc 1 rfl rfl h) ?_; refine zw rfl rfl (bT h3) ?_; refine zf fa49_2 rfl ?_; refine zw rfl rfl (bT h3) ?_; refine zl z9 rfl (fun _ h => zc 0 rfl rfl h) ?_; refine zw rfl rfl (bT h3) ?_; refine w_r (fun _ => R_seq rfl rfl) rfl rfl ?_; refine w_r (v := .bool _) (fun _ => zT (bT h3) rfl) rfl rfl ?_; refine mB rfl ?_; refine zd (t := 17) rfl (fun h4 => ?_) (fun h4 => ?_)
    · refine zw rfl rfl (bT h4) ?_; refine zf fa49_3 rfl ?_; refine zw rfl rfl (bT h4) ?_; refine zl z36 rfl (fun _ h => zc 1 rfl rfl h) ?_; refine zw rfl rfl (bT h4) ?_; refine zf fa49_3 rfl ?_; refine zw rfl rfl (bT h4) ?_; refine zl z36 rfl (fun _ h => zc 0 rfl rfl h) ?_; refine zw rfl rfl (bT h4) ?_; refine zC (fun w => zR Tryd.func56 rfl rfl rfl) rfl rfl (fun w h => eqE_spec n ih ks ks2 ka ka2 kc kc2 N w (fun x hx => by have := exsW_mem hx; omega) (by omega) (hks.now (fun _ _ hh => hh) (.head _) h) (hks2.now (fun _ _ hh => hh) (.head _) h)) ?_; refine w_r (v := .bool _) (fun _ => zT (bT h4) rfl) rfl rfl ?_; refine aB rfl ?_; refine yB ?_; refine ze ?_; refine zo (v := .bool _) rfl rfl rfl ?_
      exact fun w' hw => ⟨by (try clear hm); (try clear hm2); (try clear hmx); (try clear hmz); (try clear hks); (try clear hks2); (try clear hw); (try clear ih); (try clear hx); (try clear hx2); (try clear gt2b); (try clear gt3b); (try clear ut2b); (try clear ut3b); simp only [exSame, exsSame_eq, Ex.op, Ex.nm, Ex.kids]; simp_all, hw.fr _ (.head _)⟩
    · refine zs rfl rfl (bF h4) ?_; refine zs rfl rfl (bF h4) ?_; refine zs rfl rfl (bF h4) ?_; refine zs rfl rfl (bF h4) ?_; refine zs rfl rfl (bF h4) ?_; refine w_r (v := .bool _) (fun _ => zF (bF h4) rfl) rfl rfl ?_; refine aB rfl ?_; refine yB ?_; refine ze ?_; refine zo (v := .bool _) rfl rfl rfl ?_; exact fun w' hw => ⟨by (try clear hm); (try clear hm2); (try clear hmx); (try clear hmz); (try clear hks); (try clear hks2); (try clear hw); (try clear ih); (try clear hx); (try clear hx2); (try clear gt2b); (try clear gt3b); (try clear ut2b); (try clear ut3b); simp only [exSame, exsSame_eq, Ex.op, Ex.nm, Ex.kids]; simp_all, hw.fr _ (.head _)⟩
  · have hop : ¬ op = op2 := (by omega)
    refine zs rfl rfl (bF h3) ?_; refine zs rfl rfl (bF h3) ?_; refine zs rfl rfl (bF h3) ?_; refine zs rfl rfl (bF h3) ?_; refine zs rfl rfl (bF h3) ?_; refine w_r (v := .bool _) (fun _ => zF (bF h3) rfl) rfl rfl ?_; refine mB rfl ?_; refine zs rfl rfl rfl ?_; refine zs rfl rfl rfl ?_; refine zs rfl rfl rfl ?_; refine zs rfl rfl rfl ?_; refine zs rfl rfl rfl ?_; refine w_r (v := .bool _) (fun _ => zF rfl rfl) rfl rfl ?_; refine aB rfl ?_; refine yB ?_; refine ze ?_; refine zo (v := .bool _) rfl rfl rfl ?_
    exact fun w' hw => ⟨by (try clear hm); (try clear hm2); (try clear hmx); (try clear hmz); (try clear hks); (try clear hks2); (try clear hw); (try clear ih); (try clear hx); (try clear hx2); (try clear gt2b); (try clear gt3b); (try clear ut2b); (try clear ut3b); simp only [exSame, exsSame_eq, Ex.op, Ex.nm, Ex.kids]; simp_all, hw.fr _ (.head _)⟩


theorem same_all : ∀ n : Nat, n ≤ 10000000 → SameH 57 n
  | 0, _ => fun _ _ _ _ _ _ h => absurd h (Nat.not_lt_zero _)
  | n + 1, h => same_step n (same_all n (by omega)) (by omega)
theorem same_ok : SameH 57 10000000 := same_all _ (Nat.le_refl _)


def SameS (n : Nat) : Prop := ∀ (x z : Sm) (cs ds : List Value) (N : Nat → Prop) (w : World), smW x < n → smM w N x cs → smM w N z ds → Ret Tryd.prog 34 #[.agg cs.toArray, .agg ds.toArray] w fun v w' => v = .bool (smSame x z) ∧ Ext w w'

set_option maxRecDepth 100000 in
set_option maxHeartbeats 1000000 in
theorem eqS_spec (n : Nat) (ih : SameS n) (l r : List Sm) (a b : Option Addr) (c d : Nat) (N : Nat → Prop) (w : World) (hl : ∀ x ∈ l, smW x < n) (hll : l.length ≤ 10000000) (hm : smsM w N l a 0) (hm2 : smsM w N r b 0) :
    Ret Tryd.prog 33 #[.slice a l.length c, .slice b r.length d, .func (.func 34) #[] #[]] w (fun v w' => v = .bool (pairOk smSame l r) ∧ Ext w w') := by
  refine enter (S := No) (l := [_, _, _]) (L := []) 32 Tryd.func33 rfl rfl rfl (St.start w No) ?_; refine yA ?_; refine aB rfl ?_; refine yB ?_; refine zq ?_; refine yA ?_; refine mS rfl ?_; refine w_r (fun _ => R_len sl25 rfl) rfl rfl ?_; refine mS rfl ?_; refine w_r (fun _ => R_len sl25 rfl) rfl rfl ?_; refine w_r (fun _ => R_ne rfl rfl) rfl rfl ?_; refine yB ?_; refine zD rfl (fun h1 => ?_) (fun h1 => ?_)
  · refine yA ?_; refine aB rfl ?_; refine yB ?_; refine ze ?_; refine zt (?_)
    refine zo (v := .bool _) rfl rfl rfl ?_; exact fun w' hw => ⟨by rw [pairOk_len (by omega)], hw.fr _ (.head _)⟩
  · have hlen : l.length = r.length := (by omega)
    refine zi ?_; refine zk ?_; refine zq ?_; refine yA ?_; refine mS rfl ?_; refine w_r (fun _ => R_len sl25 rfl) rfl rfl ?_; refine mI rfl ?_; refine yB ?_; refine zB ?_; refine c_loop (fun m e B L => ∃ (k : Nat), e 1 = .slice b r.length d ∧ e 2 = .func (.func 34) #[] #[] ∧ e 15 = .slice a l.length c ∧ e 16 = .int .i64 (l.length : Nat) ∧ e 17 = .int .i64 (k : Nat) ∧ B = [(w, No)] ∧ L = [] ∧ k ≤ l.length ∧ (∀ p ∈ (l.zip r).take k, (!smSame p.1 p.2) = false) ∧ m = l.length - k) _ ⟨0, rfl, rfl, rfl, rfl, rfl, rfl, rfl, Nat.zero_le _, (by simp), rfl⟩ ?_
    rintro m e B L ⟨k, e1_1, e2_1, e15_1, e16_1, e17_1, rfl, rfl, hk, hy, rfl⟩
    refine yA ?_; refine w_r (fun _ => R_lt e17_1 e16_1) rfl rfl ?_; refine yB ?_; refine zq ?_; refine zD rfl (fun h2 => ?_) (fun h2 => ?_)
    · have hlt : k < l.length := (by omega); obtain ⟨x, hxk⟩ : ∃ x, l[k]? = some x := ⟨_, List.getElem?_eq_getElem hlt⟩; obtain ⟨z, hzk⟩ : ∃ z, r[k]? = some z := ⟨_, List.getElem?_eq_getElem (by omega)⟩; obtain ⟨cs, hA, hE⟩ := hm.get0 hxk; obtain ⟨ds, hA2, hE2⟩ := hm2.get0 hzk; have hxn := hl x (List.mem_of_getElem? hxk); obtain ⟨b1, o1, rfl⟩ := hA.ptr; obtain ⟨b2, o2, rfl⟩ := hA2.ptr; have hxe := hxk; have hze := hzk; have hEx := hE; have hEz := hE2; obtain ⟨op, at_, nm, ks, bo, el⟩ := x; obtain ⟨op2, at2, nm2, ks2, bo2, el2⟩ := z; unfold smM at hEx hEz; obtain ⟨ka, kc, ba, bc, ea, ec, rfl, hkc, hks, hbo, hel⟩ := hEx; obtain ⟨ka2, kc2, ba2, bc2, ea2, ec2, rfl, hkc2, hks2, hbo2, hel2⟩ := hEz
      refine zi ?_; refine zk ?_; refine zq ?_; refine zB ?_; refine yA ?_; refine mI e17_1 ?_; refine w_r (fun _ => R_iaN (i := k) sl25 e15_1 e17_1 (by first | omega | decide)) rfl rfl ?_; refine w_loadC (l := [.int .u8 (op : Nat), .int .i64 at_, str nm, .slice ka ks.length kc, .slice ba bo.length bc, .slice ea el.length ec]) z38 rfl rfl (fun w h j v hj => hA.cell (fun _ _ hh => hh) (.head _) h j v hj) ?_; refine w_alloc zr38 (fun t8b gt8b ut8b => ?_)
      refine aI rfl ?_; refine w_store 0 rfl z38 rfl rfl rfl rfl rfl rfl rfl ?_; refine yC ?_; refine mS e1_1 ?_; refine mI rfl ?_; refine w_r (fun _ => R_iaN (i := k) sl25 rfl rfl (by first | omega | decide)) rfl rfl ?_; refine w_loadC (l := [.int .u8 (op2 : Nat), .int .i64 at2, str nm2, .slice ka2 ks2.length kc2, .slice ba2 bo2.length bc2, .slice ea2 el2.length ec2]) z38 rfl rfl (fun w h j v hj => hA2.cell (fun _ _ hh => hh) (.head _) h j v hj) ?_; refine w_alloc zr38 (fun t9b gt9b ut9b => ?_)
      refine w_store 0 rfl z38 rfl rfl rfl rfl rfl rfl rfl ?_; refine yC ?_; refine zm e2_1 ?_; refine w_loadA z38 rfl (fun _ h => h.at_ 1 rfl) rfl ?_; refine w_loadA z38 rfl (fun _ h => h.at_ 0 rfl) rfl ?_; refine zC (fun w => R_callv rfl Tryd.func34 rfl rfl) rfl rfl (fun w h => ih _ _ _ _ N w hxn (hE.now (fun _ _ hh => hh) (.head _) h) (hE2.now (fun _ _ hh => hh) (.head _) h)) ?_; refine w_r (fun _ => R_not rfl) rfl rfl ?_; refine yB ?_; refine c_condN rfl (fun h5 => ?_) (fun h5 => ?_)
      · refine yA ?_; refine aB rfl ?_; refine yB ?_; refine ze ?_; refine zb (zt (zt (zb (zt (?_)))))
        refine zo (v := .bool _) rfl rfl rfl ?_; exact fun w' hw => ⟨by first | (rw [pairOk_no hxk hzk h5]; done) | (rw [pairOk_yes hlen hy (by omega)]; done), hw.fr _ (.head _)⟩
      · refine zi ?_; refine b_on (zk ?_); refine zr ?_; refine w_r (fun _ => R_addi e17_1 rfl (by omega)) rfl rfl ?_; refine mI rfl ?_; refine zn ?_; refine k_st (B' := [(w, No)]) (L' := []) (fun w h => h.drop (List.nil_sublist _)) ?_; exact k_again _ (by omega) ⟨k + 1, e1_1, e2_1, e15_1, e16_1, rfl, rfl, rfl, by omega, pair_next hy hxk hzk h5, rfl⟩
    · refine c_exit ?_; refine zx (zx (b_here rfl (zk ?_))); refine yA ?_; refine aB rfl ?_; refine yB ?_; refine ze ?_; refine zo (v := .bool _) rfl rfl rfl ?_; exact fun w' hw => ⟨by first | (rw [pairOk_no hxk hzk h5]; done) | (rw [pairOk_yes hlen hy (by omega)]; done), hw.fr _ (.head _)⟩

set_option maxRecDepth 100000 in
set_option maxHeartbeats 1000000 in
theorem sameS_step (n : Nat) (ih : SameS n) (hN : n ≤ 10000000) (x z : Sm) (cs ds : List Value) (N : Nat → Prop) (w : World) (hx : smW x < n + 1) (hm : smM w N x cs) (hm2 : smM w N z ds) :
    Ret Tryd.prog 34 #[.agg cs.toArray, .agg ds.toArray] w (fun v w' => v = .bool (smSame x z) ∧ Ext w w') := by
  have hEx := hm; have hEz := hm2; obtain ⟨op, at_, nm, ks, bo, el⟩ := x; obtain ⟨op2, at2, nm2, ks2, bo2, el2⟩ := z; unfold smM at hEx hEz; obtain ⟨ka, kc, ba, bc, ea, ec, rfl, hkc, hks, hbo, hel⟩ := hEx; obtain ⟨ka2, kc2, ba2, bc2, ea2, ec2, rfl, hkc2, hks2, hbo2, hel2⟩ := hEz
  have hx2 := hx
  unfold smW at hx2
  refine enter (S := No) (l := [_, _]) (L := []) 38 Tryd.func34 rfl rfl rfl (St.start w No) ?_; refine yA ?_; refine w_boxA rfl (fun t2b gt2b ut2b => ?_)
  refine w_boxA rfl (fun t3b gt3b ut3b => ?_)
  refine aB rfl ?_; refine yC ?_; refine zf fa38_0 rfl ?_; refine zl z5 rfl (fun _ h => zc 1 rfl rfl h) ?_; refine zf fa38_0 rfl ?_; refine zl z5 rfl (fun _ h => zc 0 rfl rfl h) ?_; refine w_r (fun _ => R_eq rfl rfl) rfl rfl ?_; refine mB rfl ?_; refine zd (t := 10) rfl (fun h3 => ?_) (fun h3 => ?_)
  · have hop : op = op2 := (by omega)
    refine zw rfl rfl (bT h3) ?_; refine zf fa38_2 rfl ?_; refine zw rfl rfl (bT h3) ?_; refine zl z9 rfl (fun _ h => zc 1 rfl rfl h) ?_; refine zw rfl rfl (bT h3) ?_; refine zf fa38_2 rfl ?_; refine zw rfl rfl (bT h3) ?_; refine zl z9 rfl (fun _ h => zc 0 rfl rfl h) ?_; refine zw rfl rfl (bT h3) ?_; refine w_r (fun _ => R_seq rfl rfl) rfl rfl ?_; refine w_r (v := .bool _) (fun _ => zT (bT h3) rfl) rfl rfl ?_; refine mB rfl ?_; refine zd (t := 17) rfl (fun h4 => ?_) (fun h4 => ?_)
    · refine zw rfl rfl (bT h4) ?_; refine zf fa38_3 rfl ?_; refine zw rfl rfl (bT h4) ?_; refine zl z36 rfl (fun _ h => zc 1 rfl rfl h) ?_; refine zw rfl rfl (bT h4) ?_; refine zf fa38_3 rfl ?_; refine zw rfl rfl (bT h4) ?_; refine zl z36 rfl (fun _ h => zc 0 rfl rfl h) ?_; refine zw rfl rfl (bT h4) ?_; refine zC (fun w => zR Tryd.func56 rfl rfl rfl) rfl rfl (fun w h => eqE_spec _ same_ok ks ks2 ka ka2 kc kc2 N w (fun x hx => by have := exsW_mem hx; omega) (by omega) (hks.now (fun _ _ hh => hh) (.head _) h) (hks2.now (fun _ _ hh => hh) (.head _) h)) ?_; refine w_r (v := .bool _) (fun _ => zT (bT h4) rfl) rfl rfl ?_; refine mB rfl ?_; refine zp (t := 24) rfl (fun h5 => ?_) (fun h5 => ?_)
      · refine zw rfl rfl (bV h5) ?_; refine zf fa38_4 rfl ?_; refine zw rfl rfl (bV h5) ?_; refine zl z25 rfl (fun _ h => zc 1 rfl rfl h) ?_; refine zw rfl rfl (bV h5) ?_; refine zf fa38_4 rfl ?_; refine zw rfl rfl (bV h5) ?_; refine zl z25 rfl (fun _ h => zc 0 rfl rfl h) ?_; refine zw rfl rfl (bV h5) ?_; refine zC (fun w => zR Tryd.func33 rfl rfl rfl) rfl rfl (fun w h => eqS_spec n ih bo bo2 ba ba2 bc bc2 N w (fun x hx => by have := smsW_mem hx; omega) (by omega) (hbo.now (fun _ _ hh => hh) (.head _) h) (hbo2.now (fun _ _ hh => hh) (.head _) h)) ?_; refine w_r (v := .bool _) (fun _ => zT (bV h5) rfl) rfl rfl ?_; refine mB rfl ?_; refine zp (t := 31) rfl (fun h6 => ?_) (fun h6 => ?_)
        · refine zw rfl rfl (bV h6) ?_; refine zf fa38_5 rfl ?_; refine zw rfl rfl (bV h6) ?_; refine zl z25 rfl (fun _ h => zc 1 rfl rfl h) ?_; refine zw rfl rfl (bV h6) ?_; refine zf fa38_5 rfl ?_; refine zw rfl rfl (bV h6) ?_; refine zl z25 rfl (fun _ h => zc 0 rfl rfl h) ?_; refine zw rfl rfl (bV h6) ?_; refine zC (fun w => zR Tryd.func33 rfl rfl rfl) rfl rfl (fun w h => eqS_spec n ih el el2 ea ea2 ec ec2 N w (fun x hx => by have := smsW_mem hx; omega) (by omega) (hel.now (fun _ _ hh => hh) (.head _) h) (hel2.now (fun _ _ hh => hh) (.head _) h)) ?_; refine w_r (v := .bool _) (fun _ => zT (bV h6) rfl) rfl rfl ?_; refine aB rfl ?_; refine yB ?_; refine ze ?_; refine zo (v := .bool _) rfl rfl rfl ?_
          exact fun w' hw => ⟨by (try clear hm); (try clear hm2); (try clear hEx); (try clear hEz); (try clear hw); (try clear ih); (try clear hx); (try clear hx2); (try clear gt2b); (try clear gt3b); (try clear ut2b); (try clear ut3b); (try clear hks hbo hel); (try clear hks2 hbo2 hel2); simp only [smSame, exsSame_eq, smsSame_eq, Sm.op, Sm.nm, Sm.kids, Sm.body, Sm.els]; simp_all, hw.fr _ (.head _)⟩
        · refine zs rfl rfl (bV h6) ?_; refine zs rfl rfl (bV h6) ?_; refine zs rfl rfl (bV h6) ?_; refine zs rfl rfl (bV h6) ?_; refine zs rfl rfl (bV h6) ?_; refine w_r (v := .bool _) (fun _ => zF (bV h6) rfl) rfl rfl ?_; refine aB rfl ?_; refine yB ?_; refine ze ?_; refine zo (v := .bool _) rfl rfl rfl ?_; exact fun w' hw => ⟨by (try clear hm); (try clear hm2); (try clear hEx); (try clear hEz); (try clear hw); (try clear ih); (try clear hx); (try clear hx2); (try clear gt2b); (try clear gt3b); (try clear ut2b); (try clear ut3b); (try clear hks hbo hel); (try clear hks2 hbo2 hel2); simp only [smSame, exsSame_eq, smsSame_eq, Sm.op, Sm.nm, Sm.kids, Sm.body, Sm.els]; simp_all, hw.fr _ (.head _)⟩
      · refine zs rfl rfl (bV h5) ?_; refine zs rfl rfl (bV h5) ?_; refine zs rfl rfl (bV h5) ?_; refine zs rfl rfl (bV h5) ?_; refine zs rfl rfl (bV h5) ?_; refine w_r (v := .bool _) (fun _ => zF (bV h5) rfl) rfl rfl ?_; refine mB rfl ?_; refine zs rfl rfl rfl ?_; refine zs rfl rfl rfl ?_; refine zs rfl rfl rfl ?_; refine zs rfl rfl rfl ?_; refine zs rfl rfl rfl ?_; refine w_r (v := .bool _) (fun _ => zF rfl rfl) rfl rfl ?_; refine aB rfl ?_; refine yB ?_; refine ze ?_; refine zo (v := .bool _) rfl rfl rfl ?_
        exact fun w' hw => ⟨by (try clear hm); (try clear hm2); (try clear hEx); (try clear hEz); (try clear hw); (try clear ih); (try clear hx); (try clear hx2); (try clear gt2b); (try clear gt3b); (try clear ut2b); (try clear ut3b); (try clear hks hbo hel); (try clear hks2 hbo2 hel2); simp only [smSame, exsSame_eq, smsSame_eq, Sm.op, Sm.nm, Sm.kids, Sm.body, Sm.els]; simp_all, hw.fr _ (.head _)⟩
    · refine zs rfl rfl (bF h4) ?_; refine zs rfl rfl (bF h4) ?_; refine zs rfl rfl (bF h4) ?_; refine zs rfl rfl (bF h4) ?_; refine zs rfl rfl (bF h4) ?_; refine w_r (v := .bool _) (fun _ => zF (bF h4) rfl) rfl rfl ?_; refine mB rfl ?_; refine zs rfl rfl rfl ?_; refine zs rfl rfl rfl ?_; refine zs rfl rfl rfl ?_; refine zs rfl rfl rfl ?_; refine zs rfl rfl rfl ?_; refine w_r (v := .bool _) (fun _ => zF rfl rfl) rfl rfl ?_; refine mB rfl ?_; refine zs rfl rfl rfl ?_; refine zs rfl rfl rfl ?_; refine zs rfl rfl rfl ?_; refine zs rfl rfl rfl ?_; refine zs rfl rfl rfl ?_; refine w_r (v := .bool _) (fun _ => zF rfl rfl) rfl rfl ?_; refine aB rfl ?_; refine yB ?_; refine ze ?_; refine zo (v := .bool _) rfl rfl rfl ?_
      exact fun w' hw => ⟨by (try clear hm); (try clear hm2); (try clear hEx); (try clear hEz); (try clear hw); (try clear ih); (try clear hx); (try clear hx2); (try clear gt2b); (try clear gt3b); (try clear ut2b); (try clear ut3b); (try clear hks hbo hel); (try clear hks2 hbo2 hel2); simp only [smSame, exsSame_eq, smsSame_eq, Sm.op, Sm.nm, Sm.kids, Sm.body, Sm.els]; simp_all, hw.fr _ (.head _)⟩
  · have hop : ¬ op = op2 := (by omega)
    refine zs rfl rfl (bF h3) ?_; refine zs rfl rfl (bF h3) ?_; refine zs rfl rfl (bF h3) ?_; refine zs rfl rfl (bF h3) ?_; refine zs rfl rfl (bF h3) ?_; refine w_r (v := .bool _) (fun _ => zF (bF h3) rfl) rfl rfl ?_; refine mB rfl ?_; refine zs rfl rfl rfl ?_; refine zs rfl rfl rfl ?_; refine zs rfl rfl rfl ?_; refine zs rfl rfl rfl ?_; refine zs rfl rfl rfl ?_; refine w_r (v := .bool _) (fun _ => zF rfl rfl) rfl rfl ?_; refine mB rfl ?_; refine zs rfl rfl rfl ?_; refine zs rfl rfl rfl ?_; refine zs rfl rfl rfl ?_; refine zs rfl rfl rfl ?_; refine zs rfl rfl rfl ?_; refine w_r (v := .bool _) (fun _ => zF rfl rfl) rfl rfl ?_; refine mB rfl ?_
    refine zs rfl rfl rfl ?_; refine zs rfl rfl rfl ?_; refine zs rfl rfl rfl ?_; refine zs rfl rfl rfl ?_; refine zs rfl rfl rfl ?_; refine w_r (v := .bool _) (fun _ => zF rfl rfl) rfl rfl ?_; refine aB rfl ?_; refine yB ?_; refine ze ?_; refine zo (v := .bool _) rfl rfl rfl ?_; exact fun w' hw => ⟨by (try clear hm); (try clear hm2); (try clear hEx); (try clear hEz); (try clear hw); (try clear ih); (try clear hx); (try clear hx2); (try clear gt2b); (try clear gt3b); (try clear ut2b); (try clear ut3b); (try clear hks hbo hel); (try clear hks2 hbo2 hel2); simp only [smSame, exsSame_eq, smsSame_eq, Sm.op, Sm.nm, Sm.kids, Sm.body, Sm.els]; simp_all, hw.fr _ (.head _)⟩


theorem sameS_all : ∀ n : Nat, n ≤ 10000000 → SameS n
  | 0, _ => fun _ _ _ _ _ _ h => absurd h (Nat.not_lt_zero _)
  | n + 1, h => sameS_step n (sameS_all n (by omega)) (by omega)
theorem sameS_ok : SameS 10000000 := sameS_all _ (Nat.le_refl _)

set_option maxRecDepth 100000 in
set_option maxHeartbeats 400000 in
theorem sameD1_spec (l r : List Ex) (a b : Option Addr) (c d : Nat) (N : Nat → Prop) (w : World) (hl : ∀ x ∈ l, exW x < 10000000) (hll : l.length ≤ 10000000) (hm : exsM w N l a 0) (hm2 : exsM w N r b 0) :
    Ret Tryd.prog 55 #[.slice a l.length c, .slice b r.length d] w (fun v w' => v = .bool (pairOk exSame l r) ∧ Ext w w') := by
  refine enter (S := No) (l := [_, _]) (L := []) 8 Tryd.func55 rfl rfl rfl (St.start w No) ?_; refine yA ?_; refine aB rfl ?_; refine yC ?_; refine mS rfl ?_; refine mS rfl ?_; refine zC (fun w => zR Tryd.func56 rfl rfl rfl) rfl rfl (fun w h => eqE_spec _ same_ok l r a b c d N w hl hll (hm.now (fun _ _ hh => hh) (.head _) h) (hm2.now (fun _ _ hh => hh) (.head _) h)) ?_; refine aB rfl ?_; refine yB ?_; refine ze ?_; refine zo (v := .bool _) rfl rfl rfl ?_; exact fun w' hw => ⟨rfl, hw.fr _ (.head _)⟩

set_option maxRecDepth 100000 in
set_option maxHeartbeats 2000000 in
theorem sameDecl_spec (x z : Dc) (cs ds : List Value) (N : Nat → Prop) (w : World) (hx : dcW x < 10000000) (hm : dcM w N x cs) (hm2 : dcM w N z ds) :
    Ret Tryd.prog 32 #[.agg cs.toArray, .agg ds.toArray] w (fun v w' => v = .bool (dcSame x z) ∧ Ext w w') := by
  have hEx := hm; have hEz := hm2; obtain ⟨ty, at_, nm, sz, lo, up, ini⟩ := x; obtain ⟨ty2, at2, nm2, sz2, lo2, up2, ini2⟩ := z; unfold dcM at hEx hEz; obtain ⟨xa, xc, la, lc, ua, uc, ia, ic, hcs, hsz, hlo, hup, hini⟩ := hEx; obtain ⟨xa2, xc2, la2, lc2, ua2, uc2, ia2, ic2, hds, hsz2, hlo2, hup2, hini2⟩ := hEz; simp only [] at hcs hds; subst hcs; subst hds
  have hx2 := hx
  unfold dcW at hx2
  simp only [] at hx2
  refine enter (S := No) (l := [_, _]) (L := []) 50 Tryd.func32 rfl rfl rfl (St.start w No) ?_; refine yA ?_; refine w_boxA rfl (fun t2b gt2b ut2b => ?_)
  refine w_boxA rfl (fun t3b gt3b ut3b => ?_)
  refine aB rfl ?_; refine yC ?_; refine za rfl ?_; refine yC ?_; refine zf fa53_0 rfl ?_; refine zl z5 rfl (fun _ h => zc 1 rfl rfl h) ?_; refine zf fa53_0 rfl ?_; refine zl z5 rfl (fun _ h => zc 0 rfl rfl h) ?_; refine w_r (fun _ => R_eq rfl rfl) rfl rfl ?_; refine mB rfl ?_; refine zd (t := 11) rfl (fun h3 => ?_) (fun h3 => ?_)
  · have hop : ty = ty2 := (by omega)
    refine zw rfl rfl (bT h3) ?_; refine zf fa53_2 rfl ?_; refine zw rfl rfl (bT h3) ?_; refine zl z9 rfl (fun _ h => zc 1 rfl rfl h) ?_; refine zw rfl rfl (bT h3) ?_; refine zf fa53_2 rfl ?_; refine zw rfl rfl (bT h3) ?_; refine zl z9 rfl (fun _ h => zc 0 rfl rfl h) ?_; refine zw rfl rfl (bT h3) ?_; refine w_r (fun _ => R_seq rfl rfl) rfl rfl ?_; refine w_r (v := .bool _) (fun _ => zT (bT h3) rfl) rfl rfl ?_; refine mB rfl ?_; refine zd (t := 18) rfl (fun h4 => ?_) (fun h4 => ?_)
    · refine zw rfl rfl (bT h4) ?_; refine zm rfl ?_; refine zw rfl rfl (bT h4) ?_; refine zf fa53_3 rfl ?_; refine zw rfl rfl (bT h4) ?_; refine zl z36 rfl (fun _ h => zc 1 rfl rfl h) ?_; refine zw rfl rfl (bT h4) ?_; refine zf fa53_3 rfl ?_; refine zw rfl rfl (bT h4) ?_; refine zl z36 rfl (fun _ h => zc 0 rfl rfl h) ?_; refine zw rfl rfl (bT h4) ?_; refine zC (fun w => R_callv rfl Tryd.func55 rfl rfl) rfl rfl (fun w h => sameD1_spec sz sz2 xa xa2 xc xc2 N w (fun x hx => by have := exsW_mem hx; omega) (by omega) (hsz.now (fun _ _ hh => hh) (.head _) h) (hsz2.now (fun _ _ hh => hh) (.head _) h)) ?_; refine w_r (v := .bool _) (fun _ => zT (bT h4) rfl) rfl rfl ?_; refine mB rfl ?_; refine zp (t := 26) rfl (fun h5 => ?_) (fun h5 => ?_)
      · refine zw rfl rfl (bV h5) ?_; refine zm rfl ?_; refine zw rfl rfl (bV h5) ?_; refine zf fa53_4 rfl ?_; refine zw rfl rfl (bV h5) ?_; refine zl z36 rfl (fun _ h => zc 1 rfl rfl h) ?_; refine zw rfl rfl (bV h5) ?_; refine zf fa53_4 rfl ?_; refine zw rfl rfl (bV h5) ?_; refine zl z36 rfl (fun _ h => zc 0 rfl rfl h) ?_; refine zw rfl rfl (bV h5) ?_; refine zC (fun w => R_callv rfl Tryd.func55 rfl rfl) rfl rfl (fun w h => sameD1_spec lo lo2 la la2 lc lc2 N w (fun x hx => by have := exsW_mem hx; omega) (by omega) (hlo.now (fun _ _ hh => hh) (.head _) h) (hlo2.now (fun _ _ hh => hh) (.head _) h)) ?_; refine w_r (v := .bool _) (fun _ => zT (bV h5) rfl) rfl rfl ?_; refine mB rfl ?_; refine zp (t := 34) rfl (fun h6 => ?_) (fun h6 => ?_)
        · refine zw rfl rfl (bV h6) ?_; refine zm rfl ?_; refine zw rfl rfl (bV h6) ?_; refine zf fa53_5 rfl ?_; refine zw rfl rfl (bV h6) ?_; refine zl z36 rfl (fun _ h => zc 1 rfl rfl h) ?_; refine zw rfl rfl (bV h6) ?_; refine zf fa53_5 rfl ?_; refine zw rfl rfl (bV h6) ?_; refine zl z36 rfl (fun _ h => zc 0 rfl rfl h) ?_; refine zw rfl rfl (bV h6) ?_; refine zC (fun w => R_callv rfl Tryd.func55 rfl rfl) rfl rfl (fun w h => sameD1_spec up up2 ua ua2 uc uc2 N w (fun x hx => by have := exsW_mem hx; omega) (by omega) (hup.now (fun _ _ hh => hh) (.head _) h) (hup2.now (fun _ _ hh => hh) (.head _) h)) ?_; refine w_r (v := .bool _) (fun _ => zT (bV h6) rfl) rfl rfl ?_; refine mB rfl ?_; refine zp (t := 42) rfl (fun h7 => ?_) (fun h7 => ?_)
          · refine zw rfl rfl (bV h7) ?_; refine zm rfl ?_; refine zw rfl rfl (bV h7) ?_; refine zf fa53_6 rfl ?_; refine zw rfl rfl (bV h7) ?_; refine zl z36 rfl (fun _ h => zc 1 rfl rfl h) ?_; refine zw rfl rfl (bV h7) ?_; refine zf fa53_6 rfl ?_; refine zw rfl rfl (bV h7) ?_; refine zl z36 rfl (fun _ h => zc 0 rfl rfl h) ?_; refine zw rfl rfl (bV h7) ?_; refine zC (fun w => R_callv rfl Tryd.func55 rfl rfl) rfl rfl (fun w h => sameD1_spec ini ini2 ia ia2 ic ic2 N w (fun x hx => by have := exsW_mem hx; omega) (by omega) (hini.now (fun _ _ hh => hh) (.head _) h) (hini2.now (fun _ _ hh => hh) (.head _) h)) ?_; refine w_r (v := .bool _) (fun _ => zT (bV h7) rfl) rfl rfl ?_; refine aB rfl ?_; refine yB ?_; refine ze ?_; refine zo (v := .bool _) rfl rfl rfl ?_
            exact fun w' hw => ⟨by (try clear hm); (try clear hm2); (try clear hEx); (try clear hEz); (try clear hw); (try clear hds); (try clear hx); (try clear hx2); (try clear gt2b); (try clear gt3b); (try clear ut2b); (try clear ut3b); (try clear hsz hlo hup hini); (try clear hsz2 hlo2 hup2 hini2); simp only [dcSame, exsSame_eq]; simp_all, hw.fr _ (.head _)⟩
          · refine zs rfl rfl (bV h7) ?_; refine zs rfl rfl (bV h7) ?_; refine zs rfl rfl (bV h7) ?_; refine zs rfl rfl (bV h7) ?_; refine zs rfl rfl (bV h7) ?_; refine zs rfl rfl (bV h7) ?_; refine w_r (v := .bool _) (fun _ => zF (bV h7) rfl) rfl rfl ?_; refine aB rfl ?_; refine yB ?_; refine ze ?_; refine zo (v := .bool _) rfl rfl rfl ?_; exact fun w' hw => ⟨by (try clear hm); (try clear hm2); (try clear hEx); (try clear hEz); (try clear hw); (try clear hds); (try clear hx); (try clear hx2); (try clear gt2b); (try clear gt3b); (try clear ut2b); (try clear ut3b); (try clear hsz hlo hup hini); (try clear hsz2 hlo2 hup2 hini2); simp only [dcSame, exsSame_eq]; simp_all, hw.fr _ (.head _)⟩
        · refine zs rfl rfl (bV h6) ?_; refine zs rfl rfl (bV h6) ?_; refine zs rfl rfl (bV h6) ?_; refine zs rfl rfl (bV h6) ?_; refine zs rfl rfl (bV h6) ?_; refine zs rfl rfl (bV h6) ?_; refine w_r (v := .bool _) (fun _ => zF (bV h6) rfl) rfl rfl ?_; refine mB rfl ?_; refine zs rfl rfl rfl ?_; refine zs rfl rfl rfl ?_; refine zs rfl rfl rfl ?_; refine zs rfl rfl rfl ?_; refine zs rfl rfl rfl ?_; refine zs rfl rfl rfl ?_; refine w_r (v := .bool _) (fun _ => zF rfl rfl) rfl rfl ?_; refine aB rfl ?_; refine yB ?_; refine ze ?_; refine zo (v := .bool _) rfl rfl rfl ?_
          exact fun w' hw => ⟨by (try clear hm); (try clear hm2); (try clear hEx); (try clear hEz); (try clear hw); (try clear hds); (try clear hx); (try clear hx2); (try clear gt2b); (try clear gt3b); (try clear ut2b); (try clear ut3b); (try clear hsz hlo hup hini); (try clear hsz2 hlo2 hup2 hini2); simp only [dcSame, exsSame_eq]; simp_all, hw.fr _ (.head _)⟩
      · refine zs rfl rfl (bV h5) ?_; refine zs rfl rfl (bV h5) ?_; refine zs rfl rfl (bV h5) ?_; refine zs rfl rfl (bV h5) ?_; refine zs rfl rfl (bV h5) ?_; refine zs rfl rfl (bV h5) ?_; refine w_r (v := .bool _) (fun _ => zF (bV h5) rfl) rfl rfl ?_; refine mB rfl ?_; refine zs rfl rfl rfl ?_; refine zs rfl rfl rfl ?_; refine zs rfl rfl rfl ?_; refine zs rfl rfl rfl ?_; refine zs rfl rfl rfl ?_; refine zs rfl rfl rfl ?_; refine w_r (v := .bool _) (fun _ => zF rfl rfl) rfl rfl ?_; refine mB rfl ?_; refine zs rfl rfl rfl ?_; refine zs rfl rfl rfl ?_; refine zs rfl rfl rfl ?_; refine zs rfl rfl rfl ?_; refine zs rfl rfl rfl ?_; refine zs rfl rfl rfl ?_; refine w_r (v := .bool _) (fun _ => zF rfl rfl) rfl rfl ?_
        refine aB rfl ?_; refine yB ?_; refine ze ?_; refine zo (v := .bool _) rfl rfl rfl ?_; exact fun w' hw => ⟨by (try clear hm); (try clear hm2); (try clear hEx); (try clear hEz); (try clear hw); (try clear hds); (try clear hx); (try clear hx2); (try clear gt2b); (try clear gt3b); (try clear ut2b); (try clear ut3b); (try clear hsz hlo hup hini); (try clear hsz2 hlo2 hup2 hini2); simp only [dcSame, exsSame_eq]; simp_all, hw.fr _ (.head _)⟩
    · refine zs rfl rfl (bF h4) ?_; refine zs rfl rfl (bF h4) ?_; refine zs rfl rfl (bF h4) ?_; refine zs rfl rfl (bF h4) ?_; refine zs rfl rfl (bF h4) ?_; refine zs rfl rfl (bF h4) ?_; refine w_r (v := .bool _) (fun _ => zF (bF h4) rfl) rfl rfl ?_; refine mB rfl ?_; refine zs rfl rfl rfl ?_; refine zs rfl rfl rfl ?_; refine zs rfl rfl rfl ?_; refine zs rfl rfl rfl ?_; refine zs rfl rfl rfl ?_; refine zs rfl rfl rfl ?_; refine w_r (v := .bool _) (fun _ => zF rfl rfl) rfl rfl ?_; refine mB rfl ?_; refine zs rfl rfl rfl ?_; refine zs rfl rfl rfl ?_; refine zs rfl rfl rfl ?_; refine zs rfl rfl rfl ?_; refine zs rfl rfl rfl ?_
      refine zs rfl rfl rfl ?_; refine w_r (v := .bool _) (fun _ => zF rfl rfl) rfl rfl ?_; refine mB rfl ?_; refine zs rfl rfl rfl ?_; refine zs rfl rfl rfl ?_; refine zs rfl rfl rfl ?_; refine zs rfl rfl rfl ?_; refine zs rfl rfl rfl ?_; refine zs rfl rfl rfl ?_; refine w_r (v := .bool _) (fun _ => zF rfl rfl) rfl rfl ?_; refine aB rfl ?_; refine yB ?_; refine ze ?_; refine zo (v := .bool _) rfl rfl rfl ?_; exact fun w' hw => ⟨by (try clear hm); (try clear hm2); (try clear hEx); (try clear hEz); (try clear hw); (try clear hds); (try clear hx); (try clear hx2); (try clear gt2b); (try clear gt3b); (try clear ut2b); (try clear ut3b); (try clear hsz hlo hup hini); (try clear hsz2 hlo2 hup2 hini2); simp only [dcSame, exsSame_eq]; simp_all, hw.fr _ (.head _)⟩
  · have hop : ¬ ty = ty2 := (by omega)
    refine zs rfl rfl (bF h3) ?_; refine zs rfl rfl (bF h3) ?_; refine zs rfl rfl (bF h3) ?_; refine zs rfl rfl (bF h3) ?_; refine zs rfl rfl (bF h3) ?_; refine w_r (v := .bool _) (fun _ => zF (bF h3) rfl) rfl rfl ?_; refine mB rfl ?_; refine zs rfl rfl rfl ?_; refine zs rfl rfl rfl ?_; refine zs rfl rfl rfl ?_; refine zs rfl rfl rfl ?_; refine zs rfl rfl rfl ?_; refine zs rfl rfl rfl ?_; refine w_r (v := .bool _) (fun _ => zF rfl rfl) rfl rfl ?_; refine mB rfl ?_; refine zs rfl rfl rfl ?_; refine zs rfl rfl rfl ?_; refine zs rfl rfl rfl ?_; refine zs rfl rfl rfl ?_; refine zs rfl rfl rfl ?_; refine zs rfl rfl rfl ?_; refine w_r (v := .bool _) (fun _ => zF rfl rfl) rfl rfl ?_
    refine mB rfl ?_; refine zs rfl rfl rfl ?_; refine zs rfl rfl rfl ?_; refine zs rfl rfl rfl ?_; refine zs rfl rfl rfl ?_; refine zs rfl rfl rfl ?_; refine zs rfl rfl rfl ?_; refine w_r (v := .bool _) (fun _ => zF rfl rfl) rfl rfl ?_; refine mB rfl ?_; refine zs rfl rfl rfl ?_; refine zs rfl rfl rfl ?_; refine zs rfl rfl rfl ?_; refine zs rfl rfl rfl ?_; refine zs rfl rfl rfl ?_; refine zs rfl rfl rfl ?_; refine w_r (v := .bool _) (fun _ => zF rfl rfl) rfl rfl ?_; refine aB rfl ?_; refine yB ?_; refine ze ?_; refine zo (v := .bool _) rfl rfl rfl ?_
    exact fun w' hw => ⟨by (try clear hm); (try clear hm2); (try clear hEx); (try clear hEz); (try clear hw); (try clear hds); (try clear hx); (try clear hx2); (try clear gt2b); (try clear gt3b); (try clear ut2b); (try clear ut3b); (try clear hsz hlo hup hini); (try clear hsz2 hlo2 hup2 hini2); simp only [dcSame, exsSame_eq]; simp_all, hw.fr _ (.head _)⟩

set_option maxRecDepth 100000 in
set_option maxHeartbeats 1000000 in
theorem eqD_spec  (l r : List Dc) (a b : Option Addr) (c d : Nat) (N : Nat → Prop) (w : World) (hl : ∀ x ∈ l, dcW x < 10000000) (hll : l.length ≤ 10000000) (hm : dcsM w N l a) (hm2 : dcsM w N r b) :
    Ret Tryd.prog 31 #[.slice a l.length c, .slice b r.length d, .func (.func 32) #[] #[]] w (fun v w' => v = .bool (pairOk dcSame l r) ∧ Ext w w') := by
  refine enter (S := No) (l := [_, _, _]) (L := []) 32 Tryd.func31 rfl rfl rfl (St.start w No) ?_; refine yA ?_; refine aB rfl ?_; refine yB ?_; refine zq ?_; refine yA ?_; refine mS rfl ?_; refine w_r (fun _ => R_len sl24 rfl) rfl rfl ?_; refine mS rfl ?_; refine w_r (fun _ => R_len sl24 rfl) rfl rfl ?_; refine w_r (fun _ => R_ne rfl rfl) rfl rfl ?_; refine yB ?_; refine zD rfl (fun h1 => ?_) (fun h1 => ?_)
  · refine yA ?_; refine aB rfl ?_; refine yB ?_; refine ze ?_; refine zt (?_)
    refine zo (v := .bool _) rfl rfl rfl ?_; exact fun w' hw => ⟨by rw [pairOk_len (by omega)], hw.fr _ (.head _)⟩
  · have hlen : l.length = r.length := (by omega)
    refine zi ?_; refine zk ?_; refine zq ?_; refine yA ?_; refine mS rfl ?_; refine w_r (fun _ => R_len sl24 rfl) rfl rfl ?_; refine mI rfl ?_; refine yB ?_; refine zB ?_; refine c_loop (fun m e B L => ∃ (k : Nat), e 1 = .slice b r.length d ∧ e 2 = .func (.func 32) #[] #[] ∧ e 15 = .slice a l.length c ∧ e 16 = .int .i64 (l.length : Nat) ∧ e 17 = .int .i64 (k : Nat) ∧ B = [(w, No)] ∧ L = [] ∧ k ≤ l.length ∧ (∀ p ∈ (l.zip r).take k, (!dcSame p.1 p.2) = false) ∧ m = l.length - k) _ ⟨0, rfl, rfl, rfl, rfl, rfl, rfl, rfl, Nat.zero_le _, (by simp), rfl⟩ ?_
    rintro m e B L ⟨k, e1_1, e2_1, e15_1, e16_1, e17_1, rfl, rfl, hk, hy, rfl⟩
    refine yA ?_; refine w_r (fun _ => R_lt e17_1 e16_1) rfl rfl ?_; refine yB ?_; refine zq ?_; refine zD rfl (fun h2 => ?_) (fun h2 => ?_)
    · have hlt : k < l.length := (by omega); obtain ⟨x, hxk⟩ : ∃ x, l[k]? = some x := ⟨_, List.getElem?_eq_getElem hlt⟩; obtain ⟨z, hzk⟩ : ∃ z, r[k]? = some z := ⟨_, List.getElem?_eq_getElem (by omega)⟩; obtain ⟨cs, hA, hE⟩ := hm k x hxk; obtain ⟨ds, hA2, hE2⟩ := hm2 k z hzk; have hxn := hl x (List.mem_of_getElem? hxk); obtain ⟨b1, o1, rfl⟩ := hA.ptr; obtain ⟨b2, o2, rfl⟩ := hA2.ptr; have hxe := hxk; have hze := hzk; have hEx := hE; have hEz := hE2; obtain ⟨ty, at_, nm, sz, lo, up, ini⟩ := x; obtain ⟨ty2, at2, nm2, sz2, lo2, up2, ini2⟩ := z; unfold dcM at hEx hEz; obtain ⟨xa, xc, la, lc, ua, uc, ia, ic, hcs, hsz, hlo, hup, hini⟩ := hEx; obtain ⟨xa2, xc2, la2, lc2, ua2, uc2, ia2, ic2, hds, hsz2, hlo2, hup2, hini2⟩ := hEz; simp only [] at hcs hds; subst hcs; subst hds
      refine zi ?_; refine zk ?_; refine zq ?_; refine zB ?_; refine yA ?_; refine mI e17_1 ?_; refine w_r (fun _ => R_iaN (i := k) sl24 e15_1 e17_1 (by first | omega | decide)) rfl rfl ?_; refine w_loadC (l := [.int .u8 (ty : Nat), .int .i64 at_, str nm, .slice xa sz.length xc, .slice la lo.length lc, .slice ua up.length uc, .slice ia ini.length ic]) z53 rfl rfl (fun w h j v hj => hA.cell (fun _ _ hh => hh) (.head _) h j v hj) ?_; refine w_alloc zr53 (fun t8b gt8b ut8b => ?_)
      refine aI rfl ?_; refine w_store 0 rfl z53 rfl rfl rfl rfl rfl rfl rfl ?_; refine yC ?_; refine mS e1_1 ?_; refine mI rfl ?_; refine w_r (fun _ => R_iaN (i := k) sl24 rfl rfl (by first | omega | decide)) rfl rfl ?_; refine w_loadC (l := [.int .u8 (ty2 : Nat), .int .i64 at2, str nm2, .slice xa2 sz2.length xc2, .slice la2 lo2.length lc2, .slice ua2 up2.length uc2, .slice ia2 ini2.length ic2]) z53 rfl rfl (fun w h j v hj => hA2.cell (fun _ _ hh => hh) (.head _) h j v hj) ?_; refine w_alloc zr53 (fun t9b gt9b ut9b => ?_)
      refine w_store 0 rfl z53 rfl rfl rfl rfl rfl rfl rfl ?_; refine yC ?_; refine zm e2_1 ?_; refine w_loadA z53 rfl (fun _ h => h.at_ 1 rfl) rfl ?_; refine w_loadA z53 rfl (fun _ h => h.at_ 0 rfl) rfl ?_; refine zC (fun w => R_callv rfl Tryd.func32 rfl rfl) rfl rfl (fun w h => sameDecl_spec _ _ _ _ N w hxn (hE.now (fun _ _ hh => hh) (.head _) h) (hE2.now (fun _ _ hh => hh) (.head _) h)) ?_; refine w_r (fun _ => R_not rfl) rfl rfl ?_; refine yB ?_; refine c_condN rfl (fun h5 => ?_) (fun h5 => ?_)
      · refine yA ?_; refine aB rfl ?_; refine yB ?_; refine ze ?_; refine zb (zt (zt (zb (zt (?_)))))
        refine zo (v := .bool _) rfl rfl rfl ?_; exact fun w' hw => ⟨by first | (rw [pairOk_no hxk hzk h5]; done) | (rw [pairOk_yes hlen hy (by omega)]; done), hw.fr _ (.head _)⟩
      · refine zi ?_; refine b_on (zk ?_); refine zr ?_; refine w_r (fun _ => R_addi e17_1 rfl (by omega)) rfl rfl ?_; refine mI rfl ?_; refine zn ?_; refine k_st (B' := [(w, No)]) (L' := []) (fun w h => h.drop (List.nil_sublist _)) ?_; exact k_again _ (by omega) ⟨k + 1, e1_1, e2_1, e15_1, e16_1, rfl, rfl, rfl, by omega, pair_next hy hxk hzk h5, rfl⟩
    · refine c_exit ?_; refine zx (zx (b_here rfl (zk ?_))); refine yA ?_; refine aB rfl ?_; refine yB ?_; refine ze ?_; refine zo (v := .bool _) rfl rfl rfl ?_; exact fun w' hw => ⟨by first | (rw [pairOk_no hxk hzk h5]; done) | (rw [pairOk_yes hlen hy (by omega)]; done), hw.fr _ (.head _)⟩

set_option maxRecDepth 100000 in
set_option maxHeartbeats 4000000 in
theorem Same_spec (pg qg : List Bk) (cs ds : List Value) (N : Nat → Prop) (w : World) (hp : ∀ b ∈ pg, bkW b < 10000000) (hm : pgM w N pg cs) (hm2 : pgM w N qg ds) :
    Ret Tryd.prog 11 #[.agg cs.toArray, .agg ds.toArray] w (fun v w' => v = .bool (pgSame pg qg) ∧ Ext w w') := by
  refine enter (S := No) (l := [_, _]) (L := []) 40 Tryd.func11 rfl rfl rfl (St.start w No) ?_; refine yA ?_; refine w_boxA rfl (fun t2b gt2b ut2b => ?_)
  refine w_boxA rfl (fun t3b gt3b ut3b => ?_)
  refine aB rfl ?_; refine yB ?_; refine zq ?_; refine yA ?_; refine zf fa30_0 rfl ?_; refine w_loadW z28 rfl (fun _ h => h.at_ 1 rfl) hm.len ?_; refine mI rfl ?_; refine yB ?_; refine zB ?_; refine c_loop (fun m e B L => ∃ (i : Nat), e 3 = .pointer (some ⟨t3b, 0, none⟩) ∧ e 9 = .agg cs.toArray ∧ e 10 = .int .i64 (i : Nat) ∧ B = [(w, No)] ∧ L = [(t3b, cel ds 30), (t2b, cel cs 30)] ∧ i ≤ 6 ∧ (∀ p ∈ (pg.zip qg).take i, (!bkSame p.1 p.2) = false) ∧ m = 6 - i) _ ⟨0, rfl, rfl, rfl, rfl, rfl, Nat.zero_le _, (by simp), rfl⟩ ?_
  rintro m e B L ⟨i, e3_1, e9_1, e10_1, rfl, rfl, hi, hy, rfl⟩
  refine yA ?_; refine w_r (fun _ => R_lt e10_1 rfl) rfl rfl ?_; refine yB ?_; refine zq ?_; refine zD rfl (fun h3 => ?_) (fun h3 => ?_)
  · have hi6 : i < 6 := (by omega); obtain ⟨b, hb⟩ : ∃ b, pg[i]? = some b := ⟨_, List.getElem?_eq_getElem (by rw [hm.six]; exact hi6)⟩; have hbw := hp b (List.mem_of_getElem? hb); unfold bkW at hbw; obtain ⟨da, dc, sa, sc, hcb, hds, hss⟩ := hm.one i b hb; obtain ⟨b2, hb2⟩ : ∃ b, qg[i]? = some b := ⟨_, List.getElem?_eq_getElem (by rw [hm2.six]; exact hi6)⟩; obtain ⟨da2, dc2, sa2, sc2, hcb2, hds2, hss2⟩ := hm2.one i b2 hb2
    refine zi ?_; refine zk ?_; refine zq ?_; refine zB ?_; refine yA ?_; refine mI e10_1 ?_; refine w_r (v := .agg (List.toArray [.bool b.is, .slice da b.decls.length dc, .slice sa b.stmts.length sc])) (fun _ => R_aidxA (i := i) ara28 e9_1 e10_1 (by omega) hcb) rfl rfl ?_; refine w_alloc zr27 (fun t6b gt6b ut6b => ?_)
    refine aI rfl ?_; refine w_store 0 rfl z27 rfl rfl rfl rfl rfl rfl rfl ?_; refine yC ?_; refine mI rfl ?_; refine zf fa30_0 e3_1 ?_; refine w_r (fun _ => R_iaA (i := i) ara28 (by decide) rfl rfl (by first | omega | decide)) rfl rfl ?_; refine w_loadC (l := [.bool b2.is, .slice da2 b2.decls.length dc2, .slice sa2 b2.stmts.length sc2]) z27 rfl rfl (fun w h j v hj => zc 1 rfl (sub_get hcb2 hj) h) ?_; refine w_alloc zr27 (fun t7b gt7b ut7b => ?_)
    refine w_store 0 rfl z27 rfl rfl rfl rfl rfl rfl rfl ?_; refine yC ?_; refine zf fa27_0 rfl ?_; refine zl z4 rfl (fun _ h => zc 1 rfl rfl h) ?_; refine zf fa27_0 rfl ?_; refine zl z4 rfl (fun _ h => zc 0 rfl rfl h) ?_; refine w_r (fun _ => R_bne unb4 rfl rfl) rfl rfl ?_; refine mB rfl ?_; refine zp (t := 23) rfl (fun h6 => ?_) (fun h6 => ?_)
    · refine zs rfl rfl (bV h6) ?_; refine zs rfl rfl (bV h6) ?_; refine zs rfl rfl (bV h6) ?_; refine zs rfl rfl (bV h6) ?_; refine zs rfl rfl (bV h6) ?_; refine zs rfl rfl (bV h6) ?_; refine w_r (v := .bool _) (fun _ => zT (bV h6) rfl) rfl rfl ?_; refine mB rfl ?_; refine zs rfl rfl rfl ?_; refine zs rfl rfl rfl ?_; refine zs rfl rfl rfl ?_; refine zs rfl rfl rfl ?_; refine zs rfl rfl rfl ?_; refine zs rfl rfl rfl ?_; refine w_r (v := .bool _) (fun _ => zT rfl rfl) rfl rfl ?_; refine yB ?_; refine zE rfl ?_; refine yA ?_; refine aB rfl ?_; refine yB ?_; refine ze ?_; refine zb (zt (zt (zb (zt (?_)))))
      refine zo (v := .bool _) rfl rfl rfl ?_; exact fun w' hw => ⟨by unfold pgSame; first | (rw [pairOk_yes (hm.six.trans hm2.six.symm) hy (by have := hm.six; omega)]; done) | (rw [pairOk_no hb hb2 (by (try clear hm); (try clear hm2); (try clear hw); (try clear hp); (try clear hbw); (try clear hy); (try clear e10_1); (try clear e3_1); (try clear e9_1); (try clear gt2b); (try clear gt3b); (try clear gt6b); (try clear gt7b); (try clear ut2b); (try clear ut3b); (try clear ut6b); (try clear ut7b); (try clear hcb hds hss); (try clear hcb2 hds2 hss2); simp only [bkSame, smsSame_eq]; simp_all)]; done), hw.fr _ (.head _)⟩
    · refine zw rfl rfl (bV h6) ?_; refine zf fa27_1 rfl ?_; refine zw rfl rfl (bV h6) ?_; refine zl z24 rfl (fun _ h => zc 1 rfl rfl h) ?_; refine zw rfl rfl (bV h6) ?_; refine zf fa27_1 rfl ?_; refine zw rfl rfl (bV h6) ?_; refine zl z24 rfl (fun _ h => zc 0 rfl rfl h) ?_; refine zw rfl rfl (bV h6) ?_; refine zC (fun w => zR Tryd.func31 rfl rfl rfl) rfl rfl (fun w h => eqD_spec b.decls b2.decls da da2 dc dc2 N w (fun x hx => by have := dcsW_mem hx; omega) (by omega) (hds.now (fun _ _ hh => hh) (.head _) h) (hds2.now (fun _ _ hh => hh) (.head _) h)) ?_; refine zw rfl rfl (bV h6) ?_; refine w_r (fun _ => R_not rfl) rfl rfl ?_; refine w_r (v := .bool _) (fun _ => zF (bV h6) rfl) rfl rfl ?_; refine mB rfl ?_; refine zp (t := 31) rfl (fun h7 => ?_) (fun h7 => ?_)
      · refine zs rfl rfl (bV h7) ?_; refine zs rfl rfl (bV h7) ?_; refine zs rfl rfl (bV h7) ?_; refine zs rfl rfl (bV h7) ?_; refine zs rfl rfl (bV h7) ?_; refine zs rfl rfl (bV h7) ?_; refine w_r (v := .bool _) (fun _ => zT (bV h7) rfl) rfl rfl ?_; refine yB ?_; refine zE rfl ?_; refine yA ?_; refine aB rfl ?_; refine yB ?_; refine ze ?_; refine zb (zt (zt (zb (zt (?_)))))
        refine zo (v := .bool _) rfl rfl rfl ?_; exact fun w' hw => ⟨by unfold pgSame; first | (rw [pairOk_yes (hm.six.trans hm2.six.symm) hy (by have := hm.six; omega)]; done) | (rw [pairOk_no hb hb2 (by (try clear hm); (try clear hm2); (try clear hw); (try clear hp); (try clear hbw); (try clear hx); (try clear hy); (try clear e10_1); (try clear e3_1); (try clear e9_1); (try clear gt2b); (try clear gt3b); (try clear gt6b); (try clear gt7b); (try clear ut2b); (try clear ut3b); (try clear ut6b); (try clear ut7b); (try clear hcb hds hss); (try clear hcb2 hds2 hss2); simp only [bkSame, smsSame_eq]; simp_all)]; done), hw.fr _ (.head _)⟩
      · refine zw rfl rfl (bV h7) ?_; refine zf fa27_2 rfl ?_; refine zw rfl rfl (bV h7) ?_; refine zl z25 rfl (fun _ h => zc 1 rfl rfl h) ?_; refine zw rfl rfl (bV h7) ?_; refine zf fa27_2 rfl ?_; refine zw rfl rfl (bV h7) ?_; refine zl z25 rfl (fun _ h => zc 0 rfl rfl h) ?_; refine zw rfl rfl (bV h7) ?_; refine zC (fun w => zR Tryd.func33 rfl rfl rfl) rfl rfl (fun w h => eqS_spec _ sameS_ok b.stmts b2.stmts sa sa2 sc sc2 N w (fun x hx => by have := smsW_mem hx; omega) (by omega) (hss.now (fun _ _ hh => hh) (.head _) h) (hss2.now (fun _ _ hh => hh) (.head _) h)) ?_; refine zw rfl rfl (bV h7) ?_; refine w_r (fun _ => R_not rfl) rfl rfl ?_; refine w_r (v := .bool _) (fun _ => zF (bV h7) rfl) rfl rfl ?_; refine yB ?_; refine c_condN rfl (fun h8 => ?_) (fun h8 => ?_)
        · refine yA ?_; refine aB rfl ?_; refine yB ?_; refine ze ?_; refine zb (zt (zt (zb (zt (?_)))))
          refine zo (v := .bool _) rfl rfl rfl ?_; exact fun w' hw => ⟨by unfold pgSame; first | (rw [pairOk_yes (hm.six.trans hm2.six.symm) hy (by have := hm.six; omega)]; done) | (rw [pairOk_no hb hb2 (by (try clear hm); (try clear hm2); (try clear hw); (try clear hp); (try clear hbw); (try clear hx); (try clear hy); (try clear e10_1); (try clear e3_1); (try clear e9_1); (try clear gt2b); (try clear gt3b); (try clear gt6b); (try clear gt7b); (try clear ut2b); (try clear ut3b); (try clear ut6b); (try clear ut7b); (try clear hcb hds hss); (try clear hcb2 hds2 hss2); simp only [bkSame, smsSame_eq]; simp_all)]; done), hw.fr _ (.head _)⟩
        · refine zi ?_; refine b_on (zk ?_); refine zr ?_; refine w_r (fun _ => R_addi e10_1 rfl (by omega)) rfl rfl ?_; refine mI rfl ?_; refine zn ?_; refine k_st (B' := [(w, No)]) (L' := _) (fun w h => h.drop (List.sublist_append_right [_, _] _)) ?_; exact k_again _ (by omega) ⟨i + 1, e3_1, e9_1, rfl, rfl, rfl, by omega, pair_next hy hb hb2 (by (try clear hm); (try clear hm2); (try clear hp); (try clear hbw); (try clear hx); (try clear hy); (try clear e10_1); (try clear e3_1); (try clear e9_1); (try clear gt2b); (try clear gt3b); (try clear gt6b); (try clear gt7b); (try clear ut2b); (try clear ut3b); (try clear ut6b); (try clear ut7b); (try clear hcb hds hss); (try clear hcb2 hds2 hss2); simp only [bkSame, smsSame_eq]; simp_all), rfl⟩
  · refine c_exit ?_; refine zx (zx (b_here rfl (zk ?_))); refine yA ?_; refine aB rfl ?_; refine yB ?_; refine ze ?_; refine zo (v := .bool _) rfl rfl rfl ?_; exact fun w' hw => ⟨by unfold pgSame; first | (rw [pairOk_yes (hm.six.trans hm2.six.symm) hy (by have := hm.six; omega)]; done) | (rw [pairOk_no hb hb2 (by (try clear hm); (try clear hm2); (try clear hw); (try clear hp); (try clear hy); (try clear e10_1); (try clear e3_1); (try clear e9_1); (try clear gt2b); (try clear gt3b); (try clear ut2b); (try clear ut3b); simp only [bkSame, smsSame_eq]; simp_all)]; done), hw.fr _ (.head _)⟩
end Go.Proofs.YtcmcdgkjipnfnaaDoor
end

section
/- Regions that draw their order: two that may come up, one by one; allocations and stores among them. -/
namespace Go.Sx
open Go.RowKit
/-- number i comes up -/
def WO (P : Program) (ops : Array Oper) (c : Cf) (Q : Exit → Act → World → Prop) (S : World → Prop) (fuel : Nat) (listed : Array Bool) (i : Nat) (e : Env) (B : Base) (L : Heap) : Prop :=
  ∀ w, St B L w → wpOp P ops (Qn Q) i (fun a' w' => S w' ∧ wpAnyH P .any ops (Qn Q) S fuel (listed.setIfInBounds i true) a' w') (act c e) w
section
variable {P : Program} {ops : Array Oper} {Q : Exit → Act → World → Prop} {c : Cf} {e : Env} {B B' : Base} {L L' : Heap} {o : Oper} {v : Value} {d id fuel : Nat} {S : World → Prop} {listed : Array Bool}
end
attribute [irreducible] WO
section
variable {P : Program} {ρ : Operand → Value} {w : World} {D : Option Tmp} {ty t s yt : TypeId} {pos : String} {aft : Array Edge} {g : Option (Nat × Bool)} {x y : Operand} {k k' : IntKind} {i j : Int}
end
end Go.Sx
end

section
/- Trees: how long what is written is; the same tree is the same; a block more. -/
namespace Go.Tree
/-! how many bytes, with a blank behind each token -/
def tb (ts : List Str) : Nat := (ts.map fun s => s.length + 1).sum
theorem tb_nil : tb [] = 0 := rfl
theorem tb_cons (s : Str) (l : List Str) : tb (s :: l) = s.length + 1 + tb l := by simp [tb]
theorem tb_append (a b : List Str) : tb (a ++ b) = tb a + tb b := by simp [tb]
theorem tb_flatten : ∀ l : List (List Str), tb l.flatten = (l.map tb).sum
  | [] => rfl
  | x :: l => by rw [List.flatten_cons, tb_append, tb_flatten l, List.map_cons, List.sum_cons]
theorem tb_len : ∀ l : List Str, l.length ≤ tb l
  | [] => Nat.zero_le _
  | s :: l => by rw [tb_cons, List.length_cons]; have := tb_len l; omega
theorem endT_le (n k : Nat) (s : Str) : (endT n k s).length ≤ 1 := by unfold endT; split <;> (try split) <;> simp
theorem textTo_tb (xs : List Str) : ∀ k, k ≤ xs.length → (textTo xs k).length ≤ tb (xs.take k)
  | 0, _ => by rw [textTo_zero]; exact Nat.zero_le _
  | k + 1, h => by
    have hk : xs[k]? = some xs[k] := List.getElem?_eq_getElem (by omega)
    have ih := textTo_tb xs k (by omega)
    have he := endT_le xs.length k xs[k]
    rw [textTo_next hk, List.take_succ_eq_append_getElem (by omega), tb_append, tb_cons, tb_nil, List.length_append, List.length_append]
    omega
theorem textT_tb (xs : List Str) : (textT xs).length ≤ tb xs := by
  have := textTo_tb xs xs.length (Nat.le_refl _)
  rwa [List.take_length] at this
theorem rowT_tb : ∀ l : List (List Str), tb (rowT l) ≤ (l.map tb).sum + 2 * l.length
  | [] => Nat.zero_le _
  | t :: l => by
    have h : ∀ m : List (List Str), tb (m.flatMap (fun x => [44] :: x)) = (m.map tb).sum + 2 * m.length := by
      intro m
      induction m with
      | nil => rfl
      | cons x m ih => rw [List.flatMap_cons, tb_append, ih, tb_cons]; simp only [List.map_cons, List.sum_cons, List.length_cons, List.length_nil]; omega
    rw [rowT, tb_append, h]; simp only [List.map_cons, List.sum_cons, List.length_cons]; omega
theorem kidT_tb (op : Nat) (t : List Str) (n : Nat) : tb (kidT op t n) ≤ tb t + 4 := by
  unfold kidT; split
  · simp only [tb_append, tb_cons, tb_nil, List.length_cons, List.length_nil]; omega
  · omega
theorem getD_tb (l : List (List Str)) (i : Nat) : tb (l.getD i []) ≤ (l.map tb).sum := by
  induction l generalizing i with
  | nil => simp [tb_nil]
  | cons x l ih =>
    cases i with
    | zero => simp
    | succ i => have := ih i; simp only [List.getD_cons_succ, List.map_cons, List.sum_cons]; omega
theorem getD2_tb (l : List (List Str)) : tb (l.getD 0 []) + tb (l.getD 1 []) ≤ (l.map tb).sum := by
  cases l with
  | nil => simp [tb_nil]
  | cons x l =>
    have := getD_tb l 0
    simp only [List.getD_cons_zero, List.getD_cons_succ, List.map_cons, List.sum_cons]; omega
theorem signs_len (op : Nat) : (signs op).length ≤ 2 := by unfold signs; split <;> simp
theorem exTok_tb (op : Nat) (nm : Str) (ops : List Nat) (ts : List (List Str)) : tb (exTok op nm ops ts) ≤ nm.length + 11 + (ts.map tb).sum + 2 * ts.length := by
  have h1 := rowT_tb ts
  have h2 := getD2_tb ts
  unfold exTok
  split
  · simp only [tb_cons, tb_nil]; omega
  split
  · simp only [tb_append, tb_cons, tb_nil, List.length_cons, List.length_nil]; omega
  split
  · simp only [tb_append, tb_cons, tb_nil, List.length_cons, List.length_nil]; omega
  split
  · have := kidT_tb (ops.getD 0 0) (ts.getD 0 []) 3
    simp only [tb_append, tb_cons, tb_nil, List.length_cons, List.length_nil]; omega
  · have h3 := kidT_tb (ops.getD 0 0) (ts.getD 0 []) (low op)
    have h4 := kidT_tb (ops.getD 1 0) (ts.getD 1 []) (min (low op + 1) (low op * 9))
    have h5 := signs_len op
    simp only [tb_append, tb_cons, tb_nil]; omega
mutual
theorem exT_tb : ∀ x : Ex, tb (exT x) ≤ 16 * exW x
  | .mk op at_ nm ks => by
    have h := exTok_tb op nm (ks.map Ex.op) (exsT ks)
    have h2 := exsT_tb ks
    have h3 : (exsT ks).length = ks.length := by rw [exsT_map, List.length_map]
    rw [exT, exW]; omega
theorem exsT_tb : ∀ l : List Ex, ((exsT l).map tb).sum ≤ 16 * exsW l
  | [] => Nat.zero_le _
  | e :: l => by
    have h := exT_tb e
    have h2 := exsT_tb l
    rw [exsT, exsW, List.map_cons, List.sum_cons]; omega
end
theorem bodyT_tb (b : List (List Str)) : tb (bodyT b) = (b.map tb).sum + 4 := by
  unfold bodyT; simp only [tb_append, tb_cons, tb_nil, tb_flatten, List.length_cons, List.length_nil]; omega
theorem smTok_tb (op : Nat) (nm : Str) (ks b e : List (List Str)) : tb (smTok op nm ks b e) ≤ nm.length + 32 + (ks.map tb).sum * 2 + 2 * ks.length + (b.map tb).sum + (e.map tb).sum := by
  have h1 := rowT_tb (ks.drop 1)
  have hd : ((ks.drop 1).map tb).sum ≤ (ks.map tb).sum := by cases ks <;> simp
  have hl : (ks.drop 1).length ≤ ks.length := by rw [List.length_drop]; omega
  have h2 := getD2_tb ks
  have h3 := getD_tb ks (ks.length - 1)
  have hb := bodyT_tb b
  have he := bodyT_tb e
  unfold smTok
  split
  · simp only [tb_append, tb_cons, tb_nil, List.length_cons, List.length_nil]; split <;> simp only [tb_append, tb_cons, tb_nil, List.length_cons, List.length_nil] <;> omega
  split
  · simp only [tb_append, tb_cons, tb_nil, List.length_cons, List.length_nil]; omega
  split
  · simp only [tb_append, tb_cons, tb_nil, List.length_cons, List.length_nil]; omega
  split
  · simp only [tb_append, tb_cons, tb_nil, List.length_cons, List.length_nil]; omega
  split
  · simp only [tb_append, tb_cons, tb_nil, List.length_cons, List.length_nil]; split <;> simp only [tb_append, tb_cons, tb_nil, List.length_cons, List.length_nil] <;> omega
  · omega
mutual
theorem smT_tb : ∀ x : Sm, tb (smT x) ≤ 32 * smW x
  | .mk op at_ nm ks b e => by
    have h := smTok_tb op nm (exsT ks) (smsT b) (smsT e)
    have h2 := exsT_tb ks
    have h3 : (exsT ks).length = ks.length := by rw [exsT_map, List.length_map]
    have h4 := smsT_tb b
    have h5 := smsT_tb e
    rw [smT, smW]; omega
theorem smsT_tb : ∀ l : List Sm, ((smsT l).map tb).sum ≤ 32 * smsW l
  | [] => Nat.zero_le _
  | e :: l => by
    have h := smT_tb e
    have h2 := smsT_tb l
    rw [smsT, smsW, List.map_cons, List.sum_cons]; omega
end
theorem ldT_tb (pre : List Str) : ∀ l : List Ex, tb (ldT pre l) ≤ tb pre * l.length + 16 * exsW l
  | [] => Nat.zero_le _
  | x :: l => by
    have h := ldT_tb pre l
    have h2 := exT_tb x
    have h3 : ldT pre (x :: l) = pre ++ exT x ++ ldT pre l := by simp [ldT]
    rw [h3, exsW, List.length_cons, Nat.mul_add]; simp only [tb_append]; omega
theorem sizeT_tb (d : Dc) : tb (sizeT d) ≤ 4 + 2 * d.size.length + 16 * exsW d.size := by
  have h := rowT_tb (exsT d.size)
  have h2 := exsT_tb d.size
  have h3 : (exsT d.size).length = d.size.length := by rw [exsT_map, List.length_map]
  unfold sizeT; simp only [tb_append, tb_cons, tb_nil, List.length_cons, List.length_nil]; omega
theorem boundsT_tb (d : Dc) : tb (boundsT d) ≤ 6 + 8 * d.lower.length + 8 * d.upper.length + 16 * exsW d.lower + 16 * exsW d.upper := by
  have h := ldT_tb lowW d.lower
  have h2 := ldT_tb upW d.upper
  have h3 : tb lowW = 8 := by decide
  have h4 : tb upW = 8 := by decide
  rw [h3] at h; rw [h4] at h2
  unfold boundsT; split
  · exact Nat.zero_le _
  · simp only [tb_append, tb_cons, tb_nil, List.length_cons, List.length_nil]; split <;> simp only [tb_cons, tb_nil, List.length_cons, List.length_nil] <;> omega
theorem tyT_len (n : Nat) : (tyT n).length ≤ 6 := by unfold tyT; split <;> simp
theorem dcT_tb (d : Dc) : tb (dcT d) ≤ 32 * dcW d := by
  have h1 := sizeT_tb d
  have h2 := boundsT_tb d
  have h3 := ldT_tb [[61]] d.init
  have h5 : tb [[61]] = 2 := by decide
  rw [h5] at h3
  have h4 := tyT_len d.ty
  unfold dcT dcW; simp only [tb_append, tb_cons, tb_nil, List.length_cons, List.length_nil]
  split <;> split <;> simp only [tb_append, tb_cons, tb_nil, List.length_cons, List.length_nil] <;> omega
theorem dcsT_tb : ∀ l : List Dc, tb (dcsT l) ≤ 32 * dcsW l
  | [] => Nat.zero_le _
  | d :: l => by
    have h := dcsT_tb l
    have h2 := dcT_tb d
    have h3 : dcsT (d :: l) = dcT d ++ dcsT l := by simp [dcsT]
    rw [h3, tb_append, dcsW]; omega
theorem headW_tb (i : Nat) : tb (headW i) ≤ 28 := by unfold headW; split <;> decide
theorem bkT_tb (i : Nat) (b : Bk) : tb (bkT i b) ≤ 32 * bkW b := by
  have h1 := headW_tb i
  have h2 := dcsT_tb b.decls
  have h3 := smsT_tb b.stmts
  unfold bkT bkW; split
  · simp only [tb_append, tb_cons, tb_nil, tb_flatten, List.length_cons, List.length_nil]; omega
  · rw [tb_nil]; exact Nat.zero_le _
def pgW (p : List Bk) : Nat := (p.map bkW).sum
theorem pgTo_tb {p : List Bk} {m : Nat} (hm : ∀ b ∈ p, bkW b ≤ m) : ∀ i, tb (pgTo p i) ≤ i * (32 * m)
  | 0 => by rw [pgTo_zero, tb_nil]; exact Nat.zero_le _
  | i + 1 => by
    have ih := pgTo_tb hm i
    rw [Nat.succ_mul]
    cases hb : p[i]? with
    | some b =>
      have h := bkT_tb i b
      have h2 := hm b (List.mem_of_getElem? hb)
      rw [pgTo_next hb, tb_append]; omega
    | none =>
      have : pgTo p (i + 1) = pgTo p i := by unfold pgTo; rw [List.range_succ, List.flatMap_append]; simp [hb]
      rw [this]; omega
theorem pgT_tb {p : List Bk} {m : Nat} (hm : ∀ b ∈ p, bkW b ≤ m) : tb (pgT p) ≤ 6 * (32 * m) := pgTo_tb hm 6
theorem pgT_len {p : List Bk} (hm : ∀ b ∈ p, bkW b ≤ 1048576) : (pgT p).length ≤ 1000000000 ∧ (textT (pgT p)).length ≤ 1000000000 := by
  have h1 := pgT_tb hm
  have h2 := tb_len (pgT p)
  have h3 := textT_tb (pgT p)
  omega
/-! the same as itself -/
mutual
theorem exSame_refl : ∀ x : Ex, exSame x x = true
  | .mk op at_ nm ks => by rw [exSame, show (Ex.mk op at_ nm ks).kids = ks from rfl, exsSame_refl ks]; simp [Ex.op, Ex.nm]
theorem exsSame_refl : ∀ l : List Ex, exsSame l l = true
  | [] => by simp [exsSame]
  | x :: l => by rw [exsSame]; simp [exSame_refl x, exsSame_refl l]
end
mutual
theorem smSame_refl : ∀ x : Sm, smSame x x = true
  | .mk op at_ nm ks b e => by rw [smSame, show (Sm.mk op at_ nm ks b e).kids = ks from rfl, show (Sm.mk op at_ nm ks b e).body = b from rfl, show (Sm.mk op at_ nm ks b e).els = e from rfl, exsSame_refl ks, smsSame_refl b, smsSame_refl e]; simp [Sm.op, Sm.nm]
theorem smsSame_refl : ∀ l : List Sm, smsSame l l = true
  | [] => by simp [smsSame]
  | x :: l => by rw [smsSame]; simp [smSame_refl x, smsSame_refl l]
end
theorem dcSame_refl (d : Dc) : dcSame d d = true := by simp [dcSame, exsSame_refl]
theorem pairOk_refl {α : Type} {q : α → α → Bool} (h : ∀ x, q x x = true) : ∀ l : List α, pairOk q l l = true
  | [] => by simp [pairOk]
  | x :: l => by rw [pairOk_cons, h, pairOk_refl h l]; rfl
/-! a block more -/
def sp (s : Str) : Str := s ++ (if brk s then [10] else [32])
theorem textTo_sp (xs : List Str) : ∀ k, k ≤ xs.length → (k = xs.length → ∀ s, xs.getLast? = some s → brk s = true) → textTo xs k = (xs.take k).flatMap sp
  | 0, _, _ => by rw [textTo_zero]; simp
  | k + 1, h, hb => by
    have hk : xs[k]? = some xs[k] := List.getElem?_eq_getElem (by omega)
    rw [textTo_next hk, textTo_sp xs k (by omega) (fun h => by omega), List.take_succ_eq_append_getElem (by omega), List.flatMap_append]
    congr 1
    simp only [List.flatMap_cons, List.flatMap_nil, List.append_nil, sp, endT]
    by_cases hq : brk xs[k] = true
    · rw [if_pos hq, if_pos hq]
    · rw [if_neg hq, if_neg hq]
      by_cases hl : k + 1 < xs.length
      · rw [if_pos hl]
      · exfalso
        refine hq (hb (by omega) _ ?_)
        rw [List.getLast?_eq_getElem?, show xs.length - 1 = k by omega, hk]
theorem textT_sp {xs : List Str} (h : ∀ s, xs.getLast? = some s → brk s = true) : textT xs = xs.flatMap sp := by
  have := textTo_sp xs xs.length (Nat.le_refl _) (fun _ => h)
  rwa [List.take_length] at this
theorem bkT_last {i : Nat} {b : Bk} {s : Str} (h : (bkT i b).getLast? = some s) : brk s = true := by
  unfold bkT at h
  split at h
  · rw [List.getLast?_append] at h
    have : s = [125] := by simpa using h.symm
    subst this; decide
  · simp at h
theorem pgTo_last {p : List Bk} : ∀ i s, (pgTo p i).getLast? = some s → brk s = true
  | 0, s, h => by rw [pgTo_zero] at h; simp at h
  | i + 1, s, h => by
    cases hb : p[i]? with
    | some b =>
      rw [pgTo_next hb, List.getLast?_append] at h
      cases hl : (bkT i b).getLast? with
      | some t =>
        rw [hl] at h
        obtain rfl : t = s := by simpa using h
        exact bkT_last hl
      | none =>
        rw [hl] at h
        exact pgTo_last i s (by simpa using h)
    | none =>
      have : pgTo p (i + 1) = pgTo p i := by unfold pgTo; rw [List.range_succ, List.flatMap_append]; simp [hb]
      rw [this] at h
      exact pgTo_last i s h
theorem textT_pg (p : List Bk) : textT (pgT p) = (pgT p).flatMap sp := textT_sp (pgTo_last 6)
def setIs (p : List Bk) (i : Nat) (b : Bk) : List Bk := p.set i { b with is := true }
end Go.Tree
end

section
namespace Go.Proofs.YtcmcdgkjipnfnaaDoor
open Go.RowKit Go.Sx
open Go.Tok Go.Tree


theorem pg_one {w : World} {N : Nat → Prop} {p : List Bk} {cs : List Value} (h : pgM w N p cs) : cs.all Value.oneCell' = true := by
 rw [List.all_eq_true]
 intro v hv
 obtain ⟨j, hj⟩ := List.getElem?_of_mem hv
 have hlt := (List.getElem?_eq_some_iff.1 hj).1
 have hl := h.len
 obtain ⟨b, hb⟩ : ∃ b, p[j / 3]? = some b := ⟨_, List.getElem?_eq_getElem (by rw [h.six]; omega)⟩
 obtain ⟨da, dc, sa, sc, he, _, _⟩ := h.one _ b hb
 have hq : ((cs.drop (j / 3 * 3)).take 3)[j % 3]? = some v := by
  rw [List.getElem?_take, if_pos (Nat.mod_lt _ (by decide)), List.getElem?_drop, ← hj]; congr 1; omega
 rw [he] at hq
 have hm := List.mem_of_getElem? hq
 simp only [List.mem_cons, List.not_mem_nil, or_false] at hm
 rcases hm with rfl | rfl | rfl <;> rfl
end Go.Proofs.YtcmcdgkjipnfnaaDoor
end
