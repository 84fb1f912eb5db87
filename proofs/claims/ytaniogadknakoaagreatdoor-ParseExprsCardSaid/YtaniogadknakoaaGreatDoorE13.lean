/- Layer 13, ParseExprs: Expr tells the tree of the document, with its places, or its fault (the card of the statement); without conditions. Part 13 of 16. -/
import Derived.Test.YtaniogadknakoaaGreatDoorE04
import Derived.Test.YtaniogadknakoaaGreatDoorE12
import Derived.Test.YtaniogadknakoaaGreatDoorE09
import Derived.Test.YtaniogadknakoaaGreatDoorE03
section
namespace Go.Proofs.YtaniogadknakoaaGreatDoor
open Go.RowKit Go.Sx
open Go.Tok Go.Tree


theorem pstmt_all : ∀ n : Nat, n ≤ 10000000 → StmtP n
  | 0, _ => fun _ _ _ _ _ _ _ _ _ h => absurd h (Nat.not_lt_zero _)
  | n + 1, hn => pstmt_step n (pstmt_all n (by omega)) (by omega)
theorem pstmt_ok : StmtP 10000000 := pstmt_all _ (Nat.le_refl _)

set_option maxRecDepth 100000 in
set_option maxHeartbeats 2000000 in
theorem bounds_spec (x : Dc) (cs : List Value) (N : Nat → Prop) (y : World × (Nat → Prop)) (p : Nat) (Bs : Base) (Lr : Heap) (w : World) (xs : List Str) (hx : dcW x < 10000000) (hok : dcOk x = true) (hm : dcM y.1 N x cs) (hn : Apart y N) (hy : y ∈ Bs) (hb : xs.length + (boundsT x).length ≤ 1000000000) (hP : Pen p xs Bs Lr w) :
    Ret Tryz.prog 81 #[.pointer (some ⟨p, 0, none⟩), .agg cs.toArray] w (fun u w' => u = .tuple #[] ∧ Pen p (xs ++ boundsT x) Bs Lr w') := by
  have hf := dc_facts hok
  obtain ⟨ty, at_, nm, sz, lo, up, ini⟩ := x
  have hm2 := hm
  unfold dcM at hm2
  obtain ⟨sa, sc, la, lc, ua, uc, ia, ic, hcs, hsz, hlo, hup, hini⟩ := hm2
  simp only [] at hcs
  subst hcs
  have hx2 := hx
  simp only [dcW] at hx2
  simp only [] at hsz hlo hup hini
  obtain ⟨v, W, hO, hs⟩ := hP
  refine enterB (l := [_, _]) 61 Tryz.func81 rfl rfl rfl (hs) ?_; refine yA ?_; refine w_boxA rfl (fun t3b gt3b ut3b => ?_)
  refine yB ?_; refine zq ?_; refine yA ?_; refine zf fa46_4 rfl ?_; refine zl z37 rfl (fun _ h => zc 0 rfl rfl h) ?_; refine w_r (fun _ => R_len sl37 rfl) rfl rfl ?_; refine zf fa46_5 rfl ?_; refine zl z37 rfl (fun _ h => zc 0 rfl rfl h) ?_; refine w_r (fun _ => R_len sl37 rfl) rfl rfl ?_; refine w_r (fun _ => R_addi rfl rfl (by omega)) rfl rfl ?_; refine w_r (fun _ => R_eq rfl rfl) rfl rfl ?_; refine yB ?_; refine zD rfl (fun h2 => ?_) (fun h2 => ?_)
  · refine ze ?_; refine zt (?_)
    refine r_none (.inl rfl) rfl ?_; exact fun w' hw => ⟨rfl, PenAt.fin (A := [_]) hO (by simp only [boundsT]; rw [if_pos (by omega)]; simp) hw⟩
  · have heq : boundsT (Dc.mk ty at_ nm sz lo up ini) = [[60]] ++ ldT lowW lo ++ (if lo.length + up.length = 2 then [[44]] else []) ++ ldT upW up ++ [[62]] := (by simp only [boundsT]; rw [if_neg (by omega)]); rw [heq] at hb; simp only [List.length_append, List.length_cons, List.length_nil] at hb
    refine zi ?_; refine zk ?_; refine yA ?_; refine mP rfl ?_; refine zS slt56 (by decide) rfl rfl (fun b3 gb3 ub3 => ?_)
    refine w_pen (A := [_, _]) (Lr := Lr) ([[60]]) (fun w => zR Tryz.func40 rfl rfl rfl) rfl rfl hO (fun w h => put_spec p _ _ w _ b3 ([[60]]) (Nat.succ_pos _) (by first | omega | (simp only [List.length_append, List.length_cons, List.length_nil] at *; omega)) (.head _) h) (fun v4 W4 hO4 => ?_)
    refine yB ?_; refine zq ?_; refine yA ?_; refine zf fa46_4 rfl ?_; refine zl z37 rfl (fun _ h => zc 1 rfl rfl h) ?_; refine w_r (fun _ => R_len sl37 rfl) rfl rfl ?_; refine mI rfl ?_; refine yB ?_; refine zB ?_; refine c_st (B' := Bs) (L' := (t3b, cel [.int .u8 (ty : Nat), .int .i64 at_, str nm, .slice sa sz.length sc, .slice la lo.length lc, .slice ua up.length uc, .slice ia ini.length ic] 46) :: _) (fun w h => h.drop (List.sublist_cons_self _ _)) ?_
    refine c_loop (fun m e B L => ∃ (k : Nat) (v : Value) (W : Heap), e 0 = .pointer (some ⟨p, 0, none⟩) ∧ e 3 = .pointer (some ⟨t3b, 0, none⟩) ∧ e 20 = .slice la lo.length lc ∧ e 21 = .int .i64 (lo.length : Nat) ∧ e 22 = .int .i64 (k : Nat) ∧ Bs = B ∧ L = (t3b, cel [.int .u8 (ty : Nat), .int .i64 at_, str nm, .slice sa sz.length sc, .slice la lo.length lc, .slice ua up.length uc, .slice ia ini.length ic] 46) :: (p, cel [v] 90) :: (W ++ Lr) ∧ k ≤ lo.length ∧ OwnT v (xs ++ [[60]] ++ ldT lowW (lo.take k)) W ∧ m = lo.length - k) _ ⟨0, _, _, rfl, rfl, rfl, rfl, rfl, rfl, rfl, Nat.zero_le _, OwnS.eq hO4 (by simp [ldT]), rfl⟩ ?_
    rintro m e B L ⟨k, v, W, e0_1, e3_1, e20_1, e21_1, e22_1, rfl, rfl, hk, hO, rfl⟩
    refine yA ?_; refine w_r (fun _ => R_lt e22_1 e21_1) rfl rfl ?_; refine yB ?_; refine zq ?_; refine zD rfl (fun h5 => ?_) (fun h5 => ?_)
    · have hlt : k < lo.length := (by omega); obtain ⟨x1, hxk⟩ : ∃ x, lo[k]? = some x := ⟨_, List.getElem?_eq_getElem hlt⟩; obtain ⟨cs1, hA, hE⟩ := hlo.get0 hxk; have hxn := exsW_mem (List.mem_of_getElem? hxk); have hxo := penOk_of (exsOk_get hf.2.2.2.1 hxk); have hle := ldT_le lowW lo (k + 1); have hnx := ldT_next (pre := lowW) hxk; have hnl := congrArg List.length hnx; simp only [List.length_append] at hnl; have hpl : List.length lowW = 2 := rfl; obtain ⟨b1, o1, rfl⟩ := hA.ptr; obtain ⟨op1, at1, nm1, ks1⟩ := x1; have hE2 := hE; unfold exM at hE2; obtain ⟨ka1, kc1, rfl, hkc1, hks1⟩ := hE2
      refine zi ?_; refine zk ?_; refine zq ?_; refine zB ?_; refine yA ?_; refine w_r (fun _ => R_iaN (i := k) sl37 e20_1 e22_1 (by first | omega | decide)) rfl rfl ?_; refine w_loadC (l := [.int .u8 (op1 : Nat), .int .i64 at1, str nm1, .slice ka1 ks1.length kc1]) z39 rfl rfl (fun w h j v hj => hA.cell hn hy h j v hj) ?_; refine w_alloc zr39 (fun t5b gt5b ut5b => ?_)
      refine w_store 0 rfl z39 rfl rfl rfl rfl rfl rfl rfl ?_; refine yC ?_; refine mP e0_1 ?_; refine zS slt56 (by decide) rfl rfl (fun b7 gb7 ub7 => ?_)
      refine w_pen (A := [_, _, _]) (Lr := Lr) ([[108, 111, 119, 101, 114], [61]]) (fun w => zR Tryz.func40 rfl rfl rfl) rfl rfl hO (fun w h => put_spec p _ _ w _ b7 ([[108, 111, 119, 101, 114], [61]]) (Nat.succ_pos _) (by first | omega | (simp only [List.length_append, List.length_cons, List.length_nil] at *; omega)) (.head _) h) (fun v8 W8 hO8 => ?_)
      refine yB ?_; refine zr ?_; refine mP e0_1 ?_; refine w_loadA z39 rfl (fun _ h => h.at_ 1 rfl) rfl ?_; refine w_pen (A := [_, _, _]) (Lr := Lr) (exT (Ex.mk op1 at1 nm1 ks1)) (fun w => zR Tryz.func55 rfl rfl rfl) rfl rfl hO8 (fun w h => pexpr_ok _ _ N y p _ _ w _ (by omega) hxo hE hn hy (by first | omega | (simp only [List.length_append, List.length_cons, List.length_nil] at *; omega)) h) (fun v9 W9 hO9 => ?_)
      refine zn ?_; refine b_on (zk ?_); refine zr ?_; refine w_r (fun _ => R_addi e22_1 rfl (by omega)) rfl rfl ?_; refine mI rfl ?_; refine zn ?_; refine k_st (B' := Bs) (L' := _) (fun w h => h.drop (List.sublist_append_right [_, _] _)) ?_; exact k_again _ (by omega) ⟨k + 1, _, _, e0_1, e3_1, e20_1, e21_1, rfl, rfl, rfl, by omega, OwnS.eq hO9 (by rw [hnx]; simp [lowW, upW]), rfl⟩
    · have hle := ldT_le lowW lo k
      refine c_exit ?_; refine zx (zx (b_here rfl (zk ?_)))
      refine c_cut (fun e B L => ∃ (v : Value) (W : Heap), e 0 = .pointer (some ⟨p, 0, none⟩) ∧ e 3 = .pointer (some ⟨t3b, 0, none⟩) ∧ Bs = B ∧ L = (t3b, cel [.int .u8 (ty : Nat), .int .i64 at_, str nm, .slice sa sz.length sc, .slice la lo.length lc, .slice ua up.length uc, .slice ia ini.length ic] 46) :: (p, cel [v] 90) :: (W ++ Lr) ∧ OwnT v (xs ++ [[60]] ++ ldT lowW lo ++ (if lo.length + up.length = 2 then [[44]] else [])) W) ?_ ?_
      · refine yA ?_; refine zf fa46_4 e3_1 ?_; refine zl z37 rfl (fun _ h => zc 0 rfl rfl h) ?_; refine w_r (fun _ => R_len sl37 rfl) rfl rfl ?_; refine zf fa46_5 e3_1 ?_; refine zl z37 rfl (fun _ h => zc 0 rfl rfl h) ?_; refine w_r (fun _ => R_len sl37 rfl) rfl rfl ?_; refine w_r (fun _ => R_addi rfl rfl (by omega)) rfl rfl ?_; refine w_r (fun _ => R_eq rfl rfl) rfl rfl ?_; refine yB ?_; refine zD rfl (fun h10 => ?_) (fun h10 => ?_)
        · refine zr ?_; refine mP e0_1 ?_; refine zS slt56 (by decide) rfl rfl (fun b11 gb11 ub11 => ?_)
          refine w_pen (A := [_, _]) (Lr := Lr) ([[44]]) (fun w => zR Tryz.func40 rfl rfl rfl) rfl rfl hO (fun w h => put_spec p _ _ w _ b11 ([[44]]) (Nat.succ_pos _) (by first | omega | (simp only [List.length_append, List.length_cons, List.length_nil] at *; omega)) (.head _) h) (fun v12 W12 hO12 => ?_)
          refine zn ?_; refine k_st (B' := Bs) (L' := _) (fun w h => h.drop (List.sublist_cons_self _ _)) ?_; exact k_mid ⟨_, _, e0_1, e3_1, rfl, rfl, OwnS.eq hO12 (by first | (rw [if_pos (by omega), List.take_of_length_le (by omega)]; done) | (rw [if_pos (by omega), List.take_of_length_le (by omega)]; simp))⟩
        · refine zi ?_; exact k_mid ⟨_, _, e0_1, e3_1, rfl, rfl, OwnS.eq hO (by first | (rw [if_neg (by omega), List.take_of_length_le (by omega)]; done) | (rw [if_neg (by omega), List.take_of_length_le (by omega)]; simp))⟩
      rintro e B L ⟨v, W, e0_2, e3_2, rfl, rfl, hO⟩
      refine zq ?_; refine yA ?_; refine zf fa46_5 e3_2 ?_; refine zl z37 rfl (fun _ h => zc 0 rfl rfl h) ?_; refine w_r (fun _ => R_len sl37 rfl) rfl rfl ?_; refine mI rfl ?_; refine yB ?_; refine zB ?_
      refine c_loop (fun m e B L => ∃ (k : Nat) (v : Value) (W : Heap), e 0 = .pointer (some ⟨p, 0, none⟩) ∧ e 3 = .pointer (some ⟨t3b, 0, none⟩) ∧ e 45 = .slice ua up.length uc ∧ e 46 = .int .i64 (up.length : Nat) ∧ e 47 = .int .i64 (k : Nat) ∧ Bs = B ∧ L = (t3b, cel [.int .u8 (ty : Nat), .int .i64 at_, str nm, .slice sa sz.length sc, .slice la lo.length lc, .slice ua up.length uc, .slice ia ini.length ic] 46) :: (p, cel [v] 90) :: (W ++ Lr) ∧ k ≤ up.length ∧ OwnT v (xs ++ [[60]] ++ ldT lowW lo ++ (if lo.length + up.length = 2 then [[44]] else []) ++ ldT upW (up.take k)) W ∧ m = up.length - k) _ ⟨0, _, _, e0_2, e3_2, rfl, rfl, rfl, rfl, rfl, Nat.zero_le _, OwnS.eq hO (by simp [ldT]), rfl⟩ ?_
      rintro m e B L ⟨k, v, W, e0_3, e3_3, e45_3, e46_3, e47_3, rfl, rfl, hk, hO, rfl⟩
      refine yA ?_; refine w_r (fun _ => R_lt e47_3 e46_3) rfl rfl ?_; refine yB ?_; refine zq ?_; refine zD rfl (fun h13 => ?_) (fun h13 => ?_)
      · have hlt : k < up.length := (by omega); obtain ⟨x1, hxk⟩ : ∃ x, up[k]? = some x := ⟨_, List.getElem?_eq_getElem hlt⟩; obtain ⟨cs1, hA, hE⟩ := hup.get0 hxk; have hxn := exsW_mem (List.mem_of_getElem? hxk); have hxo := penOk_of (exsOk_get hf.2.2.2.2.1 hxk); have hle := ldT_le upW up (k + 1); have hnx := ldT_next (pre := upW) hxk; have hnl := congrArg List.length hnx; simp only [List.length_append] at hnl; have hpl : List.length upW = 2 := rfl; obtain ⟨b1, o1, rfl⟩ := hA.ptr; obtain ⟨op1, at1, nm1, ks1⟩ := x1; have hE2 := hE; unfold exM at hE2; obtain ⟨ka1, kc1, rfl, hkc1, hks1⟩ := hE2
        refine zi ?_; refine zk ?_; refine zq ?_; refine zB ?_; refine yA ?_; refine w_r (fun _ => R_iaN (i := k) sl37 e45_3 e47_3 (by first | omega | decide)) rfl rfl ?_; refine w_loadC (l := [.int .u8 (op1 : Nat), .int .i64 at1, str nm1, .slice ka1 ks1.length kc1]) z39 rfl rfl (fun w h j v hj => hA.cell hn hy h j v hj) ?_; refine w_alloc zr39 (fun t7b gt7b ut7b => ?_)
        refine w_store 0 rfl z39 rfl rfl rfl rfl rfl rfl rfl ?_; refine yC ?_; refine mP e0_3 ?_; refine zS slt56 (by decide) rfl rfl (fun b15 gb15 ub15 => ?_)
        refine w_pen (A := [_, _, _]) (Lr := Lr) ([[117, 112, 112, 101, 114], [61]]) (fun w => zR Tryz.func40 rfl rfl rfl) rfl rfl hO (fun w h => put_spec p _ _ w _ b15 ([[117, 112, 112, 101, 114], [61]]) (Nat.succ_pos _) (by first | omega | (simp only [List.length_append, List.length_cons, List.length_nil] at *; omega)) (.head _) h) (fun v16 W16 hO16 => ?_)
        refine yB ?_; refine zr ?_; refine mP e0_3 ?_; refine w_loadA z39 rfl (fun _ h => h.at_ 1 rfl) rfl ?_; refine w_pen (A := [_, _, _]) (Lr := Lr) (exT (Ex.mk op1 at1 nm1 ks1)) (fun w => zR Tryz.func55 rfl rfl rfl) rfl rfl hO16 (fun w h => pexpr_ok _ _ N y p _ _ w _ (by omega) hxo hE hn hy (by first | omega | (simp only [List.length_append, List.length_cons, List.length_nil] at *; omega)) h) (fun v17 W17 hO17 => ?_)
        refine zn ?_; refine b_on (zk ?_); refine zr ?_; refine w_r (fun _ => R_addi e47_3 rfl (by omega)) rfl rfl ?_; refine mI rfl ?_; refine zn ?_; refine k_st (B' := Bs) (L' := _) (fun w h => h.drop (List.sublist_append_right [_, _] _)) ?_; exact k_again _ (by omega) ⟨k + 1, _, _, e0_3, e3_3, e45_3, e46_3, rfl, rfl, rfl, by omega, OwnS.eq hO17 (by rw [hnx]; simp [lowW, upW]), rfl⟩
      · have hle := ldT_le upW up k
        refine c_exit ?_; refine zx (zx (b_here rfl (zk ?_))); refine zr ?_; refine mP e0_3 ?_; refine zS slt56 (by decide) rfl rfl (fun b18 gb18 ub18 => ?_)
        refine w_pen (A := [_, _]) (Lr := Lr) ([[62]]) (fun w => zR Tryz.func40 rfl rfl rfl) rfl rfl hO (fun w h => put_spec p _ _ w _ b18 ([[62]]) (Nat.succ_pos _) (by first | omega | (simp only [List.length_append, List.length_cons, List.length_nil] at *; omega)) (.head _) h) (fun v19 W19 hO19 => ?_)
        refine zn ?_; refine r_none (.inr rfl) rfl ?_; exact fun w' hw => ⟨rfl, PenAt.fin (A := [_, _]) hO19 (by rw [heq, List.take_of_length_le (by omega)]; simp) hw⟩

set_option maxRecDepth 100000 in
set_option maxHeartbeats 400000 in
theorem declC_spec (q2 q3 : Nat) (ty : Nat) (at_ : Int) (nm : Str) (sz lo up ini : List Ex) (sa : Option Addr) (sc : Nat) (la : Option Addr) (lc : Nat) (ua : Option Addr) (uc : Nat) (ia : Option Addr) (ic : Nat) (N : Nat → Prop) (y : World × (Nat → Prop)) (p : Nat) (Bs : Base) (Lr : Heap) (w : World) (xs : List Str) (hx : exsW sz < 10000000) (hll : sz.length ≤ 10000000) (hok : exsOk sz = true) (hm : exsM y.1 N sz sa 0) (hn : Apart y N) (hy : y ∈ Bs) (hq2 : (q2, cel [.pointer (some ⟨p, 0, none⟩)] 88) ∈ Lr) (hq3 : (q3, cel [.int .u8 (ty : Nat), .int .i64 at_, str nm, .slice sa sz.length sc, .slice la lo.length lc, .slice ua up.length uc, .slice ia ini.length ic] 46) ∈ Lr) (hb : xs.length + (rowT (exsT sz)).length + 2 ≤ 1000000000) (hP : Pen p xs Bs Lr w) :
    Ret Tryz.prog 79 #[.pointer (some ⟨q2, 0, none⟩), .pointer (some ⟨q3, 0, none⟩)] w (fun u w' => u = .tuple #[] ∧ Pen p (xs ++ ([[91]] ++ rowT (exsT sz) ++ [[93]])) Bs Lr w') := by
  obtain ⟨v, W, hO, hs⟩ := hP
  refine enterB (l := [_, _]) 12 Tryz.func79 rfl rfl rfl (hs) ?_; refine yA ?_; refine zl z88 rfl (fun _ h => by first | exact zc 0 rfl rfl h | exact zM (cs := [.pointer (some ⟨p, 0, none⟩)]) (T := 88) (by simp [hq2]) rfl h | exact zM (cs := [.int .u8 (ty : Nat), .int .i64 at_, str nm, .slice sa sz.length sc, .slice la lo.length lc, .slice ua up.length uc, .slice ia ini.length ic]) (T := 46) (by simp [hq3]) rfl h) ?_; refine zS slt56 (by decide) rfl rfl (fun b1 gb1 ub1 => ?_)
  refine w_pen (A := [_]) (Lr := Lr) ([[91]]) (fun w => zR Tryz.func40 rfl rfl rfl) rfl rfl hO (fun w h => put_spec p _ _ w _ b1 ([[91]]) (Nat.succ_pos _) (by first | omega | (simp only [List.length_append, List.length_cons, List.length_nil] at *; omega)) (.head _) h) (fun v2 W2 hO2 => ?_)
  refine yC ?_; refine zl z88 rfl (fun _ h => by first | exact zc 0 rfl rfl h | exact zc 1 rfl rfl h | exact zM (cs := [.pointer (some ⟨p, 0, none⟩)]) (T := 88) (by simp [hq2]) rfl h | exact zM (cs := [.int .u8 (ty : Nat), .int .i64 at_, str nm, .slice sa sz.length sc, .slice la lo.length lc, .slice ua up.length uc, .slice ia ini.length ic]) (T := 46) (by simp [hq3]) rfl h) ?_; refine zf fa46_3 rfl ?_; refine zl z37 rfl (fun _ h => by first | exact zc 0 rfl rfl h | exact zc 1 rfl rfl h | exact zM (cs := [.pointer (some ⟨p, 0, none⟩)]) (T := 88) (by simp [hq2]) rfl h | exact zM (cs := [.int .u8 (ty : Nat), .int .i64 at_, str nm, .slice sa sz.length sc, .slice la lo.length lc, .slice ua up.length uc, .slice ia ini.length ic]) (T := 46) (by simp [hq3]) rfl h) ?_
  refine w_pen (A := [_]) (Lr := Lr) (rowT (exsT sz)) (fun w => zR Tryz.func80 rfl rfl rfl) rfl rfl hO2 (fun w h => row_spec _ pexpr_ok (Nat.le_refl _) sz _ sc N y p _ _ w _ (fun x hx => by have := exsW_mem hx; omega) hll hok hm hn hy (by first | omega | (simp only [List.length_append, List.length_cons, List.length_nil] at *; omega)) h) (fun v3 W3 hO3 => ?_)
  refine yB ?_; refine zr ?_; refine zl z88 rfl (fun _ h => by first | exact zc 0 rfl rfl h | exact zc 1 rfl rfl h | exact zM (cs := [.pointer (some ⟨p, 0, none⟩)]) (T := 88) (by simp [hq2]) rfl h | exact zM (cs := [.int .u8 (ty : Nat), .int .i64 at_, str nm, .slice sa sz.length sc, .slice la lo.length lc, .slice ua up.length uc, .slice ia ini.length ic]) (T := 46) (by simp [hq3]) rfl h) ?_; refine zS slt56 (by decide) rfl rfl (fun b4 gb4 ub4 => ?_)
  refine w_pen (A := [_, _]) (Lr := Lr) ([[93]]) (fun w => zR Tryz.func40 rfl rfl rfl) rfl rfl hO3 (fun w h => put_spec p _ _ w _ b4 ([[93]]) (Nat.succ_pos _) (by first | omega | (simp only [List.length_append, List.length_cons, List.length_nil] at *; omega)) (.head _) h) (fun v5 W5 hO5 => ?_)
  refine zn ?_; refine r_none (.inr rfl) rfl ?_; exact fun w' hw => ⟨rfl, PenAt.fin (A := [_, _]) hO5 (by simp) hw⟩


theorem tys_get {ty : Nat} (h : ty < 6) : [str (tyT 0), str (tyT 1), str (tyT 2), str (tyT 3), str (tyT 4), str (tyT 5)][ty]? = some (str (tyT ty)) := by
  obtain rfl | rfl | rfl | rfl | rfl | rfl : ty = 0 ∨ ty = 1 ∨ ty = 2 ∨ ty = 3 ∨ ty = 4 ∨ ty = 5 := by omega
  all_goals rfl

set_option maxRecDepth 100000 in
set_option maxHeartbeats 8000000 in
theorem pdecl_spec (x : Dc) (cs : List Value) (N : Nat → Prop) (y : World × (Nat → Prop)) (p : Nat) (Bs : Base) (Lr : Heap) (w : World) (xs : List Str) (hx : dcW x < 10000000) (hok : dcOk x = true) (hm : dcM y.1 N x cs) (hn : Apart y N) (hy : y ∈ Bs) (hb : xs.length + (dcT x).length ≤ 1000000000) (hP : Pen p xs Bs Lr w) :
    Ret Tryz.prog 42 #[.pointer (some ⟨p, 0, none⟩), .agg cs.toArray] w (fun u w' => u = .tuple #[] ∧ Pen p (xs ++ dcT x) Bs Lr w') := by
  have hf := dc_facts hok
  obtain ⟨ty, at_, nm, sz, lo, up, ini⟩ := x
  have hm2 := hm
  unfold dcM at hm2
  obtain ⟨sa, sc, la, lc, ua, uc, ia, ic, hcs, hsz, hlo, hup, hini⟩ := hm2
  simp only [] at hcs
  subst hcs
  have hx2 := hx
  simp only [dcW] at hx2
  simp only [] at hsz hlo hup hini
  obtain ⟨v, W, hO, hs⟩ := hP
  obtain ⟨d0, hd0⟩ : ∃ d0, d0 = (Dc.mk ty at_ nm sz lo up ini) := ⟨_, rfl⟩
  have heq : dheadT d0 = (if 4 ≤ ty then [[97, 114, 114, 97, 121]] ++ ([[91]] ++ rowT (exsT sz) ++ [[93]]) else []) ++ [tyT ty] ++ boundsT (Dc.mk ty at_ nm sz lo up ini) ++ (if ty = 3 then ([[91]] ++ rowT (exsT sz) ++ [[93]]) else []) ++ [nm] := (by rw [hd0]; rfl)
  have hty1 : 1 ≤ ty := hf.1
  have hty5 : ty ≤ 5 := hf.2.1
  have hini0 : d0.init = ini := by rw [hd0]
  rw [← hd0, dcT_head, hini0] at hb
  rw [← hd0, dcT_head, hini0]
  simp only [List.length_append, List.length_cons, List.length_nil] at hb
  refine enterB (l := [_, _]) 53 Tryz.func42 rfl rfl rfl (hs) ?_; refine yA ?_; refine w_box rfl (fun t2b gt2b ut2b => ?_)
  refine w_boxA rfl (fun t3b gt3b ut3b => ?_)
  refine yC ?_; refine w_r (fun _ => R_makeFunc) rfl rfl ?_; refine za rfl ?_; refine yB ?_; refine zq ?_; refine yA ?_; refine zf fa46_0 rfl ?_; refine zl z5 rfl (fun _ h => zc 0 rfl rfl h) ?_; refine w_r (fun _ => R_ge rfl rfl) rfl rfl ?_; refine yB ?_; refine zD rfl (fun h3 => ?_) (fun h3 => ?_)
  · rw [if_pos (by omega)] at heq; have hl := congrArg List.length heq; simp only [List.length_append, List.length_cons, List.length_nil] at hl
    refine yA ?_; refine zl z88 rfl (fun _ h => zc 1 rfl rfl h) ?_; refine zS slt56 (by decide) rfl rfl (fun b4 gb4 ub4 => ?_)
    refine w_pen (A := [_, _, _]) (Lr := Lr) ([[97, 114, 114, 97, 121]]) (fun w => zR Tryz.func40 rfl rfl rfl) rfl rfl hO (fun w h => put_spec p _ _ w _ b4 ([[97, 114, 114, 97, 121]]) (Nat.succ_pos _) (by first | omega | (simp only [List.length_append, List.length_cons, List.length_nil] at *; omega)) (.head _) h) (fun v5 W5 hO5 => ?_)
    refine yB ?_; refine zr ?_; refine zm rfl ?_; refine w_pen (A := [_, _, _]) (Lr := Lr) (([[91]] ++ rowT (exsT sz) ++ [[93]])) (fun w => R_callv rfl Tryz.func79 rfl rfl) rfl rfl hO5 (fun w h => declC_spec t2b t3b _ at_ nm sz lo up ini sa sc la lc ua uc ia ic N y p _ _ w _ (by omega) (by omega) hf.2.2.1 hsz hn hy (.tail _ (.tail _ (.head _))) (.tail _ (.head _)) (by first | omega | (simp only [List.length_append, List.length_cons, List.length_nil] at *; omega)) h) (fun v6 W6 hO6 => ?_)
    refine yB ?_; refine zq ?_; refine c_held (St Bs [(t3b, cel [.int .u8 (ty : Nat), .int .i64 at_, str nm, .slice sa sz.length sc, .slice la lo.length lc, .slice ua up.length uc, .slice ia ini.length ic] 46), (t2b, cel [.pointer (some ⟨p, 0, none⟩)] 88)]) mixed ?_; refine zh 0 rfl (by kernel_rfl) rfl rfl (fun w h => h.drop (.cons _ (.cons_cons _ (.cons_cons _ (List.nil_sublist _))))) (fun w h => R_ld1 z88 rfl (by first | exact zc 0 rfl rfl h | exact zc 1 rfl rfl h)) ?_; refine zh 1 rfl (by kernel_rfl) rfl rfl (fun w h => h.drop (.cons _ (.cons_cons _ (.cons_cons _ (List.nil_sublist _))))) (fun w h => R_buildA ar87 zr87 rfl) ?_; refine zh 2 rfl (by kernel_rfl) rfl rfl (fun w h => h.drop (.cons _ (.cons_cons _ (.cons_cons _ (List.nil_sublist _))))) (fun w h => R_fa fa46_0 rfl) ?_
    refine zh 3 rfl (by kernel_rfl) rfl rfl (fun w h => h.drop (.cons _ (.cons_cons _ (.cons_cons _ (List.nil_sublist _))))) (fun w h => R_ld1 z5 rfl (by first | exact zc 0 rfl rfl h | exact zc 1 rfl rfl h)) ?_; refine zh 4 rfl (by kernel_rfl) rfl rfl (fun w h => h.drop (.cons _ (.cons_cons _ (.cons_cons _ (List.nil_sublist _))))) (fun w h => R_aidx (i := ty) (l := [str (tyT 0), str (tyT 1), str (tyT 2), str (tyT 3), str (tyT 4), str (tyT 5)]) ar87 rfl rfl (by rw [Nat.blt_eq]; omega) (tys_get (by omega))) ?_; refine h_bslice 5 rfl (by kernel_rfl) (fun w h => h.drop (.cons _ (.cons_cons _ (.cons_cons _ (List.nil_sublist _))))) slt56 (by decide) rfl rfl (fun b7 => ?_)
    refine h_pen (A := [_, _, _, _]) (Lr := Lr) [tyT ty] 6 rfl (by kernel_rfl) rfl rfl (fun w h => h.drop (.cons _ (.cons _ (.cons_cons _ (.cons_cons _ (List.nil_sublist _)))))) (fun w => zR Tryz.func40 rfl rfl rfl) hO6 (fun w h => put_spec p _ _ w _ b7 [tyT ty] (Nat.succ_pos _) (by first | omega | (simp only [List.length_append, List.length_cons, List.length_nil] at *; omega)) (.head _) h) (fun v8 W8 hO8 => ?_)
    refine h_done (by kernel_rfl) (fun w h => h.drop (.cons _ (.cons _ (.cons_cons _ (.cons_cons _ (List.nil_sublist _)))))) ?_; refine zk ?_; refine yA ?_; refine zl z88 rfl (fun _ h => zc 3 rfl rfl h) ?_; refine w_loadA z46 rfl (fun _ h => h.at_ 2 rfl) rfl ?_; refine w_pen (A := [_, _, _, _]) (Lr := Lr) (boundsT (Dc.mk ty at_ nm sz lo up ini)) (fun w => zR Tryz.func81 rfl rfl rfl) rfl rfl hO8 (fun w h => bounds_spec _ _ N y p _ _ w _ hx hok hm hn hy (by first | omega | (simp only [List.length_append, List.length_cons, List.length_nil] at *; omega)) h) (fun v9 W9 hO9 => ?_)
    refine yB ?_; refine zq ?_; refine yA ?_; refine zf fa46_0 rfl ?_; refine zl z5 rfl (fun _ h => zc 2 rfl rfl h) ?_; refine w_r (fun _ => R_eq rfl rfl) rfl rfl ?_; refine yB ?_; refine zD rfl (fun h10 => ?_) (fun h10 => ?_)
    · rw [if_pos (by omega)] at heq; have hl := congrArg List.length heq; simp only [List.length_append, List.length_cons, List.length_nil] at hl
      refine zr ?_; refine zm rfl ?_; refine w_pen (A := [_, _, _, _]) (Lr := Lr) (([[91]] ++ rowT (exsT sz) ++ [[93]])) (fun w => R_callv rfl Tryz.func79 rfl rfl) rfl rfl hO9 (fun w h => declC_spec t2b t3b _ at_ nm sz lo up ini sa sc la lc ua uc ia ic N y p _ _ w _ (by omega) (by omega) hf.2.2.1 hsz hn hy (.tail _ (.tail _ (.tail _ (.head _)))) (.tail _ (.tail _ (.head _))) (by first | omega | (simp only [List.length_append, List.length_cons, List.length_nil] at *; omega)) h) (fun v11 W11 hO11 => ?_)
      refine yC ?_; refine zl z88 rfl (fun _ h => zc 3 rfl rfl h) ?_; refine zf fa46_2 rfl ?_; refine zl z9 rfl (fun _ h => zc 2 rfl rfl h) ?_; refine zS slt56 (by decide) rfl rfl (fun b12 gb12 ub12 => ?_)
      refine w_pen (A := [_, _, _, _, _]) (Lr := Lr) ([nm]) (fun w => zR Tryz.func40 rfl rfl rfl) rfl rfl hO11 (fun w h => put_spec p _ _ w _ b12 ([nm]) (Nat.succ_pos _) (by first | omega | (simp only [List.length_append, List.length_cons, List.length_nil] at *; omega)) (.head _) h) (fun v13 W13 hO13 => ?_)
      refine yB ?_; refine zq ?_; refine yA ?_; refine zf fa46_6 rfl ?_; refine zl z37 rfl (fun _ h => zc 3 rfl rfl h) ?_; refine w_r (fun _ => R_len sl37 rfl) rfl rfl ?_; refine mI rfl ?_; refine yB ?_; refine zB ?_; refine c_st (B' := Bs) (L' := (t3b, cel [.int .u8 (ty : Nat), .int .i64 at_, str nm, .slice sa sz.length sc, .slice la lo.length lc, .slice ua up.length uc, .slice ia ini.length ic] 46) :: (t2b, cel [.pointer (some ⟨p, 0, none⟩)] 88) :: _) (fun w h => h.drop (List.sublist_append_right [_, _, _] _)) ?_
      refine c_loop (fun m e B L => ∃ (k : Nat) (v : Value) (W : Heap), e 0 = .pointer (some ⟨p, 0, none⟩) ∧ e 2 = .pointer (some ⟨t2b, 0, none⟩) ∧ e 3 = .pointer (some ⟨t3b, 0, none⟩) ∧ e 37 = .slice ia ini.length ic ∧ e 38 = .int .i64 (ini.length : Nat) ∧ e 39 = .int .i64 (k : Nat) ∧ Bs = B ∧ L = (t3b, cel [.int .u8 (ty : Nat), .int .i64 at_, str nm, .slice sa sz.length sc, .slice la lo.length lc, .slice ua up.length uc, .slice ia ini.length ic] 46) :: (t2b, cel [.pointer (some ⟨p, 0, none⟩)] 88) :: (p, cel [v] 90) :: (W ++ Lr) ∧ k ≤ ini.length ∧ OwnT v (xs ++ dheadT d0 ++ ldT [[61]] (ini.take k)) W ∧ m = ini.length - k) _ ⟨0, _, _, rfl, rfl, rfl, rfl, rfl, rfl, rfl, rfl, Nat.zero_le _, OwnS.eq hO13 (by rw [heq]; simp [ldT]), rfl⟩ ?_
      rintro m e B L ⟨k, v, W, e0_1, e2_1, e3_1, e37_1, e38_1, e39_1, rfl, rfl, hk, hO, rfl⟩
      refine yA ?_; refine w_r (fun _ => R_lt e39_1 e38_1) rfl rfl ?_; refine yB ?_; refine zq ?_; refine zD rfl (fun h14 => ?_) (fun h14 => ?_)
      · have hlt : k < ini.length := (by omega); obtain ⟨x1, hxk⟩ : ∃ x, ini[k]? = some x := ⟨_, List.getElem?_eq_getElem hlt⟩; obtain ⟨cs1, hA, hE⟩ := hini.get0 hxk; have hxn := exsW_mem (List.mem_of_getElem? hxk); have hxo := penOk_of (exsOk_get hf.2.2.2.2.2 hxk); have hle := ldT_le [[61]] ini (k + 1); have hnx := ldT_next (pre := [[61]]) hxk; have hnl := congrArg List.length hnx; simp only [List.length_append] at hnl; have hpl : List.length [[61]] = 1 := rfl; obtain ⟨b1, o1, rfl⟩ := hA.ptr; obtain ⟨op1, at1, nm1, ks1⟩ := x1; have hE2 := hE; unfold exM at hE2; obtain ⟨ka1, kc1, rfl, hkc1, hks1⟩ := hE2
        refine zi ?_; refine zk ?_; refine zq ?_; refine zB ?_; refine yA ?_; refine w_r (fun _ => R_iaN (i := k) sl37 e37_1 e39_1 (by first | omega | decide)) rfl rfl ?_; refine w_loadC (l := [.int .u8 (op1 : Nat), .int .i64 at1, str nm1, .slice ka1 ks1.length kc1]) z39 rfl rfl (fun w h j v hj => hA.cell hn hy h j v hj) ?_; refine w_alloc zr39 (fun t6b gt6b ut6b => ?_)
        refine w_store 0 rfl z39 rfl rfl rfl rfl rfl rfl rfl ?_; refine yC ?_; refine zl z88 e2_1 (fun _ h => zc 2 rfl rfl h) ?_; refine zS slt56 (by decide) rfl rfl (fun b16 gb16 ub16 => ?_)
        refine w_pen (A := [_, _, _, _]) (Lr := Lr) ([[61]]) (fun w => zR Tryz.func40 rfl rfl rfl) rfl rfl hO (fun w h => put_spec p _ _ w _ b16 ([[61]]) (Nat.succ_pos _) (by first | omega | (simp only [List.length_append, List.length_cons, List.length_nil] at *; omega)) (.head _) h) (fun v17 W17 hO17 => ?_)
        refine yB ?_; refine zr ?_; refine zl z88 e2_1 (fun _ h => zc 3 rfl rfl h) ?_; refine w_loadA z39 rfl (fun _ h => h.at_ 1 rfl) rfl ?_; refine w_pen (A := [_, _, _, _]) (Lr := Lr) (exT (Ex.mk op1 at1 nm1 ks1)) (fun w => zR Tryz.func55 rfl rfl rfl) rfl rfl hO17 (fun w h => pexpr_ok _ _ N y p _ _ w _ (by omega) hxo hE hn hy (by first | omega | (simp only [List.length_append, List.length_cons, List.length_nil] at *; omega)) h) (fun v18 W18 hO18 => ?_)
        refine zn ?_; refine b_on (zk ?_); refine zr ?_; refine w_r (fun _ => R_addi e39_1 rfl (by omega)) rfl rfl ?_; refine mI rfl ?_; refine zn ?_; refine k_st (B' := Bs) (L' := _) (fun w h => h.drop (List.sublist_append_right [_, _] _)) ?_; exact k_again _ (by omega) ⟨k + 1, _, _, e0_1, e2_1, e3_1, e37_1, e38_1, rfl, rfl, rfl, by omega, OwnS.eq hO18 (by rw [hnx]; simp), rfl⟩
      · have hle := ldT_le [[61]] ini k
        refine c_exit ?_; refine zx (zx (b_here rfl (zk ?_))); refine zr ?_; refine zl z88 e2_1 (fun _ h => zc 1 rfl rfl h) ?_; refine zS slt56 (by decide) rfl rfl (fun b19 gb19 ub19 => ?_)
        refine w_pen (A := [_, _, _]) (Lr := Lr) ([[59]]) (fun w => zR Tryz.func40 rfl rfl rfl) rfl rfl hO (fun w h => put_spec p _ _ w _ b19 ([[59]]) (Nat.succ_pos _) (by first | omega | (simp only [List.length_append, List.length_cons, List.length_nil] at *; omega)) (.head _) h) (fun v20 W20 hO20 => ?_)
        refine zn ?_; refine r_none (.inr rfl) rfl ?_; exact fun w' hw => ⟨rfl, PenAt.fin (A := [_, _, _]) hO20 (by rw [List.take_of_length_le (by omega)]; simp) hw⟩
    · rw [if_neg (by omega)] at heq; have hl := congrArg List.length heq; simp only [List.length_append, List.length_cons, List.length_nil] at hl
      refine zi ?_; refine zk ?_; refine yA ?_; refine zl z88 rfl (fun _ h => zc 3 rfl rfl h) ?_; refine zf fa46_2 rfl ?_; refine zl z9 rfl (fun _ h => zc 2 rfl rfl h) ?_; refine zS slt56 (by decide) rfl rfl (fun b21 gb21 ub21 => ?_)
      refine w_pen (A := [_, _, _, _, _]) (Lr := Lr) ([nm]) (fun w => zR Tryz.func40 rfl rfl rfl) rfl rfl hO9 (fun w h => put_spec p _ _ w _ b21 ([nm]) (Nat.succ_pos _) (by first | omega | (simp only [List.length_append, List.length_cons, List.length_nil] at *; omega)) (.head _) h) (fun v22 W22 hO22 => ?_)
      refine yB ?_; refine zq ?_; refine yA ?_; refine zf fa46_6 rfl ?_; refine zl z37 rfl (fun _ h => zc 3 rfl rfl h) ?_; refine w_r (fun _ => R_len sl37 rfl) rfl rfl ?_; refine mI rfl ?_; refine yB ?_; refine zB ?_; refine c_st (B' := Bs) (L' := (t3b, cel [.int .u8 (ty : Nat), .int .i64 at_, str nm, .slice sa sz.length sc, .slice la lo.length lc, .slice ua up.length uc, .slice ia ini.length ic] 46) :: (t2b, cel [.pointer (some ⟨p, 0, none⟩)] 88) :: _) (fun w h => h.drop (List.sublist_append_right [_, _, _] _)) ?_
      refine c_loop (fun m e B L => ∃ (k : Nat) (v : Value) (W : Heap), e 0 = .pointer (some ⟨p, 0, none⟩) ∧ e 2 = .pointer (some ⟨t2b, 0, none⟩) ∧ e 3 = .pointer (some ⟨t3b, 0, none⟩) ∧ e 37 = .slice ia ini.length ic ∧ e 38 = .int .i64 (ini.length : Nat) ∧ e 39 = .int .i64 (k : Nat) ∧ Bs = B ∧ L = (t3b, cel [.int .u8 (ty : Nat), .int .i64 at_, str nm, .slice sa sz.length sc, .slice la lo.length lc, .slice ua up.length uc, .slice ia ini.length ic] 46) :: (t2b, cel [.pointer (some ⟨p, 0, none⟩)] 88) :: (p, cel [v] 90) :: (W ++ Lr) ∧ k ≤ ini.length ∧ OwnT v (xs ++ dheadT d0 ++ ldT [[61]] (ini.take k)) W ∧ m = ini.length - k) _ ⟨0, _, _, rfl, rfl, rfl, rfl, rfl, rfl, rfl, rfl, Nat.zero_le _, OwnS.eq hO22 (by rw [heq]; simp [ldT]), rfl⟩ ?_
      rintro m e B L ⟨k, v, W, e0_2, e2_2, e3_2, e37_2, e38_2, e39_2, rfl, rfl, hk, hO, rfl⟩
      refine yA ?_; refine w_r (fun _ => R_lt e39_2 e38_2) rfl rfl ?_; refine yB ?_; refine zq ?_; refine zD rfl (fun h23 => ?_) (fun h23 => ?_)
      · have hlt : k < ini.length := (by omega); obtain ⟨x1, hxk⟩ : ∃ x, ini[k]? = some x := ⟨_, List.getElem?_eq_getElem hlt⟩; obtain ⟨cs1, hA, hE⟩ := hini.get0 hxk; have hxn := exsW_mem (List.mem_of_getElem? hxk); have hxo := penOk_of (exsOk_get hf.2.2.2.2.2 hxk); have hle := ldT_le [[61]] ini (k + 1); have hnx := ldT_next (pre := [[61]]) hxk; have hnl := congrArg List.length hnx; simp only [List.length_append] at hnl; have hpl : List.length [[61]] = 1 := rfl; obtain ⟨b1, o1, rfl⟩ := hA.ptr; obtain ⟨op1, at1, nm1, ks1⟩ := x1; have hE2 := hE; unfold exM at hE2; obtain ⟨ka1, kc1, rfl, hkc1, hks1⟩ := hE2
        refine zi ?_; refine zk ?_; refine zq ?_; refine zB ?_; refine yA ?_; refine w_r (fun _ => R_iaN (i := k) sl37 e37_2 e39_2 (by first | omega | decide)) rfl rfl ?_; refine w_loadC (l := [.int .u8 (op1 : Nat), .int .i64 at1, str nm1, .slice ka1 ks1.length kc1]) z39 rfl rfl (fun w h j v hj => hA.cell hn hy h j v hj) ?_; refine w_alloc zr39 (fun t6b gt6b ut6b => ?_)
        refine w_store 0 rfl z39 rfl rfl rfl rfl rfl rfl rfl ?_; refine yC ?_; refine zl z88 e2_2 (fun _ h => zc 2 rfl rfl h) ?_; refine zS slt56 (by decide) rfl rfl (fun b25 gb25 ub25 => ?_)
        refine w_pen (A := [_, _, _, _]) (Lr := Lr) ([[61]]) (fun w => zR Tryz.func40 rfl rfl rfl) rfl rfl hO (fun w h => put_spec p _ _ w _ b25 ([[61]]) (Nat.succ_pos _) (by first | omega | (simp only [List.length_append, List.length_cons, List.length_nil] at *; omega)) (.head _) h) (fun v26 W26 hO26 => ?_)
        refine yB ?_; refine zr ?_; refine zl z88 e2_2 (fun _ h => zc 3 rfl rfl h) ?_; refine w_loadA z39 rfl (fun _ h => h.at_ 1 rfl) rfl ?_; refine w_pen (A := [_, _, _, _]) (Lr := Lr) (exT (Ex.mk op1 at1 nm1 ks1)) (fun w => zR Tryz.func55 rfl rfl rfl) rfl rfl hO26 (fun w h => pexpr_ok _ _ N y p _ _ w _ (by omega) hxo hE hn hy (by first | omega | (simp only [List.length_append, List.length_cons, List.length_nil] at *; omega)) h) (fun v27 W27 hO27 => ?_)
        refine zn ?_; refine b_on (zk ?_); refine zr ?_; refine w_r (fun _ => R_addi e39_2 rfl (by omega)) rfl rfl ?_; refine mI rfl ?_; refine zn ?_; refine k_st (B' := Bs) (L' := _) (fun w h => h.drop (List.sublist_append_right [_, _] _)) ?_; exact k_again _ (by omega) ⟨k + 1, _, _, e0_2, e2_2, e3_2, e37_2, e38_2, rfl, rfl, rfl, by omega, OwnS.eq hO27 (by rw [hnx]; simp), rfl⟩
      · have hle := ldT_le [[61]] ini k
        refine c_exit ?_; refine zx (zx (b_here rfl (zk ?_))); refine zr ?_; refine zl z88 e2_2 (fun _ h => zc 1 rfl rfl h) ?_; refine zS slt56 (by decide) rfl rfl (fun b28 gb28 ub28 => ?_)
        refine w_pen (A := [_, _, _]) (Lr := Lr) ([[59]]) (fun w => zR Tryz.func40 rfl rfl rfl) rfl rfl hO (fun w h => put_spec p _ _ w _ b28 ([[59]]) (Nat.succ_pos _) (by first | omega | (simp only [List.length_append, List.length_cons, List.length_nil] at *; omega)) (.head _) h) (fun v29 W29 hO29 => ?_)
        refine zn ?_; refine r_none (.inr rfl) rfl ?_; exact fun w' hw => ⟨rfl, PenAt.fin (A := [_, _, _]) hO29 (by rw [List.take_of_length_le (by omega)]; simp) hw⟩
  · rw [if_neg (by omega)] at heq; have hl := congrArg List.length heq; simp only [List.length_append, List.length_cons, List.length_nil] at hl
    refine zi ?_; refine zk ?_; refine zq ?_; refine c_held (St Bs [(t3b, cel [.int .u8 (ty : Nat), .int .i64 at_, str nm, .slice sa sz.length sc, .slice la lo.length lc, .slice ua up.length uc, .slice ia ini.length ic] 46), (t2b, cel [.pointer (some ⟨p, 0, none⟩)] 88)]) mixed ?_; refine zh 0 rfl (by kernel_rfl) rfl rfl (fun w h => h.drop (.cons_cons _ (.cons_cons _ (List.nil_sublist _)))) (fun w h => R_ld1 z88 rfl (by first | exact zc 0 rfl rfl h | exact zc 1 rfl rfl h)) ?_; refine zh 1 rfl (by kernel_rfl) rfl rfl (fun w h => h.drop (.cons_cons _ (.cons_cons _ (List.nil_sublist _)))) (fun w h => R_buildA ar87 zr87 rfl) ?_; refine zh 2 rfl (by kernel_rfl) rfl rfl (fun w h => h.drop (.cons_cons _ (.cons_cons _ (List.nil_sublist _)))) (fun w h => R_fa fa46_0 rfl) ?_
    refine zh 3 rfl (by kernel_rfl) rfl rfl (fun w h => h.drop (.cons_cons _ (.cons_cons _ (List.nil_sublist _)))) (fun w h => R_ld1 z5 rfl (by first | exact zc 0 rfl rfl h | exact zc 1 rfl rfl h)) ?_; refine zh 4 rfl (by kernel_rfl) rfl rfl (fun w h => h.drop (.cons_cons _ (.cons_cons _ (List.nil_sublist _)))) (fun w h => R_aidx (i := ty) (l := [str (tyT 0), str (tyT 1), str (tyT 2), str (tyT 3), str (tyT 4), str (tyT 5)]) ar87 rfl rfl (by rw [Nat.blt_eq]; omega) (tys_get (by omega))) ?_; refine h_bslice 5 rfl (by kernel_rfl) (fun w h => h.drop (.cons_cons _ (.cons_cons _ (List.nil_sublist _)))) slt56 (by decide) rfl rfl (fun b30 => ?_)
    refine h_pen (A := [_, _, _]) (Lr := Lr) [tyT ty] 6 rfl (by kernel_rfl) rfl rfl (fun w h => h.drop (.cons _ (.cons_cons _ (.cons_cons _ (List.nil_sublist _))))) (fun w => zR Tryz.func40 rfl rfl rfl) hO (fun w h => put_spec p _ _ w _ b30 [tyT ty] (Nat.succ_pos _) (by first | omega | (simp only [List.length_append, List.length_cons, List.length_nil] at *; omega)) (.head _) h) (fun v31 W31 hO31 => ?_)
    refine h_done (by kernel_rfl) (fun w h => h.drop (.cons _ (.cons_cons _ (.cons_cons _ (List.nil_sublist _))))) ?_; refine zk ?_; refine yA ?_; refine zl z88 rfl (fun _ h => zc 2 rfl rfl h) ?_; refine w_loadA z46 rfl (fun _ h => h.at_ 1 rfl) rfl ?_; refine w_pen (A := [_, _, _]) (Lr := Lr) (boundsT (Dc.mk ty at_ nm sz lo up ini)) (fun w => zR Tryz.func81 rfl rfl rfl) rfl rfl hO31 (fun w h => bounds_spec _ _ N y p _ _ w _ hx hok hm hn hy (by first | omega | (simp only [List.length_append, List.length_cons, List.length_nil] at *; omega)) h) (fun v32 W32 hO32 => ?_)
    refine yB ?_; refine zq ?_; refine yA ?_; refine zf fa46_0 rfl ?_; refine zl z5 rfl (fun _ h => zc 1 rfl rfl h) ?_; refine w_r (fun _ => R_eq rfl rfl) rfl rfl ?_; refine yB ?_; refine zD rfl (fun h33 => ?_) (fun h33 => ?_)
    · rw [if_pos (by omega)] at heq; have hl := congrArg List.length heq; simp only [List.length_append, List.length_cons, List.length_nil] at hl
      refine zr ?_; refine zm rfl ?_; refine w_pen (A := [_, _, _]) (Lr := Lr) (([[91]] ++ rowT (exsT sz) ++ [[93]])) (fun w => R_callv rfl Tryz.func79 rfl rfl) rfl rfl hO32 (fun w h => declC_spec t2b t3b _ at_ nm sz lo up ini sa sc la lc ua uc ia ic N y p _ _ w _ (by omega) (by omega) hf.2.2.1 hsz hn hy (.tail _ (.tail _ (.head _))) (.tail _ (.head _)) (by first | omega | (simp only [List.length_append, List.length_cons, List.length_nil] at *; omega)) h) (fun v34 W34 hO34 => ?_)
      refine yC ?_; refine zl z88 rfl (fun _ h => zc 2 rfl rfl h) ?_; refine zf fa46_2 rfl ?_; refine zl z9 rfl (fun _ h => zc 1 rfl rfl h) ?_; refine zS slt56 (by decide) rfl rfl (fun b35 gb35 ub35 => ?_)
      refine w_pen (A := [_, _, _, _]) (Lr := Lr) ([nm]) (fun w => zR Tryz.func40 rfl rfl rfl) rfl rfl hO34 (fun w h => put_spec p _ _ w _ b35 ([nm]) (Nat.succ_pos _) (by first | omega | (simp only [List.length_append, List.length_cons, List.length_nil] at *; omega)) (.head _) h) (fun v36 W36 hO36 => ?_)
      refine yB ?_; refine zq ?_; refine yA ?_; refine zf fa46_6 rfl ?_; refine zl z37 rfl (fun _ h => zc 2 rfl rfl h) ?_; refine w_r (fun _ => R_len sl37 rfl) rfl rfl ?_; refine mI rfl ?_; refine yB ?_; refine zB ?_; refine c_st (B' := Bs) (L' := (t3b, cel [.int .u8 (ty : Nat), .int .i64 at_, str nm, .slice sa sz.length sc, .slice la lo.length lc, .slice ua up.length uc, .slice ia ini.length ic] 46) :: (t2b, cel [.pointer (some ⟨p, 0, none⟩)] 88) :: _) (fun w h => h.drop (List.sublist_append_right [_, _] _)) ?_
      refine c_loop (fun m e B L => ∃ (k : Nat) (v : Value) (W : Heap), e 0 = .pointer (some ⟨p, 0, none⟩) ∧ e 2 = .pointer (some ⟨t2b, 0, none⟩) ∧ e 3 = .pointer (some ⟨t3b, 0, none⟩) ∧ e 37 = .slice ia ini.length ic ∧ e 38 = .int .i64 (ini.length : Nat) ∧ e 39 = .int .i64 (k : Nat) ∧ Bs = B ∧ L = (t3b, cel [.int .u8 (ty : Nat), .int .i64 at_, str nm, .slice sa sz.length sc, .slice la lo.length lc, .slice ua up.length uc, .slice ia ini.length ic] 46) :: (t2b, cel [.pointer (some ⟨p, 0, none⟩)] 88) :: (p, cel [v] 90) :: (W ++ Lr) ∧ k ≤ ini.length ∧ OwnT v (xs ++ dheadT d0 ++ ldT [[61]] (ini.take k)) W ∧ m = ini.length - k) _ ⟨0, _, _, rfl, rfl, rfl, rfl, rfl, rfl, rfl, rfl, Nat.zero_le _, OwnS.eq hO36 (by rw [heq]; simp [ldT]), rfl⟩ ?_
      rintro m e B L ⟨k, v, W, e0_3, e2_3, e3_3, e37_3, e38_3, e39_3, rfl, rfl, hk, hO, rfl⟩
      refine yA ?_; refine w_r (fun _ => R_lt e39_3 e38_3) rfl rfl ?_; refine yB ?_; refine zq ?_; refine zD rfl (fun h37 => ?_) (fun h37 => ?_)
      · have hlt : k < ini.length := (by omega); obtain ⟨x1, hxk⟩ : ∃ x, ini[k]? = some x := ⟨_, List.getElem?_eq_getElem hlt⟩; obtain ⟨cs1, hA, hE⟩ := hini.get0 hxk; have hxn := exsW_mem (List.mem_of_getElem? hxk); have hxo := penOk_of (exsOk_get hf.2.2.2.2.2 hxk); have hle := ldT_le [[61]] ini (k + 1); have hnx := ldT_next (pre := [[61]]) hxk; have hnl := congrArg List.length hnx; simp only [List.length_append] at hnl; have hpl : List.length [[61]] = 1 := rfl; obtain ⟨b1, o1, rfl⟩ := hA.ptr; obtain ⟨op1, at1, nm1, ks1⟩ := x1; have hE2 := hE; unfold exM at hE2; obtain ⟨ka1, kc1, rfl, hkc1, hks1⟩ := hE2
        refine zi ?_; refine zk ?_; refine zq ?_; refine zB ?_; refine yA ?_; refine w_r (fun _ => R_iaN (i := k) sl37 e37_3 e39_3 (by first | omega | decide)) rfl rfl ?_; refine w_loadC (l := [.int .u8 (op1 : Nat), .int .i64 at1, str nm1, .slice ka1 ks1.length kc1]) z39 rfl rfl (fun w h j v hj => hA.cell hn hy h j v hj) ?_; refine w_alloc zr39 (fun t6b gt6b ut6b => ?_)
        refine w_store 0 rfl z39 rfl rfl rfl rfl rfl rfl rfl ?_; refine yC ?_; refine zl z88 e2_3 (fun _ h => zc 2 rfl rfl h) ?_; refine zS slt56 (by decide) rfl rfl (fun b39 gb39 ub39 => ?_)
        refine w_pen (A := [_, _, _, _]) (Lr := Lr) ([[61]]) (fun w => zR Tryz.func40 rfl rfl rfl) rfl rfl hO (fun w h => put_spec p _ _ w _ b39 ([[61]]) (Nat.succ_pos _) (by first | omega | (simp only [List.length_append, List.length_cons, List.length_nil] at *; omega)) (.head _) h) (fun v40 W40 hO40 => ?_)
        refine yB ?_; refine zr ?_; refine zl z88 e2_3 (fun _ h => zc 3 rfl rfl h) ?_; refine w_loadA z39 rfl (fun _ h => h.at_ 1 rfl) rfl ?_; refine w_pen (A := [_, _, _, _]) (Lr := Lr) (exT (Ex.mk op1 at1 nm1 ks1)) (fun w => zR Tryz.func55 rfl rfl rfl) rfl rfl hO40 (fun w h => pexpr_ok _ _ N y p _ _ w _ (by omega) hxo hE hn hy (by first | omega | (simp only [List.length_append, List.length_cons, List.length_nil] at *; omega)) h) (fun v41 W41 hO41 => ?_)
        refine zn ?_; refine b_on (zk ?_); refine zr ?_; refine w_r (fun _ => R_addi e39_3 rfl (by omega)) rfl rfl ?_; refine mI rfl ?_; refine zn ?_; refine k_st (B' := Bs) (L' := _) (fun w h => h.drop (List.sublist_append_right [_, _] _)) ?_; exact k_again _ (by omega) ⟨k + 1, _, _, e0_3, e2_3, e3_3, e37_3, e38_3, rfl, rfl, rfl, by omega, OwnS.eq hO41 (by rw [hnx]; simp), rfl⟩
      · have hle := ldT_le [[61]] ini k
        refine c_exit ?_; refine zx (zx (b_here rfl (zk ?_))); refine zr ?_; refine zl z88 e2_3 (fun _ h => zc 1 rfl rfl h) ?_; refine zS slt56 (by decide) rfl rfl (fun b42 gb42 ub42 => ?_)
        refine w_pen (A := [_, _, _]) (Lr := Lr) ([[59]]) (fun w => zR Tryz.func40 rfl rfl rfl) rfl rfl hO (fun w h => put_spec p _ _ w _ b42 ([[59]]) (Nat.succ_pos _) (by first | omega | (simp only [List.length_append, List.length_cons, List.length_nil] at *; omega)) (.head _) h) (fun v43 W43 hO43 => ?_)
        refine zn ?_; refine r_none (.inr rfl) rfl ?_; exact fun w' hw => ⟨rfl, PenAt.fin (A := [_, _, _]) hO43 (by rw [List.take_of_length_le (by omega)]; simp) hw⟩
    · rw [if_neg (by omega)] at heq; have hl := congrArg List.length heq; simp only [List.length_append, List.length_cons, List.length_nil] at hl
      refine zi ?_; refine zk ?_; refine yA ?_; refine zl z88 rfl (fun _ h => zc 2 rfl rfl h) ?_; refine zf fa46_2 rfl ?_; refine zl z9 rfl (fun _ h => zc 1 rfl rfl h) ?_; refine zS slt56 (by decide) rfl rfl (fun b44 gb44 ub44 => ?_)
      refine w_pen (A := [_, _, _, _]) (Lr := Lr) ([nm]) (fun w => zR Tryz.func40 rfl rfl rfl) rfl rfl hO32 (fun w h => put_spec p _ _ w _ b44 ([nm]) (Nat.succ_pos _) (by first | omega | (simp only [List.length_append, List.length_cons, List.length_nil] at *; omega)) (.head _) h) (fun v45 W45 hO45 => ?_)
      refine yB ?_; refine zq ?_; refine yA ?_; refine zf fa46_6 rfl ?_; refine zl z37 rfl (fun _ h => zc 2 rfl rfl h) ?_; refine w_r (fun _ => R_len sl37 rfl) rfl rfl ?_; refine mI rfl ?_; refine yB ?_; refine zB ?_; refine c_st (B' := Bs) (L' := (t3b, cel [.int .u8 (ty : Nat), .int .i64 at_, str nm, .slice sa sz.length sc, .slice la lo.length lc, .slice ua up.length uc, .slice ia ini.length ic] 46) :: (t2b, cel [.pointer (some ⟨p, 0, none⟩)] 88) :: _) (fun w h => h.drop (List.sublist_append_right [_, _] _)) ?_
      refine c_loop (fun m e B L => ∃ (k : Nat) (v : Value) (W : Heap), e 0 = .pointer (some ⟨p, 0, none⟩) ∧ e 2 = .pointer (some ⟨t2b, 0, none⟩) ∧ e 3 = .pointer (some ⟨t3b, 0, none⟩) ∧ e 37 = .slice ia ini.length ic ∧ e 38 = .int .i64 (ini.length : Nat) ∧ e 39 = .int .i64 (k : Nat) ∧ Bs = B ∧ L = (t3b, cel [.int .u8 (ty : Nat), .int .i64 at_, str nm, .slice sa sz.length sc, .slice la lo.length lc, .slice ua up.length uc, .slice ia ini.length ic] 46) :: (t2b, cel [.pointer (some ⟨p, 0, none⟩)] 88) :: (p, cel [v] 90) :: (W ++ Lr) ∧ k ≤ ini.length ∧ OwnT v (xs ++ dheadT d0 ++ ldT [[61]] (ini.take k)) W ∧ m = ini.length - k) _ ⟨0, _, _, rfl, rfl, rfl, rfl, rfl, rfl, rfl, rfl, Nat.zero_le _, OwnS.eq hO45 (by rw [heq]; simp [ldT]), rfl⟩ ?_
      rintro m e B L ⟨k, v, W, e0_4, e2_4, e3_4, e37_4, e38_4, e39_4, rfl, rfl, hk, hO, rfl⟩
      refine yA ?_; refine w_r (fun _ => R_lt e39_4 e38_4) rfl rfl ?_; refine yB ?_; refine zq ?_; refine zD rfl (fun h46 => ?_) (fun h46 => ?_)
      · have hlt : k < ini.length := (by omega); obtain ⟨x1, hxk⟩ : ∃ x, ini[k]? = some x := ⟨_, List.getElem?_eq_getElem hlt⟩; obtain ⟨cs1, hA, hE⟩ := hini.get0 hxk; have hxn := exsW_mem (List.mem_of_getElem? hxk); have hxo := penOk_of (exsOk_get hf.2.2.2.2.2 hxk); have hle := ldT_le [[61]] ini (k + 1); have hnx := ldT_next (pre := [[61]]) hxk; have hnl := congrArg List.length hnx; simp only [List.length_append] at hnl; have hpl : List.length [[61]] = 1 := rfl; obtain ⟨b1, o1, rfl⟩ := hA.ptr; obtain ⟨op1, at1, nm1, ks1⟩ := x1; have hE2 := hE; unfold exM at hE2; obtain ⟨ka1, kc1, rfl, hkc1, hks1⟩ := hE2
        refine zi ?_; refine zk ?_; refine zq ?_; refine zB ?_; refine yA ?_; refine w_r (fun _ => R_iaN (i := k) sl37 e37_4 e39_4 (by first | omega | decide)) rfl rfl ?_; refine w_loadC (l := [.int .u8 (op1 : Nat), .int .i64 at1, str nm1, .slice ka1 ks1.length kc1]) z39 rfl rfl (fun w h j v hj => hA.cell hn hy h j v hj) ?_; refine w_alloc zr39 (fun t6b gt6b ut6b => ?_)
        refine w_store 0 rfl z39 rfl rfl rfl rfl rfl rfl rfl ?_; refine yC ?_; refine zl z88 e2_4 (fun _ h => zc 2 rfl rfl h) ?_; refine zS slt56 (by decide) rfl rfl (fun b48 gb48 ub48 => ?_)
        refine w_pen (A := [_, _, _, _]) (Lr := Lr) ([[61]]) (fun w => zR Tryz.func40 rfl rfl rfl) rfl rfl hO (fun w h => put_spec p _ _ w _ b48 ([[61]]) (Nat.succ_pos _) (by first | omega | (simp only [List.length_append, List.length_cons, List.length_nil] at *; omega)) (.head _) h) (fun v49 W49 hO49 => ?_)
        refine yB ?_; refine zr ?_; refine zl z88 e2_4 (fun _ h => zc 3 rfl rfl h) ?_; refine w_loadA z39 rfl (fun _ h => h.at_ 1 rfl) rfl ?_; refine w_pen (A := [_, _, _, _]) (Lr := Lr) (exT (Ex.mk op1 at1 nm1 ks1)) (fun w => zR Tryz.func55 rfl rfl rfl) rfl rfl hO49 (fun w h => pexpr_ok _ _ N y p _ _ w _ (by omega) hxo hE hn hy (by first | omega | (simp only [List.length_append, List.length_cons, List.length_nil] at *; omega)) h) (fun v50 W50 hO50 => ?_)
        refine zn ?_; refine b_on (zk ?_); refine zr ?_; refine w_r (fun _ => R_addi e39_4 rfl (by omega)) rfl rfl ?_; refine mI rfl ?_; refine zn ?_; refine k_st (B' := Bs) (L' := _) (fun w h => h.drop (List.sublist_append_right [_, _] _)) ?_; exact k_again _ (by omega) ⟨k + 1, _, _, e0_4, e2_4, e3_4, e37_4, e38_4, rfl, rfl, rfl, by omega, OwnS.eq hO50 (by rw [hnx]; simp), rfl⟩
      · have hle := ldT_le [[61]] ini k
        refine c_exit ?_; refine zx (zx (b_here rfl (zk ?_))); refine zr ?_; refine zl z88 e2_4 (fun _ h => zc 1 rfl rfl h) ?_; refine zS slt56 (by decide) rfl rfl (fun b51 gb51 ub51 => ?_)
        refine w_pen (A := [_, _, _]) (Lr := Lr) ([[59]]) (fun w => zR Tryz.func40 rfl rfl rfl) rfl rfl hO (fun w h => put_spec p _ _ w _ b51 ([[59]]) (Nat.succ_pos _) (by first | omega | (simp only [List.length_append, List.length_cons, List.length_nil] at *; omega)) (.head _) h) (fun v52 W52 hO52 => ?_)
        refine zn ?_; refine r_none (.inr rfl) rfl ?_; exact fun w' hw => ⟨rfl, PenAt.fin (A := [_, _, _]) hO52 (by rw [List.take_of_length_le (by omega)]; simp) hw⟩
end Go.Proofs.YtaniogadknakoaaGreatDoor
end

section
namespace Go.Proofs.YtaniogadknakoaaGreatDoor
open Go.RowKit Go.Sx
open Go.Tok Go.Tree
abbrev Bld := BldAt 5 122
abbrev BldT := BldO 5

set_option maxRecDepth 100000 in
set_option maxHeartbeats 400000 in
theorem copyN_spec (p : Nat) (Bs : Base) (Lr : Heap) (w : World) (v : Value) (hs : St Bs ((p, cel [.pointer none, v] 122) :: Lr) w) :
  Ret Tryz.prog 120 #[.pointer (some ⟨p, 0, none⟩)] w (fun u w' => u = .tuple #[] ∧ St Bs ((p, cel [.pointer (some ⟨p, 0, none⟩), v] 122) :: Lr) w') := by
 refine enterB (l := [_]) 20 Tryz.func120 rfl rfl rfl (hs) ?_; refine yA ?_; refine mP rfl ?_; refine w_nilc rfl ?_; refine zf fa122_0 rfl ?_; refine zl z120 rfl (fun _ h => zc 0 rfl rfl h) ?_; refine w_r (fun _ => R_peqN up120 rfl rfl) rfl rfl ?_; refine yB ?_; refine zE rfl ?_; refine zr ?_; refine mP rfl ?_; refine mP rfl ?_; refine w_toU 0 rfl (Nat.succ_pos _) up120 up179 ibz122 rfl ?_; refine w_r (fun _ => R_noEsc (fn := Tryz.f146) rfl (by kernel_rfl) (by kernel_rfl) (by kernel_rfl) (by kernel_rfl) rfl rfl) rfl rfl ?_; refine w_fromU 0 rfl up179 up120 isz122 lie122 rfl ?_; refine w_nilc rfl ?_; refine zf fa122_0 rfl ?_; refine w_store 0 rfl z120 rfl rfl rfl rfl rfl rfl rfl ?_; refine zn ?_; refine r_none (.inr rfl) rfl ?_
 exact fun w' hw => ⟨rfl, hw⟩

set_option maxRecDepth 100000 in
set_option maxHeartbeats 400000 in
theorem copyS_spec (p : Nat) (Bs : Base) (Lr : Heap) (w : World) (v : Value) (hs : St Bs ((p, cel [.pointer (some ⟨p, 0, none⟩), v] 122) :: Lr) w) :
  Ret Tryz.prog 120 #[.pointer (some ⟨p, 0, none⟩)] w (fun u w' => u = .tuple #[] ∧ St Bs ((p, cel [.pointer (some ⟨p, 0, none⟩), v] 122) :: Lr) w') := by
 refine enterB (l := [_]) 20 Tryz.func120 rfl rfl rfl (hs) ?_; refine yA ?_; refine mP rfl ?_; refine w_nilc rfl ?_; refine zf fa122_0 rfl ?_; refine zl z120 rfl (fun _ h => zc 0 rfl rfl h) ?_; refine w_r (fun _ => R_peqS up120 rfl rfl) rfl rfl ?_; refine yB ?_; refine c_condF rfl ?_; refine yA ?_; refine mP rfl ?_; refine w_nilc rfl ?_; refine zf fa122_0 rfl ?_; refine zl z120 rfl (fun _ h => zc 0 rfl rfl h) ?_; refine mP rfl ?_; refine w_r (fun _ => R_pneS up120 isz122 rfl rfl) rfl rfl ?_; refine yB ?_; refine c_condF rfl ?_; refine zi ?_; refine r_none (.inr rfl) rfl ?_; exact fun w' hw => ⟨rfl, hw⟩


theorem copy_spec (p : Nat) (Bs : Base) (Lr : Heap) (w : World) (a : Option Addr) (v : Value) (ha : a = none ∨ a = some (⟨p, 0, none⟩ : Addr)) (hs : St Bs ((p, cel [.pointer a, v] 122) :: Lr) w) : Ret Tryz.prog 120 #[.pointer (some ⟨p, 0, none⟩)] w fun u w' => u = .tuple #[] ∧ St Bs ((p, cel [.pointer (some ⟨p, 0, none⟩), v] 122) :: Lr) w' := by
 rcases ha with rfl | rfl
 ·exact copyN_spec p Bs Lr w v hs
 ·exact copyS_spec p Bs Lr w v hs

set_option maxRecDepth 100000 in
set_option maxHeartbeats 400000 in
theorem writeS_spec (p : Nat) (Bs : Base) (Lr : Heap) (w : World) (s : Str) (t : Str) (hb : s.length + t.length ≤ 1000000000) (hP : Bld p s Bs Lr w) :
  Ret Tryz.prog 83 #[.pointer (some ⟨p, 0, none⟩), str t] w (fun u w' => u = .tuple #[.int .i64 (t.length : Nat), .nilIface] ∧ Bld p (s ++ t) Bs Lr w') := by
 obtain ⟨a, v, W, hO, hs⟩ := hP
 refine enterB (l := [_, _]) 19 Tryz.func83 rfl rfl rfl (hs) ?_; refine yA ?_; refine aI rfl ?_; refine za rfl ?_; refine yC ?_; refine mP rfl ?_; refine w_ck (fun w => zR Tryz.func120 rfl rfl rfl) rfl rfl (fun w h => copy_spec p Bs _ w a v hO.ad h) ?_; refine yC ?_; refine mP rfl ?_; refine mP rfl ?_; refine w_nilc rfl ?_; refine zf fa122_1 rfl ?_; refine zl z55 rfl (fun _ h => zc 0 rfl rfl h) ?_; refine zm (v := str _) rfl ?_; refine w_appS [(p, _)] (L := Lr) slt55 unS9 rfl hO.own rfl hO.nz hb (fun v2 W2 hO2 hz2 => ?_)
 obtain ⟨a2, c2, rfl⟩ := hO2.slice
 refine w_nilc rfl ?_; refine zf fa122_1 rfl ?_; refine w_store 0 rfl z55 rfl rfl rfl rfl rfl rfl rfl ?_; refine yC ?_; refine zm (v := str _) rfl ?_; refine w_r (fun _ => R_slen st9 rfl (by omega)) rfl rfl ?_; refine aI rfl ?_; refine za rfl ?_; refine yB ?_; refine ze ?_; refine r_two (v := .int _ _) rfl rfl rfl rfl rfl ?_; exact fun w' hw => ⟨rfl, _, _, W2, ⟨.inr rfl, by rw [Lib.byteCells_append, List.length_append]; exact hO2, hz2⟩, hw⟩

set_option maxRecDepth 100000 in
set_option maxHeartbeats 400000 in
theorem writeB_spec (p : Nat) (Bs : Base) (Lr : Heap) (w : World) (s : Str) (c : UInt8) (hb : s.length + 1 ≤ 1000000000) (hP : Bld p s Bs Lr w) :
  Ret Tryz.prog 84 #[.pointer (some ⟨p, 0, none⟩), .int .u8 (c.toNat : Nat)] w (fun u w' => u = .nilIface ∧ Bld p (s ++ [c]) Bs Lr w') := by
 obtain ⟨a, v, W, hO, hs⟩ := hP
 refine enterB (l := [_, _]) 17 Tryz.func84 rfl rfl rfl (hs) ?_; refine yA ?_; refine za rfl ?_; refine yC ?_; refine mP rfl ?_; refine w_ck (fun w => zR Tryz.func120 rfl rfl rfl) rfl rfl (fun w h => copy_spec p Bs _ w a v hO.ad h) ?_; refine yC ?_; refine mP rfl ?_; refine mP rfl ?_; refine w_nilc rfl ?_; refine zf fa122_1 rfl ?_; refine zl z55 rfl (fun _ h => zc 0 rfl rfl h) ?_; refine mI rfl ?_; refine zS slt55 (by decide) rfl rfl (fun b1 gb1 ub1 => ?_)
 refine w_app [(b1, _), (p, _)] (W := W) (L := Lr) (news := [.int .u8 (c.toNat : Nat)]) slt55 (by decide) rfl hO.own rfl rfl (fun w h j u hu => by rw [Nat.zero_add]; exact zc 0 rfl hu h) rfl (by decide) (by omega) (by omega) (fun v2 W2 hO2 => ?_)
 obtain ⟨a2, c2, rfl⟩ := hO2.slice
 refine w_nilc rfl ?_; refine zf fa122_1 rfl ?_; refine w_store 1 rfl z55 rfl rfl rfl rfl rfl rfl rfl ?_; refine yC ?_; refine za rfl ?_; refine yB ?_; refine ze ?_; refine zo rfl rfl rfl ?_; exact fun w' hw => ⟨rfl, _, _, W2, ⟨.inr rfl, by rw [Lib.byteCells_append, List.length_append]; exact hO2, hO2.nz (Nat.succ_pos _)⟩, hw.drop (List.sublist_cons_self _ _)⟩

set_option maxRecDepth 100000 in
set_option maxHeartbeats 400000 in
theorem string_spec (p : Nat) (Bs : Base) (Lr : Heap) (w : World) (s : Str) (hb : s.length ≤ 1000000000) (hP : Bld p s Bs Lr w) :
  Ret Tryz.prog 85 #[.pointer (some ⟨p, 0, none⟩)] w (fun u w' => u = str s ∧ St Bs Lr w') := by
 obtain ⟨a, v, W, hO, hs⟩ := hP
 obtain ⟨va, vc, rfl⟩ := hO.own.slice
 refine enterB (l := [_]) 14 Tryz.func85 rfl rfl rfl (hs) ?_; refine yA ?_; refine za (v := str _) rfl ?_; refine yB ?_; refine zq ?_; refine c_held (St Bs [(p, cel [.pointer a, .slice va s.length vc] 122)]) mixed ?_; refine zh 0 rfl (by kernel_rfl) rfl rfl (fun w h => h.drop (.cons_cons _ (List.nil_sublist _))) (fun w h => R_move rfl) ?_; refine zh 1 rfl (by kernel_rfl) rfl rfl (fun w h => h.drop (.cons_cons _ (List.nil_sublist _))) (fun w h => R_nil rfl) ?_; refine zh 2 rfl (by kernel_rfl) rfl rfl (fun w h => h.drop (.cons_cons _ (List.nil_sublist _))) (fun w h => R_fa fa122_1 rfl) ?_; refine zh 3 rfl (by kernel_rfl) rfl rfl (fun w h => h.drop (.cons_cons _ (List.nil_sublist _))) (fun w h => R_ld1 z55 rfl (zc 0 rfl rfl h)) ?_
 refine zh 5 rfl (by kernel_rfl) rfl rfl (fun w h => h.drop (.cons_cons _ (List.nil_sublist _))) (fun w h => R_move rfl) ?_; refine zh 6 rfl (by kernel_rfl) rfl rfl (fun w h => h.drop (.cons_cons _ (List.nil_sublist _))) (fun w h => R_nil rfl) ?_; refine zh 7 rfl (by kernel_rfl) rfl rfl (fun w h => h.drop (.cons_cons _ (List.nil_sublist _))) (fun w h => R_fa fa122_1 rfl) ?_; refine zh 8 rfl (by kernel_rfl) rfl rfl (fun w h => h.drop (.cons_cons _ (List.nil_sublist _))) (fun w h => R_ld1 z55 rfl (zc 0 rfl rfl h)) ?_; refine zh 9 rfl (by kernel_rfl) rfl rfl (fun w h => h.drop (.cons_cons _ (List.nil_sublist _))) (fun w h => R_len sl55 rfl) ?_; refine h_sliceData 4 rfl (by kernel_rfl) (fun w h => h.drop (.cons_cons _ (List.nil_sublist _))) rfl hO.nz ?_
 refine h_unsafeStr (A := [(p, _)]) (W := W) (L := Lr) 10 rfl (by kernel_rfl) (fun w h => h.drop (.cons_cons _ (List.nil_sublist _))) up153 co5 hO.own hb rfl rfl ?_; refine zh 11 rfl (by kernel_rfl) rfl rfl (fun w h => h.drop (.cons_cons _ (List.nil_sublist _))) (fun w h => R_assign rfl) ?_; refine h_done (by kernel_rfl) (fun w h => h.drop (.cons_cons _ (List.nil_sublist _))) ?_; refine zk ?_; refine ze ?_; refine zo (v := str _) rfl rfl rfl ?_; exact fun w' hw => ⟨rfl, hw.drop (List.sublist_cons_self _ _)⟩

set_option maxRecDepth 100000 in
set_option maxHeartbeats 1000000 in
theorem text_spec (p : Nat) (Bs : Base) (Lr : Heap) (w : World) (xs : List Str) (hl : xs.length ≤ 1000000000) (hb : (textT xs).length ≤ 1000000000) (hP : Pen p xs Bs Lr w) :
  Ret Tryz.prog 44 #[.pointer (some ⟨p, 0, none⟩)] w (fun u w' => u = str (textT xs) ∧ St Bs Lr w') := by
 obtain ⟨v, W, hO, hs⟩ := hP
 obtain ⟨pa, pc, rfl⟩ := hO.slice
 refine enterB (l := [_]) 42 Tryz.func44 rfl rfl rfl (hs) ?_; refine yA ?_; refine za (v := str _) rfl ?_; refine yC ?_; refine w_alloc zr122 (fun t3b gt3b ut3b => ?_)
 refine yB ?_; refine zq ?_; refine yA ?_; refine mP rfl ?_; refine w_nilc rfl ?_; refine zf fa90_0 rfl ?_; refine zl z56 rfl (fun _ h => by first | exact zc 0 rfl rfl h | exact zc 1 rfl rfl h | exact zM (cs := [.slice _ xs.length pc]) (T := 90) (.tail _ (List.mem_append_right _ (.head _))) rfl h) ?_; refine w_r (fun _ => R_len sl56 rfl) rfl rfl ?_; refine mI rfl ?_; refine yB ?_; refine zB ?_
 refine c_loop (fun m e B L => ∃ (k : Nat) (a : Option Addr) (v : Value) (W2 : Heap), e 0 = .pointer (some ⟨p, 0, none⟩) ∧ e 3 = .pointer (some ⟨t3b, 0, none⟩) ∧ e 9 = .slice pa xs.length pc ∧ e 10 = .int .i64 (xs.length : Nat) ∧ e 11 = .int .i64 (k : Nat) ∧ Bs = B ∧ L = (t3b, cel [.pointer a, v] 122) :: (W2 ++ ((p, cel [.slice pa xs.length pc] 90) :: (W ++ Lr))) ∧ k ≤ xs.length ∧ BldT t3b a v (textTo xs k) W2 ∧ m = xs.length - k) _ ⟨0, none, _, [], rfl, rfl, rfl, rfl, rfl, rfl, rfl, Nat.zero_le _, BldO.eq (BldO.nil _ _) (textTo_zero xs).symm, rfl⟩ ?_
 rintro m e B L ⟨k, a, v, W2, e0_1, e3_1, e9_1, e10_1, e11_1, rfl, rfl, hk, hO2, rfl⟩
 refine yA ?_; refine w_r (fun _ => R_lt e11_1 e10_1) rfl rfl ?_; refine yB ?_; refine zq ?_; refine zD rfl (fun h2 => ?_) (fun h2 => ?_)
 ·have hlt : k < xs.length := (by omega); obtain ⟨x, hxk⟩ : ∃ x, xs[k]? = some x := ⟨_, List.getElem?_eq_getElem hlt⟩; obtain ⟨pb, psp, rfl, _, rfl⟩ := hO.row (by omega); have hnx := textTo_next hxk; have hle := textTo_le_all (xs := xs) (k := k + 1) (by omega); have hnl := congrArg List.length hnx; simp only [List.length_append] at hnl; have hget : (xs.map str ++ psp)[k]? = some (str x) := (by rw [List.getElem?_append_left (by simpa using hlt)]; simp [hxk])
  refine zi ?_; refine zk ?_; refine zq ?_; refine zB ?_; refine yA ?_; refine mI e11_1 ?_; refine w_r (fun _ => R_iaN (i := k) sl56 e9_1 e11_1 hlt) rfl rfl ?_; refine zl (v := str x) z9 rfl (fun w h => zM (b := pb) (cs := xs.map str ++ psp) (T := 9) (by simp) (by rw [Nat.zero_add, Nat.mul_one]; exact hget) h) ?_; refine aI rfl ?_; refine za (v := str _) rfl ?_; refine yC ?_; refine zm (v := str _) rfl ?_
  refine w_bld (textTo xs k ++ x) (.tuple #[.int .i64 (x.length : Nat), .nilIface]) (fun w => RunE.to (zR Tryz.func83 rfl rfl rfl) (congrArg (fun z => #[z, str x]) e3_1)) rfl rfl hO2 (fun w h => writeS_spec t3b Bs _ w _ x (by first | omega | (simp only [List.length_append, List.length_cons, List.length_nil] at *; omega)) h) (fun a3 v3 W3 hO3 => ?_)
  refine yB ?_; refine zB ?_; refine yA ?_; refine zm (v := str _) rfl ?_; refine w_r (fun _ => R_seq rfl rfl) rfl rfl ?_; refine mB rfl ?_; refine zd (t := 21) rfl (fun h4 => ?_) (fun h4 => ?_)
  ·have he : endT xs.length k x = [10] := (by simp [endT, brk, h4]); rw [he] at hnx; have hnl := congrArg List.length hnx; simp only [List.length_append, List.length_cons, List.length_nil] at hnl
   refine zs rfl rfl (bT h4) ?_; refine zs rfl rfl (bT h4) ?_; refine w_r (v := .bool _) (fun _ => zT (bT h4) rfl) rfl rfl ?_; refine mB rfl ?_; (iterate 2 refine zs rfl rfl rfl ?_); refine w_r (v := .bool _) (fun _ => zT rfl rfl) rfl rfl ?_; refine aB rfl ?_; refine yB ?_; refine zE rfl ?_; refine zr ?_; refine w_bld (textTo xs k ++ x ++ [10]) (.nilIface) (fun w => RunE.to (zR Tryz.func84 rfl rfl rfl) (congrArg (fun z => #[z, Value.int .u8 10]) e3_1)) rfl rfl hO3 (fun w h => writeB_spec t3b Bs _ w _ 10 (by first | omega | (simp only [List.length_append, List.length_cons, List.length_nil] at *; omega)) h) (fun a5 v5 W5 hO5 => ?_)
   refine zn ?_; refine b_on (b_on (zk ?_)); refine zr ?_; refine w_r (fun _ => R_addi e11_1 rfl (by omega)) rfl rfl ?_; refine mI rfl ?_; refine zn ?_; exact k_again _ (by omega) ⟨k + 1, _, _, _, e0_1, e3_1, e9_1, e10_1, rfl, rfl, rfl, by omega, BldO.eq hO5 (by rw [hnx]; simp), rfl⟩
  ·refine zw rfl rfl (bF h4) ?_; refine zm (v := str _) rfl ?_; refine zw rfl rfl (bF h4) ?_; refine w_r (fun _ => R_seq rfl rfl) rfl rfl ?_; refine w_r (v := .bool _) (fun _ => zF (bF h4) rfl) rfl rfl ?_; refine mB rfl ?_; refine zd (t := 25) rfl (fun h6 => ?_) (fun h6 => ?_)
   ·have he : endT xs.length k x = [10] := (by simp [endT, brk, h6]); rw [he] at hnx; have hnl := congrArg List.length hnx; simp only [List.length_append, List.length_cons, List.length_nil] at hnl
    refine zs rfl rfl (bT h6) ?_; refine zs rfl rfl (bT h6) ?_; refine w_r (v := .bool _) (fun _ => zT (bT h6) rfl) rfl rfl ?_; refine aB rfl ?_; refine yB ?_; refine zE rfl ?_; refine zr ?_; refine w_bld (textTo xs k ++ x ++ [10]) (.nilIface) (fun w => RunE.to (zR Tryz.func84 rfl rfl rfl) (congrArg (fun z => #[z, Value.int .u8 10]) e3_1)) rfl rfl hO3 (fun w h => writeB_spec t3b Bs _ w _ 10 (by first | omega | (simp only [List.length_append, List.length_cons, List.length_nil] at *; omega)) h) (fun a7 v7 W7 hO7 => ?_)
    refine zn ?_; refine b_on (b_on (zk ?_)); refine zr ?_; refine w_r (fun _ => R_addi e11_1 rfl (by omega)) rfl rfl ?_; refine mI rfl ?_; refine zn ?_; exact k_again _ (by omega) ⟨k + 1, _, _, _, e0_1, e3_1, e9_1, e10_1, rfl, rfl, rfl, by omega, BldO.eq hO7 (by rw [hnx]; simp), rfl⟩
   ·refine zw rfl rfl (bF h6) ?_; refine zm (v := str _) rfl ?_; refine zw rfl rfl (bF h6) ?_; refine w_r (fun _ => R_seq rfl rfl) rfl rfl ?_; refine w_r (v := .bool _) (fun _ => zF (bF h6) rfl) rfl rfl ?_; refine aB rfl ?_; refine yB ?_; refine zD rfl (fun h8 => ?_) (fun h8 => ?_)
    ·have he : endT xs.length k x = [10] := (by simp [endT, brk, h8]); rw [he] at hnx; have hnl := congrArg List.length hnx; simp only [List.length_append, List.length_cons, List.length_nil] at hnl
     refine zr ?_; refine w_bld (textTo xs k ++ x ++ [10]) (.nilIface) (fun w => RunE.to (zR Tryz.func84 rfl rfl rfl) (congrArg (fun z => #[z, Value.int .u8 10]) e3_1)) rfl rfl hO3 (fun w h => writeB_spec t3b Bs _ w _ 10 (by first | omega | (simp only [List.length_append, List.length_cons, List.length_nil] at *; omega)) h) (fun a9 v9 W9 hO9 => ?_)
     refine zn ?_; refine b_on (b_on (zk ?_)); refine zr ?_; refine w_r (fun _ => R_addi e11_1 rfl (by omega)) rfl rfl ?_; refine mI rfl ?_; refine zn ?_; exact k_again _ (by omega) ⟨k + 1, _, _, _, e0_1, e3_1, e9_1, e10_1, rfl, rfl, rfl, by omega, BldO.eq hO9 (by rw [hnx]; simp), rfl⟩
    ·refine yA ?_; refine mI rfl ?_; refine w_r (fun _ => R_addi rfl rfl (by omega)) rfl rfl ?_; refine mP e0_1 ?_; refine w_nilc rfl ?_; refine zf fa90_0 rfl ?_; refine zl z56 rfl (fun _ h => by first | exact zc 0 rfl rfl h | exact zM (cs := [.slice _ xs.length pc]) (T := 90) (.tail _ (List.mem_append_right _ (.head _))) rfl h) ?_; refine w_r (fun _ => R_len sl56 rfl) rfl rfl ?_; refine w_r (fun _ => R_lt rfl rfl) rfl rfl ?_; refine aB rfl ?_; refine yB ?_; refine zD rfl (fun h10 => ?_) (fun h10 => ?_)
     ·have he : endT xs.length k x = [32] := (by unfold endT; rw [brk_no h4 h6 h8, if_neg Bool.false_ne_true, if_pos (show k + 1 < xs.length by omega)]); rw [he] at hnx; have hnl := congrArg List.length hnx; simp only [List.length_append, List.length_cons, List.length_nil] at hnl
      refine zr ?_; refine w_bld (textTo xs k ++ x ++ [32]) (.nilIface) (fun w => RunE.to (zR Tryz.func84 rfl rfl rfl) (congrArg (fun z => #[z, Value.int .u8 32]) e3_1)) rfl rfl hO3 (fun w h => writeB_spec t3b Bs _ w _ 32 (by first | omega | (simp only [List.length_append, List.length_cons, List.length_nil] at *; omega)) h) (fun a11 v11 W11 hO11 => ?_)
      refine zn ?_; refine b_on (b_on (zk ?_)); refine zr ?_; refine w_r (fun _ => R_addi e11_1 rfl (by omega)) rfl rfl ?_; refine mI rfl ?_; refine zn ?_; exact k_again _ (by omega) ⟨k + 1, _, _, _, e0_1, e3_1, e9_1, e10_1, rfl, rfl, rfl, by omega, BldO.eq hO11 (by rw [hnx]; simp), rfl⟩
     ·have he : endT xs.length k x = [] := (by unfold endT; rw [brk_no h4 h6 h8, if_neg Bool.false_ne_true, if_neg (show ¬ k + 1 < xs.length by omega)]); rw [he] at hnx; have hnl := congrArg List.length hnx; simp only [List.length_append, List.length_cons, List.length_nil] at hnl
      refine zi ?_; refine b_on (b_on (zk ?_)); refine zr ?_; refine w_r (fun _ => R_addi e11_1 rfl (by omega)) rfl rfl ?_; refine mI rfl ?_; refine zn ?_; exact k_again _ (by omega) ⟨k + 1, _, _, _, e0_1, e3_1, e9_1, e10_1, rfl, rfl, rfl, by omega, BldO.eq hO3 (by rw [hnx]; simp), rfl⟩
 ·obtain rfl : k = xs.length := (by omega)
  refine c_exit ?_; refine zx (zx (b_here rfl (zk ?_))); refine yA ?_; refine w_lets (L' := (p, cel [.slice pa xs.length pc] 90) :: (W ++ Lr)) (str (textT xs)) (fun w => RunE.to (zR Tryz.func85 rfl rfl rfl) (congrArg (fun z => #[z]) e3_1)) rfl rfl (fun w h => string_spec t3b Bs _ w (textTo xs xs.length) hb ⟨_, _, _, hO2, h⟩) ?_; refine za (v := str _) rfl ?_; refine yB ?_; refine ze ?_; refine zo (v := str _) rfl rfl rfl ?_; exact fun w' hw => ⟨rfl, hw.drop ((List.sublist_append_right _ _).trans (List.sublist_cons_self _ _))⟩
end Go.Proofs.YtaniogadknakoaaGreatDoor
end

section
namespace Go.Proofs.YtaniogadknakoaaGreatDoor
open Go.RowKit Go.Sx
open Go.Tok Go.Tree

set_option maxRecDepth 100000 in
set_option maxHeartbeats 400000 in
theorem WriteExpr_spec (x : Ex) (cs : List Value) (N : Nat → Prop) (w : World) (hx : exW x < 10000000) (hm : exM w N x cs) (hW : Wd w) (hl : (exT x).length ≤ 1000000000) (hb : (textT (exT x)).length ≤ 1000000000) :
  Ret Tryz.prog 22 #[.agg cs.toArray] w (fun v w' => v = .tuple #[str (if exOk x then textT (exT x) else []), .int .i64 (if exOk x then 0 else 120)] ∧ Ext w w') := by
 obtain ⟨op, at_, nm, ks⟩ := x
 have hm2 := hm
 unfold exM at hm2
 obtain ⟨ka, kc, rfl, hkc, hks⟩ := hm2
 have hx2 := hx
 unfold exW at hx2
 refine enter (S := No) (l := [_]) (L := []) 15 Tryz.func22 rfl rfl rfl (St.start w No) ?_; refine yA ?_; refine w_boxA rfl (fun t1b gt1b ut1b => ?_)
 refine za (v := str _) rfl ?_; refine aI rfl ?_; refine yB ?_; refine zq ?_; refine yA ?_; refine w_loadA z39 rfl (fun _ h => h.at_ 0 rfl) rfl ?_; refine zC (fun w => zR Tryz.func54 rfl rfl rfl) rfl rfl (fun w h => expr_ok _ _ N w hx (hm.now (fun _ _ hh => hh) (.head _) h) (hW.now (.head _) h)) ?_; refine w_r (fun _ => R_not rfl) rfl rfl ?_; refine yB ?_; refine c_condN rfl (fun h2 => ?_) (fun h2 => ?_)
 ·refine yA ?_; refine za (v := str _) rfl ?_; refine aI rfl ?_; refine yB ?_; refine ze ?_; refine zt (?_)
  refine r_two (v := str _) (v2 := .int _ _) rfl rfl rfl rfl rfl ?_; exact fun w' hw => ⟨by simp_all, hw.fr _ (.head _)⟩
 ·refine zi ?_; refine zk ?_; refine yA ?_; refine w_r (fun _ => R_build bt90 rfl) rfl rfl ?_; refine w_boxA rfl (fun p gp up => ?_)
  refine za (v := .pointer _) rfl ?_; refine yC ?_; refine mP rfl ?_; refine w_loadA z39 rfl (fun _ h => h.at_ 1 rfl) rfl ?_; refine w_st (B' := _) (L' := (p, cel [.slice none 0 0] 90) :: ([] ++ [(t1b, cel [.int .u8 (op : Nat), .int .i64 at_, str nm, .slice ka ks.length kc] 39)])) (fun w h => h) ?_; refine w_pen (A := []) (Lr := [(t1b, cel [.int .u8 (op : Nat), .int .i64 at_, str nm, .slice ka ks.length kc] 39)]) (exT (Ex.mk op at_ nm ks)) (fun w => zR Tryz.func55 rfl rfl rfl) rfl rfl (Own.nil _ 1 : OwnT (.slice none 0 0) [] []) (fun w h => pexpr_ok _ _ N _ p _ _ w _ hx (penOk_of (by first | assumption | simp_all)) hm (fun _ _ hh => hh) (.head _) (by rw [List.length_nil, Nat.zero_add]; exact hl) h) (fun v4 W4 hO4 => ?_)
  refine yC ?_; refine mP rfl ?_; refine w_lets (str (textT (exT (Ex.mk op at_ nm ks)))) (fun w => zR Tryz.func44 rfl rfl rfl) rfl rfl (fun w h => text_spec p _ _ w _ hl hb ⟨_, _, hO4, h⟩) ?_; refine za (v := str _) rfl ?_; refine aI rfl ?_; refine yB ?_; refine ze ?_; refine r_two (v := str _) (v2 := .int _ _) rfl rfl rfl rfl rfl ?_; exact fun w' hw => ⟨by simp_all, hw.fr _ (.head _)⟩
end Go.Proofs.YtaniogadknakoaaGreatDoor
end

section
namespace Go.Proofs.YtaniogadknakoaaGreatDoor
open Go.RowKit Go.Sx
open Go.Tok Go.Tree


theorem OwnT_nil : OwnT (.slice none 0 0) [] [] := Own.nil _ 1
theorem heads_get {i : Nat} (h : i < 6) : [str (headS 0), str (headS 1), str (headS 2), str (headS 3), str (headS 4), str (headS 5)][0 + i * 1]? = some (str (headS i)) := by
 obtain rfl | rfl | rfl | rfl | rfl | rfl : i = 0 ∨ i = 1 ∨ i = 2 ∨ i = 3 ∨ i = 4 ∨ i = 5 := by omega
 all_goals rfl
theorem Fields_head {i : Nat} (h : i < 6) (w : World) (ht : Tb w) : Ret Tryz.prog 41 #[str (headS i)] w fun v w' =>
  v = .slice (some ⟨w.heap.size, 0, none⟩) (headW i).length (headW i).length ∧ w' = w.alloc (cel ((headW i).map str) 9) := by
 have := Fields_spec (headS i) w (heads_ok h).1 (heads_ascii h) ht
 rw [(heads_ok h).2.2.1] at this
 exact this

set_option maxRecDepth 100000 in
set_option maxHeartbeats 8000000 in
theorem Write_spec (pg : List Bk) (cs : List Value) (N : Nat → Prop) (w : World) (hp : ∀ b ∈ pg, bkW b < 10000000) (hm : pgM w N pg cs) (hW : Wd w) (hl : (pgT pg).length ≤ 1000000000) (hb : (textT (pgT pg)).length ≤ 1000000000) :
  Ret Tryz.prog 19 #[.agg cs.toArray] w (fun v w' => v = .tuple #[str (if pgOk pg then textT (pgT pg) else []), .int .i64 (if pgOk pg then 0 else 120)] ∧ Ext w w') := by
 refine enter (S := No) (l := [_]) (L := []) 67 Tryz.func19 rfl rfl rfl (St.start w No) ?_; refine yA ?_; refine w_boxA rfl (fun t1b gt1b ut1b => ?_)
 refine za (v := str _) rfl ?_; refine aI rfl ?_; refine yB ?_; refine zq ?_; refine yA ?_; refine w_loadW z29 rfl (fun _ h => h.at_ 0 rfl) hm.len ?_; refine zC (fun w => zR Tryz.func39 rfl rfl rfl) rfl rfl (fun w h => Check_spec pg cs N w hp (hm.now (fun _ _ hh => hh) (.head _) h) (hW.now (.head _) h)) ?_; refine aI rfl ?_; refine yC ?_; refine mI rfl ?_; refine w_r (fun _ => R_ne rfl rfl) rfl rfl ?_; refine yB ?_; refine zD rfl (fun h2 => ?_) (fun h2 => ?_)
 ·have hok : pgOk pg = false := (by cases hq : pgOk pg with | false => rfl | true => rw [hq] at h2; exact absurd rfl h2)
  refine yA ?_; refine mI rfl ?_; refine za (v := str _) rfl ?_; refine aI rfl ?_; refine yB ?_; refine ze ?_; refine zt (?_)
  refine r_two (v := str _) (v2 := .int _ _) rfl rfl rfl rfl rfl ?_; exact fun w' hw => ⟨by rw [hok]; rfl, hw.fr _ (.head _)⟩
 ·have hok : pgOk pg = true := (by cases hq : pgOk pg with | true => rfl | false => rw [hq] at h2; exact absurd (by decide) h2)
  refine zi ?_; refine zk ?_; refine yA ?_; refine w_r (fun _ => R_buildA ar87 zr87 rfl) rfl rfl ?_; refine w_alloc zr87 (fun t5b gt5b ut5b => ?_)
  refine w_store 0 rfl z87 rfl rfl rfl rfl rfl rfl rfl ?_; refine yC ?_; refine w_r (fun _ => R_build bt90 rfl) rfl rfl ?_; refine w_boxA rfl (fun p gp up => ?_)
  refine za (v := .pointer _) rfl ?_; refine yB ?_; refine zq ?_; refine yA ?_; refine zf fa29_0 rfl ?_; refine w_loadW z27 rfl (fun _ h => h.at_ 2 rfl) hm.len ?_; refine mI rfl ?_; refine yB ?_; refine zB ?_; refine c_st (B' := _) (L' := (p, cel [.slice none 0 0] 90) :: ([] ++ [(t5b, cel [str (headS 0), str (headS 1), str (headS 2), str (headS 3), str (headS 4), str (headS 5)] 87), (t1b, cel cs 29)])) (fun w h => h) ?_
  refine c_loop (fun m e B L => ∃ (i : Nat) (v : Value) (W : Heap), e 5 = .pointer (some ⟨t5b, 0, none⟩) ∧ e 6 = .pointer (some ⟨p, 0, none⟩) ∧ e 22 = .agg cs.toArray ∧ e 23 = .int .i64 (i : Nat) ∧ B = [(w, No)] ∧ L = (p, cel [v] 90) :: (W ++ [(t5b, cel [str (headS 0), str (headS 1), str (headS 2), str (headS 3), str (headS 4), str (headS 5)] 87), (t1b, cel cs 29)]) ∧ i ≤ 6 ∧ OwnT v (pgTo pg i) W ∧ m = 6 - i) _ ⟨0, _, [], rfl, rfl, rfl, rfl, rfl, rfl, Nat.zero_le _, OwnS.eq OwnT_nil (pgTo_zero pg).symm, rfl⟩ ?_
  rintro m e B L ⟨i, v, W, e5_1, e6_1, e22_1, e23_1, rfl, rfl, hi, hO, rfl⟩
  refine yA ?_; refine w_r (fun _ => R_lt e23_1 rfl) rfl rfl ?_; refine yB ?_; refine zq ?_; refine zD rfl (fun h5 => ?_) (fun h5 => ?_)
  ·have hi6 : i < 6 := (by omega); obtain ⟨b, hb⟩ : ∃ b, pg[i]? = some b := ⟨_, List.getElem?_eq_getElem (by rw [hm.six]; exact hi6)⟩; have hbw := hp b (List.mem_of_getElem? hb); unfold bkW at hbw; obtain ⟨da, dc, sa, sc, hcb, hds, hss⟩ := hm.one i b hb; have hfb := pg_facts hok hi6 hb; have hnb := pgTo_next hb; have hlb := pgTo_le (p := pg) (k := i + 1) (n := 6) (by omega)
   refine zi ?_; refine zk ?_; refine zq ?_; refine zB ?_; refine yA ?_; refine mI e23_1 ?_; refine w_r (v := .agg (List.toArray [.bool b.is, .slice da b.decls.length dc, .slice sa b.stmts.length sc])) (fun _ => R_aidxA (i := i) ara27 e22_1 e23_1 (by omega) hcb) rfl rfl ?_; refine w_alloc zr26 (fun t8b gt8b ut8b => ?_)
   refine aI rfl ?_; refine w_store 0 rfl z26 rfl rfl rfl rfl rfl rfl rfl ?_; refine yB ?_; refine zq ?_; refine yA ?_; refine zf fa26_0 rfl ?_; refine zl z4 rfl (fun _ h => zc 0 rfl rfl h) ?_; refine w_r (fun _ => R_not rfl) rfl rfl ?_; refine yB ?_; refine c_condN rfl (fun h7 => ?_) (fun h7 => ?_)
   ·have heq : bkT i b = [] := (by unfold bkT; rw [if_neg (by simp_all)])
    refine c_exit ?_; refine zx (b_here rfl (zk ?_)); refine zr ?_; refine w_r (fun _ => R_addi e23_1 rfl (by omega)) rfl rfl ?_; refine mI rfl ?_; refine zn ?_; refine k_st (B' := _) (L' := _) (fun w h => h.drop (List.sublist_append_right [_] _)) ?_; exact k_again _ (by omega) ⟨i + 1, _, _, e5_1, e6_1, e22_1, rfl, rfl, rfl, by omega, OwnS.eq hO (by rw [hnb, heq]; simp), rfl⟩
   ·have heq : bkT i b = headW i ++ [[123]] ++ dcsT b.decls ++ (smsT b.stmts).flatten ++ [[125]] := (by unfold bkT; rw [if_pos (by simp_all)]); have hnl := congrArg List.length hnb; rw [heq] at hnl; simp only [List.length_append, List.length_cons, List.length_nil] at hnl; have hle0 : (pgTo pg 6).length ≤ 1000000000 := hl
    refine zi ?_; refine zk ?_; refine yA ?_; refine mP e6_1 ?_; refine mI rfl ?_; refine w_r (fun _ => R_iaA (i := i) ar87 (by decide) e5_1 rfl (by first | omega | decide)) rfl rfl ?_; refine zl (v := str (headS i)) z9 rfl (fun w h => zM (b := t5b) (cs := [str (headS 0), str (headS 1), str (headS 2), str (headS 3), str (headS 4), str (headS 5)]) (T := 87) (by simp) (heads_get hi6) h) ?_; refine w_callN (g := fun b => .slice (some ⟨b, 0, none⟩) (headW i).length (headW i).length) (fun w => zR Tryz.func41 rfl rfl rfl) rfl rfl (fun w h => Fields_head hi6 w (hW.now (.head _) h).tb) (fun b8 gb8 ub8 => ?_)
    refine w_pen (A := [_, _]) (Lr := [(t5b, cel [str (headS 0), str (headS 1), str (headS 2), str (headS 3), str (headS 4), str (headS 5)] 87), (t1b, cel cs 29)]) (headW i) (fun w => zR Tryz.func40 rfl rfl rfl) rfl rfl hO (fun w h => put_spec p _ _ w _ _ (headW i) (heads_ok hi6).2.2.2.2 (by first | omega | (simp only [List.length_append, List.length_cons, List.length_nil] at *; omega)) (.head _) h) (fun v9 W9 hO9 => ?_)
    refine yC ?_; refine mP e6_1 ?_; refine zS slt56 (by decide) rfl rfl (fun b10 gb10 ub10 => ?_)
    refine w_pen (A := [_, _, _]) (Lr := [(t5b, cel [str (headS 0), str (headS 1), str (headS 2), str (headS 3), str (headS 4), str (headS 5)] 87), (t1b, cel cs 29)]) ([[123]]) (fun w => zR Tryz.func40 rfl rfl rfl) rfl rfl hO9 (fun w h => put_spec p _ _ w _ b10 ([[123]]) (Nat.succ_pos _) (by first | omega | (simp only [List.length_append, List.length_cons, List.length_nil] at *; omega)) (.head _) h) (fun v11 W11 hO11 => ?_)
    refine yB ?_; refine zq ?_; refine yA ?_; refine zf fa26_1 rfl ?_; refine zl z23 rfl (fun _ h => zc 2 rfl rfl h) ?_; refine w_r (fun _ => R_len sl23 rfl) rfl rfl ?_; refine mI rfl ?_; refine yB ?_; refine zB ?_; refine c_st (B' := _) (L' := (t8b, cel [.bool b.is, .slice da b.decls.length dc, .slice sa b.stmts.length sc] 26) :: _) (fun w h => h.drop (List.sublist_append_right [_, _] _)) ?_
    refine c_loop (fun m e B L => ∃ (k : Nat) (v : Value) (W : Heap), e 5 = .pointer (some ⟨t5b, 0, none⟩) ∧ e 6 = .pointer (some ⟨p, 0, none⟩) ∧ e 22 = .agg cs.toArray ∧ e 23 = .int .i64 (i : Nat) ∧ e 8 = .pointer (some ⟨t8b, 0, none⟩) ∧ e 40 = .slice da b.decls.length dc ∧ e 41 = .int .i64 (b.decls.length : Nat) ∧ e 42 = .int .i64 (k : Nat) ∧ B = [(w, No)] ∧ L = (t8b, cel [.bool b.is, .slice da b.decls.length dc, .slice sa b.stmts.length sc] 26) :: (p, cel [v] 90) :: (W ++ [(t5b, cel [str (headS 0), str (headS 1), str (headS 2), str (headS 3), str (headS 4), str (headS 5)] 87), (t1b, cel cs 29)]) ∧ k ≤ b.decls.length ∧ OwnT v (pgTo pg i ++ headW i ++ [[123]] ++ dcsT (b.decls.take k)) W ∧ m = b.decls.length - k) _ ⟨0, _, _, e5_1, e6_1, e22_1, e23_1, rfl, rfl, rfl, rfl, rfl, rfl, Nat.zero_le _, OwnS.eq hO11 (by simp [dcsT]), rfl⟩ ?_
    rintro m e B L ⟨k, v, W, e5_2, e6_2, e22_2, e23_2, e8_2, e40_2, e41_2, e42_2, rfl, rfl, hk, hO, rfl⟩
    refine yA ?_; refine w_r (fun _ => R_lt e42_2 e41_2) rfl rfl ?_; refine yB ?_; refine zq ?_; refine zD rfl (fun h12 => ?_) (fun h12 => ?_)
    ·have hlt : k < b.decls.length := (by omega); obtain ⟨x, hxk⟩ : ∃ x, b.decls[k]? = some x := ⟨_, List.getElem?_eq_getElem hlt⟩; obtain ⟨cs2, hA, hE⟩ := hds k x hxk; have hxn := dcsW_mem (List.mem_of_getElem? hxk); obtain ⟨b1, o1, rfl⟩ := hA.ptr; have hE2 := hE; obtain ⟨ty, at_, nm, sz, lo, up, ini⟩ := x; unfold dcM at hE2; obtain ⟨xa, xc, la, lc, ua, uc, ia, ic, hcs, hsz, hlo, hup, hini⟩ := hE2; simp only [] at hcs; subst hcs; have hxo := hfb.1 _ (List.mem_of_getElem? hxk); have hnx := dcsT_next hxk; have hle := dcsT_le b.decls (k + 1); have hnl2 := congrArg List.length hnx; simp only [List.length_append] at hnl2
     refine zi ?_; refine zk ?_; refine zq ?_; refine zB ?_; refine yA ?_; refine w_r (fun _ => R_iaN (i := k) sl23 e40_2 e42_2 (by first | omega | decide)) rfl rfl ?_; refine w_loadC (l := [.int .u8 (ty : Nat), .int .i64 at_, str nm, .slice xa sz.length xc, .slice la lo.length lc, .slice ua up.length uc, .slice ia ini.length ic]) z46 rfl rfl (fun w h j v hj => hA.cell (fun _ _ hh => hh) (.head _) h j v hj) ?_; refine w_alloc zr46 (fun t10b gt10b ut10b => ?_)
     refine w_store 0 rfl z46 rfl rfl rfl rfl rfl rfl rfl ?_; refine yB ?_; refine zr ?_; refine mP e6_2 ?_; refine w_loadA z46 rfl (fun _ h => h.at_ 0 rfl) rfl ?_; refine w_pen (A := [_, _]) (Lr := [(t5b, cel [str (headS 0), str (headS 1), str (headS 2), str (headS 3), str (headS 4), str (headS 5)] 87), (t1b, cel cs 29)]) (dcT (Dc.mk ty at_ nm sz lo up ini)) (fun w => zR Tryz.func42 rfl rfl rfl) rfl rfl hO (fun w h => pdecl_spec _ _ N _ p _ _ w _ (by omega) hxo hE (fun _ _ hh => hh) (.head _) (by first | omega | (simp only [List.length_append, List.length_cons, List.length_nil] at *; omega)) h) (fun v14 W14 hO14 => ?_)
     refine zn ?_; refine b_on (zk ?_); refine zr ?_; refine w_r (fun _ => R_addi e42_2 rfl (by omega)) rfl rfl ?_; refine mI rfl ?_; refine zn ?_; refine k_st (B' := _) (L' := _) (fun w h => h.drop (List.sublist_append_right [_] _)) ?_; exact k_again _ (by omega) ⟨k + 1, _, _, e5_2, e6_2, e22_2, e23_2, e8_2, e40_2, e41_2, rfl, rfl, rfl, by omega, OwnS.eq hO14 (by rw [hnx]; simp), rfl⟩
    ·refine c_exit ?_; refine zx (zx (b_here rfl (zk ?_))); refine zq ?_; refine yA ?_; refine zf fa26_2 e8_2 ?_; refine zl z24 rfl (fun _ h => zc 0 rfl rfl h) ?_; refine w_r (fun _ => R_len sl24 rfl) rfl rfl ?_; refine mI rfl ?_; refine yB ?_; refine zB ?_
     refine c_loop (fun m e B L => ∃ (k : Nat) (v : Value) (W : Heap), e 5 = .pointer (some ⟨t5b, 0, none⟩) ∧ e 6 = .pointer (some ⟨p, 0, none⟩) ∧ e 22 = .agg cs.toArray ∧ e 23 = .int .i64 (i : Nat) ∧ e 8 = .pointer (some ⟨t8b, 0, none⟩) ∧ e 51 = .slice sa b.stmts.length sc ∧ e 52 = .int .i64 (b.stmts.length : Nat) ∧ e 53 = .int .i64 (k : Nat) ∧ B = [(w, No)] ∧ L = (t8b, cel [.bool b.is, .slice da b.decls.length dc, .slice sa b.stmts.length sc] 26) :: (p, cel [v] 90) :: (W ++ [(t5b, cel [str (headS 0), str (headS 1), str (headS 2), str (headS 3), str (headS 4), str (headS 5)] 87), (t1b, cel cs 29)]) ∧ k ≤ b.stmts.length ∧ OwnT v (pgTo pg i ++ headW i ++ [[123]] ++ dcsT b.decls ++ (smsT (b.stmts.take k)).flatten) W ∧ m = b.stmts.length - k) _ ⟨0, _, _, e5_2, e6_2, e22_2, e23_2, e8_2, rfl, rfl, rfl, rfl, rfl, Nat.zero_le _, OwnS.eq hO (by rw [List.take_of_length_le (by omega)]; simp [smsT]), rfl⟩ ?_
     rintro m e B L ⟨k, v, W, e5_3, e6_3, e22_3, e23_3, e8_3, e51_3, e52_3, e53_3, rfl, rfl, hk, hO, rfl⟩
     refine yA ?_; refine w_r (fun _ => R_lt e53_3 e52_3) rfl rfl ?_; refine yB ?_; refine zq ?_; refine zD rfl (fun h15 => ?_) (fun h15 => ?_)
     ·have hlt : k < b.stmts.length := (by omega); obtain ⟨x, hxk⟩ : ∃ x, b.stmts[k]? = some x := ⟨_, List.getElem?_eq_getElem hlt⟩; obtain ⟨cs, hA, hE⟩ := hss.get0 hxk; have hxn := smsW_mem (List.mem_of_getElem? hxk); have hxo := smsOk_get hfb.2 hxk; have hle := smsT_le b.stmts (k + 1); have hnx := smsT_next hxk; rw [hnx] at hle; simp only [List.length_append] at hle; obtain ⟨b1, o1, rfl⟩ := hA.ptr; obtain ⟨op, at_, nm, ks, bo, el⟩ := x; have hE2 := hE; unfold smM at hE2; obtain ⟨ka, kc, ba, bc, ea, ec, rfl, hkc, hks, hbo, hel⟩ := hE2
      refine zi ?_; refine zk ?_; refine zq ?_; refine zB ?_; refine yA ?_; refine w_r (fun _ => R_iaN (i := k) sl24 e51_3 e53_3 (by first | omega | decide)) rfl rfl ?_; refine w_loadC (l := [.int .u8 (op : Nat), .int .i64 at_, str nm, .slice ka ks.length kc, .slice ba bo.length bc, .slice ea el.length ec]) z76 rfl rfl (fun w h j v hj => hA.cell (fun _ _ hh => hh) (.head _) h j v hj) ?_; refine w_alloc zr76 (fun t12b gt12b ut12b => ?_)
      refine w_store 0 rfl z76 rfl rfl rfl rfl rfl rfl rfl ?_; refine yB ?_; refine zr ?_; refine mP e6_3 ?_; refine w_loadA z76 rfl (fun _ h => h.at_ 0 rfl) rfl ?_; refine w_pen (A := [_, _]) (Lr := [(t5b, cel [str (headS 0), str (headS 1), str (headS 2), str (headS 3), str (headS 4), str (headS 5)] 87), (t1b, cel cs 29)]) (smT (Sm.mk op at_ nm ks bo el)) (fun w => zR Tryz.func43 rfl rfl rfl) rfl rfl hO (fun w h => pstmt_ok _ _ N _ p _ _ w _ (by omega) hxo hE (fun _ _ hh => hh) (.head _) (by first | omega | (simp only [List.length_append, List.length_cons, List.length_nil] at *; omega)) h) (fun v17 W17 hO17 => ?_)
      refine zn ?_; refine b_on (zk ?_); refine zr ?_; refine w_r (fun _ => R_addi e53_3 rfl (by omega)) rfl rfl ?_; refine mI rfl ?_; refine zn ?_; refine k_st (B' := _) (L' := _) (fun w h => h.drop (List.sublist_append_right [_] _)) ?_; exact k_again _ (by omega) ⟨k + 1, _, _, e5_3, e6_3, e22_3, e23_3, e8_3, e51_3, e52_3, rfl, rfl, rfl, by omega, OwnS.eq hO17 (by rw [hnx]; simp), rfl⟩
     ·have hle := smsT_le b.stmts k
      refine c_exit ?_; refine zx (zx (b_here rfl (zk ?_))); refine zr ?_; refine mP e6_3 ?_; refine zS slt56 (by decide) rfl rfl (fun b18 gb18 ub18 => ?_)
      refine w_pen (A := [_, _]) (Lr := [(t5b, cel [str (headS 0), str (headS 1), str (headS 2), str (headS 3), str (headS 4), str (headS 5)] 87), (t1b, cel cs 29)]) ([[125]]) (fun w => zR Tryz.func40 rfl rfl rfl) rfl rfl hO (fun w h => put_spec p _ _ w _ b18 ([[125]]) (Nat.succ_pos _) (by first | omega | (simp only [List.length_append, List.length_cons, List.length_nil] at *; omega)) (.head _) h) (fun v19 W19 hO19 => ?_)
      refine zn ?_; refine b_on (zk ?_); refine zr ?_; refine w_r (fun _ => R_addi e23_3 rfl (by omega)) rfl rfl ?_; refine mI rfl ?_; refine zn ?_; refine k_st (B' := _) (L' := _) (fun w h => h.drop (List.sublist_append_right [_, _] _)) ?_; exact k_again _ (by omega) ⟨i + 1, _, _, e5_3, e6_3, e22_3, rfl, rfl, rfl, by omega, OwnS.eq hO19 (by rw [hnb, heq, List.take_of_length_le (by omega)]; simp), rfl⟩
  ·obtain rfl : i = 6 := (by omega)
   refine c_exit ?_; refine zx (zx (b_here rfl (zk ?_))); refine yA ?_; refine mP e6_1 ?_; refine w_lets (str (textT (pgT pg))) (fun w => zR Tryz.func44 rfl rfl rfl) rfl rfl (fun w h => text_spec p _ _ w _ hl hb ⟨_, _, hO, h⟩) ?_; refine za (v := str _) rfl ?_; refine aI rfl ?_; refine yB ?_; refine ze ?_; refine r_two (v := str _) (v2 := .int _ _) rfl rfl rfl rfl rfl ?_; exact fun w' hw => ⟨by rw [hok]; rfl, hw.fr _ (.head _)⟩
end Go.Proofs.YtaniogadknakoaaGreatDoor
end

section
namespace Go.Proofs.YtaniogadknakoaaGreatDoor
open Go.RowKit Go.Sx
open Go.Tok Go.Tree
theorem celEq {B : Base} {b : Nat} {l l' : List Value} {T : TypeId} {L : Heap} {w : World} (h : St B ((b, cel l T) :: L) w) (e : l = l') : St B ((b, cel l' T) :: L) w := e ▸ h
theorem words_next {s x : Str} {k : Nat} (h : ∀ y ∈ wordsL.take k, ¬ y = s) (hx : wordsL[k]? = some x) (hs : ¬ x = s) : ∀ y ∈ wordsL.take (k + 1), ¬ y = s := by
  obtain ⟨hk, rfl⟩ := List.getElem?_eq_some_iff.1 hx
  intro y hy
  rw [List.take_succ_eq_append_getElem hk, List.mem_append] at hy
  rcases hy with hy | hy
  · exact h y hy
  · obtain rfl : y = wordsL[k] := by simpa using hy
    exact hs
theorem words_no {s : Str} (h : ∀ y ∈ wordsL.take 17, ¬ y = s) : wordsL.contains s = false := by
  have h17 : wordsL.take 17 = wordsL := rfl
  rw [h17] at h
  cases hc : wordsL.contains s with
  | false => rfl
  | true => exact absurd rfl (h s (List.contains_iff_mem.1 hc))
theorem words_yes {s x : Str} {k : Nat} (hx : wordsL[k]? = some x) (hs : x = s) : wordsL.contains s = true := by
  subst hs
  exact List.contains_iff_mem.2 (List.mem_of_getElem? hx)

set_option maxRecDepth 100000 in
set_option maxHeartbeats 400000 in
theorem rone_spec (s : Str) (k : Nat) (hs : s.length ≤ 10000000) (w : World) :
    Ret Tryz.prog 133 #[str s, .int .u8 (k : Nat)] w (fun v w' => v = .bool (oneB k s) ∧ Ext w w') := by
  refine enter (S := No) (l := [_, _]) (L := []) 36 Tryz.func133 rfl rfl rfl (St.start w No) ?_; refine yA ?_; refine aB rfl ?_; refine yC ?_; refine zm (v := str _) rfl ?_; refine w_callW (R := RdV (readP s)) (fun w => zR Tryz.func20 rfl rfl rfl) rfl rfl (fun w h => rRead_spec s (by omega) w) ?_; refine fun u W1 hR1 => w_st (fun w h => h.perm List.perm_append_comm) ?_
  obtain ⟨a1, c1, rfl, hT1⟩ := hR1
  refine zm rfl ?_; refine w_r (fun _ => R_extract rfl rfl) rfl rfl ?_; refine w_r (fun _ => R_extract rfl rfl) rfl rfl ?_; refine w_alloc zr32 (fun t6b gt6b ut6b => ?_)
  refine za (v := .slice _ _ _) rfl ?_; refine w_store 0 rfl z32 rfl rfl rfl rfl rfl rfl rfl ?_; refine yC ?_; refine zf fa32_0 rfl ?_; refine zl z30 rfl (fun _ h => zc 0 rfl rfl h) ?_; refine w_r (fun _ => R_eq rfl rfl) rfl rfl ?_; refine mB rfl ?_; refine zd (t := 15) rfl (fun h2 => ?_) (fun h2 => ?_)
  · refine zw rfl rfl (bT h2) ?_; refine mS rfl ?_; refine zw rfl rfl (bT h2) ?_; refine w_r (fun _ => R_len sl50 rfl) rfl rfl ?_; refine zw rfl rfl (bT h2) ?_; refine w_r (fun _ => R_eq rfl rfl) rfl rfl ?_; refine w_r (v := .bool _) (fun _ => zT (bT h2) rfl) rfl rfl ?_; refine mB rfl ?_; refine zd (t := 20) rfl (fun h3 => ?_) (fun h3 => ?_)
    · obtain ⟨b1, rfl, hc1⟩ := hT1.cellS (k := 0) (by omega); obtain ⟨t, q1⟩ : ∃ t, (readP s).1[0]? = some t := ⟨_, List.getElem?_eq_getElem (by omega)⟩; have e1 := oneB_at (k := k) (by omega) q1 (by omega)
      refine zw rfl rfl (bT h3) ?_; refine mS rfl ?_; refine zw rfl rfl (bT h3) ?_; refine w_r (fun _ => R_iaN (i := 0) sl50 rfl rfl (by first | omega | decide)) rfl rfl ?_; refine zw rfl rfl (bT h3) ?_; refine zf fa58_0 rfl ?_; refine zw rfl rfl (bT h3) ?_; refine zl z5 rfl (fun _ h => by first | exact zc 0 rfl rfl h | exact hc1 _ _ _ (fun p hp => by simp [hp]) h _ q1 _ _ rfl) ?_; refine zw rfl rfl (bT h3) ?_; refine mI rfl ?_; refine zw rfl rfl (bT h3) ?_; refine w_r (fun _ => R_eq rfl rfl) rfl rfl ?_; refine w_r (v := .bool _) (fun _ => zT (bT h3) rfl) rfl rfl ?_; refine mB rfl ?_; refine zd (t := 28) rfl (fun h4 => ?_) (fun h4 => ?_)
      · refine zw rfl rfl (bT h4) ?_; refine mS rfl ?_; refine zw rfl rfl (bT h4) ?_; refine w_r (fun _ => R_iaN (i := 0) sl50 rfl rfl (by first | omega | decide)) rfl rfl ?_; refine zw rfl rfl (bT h4) ?_; refine zf fa58_1 rfl ?_; refine zw rfl rfl (bT h4) ?_; refine zl z9 rfl (fun _ h => by first | exact zc 0 rfl rfl h | exact hc1 _ _ _ (fun p hp => by simp [hp]) h _ q1 _ _ rfl) ?_; refine zw rfl rfl (bT h4) ?_; refine zm (v := str _) rfl ?_; refine zw rfl rfl (bT h4) ?_; refine w_r (fun _ => R_seq rfl rfl) rfl rfl ?_; refine w_r (v := .bool _) (fun _ => zT (bT h4) rfl) rfl rfl ?_; refine aB rfl ?_; refine yB ?_; refine ze ?_; refine zo (v := .bool _) rfl rfl rfl ?_; exact fun w' hw => ⟨by rw [e1, decide_eq_true h4]; rfl, hw.fr _ (.head _)⟩
      · refine zs rfl rfl (bF h4) ?_; refine zs rfl rfl (bF h4) ?_; refine zs rfl rfl (bF h4) ?_; refine zs rfl rfl (bF h4) ?_; refine zs rfl rfl (bF h4) ?_; refine zs rfl rfl (bF h4) ?_; refine w_r (v := .bool _) (fun _ => zF (bF h4) rfl) rfl rfl ?_; refine aB rfl ?_; refine yB ?_; refine ze ?_; refine zo (v := .bool _) rfl rfl rfl ?_; exact fun w' hw => ⟨by rw [e1, decide_eq_false h4]; rfl, hw.fr _ (.head _)⟩
    · refine zs rfl rfl (bF h3) ?_; refine zs rfl rfl (bF h3) ?_; refine zs rfl rfl (bF h3) ?_; refine zs rfl rfl (bF h3) ?_; refine zs rfl rfl (bF h3) ?_; refine zs rfl rfl (bF h3) ?_; refine w_r (v := .bool _) (fun _ => zF (bF h3) rfl) rfl rfl ?_; refine mB rfl ?_; (iterate 6 refine zs rfl rfl rfl ?_); refine w_r (v := .bool _) (fun _ => zF rfl rfl) rfl rfl ?_; refine aB rfl ?_; refine yB ?_; refine ze ?_; refine zo (v := .bool _) rfl rfl rfl ?_; exact fun w' hw => ⟨by rw [oneB_len (by omega)], hw.fr _ (.head _)⟩
  · refine zs rfl rfl (bF h2) ?_; refine zs rfl rfl (bF h2) ?_; refine zs rfl rfl (bF h2) ?_; refine w_r (v := .bool _) (fun _ => zF (bF h2) rfl) rfl rfl ?_; refine mB rfl ?_; (iterate 6 refine zs rfl rfl rfl ?_); refine w_r (v := .bool _) (fun _ => zF rfl rfl) rfl rfl ?_; refine mB rfl ?_; (iterate 6 refine zs rfl rfl rfl ?_); refine w_r (v := .bool _) (fun _ => zF rfl rfl) rfl rfl ?_; refine aB rfl ?_; refine yB ?_; refine ze ?_; refine zo (v := .bool _) rfl rfl rfl ?_
    exact fun w' hw => ⟨by rw [oneB_E (by omega)], hw.fr _ (.head _)⟩

set_option maxRecDepth 100000 in
set_option maxHeartbeats 400000 in
theorem rWord_spec (s : Str) (w : World) :
    Ret Tryz.prog 134 #[str s] w (fun v w' => v = .bool (wordsL.contains s) ∧ Ext w w') := by
  refine enter (S := No) (l := [_]) (L := []) 18 Tryz.func134 rfl rfl rfl (St.start w No) ?_; refine yA ?_; refine aB rfl ?_; refine yC ?_; refine zS slt56 (by decide) rfl rfl (fun bw gbw ubw => ?_)
  refine za (v := .slice _ _ _) rfl ?_; refine yB ?_; refine zq ?_; refine yA ?_; refine aI rfl ?_; refine yB ?_; refine zB ?_; refine c_st (B' := _) (L' := [(bw, cel (wordsL.map str) 9)]) (fun w h => celEq h (by kernel_rfl)) ?_; refine c_loop (fun m e B L => ∃ (k : Nat), e 0 = str s ∧ e 3 = .slice (some ⟨bw, 0, none⟩) 17 17 ∧ e 4 = .int .i64 (k : Nat) ∧ B = [(w, No)] ∧ L = [(bw, cel (wordsL.map str) 9)] ∧ k ≤ 17 ∧ (∀ x ∈ wordsL.take k, ¬ x = s) ∧ m = 17 - k) _ ⟨0, rfl, rfl, rfl, rfl, rfl, Nat.zero_le _, (by simp), rfl⟩ ?_
  rintro m e B L ⟨k, e0_1, e3_1, e4_1, rfl, rfl, hk, hn, rfl⟩
  refine zq ?_; refine yA ?_; refine mI e4_1 ?_; refine mS e3_1 ?_; refine w_r (fun _ => R_len sl56 rfl) rfl rfl ?_; refine w_r (fun _ => R_lt rfl rfl) rfl rfl ?_; refine yB ?_; refine zD rfl (fun h1 => ?_) (fun h1 => ?_)
  · have hlt : k < 17 := (by omega); obtain ⟨x, hx⟩ : ∃ x, wordsL[k]? = some x := ⟨_, List.getElem?_eq_getElem hlt⟩
    refine zi ?_; refine zk ?_; refine zq ?_; refine zB ?_; refine yA ?_; refine mS e3_1 ?_; refine mI e4_1 ?_; refine w_r (fun _ => R_iaN (i := k) sl56 rfl rfl (by first | omega | decide)) rfl rfl ?_; refine zl (v := str x) z9 rfl (fun w h => zc 0 (cs := wordsL.map str) rfl (by rw [Nat.zero_add, Nat.mul_one, List.getElem?_map, hx]; rfl) h) ?_; refine zm (v := str _) e0_1 ?_; refine w_r (fun _ => R_seq rfl rfl) rfl rfl ?_; refine yB ?_; refine zD rfl (fun h2 => ?_) (fun h2 => ?_)
    · refine yA ?_; refine aB rfl ?_; refine yB ?_; refine ze ?_; refine zb (zt (zt (zb (zt (?_)))))
      refine zo (v := .bool _) rfl rfl rfl ?_; exact fun w' hw => ⟨by rw [words_yes hx h2], hw.fr _ (.head _)⟩
    · refine zi ?_; refine b_on (zk ?_); refine zr ?_; refine mI e4_1 ?_; refine w_r (fun _ => R_addi rfl rfl (by omega)) rfl rfl ?_; refine aI rfl ?_; refine zn ?_; exact k_again _ (by omega) ⟨k + 1, e0_1, e3_1, rfl, rfl, rfl, by omega, words_next hn hx h2, rfl⟩
  · refine c_exit ?_; refine zx (zx (b_here rfl (zk ?_))); refine yA ?_; refine aB rfl ?_; refine yB ?_; refine ze ?_; refine zo (v := .bool _) rfl rfl rfl ?_; exact fun w' hw => ⟨by rw [words_no (by rw [show 17 = k by omega]; exact hn)], hw.fr _ (.head _)⟩

set_option maxRecDepth 100000 in
set_option maxHeartbeats 400000 in
theorem rName_spec (s : Str) (hs : s.length ≤ 10000000) (w : World) :
    Ret Tryz.prog 111 #[str s] w (fun v w' => v = .bool (nameOk s) ∧ Ext w w') := by
  refine enter (S := No) (l := [_]) (L := []) 10 Tryz.func111 rfl rfl rfl (St.start w No) ?_; refine yA ?_; refine aB rfl ?_; refine yC ?_; refine zm (v := str _) rfl ?_; refine zC (fun w => zR Tryz.func133 rfl rfl rfl) rfl rfl (fun w h => rone_spec _ 1 (by omega) w) ?_; refine mB rfl ?_; refine zp (t := 5) rfl (fun h1 => ?_) (fun h1 => ?_)
  · refine zw rfl rfl (bV h1) ?_; refine zm (v := str _) rfl ?_; refine zw rfl rfl (bV h1) ?_; refine zC (fun w => zR Tryz.func134 rfl rfl rfl) rfl rfl (fun w h => rWord_spec s w) ?_; refine zw rfl rfl (bV h1) ?_; refine w_r (fun _ => R_not rfl) rfl rfl ?_; refine w_r (v := .bool _) (fun _ => zT (bV h1) rfl) rfl rfl ?_; refine aB rfl ?_; refine yB ?_; refine ze ?_; refine zo (v := .bool _) rfl rfl rfl ?_; exact fun w' hw => ⟨by unfold nameOk; simp_all, hw.fr _ (.head _)⟩
  · refine zs rfl rfl (bV h1) ?_; refine zs rfl rfl (bV h1) ?_; refine zs rfl rfl (bV h1) ?_; refine w_r (v := .bool _) (fun _ => zF (bV h1) rfl) rfl rfl ?_; refine aB rfl ?_; refine yB ?_; refine ze ?_; refine zo (v := .bool _) rfl rfl rfl ?_; exact fun w' hw => ⟨by unfold nameOk; simp_all, hw.fr _ (.head _)⟩
end Go.Proofs.YtaniogadknakoaaGreatDoor
end

section
namespace Go.Proofs.YtaniogadknakoaaGreatDoor
open Go.RowKit Go.Sx
open Go.Tok Go.Tree

end Go.Proofs.YtaniogadknakoaaGreatDoor
end

section
namespace Go.Proofs.YtaniogadknakoaaGreatDoor
open Go.RowKit Go.Sx
open Go.Tok Go.Tree


def RNodesP (n : Nat) : Prop := ∀ (l : List Ex) (a : Option Addr) (c : Nat) (N : Nat → Prop) (w : World), exsW l < n → l.length ≤ 10000000 → exsM w N l a 0 →
  Ret Tryz.prog 74 #[.slice a l.length c] w fun v w' => v = .int .i64 (exsN l : Nat) ∧ Ext w w'
def RLongP (n : Nat) : Prop := ∀ (l : List Ex) (a : Option Addr) (c : Nat) (N : Nat → Prop) (w : World), exsW l < n → l.length ≤ 10000000 → exsM w N l a 0 →
  Ret Tryz.prog 38 #[.slice a l.length c] w fun v w' => v = .bool (exsLong l) ∧ Ext w w'

def RNodesOfP (n : Nat) : Prop := ∀ (l : List Sm) (a : Option Addr) (c : Nat) (N : Nat → Prop) (w : World), smsW l < n → l.length ≤ 10000000 → smsM w N l a 0 →
  Ret Tryz.prog 73 #[.slice a l.length c] w fun v w' => v = .int .i64 (smsN l : Nat) ∧ Ext w w'
def RLongOfP (n : Nat) : Prop := ∀ (l : List Sm) (a : Option Addr) (c : Nat) (N : Nat → Prop) (w : World), smsW l < n → l.length ≤ 10000000 → smsM w N l a 0 →
  Ret Tryz.prog 37 #[.slice a l.length c] w fun v w' => v = .bool (smsLong l) ∧ Ext w w'

end Go.Proofs.YtaniogadknakoaaGreatDoor
end

section
namespace Go.Proofs.YtaniogadknakoaaGreatDoor
open Go.RowKit Go.Sx
open Go.Tok Go.Tree
mutual
theorem exM.any {w : World} {N : Nat → Prop} : ∀ (e : Ex) (cs : List Value), exM w N e cs → exM w (fun _ => True) e cs
  | .mk op at_ nm ks, cs, h => by
    unfold exM at h ⊢
    obtain ⟨a, c, h1, h2, h3⟩ := h
    exact ⟨a, c, h1, h2, exsM.any ks a 0 h3⟩
theorem exsM.any {w : World} {N : Nat → Prop} : ∀ (l : List Ex) (a : Option Addr) (i : Nat), exsM w N l a i → exsM w (fun _ => True) l a i
  | [], _, _, _ => by unfold exsM; trivial
  | e :: l, a, i, h => by
    unfold exsM at h ⊢
    obtain ⟨⟨cs, ⟨b, o, ha, hb, hc⟩, h2⟩, h3⟩ := h
    exact ⟨⟨cs, ⟨b, o, ha, trivial, hc⟩, exM.any e cs h2⟩, exsM.any l a (i + 4) h3⟩
end

end Go.Proofs.YtaniogadknakoaaGreatDoor
end
