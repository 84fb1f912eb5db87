/- TreeApart: what is written of two right programs is the same just when they are. Part 8 of 12. -/
import Derived.Test.YtcmcdgkjipnfnaaDoorA02
import Derived.Test.YtcmcdgkjipnfnaaDoorA07
import Derived.Lib.UnsafeStr
import Derived.Lib.Builder
import Derived.Laws.Externs
import Derived.Test.YtcmcdgkjipnfnaaDoorA03
import Derived.Lib.Fields
section
namespace Go.Proofs.YtcmcdgkjipnfnaaDoor
open Go.RowKit Go.Sx
open Go.Tok Go.Tree


theorem pstmt_all : ∀ n : Nat, n ≤ 10000000 → StmtP n
  | 0, _ => fun _ _ _ _ _ _ _ _ _ h => absurd h (Nat.not_lt_zero _)
  | n + 1, hn => pstmt_step n (pstmt_all n (by omega)) (by omega)
theorem pstmt_ok : StmtP 10000000 := pstmt_all _ (Nat.le_refl _)

set_option maxRecDepth 100000 in
set_option maxHeartbeats 2000000 in
theorem bounds_spec (x : Dc) (cs : List Value) (N : Nat → Prop) (y : World × (Nat → Prop)) (p : Nat) (Bs : Base) (Lr : Heap) (w : World) (xs : List Str) (hx : dcW x < 10000000) (hok : dcOk x = true) (hm : dcM y.1 N x cs) (hn : Apart y N) (hy : y ∈ Bs) (hb : xs.length + (boundsT x).length ≤ 1000000000) (hP : Pen p xs Bs Lr w) :
    Ret Tryd.prog 50 #[.pointer (some ⟨p, 0, none⟩), .agg cs.toArray] w (fun u w' => u = .tuple #[] ∧ Pen p (xs ++ boundsT x) Bs Lr w') := by
  have hf := dc_facts hok
  obtain ⟨ty, at_, nm, sz, lo, up, ini⟩ := x
  have hm2 := hm
  unfold dcM at hm2
  obtain ⟨sa, sc, la, lc, ua, uc, ia, ic, hcs, hsz, hlo, hup, hini⟩ := hm2
  simp only [] at hcs
  subst hcs
  have hx2 := hx
  simp only [dcW] at hx2
  simp only [] at hsz hlo hup hini
  obtain ⟨v, W, hO, hs⟩ := hP
  refine enterB (l := [_, _]) 61 Tryd.func50 rfl rfl rfl (hs) ?_; refine yA ?_; refine w_boxA rfl (fun t3b gt3b ut3b => ?_)
  refine yB ?_; refine zq ?_; refine yA ?_; refine zf fa53_4 rfl ?_; refine zl z36 rfl (fun _ h => zc 0 rfl rfl h) ?_; refine w_r (fun _ => R_len sl36 rfl) rfl rfl ?_; refine zf fa53_5 rfl ?_; refine zl z36 rfl (fun _ h => zc 0 rfl rfl h) ?_; refine w_r (fun _ => R_len sl36 rfl) rfl rfl ?_; refine w_r (fun _ => R_addi rfl rfl (by omega)) rfl rfl ?_; refine w_r (fun _ => R_eq rfl rfl) rfl rfl ?_; refine yB ?_; refine zD rfl (fun h2 => ?_) (fun h2 => ?_)
  · refine ze ?_; refine zt (?_)
    refine r_none (.inl rfl) rfl ?_; exact fun w' hw => ⟨rfl, PenAt.fin (A := [_]) hO (by simp only [boundsT]; rw [if_pos (by omega)]; simp) hw⟩
  · have heq : boundsT (Dc.mk ty at_ nm sz lo up ini) = [[60]] ++ ldT lowW lo ++ (if lo.length + up.length = 2 then [[44]] else []) ++ ldT upW up ++ [[62]] := (by simp only [boundsT]; rw [if_neg (by omega)]); rw [heq] at hb; simp only [List.length_append, List.length_cons, List.length_nil] at hb
    refine zi ?_; refine zk ?_; refine yA ?_; refine mP rfl ?_; refine zS slt62 (by decide) rfl rfl (fun b3 gb3 ub3 => ?_)
    refine w_pen (A := [_, _]) (Lr := Lr) ([[60]]) (fun w => zR Tryd.func26 rfl rfl rfl) rfl rfl hO (fun w h => put_spec p _ _ w _ b3 ([[60]]) (Nat.succ_pos _) (by first | omega | (simp only [List.length_append, List.length_cons, List.length_nil] at *; omega)) (.head _) h) (fun v4 W4 hO4 => ?_)
    refine yB ?_; refine zq ?_; refine yA ?_; refine zf fa53_4 rfl ?_; refine zl z36 rfl (fun _ h => zc 1 rfl rfl h) ?_; refine w_r (fun _ => R_len sl36 rfl) rfl rfl ?_; refine mI rfl ?_; refine yB ?_; refine zB ?_; refine c_st (B' := Bs) (L' := (t3b, cel [.int .u8 (ty : Nat), .int .i64 at_, str nm, .slice sa sz.length sc, .slice la lo.length lc, .slice ua up.length uc, .slice ia ini.length ic] 53) :: _) (fun w h => h.drop (List.sublist_cons_self _ _)) ?_
    refine c_loop (fun m e B L => ∃ (k : Nat) (v : Value) (W : Heap), e 0 = .pointer (some ⟨p, 0, none⟩) ∧ e 3 = .pointer (some ⟨t3b, 0, none⟩) ∧ e 20 = .slice la lo.length lc ∧ e 21 = .int .i64 (lo.length : Nat) ∧ e 22 = .int .i64 (k : Nat) ∧ Bs = B ∧ L = (t3b, cel [.int .u8 (ty : Nat), .int .i64 at_, str nm, .slice sa sz.length sc, .slice la lo.length lc, .slice ua up.length uc, .slice ia ini.length ic] 53) :: (p, cel [v] 64) :: (W ++ Lr) ∧ k ≤ lo.length ∧ OwnT v (xs ++ [[60]] ++ ldT lowW (lo.take k)) W ∧ m = lo.length - k) _ ⟨0, _, _, rfl, rfl, rfl, rfl, rfl, rfl, rfl, Nat.zero_le _, OwnS.eq hO4 (by simp [ldT]), rfl⟩ ?_
    rintro m e B L ⟨k, v, W, e0_1, e3_1, e20_1, e21_1, e22_1, rfl, rfl, hk, hO, rfl⟩
    refine yA ?_; refine w_r (fun _ => R_lt e22_1 e21_1) rfl rfl ?_; refine yB ?_; refine zq ?_; refine zD rfl (fun h5 => ?_) (fun h5 => ?_)
    · have hlt : k < lo.length := (by omega); obtain ⟨x1, hxk⟩ : ∃ x, lo[k]? = some x := ⟨_, List.getElem?_eq_getElem hlt⟩; obtain ⟨cs1, hA, hE⟩ := hlo.get0 hxk; have hxn := exsW_mem (List.mem_of_getElem? hxk); have hxo := penOk_of (exsOk_get hf.2.2.2.1 hxk); have hle := ldT_le lowW lo (k + 1); have hnx := ldT_next (pre := lowW) hxk; have hnl := congrArg List.length hnx; simp only [List.length_append] at hnl; have hpl : List.length lowW = 2 := rfl; obtain ⟨b1, o1, rfl⟩ := hA.ptr; obtain ⟨op1, at1, nm1, ks1⟩ := x1; have hE2 := hE; unfold exM at hE2; obtain ⟨ka1, kc1, rfl, hkc1, hks1⟩ := hE2
      refine zi ?_; refine zk ?_; refine zq ?_; refine zB ?_; refine yA ?_; refine w_r (fun _ => R_iaN (i := k) sl36 e20_1 e22_1 (by first | omega | decide)) rfl rfl ?_; refine w_loadC (l := [.int .u8 (op1 : Nat), .int .i64 at1, str nm1, .slice ka1 ks1.length kc1]) z49 rfl rfl (fun w h j v hj => hA.cell hn hy h j v hj) ?_; refine w_alloc zr49 (fun t5b gt5b ut5b => ?_)
      refine w_store 0 rfl z49 rfl rfl rfl rfl rfl rfl rfl ?_; refine yC ?_; refine mP e0_1 ?_; refine zS slt62 (by decide) rfl rfl (fun b7 gb7 ub7 => ?_)
      refine w_pen (A := [_, _, _]) (Lr := Lr) ([[108, 111, 119, 101, 114], [61]]) (fun w => zR Tryd.func26 rfl rfl rfl) rfl rfl hO (fun w h => put_spec p _ _ w _ b7 ([[108, 111, 119, 101, 114], [61]]) (Nat.succ_pos _) (by first | omega | (simp only [List.length_append, List.length_cons, List.length_nil] at *; omega)) (.head _) h) (fun v8 W8 hO8 => ?_)
      refine yB ?_; refine zr ?_; refine mP e0_1 ?_; refine w_loadA z49 rfl (fun _ h => h.at_ 1 rfl) rfl ?_; refine w_pen (A := [_, _, _]) (Lr := Lr) (exT (Ex.mk op1 at1 nm1 ks1)) (fun w => zR Tryd.func39 rfl rfl rfl) rfl rfl hO8 (fun w h => pexpr_ok _ _ N y p _ _ w _ (by omega) hxo hE hn hy (by first | omega | (simp only [List.length_append, List.length_cons, List.length_nil] at *; omega)) h) (fun v9 W9 hO9 => ?_)
      refine zn ?_; refine b_on (zk ?_); refine zr ?_; refine w_r (fun _ => R_addi e22_1 rfl (by omega)) rfl rfl ?_; refine mI rfl ?_; refine zn ?_; refine k_st (B' := Bs) (L' := _) (fun w h => h.drop (List.sublist_append_right [_, _] _)) ?_; exact k_again _ (by omega) ⟨k + 1, _, _, e0_1, e3_1, e20_1, e21_1, rfl, rfl, rfl, by omega, OwnS.eq hO9 (by rw [hnx]; simp [lowW, upW]), rfl⟩
    · have hle := ldT_le lowW lo k
      refine c_exit ?_; refine zx (zx (b_here rfl (zk ?_)))
      refine c_cut (fun e B L => ∃ (v : Value) (W : Heap), e 0 = .pointer (some ⟨p, 0, none⟩) ∧ e 3 = .pointer (some ⟨t3b, 0, none⟩) ∧ Bs = B ∧ L = (t3b, cel [.int .u8 (ty : Nat), .int .i64 at_, str nm, .slice sa sz.length sc, .slice la lo.length lc, .slice ua up.length uc, .slice ia ini.length ic] 53) :: (p, cel [v] 64) :: (W ++ Lr) ∧ OwnT v (xs ++ [[60]] ++ ldT lowW lo ++ (if lo.length + up.length = 2 then [[44]] else [])) W) ?_ ?_
      · refine yA ?_; refine zf fa53_4 e3_1 ?_; refine zl z36 rfl (fun _ h => zc 0 rfl rfl h) ?_; refine w_r (fun _ => R_len sl36 rfl) rfl rfl ?_; refine zf fa53_5 e3_1 ?_; refine zl z36 rfl (fun _ h => zc 0 rfl rfl h) ?_; refine w_r (fun _ => R_len sl36 rfl) rfl rfl ?_; refine w_r (fun _ => R_addi rfl rfl (by omega)) rfl rfl ?_; refine w_r (fun _ => R_eq rfl rfl) rfl rfl ?_; refine yB ?_; refine zD rfl (fun h10 => ?_) (fun h10 => ?_)
        · refine zr ?_; refine mP e0_1 ?_; refine zS slt62 (by decide) rfl rfl (fun b11 gb11 ub11 => ?_)
          refine w_pen (A := [_, _]) (Lr := Lr) ([[44]]) (fun w => zR Tryd.func26 rfl rfl rfl) rfl rfl hO (fun w h => put_spec p _ _ w _ b11 ([[44]]) (Nat.succ_pos _) (by first | omega | (simp only [List.length_append, List.length_cons, List.length_nil] at *; omega)) (.head _) h) (fun v12 W12 hO12 => ?_)
          refine zn ?_; refine k_st (B' := Bs) (L' := _) (fun w h => h.drop (List.sublist_cons_self _ _)) ?_; exact k_mid ⟨_, _, e0_1, e3_1, rfl, rfl, OwnS.eq hO12 (by first | (rw [if_pos (by omega), List.take_of_length_le (by omega)]; done) | (rw [if_pos (by omega), List.take_of_length_le (by omega)]; simp))⟩
        · refine zi ?_; exact k_mid ⟨_, _, e0_1, e3_1, rfl, rfl, OwnS.eq hO (by first | (rw [if_neg (by omega), List.take_of_length_le (by omega)]; done) | (rw [if_neg (by omega), List.take_of_length_le (by omega)]; simp))⟩
      rintro e B L ⟨v, W, e0_2, e3_2, rfl, rfl, hO⟩
      refine zq ?_; refine yA ?_; refine zf fa53_5 e3_2 ?_; refine zl z36 rfl (fun _ h => zc 0 rfl rfl h) ?_; refine w_r (fun _ => R_len sl36 rfl) rfl rfl ?_; refine mI rfl ?_; refine yB ?_; refine zB ?_
      refine c_loop (fun m e B L => ∃ (k : Nat) (v : Value) (W : Heap), e 0 = .pointer (some ⟨p, 0, none⟩) ∧ e 3 = .pointer (some ⟨t3b, 0, none⟩) ∧ e 45 = .slice ua up.length uc ∧ e 46 = .int .i64 (up.length : Nat) ∧ e 47 = .int .i64 (k : Nat) ∧ Bs = B ∧ L = (t3b, cel [.int .u8 (ty : Nat), .int .i64 at_, str nm, .slice sa sz.length sc, .slice la lo.length lc, .slice ua up.length uc, .slice ia ini.length ic] 53) :: (p, cel [v] 64) :: (W ++ Lr) ∧ k ≤ up.length ∧ OwnT v (xs ++ [[60]] ++ ldT lowW lo ++ (if lo.length + up.length = 2 then [[44]] else []) ++ ldT upW (up.take k)) W ∧ m = up.length - k) _ ⟨0, _, _, e0_2, e3_2, rfl, rfl, rfl, rfl, rfl, Nat.zero_le _, OwnS.eq hO (by simp [ldT]), rfl⟩ ?_
      rintro m e B L ⟨k, v, W, e0_3, e3_3, e45_3, e46_3, e47_3, rfl, rfl, hk, hO, rfl⟩
      refine yA ?_; refine w_r (fun _ => R_lt e47_3 e46_3) rfl rfl ?_; refine yB ?_; refine zq ?_; refine zD rfl (fun h13 => ?_) (fun h13 => ?_)
      · have hlt : k < up.length := (by omega); obtain ⟨x1, hxk⟩ : ∃ x, up[k]? = some x := ⟨_, List.getElem?_eq_getElem hlt⟩; obtain ⟨cs1, hA, hE⟩ := hup.get0 hxk; have hxn := exsW_mem (List.mem_of_getElem? hxk); have hxo := penOk_of (exsOk_get hf.2.2.2.2.1 hxk); have hle := ldT_le upW up (k + 1); have hnx := ldT_next (pre := upW) hxk; have hnl := congrArg List.length hnx; simp only [List.length_append] at hnl; have hpl : List.length upW = 2 := rfl; obtain ⟨b1, o1, rfl⟩ := hA.ptr; obtain ⟨op1, at1, nm1, ks1⟩ := x1; have hE2 := hE; unfold exM at hE2; obtain ⟨ka1, kc1, rfl, hkc1, hks1⟩ := hE2
        refine zi ?_; refine zk ?_; refine zq ?_; refine zB ?_; refine yA ?_; refine w_r (fun _ => R_iaN (i := k) sl36 e45_3 e47_3 (by first | omega | decide)) rfl rfl ?_; refine w_loadC (l := [.int .u8 (op1 : Nat), .int .i64 at1, str nm1, .slice ka1 ks1.length kc1]) z49 rfl rfl (fun w h j v hj => hA.cell hn hy h j v hj) ?_; refine w_alloc zr49 (fun t7b gt7b ut7b => ?_)
        refine w_store 0 rfl z49 rfl rfl rfl rfl rfl rfl rfl ?_; refine yC ?_; refine mP e0_3 ?_; refine zS slt62 (by decide) rfl rfl (fun b15 gb15 ub15 => ?_)
        refine w_pen (A := [_, _, _]) (Lr := Lr) ([[117, 112, 112, 101, 114], [61]]) (fun w => zR Tryd.func26 rfl rfl rfl) rfl rfl hO (fun w h => put_spec p _ _ w _ b15 ([[117, 112, 112, 101, 114], [61]]) (Nat.succ_pos _) (by first | omega | (simp only [List.length_append, List.length_cons, List.length_nil] at *; omega)) (.head _) h) (fun v16 W16 hO16 => ?_)
        refine yB ?_; refine zr ?_; refine mP e0_3 ?_; refine w_loadA z49 rfl (fun _ h => h.at_ 1 rfl) rfl ?_; refine w_pen (A := [_, _, _]) (Lr := Lr) (exT (Ex.mk op1 at1 nm1 ks1)) (fun w => zR Tryd.func39 rfl rfl rfl) rfl rfl hO16 (fun w h => pexpr_ok _ _ N y p _ _ w _ (by omega) hxo hE hn hy (by first | omega | (simp only [List.length_append, List.length_cons, List.length_nil] at *; omega)) h) (fun v17 W17 hO17 => ?_)
        refine zn ?_; refine b_on (zk ?_); refine zr ?_; refine w_r (fun _ => R_addi e47_3 rfl (by omega)) rfl rfl ?_; refine mI rfl ?_; refine zn ?_; refine k_st (B' := Bs) (L' := _) (fun w h => h.drop (List.sublist_append_right [_, _] _)) ?_; exact k_again _ (by omega) ⟨k + 1, _, _, e0_3, e3_3, e45_3, e46_3, rfl, rfl, rfl, by omega, OwnS.eq hO17 (by rw [hnx]; simp [lowW, upW]), rfl⟩
      · have hle := ldT_le upW up k
        refine c_exit ?_; refine zx (zx (b_here rfl (zk ?_))); refine zr ?_; refine mP e0_3 ?_; refine zS slt62 (by decide) rfl rfl (fun b18 gb18 ub18 => ?_)
        refine w_pen (A := [_, _]) (Lr := Lr) ([[62]]) (fun w => zR Tryd.func26 rfl rfl rfl) rfl rfl hO (fun w h => put_spec p _ _ w _ b18 ([[62]]) (Nat.succ_pos _) (by first | omega | (simp only [List.length_append, List.length_cons, List.length_nil] at *; omega)) (.head _) h) (fun v19 W19 hO19 => ?_)
        refine zn ?_; refine r_none (.inr rfl) rfl ?_; exact fun w' hw => ⟨rfl, PenAt.fin (A := [_, _]) hO19 (by rw [heq, List.take_of_length_le (by omega)]; simp) hw⟩

set_option maxRecDepth 100000 in
set_option maxHeartbeats 400000 in
theorem declC_spec (q2 q3 : Nat) (ty : Nat) (at_ : Int) (nm : Str) (sz lo up ini : List Ex) (sa : Option Addr) (sc : Nat) (la : Option Addr) (lc : Nat) (ua : Option Addr) (uc : Nat) (ia : Option Addr) (ic : Nat) (N : Nat → Prop) (y : World × (Nat → Prop)) (p : Nat) (Bs : Base) (Lr : Heap) (w : World) (xs : List Str) (hx : exsW sz < 10000000) (hll : sz.length ≤ 10000000) (hok : exsOk sz = true) (hm : exsM y.1 N sz sa 0) (hn : Apart y N) (hy : y ∈ Bs) (hq2 : (q2, cel [.pointer (some ⟨p, 0, none⟩)] 61) ∈ Lr) (hq3 : (q3, cel [.int .u8 (ty : Nat), .int .i64 at_, str nm, .slice sa sz.length sc, .slice la lo.length lc, .slice ua up.length uc, .slice ia ini.length ic] 53) ∈ Lr) (hb : xs.length + (rowT (exsT sz)).length + 2 ≤ 1000000000) (hP : Pen p xs Bs Lr w) :
    Ret Tryd.prog 48 #[.pointer (some ⟨q2, 0, none⟩), .pointer (some ⟨q3, 0, none⟩)] w (fun u w' => u = .tuple #[] ∧ Pen p (xs ++ ([[91]] ++ rowT (exsT sz) ++ [[93]])) Bs Lr w') := by
  obtain ⟨v, W, hO, hs⟩ := hP
  refine enterB (l := [_, _]) 12 Tryd.func48 rfl rfl rfl (hs) ?_; refine yA ?_; refine zl z61 rfl (fun _ h => by first | exact zc 0 rfl rfl h | exact zM (cs := [.pointer (some ⟨p, 0, none⟩)]) (T := 61) (by simp [hq2]) rfl h | exact zM (cs := [.int .u8 (ty : Nat), .int .i64 at_, str nm, .slice sa sz.length sc, .slice la lo.length lc, .slice ua up.length uc, .slice ia ini.length ic]) (T := 53) (by simp [hq3]) rfl h) ?_; refine zS slt62 (by decide) rfl rfl (fun b1 gb1 ub1 => ?_)
  refine w_pen (A := [_]) (Lr := Lr) ([[91]]) (fun w => zR Tryd.func26 rfl rfl rfl) rfl rfl hO (fun w h => put_spec p _ _ w _ b1 ([[91]]) (Nat.succ_pos _) (by first | omega | (simp only [List.length_append, List.length_cons, List.length_nil] at *; omega)) (.head _) h) (fun v2 W2 hO2 => ?_)
  refine yC ?_; refine zl z61 rfl (fun _ h => by first | exact zc 0 rfl rfl h | exact zc 1 rfl rfl h | exact zM (cs := [.pointer (some ⟨p, 0, none⟩)]) (T := 61) (by simp [hq2]) rfl h | exact zM (cs := [.int .u8 (ty : Nat), .int .i64 at_, str nm, .slice sa sz.length sc, .slice la lo.length lc, .slice ua up.length uc, .slice ia ini.length ic]) (T := 53) (by simp [hq3]) rfl h) ?_; refine zf fa53_3 rfl ?_; refine zl z36 rfl (fun _ h => by first | exact zc 0 rfl rfl h | exact zc 1 rfl rfl h | exact zM (cs := [.pointer (some ⟨p, 0, none⟩)]) (T := 61) (by simp [hq2]) rfl h | exact zM (cs := [.int .u8 (ty : Nat), .int .i64 at_, str nm, .slice sa sz.length sc, .slice la lo.length lc, .slice ua up.length uc, .slice ia ini.length ic]) (T := 53) (by simp [hq3]) rfl h) ?_
  refine w_pen (A := [_]) (Lr := Lr) (rowT (exsT sz)) (fun w => zR Tryd.func49 rfl rfl rfl) rfl rfl hO2 (fun w h => row_spec _ pexpr_ok (Nat.le_refl _) sz _ sc N y p _ _ w _ (fun x hx => by have := exsW_mem hx; omega) hll hok hm hn hy (by first | omega | (simp only [List.length_append, List.length_cons, List.length_nil] at *; omega)) h) (fun v3 W3 hO3 => ?_)
  refine yB ?_; refine zr ?_; refine zl z61 rfl (fun _ h => by first | exact zc 0 rfl rfl h | exact zc 1 rfl rfl h | exact zM (cs := [.pointer (some ⟨p, 0, none⟩)]) (T := 61) (by simp [hq2]) rfl h | exact zM (cs := [.int .u8 (ty : Nat), .int .i64 at_, str nm, .slice sa sz.length sc, .slice la lo.length lc, .slice ua up.length uc, .slice ia ini.length ic]) (T := 53) (by simp [hq3]) rfl h) ?_; refine zS slt62 (by decide) rfl rfl (fun b4 gb4 ub4 => ?_)
  refine w_pen (A := [_, _]) (Lr := Lr) ([[93]]) (fun w => zR Tryd.func26 rfl rfl rfl) rfl rfl hO3 (fun w h => put_spec p _ _ w _ b4 ([[93]]) (Nat.succ_pos _) (by first | omega | (simp only [List.length_append, List.length_cons, List.length_nil] at *; omega)) (.head _) h) (fun v5 W5 hO5 => ?_)
  refine zn ?_; refine r_none (.inr rfl) rfl ?_; exact fun w' hw => ⟨rfl, PenAt.fin (A := [_, _]) hO5 (by simp) hw⟩


theorem tys_get {ty : Nat} (h : ty < 6) : [str (tyT 0), str (tyT 1), str (tyT 2), str (tyT 3), str (tyT 4), str (tyT 5)][ty]? = some (str (tyT ty)) := by
  obtain rfl | rfl | rfl | rfl | rfl | rfl : ty = 0 ∨ ty = 1 ∨ ty = 2 ∨ ty = 3 ∨ ty = 4 ∨ ty = 5 := by omega
  all_goals rfl

set_option maxRecDepth 100000 in
set_option maxHeartbeats 8000000 in
theorem pdecl_spec (x : Dc) (cs : List Value) (N : Nat → Prop) (y : World × (Nat → Prop)) (p : Nat) (Bs : Base) (Lr : Heap) (w : World) (xs : List Str) (hx : dcW x < 10000000) (hok : dcOk x = true) (hm : dcM y.1 N x cs) (hn : Apart y N) (hy : y ∈ Bs) (hb : xs.length + (dcT x).length ≤ 1000000000) (hP : Pen p xs Bs Lr w) :
    Ret Tryd.prog 28 #[.pointer (some ⟨p, 0, none⟩), .agg cs.toArray] w (fun u w' => u = .tuple #[] ∧ Pen p (xs ++ dcT x) Bs Lr w') := by
  have hf := dc_facts hok
  obtain ⟨ty, at_, nm, sz, lo, up, ini⟩ := x
  have hm2 := hm
  unfold dcM at hm2
  obtain ⟨sa, sc, la, lc, ua, uc, ia, ic, hcs, hsz, hlo, hup, hini⟩ := hm2
  simp only [] at hcs
  subst hcs
  have hx2 := hx
  simp only [dcW] at hx2
  simp only [] at hsz hlo hup hini
  obtain ⟨v, W, hO, hs⟩ := hP
  obtain ⟨d0, hd0⟩ : ∃ d0, d0 = (Dc.mk ty at_ nm sz lo up ini) := ⟨_, rfl⟩
  have heq : dheadT d0 = (if 4 ≤ ty then [[97, 114, 114, 97, 121]] ++ ([[91]] ++ rowT (exsT sz) ++ [[93]]) else []) ++ [tyT ty] ++ boundsT (Dc.mk ty at_ nm sz lo up ini) ++ (if ty = 3 then ([[91]] ++ rowT (exsT sz) ++ [[93]]) else []) ++ [nm] := (by rw [hd0]; rfl)
  have hty1 : 1 ≤ ty := hf.1
  have hty5 : ty ≤ 5 := hf.2.1
  have hini0 : d0.init = ini := by rw [hd0]
  rw [← hd0, dcT_head, hini0] at hb
  rw [← hd0, dcT_head, hini0]
  simp only [List.length_append, List.length_cons, List.length_nil] at hb
  refine enterB (l := [_, _]) 53 Tryd.func28 rfl rfl rfl (hs) ?_; refine yA ?_; refine w_box rfl (fun t2b gt2b ut2b => ?_)
  refine w_boxA rfl (fun t3b gt3b ut3b => ?_)
  refine yC ?_; refine w_r (fun _ => R_makeFunc) rfl rfl ?_; refine za rfl ?_; refine yB ?_; refine zq ?_; refine yA ?_; refine zf fa53_0 rfl ?_; refine zl z5 rfl (fun _ h => zc 0 rfl rfl h) ?_; refine w_r (fun _ => R_ge rfl rfl) rfl rfl ?_; refine yB ?_; refine zD rfl (fun h3 => ?_) (fun h3 => ?_)
  · rw [if_pos (by omega)] at heq; have hl := congrArg List.length heq; simp only [List.length_append, List.length_cons, List.length_nil] at hl
    refine yA ?_; refine zl z61 rfl (fun _ h => zc 1 rfl rfl h) ?_; refine zS slt62 (by decide) rfl rfl (fun b4 gb4 ub4 => ?_)
    refine w_pen (A := [_, _, _]) (Lr := Lr) ([[97, 114, 114, 97, 121]]) (fun w => zR Tryd.func26 rfl rfl rfl) rfl rfl hO (fun w h => put_spec p _ _ w _ b4 ([[97, 114, 114, 97, 121]]) (Nat.succ_pos _) (by first | omega | (simp only [List.length_append, List.length_cons, List.length_nil] at *; omega)) (.head _) h) (fun v5 W5 hO5 => ?_)
    refine yB ?_; refine zr ?_; refine zm rfl ?_; refine w_pen (A := [_, _, _]) (Lr := Lr) (([[91]] ++ rowT (exsT sz) ++ [[93]])) (fun w => R_callv rfl Tryd.func48 rfl rfl) rfl rfl hO5 (fun w h => declC_spec t2b t3b _ at_ nm sz lo up ini sa sc la lc ua uc ia ic N y p _ _ w _ (by omega) (by omega) hf.2.2.1 hsz hn hy (.tail _ (.tail _ (.head _))) (.tail _ (.head _)) (by first | omega | (simp only [List.length_append, List.length_cons, List.length_nil] at *; omega)) h) (fun v6 W6 hO6 => ?_)
    refine yB ?_; refine zq ?_; refine c_held (St Bs [(t3b, cel [.int .u8 (ty : Nat), .int .i64 at_, str nm, .slice sa sz.length sc, .slice la lo.length lc, .slice ua up.length uc, .slice ia ini.length ic] 53), (t2b, cel [.pointer (some ⟨p, 0, none⟩)] 61)]) mixed ?_; refine zh 0 rfl (by kernel_rfl) rfl rfl (fun w h => h.drop (.cons _ (.cons_cons _ (.cons_cons _ (List.nil_sublist _))))) (fun w h => R_ld1 z61 rfl (by first | exact zc 0 rfl rfl h | exact zc 1 rfl rfl h)) ?_; refine zh 1 rfl (by kernel_rfl) rfl rfl (fun w h => h.drop (.cons _ (.cons_cons _ (.cons_cons _ (List.nil_sublist _))))) (fun w h => R_buildA ar60 zr60 rfl) ?_; refine zh 2 rfl (by kernel_rfl) rfl rfl (fun w h => h.drop (.cons _ (.cons_cons _ (.cons_cons _ (List.nil_sublist _))))) (fun w h => R_fa fa53_0 rfl) ?_
    refine zh 3 rfl (by kernel_rfl) rfl rfl (fun w h => h.drop (.cons _ (.cons_cons _ (.cons_cons _ (List.nil_sublist _))))) (fun w h => R_ld1 z5 rfl (by first | exact zc 0 rfl rfl h | exact zc 1 rfl rfl h)) ?_; refine zh 4 rfl (by kernel_rfl) rfl rfl (fun w h => h.drop (.cons _ (.cons_cons _ (.cons_cons _ (List.nil_sublist _))))) (fun w h => R_aidx (i := ty) (l := [str (tyT 0), str (tyT 1), str (tyT 2), str (tyT 3), str (tyT 4), str (tyT 5)]) ar60 rfl rfl (by rw [Nat.blt_eq]; omega) (tys_get (by omega))) ?_; refine h_bslice 5 rfl (by kernel_rfl) (fun w h => h.drop (.cons _ (.cons_cons _ (.cons_cons _ (List.nil_sublist _))))) slt62 (by decide) rfl rfl (fun b7 => ?_)
    refine h_pen (A := [_, _, _, _]) (Lr := Lr) [tyT ty] 6 rfl (by kernel_rfl) rfl rfl (fun w h => h.drop (.cons _ (.cons _ (.cons_cons _ (.cons_cons _ (List.nil_sublist _)))))) (fun w => zR Tryd.func26 rfl rfl rfl) hO6 (fun w h => put_spec p _ _ w _ b7 [tyT ty] (Nat.succ_pos _) (by first | omega | (simp only [List.length_append, List.length_cons, List.length_nil] at *; omega)) (.head _) h) (fun v8 W8 hO8 => ?_)
    refine h_done (by kernel_rfl) (fun w h => h.drop (.cons _ (.cons _ (.cons_cons _ (.cons_cons _ (List.nil_sublist _)))))) ?_; refine zk ?_; refine yA ?_; refine zl z61 rfl (fun _ h => zc 3 rfl rfl h) ?_; refine w_loadA z53 rfl (fun _ h => h.at_ 2 rfl) rfl ?_; refine w_pen (A := [_, _, _, _]) (Lr := Lr) (boundsT (Dc.mk ty at_ nm sz lo up ini)) (fun w => zR Tryd.func50 rfl rfl rfl) rfl rfl hO8 (fun w h => bounds_spec _ _ N y p _ _ w _ hx hok hm hn hy (by first | omega | (simp only [List.length_append, List.length_cons, List.length_nil] at *; omega)) h) (fun v9 W9 hO9 => ?_)
    refine yB ?_; refine zq ?_; refine yA ?_; refine zf fa53_0 rfl ?_; refine zl z5 rfl (fun _ h => zc 2 rfl rfl h) ?_; refine w_r (fun _ => R_eq rfl rfl) rfl rfl ?_; refine yB ?_; refine zD rfl (fun h10 => ?_) (fun h10 => ?_)
    · rw [if_pos (by omega)] at heq; have hl := congrArg List.length heq; simp only [List.length_append, List.length_cons, List.length_nil] at hl
      refine zr ?_; refine zm rfl ?_; refine w_pen (A := [_, _, _, _]) (Lr := Lr) (([[91]] ++ rowT (exsT sz) ++ [[93]])) (fun w => R_callv rfl Tryd.func48 rfl rfl) rfl rfl hO9 (fun w h => declC_spec t2b t3b _ at_ nm sz lo up ini sa sc la lc ua uc ia ic N y p _ _ w _ (by omega) (by omega) hf.2.2.1 hsz hn hy (.tail _ (.tail _ (.tail _ (.head _)))) (.tail _ (.tail _ (.head _))) (by first | omega | (simp only [List.length_append, List.length_cons, List.length_nil] at *; omega)) h) (fun v11 W11 hO11 => ?_)
      refine yC ?_; refine zl z61 rfl (fun _ h => zc 3 rfl rfl h) ?_; refine zf fa53_2 rfl ?_; refine zl z9 rfl (fun _ h => zc 2 rfl rfl h) ?_; refine zS slt62 (by decide) rfl rfl (fun b12 gb12 ub12 => ?_)
      refine w_pen (A := [_, _, _, _, _]) (Lr := Lr) ([nm]) (fun w => zR Tryd.func26 rfl rfl rfl) rfl rfl hO11 (fun w h => put_spec p _ _ w _ b12 ([nm]) (Nat.succ_pos _) (by first | omega | (simp only [List.length_append, List.length_cons, List.length_nil] at *; omega)) (.head _) h) (fun v13 W13 hO13 => ?_)
      refine yB ?_; refine zq ?_; refine yA ?_; refine zf fa53_6 rfl ?_; refine zl z36 rfl (fun _ h => zc 3 rfl rfl h) ?_; refine w_r (fun _ => R_len sl36 rfl) rfl rfl ?_; refine mI rfl ?_; refine yB ?_; refine zB ?_; refine c_st (B' := Bs) (L' := (t3b, cel [.int .u8 (ty : Nat), .int .i64 at_, str nm, .slice sa sz.length sc, .slice la lo.length lc, .slice ua up.length uc, .slice ia ini.length ic] 53) :: (t2b, cel [.pointer (some ⟨p, 0, none⟩)] 61) :: _) (fun w h => h.drop (List.sublist_append_right [_, _, _] _)) ?_
      refine c_loop (fun m e B L => ∃ (k : Nat) (v : Value) (W : Heap), e 0 = .pointer (some ⟨p, 0, none⟩) ∧ e 2 = .pointer (some ⟨t2b, 0, none⟩) ∧ e 3 = .pointer (some ⟨t3b, 0, none⟩) ∧ e 37 = .slice ia ini.length ic ∧ e 38 = .int .i64 (ini.length : Nat) ∧ e 39 = .int .i64 (k : Nat) ∧ Bs = B ∧ L = (t3b, cel [.int .u8 (ty : Nat), .int .i64 at_, str nm, .slice sa sz.length sc, .slice la lo.length lc, .slice ua up.length uc, .slice ia ini.length ic] 53) :: (t2b, cel [.pointer (some ⟨p, 0, none⟩)] 61) :: (p, cel [v] 64) :: (W ++ Lr) ∧ k ≤ ini.length ∧ OwnT v (xs ++ dheadT d0 ++ ldT [[61]] (ini.take k)) W ∧ m = ini.length - k) _ ⟨0, _, _, rfl, rfl, rfl, rfl, rfl, rfl, rfl, rfl, Nat.zero_le _, OwnS.eq hO13 (by rw [heq]; simp [ldT]), rfl⟩ ?_
      rintro m e B L ⟨k, v, W, e0_1, e2_1, e3_1, e37_1, e38_1, e39_1, rfl, rfl, hk, hO, rfl⟩
      refine yA ?_; refine w_r (fun _ => R_lt e39_1 e38_1) rfl rfl ?_; refine yB ?_; refine zq ?_; refine zD rfl (fun h14 => ?_) (fun h14 => ?_)
      · have hlt : k < ini.length := (by omega); obtain ⟨x1, hxk⟩ : ∃ x, ini[k]? = some x := ⟨_, List.getElem?_eq_getElem hlt⟩; obtain ⟨cs1, hA, hE⟩ := hini.get0 hxk; have hxn := exsW_mem (List.mem_of_getElem? hxk); have hxo := penOk_of (exsOk_get hf.2.2.2.2.2 hxk); have hle := ldT_le [[61]] ini (k + 1); have hnx := ldT_next (pre := [[61]]) hxk; have hnl := congrArg List.length hnx; simp only [List.length_append] at hnl; have hpl : List.length [[61]] = 1 := rfl; obtain ⟨b1, o1, rfl⟩ := hA.ptr; obtain ⟨op1, at1, nm1, ks1⟩ := x1; have hE2 := hE; unfold exM at hE2; obtain ⟨ka1, kc1, rfl, hkc1, hks1⟩ := hE2
        refine zi ?_; refine zk ?_; refine zq ?_; refine zB ?_; refine yA ?_; refine w_r (fun _ => R_iaN (i := k) sl36 e37_1 e39_1 (by first | omega | decide)) rfl rfl ?_; refine w_loadC (l := [.int .u8 (op1 : Nat), .int .i64 at1, str nm1, .slice ka1 ks1.length kc1]) z49 rfl rfl (fun w h j v hj => hA.cell hn hy h j v hj) ?_; refine w_alloc zr49 (fun t6b gt6b ut6b => ?_)
        refine w_store 0 rfl z49 rfl rfl rfl rfl rfl rfl rfl ?_; refine yC ?_; refine zl z61 e2_1 (fun _ h => zc 2 rfl rfl h) ?_; refine zS slt62 (by decide) rfl rfl (fun b16 gb16 ub16 => ?_)
        refine w_pen (A := [_, _, _, _]) (Lr := Lr) ([[61]]) (fun w => zR Tryd.func26 rfl rfl rfl) rfl rfl hO (fun w h => put_spec p _ _ w _ b16 ([[61]]) (Nat.succ_pos _) (by first | omega | (simp only [List.length_append, List.length_cons, List.length_nil] at *; omega)) (.head _) h) (fun v17 W17 hO17 => ?_)
        refine yB ?_; refine zr ?_; refine zl z61 e2_1 (fun _ h => zc 3 rfl rfl h) ?_; refine w_loadA z49 rfl (fun _ h => h.at_ 1 rfl) rfl ?_; refine w_pen (A := [_, _, _, _]) (Lr := Lr) (exT (Ex.mk op1 at1 nm1 ks1)) (fun w => zR Tryd.func39 rfl rfl rfl) rfl rfl hO17 (fun w h => pexpr_ok _ _ N y p _ _ w _ (by omega) hxo hE hn hy (by first | omega | (simp only [List.length_append, List.length_cons, List.length_nil] at *; omega)) h) (fun v18 W18 hO18 => ?_)
        refine zn ?_; refine b_on (zk ?_); refine zr ?_; refine w_r (fun _ => R_addi e39_1 rfl (by omega)) rfl rfl ?_; refine mI rfl ?_; refine zn ?_; refine k_st (B' := Bs) (L' := _) (fun w h => h.drop (List.sublist_append_right [_, _] _)) ?_; exact k_again _ (by omega) ⟨k + 1, _, _, e0_1, e2_1, e3_1, e37_1, e38_1, rfl, rfl, rfl, by omega, OwnS.eq hO18 (by rw [hnx]; simp), rfl⟩
      · have hle := ldT_le [[61]] ini k
        refine c_exit ?_; refine zx (zx (b_here rfl (zk ?_))); refine zr ?_; refine zl z61 e2_1 (fun _ h => zc 1 rfl rfl h) ?_; refine zS slt62 (by decide) rfl rfl (fun b19 gb19 ub19 => ?_)
        refine w_pen (A := [_, _, _]) (Lr := Lr) ([[59]]) (fun w => zR Tryd.func26 rfl rfl rfl) rfl rfl hO (fun w h => put_spec p _ _ w _ b19 ([[59]]) (Nat.succ_pos _) (by first | omega | (simp only [List.length_append, List.length_cons, List.length_nil] at *; omega)) (.head _) h) (fun v20 W20 hO20 => ?_)
        refine zn ?_; refine r_none (.inr rfl) rfl ?_; exact fun w' hw => ⟨rfl, PenAt.fin (A := [_, _, _]) hO20 (by rw [List.take_of_length_le (by omega)]; simp) hw⟩
    · rw [if_neg (by omega)] at heq; have hl := congrArg List.length heq; simp only [List.length_append, List.length_cons, List.length_nil] at hl
      refine zi ?_; refine zk ?_; refine yA ?_; refine zl z61 rfl (fun _ h => zc 3 rfl rfl h) ?_; refine zf fa53_2 rfl ?_; refine zl z9 rfl (fun _ h => zc 2 rfl rfl h) ?_; refine zS slt62 (by decide) rfl rfl (fun b21 gb21 ub21 => ?_)
      refine w_pen (A := [_, _, _, _, _]) (Lr := Lr) ([nm]) (fun w => zR Tryd.func26 rfl rfl rfl) rfl rfl hO9 (fun w h => put_spec p _ _ w _ b21 ([nm]) (Nat.succ_pos _) (by first | omega | (simp only [List.length_append, List.length_cons, List.length_nil] at *; omega)) (.head _) h) (fun v22 W22 hO22 => ?_)
      refine yB ?_; refine zq ?_; refine yA ?_; refine zf fa53_6 rfl ?_; refine zl z36 rfl (fun _ h => zc 3 rfl rfl h) ?_; refine w_r (fun _ => R_len sl36 rfl) rfl rfl ?_; refine mI rfl ?_; refine yB ?_; refine zB ?_; refine c_st (B' := Bs) (L' := (t3b, cel [.int .u8 (ty : Nat), .int .i64 at_, str nm, .slice sa sz.length sc, .slice la lo.length lc, .slice ua up.length uc, .slice ia ini.length ic] 53) :: (t2b, cel [.pointer (some ⟨p, 0, none⟩)] 61) :: _) (fun w h => h.drop (List.sublist_append_right [_, _, _] _)) ?_
      refine c_loop (fun m e B L => ∃ (k : Nat) (v : Value) (W : Heap), e 0 = .pointer (some ⟨p, 0, none⟩) ∧ e 2 = .pointer (some ⟨t2b, 0, none⟩) ∧ e 3 = .pointer (some ⟨t3b, 0, none⟩) ∧ e 37 = .slice ia ini.length ic ∧ e 38 = .int .i64 (ini.length : Nat) ∧ e 39 = .int .i64 (k : Nat) ∧ Bs = B ∧ L = (t3b, cel [.int .u8 (ty : Nat), .int .i64 at_, str nm, .slice sa sz.length sc, .slice la lo.length lc, .slice ua up.length uc, .slice ia ini.length ic] 53) :: (t2b, cel [.pointer (some ⟨p, 0, none⟩)] 61) :: (p, cel [v] 64) :: (W ++ Lr) ∧ k ≤ ini.length ∧ OwnT v (xs ++ dheadT d0 ++ ldT [[61]] (ini.take k)) W ∧ m = ini.length - k) _ ⟨0, _, _, rfl, rfl, rfl, rfl, rfl, rfl, rfl, rfl, Nat.zero_le _, OwnS.eq hO22 (by rw [heq]; simp [ldT]), rfl⟩ ?_
      rintro m e B L ⟨k, v, W, e0_2, e2_2, e3_2, e37_2, e38_2, e39_2, rfl, rfl, hk, hO, rfl⟩
      refine yA ?_; refine w_r (fun _ => R_lt e39_2 e38_2) rfl rfl ?_; refine yB ?_; refine zq ?_; refine zD rfl (fun h23 => ?_) (fun h23 => ?_)
      · have hlt : k < ini.length := (by omega); obtain ⟨x1, hxk⟩ : ∃ x, ini[k]? = some x := ⟨_, List.getElem?_eq_getElem hlt⟩; obtain ⟨cs1, hA, hE⟩ := hini.get0 hxk; have hxn := exsW_mem (List.mem_of_getElem? hxk); have hxo := penOk_of (exsOk_get hf.2.2.2.2.2 hxk); have hle := ldT_le [[61]] ini (k + 1); have hnx := ldT_next (pre := [[61]]) hxk; have hnl := congrArg List.length hnx; simp only [List.length_append] at hnl; have hpl : List.length [[61]] = 1 := rfl; obtain ⟨b1, o1, rfl⟩ := hA.ptr; obtain ⟨op1, at1, nm1, ks1⟩ := x1; have hE2 := hE; unfold exM at hE2; obtain ⟨ka1, kc1, rfl, hkc1, hks1⟩ := hE2
        refine zi ?_; refine zk ?_; refine zq ?_; refine zB ?_; refine yA ?_; refine w_r (fun _ => R_iaN (i := k) sl36 e37_2 e39_2 (by first | omega | decide)) rfl rfl ?_; refine w_loadC (l := [.int .u8 (op1 : Nat), .int .i64 at1, str nm1, .slice ka1 ks1.length kc1]) z49 rfl rfl (fun w h j v hj => hA.cell hn hy h j v hj) ?_; refine w_alloc zr49 (fun t6b gt6b ut6b => ?_)
        refine w_store 0 rfl z49 rfl rfl rfl rfl rfl rfl rfl ?_; refine yC ?_; refine zl z61 e2_2 (fun _ h => zc 2 rfl rfl h) ?_; refine zS slt62 (by decide) rfl rfl (fun b25 gb25 ub25 => ?_)
        refine w_pen (A := [_, _, _, _]) (Lr := Lr) ([[61]]) (fun w => zR Tryd.func26 rfl rfl rfl) rfl rfl hO (fun w h => put_spec p _ _ w _ b25 ([[61]]) (Nat.succ_pos _) (by first | omega | (simp only [List.length_append, List.length_cons, List.length_nil] at *; omega)) (.head _) h) (fun v26 W26 hO26 => ?_)
        refine yB ?_; refine zr ?_; refine zl z61 e2_2 (fun _ h => zc 3 rfl rfl h) ?_; refine w_loadA z49 rfl (fun _ h => h.at_ 1 rfl) rfl ?_; refine w_pen (A := [_, _, _, _]) (Lr := Lr) (exT (Ex.mk op1 at1 nm1 ks1)) (fun w => zR Tryd.func39 rfl rfl rfl) rfl rfl hO26 (fun w h => pexpr_ok _ _ N y p _ _ w _ (by omega) hxo hE hn hy (by first | omega | (simp only [List.length_append, List.length_cons, List.length_nil] at *; omega)) h) (fun v27 W27 hO27 => ?_)
        refine zn ?_; refine b_on (zk ?_); refine zr ?_; refine w_r (fun _ => R_addi e39_2 rfl (by omega)) rfl rfl ?_; refine mI rfl ?_; refine zn ?_; refine k_st (B' := Bs) (L' := _) (fun w h => h.drop (List.sublist_append_right [_, _] _)) ?_; exact k_again _ (by omega) ⟨k + 1, _, _, e0_2, e2_2, e3_2, e37_2, e38_2, rfl, rfl, rfl, by omega, OwnS.eq hO27 (by rw [hnx]; simp), rfl⟩
      · have hle := ldT_le [[61]] ini k
        refine c_exit ?_; refine zx (zx (b_here rfl (zk ?_))); refine zr ?_; refine zl z61 e2_2 (fun _ h => zc 1 rfl rfl h) ?_; refine zS slt62 (by decide) rfl rfl (fun b28 gb28 ub28 => ?_)
        refine w_pen (A := [_, _, _]) (Lr := Lr) ([[59]]) (fun w => zR Tryd.func26 rfl rfl rfl) rfl rfl hO (fun w h => put_spec p _ _ w _ b28 ([[59]]) (Nat.succ_pos _) (by first | omega | (simp only [List.length_append, List.length_cons, List.length_nil] at *; omega)) (.head _) h) (fun v29 W29 hO29 => ?_)
        refine zn ?_; refine r_none (.inr rfl) rfl ?_; exact fun w' hw => ⟨rfl, PenAt.fin (A := [_, _, _]) hO29 (by rw [List.take_of_length_le (by omega)]; simp) hw⟩
  · rw [if_neg (by omega)] at heq; have hl := congrArg List.length heq; simp only [List.length_append, List.length_cons, List.length_nil] at hl
    refine zi ?_; refine zk ?_; refine zq ?_; refine c_held (St Bs [(t3b, cel [.int .u8 (ty : Nat), .int .i64 at_, str nm, .slice sa sz.length sc, .slice la lo.length lc, .slice ua up.length uc, .slice ia ini.length ic] 53), (t2b, cel [.pointer (some ⟨p, 0, none⟩)] 61)]) mixed ?_; refine zh 0 rfl (by kernel_rfl) rfl rfl (fun w h => h.drop (.cons_cons _ (.cons_cons _ (List.nil_sublist _)))) (fun w h => R_ld1 z61 rfl (by first | exact zc 0 rfl rfl h | exact zc 1 rfl rfl h)) ?_; refine zh 1 rfl (by kernel_rfl) rfl rfl (fun w h => h.drop (.cons_cons _ (.cons_cons _ (List.nil_sublist _)))) (fun w h => R_buildA ar60 zr60 rfl) ?_; refine zh 2 rfl (by kernel_rfl) rfl rfl (fun w h => h.drop (.cons_cons _ (.cons_cons _ (List.nil_sublist _)))) (fun w h => R_fa fa53_0 rfl) ?_
    refine zh 3 rfl (by kernel_rfl) rfl rfl (fun w h => h.drop (.cons_cons _ (.cons_cons _ (List.nil_sublist _)))) (fun w h => R_ld1 z5 rfl (by first | exact zc 0 rfl rfl h | exact zc 1 rfl rfl h)) ?_; refine zh 4 rfl (by kernel_rfl) rfl rfl (fun w h => h.drop (.cons_cons _ (.cons_cons _ (List.nil_sublist _)))) (fun w h => R_aidx (i := ty) (l := [str (tyT 0), str (tyT 1), str (tyT 2), str (tyT 3), str (tyT 4), str (tyT 5)]) ar60 rfl rfl (by rw [Nat.blt_eq]; omega) (tys_get (by omega))) ?_; refine h_bslice 5 rfl (by kernel_rfl) (fun w h => h.drop (.cons_cons _ (.cons_cons _ (List.nil_sublist _)))) slt62 (by decide) rfl rfl (fun b30 => ?_)
    refine h_pen (A := [_, _, _]) (Lr := Lr) [tyT ty] 6 rfl (by kernel_rfl) rfl rfl (fun w h => h.drop (.cons _ (.cons_cons _ (.cons_cons _ (List.nil_sublist _))))) (fun w => zR Tryd.func26 rfl rfl rfl) hO (fun w h => put_spec p _ _ w _ b30 [tyT ty] (Nat.succ_pos _) (by first | omega | (simp only [List.length_append, List.length_cons, List.length_nil] at *; omega)) (.head _) h) (fun v31 W31 hO31 => ?_)
    refine h_done (by kernel_rfl) (fun w h => h.drop (.cons _ (.cons_cons _ (.cons_cons _ (List.nil_sublist _))))) ?_; refine zk ?_; refine yA ?_; refine zl z61 rfl (fun _ h => zc 2 rfl rfl h) ?_; refine w_loadA z53 rfl (fun _ h => h.at_ 1 rfl) rfl ?_; refine w_pen (A := [_, _, _]) (Lr := Lr) (boundsT (Dc.mk ty at_ nm sz lo up ini)) (fun w => zR Tryd.func50 rfl rfl rfl) rfl rfl hO31 (fun w h => bounds_spec _ _ N y p _ _ w _ hx hok hm hn hy (by first | omega | (simp only [List.length_append, List.length_cons, List.length_nil] at *; omega)) h) (fun v32 W32 hO32 => ?_)
    refine yB ?_; refine zq ?_; refine yA ?_; refine zf fa53_0 rfl ?_; refine zl z5 rfl (fun _ h => zc 1 rfl rfl h) ?_; refine w_r (fun _ => R_eq rfl rfl) rfl rfl ?_; refine yB ?_; refine zD rfl (fun h33 => ?_) (fun h33 => ?_)
    · rw [if_pos (by omega)] at heq; have hl := congrArg List.length heq; simp only [List.length_append, List.length_cons, List.length_nil] at hl
      refine zr ?_; refine zm rfl ?_; refine w_pen (A := [_, _, _]) (Lr := Lr) (([[91]] ++ rowT (exsT sz) ++ [[93]])) (fun w => R_callv rfl Tryd.func48 rfl rfl) rfl rfl hO32 (fun w h => declC_spec t2b t3b _ at_ nm sz lo up ini sa sc la lc ua uc ia ic N y p _ _ w _ (by omega) (by omega) hf.2.2.1 hsz hn hy (.tail _ (.tail _ (.head _))) (.tail _ (.head _)) (by first | omega | (simp only [List.length_append, List.length_cons, List.length_nil] at *; omega)) h) (fun v34 W34 hO34 => ?_)
      refine yC ?_; refine zl z61 rfl (fun _ h => zc 2 rfl rfl h) ?_; refine zf fa53_2 rfl ?_; refine zl z9 rfl (fun _ h => zc 1 rfl rfl h) ?_; refine zS slt62 (by decide) rfl rfl (fun b35 gb35 ub35 => ?_)
      refine w_pen (A := [_, _, _, _]) (Lr := Lr) ([nm]) (fun w => zR Tryd.func26 rfl rfl rfl) rfl rfl hO34 (fun w h => put_spec p _ _ w _ b35 ([nm]) (Nat.succ_pos _) (by first | omega | (simp only [List.length_append, List.length_cons, List.length_nil] at *; omega)) (.head _) h) (fun v36 W36 hO36 => ?_)
      refine yB ?_; refine zq ?_; refine yA ?_; refine zf fa53_6 rfl ?_; refine zl z36 rfl (fun _ h => zc 2 rfl rfl h) ?_; refine w_r (fun _ => R_len sl36 rfl) rfl rfl ?_; refine mI rfl ?_; refine yB ?_; refine zB ?_; refine c_st (B' := Bs) (L' := (t3b, cel [.int .u8 (ty : Nat), .int .i64 at_, str nm, .slice sa sz.length sc, .slice la lo.length lc, .slice ua up.length uc, .slice ia ini.length ic] 53) :: (t2b, cel [.pointer (some ⟨p, 0, none⟩)] 61) :: _) (fun w h => h.drop (List.sublist_append_right [_, _] _)) ?_
      refine c_loop (fun m e B L => ∃ (k : Nat) (v : Value) (W : Heap), e 0 = .pointer (some ⟨p, 0, none⟩) ∧ e 2 = .pointer (some ⟨t2b, 0, none⟩) ∧ e 3 = .pointer (some ⟨t3b, 0, none⟩) ∧ e 37 = .slice ia ini.length ic ∧ e 38 = .int .i64 (ini.length : Nat) ∧ e 39 = .int .i64 (k : Nat) ∧ Bs = B ∧ L = (t3b, cel [.int .u8 (ty : Nat), .int .i64 at_, str nm, .slice sa sz.length sc, .slice la lo.length lc, .slice ua up.length uc, .slice ia ini.length ic] 53) :: (t2b, cel [.pointer (some ⟨p, 0, none⟩)] 61) :: (p, cel [v] 64) :: (W ++ Lr) ∧ k ≤ ini.length ∧ OwnT v (xs ++ dheadT d0 ++ ldT [[61]] (ini.take k)) W ∧ m = ini.length - k) _ ⟨0, _, _, rfl, rfl, rfl, rfl, rfl, rfl, rfl, rfl, Nat.zero_le _, OwnS.eq hO36 (by rw [heq]; simp [ldT]), rfl⟩ ?_
      rintro m e B L ⟨k, v, W, e0_3, e2_3, e3_3, e37_3, e38_3, e39_3, rfl, rfl, hk, hO, rfl⟩
      refine yA ?_; refine w_r (fun _ => R_lt e39_3 e38_3) rfl rfl ?_; refine yB ?_; refine zq ?_; refine zD rfl (fun h37 => ?_) (fun h37 => ?_)
      · have hlt : k < ini.length := (by omega); obtain ⟨x1, hxk⟩ : ∃ x, ini[k]? = some x := ⟨_, List.getElem?_eq_getElem hlt⟩; obtain ⟨cs1, hA, hE⟩ := hini.get0 hxk; have hxn := exsW_mem (List.mem_of_getElem? hxk); have hxo := penOk_of (exsOk_get hf.2.2.2.2.2 hxk); have hle := ldT_le [[61]] ini (k + 1); have hnx := ldT_next (pre := [[61]]) hxk; have hnl := congrArg List.length hnx; simp only [List.length_append] at hnl; have hpl : List.length [[61]] = 1 := rfl; obtain ⟨b1, o1, rfl⟩ := hA.ptr; obtain ⟨op1, at1, nm1, ks1⟩ := x1; have hE2 := hE; unfold exM at hE2; obtain ⟨ka1, kc1, rfl, hkc1, hks1⟩ := hE2
        refine zi ?_; refine zk ?_; refine zq ?_; refine zB ?_; refine yA ?_; refine w_r (fun _ => R_iaN (i := k) sl36 e37_3 e39_3 (by first | omega | decide)) rfl rfl ?_; refine w_loadC (l := [.int .u8 (op1 : Nat), .int .i64 at1, str nm1, .slice ka1 ks1.length kc1]) z49 rfl rfl (fun w h j v hj => hA.cell hn hy h j v hj) ?_; refine w_alloc zr49 (fun t6b gt6b ut6b => ?_)
        refine w_store 0 rfl z49 rfl rfl rfl rfl rfl rfl rfl ?_; refine yC ?_; refine zl z61 e2_3 (fun _ h => zc 2 rfl rfl h) ?_; refine zS slt62 (by decide) rfl rfl (fun b39 gb39 ub39 => ?_)
        refine w_pen (A := [_, _, _, _]) (Lr := Lr) ([[61]]) (fun w => zR Tryd.func26 rfl rfl rfl) rfl rfl hO (fun w h => put_spec p _ _ w _ b39 ([[61]]) (Nat.succ_pos _) (by first | omega | (simp only [List.length_append, List.length_cons, List.length_nil] at *; omega)) (.head _) h) (fun v40 W40 hO40 => ?_)
        refine yB ?_; refine zr ?_; refine zl z61 e2_3 (fun _ h => zc 3 rfl rfl h) ?_; refine w_loadA z49 rfl (fun _ h => h.at_ 1 rfl) rfl ?_; refine w_pen (A := [_, _, _, _]) (Lr := Lr) (exT (Ex.mk op1 at1 nm1 ks1)) (fun w => zR Tryd.func39 rfl rfl rfl) rfl rfl hO40 (fun w h => pexpr_ok _ _ N y p _ _ w _ (by omega) hxo hE hn hy (by first | omega | (simp only [List.length_append, List.length_cons, List.length_nil] at *; omega)) h) (fun v41 W41 hO41 => ?_)
        refine zn ?_; refine b_on (zk ?_); refine zr ?_; refine w_r (fun _ => R_addi e39_3 rfl (by omega)) rfl rfl ?_; refine mI rfl ?_; refine zn ?_; refine k_st (B' := Bs) (L' := _) (fun w h => h.drop (List.sublist_append_right [_, _] _)) ?_; exact k_again _ (by omega) ⟨k + 1, _, _, e0_3, e2_3, e3_3, e37_3, e38_3, rfl, rfl, rfl, by omega, OwnS.eq hO41 (by rw [hnx]; simp), rfl⟩
      · have hle := ldT_le [[61]] ini k
        refine c_exit ?_; refine zx (zx (b_here rfl (zk ?_))); refine zr ?_; refine zl z61 e2_3 (fun _ h => zc 1 rfl rfl h) ?_; refine zS slt62 (by decide) rfl rfl (fun b42 gb42 ub42 => ?_)
        refine w_pen (A := [_, _, _]) (Lr := Lr) ([[59]]) (fun w => zR Tryd.func26 rfl rfl rfl) rfl rfl hO (fun w h => put_spec p _ _ w _ b42 ([[59]]) (Nat.succ_pos _) (by first | omega | (simp only [List.length_append, List.length_cons, List.length_nil] at *; omega)) (.head _) h) (fun v43 W43 hO43 => ?_)
        refine zn ?_; refine r_none (.inr rfl) rfl ?_; exact fun w' hw => ⟨rfl, PenAt.fin (A := [_, _, _]) hO43 (by rw [List.take_of_length_le (by omega)]; simp) hw⟩
    · rw [if_neg (by omega)] at heq; have hl := congrArg List.length heq; simp only [List.length_append, List.length_cons, List.length_nil] at hl
      refine zi ?_; refine zk ?_; refine yA ?_; refine zl z61 rfl (fun _ h => zc 2 rfl rfl h) ?_; refine zf fa53_2 rfl ?_; refine zl z9 rfl (fun _ h => zc 1 rfl rfl h) ?_; refine zS slt62 (by decide) rfl rfl (fun b44 gb44 ub44 => ?_)
      refine w_pen (A := [_, _, _, _]) (Lr := Lr) ([nm]) (fun w => zR Tryd.func26 rfl rfl rfl) rfl rfl hO32 (fun w h => put_spec p _ _ w _ b44 ([nm]) (Nat.succ_pos _) (by first | omega | (simp only [List.length_append, List.length_cons, List.length_nil] at *; omega)) (.head _) h) (fun v45 W45 hO45 => ?_)
      refine yB ?_; refine zq ?_; refine yA ?_; refine zf fa53_6 rfl ?_; refine zl z36 rfl (fun _ h => zc 2 rfl rfl h) ?_; refine w_r (fun _ => R_len sl36 rfl) rfl rfl ?_; refine mI rfl ?_; refine yB ?_; refine zB ?_; refine c_st (B' := Bs) (L' := (t3b, cel [.int .u8 (ty : Nat), .int .i64 at_, str nm, .slice sa sz.length sc, .slice la lo.length lc, .slice ua up.length uc, .slice ia ini.length ic] 53) :: (t2b, cel [.pointer (some ⟨p, 0, none⟩)] 61) :: _) (fun w h => h.drop (List.sublist_append_right [_, _] _)) ?_
      refine c_loop (fun m e B L => ∃ (k : Nat) (v : Value) (W : Heap), e 0 = .pointer (some ⟨p, 0, none⟩) ∧ e 2 = .pointer (some ⟨t2b, 0, none⟩) ∧ e 3 = .pointer (some ⟨t3b, 0, none⟩) ∧ e 37 = .slice ia ini.length ic ∧ e 38 = .int .i64 (ini.length : Nat) ∧ e 39 = .int .i64 (k : Nat) ∧ Bs = B ∧ L = (t3b, cel [.int .u8 (ty : Nat), .int .i64 at_, str nm, .slice sa sz.length sc, .slice la lo.length lc, .slice ua up.length uc, .slice ia ini.length ic] 53) :: (t2b, cel [.pointer (some ⟨p, 0, none⟩)] 61) :: (p, cel [v] 64) :: (W ++ Lr) ∧ k ≤ ini.length ∧ OwnT v (xs ++ dheadT d0 ++ ldT [[61]] (ini.take k)) W ∧ m = ini.length - k) _ ⟨0, _, _, rfl, rfl, rfl, rfl, rfl, rfl, rfl, rfl, Nat.zero_le _, OwnS.eq hO45 (by rw [heq]; simp [ldT]), rfl⟩ ?_
      rintro m e B L ⟨k, v, W, e0_4, e2_4, e3_4, e37_4, e38_4, e39_4, rfl, rfl, hk, hO, rfl⟩
      refine yA ?_; refine w_r (fun _ => R_lt e39_4 e38_4) rfl rfl ?_; refine yB ?_; refine zq ?_; refine zD rfl (fun h46 => ?_) (fun h46 => ?_)
      · have hlt : k < ini.length := (by omega); obtain ⟨x1, hxk⟩ : ∃ x, ini[k]? = some x := ⟨_, List.getElem?_eq_getElem hlt⟩; obtain ⟨cs1, hA, hE⟩ := hini.get0 hxk; have hxn := exsW_mem (List.mem_of_getElem? hxk); have hxo := penOk_of (exsOk_get hf.2.2.2.2.2 hxk); have hle := ldT_le [[61]] ini (k + 1); have hnx := ldT_next (pre := [[61]]) hxk; have hnl := congrArg List.length hnx; simp only [List.length_append] at hnl; have hpl : List.length [[61]] = 1 := rfl; obtain ⟨b1, o1, rfl⟩ := hA.ptr; obtain ⟨op1, at1, nm1, ks1⟩ := x1; have hE2 := hE; unfold exM at hE2; obtain ⟨ka1, kc1, rfl, hkc1, hks1⟩ := hE2
        refine zi ?_; refine zk ?_; refine zq ?_; refine zB ?_; refine yA ?_; refine w_r (fun _ => R_iaN (i := k) sl36 e37_4 e39_4 (by first | omega | decide)) rfl rfl ?_; refine w_loadC (l := [.int .u8 (op1 : Nat), .int .i64 at1, str nm1, .slice ka1 ks1.length kc1]) z49 rfl rfl (fun w h j v hj => hA.cell hn hy h j v hj) ?_; refine w_alloc zr49 (fun t6b gt6b ut6b => ?_)
        refine w_store 0 rfl z49 rfl rfl rfl rfl rfl rfl rfl ?_; refine yC ?_; refine zl z61 e2_4 (fun _ h => zc 2 rfl rfl h) ?_; refine zS slt62 (by decide) rfl rfl (fun b48 gb48 ub48 => ?_)
        refine w_pen (A := [_, _, _, _]) (Lr := Lr) ([[61]]) (fun w => zR Tryd.func26 rfl rfl rfl) rfl rfl hO (fun w h => put_spec p _ _ w _ b48 ([[61]]) (Nat.succ_pos _) (by first | omega | (simp only [List.length_append, List.length_cons, List.length_nil] at *; omega)) (.head _) h) (fun v49 W49 hO49 => ?_)
        refine yB ?_; refine zr ?_; refine zl z61 e2_4 (fun _ h => zc 3 rfl rfl h) ?_; refine w_loadA z49 rfl (fun _ h => h.at_ 1 rfl) rfl ?_; refine w_pen (A := [_, _, _, _]) (Lr := Lr) (exT (Ex.mk op1 at1 nm1 ks1)) (fun w => zR Tryd.func39 rfl rfl rfl) rfl rfl hO49 (fun w h => pexpr_ok _ _ N y p _ _ w _ (by omega) hxo hE hn hy (by first | omega | (simp only [List.length_append, List.length_cons, List.length_nil] at *; omega)) h) (fun v50 W50 hO50 => ?_)
        refine zn ?_; refine b_on (zk ?_); refine zr ?_; refine w_r (fun _ => R_addi e39_4 rfl (by omega)) rfl rfl ?_; refine mI rfl ?_; refine zn ?_; refine k_st (B' := Bs) (L' := _) (fun w h => h.drop (List.sublist_append_right [_, _] _)) ?_; exact k_again _ (by omega) ⟨k + 1, _, _, e0_4, e2_4, e3_4, e37_4, e38_4, rfl, rfl, rfl, by omega, OwnS.eq hO50 (by rw [hnx]; simp), rfl⟩
      · have hle := ldT_le [[61]] ini k
        refine c_exit ?_; refine zx (zx (b_here rfl (zk ?_))); refine zr ?_; refine zl z61 e2_4 (fun _ h => zc 1 rfl rfl h) ?_; refine zS slt62 (by decide) rfl rfl (fun b51 gb51 ub51 => ?_)
        refine w_pen (A := [_, _, _]) (Lr := Lr) ([[59]]) (fun w => zR Tryd.func26 rfl rfl rfl) rfl rfl hO (fun w h => put_spec p _ _ w _ b51 ([[59]]) (Nat.succ_pos _) (by first | omega | (simp only [List.length_append, List.length_cons, List.length_nil] at *; omega)) (.head _) h) (fun v52 W52 hO52 => ?_)
        refine zn ?_; refine r_none (.inr rfl) rfl ?_; exact fun w' hw => ⟨rfl, PenAt.fin (A := [_, _, _]) hO52 (by rw [List.take_of_length_le (by omega)]; simp) hw⟩
end Go.Proofs.YtcmcdgkjipnfnaaDoor
end

section
/- A strings.Builder in a block of its own. -/
namespace Go.Sx
open Go.RowKit Go.Tree
section
variable {P : Program} {ops : Array Oper} {Q : Exit → Act → World → Prop} {c : Cf} {e : Env} {B : Base} {L : Heap} {rest : List Oper} {d : Nat}
theorem strC (s : List UInt8) : Lib.strCells ⟨s.toArray⟩ = Lib.byteCells s := rfl
theorem strZ (s : List UInt8) : (ByteArray.mk s.toArray).size = s.length := by simp [ByteArray.size]
/-- no slice of room none at a place -/
def NZ (v : Value) : Prop := ∀ a n, v ≠ .slice (some a) n 0
theorem Own.nz {T : TypeId} {k : Nat} {v : Value} {xs : List Value} {n : Nat} {W : Heap} (h : Own T k v xs n W) (hn : 0 < n) : NZ v := by
  intro a m hv
  rcases h.2 with ⟨h1, h2, _⟩ | ⟨b, c, sp, h1, h2, _⟩
  · omega
  · rw [h1] at hv; injection hv with _ _ h3; omega
/-- append of a string's bytes onto a slice of the call's own -/
theorem w_appS {W : Heap} {x y : Operand} {T : TypeId} {p : String} {ed : Array Edge} {t u el : Nat} {v : Value} {xs : List Value} {n : Nat} {s : List UInt8} (A : Heap) (hT : slT P t el 1 1 (.int .u8 0)) (hu : P.underlying u = some .string) (hx : ev c.n e x = v) (hown : Own el 1 v xs n W) (hy : ev c.n e y = str s) (hnz : NZ v)
    (hb : n + s.length ≤ 1000000000)
    (h : ∀ v' W', Own el 1 v' (xs ++ Lib.byteCells s) (n + s.length) W' → NZ v' → WX .sq P ops c Q rest (upd e d v') B (A ++ (W' ++ L))) : WX .sq P ops c Q (⟨some d, .call ⟨.builtin .append, #[x, y], #[t, u]⟩, T, p, ed, none⟩ :: rest) e B (A ++ (W ++ L)) := by
  obtain ⟨i, ht, hi, hsz, hby, hz, hzs⟩ := slT_spec hT
  have hrun : ∀ {w : World} {r : Value} {w' : World}, (Builtin.append_ #[t, u] T #[v, str s]).run P w = .ok r w' → Run P ⟨some d, .call ⟨.builtin .append, #[x, y], #[t, u]⟩, T, p, ed, none⟩ (ev c.n e) w r w' := fun hr => by
    unfold Run
    simp only [execOp, resolve, Sem.run_bind, pure_run, Result.andThen_ok, invoke, builtin, List.map_toArray, List.map_cons, List.map_nil, hx, hy, hr]
  have hs0 : str s = .string ⟨s.toArray⟩ := rfl
  unfold WX at *
  intro w hw
  have hxl := hown.1
  have hlen : (xs ++ Lib.byteCells s).length = (n + s.length) * 1 := by rw [List.length_append, Lib.byteCells_length]; omega
  rcases hown.2 with ⟨rfl, rfl, rfl⟩ | ⟨b, cp, sp, rfl, hc, hs', rfl⟩
  · have hx0 : xs = [] := by simpa using hxl
    subst hx0
    by_cases hm : s.length = 0
    · have hs1 : s = [] := by simpa using hm
      subst hs1
      have hf := Lib.run_firstCells_string (P := P) w 1 ⟨#[]⟩
      have hr : (Builtin.append_ #[t, u] T #[.slice none 0 0, str []]).run P w = .ok (.slice none 0 0) w := by
        have hz0 : (ByteArray.mk (#[] : Array UInt8)).size = 0 := rfl
        rw [hz0] at hf
        simp [Builtin.append_, run_underlying ht, run_underlying hu, sizeOf, typeInfo, hi, hsz, Builtin.lenOf, hz0, hf, str]
      exact s_run (hrun hr) rfl rfl (h _ [] (by simpa [Lib.byteCells] using Own.nil el 1) hnz w hw)
    · have hr := run_append_nil_string (P := P) w t u T el i (.int .u8 0) ht hu hi hz ⟨s.toArray⟩ (by rw [strZ]; omega) (by rw [strZ]; omega) (by rw [strZ, hby]; omega)
      rw [strZ] at hr
      have hge := grownCap_ge w s.length 0 el
      have hs := (hw.drawn (w.drawn + 1)).new (o := cel ([] ++ Lib.byteCells s ++ (Builtin.zeroCells (Value.cells (.int .u8 0)) (grownCap w s.length 0 el - s.length)).toList) el)
      refine s_run (hrun hr) rfl rfl (h _ [(w.heap.size, cel ([] ++ Lib.byteCells s ++ (Builtin.zeroCells (Value.cells (.int .u8 0)) (grownCap w s.length 0 el - s.length)).toList) el)] ⟨hlen, .inr ⟨w.heap.size, grownCap w s.length 0 el, _, by rw [Nat.zero_add], by rw [Nat.zero_add]; exact hge, ?_, rfl⟩⟩ (fun a m hv => by injection hv with _ _ h3; omega) _ ?_)
      · rw [Array.length_toList, size_zeroCells, hzs, Nat.zero_add]
      · have := hs.perm (List.perm_middle.symm)
        have e1 : ((s.toArray.map fun b => Value.int .u8 b.toNat) ++ Builtin.zeroCells (Value.cells (.int .u8 0)) (grownCap w s.length 0 el - s.length) : Array Value) = ([] ++ Lib.byteCells s ++ (Builtin.zeroCells (Value.cells (.int .u8 0)) (grownCap w s.length 0 el - s.length)).toList).toArray := by
          apply Array.ext'
          simp [Lib.byteCells]
        rw [e1]
        exact this
  · have hb' := hw.own (b, cel (xs ++ sp) el) (by simp)
    by_cases hroom : n + s.length ≤ cp
    · have hr := Lib.run_append_room_string (P := P) w t u T el i ht hu hi hsz b n cp (xs ++ sp).toArray hb' ⟨s.toArray⟩ (by rw [strZ]; exact hroom) (by rw [strZ]; simp; omega)
      rw [strZ, strC] at hr
      have hs := hw.put A.length (l' := xs ++ Lib.byteCells s ++ sp.drop (Lib.byteCells s).length) (b := b) (l := xs ++ sp) (T := el) (by simp)
      have hset : (A ++ ([(b, cel (xs ++ sp) el)] ++ L)).set A.length (b, cel (xs ++ Lib.byteCells s ++ sp.drop (Lib.byteCells s).length) el) = A ++ ([(b, cel (xs ++ Lib.byteCells s ++ sp.drop (Lib.byteCells s).length) el)] ++ L) := by simp
      rw [hset] at hs
      have e1 : ((xs ++ sp).toArray.toList.take n ++ Lib.byteCells s ++ (xs ++ sp).toArray.toList.drop (n + s.length)) = xs ++ Lib.byteCells s ++ sp.drop (Lib.byteCells s).length := by
        simp only [Lib.byteCells_length]
        rw [show n = xs.length by omega, List.take_left', List.drop_append]
        · simp [List.drop_eq_nil_of_le]
        · rfl
      rw [e1] at hr
      refine s_run (hrun hr) rfl rfl (h _ [_] ⟨hlen, .inr ⟨b, cp, sp.drop (Lib.byteCells s).length, rfl, hroom, ?_, rfl⟩⟩ (fun a m hv => by injection hv with _ _ h3; subst h3; exact hnz _ _ rfl) _ hs)
      rw [List.length_drop, hs', Lib.byteCells_length]; omega
    · have hge := grownCap_ge w (n + s.length) cp el
      have hr := Lib.run_append_grow_string (P := P) w t u T el i (.int .u8 0) ht hu hi hz ⟨b, 0, none⟩ n cp xs (by rw [hsz]; exact hxl) (fun j u hu => by
          have hj := (List.getElem?_eq_some_iff.1 hu).1
          have : w.cell? ⟨b, 0 + j, none⟩ = some u := by
            simp only [World.cell?, hb']
            simp [List.getElem?_append_left hj, hu]
          simp only [Addr.add]; split <;> simp_all) ⟨s.toArray⟩ (by rw [strZ]; omega) (by rw [strZ]; omega) (by rw [strZ, hby]; exact growslice_fits (by omega) (by omega))
      rw [strZ] at hr
      have hs := (hw.drawn (w.drawn + 1)).new (o := cel (xs ++ Lib.byteCells s ++ (Builtin.zeroCells (Value.cells (.int .u8 0)) (grownCap w (n + s.length) cp el - (n + s.length))).toList) el)
      refine s_run (hrun hr) rfl rfl (h _ [(w.heap.size, cel (xs ++ Lib.byteCells s ++ (Builtin.zeroCells (Value.cells (.int .u8 0)) (grownCap w (n + s.length) cp el - (n + s.length))).toList) el)] ⟨hlen, .inr ⟨w.heap.size, grownCap w (n + s.length) cp el, _, rfl, hge, ?_, rfl⟩⟩ (fun a m hv => by injection hv with _ _ h3; omega) _ ?_)
      · rw [Array.length_toList, size_zeroCells, hzs]
      · have h2 := hs.drop (L' := (w.heap.size, cel (xs ++ Lib.byteCells s ++ (Builtin.zeroCells (Value.cells (.int .u8 0)) (grownCap w (n + s.length) cp el - (n + s.length))).toList) el) :: (A ++ L)) (by
          refine List.Sublist.cons_cons _ ?_
          exact List.Sublist.append (List.Sublist.refl _) (List.sublist_cons_self _ _))
        have := h2.perm (List.perm_middle.symm)
        have e1 : (xs.toArray ++ (Lib.strCells ⟨s.toArray⟩).toArray ++ Builtin.zeroCells (Value.cells (.int .u8 0)) (grownCap w (n + s.length) cp el - (n + s.length)) : Array Value) = (xs ++ Lib.byteCells s ++ (Builtin.zeroCells (Value.cells (.int .u8 0)) (grownCap w (n + s.length) cp el - (n + s.length))).toList).toArray := by rw [strC]; simp
        rw [e1]
        exact this
end
section
variable {P : Program} {ρ : Operand → Value} {w : World} {D : Option Tmp} {ty t yt : TypeId} {pos : String} {aft : Array Edge} {g : Option (Nat × Bool)} {x y : Operand}
theorem R_peqN {te : TypeId} (hu : P.underlying t = some (.pointer te)) (hx : ρ x = .pointer none) (hy : ρ y = .pointer none) : Run P ⟨D, .binOp .eql t x y yt, ty, pos, aft, g⟩ ρ w (.bool true) w := by
  have h : ∀ d : Nat, (Op.equalIn (d + 1) t (.pointer none) (.pointer none)).run P w = .ok true w := fun d => by
    simp [Op.equalIn, run_underlying hu, go_sem]
  have h2 := h 9999
  unfold Run
  simp [execOp, hx, hy, eqGuard, binOp, Op.equal, Op.maxDepth, h2, go_sem]
theorem R_peqS {te : TypeId} {a : Addr} (hu : P.underlying t = some (.pointer te)) (hx : ρ x = .pointer (some a)) (hy : ρ y = .pointer none) : Run P ⟨D, .binOp .eql t x y yt, ty, pos, aft, g⟩ ρ w (.bool false) w := by
  have h : ∀ d : Nat, (Op.equalIn (d + 1) t (.pointer (some a)) (.pointer none)).run P w = .ok false w := fun d => by
    simp [Op.equalIn, run_underlying hu, go_sem]
  have h2 := h 9999
  unfold Run
  simp [execOp, hx, hy, eqGuard, binOp, Op.equal, Op.maxDepth, h2, go_sem]
theorem R_pneS {te : TypeId} {a : Addr} (hu : P.underlying t = some (.pointer te)) (hi : (P.info? te).isSome = true) (hx : ρ x = .pointer (some a)) (hy : ρ y = .pointer (some a)) : Run P ⟨D, .binOp .neq t x y yt, ty, pos, aft, g⟩ ρ w (.bool false) w := by
  obtain ⟨j, hj⟩ := Option.isSome_iff_exists.1 hi
  have h2 := Lib.run_neq_ptr_same (P := P) w a hu hj
  unfold Run
  simp [execOp, hx, hy, eqGuard, go_sem] at h2 ⊢
  simp [h2]
theorem R_noEsc {f : FuncId} {fn : Func} {tys : Array TypeId} {v : Value} (hf : P.funcs[f]? = some fn) (hname : (fn.name == "runtime.NumGoroutine") = false) (hb : fn.body.isNone = true) (hn : Extern.findNext fn = none) (he : Extern.find fn = some Extern.AbiNoEscape.same) (hx : ρ x = .func (.func f) #[] #[]) (hy : ρ y = v) :
    Run P ⟨D, .call ⟨.value x, #[y], tys⟩, ty, pos, aft, g⟩ ρ w v w := by
  have h := run_callFunc_extern (P := P) hf hname hb hn he #[v] w
  rw [Lib.run_noEscape] at h
  simp [Run, execOp, hx, hy, go_sem, resolve, invoke, h, Result.andThen]
end
section
variable {P : Program} {ops : Array Oper} {Q : Exit → Act → World → Prop} {c : Cf} {e : Env} {B : Base} {L : Heap} {rest : List Oper} {d : Nat} {q : Md} {x : Operand} {ty src dst : TypeId} {pp : String} {ed : Array Edge}
theorem w_toU {t n : Nat} {b : Nat} {cs : List Value} {T : TypeId} (i : Nat) (hi : L[i]? = some (b, cel cs T)) (hc : 0 < cs.length) (hs : P.underlying src = some (.pointer t)) (hd : P.underlying dst = some .unsafePointer) (ht : (P.info? t).map (·.size) = some (n + 1)) (hx : ev c.n e x = .pointer (some ⟨b, 0, none⟩))
    (h : WX q P ops c Q rest (upd e d (.pointer (some ⟨b, 0, none⟩))) B L) : WX q P ops c Q (⟨some d, .convert src dst x, ty, pp, ed, none⟩ :: rest) e B L := by
  obtain ⟨j, hj, hj2⟩ := Option.map_eq_some_iff.1 ht
  refine w_run (fun w hw => ?_) rfl rfl h
  have h1 := hw.at_ i hi
  have hr := Lib.run_to_unsafe (P := P) w (⟨b, 0, none⟩ : Addr) hs hd hj (by rw [hj2]; omega) (e := T) (cells := cs.length) (by simp [World.shape?, h1, cel]) hc
  unfold Run
  simp only [execOp, hx, Sem.run_bind, hr, Result.andThen_ok]
  rfl
theorem w_fromU {t : Nat} {b : Nat} {cs : List Value} {T : TypeId} (i : Nat) (hi : L[i]? = some (b, cel cs T)) (hs : P.underlying src = some .unsafePointer) (hd : P.underlying dst = some (.pointer t)) (ht : (P.info? t).isSome = true) (hl : liesAt P P.depth T (cs.length / P.cellsOf T) 0 t 1 = true) (hx : ev c.n e x = .pointer (some ⟨b, 0, none⟩))
    (h : WX q P ops c Q rest (upd e d (.pointer (some ⟨b, 0, none⟩))) B L) : WX q P ops c Q (⟨some d, .convert src dst x, ty, pp, ed, none⟩ :: rest) e B L := by
  obtain ⟨j, hj⟩ := Option.isSome_iff_exists.1 ht
  refine w_run (fun w hw => ?_) rfl rfl h
  have h1 := hw.at_ i hi
  have hr := Lib.run_from_unsafe (P := P) w (⟨b, 0, none⟩ : Addr) hs hd hj (e := T) (cells := cs.length) (by simp [World.shape?, h1, cel]) hl
  unfold Run
  simp only [execOp, hx, Sem.run_bind, hr, Result.andThen_ok]
  rfl
end
theorem St.frz {B : Base} {L : Heap} {w : World} (h : St B L w) (i : Nat) {b : Nat} {cs : List Value} {T : TypeId} (hi : L[i]? = some (b, cel cs T)) (n : Nat) : ∃ o', St B (L.set i (b, o')) (w.freeze ⟨b, 0, none⟩ n) := by
  have hb := h.at_ i hi
  have hlt := lt_of_blk hb
  have hs : (w.freeze ⟨b, 0, none⟩ n).heap.size = w.heap.size := by unfold World.freeze; split <;> simp
  obtain ⟨o', ho⟩ : ∃ o', (w.freeze ⟨b, 0, none⟩ n).heap[b]? = some o' := ⟨_, Array.getElem?_eq_getElem (by omega)⟩
  refine ⟨o', h.mod i hi ?_ ho⟩
  unfold World.freeze
  split
  · exact Fr.refl _ _
  · exact ⟨rfl, rfl, rfl, by simp, fun k _ hk => by
      simp only [Array.getElem?_modify]
      rw [if_neg (fun e => hk e.symm)]⟩
section
variable {P : Program} {ρ : Operand → Value} {w : World} {D : Option Tmp} {ty t yt : TypeId} {pos : String} {aft : Array Edge} {g : Option (Nat × Bool)} {x y : Operand}
theorem R_sliceData {tys : Array TypeId} {a : Option Addr} {n m : Nat} (hx : ρ x = .slice a n m) (hz : NZ (.slice a n m)) : Run P ⟨D, .call ⟨.builtin .unsafeSliceData, #[x], tys⟩, ty, pos, aft, g⟩ ρ w (.pointer a) w := by
  cases a with
  | none =>
    have h := Lib.run_unsafeSliceData_nil (P := P) w tys ty n m
    simp [Run, execOp, hx, go_sem, resolve, invoke, builtin, h, Result.andThen]
  | some a =>
    have hm : m ≠ 0 := fun h => hz a n (by rw [h])
    have h := Lib.run_unsafeSliceData_row (P := P) w tys ty a n m hm
    simp [Run, execOp, hx, go_sem, resolve, invoke, builtin, h, Result.andThen]
end
section
variable {P : Program} {ops : Array Oper} {Q : Exit → Act → World → Prop} {c : Cf} {e : Env} {B : Base} {L : Heap} {d fuel : Nat} {S : World → Prop} {listed : Array Bool} {x y : Operand} {ty : TypeId} {pp : String} {ed : Array Edge}
theorem h_sliceData {tys : Array TypeId} {a : Option Addr} {n m : Nat} (i : Nat) (hi : ops[i]? = some ⟨some d, .call ⟨.builtin .unsafeSliceData, #[x], tys⟩, ty, pp, ed, none⟩) (hr : Region.ready .any ops listed = [i]) (hs : ∀ w, St B L w → S w) (hx : ev c.n e x = .slice a n m) (hz : NZ (.slice a n m))
    (h : WH P ops c Q S fuel (listed.setIfInBounds i true) (upd e d (.pointer a)) B L) : WH P ops c Q S (fuel + 1) listed e B L :=
  h_val i hi hr rfl rfl hs (fun w hw => ⟨_, w, B, L, R_sliceData hx hz, hw, h⟩)
/-- the bytes of a row, as a string: the row is let go -/
theorem h_unsafeStr {W : Heap} {pt it el : TypeId} {a : Option Addr} {m : Nat} {s : List UInt8} (A : Heap) (i : Nat) (hi : ops[i]? = some ⟨some d, .call ⟨.builtin .unsafeString, #[x, y], #[pt, it]⟩, ty, pp, ed, none⟩) (hr : Region.ready .any ops listed = [i]) (hs : ∀ w, St B (A ++ (W ++ L)) w → S w)
    (hp : P.underlying pt = some (.pointer el)) (hc : P.cellsOf el = 1) (hown : Own el 1 (.slice a s.length m) (Lib.byteCells s) s.length W) (hb : s.length ≤ 1000000000) (hx : ev c.n e x = .pointer a) (hy : ev c.n e y = .int .i64 (s.length : Nat))
    (h : WH P ops c Q S fuel (listed.setIfInBounds i true) (upd e d (str s)) B (A ++ L)) : WH P ops c Q S (fuel + 1) listed e B (A ++ (W ++ L)) := by
  refine h_val i hi hr rfl rfl hs (fun w hw => ?_)
  by_cases h0 : s = []
  · subst h0
    refine ⟨str [], w, B, A ++ L, ?_, hw.drop ((List.Sublist.refl A).append (List.sublist_append_right _ _)), h⟩
    have hr := Lib.run_unsafeString_none (P := P) w pt it ty a
    simp only [List.length_nil] at hy
    unfold Run
    simp only [execOp, resolve, Sem.run_bind, pure_run, Result.andThen_ok, invoke, builtin, List.map_toArray, List.map_cons, List.map_nil, hx, hy]
    simp only [Int.ofNat_zero, Int.natCast_zero] at hr ⊢
    rw [hr]
    rfl
  · have hl : 0 < s.length := List.length_pos_iff.2 h0
    rcases hown.2 with ⟨_, h2, _⟩ | ⟨b, cp, sp, hv, hcp, hsp, rfl⟩
    · omega
    · injection hv with hv1 hv2 hv3
      subst hv1; subst hv3
      have hm := hw.own (b, cel (Lib.byteCells s ++ sp) el) (by simp)
      obtain ⟨o', ho⟩ := hw.frz A.length (b := b) (cs := Lib.byteCells s ++ sp) (T := el) (by simp) s.length
      refine ⟨str s, _, B, A ++ L, ?_, ho.drop (by simp), h⟩
      have hr := Lib.run_unsafeString_row (P := P) w pt it ty el hp hc b (Lib.byteCells s ++ sp).length (by simp [World.shape?, hm, cel]) s h0 (by simp [Lib.byteCells_length]) (by omega) (fun j u hu => by
        have hj := (List.getElem?_eq_some_iff.1 hu).1
        have e1 : (⟨b, 0, none⟩ : Addr).add j = ⟨b, j, none⟩ := by simp [Addr.add]; omega
        rw [e1]
        have e2 : (Lib.byteCells s ++ sp)[j]? = some (.int .u8 (u.toNat : Nat)) := by
          rw [List.getElem?_append_left (by rw [Lib.byteCells_length]; exact hj)]
          simp [Lib.byteCells, hu]
        exact zc A.length (b := b) (cs := Lib.byteCells s ++ sp) (T := el) (by simp) e2 hw)
      unfold Run
      simp only [execOp, resolve, Sem.run_bind, pure_run, Result.andThen_ok, invoke, builtin, List.map_toArray, List.map_cons, List.map_nil, hx, hy, hr]
end
structure BldO (te : TypeId) (p : Nat) (a : Option Addr) (v : Value) (s : List UInt8) (W : Heap) : Prop where
  ad : a = none ∨ a = some (⟨p, 0, none⟩ : Addr)
  own : Own te 1 v (Lib.byteCells s) s.length W
  nz : NZ v
theorem BldO.eq {te : TypeId} {p : Nat} {a : Option Addr} {v : Value} {s t : List UInt8} {W : Heap} (h : BldO te p a v s W) (he : s = t) : BldO te p a v t W := he ▸ h
theorem BldO.nil (te : TypeId) (p : Nat) : BldO te p none (.slice none 0 0) [] [] := ⟨.inl rfl, Own.nil te 1, fun a n h => by cases h⟩
/-- a builder at the block p, of what is written -/
def BldAt (te T : TypeId) (p : Nat) (s : List UInt8) (B : Base) (Lr : Heap) (w : World) : Prop := ∃ a v W, BldO te p a v s W ∧ St B ((p, cel [.pointer a, v] T) :: (W ++ Lr)) w
section
variable {P : Program} {ops : Array Oper} {Q : Exit → Act → World → Prop} {c : Cf} {e : Env} {B : Base} {rest : List Oper} {o : Oper} {d : Nat} {te T : TypeId} {p : Nat} {L Lr W : Heap} {a : Option Addr} {v : Value} {s : List UInt8} {f : FuncId} {args : Array Value}
theorem w_ck (hr : ∀ w, RunE P o (ev c.n e) w f args) (hg : plainB o = true) (hd : o.dst = some d)
    (hc : ∀ w, St B ((p, cel [.pointer a, v] T) :: L) w → Ret P f args w fun u w' => u = .tuple #[] ∧ St B ((p, cel [.pointer (some ⟨p, 0, none⟩), v] T) :: L) w')
    (h : WX .sq P ops c Q rest (upd e d (.tuple #[])) B ((p, cel [.pointer (some ⟨p, 0, none⟩), v] T) :: L)) : WX .sq P ops c Q (o :: rest) e B ((p, cel [.pointer a, v] T) :: L) :=
  w_callR (R := fun _ u w' => u = .tuple #[] ∧ St B ((p, cel [.pointer (some ⟨p, 0, none⟩), v] T) :: L) w') hr hg hd hc (fun w hw u w' ⟨hu, hs⟩ => ⟨B, _, hs, by subst hu; exact h⟩)
theorem RunE.to {ρ : Operand → Value} {w : World} {args' : Array Value} (h : RunE P o ρ w f args) (he : args = args') : RunE P o ρ w f args' := he ▸ h
/-- a call that lets blocks go -/
theorem w_lets {L' : Heap} (r : Value) (hr : ∀ w, RunE P o (ev c.n e) w f args) (hg : plainB o = true) (hd : o.dst = some d) (hc : ∀ w, St B L w → Ret P f args w fun u w' => u = r ∧ St B L' w')
    (h : WX .sq P ops c Q rest (upd e d r) B L') : WX .sq P ops c Q (o :: rest) e B L :=
  w_callR (R := fun _ u w' => u = r ∧ St B L' w') hr hg hd hc (fun w hw u w' ⟨hu, hs⟩ => ⟨B, _, hs, by subst hu; exact h⟩)
/-- a call that writes on a builder -/
theorem w_bld (s' : List UInt8) (r : Value) (hr : ∀ w, RunE P o (ev c.n e) w f args) (hg : plainB o = true) (hd : o.dst = some d) (hO : BldO te p a v s W)
    (hc : ∀ w, BldAt te T p s B Lr w → Ret P f args w fun u w' => u = r ∧ BldAt te T p s' B Lr w')
    (h : ∀ a' v' W', BldO te p a' v' s' W' → WX .sq P ops c Q rest (upd e d r) B ((p, cel [.pointer a', v'] T) :: (W' ++ Lr))) : WX .sq P ops c Q (o :: rest) e B ((p, cel [.pointer a, v] T) :: (W ++ Lr)) :=
  w_callR (R := fun _ u w' => u = r ∧ BldAt te T p s' B Lr w') hr hg hd (fun w hw => hc w ⟨a, v, W, hO, hw⟩)
    (fun w hw u w' ⟨hu, a', v', W', hO', hs⟩ => ⟨B, _, hs, by subst hu; exact h a' v' W' hO'⟩)
end
theorem OwnS.row {te : TypeId} {a : Option Addr} {n c : Nat} {xs : List (List UInt8)} {W : Heap} (h : OwnS te (.slice a n c) xs W) (hn : 0 < xs.length) : ∃ b sp, a = some ⟨b, 0, none⟩ ∧ n = xs.length ∧ W = [(b, cel (xs.map str ++ sp) te)] := by
  rcases h.2 with ⟨_, h2, _⟩ | ⟨b, cp, sp, hv, _, _, hW⟩
  · omega
  · injection hv with h1 h2 h3
    exact ⟨b, sp, h1, h2, hW⟩
/-- an element of an array that lies in a block -/
theorem R_iaA {P : Program} {ρ : Operand → Value} {w : World} {D : Option Tmp} {ty t : TypeId} {pos : String} {aft : Array Edge} {g : Option (Nat × Bool)} {x y : Operand} {kk : IntKind} {m b o i k : Nat} {ag : Bool} (hu : arB P t m k ag = true) (hm : 1 < m) (hx : ρ x = .pointer (some ⟨b, o, none⟩)) (hy : ρ y = .int kk (i : Nat)) (h1 : i < m) : Run P ⟨D, .indexAddr t x y, ty, pos, aft, g⟩ ρ w (.pointer (some ⟨b, o + i * k, none⟩)) w := by
  unfold arB at hu
  split at hu
  · rename_i m' e he
    simp only [Bool.and_eq_true] at hu
    obtain ⟨hm', hz⟩ := hu
    have hm' := Nat.eq_of_beq_eq_true hm'
    subst hm'
    have hz' := run_sizeOf (P := P) (w := w) hz
    simp [Run, execOp, hx, hy, go_sem, Instr.indexAt, run_underlying he, hz', asIntOf, h1, Result.andThen]
  · cases hu
end Go.Sx
end

section
/- The text of what is written. -/
namespace Go.Tree
open Go.Tok
def brk (s : Str) : Bool := s == [123] || s == [125] || s == [59]
def endT (n k : Nat) (s : Str) : Str := if brk s then [10] else if k + 1 < n then [32] else []
def textTo (xs : List Str) (k : Nat) : Str := (List.range k).flatMap fun i => xs.getD i [] ++ endT xs.length i (xs.getD i [])
def textT (xs : List Str) : Str := textTo xs xs.length
theorem textTo_next {xs : List Str} {k : Nat} {x : Str} (h : xs[k]? = some x) : textTo xs (k + 1) = textTo xs k ++ (x ++ endT xs.length k x) := by
  unfold textTo
  rw [List.range_succ, List.flatMap_append]
  simp [List.getD, h]
theorem textTo_le {xs : List Str} : ∀ {k n : Nat}, k ≤ n → (textTo xs k).length ≤ (textTo xs n).length := by
  intro k n h
  obtain ⟨m, rfl⟩ := Nat.exists_eq_add_of_le h
  clear h
  induction m with
  | zero => exact Nat.le_refl _
  | succ m ih =>
    refine Nat.le_trans ih ?_
    unfold textTo
    rw [← Nat.add_assoc, List.range_succ, List.flatMap_append, List.length_append]
    omega
theorem textTo_le_all {xs : List Str} {k : Nat} (h : k ≤ xs.length) : (textTo xs k).length ≤ (textT xs).length := textTo_le h
theorem textTo_zero (xs : List Str) : textTo xs 0 = [] := rfl
theorem brk_no {s : Str} (h1 : ¬ s = [123]) (h2 : ¬ s = [125]) (h3 : ¬ s = [59]) : brk s = false := by simp [brk, h1, h2, h3]
attribute [irreducible] textTo
end Go.Tree
end

section
namespace Go.Proofs.YtcmcdgkjipnfnaaDoor
open Go.RowKit Go.Sx
open Go.Tok Go.Tree
abbrev Bld := BldAt 5 96
abbrev BldT := BldO 5

set_option maxRecDepth 100000 in
set_option maxHeartbeats 400000 in
theorem copyN_spec (p : Nat) (Bs : Base) (Lr : Heap) (w : World) (v : Value) (hs : St Bs ((p, cel [.pointer none, v] 96) :: Lr) w) :
  Ret Tryd.prog 85 #[.pointer (some ⟨p, 0, none⟩)] w (fun u w' => u = .tuple #[] ∧ St Bs ((p, cel [.pointer (some ⟨p, 0, none⟩), v] 96) :: Lr) w') := by
 refine enterB (l := [_]) 20 Tryd.func85 rfl rfl rfl (hs) ?_; refine yA ?_; refine mP rfl ?_; refine w_nilc rfl ?_; refine zf fa96_0 rfl ?_; refine zl z93 rfl (fun _ h => zc 0 rfl rfl h) ?_; refine w_r (fun _ => R_peqN up93 rfl rfl) rfl rfl ?_; refine yB ?_; refine zE rfl ?_; refine zr ?_; refine mP rfl ?_; refine mP rfl ?_; refine w_toU 0 rfl (Nat.succ_pos _) up93 up153 ibz96 rfl ?_; refine w_r (fun _ => R_noEsc (fn := Tryd.f110) rfl (by kernel_rfl) (by kernel_rfl) (by kernel_rfl) (by kernel_rfl) rfl rfl) rfl rfl ?_; refine w_fromU 0 rfl up153 up93 isz96 lie96 rfl ?_; refine w_nilc rfl ?_; refine zf fa96_0 rfl ?_; refine w_store 0 rfl z93 rfl rfl rfl rfl rfl rfl rfl ?_; refine zn ?_; refine r_none (.inr rfl) rfl ?_; exact fun w' hw => ⟨rfl, hw⟩

set_option maxRecDepth 100000 in
set_option maxHeartbeats 400000 in
theorem copyS_spec (p : Nat) (Bs : Base) (Lr : Heap) (w : World) (v : Value) (hs : St Bs ((p, cel [.pointer (some ⟨p, 0, none⟩), v] 96) :: Lr) w) :
  Ret Tryd.prog 85 #[.pointer (some ⟨p, 0, none⟩)] w (fun u w' => u = .tuple #[] ∧ St Bs ((p, cel [.pointer (some ⟨p, 0, none⟩), v] 96) :: Lr) w') := by
 refine enterB (l := [_]) 20 Tryd.func85 rfl rfl rfl (hs) ?_; refine yA ?_; refine mP rfl ?_; refine w_nilc rfl ?_; refine zf fa96_0 rfl ?_; refine zl z93 rfl (fun _ h => zc 0 rfl rfl h) ?_; refine w_r (fun _ => R_peqS up93 rfl rfl) rfl rfl ?_; refine yB ?_; refine c_condF rfl ?_; refine yA ?_; refine mP rfl ?_; refine w_nilc rfl ?_; refine zf fa96_0 rfl ?_; refine zl z93 rfl (fun _ h => zc 0 rfl rfl h) ?_; refine mP rfl ?_; refine w_r (fun _ => R_pneS up93 isz96 rfl rfl) rfl rfl ?_; refine yB ?_; refine c_condF rfl ?_; refine zi ?_; refine r_none (.inr rfl) rfl ?_; exact fun w' hw => ⟨rfl, hw⟩


theorem copy_spec (p : Nat) (Bs : Base) (Lr : Heap) (w : World) (a : Option Addr) (v : Value) (ha : a = none ∨ a = some (⟨p, 0, none⟩ : Addr)) (hs : St Bs ((p, cel [.pointer a, v] 96) :: Lr) w) : Ret Tryd.prog 85 #[.pointer (some ⟨p, 0, none⟩)] w fun u w' => u = .tuple #[] ∧ St Bs ((p, cel [.pointer (some ⟨p, 0, none⟩), v] 96) :: Lr) w' := by
 rcases ha with rfl | rfl
 ·exact copyN_spec p Bs Lr w v hs
 ·exact copyS_spec p Bs Lr w v hs

set_option maxRecDepth 100000 in
set_option maxHeartbeats 400000 in
theorem writeS_spec (p : Nat) (Bs : Base) (Lr : Heap) (w : World) (s : Str) (t : Str) (hb : s.length + t.length ≤ 1000000000) (hP : Bld p s Bs Lr w) :
  Ret Tryd.prog 52 #[.pointer (some ⟨p, 0, none⟩), str t] w (fun u w' => u = .tuple #[.int .i64 (t.length : Nat), .nilIface] ∧ Bld p (s ++ t) Bs Lr w') := by
 obtain ⟨a, v, W, hO, hs⟩ := hP
 refine enterB (l := [_, _]) 19 Tryd.func52 rfl rfl rfl (hs) ?_; refine yA ?_; refine aI rfl ?_; refine za rfl ?_; refine yC ?_; refine mP rfl ?_; refine w_ck (fun w => zR Tryd.func85 rfl rfl rfl) rfl rfl (fun w h => copy_spec p Bs _ w a v hO.ad h) ?_; refine yC ?_; refine mP rfl ?_; refine mP rfl ?_; refine w_nilc rfl ?_; refine zf fa96_1 rfl ?_; refine zl z94 rfl (fun _ h => zc 0 rfl rfl h) ?_; refine zm (v := str _) rfl ?_; refine w_appS [(p, _)] (L := Lr) slt94 unS9 rfl hO.own rfl hO.nz hb (fun v2 W2 hO2 hz2 => ?_)
 obtain ⟨a2, c2, rfl⟩ := hO2.slice
 refine w_nilc rfl ?_; refine zf fa96_1 rfl ?_; refine w_store 0 rfl z94 rfl rfl rfl rfl rfl rfl rfl ?_; refine yC ?_; refine zm (v := str _) rfl ?_; refine w_r (fun _ => R_slen st9 rfl (by omega)) rfl rfl ?_; refine aI rfl ?_; refine za rfl ?_; refine yB ?_; refine ze ?_; refine r_two (v := .int _ _) rfl rfl rfl rfl rfl ?_; exact fun w' hw => ⟨rfl, _, _, W2, ⟨.inr rfl, by rw [Lib.byteCells_append, List.length_append]; exact hO2, hz2⟩, hw⟩

set_option maxRecDepth 100000 in
set_option maxHeartbeats 400000 in
theorem writeB_spec (p : Nat) (Bs : Base) (Lr : Heap) (w : World) (s : Str) (c : UInt8) (hb : s.length + 1 ≤ 1000000000) (hP : Bld p s Bs Lr w) :
  Ret Tryd.prog 53 #[.pointer (some ⟨p, 0, none⟩), .int .u8 (c.toNat : Nat)] w (fun u w' => u = .nilIface ∧ Bld p (s ++ [c]) Bs Lr w') := by
 obtain ⟨a, v, W, hO, hs⟩ := hP
 refine enterB (l := [_, _]) 17 Tryd.func53 rfl rfl rfl (hs) ?_; refine yA ?_; refine za rfl ?_; refine yC ?_; refine mP rfl ?_; refine w_ck (fun w => zR Tryd.func85 rfl rfl rfl) rfl rfl (fun w h => copy_spec p Bs _ w a v hO.ad h) ?_; refine yC ?_; refine mP rfl ?_; refine mP rfl ?_; refine w_nilc rfl ?_; refine zf fa96_1 rfl ?_; refine zl z94 rfl (fun _ h => zc 0 rfl rfl h) ?_; refine mI rfl ?_; refine zS slt94 (by decide) rfl rfl (fun b1 gb1 ub1 => ?_)
 refine w_app [(b1, _), (p, _)] (W := W) (L := Lr) (news := [.int .u8 (c.toNat : Nat)]) slt94 (by decide) rfl hO.own rfl rfl (fun w h j u hu => by rw [Nat.zero_add]; exact zc 0 rfl hu h) rfl (by decide) (by omega) (by omega) (fun v2 W2 hO2 => ?_)
 obtain ⟨a2, c2, rfl⟩ := hO2.slice
 refine w_nilc rfl ?_; refine zf fa96_1 rfl ?_; refine w_store 1 rfl z94 rfl rfl rfl rfl rfl rfl rfl ?_; refine yC ?_; refine za rfl ?_; refine yB ?_; refine ze ?_; refine zo rfl rfl rfl ?_; exact fun w' hw => ⟨rfl, _, _, W2, ⟨.inr rfl, by rw [Lib.byteCells_append, List.length_append]; exact hO2, hO2.nz (Nat.succ_pos _)⟩, hw.drop (List.sublist_cons_self _ _)⟩

set_option maxRecDepth 100000 in
set_option maxHeartbeats 400000 in
theorem string_spec (p : Nat) (Bs : Base) (Lr : Heap) (w : World) (s : Str) (hb : s.length ≤ 1000000000) (hP : Bld p s Bs Lr w) :
  Ret Tryd.prog 54 #[.pointer (some ⟨p, 0, none⟩)] w (fun u w' => u = str s ∧ St Bs Lr w') := by
 obtain ⟨a, v, W, hO, hs⟩ := hP
 obtain ⟨va, vc, rfl⟩ := hO.own.slice
 refine enterB (l := [_]) 14 Tryd.func54 rfl rfl rfl (hs) ?_; refine yA ?_; refine za (v := str _) rfl ?_; refine yB ?_; refine zq ?_; refine c_held (St Bs [(p, cel [.pointer a, .slice va s.length vc] 96)]) mixed ?_; refine zh 0 rfl (by kernel_rfl) rfl rfl (fun w h => h.drop (.cons_cons _ (List.nil_sublist _))) (fun w h => R_move rfl) ?_; refine zh 1 rfl (by kernel_rfl) rfl rfl (fun w h => h.drop (.cons_cons _ (List.nil_sublist _))) (fun w h => R_nil rfl) ?_; refine zh 2 rfl (by kernel_rfl) rfl rfl (fun w h => h.drop (.cons_cons _ (List.nil_sublist _))) (fun w h => R_fa fa96_1 rfl) ?_; refine zh 3 rfl (by kernel_rfl) rfl rfl (fun w h => h.drop (.cons_cons _ (List.nil_sublist _))) (fun w h => R_ld1 z94 rfl (zc 0 rfl rfl h)) ?_
 refine zh 5 rfl (by kernel_rfl) rfl rfl (fun w h => h.drop (.cons_cons _ (List.nil_sublist _))) (fun w h => R_move rfl) ?_; refine zh 6 rfl (by kernel_rfl) rfl rfl (fun w h => h.drop (.cons_cons _ (List.nil_sublist _))) (fun w h => R_nil rfl) ?_; refine zh 7 rfl (by kernel_rfl) rfl rfl (fun w h => h.drop (.cons_cons _ (List.nil_sublist _))) (fun w h => R_fa fa96_1 rfl) ?_; refine zh 8 rfl (by kernel_rfl) rfl rfl (fun w h => h.drop (.cons_cons _ (List.nil_sublist _))) (fun w h => R_ld1 z94 rfl (zc 0 rfl rfl h)) ?_; refine zh 9 rfl (by kernel_rfl) rfl rfl (fun w h => h.drop (.cons_cons _ (List.nil_sublist _))) (fun w h => R_len sl94 rfl) ?_; refine h_sliceData 4 rfl (by kernel_rfl) (fun w h => h.drop (.cons_cons _ (List.nil_sublist _))) rfl hO.nz ?_
 refine h_unsafeStr (A := [(p, _)]) (W := W) (L := Lr) 10 rfl (by kernel_rfl) (fun w h => h.drop (.cons_cons _ (List.nil_sublist _))) up131 co5 hO.own hb rfl rfl ?_; refine zh 11 rfl (by kernel_rfl) rfl rfl (fun w h => h.drop (.cons_cons _ (List.nil_sublist _))) (fun w h => R_assign rfl) ?_; refine h_done (by kernel_rfl) (fun w h => h.drop (.cons_cons _ (List.nil_sublist _))) ?_; refine zk ?_; refine ze ?_; refine zo (v := str _) rfl rfl rfl ?_; exact fun w' hw => ⟨rfl, hw.drop (List.sublist_cons_self _ _)⟩

set_option maxRecDepth 100000 in
set_option maxHeartbeats 1000000 in
theorem text_spec (p : Nat) (Bs : Base) (Lr : Heap) (w : World) (xs : List Str) (hl : xs.length ≤ 1000000000) (hb : (textT xs).length ≤ 1000000000) (hP : Pen p xs Bs Lr w) :
  Ret Tryd.prog 30 #[.pointer (some ⟨p, 0, none⟩)] w (fun u w' => u = str (textT xs) ∧ St Bs Lr w') := by
 obtain ⟨v, W, hO, hs⟩ := hP
 obtain ⟨pa, pc, rfl⟩ := hO.slice
 refine enterB (l := [_]) 42 Tryd.func30 rfl rfl rfl (hs) ?_; refine yA ?_; refine za (v := str _) rfl ?_; refine yC ?_; refine w_alloc zr96 (fun t3b gt3b ut3b => ?_)
 refine yB ?_; refine zq ?_; refine yA ?_; refine mP rfl ?_; refine w_nilc rfl ?_; refine zf fa64_0 rfl ?_; refine zl z62 rfl (fun _ h => by first | exact zc 0 rfl rfl h | exact zc 1 rfl rfl h | exact zM (cs := [.slice _ xs.length pc]) (T := 64) (.tail _ (List.mem_append_right _ (.head _))) rfl h) ?_; refine w_r (fun _ => R_len sl62 rfl) rfl rfl ?_; refine mI rfl ?_; refine yB ?_; refine zB ?_
 refine c_loop (fun m e B L => ∃ (k : Nat) (a : Option Addr) (v : Value) (W2 : Heap), e 0 = .pointer (some ⟨p, 0, none⟩) ∧ e 3 = .pointer (some ⟨t3b, 0, none⟩) ∧ e 9 = .slice pa xs.length pc ∧ e 10 = .int .i64 (xs.length : Nat) ∧ e 11 = .int .i64 (k : Nat) ∧ Bs = B ∧ L = (t3b, cel [.pointer a, v] 96) :: (W2 ++ ((p, cel [.slice pa xs.length pc] 64) :: (W ++ Lr))) ∧ k ≤ xs.length ∧ BldT t3b a v (textTo xs k) W2 ∧ m = xs.length - k) _ ⟨0, none, _, [], rfl, rfl, rfl, rfl, rfl, rfl, rfl, Nat.zero_le _, BldO.eq (BldO.nil _ _) (textTo_zero xs).symm, rfl⟩ ?_
 rintro m e B L ⟨k, a, v, W2, e0_1, e3_1, e9_1, e10_1, e11_1, rfl, rfl, hk, hO2, rfl⟩
 refine yA ?_; refine w_r (fun _ => R_lt e11_1 e10_1) rfl rfl ?_; refine yB ?_; refine zq ?_; refine zD rfl (fun h2 => ?_) (fun h2 => ?_)
 ·have hlt : k < xs.length := (by omega); obtain ⟨x, hxk⟩ : ∃ x, xs[k]? = some x := ⟨_, List.getElem?_eq_getElem hlt⟩; obtain ⟨pb, psp, rfl, _, rfl⟩ := hO.row (by omega); have hnx := textTo_next hxk; have hle := textTo_le_all (xs := xs) (k := k + 1) (by omega); have hnl := congrArg List.length hnx; simp only [List.length_append] at hnl; have hget : (xs.map str ++ psp)[k]? = some (str x) := (by rw [List.getElem?_append_left (by simpa using hlt)]; simp [hxk])
  refine zi ?_; refine zk ?_; refine zq ?_; refine zB ?_; refine yA ?_; refine mI e11_1 ?_; refine w_r (fun _ => R_iaN (i := k) sl62 e9_1 e11_1 hlt) rfl rfl ?_; refine zl (v := str x) z9 rfl (fun w h => zM (b := pb) (cs := xs.map str ++ psp) (T := 9) (by simp) (by rw [Nat.zero_add, Nat.mul_one]; exact hget) h) ?_; refine aI rfl ?_; refine za (v := str _) rfl ?_; refine yC ?_; refine zm (v := str _) rfl ?_
  refine w_bld (textTo xs k ++ x) (.tuple #[.int .i64 (x.length : Nat), .nilIface]) (fun w => RunE.to (zR Tryd.func52 rfl rfl rfl) (congrArg (fun z => #[z, str x]) e3_1)) rfl rfl hO2 (fun w h => writeS_spec t3b Bs _ w _ x (by first | omega | (simp only [List.length_append, List.length_cons, List.length_nil] at *; omega)) h) (fun a3 v3 W3 hO3 => ?_)
  refine yB ?_; refine zB ?_; refine yA ?_; refine zm (v := str _) rfl ?_; refine w_r (fun _ => R_seq rfl rfl) rfl rfl ?_; refine mB rfl ?_; refine zd (t := 21) rfl (fun h4 => ?_) (fun h4 => ?_)
  ·have he : endT xs.length k x = [10] := (by simp [endT, brk, h4]); rw [he] at hnx; have hnl := congrArg List.length hnx; simp only [List.length_append, List.length_cons, List.length_nil] at hnl
   refine zs rfl rfl (bT h4) ?_; refine zs rfl rfl (bT h4) ?_; refine w_r (v := .bool _) (fun _ => zT (bT h4) rfl) rfl rfl ?_; refine mB rfl ?_; refine zs rfl rfl rfl ?_; refine zs rfl rfl rfl ?_; refine w_r (v := .bool _) (fun _ => zT rfl rfl) rfl rfl ?_; refine aB rfl ?_; refine yB ?_; refine zE rfl ?_; refine zr ?_; refine w_bld (textTo xs k ++ x ++ [10]) (.nilIface) (fun w => RunE.to (zR Tryd.func53 rfl rfl rfl) (congrArg (fun z => #[z, Value.int .u8 10]) e3_1)) rfl rfl hO3 (fun w h => writeB_spec t3b Bs _ w _ 10 (by first | omega | (simp only [List.length_append, List.length_cons, List.length_nil] at *; omega)) h) (fun a5 v5 W5 hO5 => ?_)
   refine zn ?_; refine b_on (b_on (zk ?_)); refine zr ?_; refine w_r (fun _ => R_addi e11_1 rfl (by omega)) rfl rfl ?_; refine mI rfl ?_; refine zn ?_; exact k_again _ (by omega) ⟨k + 1, _, _, _, e0_1, e3_1, e9_1, e10_1, rfl, rfl, rfl, by omega, BldO.eq hO5 (by rw [hnx]; simp), rfl⟩
  ·refine zw rfl rfl (bF h4) ?_; refine zm (v := str _) rfl ?_; refine zw rfl rfl (bF h4) ?_; refine w_r (fun _ => R_seq rfl rfl) rfl rfl ?_; refine w_r (v := .bool _) (fun _ => zF (bF h4) rfl) rfl rfl ?_; refine mB rfl ?_; refine zd (t := 25) rfl (fun h6 => ?_) (fun h6 => ?_)
   ·have he : endT xs.length k x = [10] := (by simp [endT, brk, h6]); rw [he] at hnx; have hnl := congrArg List.length hnx; simp only [List.length_append, List.length_cons, List.length_nil] at hnl
    refine zs rfl rfl (bT h6) ?_; refine zs rfl rfl (bT h6) ?_; refine w_r (v := .bool _) (fun _ => zT (bT h6) rfl) rfl rfl ?_; refine aB rfl ?_; refine yB ?_; refine zE rfl ?_; refine zr ?_; refine w_bld (textTo xs k ++ x ++ [10]) (.nilIface) (fun w => RunE.to (zR Tryd.func53 rfl rfl rfl) (congrArg (fun z => #[z, Value.int .u8 10]) e3_1)) rfl rfl hO3 (fun w h => writeB_spec t3b Bs _ w _ 10 (by first | omega | (simp only [List.length_append, List.length_cons, List.length_nil] at *; omega)) h) (fun a7 v7 W7 hO7 => ?_)
    refine zn ?_; refine b_on (b_on (zk ?_)); refine zr ?_; refine w_r (fun _ => R_addi e11_1 rfl (by omega)) rfl rfl ?_; refine mI rfl ?_; refine zn ?_; exact k_again _ (by omega) ⟨k + 1, _, _, _, e0_1, e3_1, e9_1, e10_1, rfl, rfl, rfl, by omega, BldO.eq hO7 (by rw [hnx]; simp), rfl⟩
   ·refine zw rfl rfl (bF h6) ?_; refine zm (v := str _) rfl ?_; refine zw rfl rfl (bF h6) ?_; refine w_r (fun _ => R_seq rfl rfl) rfl rfl ?_; refine w_r (v := .bool _) (fun _ => zF (bF h6) rfl) rfl rfl ?_; refine aB rfl ?_; refine yB ?_; refine zD rfl (fun h8 => ?_) (fun h8 => ?_)
    ·have he : endT xs.length k x = [10] := (by simp [endT, brk, h8]); rw [he] at hnx; have hnl := congrArg List.length hnx; simp only [List.length_append, List.length_cons, List.length_nil] at hnl
     refine zr ?_; refine w_bld (textTo xs k ++ x ++ [10]) (.nilIface) (fun w => RunE.to (zR Tryd.func53 rfl rfl rfl) (congrArg (fun z => #[z, Value.int .u8 10]) e3_1)) rfl rfl hO3 (fun w h => writeB_spec t3b Bs _ w _ 10 (by first | omega | (simp only [List.length_append, List.length_cons, List.length_nil] at *; omega)) h) (fun a9 v9 W9 hO9 => ?_)
     refine zn ?_; refine b_on (b_on (zk ?_)); refine zr ?_; refine w_r (fun _ => R_addi e11_1 rfl (by omega)) rfl rfl ?_; refine mI rfl ?_; refine zn ?_; exact k_again _ (by omega) ⟨k + 1, _, _, _, e0_1, e3_1, e9_1, e10_1, rfl, rfl, rfl, by omega, BldO.eq hO9 (by rw [hnx]; simp), rfl⟩
    ·refine yA ?_; refine mI rfl ?_; refine w_r (fun _ => R_addi rfl rfl (by omega)) rfl rfl ?_; refine mP e0_1 ?_; refine w_nilc rfl ?_; refine zf fa64_0 rfl ?_; refine zl z62 rfl (fun _ h => by first | exact zc 0 rfl rfl h | exact zM (cs := [.slice _ xs.length pc]) (T := 64) (.tail _ (List.mem_append_right _ (.head _))) rfl h) ?_; refine w_r (fun _ => R_len sl62 rfl) rfl rfl ?_; refine w_r (fun _ => R_lt rfl rfl) rfl rfl ?_; refine aB rfl ?_; refine yB ?_; refine zD rfl (fun h10 => ?_) (fun h10 => ?_)
     ·have he : endT xs.length k x = [32] := (by unfold endT; rw [brk_no h4 h6 h8, if_neg Bool.false_ne_true, if_pos (show k + 1 < xs.length by omega)]); rw [he] at hnx; have hnl := congrArg List.length hnx; simp only [List.length_append, List.length_cons, List.length_nil] at hnl
      refine zr ?_; refine w_bld (textTo xs k ++ x ++ [32]) (.nilIface) (fun w => RunE.to (zR Tryd.func53 rfl rfl rfl) (congrArg (fun z => #[z, Value.int .u8 32]) e3_1)) rfl rfl hO3 (fun w h => writeB_spec t3b Bs _ w _ 32 (by first | omega | (simp only [List.length_append, List.length_cons, List.length_nil] at *; omega)) h) (fun a11 v11 W11 hO11 => ?_)
      refine zn ?_; refine b_on (b_on (zk ?_)); refine zr ?_; refine w_r (fun _ => R_addi e11_1 rfl (by omega)) rfl rfl ?_; refine mI rfl ?_; refine zn ?_; exact k_again _ (by omega) ⟨k + 1, _, _, _, e0_1, e3_1, e9_1, e10_1, rfl, rfl, rfl, by omega, BldO.eq hO11 (by rw [hnx]; simp), rfl⟩
     ·have he : endT xs.length k x = [] := (by unfold endT; rw [brk_no h4 h6 h8, if_neg Bool.false_ne_true, if_neg (show ¬ k + 1 < xs.length by omega)]); rw [he] at hnx; have hnl := congrArg List.length hnx; simp only [List.length_append, List.length_cons, List.length_nil] at hnl
      refine zi ?_; refine b_on (b_on (zk ?_)); refine zr ?_; refine w_r (fun _ => R_addi e11_1 rfl (by omega)) rfl rfl ?_; refine mI rfl ?_; refine zn ?_; exact k_again _ (by omega) ⟨k + 1, _, _, _, e0_1, e3_1, e9_1, e10_1, rfl, rfl, rfl, by omega, BldO.eq hO3 (by rw [hnx]; simp), rfl⟩
 ·obtain rfl : k = xs.length := (by omega)
  refine c_exit ?_; refine zx (zx (b_here rfl (zk ?_))); refine yA ?_; refine w_lets (L' := (p, cel [.slice pa xs.length pc] 64) :: (W ++ Lr)) (str (textT xs)) (fun w => RunE.to (zR Tryd.func54 rfl rfl rfl) (congrArg (fun z => #[z]) e3_1)) rfl rfl (fun w h => string_spec t3b Bs _ w (textTo xs xs.length) hb ⟨_, _, _, hO2, h⟩) ?_; refine za (v := str _) rfl ?_; refine yB ?_; refine ze ?_; refine zo (v := str _) rfl rfl rfl ?_; exact fun w' hw => ⟨rfl, hw.drop ((List.sublist_append_right _ _).trans (List.sublist_cons_self _ _))⟩
end Go.Proofs.YtcmcdgkjipnfnaaDoor
end

section
namespace Go.Proofs.YtcmcdgkjipnfnaaDoor
open Go.RowKit Go.Sx
open Go.Tok Go.Tree

set_option maxRecDepth 100000 in
set_option maxHeartbeats 400000 in
theorem CheckExpr_spec (x : Ex) (cs : List Value) (N : Nat → Prop) (w : World) (hx : exW x < 10000000) (hm : exM w N x cs) (hW : Wd w) :
  Ret Tryd.prog 17 #[.agg cs.toArray] w (fun v w' => v = .int .i64 (if exOk x then 0 else 120) ∧ Ext w w') := by
 obtain ⟨op, at_, nm, ks⟩ := x
 have hm2 := hm
 unfold exM at hm2
 obtain ⟨ka, kc, rfl, hkc, hks⟩ := hm2
 have hx2 := hx
 unfold exW at hx2
 refine enter (S := No) (l := [_]) (L := []) 6 Tryd.func17 rfl rfl rfl (St.start w No) ?_; refine yA ?_; refine w_boxA rfl (fun t1b gt1b ut1b => ?_)
 refine aI rfl ?_; refine yB ?_; refine zq ?_; refine yA ?_; refine w_loadA z49 rfl (fun _ h => h.at_ 0 rfl) rfl ?_; refine zC (fun w => zR Tryd.func38 rfl rfl rfl) rfl rfl (fun w h => expr_ok _ _ N w hx (hm.now (fun _ _ hh => hh) (.head _) h) (hW.now (.head _) h)) ?_; refine w_r (fun _ => R_not rfl) rfl rfl ?_; refine yB ?_; refine c_condN rfl (fun h2 => ?_) (fun h2 => ?_)
 ·refine yA ?_; refine aI rfl ?_; refine yB ?_; refine ze ?_; refine zt (?_)
  refine zo (v := .int _ _) rfl rfl rfl ?_; exact fun w' hw => ⟨by simp_all, hw.fr _ (.head _)⟩
 ·refine zi ?_; refine zk ?_; refine yA ?_; refine aI rfl ?_; refine yB ?_; refine ze ?_; refine zo (v := .int _ _) rfl rfl rfl ?_; exact fun w' hw => ⟨by simp_all, hw.fr _ (.head _)⟩

set_option maxRecDepth 100000 in
set_option maxHeartbeats 400000 in
theorem WriteExpr_spec (x : Ex) (cs : List Value) (N : Nat → Prop) (w : World) (hx : exW x < 10000000) (hm : exM w N x cs) (hW : Wd w) (hl : (exT x).length ≤ 1000000000) (hb : (textT (exT x)).length ≤ 1000000000) :
  Ret Tryd.prog 14 #[.agg cs.toArray] w (fun v w' => v = .tuple #[str (if exOk x then textT (exT x) else []), .int .i64 (if exOk x then 0 else 120)] ∧ Ext w w') := by
 obtain ⟨op, at_, nm, ks⟩ := x
 have hm2 := hm
 unfold exM at hm2
 obtain ⟨ka, kc, rfl, hkc, hks⟩ := hm2
 have hx2 := hx
 unfold exW at hx2
 refine enter (S := No) (l := [_]) (L := []) 15 Tryd.func14 rfl rfl rfl (St.start w No) ?_; refine yA ?_; refine w_boxA rfl (fun t1b gt1b ut1b => ?_)
 refine za (v := str _) rfl ?_; refine aI rfl ?_; refine yB ?_; refine zq ?_; refine yA ?_; refine w_loadA z49 rfl (fun _ h => h.at_ 0 rfl) rfl ?_; refine zC (fun w => zR Tryd.func38 rfl rfl rfl) rfl rfl (fun w h => expr_ok _ _ N w hx (hm.now (fun _ _ hh => hh) (.head _) h) (hW.now (.head _) h)) ?_; refine w_r (fun _ => R_not rfl) rfl rfl ?_; refine yB ?_; refine c_condN rfl (fun h2 => ?_) (fun h2 => ?_)
 ·refine yA ?_; refine za (v := str _) rfl ?_; refine aI rfl ?_; refine yB ?_; refine ze ?_; refine zt (?_)
  refine r_two (v := str _) (v2 := .int _ _) rfl rfl rfl rfl rfl ?_; exact fun w' hw => ⟨by simp_all, hw.fr _ (.head _)⟩
 ·refine zi ?_; refine zk ?_; refine yA ?_; refine w_r (fun _ => R_build bt64 rfl) rfl rfl ?_; refine w_boxA rfl (fun p gp up => ?_)
  refine za (v := .pointer _) rfl ?_; refine yC ?_; refine mP rfl ?_; refine w_loadA z49 rfl (fun _ h => h.at_ 1 rfl) rfl ?_; refine w_st (B' := _) (L' := (p, cel [.slice none 0 0] 64) :: ([] ++ [(t1b, cel [.int .u8 (op : Nat), .int .i64 at_, str nm, .slice ka ks.length kc] 49)])) (fun w h => h) ?_; refine w_pen (A := []) (Lr := [(t1b, cel [.int .u8 (op : Nat), .int .i64 at_, str nm, .slice ka ks.length kc] 49)]) (exT (Ex.mk op at_ nm ks)) (fun w => zR Tryd.func39 rfl rfl rfl) rfl rfl (Own.nil _ 1 : OwnT (.slice none 0 0) [] []) (fun w h => pexpr_ok _ _ N _ p _ _ w _ hx (penOk_of (by first | assumption | simp_all)) hm (fun _ _ hh => hh) (.head _) (by rw [List.length_nil, Nat.zero_add]; exact hl) h) (fun v4 W4 hO4 => ?_)
  refine yC ?_; refine mP rfl ?_; refine w_lets (str (textT (exT (Ex.mk op at_ nm ks)))) (fun w => zR Tryd.func30 rfl rfl rfl) rfl rfl (fun w h => text_spec p _ _ w _ hl hb ⟨_, _, hO4, h⟩) ?_; refine za (v := str _) rfl ?_; refine aI rfl ?_; refine yB ?_; refine ze ?_; refine r_two (v := str _) (v2 := .int _ _) rfl rfl rfl rfl rfl ?_; exact fun w' hw => ⟨by simp_all, hw.fr _ (.head _)⟩
end Go.Proofs.YtcmcdgkjipnfnaaDoor
end

section
/- The text of a program. -/
namespace Go.Tree
open Go.Tok
def headS : Nat → Str
  | 0 => [100, 97, 116, 97]
  | 1 => [116, 114, 97, 110, 115, 102, 111, 114, 109, 101, 100, 32, 100, 97, 116, 97]
  | 2 => [112, 97, 114, 97, 109, 101, 116, 101, 114, 115]
  | 3 => [116, 114, 97, 110, 115, 102, 111, 114, 109, 101, 100, 32, 112, 97, 114, 97, 109, 101, 116, 101, 114, 115]
  | 4 => [109, 111, 100, 101, 108]
  | 5 => [103, 101, 110, 101, 114, 97, 116, 101, 100, 32, 113, 117, 97, 110, 116, 105, 116, 105, 101, 115]
  | _ => []
def headW : Nat → List Str
  | 0 => [[100, 97, 116, 97]]
  | 1 => [[116, 114, 97, 110, 115, 102, 111, 114, 109, 101, 100], [100, 97, 116, 97]]
  | 2 => [[112, 97, 114, 97, 109, 101, 116, 101, 114, 115]]
  | 3 => [[116, 114, 97, 110, 115, 102, 111, 114, 109, 101, 100], [112, 97, 114, 97, 109, 101, 116, 101, 114, 115]]
  | 4 => [[109, 111, 100, 101, 108]]
  | 5 => [[103, 101, 110, 101, 114, 97, 116, 101, 100], [113, 117, 97, 110, 116, 105, 116, 105, 101, 115]]
  | _ => []
theorem heads_ok {i : Nat} (h : i < 6) : (headS i).length < 4294967281 ∧ (headS i).all (fun b => decide (b.toNat < 128)) = true ∧ Lib.fields (headS i) = headW i ∧ (headW i).length ≤ 2 ∧ 0 < (headW i).length := by
  obtain rfl | rfl | rfl | rfl | rfl | rfl : i = 0 ∨ i = 1 ∨ i = 2 ∨ i = 3 ∨ i = 4 ∨ i = 5 := by omega
  all_goals decide
theorem heads_ascii {i : Nat} (h : i < 6) : ∀ (j : Nat) b, (headS i)[j]? = some b → b.toNat < 128 := fun j b hb => by
  have := (heads_ok h).2.1
  rw [List.all_eq_true] at this
  exact of_decide_eq_true (this b (List.mem_of_getElem? hb))
def dcsT (l : List Dc) : List Str := l.flatMap dcT
theorem dcsT_next {l : List Dc} {k : Nat} {x : Dc} (h : l[k]? = some x) : dcsT (l.take (k + 1)) = dcsT (l.take k) ++ dcT x := by
  obtain ⟨hk, hg⟩ := List.getElem?_eq_some_iff.1 h
  unfold dcsT
  rw [List.take_succ_eq_append_getElem hk, List.flatMap_append, hg]
  simp
theorem dcsT_le (l : List Dc) (k : Nat) : (dcsT (l.take k)).length ≤ (dcsT l).length := by
  have : dcsT l = dcsT (l.take k) ++ dcsT (l.drop k) := by unfold dcsT; rw [← List.flatMap_append, List.take_append_drop]
  rw [this, List.length_append]; omega
def bkT (i : Nat) (b : Bk) : List Str := if b.is then headW i ++ [[123]] ++ dcsT b.decls ++ (smsT b.stmts).flatten ++ [[125]] else []
def pgTo (p : List Bk) (i : Nat) : List Str := (List.range i).flatMap fun j => match p[j]? with | some b => bkT j b | none => []
def pgT (p : List Bk) : List Str := pgTo p 6
theorem pgTo_next {p : List Bk} {i : Nat} {b : Bk} (h : p[i]? = some b) : pgTo p (i + 1) = pgTo p i ++ bkT i b := by
  unfold pgTo
  rw [List.range_succ, List.flatMap_append]
  simp [h]
theorem pgTo_le {p : List Bk} : ∀ {k n : Nat}, k ≤ n → (pgTo p k).length ≤ (pgTo p n).length := by
  intro k n h
  obtain ⟨m, rfl⟩ := Nat.exists_eq_add_of_le h
  clear h
  induction m with
  | zero => exact Nat.le_refl _
  | succ m ih =>
    refine Nat.le_trans ih ?_
    unfold pgTo
    rw [← Nat.add_assoc, List.range_succ, List.flatMap_append, List.length_append]
    omega
theorem pgTo_zero (p : List Bk) : pgTo p 0 = [] := rfl
theorem pg_facts {p : List Bk} (h : pgOk p = true) {i : Nat} {b : Bk} (hi : i < 6) (hb : p[i]? = some b) : (∀ y ∈ b.decls, dcOk y = true) ∧ smsOk b.stmts = true := by
  unfold pgOk at h
  rw [List.all_eq_true] at h
  have h1 := h i (List.mem_range.2 hi)
  rw [hb] at h1
  simp only [bkOk, headB, Bool.and_eq_true, List.all_eq_true, dgood] at h1
  exact ⟨fun y hy => (h1.2 y hy).1, h1.1.2⟩
attribute [irreducible] pgTo
end Go.Tree
end
