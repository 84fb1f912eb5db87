/- Layer 13, ParseWrites. Part 12 of 15. -/
import Derived.Test.YtaniogadknakoaaGreatDoorW11
set_option maxRecDepth 100000
set_option maxHeartbeats 16000000
section
namespace Go.Proofs.YtaniogadknakoaaGreatDoor
open Go.RowKit Go.Sx
open Go.Tok Go.Tree


def RNodesP (n : Nat) : Prop := ∀ (l : List Ex) (a : Option Addr) (c : Nat) (N : Nat → Prop) (w : World), exsW l < n → l.length ≤ 10000000 → exsM w N l a 0 →
    Ret Tryz.prog 74 #[.slice a l.length c] w fun v w' => v = .int .i64 (exsN l : Nat) ∧ Ext w w'
def RLongP (n : Nat) : Prop := ∀ (l : List Ex) (a : Option Addr) (c : Nat) (N : Nat → Prop) (w : World), exsW l < n → l.length ≤ 10000000 → exsM w N l a 0 →
    Ret Tryz.prog 38 #[.slice a l.length c] w fun v w' => v = .bool (exsLong l) ∧ Ext w w'

theorem rnodes_step (n : Nat) (ih : RNodesP n) (hN : n ≤ 10000000) (l : List Ex) (a : Option Addr) (c : Nat) (N : Nat → Prop) (w : World) (hl : exsW l < n + 1) (hll : l.length ≤ 10000000) (hm : exsM w N l a 0) :
    Ret Tryz.prog 74 #[.slice a l.length c] w (fun v w' => v = .int .i64 (exsN l : Nat) ∧ Ext w w') := by
  refine enter (S := No) (l := [_]) (L := []) 21 Tryz.func74 rfl rfl rfl (St.start w No) (yA (aI rfl (yC (aI rfl (yB (zq (yA (aI rfl (yB (zB (c_loop (fun m e B L => ∃ (k : Nat), e 0 = .slice a l.length c ∧ e 3 = .int .i64 (exsN (l.take k) : Nat) ∧ e 4 = .int .i64 (k : Nat) ∧ B = [(w, No)] ∧ L = [] ∧ k ≤ l.length ∧ m = l.length - k) _ ⟨0, rfl, rfl, rfl, rfl, rfl, Nat.zero_le _, rfl⟩ ?_)))))))))))
  rintro m e B L ⟨k, e0_1, e3_1, e4_1, rfl, rfl, hk, rfl⟩
  refine zq (yA (mI e4_1 (mS e0_1 (zg (fun _ => R_len sl37 rfl) (zg (fun _ => R_lt rfl rfl) (yB ?_)))))); refine zD rfl (fun h1 => ?_) (fun h1 => ?_)
  · have hlt : k < l.length := (by omega); obtain ⟨x, hxk⟩ : ∃ x, l[k]? = some x := ⟨_, List.getElem?_eq_getElem hlt⟩; obtain ⟨cs, hA, hE⟩ := hm.get0 hxk; have hxn := exsW_mem (List.mem_of_getElem? hxk); have hle := exsN_take l (k + 1); have hnx := exsN_next hxk; have hlN := exsN_le l; obtain ⟨b1, o1, rfl⟩ := hA.ptr; obtain ⟨op, at_, nm, ks⟩ := x; have hE2 := hE; unfold exM at hE2; obtain ⟨ka, kc, rfl, hkc, hks⟩ := hE2; have hxw := hxn; unfold exW at hxw; have hxN := hnx; unfold exN at hxN; have hkN := exsN_le ks
    refine zi (zk (zq (zB (zr (mI e3_1 (zg (fun _ => R_addi rfl rfl (by omega)) (mS e0_1 (mI e4_1 (zg (fun _ => R_iaN (i := k) sl37 rfl rfl (by omega)) (zf fa39_3 rfl (zl z37 rfl (fun _ h => hA.cell (fun _ _ hh => hh) zm0 h 3 _ rfl) (zC (fun w => zR Tryz.func74 rfl rfl rfl) rfl rfl (fun w h => ih ks ka kc N w (by omega) (by omega) (hks.now (fun _ _ hh => hh) zm0 h)) (zg (fun _ => R_addi rfl rfl (by omega)) (aI rfl (zn (zO (zk (zr (mI e4_1 (zg (fun _ => R_addi rfl rfl (by omega)) (aI rfl (zn ?_))))))))))))))))))))))
    have hfin : ((exsN (l.take k) : Nat) : Int) + 1 + ((exsN ks : Nat) : Int) = ((exsN (l.take (k + 1)) : Nat) : Int) := by omega
    exact k_again _ (by omega) ⟨k + 1, e0_1, (congrArg (Value.int .i64) hfin), rfl, rfl, rfl, by omega, rfl⟩
  · refine zX (zx (zx (b_here rfl (zk (yA (mI e3_1 (aI rfl (yB (ze (zo (v := .int _ _) rfl rfl rfl ?_)))))))))); exact fun w' hw => ⟨by rw [List.take_of_length_le (by omega)], hw.fr _ zm0⟩


theorem rnodes_all : ∀ n : Nat, n ≤ 10000000 → RNodesP n
  | 0, _ => fun _ _ _ _ _ h => absurd h (Nat.not_lt_zero _)
  | n + 1, h => rnodes_step n (rnodes_all n (by omega)) (by omega)
theorem rnodes_ok : RNodesP 10000000 := rnodes_all _ (Nat.le_refl _)

theorem rlong_step (n : Nat) (ih : RLongP n) (hN : n ≤ 10000000) (l : List Ex) (a : Option Addr) (c : Nat) (N : Nat → Prop) (w : World) (hl : exsW l < n + 1) (hll : l.length ≤ 10000000) (hm : exsM w N l a 0) :
    Ret Tryz.prog 38 #[.slice a l.length c] w (fun v w' => v = .bool (exsLong l) ∧ Ext w w') := by
  refine enter (S := No) (l := [_]) (L := []) 25 Tryz.func38 rfl rfl rfl (St.start w No) (yA (aB rfl (yB (zq (yA (aI rfl (yB (zB (c_loop (fun m e B L => ∃ (k : Nat), e 0 = .slice a l.length c ∧ e 3 = .int .i64 (k : Nat) ∧ B = [(w, No)] ∧ L = [] ∧ k ≤ l.length ∧ (∀ y ∈ l.take k, exLong y = false) ∧ m = l.length - k) _ ⟨0, rfl, rfl, rfl, rfl, Nat.zero_le _, (by simp), rfl⟩ ?_)))))))))
  rintro m e B L ⟨k, e0_1, e3_1, rfl, rfl, hk, hy, rfl⟩
  refine zq (yA (mI e3_1 (mS e0_1 (zg (fun _ => R_len sl37 rfl) (zg (fun _ => R_lt rfl rfl) (yB ?_)))))); refine zD rfl (fun h1 => ?_) (fun h1 => ?_)
  · have hlt : k < l.length := (by omega); obtain ⟨x, hxk⟩ : ∃ x, l[k]? = some x := ⟨_, List.getElem?_eq_getElem hlt⟩; obtain ⟨cs, hA, hE⟩ := hm.get0 hxk; have hxn := exsW_mem (List.mem_of_getElem? hxk); have hle := exsN_take l (k + 1); have hnx := exsN_next hxk; have hlN := exsN_le l; obtain ⟨b1, o1, rfl⟩ := hA.ptr; obtain ⟨op, at_, nm, ks⟩ := x; have hE2 := hE; unfold exM at hE2; obtain ⟨ka, kc, rfl, hkc, hks⟩ := hE2; have hxw := hxn; unfold exW at hxw; have hxN := hnx; unfold exN at hxN; have hkN := exsN_le ks
    refine zi (zk (zq (zB (yA (mS e0_1 (mI e3_1 (zg (fun _ => R_iaN (i := k) sl37 rfl rfl (by omega)) (zf fa39_2 rfl ?_)))))))); refine zl z9 rfl (fun _ h => by exact hA.cell (fun _ _ hh => hh) zm0 h 2 _ rfl) ?_; refine zg (fun _ => R_slen st9 rfl (by omega)) (zg (fun _ => R_gt rfl rfl) (mB rfl ?_)); refine zd (t := 17) rfl (fun h2 => ?_) (fun h2 => ?_)
    · refine zs rfl rfl (bT h2) (zs rfl rfl (bT h2) (zs rfl rfl (bT h2) (zs rfl rfl (bT h2) (zs rfl rfl (bT h2) (zs rfl rfl (bT h2) (zg (v := .bool _) (fun _ => zT (bT h2) rfl) (yB (zE rfl (yA (aB rfl (yB (ze (zb (zt (zt (zb (zt ((zo (v := .bool _) rfl rfl rfl ?_))))))))))))))))))); exact fun w' hw => ⟨by rw [exsLong_any]; (rw [any_yes hxk (by (try clear ih hm hA hE hks hw hl hxn hle hnx hxN hxw hy hlN hkN e0_1 e3_1); simp only [exLong]; grind)]; done), hw.fr _ zm0⟩
    · refine zw rfl rfl (bF h2) (mS e0_1 (zw rfl rfl (bF h2) (mI e3_1 (zw rfl rfl (bF h2) (zg (fun _ => R_iaN (i := k) sl37 rfl rfl (by omega)) (zw rfl rfl (bF h2) (zf fa39_3 rfl (zw rfl rfl (bF h2) ?_)))))))); refine zl z37 rfl (fun _ h => by exact hA.cell (fun _ _ hh => hh) zm0 h 3 _ rfl) ?_; refine zw rfl rfl (bF h2) (zC (fun w => zR Tryz.func38 rfl rfl rfl) rfl rfl (fun w h => ih ks ka kc N w (by omega) (by omega) (hks.now (fun _ _ hh => hh) zm0 h)) (zg (v := .bool _) (fun _ => zF (bF h2) rfl) (yB ?_))); refine c_cond rfl (fun h3 => ?_) (fun h3 => ?_)
      · refine yA (aB rfl (yB (ze (zb (zt (zt (zb (zt ((zo (v := .bool _) rfl rfl rfl ?_)))))))))); exact fun w' hw => ⟨by rw [exsLong_any]; (rw [any_yes hxk (by (try clear ih hm hA hE hks hw hl hxn hle hnx hxN hxw hy hlN hkN e0_1 e3_1); simp only [exLong]; grind)]; done), hw.fr _ zm0⟩
      · refine zi (zO (zk (zr (mI e3_1 (zg (fun _ => R_addi rfl rfl (by omega)) (aI rfl (zn ?_))))))); exact k_again _ (by omega) ⟨k + 1, e0_1, rfl, rfl, rfl, by omega, take_all hy hxk (by (try clear ih hm hA hE hks hl hxn hle hnx hxN hxw hy hlN hkN e0_1 e3_1); simp only [exLong]; grind), rfl⟩
  · refine zX (zx (zx (b_here rfl (zk (yA (aB rfl (yB (ze (zo (v := .bool _) rfl rfl rfl ?_))))))))); exact fun w' hw => ⟨by rw [exsLong_any]; (rw [any_of_take hy (by omega)]; done), hw.fr _ zm0⟩


theorem rlong_all : ∀ n : Nat, n ≤ 10000000 → RLongP n
  | 0, _ => fun _ _ _ _ _ h => absurd h (Nat.not_lt_zero _)
  | n + 1, h => rlong_step n (rlong_all n (by omega)) (by omega)
theorem rlong_ok : RLongP 10000000 := rlong_all _ (Nat.le_refl _)
def RNodesOfP (n : Nat) : Prop := ∀ (l : List Sm) (a : Option Addr) (c : Nat) (N : Nat → Prop) (w : World), smsW l < n → l.length ≤ 10000000 → smsM w N l a 0 →
    Ret Tryz.prog 73 #[.slice a l.length c] w fun v w' => v = .int .i64 (smsN l : Nat) ∧ Ext w w'
def RLongOfP (n : Nat) : Prop := ∀ (l : List Sm) (a : Option Addr) (c : Nat) (N : Nat → Prop) (w : World), smsW l < n → l.length ≤ 10000000 → smsM w N l a 0 →
    Ret Tryz.prog 37 #[.slice a l.length c] w fun v w' => v = .bool (smsLong l) ∧ Ext w w'

theorem rnodesOf_step (n : Nat) (ih : RNodesOfP n) (hN : n ≤ 10000000) (l : List Sm) (a : Option Addr) (c : Nat) (N : Nat → Prop) (w : World) (hl : smsW l < n + 1) (hll : l.length ≤ 10000000) (hm : smsM w N l a 0) :
    Ret Tryz.prog 73 #[.slice a l.length c] w (fun v w' => v = .int .i64 (smsN l : Nat) ∧ Ext w w') := by
  refine enter (S := No) (l := [_]) (L := []) 35 Tryz.func73 rfl rfl rfl (St.start w No) (yA (aI rfl (yC (aI rfl (yB (zq (yA (aI rfl (yB (zB (c_loop (fun m e B L => ∃ (k : Nat), e 0 = .slice a l.length c ∧ e 3 = .int .i64 (smsN (l.take k) : Nat) ∧ e 4 = .int .i64 (k : Nat) ∧ B = [(w, No)] ∧ L = [] ∧ k ≤ l.length ∧ m = l.length - k) _ ⟨0, rfl, rfl, rfl, rfl, rfl, Nat.zero_le _, rfl⟩ ?_)))))))))))
  rintro m e B L ⟨k, e0_1, e3_1, e4_1, rfl, rfl, hk, rfl⟩
  refine zq (yA (mI e4_1 (mS e0_1 (zg (fun _ => R_len sl24 rfl) (zg (fun _ => R_lt rfl rfl) (yB ?_)))))); refine zD rfl (fun h1 => ?_) (fun h1 => ?_)
  · have hlt : k < l.length := (by omega); obtain ⟨x, hxk⟩ : ∃ x, l[k]? = some x := ⟨_, List.getElem?_eq_getElem hlt⟩; obtain ⟨cs, hA, hE⟩ := hm.get0 hxk; have hxn := smsW_mem (List.mem_of_getElem? hxk); have hle := smsN_take l (k + 1); have hnx := smsN_next hxk; have hlN := smsN_le l; obtain ⟨b1, o1, rfl⟩ := hA.ptr; obtain ⟨op, at_, nm, ks, bo, el⟩ := x; have hE2 := hE; unfold smM at hE2; obtain ⟨ka, kc, ba, bc, ea, ec, rfl, hkc, hks, hbo, hel⟩ := hE2; have hxw := hxn; unfold smW at hxw; have hxN := hnx; unfold smN at hxN; have hkN := exsN_le ks
    refine zi (zk (zq (zB (c_held (St [(w, No)] []) mixed (zh2 0 rfl rfl (fun w h => h) (fun w h => R_move e3_1) (zh2 1 rfl rfl (fun w h => h) (fun w h => R_addi rfl rfl (by omega)) (zh2 2 rfl rfl (fun w h => h) (fun w h => R_move e0_1) (zh2 3 rfl rfl (fun w h => h) (fun w h => R_move e4_1) (zh2 4 rfl rfl (fun w h => h) (fun w h => R_iaN (i := k) sl24 rfl rfl (by omega)) (zh2 5 rfl rfl (fun w h => h) (fun w h => R_fa fa76_3 rfl) ?_)))))))))); refine zh2 6 rfl rfl (fun w h => h) (fun w h => R_ld1 z37 rfl (by exact hA.cell (fun _ _ hh => hh) zm0 h 3 _ rfl)) ?_
    refine zh2 9 rfl rfl (fun w h => h) (fun w h => R_move e0_1) (zh2 10 rfl rfl (fun w h => h) (fun w h => R_move e4_1) (zh2 11 rfl rfl (fun w h => h) (fun w h => R_iaN (i := k) sl24 rfl rfl (by omega)) (zh2 12 rfl rfl (fun w h => h) (fun w h => R_fa fa76_4 rfl) ?_))); refine zh2 13 rfl rfl (fun w h => h) (fun w h => R_ld1 z24 rfl (by exact hA.cell (fun _ _ hh => hh) zm0 h 4 _ rfl)) ?_; refine zh2 16 rfl rfl (fun w h => h) (fun w h => R_move e0_1) (zh2 17 rfl rfl (fun w h => h) (fun w h => R_move e4_1) (zh2 18 rfl rfl (fun w h => h) (fun w h => R_iaN (i := k) sl24 rfl rfl (by omega)) ?_))
    refine zh2 19 rfl rfl (fun w h => h) (fun w h => R_fa fa76_5 rfl) ?_; refine zh2 20 rfl rfl (fun w h => h) (fun w h => R_ld1 z24 rfl (by exact hA.cell (fun _ _ hh => hh) zm0 h 5 _ rfl)) ?_; refine h_pure 7 rfl (by kernel_rfl) rfl rfl (fun w h => h) (fun w => zR Tryz.func74 rfl rfl rfl) (fun w h => rnodes_ok ks ka kc N w (by omega) (by omega) (hks.now (fun _ _ hh => hh) zm0 h)) (zh2 8 rfl rfl (fun w h => h) (fun w h => R_addi rfl rfl (by omega)) (h_pure 14 rfl (by kernel_rfl) rfl rfl (fun w h => h) (fun w => zR Tryz.func73 rfl rfl rfl) (fun w h => ih bo ba bc N w (by omega) (by omega) (hbo.now (fun _ _ hh => hh) zm0 h)) (zh2 15 rfl rfl (fun w h => h) (fun w h => R_addi rfl rfl (by omega)) ?_)))
    refine h_pure 21 rfl (by kernel_rfl) rfl rfl (fun w h => h) (fun w => zR Tryz.func73 rfl rfl rfl) (fun w h => ih el ea ec N w (by omega) (by omega) (hel.now (fun _ _ hh => hh) zm0 h)) (zh2 22 rfl rfl (fun w h => h) (fun w h => R_addi rfl rfl (by omega)) (zh2 23 rfl rfl (fun w h => h) (fun w h => R_assign rfl) (zN2 (fun w h => h) (zO (zk (zr (mI e4_1 (zg (fun _ => R_addi rfl rfl (by omega)) (aI rfl (zn ?_))))))))))
    have hfin : ((smsN (l.take k) : Nat) : Int) + 1 + ((exsN ks : Nat) : Int) + ((smsN bo : Nat) : Int) + ((smsN el : Nat) : Int) = ((smsN (l.take (k + 1)) : Nat) : Int) := by omega
    exact k_again _ (by omega) ⟨k + 1, e0_1, (congrArg (Value.int .i64) hfin), rfl, rfl, rfl, by omega, rfl⟩
  · refine zX (zx (zx (b_here rfl (zk (yA (mI e3_1 (aI rfl (yB (ze (zo (v := .int _ _) rfl rfl rfl ?_)))))))))); exact fun w' hw => ⟨by rw [List.take_of_length_le (by omega)], hw.fr _ zm0⟩


theorem rnodesOf_all : ∀ n : Nat, n ≤ 10000000 → RNodesOfP n
  | 0, _ => fun _ _ _ _ _ h => absurd h (Nat.not_lt_zero _)
  | n + 1, h => rnodesOf_step n (rnodesOf_all n (by omega)) (by omega)
theorem rnodesOf_ok : RNodesOfP 10000000 := rnodesOf_all _ (Nat.le_refl _)

theorem rlongOf_step (n : Nat) (ih : RLongOfP n) (hN : n ≤ 10000000) (l : List Sm) (a : Option Addr) (c : Nat) (N : Nat → Prop) (w : World) (hl : smsW l < n + 1) (hll : l.length ≤ 10000000) (hm : smsM w N l a 0) :
    Ret Tryz.prog 37 #[.slice a l.length c] w (fun v w' => v = .bool (smsLong l) ∧ Ext w w') := by
  refine enter (S := No) (l := [_]) (L := []) 41 Tryz.func37 rfl rfl rfl (St.start w No) (yA (aB rfl (yB (zq (yA (aI rfl (yB (zB (c_loop (fun m e B L => ∃ (k : Nat), e 0 = .slice a l.length c ∧ e 3 = .int .i64 (k : Nat) ∧ B = [(w, No)] ∧ L = [] ∧ k ≤ l.length ∧ (∀ y ∈ l.take k, smLong y = false) ∧ m = l.length - k) _ ⟨0, rfl, rfl, rfl, rfl, Nat.zero_le _, (by simp), rfl⟩ ?_)))))))))
  rintro m e B L ⟨k, e0_1, e3_1, rfl, rfl, hk, hy, rfl⟩
  refine zq (yA (mI e3_1 (mS e0_1 (zg (fun _ => R_len sl24 rfl) (zg (fun _ => R_lt rfl rfl) (yB ?_)))))); refine zD rfl (fun h1 => ?_) (fun h1 => ?_)
  · have hlt : k < l.length := (by omega); obtain ⟨x, hxk⟩ : ∃ x, l[k]? = some x := ⟨_, List.getElem?_eq_getElem hlt⟩; obtain ⟨cs, hA, hE⟩ := hm.get0 hxk; have hxn := smsW_mem (List.mem_of_getElem? hxk); have hle := smsN_take l (k + 1); have hnx := smsN_next hxk; have hlN := smsN_le l; obtain ⟨b1, o1, rfl⟩ := hA.ptr; obtain ⟨op, at_, nm, ks, bo, el⟩ := x; have hE2 := hE; unfold smM at hE2; obtain ⟨ka, kc, ba, bc, ea, ec, rfl, hkc, hks, hbo, hel⟩ := hE2; have hxw := hxn; unfold smW at hxw; have hxN := hnx; unfold smN at hxN; have hkN := exsN_le ks
    refine zi (zk (zq (zB (yA (mS e0_1 (mI e3_1 (zg (fun _ => R_iaN (i := k) sl24 rfl rfl (by omega)) (zf fa76_2 rfl ?_)))))))); refine zl z9 rfl (fun _ h => by exact hA.cell (fun _ _ hh => hh) zm0 h 2 _ rfl) ?_; refine zg (fun _ => R_slen st9 rfl (by omega)) (zg (fun _ => R_gt rfl rfl) (mB rfl ?_)); refine zd (t := 17) rfl (fun h2 => ?_) (fun h2 => ?_)
    · refine zs rfl rfl (bT h2) (zs rfl rfl (bT h2) (zs rfl rfl (bT h2) (zs rfl rfl (bT h2) (zs rfl rfl (bT h2) (zs rfl rfl (bT h2) (zg (v := .bool _) (fun _ => zT (bT h2) rfl) (mB rfl ?_))))))); (iterate 6 refine zs rfl rfl rfl ?_); refine zg (v := .bool _) (fun _ => zT rfl rfl) (mB rfl ?_); (iterate 4 refine zs rfl rfl rfl ?_); refine zs rfl rfl rfl ?_
      refine zs rfl rfl rfl (zg (v := .bool _) (fun _ => zT rfl rfl) (yB (zE rfl (yA (aB rfl (yB (ze (zb (zt (zt (zb (zt ((zo (v := .bool _) rfl rfl rfl ?_)))))))))))))); exact fun w' hw => ⟨by rw [smsLong_any]; (rw [any_yes hxk (by (try clear ih hm hA hE hks hbo hel hw hl hxn hle hnx hxN hxw hy hlN hkN e0_1 e3_1); simp only [smLong]; grind)]; done), hw.fr _ zm0⟩
    · refine zw rfl rfl (bF h2) (mS e0_1 (zw rfl rfl (bF h2) (mI e3_1 (zw rfl rfl (bF h2) (zg (fun _ => R_iaN (i := k) sl24 rfl rfl (by omega)) (zw rfl rfl (bF h2) (zf fa76_3 rfl (zw rfl rfl (bF h2) ?_)))))))); refine zl z37 rfl (fun _ h => by exact hA.cell (fun _ _ hh => hh) zm0 h 3 _ rfl) ?_; refine zw rfl rfl (bF h2) (zC (fun w => zR Tryz.func38 rfl rfl rfl) rfl rfl (fun w h => rlong_ok ks ka kc N w (by omega) (by omega) (hks.now (fun _ _ hh => hh) zm0 h)) (zg (v := .bool _) (fun _ => zF (bF h2) rfl) (mB rfl ?_))); refine zp (t := 25) rfl (fun h3 => ?_) (fun h3 => ?_)
      · refine zs rfl rfl (bV h3) (zs rfl rfl (bV h3) (zs rfl rfl (bV h3) (zs rfl rfl (bV h3) (zs rfl rfl (bV h3) (zs rfl rfl (bV h3) (zg (v := .bool _) (fun _ => zT (bV h3) rfl) (mB rfl ?_))))))); (iterate 6 refine zs rfl rfl rfl ?_); refine zg (v := .bool _) (fun _ => zT rfl rfl) (yB (zE rfl (yA (aB rfl (yB (ze (zb (zt (zt (zb (zt (?_))))))))))))
        refine zo (v := .bool _) rfl rfl rfl ?_; exact fun w' hw => ⟨by rw [smsLong_any]; (rw [any_yes hxk (by (try clear ih hm hA hE hks hbo hel hw hl hxn hle hnx hxN hxw hy hlN hkN e0_1 e3_1); simp only [smLong]; grind)]; done), hw.fr _ zm0⟩
      · refine zw rfl rfl (bV h3) (mS e0_1 (zw rfl rfl (bV h3) (mI e3_1 (zw rfl rfl (bV h3) (zg (fun _ => R_iaN (i := k) sl24 rfl rfl (by omega)) (zw rfl rfl (bV h3) (zf fa76_4 rfl (zw rfl rfl (bV h3) ?_)))))))); refine zl z24 rfl (fun _ h => by exact hA.cell (fun _ _ hh => hh) zm0 h 4 _ rfl) ?_; refine zw rfl rfl (bV h3) (zC (fun w => zR Tryz.func37 rfl rfl rfl) rfl rfl (fun w h => ih bo ba bc N w (by omega) (by omega) (hbo.now (fun _ _ hh => hh) zm0 h)) (zg (v := .bool _) (fun _ => zF (bV h3) rfl) (mB rfl ?_))); refine zp (t := 33) rfl (fun h4 => ?_) (fun h4 => ?_)
        · refine zs rfl rfl (bV h4) (zs rfl rfl (bV h4) (zs rfl rfl (bV h4) (zs rfl rfl (bV h4) (zs rfl rfl (bV h4) (zs rfl rfl (bV h4) (zg (v := .bool _) (fun _ => zT (bV h4) rfl) (yB (zE rfl (yA (aB rfl (yB (ze (zb (zt (zt (zb (zt ((zo (v := .bool _) rfl rfl rfl ?_))))))))))))))))))); exact fun w' hw => ⟨by rw [smsLong_any]; (rw [any_yes hxk (by (try clear ih hm hA hE hks hbo hel hw hl hxn hle hnx hxN hxw hy hlN hkN e0_1 e3_1); simp only [smLong]; grind)]; done), hw.fr _ zm0⟩
        · refine zw rfl rfl (bV h4) (mS e0_1 (zw rfl rfl (bV h4) (mI e3_1 (zw rfl rfl (bV h4) (zg (fun _ => R_iaN (i := k) sl24 rfl rfl (by omega)) (zw rfl rfl (bV h4) (zf fa76_5 rfl (zw rfl rfl (bV h4) ?_)))))))); refine zl z24 rfl (fun _ h => by exact hA.cell (fun _ _ hh => hh) zm0 h 5 _ rfl) ?_; refine zw rfl rfl (bV h4) (zC (fun w => zR Tryz.func37 rfl rfl rfl) rfl rfl (fun w h => ih el ea ec N w (by omega) (by omega) (hel.now (fun _ _ hh => hh) zm0 h)) (zg (v := .bool _) (fun _ => zF (bV h4) rfl) (yB ?_))); refine c_cond rfl (fun h5 => ?_) (fun h5 => ?_)
          · refine yA (aB rfl (yB (ze (zb (zt (zt (zb (zt ((zo (v := .bool _) rfl rfl rfl ?_)))))))))); exact fun w' hw => ⟨by rw [smsLong_any]; (rw [any_yes hxk (by (try clear ih hm hA hE hks hbo hel hw hl hxn hle hnx hxN hxw hy hlN hkN e0_1 e3_1); simp only [smLong]; grind)]; done), hw.fr _ zm0⟩
          · refine zi (zO (zk (zr (mI e3_1 (zg (fun _ => R_addi rfl rfl (by omega)) (aI rfl (zn ?_))))))); exact k_again _ (by omega) ⟨k + 1, e0_1, rfl, rfl, rfl, by omega, take_all hy hxk (by (try clear ih hm hA hE hks hbo hel hl hxn hle hnx hxN hxw hy hlN hkN e0_1 e3_1); simp only [smLong]; grind), rfl⟩
  · refine zX (zx (zx (b_here rfl (zk (yA (aB rfl (yB (ze (zo (v := .bool _) rfl rfl rfl ?_))))))))); exact fun w' hw => ⟨by rw [smsLong_any]; (rw [any_of_take hy (by omega)]; done), hw.fr _ zm0⟩


theorem rlongOf_all : ∀ n : Nat, n ≤ 10000000 → RLongOfP n
  | 0, _ => fun _ _ _ _ _ h => absurd h (Nat.not_lt_zero _)
  | n + 1, h => rlongOf_step n (rlongOf_all n (by omega)) (by omega)
theorem rlongOf_ok : RLongOfP 10000000 := rlongOf_all _ (Nat.le_refl _)
end Go.Proofs.YtaniogadknakoaaGreatDoor
end

section
namespace Go.Proofs.YtaniogadknakoaaGreatDoor
open Go.RowKit Go.Sx
open Go.Tok Go.Tree
mutual
theorem exM.any {w : World} {N : Nat → Prop} : ∀ (e : Ex) (cs : List Value), exM w N e cs → exM w (fun _ => True) e cs
  | .mk op at_ nm ks, cs, h => by
    unfold exM at h ⊢
    obtain ⟨a, c, h1, h2, h3⟩ := h
    exact ⟨a, c, h1, h2, exsM.any ks a 0 h3⟩
theorem exsM.any {w : World} {N : Nat → Prop} : ∀ (l : List Ex) (a : Option Addr) (i : Nat), exsM w N l a i → exsM w (fun _ => True) l a i
  | [], _, _, _ => by unfold exsM; trivial
  | e :: l, a, i, h => by
    unfold exsM at h ⊢
    obtain ⟨⟨cs, ⟨b, o, ha, hb, hc⟩, h2⟩, h3⟩ := h
    exact ⟨⟨cs, ⟨b, o, ha, trivial, hc⟩, exM.any e cs h2⟩, exsM.any l a (i + 4) h3⟩
end

theorem rNodes_spec (pg : List Bk) (cs : List Value) (N : Nat → Prop) (w : World) (hp : ∀ b ∈ pg, bkW b < 10000000) (hm : pgM w N pg cs) :
    Ret Tryz.prog 36 #[.agg cs.toArray] w (fun v w' => v = .int .i64 (pgN pg : Nat) ∧ Ext w w') := by
  refine enter (S := No) (l := [_]) (L := []) 52 Tryz.func36 rfl rfl rfl (St.start w No) (yA (w_boxA rfl (fun t1b gt1b ut1b => aI rfl (yC (aI rfl (yB (zq (yA (aI rfl (yB (zB (c_loop (fun m e B L => ∃ (i : Nat), e 1 = .pointer (some ⟨t1b, 0, none⟩) ∧ e 3 = .int .i64 (pgNTo pg i : Nat) ∧ e 4 = .int .i64 (i : Nat) ∧ B = [(w, No)] ∧ L = [(t1b, cel cs 29)] ∧ i ≤ 6 ∧ pgNTo pg i ≤ i * 10000000 ∧ m = 6 - i) _ ⟨0, rfl, rfl, rfl, rfl, rfl, Nat.zero_le _, Nat.zero_le _, rfl⟩ ?_))))))))))))
  rintro m e B L ⟨i, e1_1, e3_1, e4_1, rfl, rfl, hi, hN, rfl⟩
  refine zq (yA (mI e4_1 (zg (fun _ => R_lt rfl rfl) (yB ?_)))); refine zD rfl (fun h2 => ?_) (fun h2 => ?_)
  · have hi6 : i < 6 := (by omega); obtain ⟨b, hb⟩ : ∃ b, pg[i]? = some b := ⟨_, List.getElem?_eq_getElem (by rw [hm.six]; exact hi6)⟩; have hbw := hp b (List.mem_of_getElem? hb); unfold bkW at hbw; obtain ⟨da, dc, sa, sc, hcb, hds, hss⟩ := hm.one i b hb; have hnb := pgNTo_next hb; have hNb := bkN_le b; unfold bkN at hnb hNb; have hsN := smsN_le b.stmts; have hdN := dcsN_le b.decls
    refine zi (zk (zq (zB (yA (mI e4_1 (zf fa29_0 e1_1 (zg (fun _ => R_iaA (i := i) ara27 (by decide) rfl rfl (by omega)) (w_loadC (l := [.bool b.is, .slice da b.decls.length dc, .slice sa b.stmts.length sc]) z26 rfl rfl (fun w h j v hj => zc 0 rfl (sub_get hcb hj) h) (zA zr26 (fun t5b gt5b ut5b => zV 0 rfl z26 rfl rfl rfl rfl rfl rfl rfl (yC (mI e3_1 (zf fa26_2 rfl (zL 0 z24 rfl rfl rfl (zC (fun w => zR Tryz.func73 rfl rfl rfl) rfl rfl (fun w h => rnodesOf_ok b.stmts sa sc N w (by omega) (by omega) (hss.now (fun _ _ hh => hh) zm0 h)) (zg (fun _ => R_addi rfl rfl (by omega)) (aI rfl (yC (aI rfl (yB (zB (c_loop (fun m e B L => ∃ (k : Nat), e 1 = .pointer (some ⟨t1b, 0, none⟩) ∧ e 3 = .int .i64 (pgNTo pg i + smsN b.stmts + dcsN (b.decls.take k) : Nat) ∧ e 4 = .int .i64 (i : Nat) ∧ e 5 = .pointer (some ⟨t5b, 0, none⟩) ∧ e 6 = .int .i64 (k : Nat) ∧ B = [(w, No)] ∧ L = [(t5b, cel [.bool b.is, .slice da b.decls.length dc, .slice sa b.stmts.length sc] 26), (t1b, cel cs 29)] ∧ k ≤ b.decls.length ∧ m = b.decls.length - k) _ ⟨0, e1_1, rfl, e4_1, rfl, rfl, rfl, rfl, Nat.zero_le _, rfl⟩ ?_))))))))))))))))))))))
    rintro m e B L ⟨k, e1_2, e3_2, e4_2, e5_2, e6_2, rfl, rfl, hk, rfl⟩
    refine zq (yA (mI e6_2 (zf fa26_1 e5_2 (zL 0 z23 rfl rfl rfl (zg (fun _ => R_len sl23 rfl) (zg (fun _ => R_lt rfl rfl) (yB ?_))))))); refine zD rfl (fun h4 => ?_) (fun h4 => ?_)
    · have hlt : k < b.decls.length := (by omega); obtain ⟨x, hxk⟩ : ∃ x, b.decls[k]? = some x := ⟨_, List.getElem?_eq_getElem hlt⟩; obtain ⟨cs2, hA, hE⟩ := hds k x hxk; have hxn := dcsW_mem (List.mem_of_getElem? hxk); obtain ⟨b1, o1, rfl⟩ := hA.ptr; have hE2 := hE; obtain ⟨ty, at_, nm, sz, lo, up, ini⟩ := x; unfold dcM at hE2; obtain ⟨xa, xc, la, lc, ua, uc, ia, ic, hcs, hsz, hlo, hup, hini⟩ := hE2; simp only [] at hcs; subst hcs; have hnx := dcsN_next hxk; have hle := dcsN_take b.decls (k + 1); have hdw := hxn; unfold dcW at hdw; have hxN := hnx; unfold dcN at hxN; have hk1 := exsN_le sz; have hk2 := exsN_le lo; have hk3 := exsN_le up; have hk4 := exsN_le ini; simp only [] at hxN hdw
      refine zi (zk (zq (zB (yA (zf fa26_1 e5_2 (zL 0 z23 rfl rfl rfl (mI e6_2 (zg (fun _ => R_iaN (i := k) sl23 rfl rfl (by omega)) (w_loadC (l := [.int .u8 (ty : Nat), .int .i64 at_, str nm, .slice xa sz.length xc, .slice la lo.length lc, .slice ua up.length uc, .slice ia ini.length ic]) z46 rfl rfl (fun w h j v hj => hA.cell (fun _ _ hh => hh) zm0 h j v hj) (zA zr46 (fun t7b gt7b ut7b => zV 0 rfl z46 rfl rfl rfl rfl rfl rfl rfl (yB (c_held (St [(w, No)] [(t7b, cel [.int .u8 (ty : Nat), .int .i64 at_, str nm, .slice xa sz.length xc, .slice la lo.length lc, .slice ua up.length uc, .slice ia ini.length ic] 46)]) mixed (zh2 0 rfl rfl (fun w h => h.drop (.cons_cons _ (List.nil_sublist _))) (fun w h => R_move e3_2) (zh2 1 rfl rfl (fun w h => h.drop (.cons_cons _ (List.nil_sublist _))) (fun w h => R_addi rfl rfl (by omega)) (zh2 2 rfl rfl (fun w h => h.drop (.cons_cons _ (List.nil_sublist _))) (fun w h => R_fa fa46_3 rfl) (zh2 3 rfl rfl (fun w h => h.drop (.cons_cons _ (List.nil_sublist _))) (fun w h => R_ld1 z37 rfl (zc 0 rfl rfl h)) (zh2 6 rfl rfl (fun w h => h.drop (.cons_cons _ (List.nil_sublist _))) (fun w h => R_fa fa46_4 rfl) (zh2 7 rfl rfl (fun w h => h.drop (.cons_cons _ (List.nil_sublist _))) (fun w h => R_ld1 z37 rfl (zc 0 rfl rfl h)) (zh2 10 rfl rfl (fun w h => h.drop (.cons_cons _ (List.nil_sublist _))) (fun w h => R_fa fa46_5 rfl) (zh2 11 rfl rfl (fun w h => h.drop (.cons_cons _ (List.nil_sublist _))) (fun w h => R_ld1 z37 rfl (zc 0 rfl rfl h)) (zh2 14 rfl rfl (fun w h => h.drop (.cons_cons _ (List.nil_sublist _))) (fun w h => R_fa fa46_6 rfl) (zh2 15 rfl rfl (fun w h => h.drop (.cons_cons _ (List.nil_sublist _))) (fun w h => R_ld1 z37 rfl (zc 0 rfl rfl h)) (h_pure 4 rfl (by kernel_rfl) rfl rfl (fun w h => h.drop (.cons_cons _ (List.nil_sublist _))) (fun w => zR Tryz.func74 rfl rfl rfl) (fun w h => rnodes_ok sz xa xc N w (by omega) (by omega) (hsz.now (fun _ _ hh => hh) zm0 h)) (zh2 5 rfl rfl (fun w h => h.drop (.cons_cons _ (List.nil_sublist _))) (fun w h => R_addi rfl rfl (by omega)) (h_pure 8 rfl (by kernel_rfl) rfl rfl (fun w h => h.drop (.cons_cons _ (List.nil_sublist _))) (fun w => zR Tryz.func74 rfl rfl rfl) (fun w h => rnodes_ok lo la lc N w (by omega) (by omega) (hlo.now (fun _ _ hh => hh) zm0 h)) (zh2 9 rfl rfl (fun w h => h.drop (.cons_cons _ (List.nil_sublist _))) (fun w h => R_addi rfl rfl (by omega)) (h_pure 12 rfl (by kernel_rfl) rfl rfl (fun w h => h.drop (.cons_cons _ (List.nil_sublist _))) (fun w => zR Tryz.func74 rfl rfl rfl) (fun w h => rnodes_ok up ua uc N w (by omega) (by omega) (hup.now (fun _ _ hh => hh) zm0 h)) (zh2 13 rfl rfl (fun w h => h.drop (.cons_cons _ (List.nil_sublist _))) (fun w h => R_addi rfl rfl (by omega)) ?_)))))))))))))))))))))))))))))
      refine h_pure 16 rfl (by kernel_rfl) rfl rfl (fun w h => h.drop (.cons_cons _ (List.nil_sublist _))) (fun w => zR Tryz.func74 rfl rfl rfl) (fun w h => rnodes_ok ini ia ic N w (by omega) (by omega) (hini.now (fun _ _ hh => hh) zm0 h)) (zh2 17 rfl rfl (fun w h => h.drop (.cons_cons _ (List.nil_sublist _))) (fun w h => R_addi rfl rfl (by omega)) (zh2 18 rfl rfl (fun w h => h.drop (.cons_cons _ (List.nil_sublist _))) (fun w h => R_assign rfl) (zN2 (fun w h => h.drop (.cons_cons _ (List.nil_sublist _))) (zO (zk (zr (mI e6_2 (zg (fun _ => R_addi rfl rfl (by omega)) (aI rfl (zn ?_))))))))))
      have hfin : ((pgNTo pg i + smsN b.stmts + dcsN (b.decls.take k) : Nat) : Int) + 1 + ((exsN sz : Nat) : Int) + ((exsN lo : Nat) : Int) + ((exsN up : Nat) : Int) + ((exsN ini : Nat) : Int) = ((pgNTo pg i + smsN b.stmts + dcsN (b.decls.take (k + 1)) : Nat) : Int) := by omega
      refine zK (B' := [(w, No)]) (L' := _) (fun w h => h.drop (List.sublist_cons_self _ _)) ?_; exact k_again _ (by omega) ⟨k + 1, e1_2, (congrArg (Value.int .i64) hfin), e4_2, e5_2, rfl, rfl, rfl, by omega, rfl⟩
    · refine zX (zx (zx (b_here rfl (zO (zk (zr (mI e4_2 (zg (fun _ => R_addi rfl rfl (by omega)) (aI rfl (zn (zK (B' := [(w, No)]) (L' := [(t1b, cel cs 29)]) (fun w h => h.drop (List.sublist_cons_self _ _)) ?_)))))))))))
      have hfin : ((pgNTo pg i + smsN b.stmts + dcsN (b.decls.take k) : Nat) : Int) = ((pgNTo pg (i + 1) : Nat) : Int) := by rw [List.take_of_length_le (by omega)]; omega
      exact k_again _ (by omega) ⟨i + 1, e1_2, (e3_2.trans (congrArg (Value.int .i64) hfin)), rfl, rfl, rfl, by omega, by omega, rfl⟩
  · refine zX (zx (zx (b_here rfl (zk (yA (mI e3_1 (aI rfl (yB (ze (zo (v := .int _ _) rfl rfl rfl ?_)))))))))); exact fun w' hw => ⟨by rw [show i = 6 by omega]; rfl, hw.fr _ zm0⟩

theorem Small_spec (pg : List Bk) (cs : List Value) (N : Nat → Prop) (w : World) (hp : ∀ b ∈ pg, bkW b < 10000000) (hm : pgM w N pg cs) :
    Ret Tryz.prog 16 #[.agg cs.toArray] w (fun v w' => v = .bool (pgSmall pg) ∧ Ext w w') := by
  refine enter (S := No) (l := [_]) (L := []) 57 Tryz.func16 rfl rfl rfl (St.start w No) (yA (w_boxA rfl (fun t1b gt1b ut1b => aB rfl (yB (zq (yA (w_loadW z29 rfl (fun _ h => h.at_ 0 rfl) hm.len (zC (fun w => zR Tryz.func36 rfl rfl rfl) rfl rfl (fun w h => rNodes_spec pg cs N w hp (hm.now (fun _ _ hh => hh) zm0 h)) (zg (fun _ => R_gt rfl rfl) (yB ?_)))))))))); refine zD rfl (fun h2 => ?_) (fun h2 => ?_)
  · refine yA (aB rfl (yB (ze (zt ((zo (v := .bool _) rfl rfl rfl ?_)))))); exact fun w' hw => ⟨by unfold pgSmall; rw [decide_eq_false (by omega)]; rfl, hw.fr _ zm0⟩
  · refine zi (zk (zq (yA (aI rfl (yB (zB (c_loop (fun m e B L => ∃ (i : Nat), e 1 = .pointer (some ⟨t1b, 0, none⟩) ∧ e 3 = .int .i64 (i : Nat) ∧ B = [(w, No)] ∧ L = [(t1b, cel cs 29)] ∧ i ≤ 6 ∧ (∀ y ∈ pg.take i, bkLong y = false) ∧ m = 6 - i) _ ⟨0, rfl, rfl, rfl, rfl, Nat.zero_le _, (by simp), rfl⟩ ?_)))))))
    rintro m e B L ⟨i, e1_1, e3_1, rfl, rfl, hi, hy, rfl⟩
    refine zq (yA (mI e3_1 (zg (fun _ => R_lt rfl rfl) (yB ?_)))); refine zD rfl (fun h3 => ?_) (fun h3 => ?_)
    · have hi6 : i < 6 := (by omega); obtain ⟨b, hb⟩ : ∃ b, pg[i]? = some b := ⟨_, List.getElem?_eq_getElem (by rw [hm.six]; exact hi6)⟩; have hbw := hp b (List.mem_of_getElem? hb); unfold bkW at hbw; obtain ⟨da, dc, sa, sc, hcb, hds, hss⟩ := hm.one i b hb
      refine zi (zk (zq (zB (yA (mI e3_1 (zf fa29_0 e1_1 (zg (fun _ => R_iaA (i := i) ara27 (by decide) rfl rfl (by omega)) (w_loadC (l := [.bool b.is, .slice da b.decls.length dc, .slice sa b.stmts.length sc]) z26 rfl rfl (fun w h j v hj => zc 0 rfl (sub_get hcb hj) h) (zA zr26 (fun t4b gt4b ut4b => zV 0 rfl z26 rfl rfl rfl rfl rfl rfl rfl (yB (zq (yA (zf fa26_2 rfl (zL 0 z24 rfl rfl rfl (zC (fun w => zR Tryz.func37 rfl rfl rfl) rfl rfl (fun w h => rlongOf_ok b.stmts sa sc N w (by omega) (by omega) (hss.now (fun _ _ hh => hh) zm0 h)) (yB ?_))))))))))))))))); refine c_cond rfl (fun h5 => ?_) (fun h5 => ?_)
      · refine yA (aB rfl (yB (ze (zt (zb (zt (zt (zb (zt ((zo (v := .bool _) rfl rfl rfl ?_))))))))))); exact fun w' hw => ⟨by unfold pgSmall pgLong; rw [any_yes hb (by unfold bkLong; rw [h5]; rfl)]; simp, hw.fr _ zm0⟩
      · refine zi (zk (yA (aI rfl (yB (zB (c_loop (fun m e B L => ∃ (k : Nat), e 1 = .pointer (some ⟨t1b, 0, none⟩) ∧ e 3 = .int .i64 (i : Nat) ∧ e 4 = .pointer (some ⟨t4b, 0, none⟩) ∧ e 5 = .int .i64 (k : Nat) ∧ B = [(w, No)] ∧ L = [(t4b, cel [.bool b.is, .slice da b.decls.length dc, .slice sa b.stmts.length sc] 26), (t1b, cel cs 29)] ∧ k ≤ b.decls.length ∧ (∀ y ∈ b.decls.take k, dcLong y = false) ∧ m = b.decls.length - k) _ ⟨0, e1_1, e3_1, rfl, rfl, rfl, rfl, Nat.zero_le _, (by simp), rfl⟩ ?_))))))
        rintro m e B L ⟨k, e1_2, e3_2, e4_2, e5_2, rfl, rfl, hk, hz, rfl⟩
        refine zq (yA (mI e5_2 (zf fa26_1 e4_2 (zL 0 z23 rfl rfl rfl (zg (fun _ => R_len sl23 rfl) (zg (fun _ => R_lt rfl rfl) (yB ?_))))))); refine zD rfl (fun h6 => ?_) (fun h6 => ?_)
        · have hlt : k < b.decls.length := (by omega); obtain ⟨x, hxk⟩ : ∃ x, b.decls[k]? = some x := ⟨_, List.getElem?_eq_getElem hlt⟩; obtain ⟨cs2, hA, hE⟩ := hds k x hxk; have hxn := dcsW_mem (List.mem_of_getElem? hxk); obtain ⟨b1, o1, rfl⟩ := hA.ptr; have hE2 := hE; obtain ⟨ty, at_, nm, sz, lo, up, ini⟩ := x; unfold dcM at hE2; obtain ⟨xa, xc, la, lc, ua, uc, ia, ic, hcs, hsz, hlo, hup, hini⟩ := hE2; simp only [] at hcs; subst hcs; have hdw := hxn; unfold dcW at hdw; simp only [] at hdw
          refine zi (zk (zq (zB (yA (zf fa26_1 e4_2 (zL 0 z23 rfl rfl rfl (mI e5_2 (zg (fun _ => R_iaN (i := k) sl23 rfl rfl (by omega)) (w_loadC (l := [.int .u8 (ty : Nat), .int .i64 at_, str nm, .slice xa sz.length xc, .slice la lo.length lc, .slice ua up.length uc, .slice ia ini.length ic]) z46 rfl rfl (fun w h j v hj => hA.cell (fun _ _ hh => hh) zm0 h j v hj) (zA zr46 (fun t6b gt6b ut6b => zV 0 rfl z46 rfl rfl rfl rfl rfl rfl rfl (yC (zf fa46_2 rfl (zL 0 z9 rfl rfl rfl (zg (fun _ => R_slen st9 rfl (by omega)) (zg (fun _ => R_gt rfl rfl) (mB rfl ?_))))))))))))))))); refine zd (t := 37) rfl (fun h8 => ?_) (fun h8 => ?_)
          · refine zs rfl rfl (bT h8) (zs rfl rfl (bT h8) (zs rfl rfl (bT h8) (zg (v := .bool _) (fun _ => zT (bT h8) rfl) (mB rfl ?_)))); (iterate 3 refine zs rfl rfl rfl ?_); refine zg (v := .bool _) (fun _ => zT rfl rfl) (mB rfl ?_); (iterate 3 refine zs rfl rfl rfl ?_); refine zg (v := .bool _) (fun _ => zT rfl rfl) (mB rfl ?_); (iterate 3 refine zs rfl rfl rfl ?_); refine zg (v := .bool _) (fun _ => zT rfl rfl) (zn ?_)
            refine zk (zE rfl (yA (aB rfl (yB (ze (zb (zt (zt (zb (zb (zt (zt (zb (zt ((zo (v := .bool _) rfl rfl rfl ?_)))))))))))))))); exact fun w' hw => ⟨by (unfold pgSmall pgLong; rw [any_yes hb (by unfold bkLong; rw [any_yes hxk (by (try clear hm hA hE hw hp hcb hds hss hsz hlo hup hini hbw hxn hdw e1_1 e1_2 e3_1 e3_2 e4_2 e5_2 gt1b gt4b gt6b ut1b ut4b ut6b); simp only [dcLong]; grind)]; simp)]; simp), hw.fr _ zm0⟩
          · refine zw rfl rfl (bF h8) (zf fa46_3 rfl (zw rfl rfl (bF h8) (zL 0 z37 rfl rfl rfl (zw rfl rfl (bF h8) (zC (fun w => zR Tryz.func38 rfl rfl rfl) rfl rfl (fun w h => rlong_ok sz xa xc N w (by omega) (by omega) (hsz.now (fun _ _ hh => hh) zm0 h)) (zg (v := .bool _) (fun _ => zF (bF h8) rfl) (mB rfl ?_))))))); refine zp (t := 42) rfl (fun h9 => ?_) (fun h9 => ?_)
            · refine zs rfl rfl (bV h9) (zs rfl rfl (bV h9) (zs rfl rfl (bV h9) (zg (v := .bool _) (fun _ => zT (bV h9) rfl) (mB rfl ?_)))); (iterate 3 refine zs rfl rfl rfl ?_); refine zg (v := .bool _) (fun _ => zT rfl rfl) (mB rfl ?_); (iterate 3 refine zs rfl rfl rfl ?_); refine zg (v := .bool _) (fun _ => zT rfl rfl) (yB (zE rfl (yA (aB rfl (yB (ze (zb (zt (zt (zb (zb (zt (zt (zb (zt (?_))))))))))))))))
              refine zo (v := .bool _) rfl rfl rfl ?_; exact fun w' hw => ⟨by (unfold pgSmall pgLong; rw [any_yes hb (by unfold bkLong; rw [any_yes hxk (by (try clear hm hA hE hw hp hcb hds hss hsz hlo hup hini hbw hxn hdw e1_1 e1_2 e3_1 e3_2 e4_2 e5_2 gt1b gt4b gt6b ut1b ut4b ut6b); simp only [dcLong]; grind)]; simp)]; simp), hw.fr _ zm0⟩
            · refine zw rfl rfl (bV h9) (zf fa46_4 rfl (zw rfl rfl (bV h9) (zL 0 z37 rfl rfl rfl (zw rfl rfl (bV h9) (zC (fun w => zR Tryz.func38 rfl rfl rfl) rfl rfl (fun w h => rlong_ok lo la lc N w (by omega) (by omega) (hlo.now (fun _ _ hh => hh) zm0 h)) (zg (v := .bool _) (fun _ => zF (bV h9) rfl) (mB rfl ?_))))))); refine zp (t := 47) rfl (fun h10 => ?_) (fun h10 => ?_)
              · refine zs rfl rfl (bV h10) (zs rfl rfl (bV h10) (zs rfl rfl (bV h10) (zg (v := .bool _) (fun _ => zT (bV h10) rfl) (mB rfl ?_)))); (iterate 3 refine zs rfl rfl rfl ?_); refine zg (v := .bool _) (fun _ => zT rfl rfl) (yB (zE rfl (yA (aB rfl (yB (ze (zb (zt (zt (zb (zb (zt (zt (zb (zt (?_))))))))))))))))
                refine zo (v := .bool _) rfl rfl rfl ?_; exact fun w' hw => ⟨by (unfold pgSmall pgLong; rw [any_yes hb (by unfold bkLong; rw [any_yes hxk (by (try clear hm hA hE hw hp hcb hds hss hsz hlo hup hini hbw hxn hdw e1_1 e1_2 e3_1 e3_2 e4_2 e5_2 gt1b gt4b gt6b ut1b ut4b ut6b); simp only [dcLong]; grind)]; simp)]; simp), hw.fr _ zm0⟩
              · refine zw rfl rfl (bV h10) (zf fa46_5 rfl (zw rfl rfl (bV h10) (zL 0 z37 rfl rfl rfl (zw rfl rfl (bV h10) (zC (fun w => zR Tryz.func38 rfl rfl rfl) rfl rfl (fun w h => rlong_ok up ua uc N w (by omega) (by omega) (hup.now (fun _ _ hh => hh) zm0 h)) (zg (v := .bool _) (fun _ => zF (bV h10) rfl) (mB rfl ?_))))))); refine zp (t := 52) rfl (fun h11 => ?_) (fun h11 => ?_)
                · refine zs rfl rfl (bV h11) (zs rfl rfl (bV h11) (zs rfl rfl (bV h11) (zg (v := .bool _) (fun _ => zT (bV h11) rfl) (yB (zE rfl (yA (aB rfl (yB (ze (zb (zt (zt (zb (zb (zt (zt (zb (zt ((zo (v := .bool _) rfl rfl rfl ?_)))))))))))))))))))); exact fun w' hw => ⟨by (unfold pgSmall pgLong; rw [any_yes hb (by unfold bkLong; rw [any_yes hxk (by (try clear hm hA hE hw hp hcb hds hss hsz hlo hup hini hbw hxn hdw e1_1 e1_2 e3_1 e3_2 e4_2 e5_2 gt1b gt4b gt6b ut1b ut4b ut6b); simp only [dcLong]; grind)]; simp)]; simp), hw.fr _ zm0⟩
                · refine zw rfl rfl (bV h11) (zf fa46_6 rfl (zw rfl rfl (bV h11) (zL 0 z37 rfl rfl rfl (zw rfl rfl (bV h11) (zC (fun w => zR Tryz.func38 rfl rfl rfl) rfl rfl (fun w h => rlong_ok ini ia ic N w (by omega) (by omega) (hini.now (fun _ _ hh => hh) zm0 h)) (zg (v := .bool _) (fun _ => zF (bV h11) rfl) (yB ?_))))))); refine c_cond rfl (fun h12 => ?_) (fun h12 => ?_)
                  · refine yA (aB rfl (yB (ze (zb (zt (zt (zb (zb (zt (zt (zb (zt ((zo (v := .bool _) rfl rfl rfl ?_)))))))))))))); exact fun w' hw => ⟨by (unfold pgSmall pgLong; rw [any_yes hb (by unfold bkLong; rw [any_yes hxk (by (try clear hm hA hE hw hp hcb hds hss hsz hlo hup hini hbw hxn hdw e1_1 e1_2 e3_1 e3_2 e4_2 e5_2 gt1b gt4b gt6b ut1b ut4b ut6b); simp only [dcLong]; grind)]; simp)]; simp), hw.fr _ zm0⟩
                  · refine zi (zO (zk (zr (mI e5_2 (zg (fun _ => R_addi rfl rfl (by omega)) (aI rfl (zn (zK (B' := [(w, No)]) (L' := _) (fun w h => h.drop (List.sublist_cons_self _ _)) ?_)))))))); exact k_again _ (by omega) ⟨k + 1, e1_2, e3_2, e4_2, rfl, rfl, rfl, by omega, take_all hz hxk (by (try clear hm hA hE hp hcb hds hss hsz hlo hup hini hbw hxn hdw e1_1 e1_2 e3_1 e3_2 e4_2 e5_2 gt1b gt4b gt6b ut1b ut4b ut6b); simp only [dcLong]; grind), rfl⟩
        · refine zX (zx (zx (b_here rfl (zO (zk (zr (mI e3_2 (zg (fun _ => R_addi rfl rfl (by omega)) (aI rfl (zn (zK (B' := [(w, No)]) (L' := [(t1b, cel cs 29)]) (fun w h => h.drop (List.sublist_cons_self _ _)) ?_))))))))))); exact k_again _ (by omega) ⟨i + 1, e1_2, rfl, rfl, rfl, by omega, take_all hy hb (by unfold bkLong; rw [h5, any_of_take hz (by omega)]; rfl), rfl⟩
    · refine zX (zx (zx (b_here rfl (zk (yA (aB rfl (yB (ze (zo (v := .bool _) rfl rfl rfl ?_))))))))); exact fun w' hw => ⟨by (unfold pgSmall pgLong; rw [any_of_take hy (by have := hm.six; omega), decide_eq_true (by omega)]; rfl), hw.fr _ zm0⟩
end Go.Proofs.YtaniogadknakoaaGreatDoor
end

section
namespace Go.Proofs.YtaniogadknakoaaGreatDoor
open Go.RowKit Go.Sx
open Go.Tok Go.Tree


def SameH (f : FuncId) (n : Nat) : Prop := ∀ (x z : Ex) (cs ds : List Value) (N : Nat → Prop) (w : World), exW x < n → exM w N x cs → exM w N z ds → Ret Tryz.prog f #[.agg cs.toArray, .agg ds.toArray] w fun v w' => v = .bool (exSame x z) ∧ Ext w w'

theorem eqE_spec (n : Nat) (ih : SameH 91 n) (l r : List Ex) (a b : Option Addr) (c d : Nat) (N : Nat → Prop) (w : World) (hl : ∀ x ∈ l, exW x < n) (hll : l.length ≤ 10000000) (hm : exsM w N l a 0) (hm2 : exsM w N r b 0) :
    Ret Tryz.prog 90 #[.slice a l.length c, .slice b r.length d, .func (.func 91) #[] #[]] w (fun v w' => v = .bool (pairOk exSame l r) ∧ Ext w w') := by
  refine enter (S := No) (l := [_, _, _]) (L := []) 32 Tryz.func90 rfl rfl rfl (St.start w No) (yA (aB rfl (yB (zq (yA (mS rfl (zg (fun _ => R_len sl37 rfl) (mS rfl (zg (fun _ => R_len sl37 rfl) (zg (fun _ => R_ne rfl rfl) (yB ?_))))))))))); refine zD rfl (fun h1 => ?_) (fun h1 => ?_)
  · refine yA (aB rfl (yB (ze (zt ((zo (v := .bool _) rfl rfl rfl ?_)))))); exact fun w' hw => ⟨by rw [pairOk_len (by omega)], hw.fr _ zm0⟩
  · have hlen : l.length = r.length := (by omega)
    refine zi (zk (zq (yA (mS rfl (zg (fun _ => R_len sl37 rfl) (mI rfl (yB (zB (c_loop (fun m e B L => ∃ (k : Nat), e 1 = .slice b r.length d ∧ e 2 = .func (.func 91) #[] #[] ∧ e 15 = .slice a l.length c ∧ e 16 = .int .i64 (l.length : Nat) ∧ e 17 = .int .i64 (k : Nat) ∧ B = [(w, No)] ∧ L = [] ∧ k ≤ l.length ∧ (∀ p ∈ (l.zip r).take k, (!exSame p.1 p.2) = false) ∧ m = l.length - k) _ ⟨0, rfl, rfl, rfl, rfl, rfl, rfl, rfl, Nat.zero_le _, (by simp), rfl⟩ ?_)))))))))
    rintro m e B L ⟨k, e1_1, e2_1, e15_1, e16_1, e17_1, rfl, rfl, hk, hy, rfl⟩
    refine yA (zg (fun _ => R_lt e17_1 e16_1) (yB (zq ?_))); refine zD rfl (fun h2 => ?_) (fun h2 => ?_)
    · have hlt : k < l.length := (by omega); obtain ⟨x, hxk⟩ : ∃ x, l[k]? = some x := ⟨_, List.getElem?_eq_getElem hlt⟩; obtain ⟨z, hzk⟩ : ∃ z, r[k]? = some z := ⟨_, List.getElem?_eq_getElem (by omega)⟩; obtain ⟨cs, hA, hE⟩ := hm.get0 hxk; obtain ⟨ds, hA2, hE2⟩ := hm2.get0 hzk; have hxn := hl x (List.mem_of_getElem? hxk); obtain ⟨b1, o1, rfl⟩ := hA.ptr; obtain ⟨b2, o2, rfl⟩ := hA2.ptr; have hxe := hxk; have hze := hzk; have hEx := hE; have hEz := hE2; obtain ⟨op, at_, nm, ks⟩ := x; obtain ⟨op2, at2, nm2, ks2⟩ := z; unfold exM at hEx hEz; obtain ⟨ka, kc, rfl, hkc, hks⟩ := hEx; obtain ⟨ka2, kc2, rfl, hkc2, hks2⟩ := hEz
      refine zi (zk (zq (zB (yA (mI e17_1 (zg (fun _ => R_iaN (i := k) sl37 e15_1 e17_1 (by omega)) (w_loadC (l := [.int .u8 (op : Nat), .int .i64 at_, str nm, .slice ka ks.length kc]) z39 rfl rfl (fun w h j v hj => hA.cell (fun _ _ hh => hh) zm0 h j v hj) (zA zr39 (fun t8b gt8b ut8b => aI rfl (zV 0 rfl z39 rfl rfl rfl rfl rfl rfl rfl (yC (mS e1_1 (mI rfl (zg (fun _ => R_iaN (i := k) sl37 rfl rfl (by omega)) (w_loadC (l := [.int .u8 (op2 : Nat), .int .i64 at2, str nm2, .slice ka2 ks2.length kc2]) z39 rfl rfl (fun w h j v hj => hA2.cell (fun _ _ hh => hh) zm0 h j v hj) (zA zr39 (fun t9b gt9b ut9b => zV 0 rfl z39 rfl rfl rfl rfl rfl rfl rfl (yC (zm e2_1 (zY z39 rfl (fun _ h => h.at_ 1 rfl) rfl (zY z39 rfl (fun _ h => h.at_ 0 rfl) rfl (zC (fun w => R_callv rfl Tryz.func91 rfl rfl) rfl rfl (fun w h => ih _ _ _ _ N w hxn (hE.now (fun _ _ hh => hh) zm0 h) (hE2.now (fun _ _ hh => hh) zm0 h)) (zg (fun _ => R_not rfl) (yB ?_)))))))))))))))))))))))); refine c_condN rfl (fun h5 => ?_) (fun h5 => ?_)
      · refine yA (aB rfl (yB (ze (zb (zt (zt (zb (zt ((zo (v := .bool _) rfl rfl rfl ?_)))))))))); exact fun w' hw => ⟨by (rw [pairOk_no hxk hzk h5]; done), hw.fr _ zm0⟩
      · refine zi (zO (zk (zr (zg (fun _ => R_addi e17_1 rfl (by omega)) (mI rfl (zn (zK (B' := [(w, No)]) (L' := []) (fun w h => h.drop (List.nil_sublist _)) ?_))))))); exact k_again _ (by omega) ⟨k + 1, e1_1, e2_1, e15_1, e16_1, rfl, rfl, rfl, by omega, pair_next hy hxk hzk h5, rfl⟩
    · refine zX (zx (zx (b_here rfl (zk (yA (aB rfl (yB (ze (zo (v := .bool _) rfl rfl rfl ?_))))))))); exact fun w' hw => ⟨by (rw [pairOk_yes hlen hy (by omega)]; done), hw.fr _ zm0⟩

theorem same_step (n : Nat) (ih : SameH 91 n) (hN : n ≤ 10000000) (x z : Ex) (cs ds : List Value) (N : Nat → Prop) (w : World) (hx : exW x < n + 1) (hm : exM w N x cs) (hm2 : exM w N z ds) :
    Ret Tryz.prog 91 #[.agg cs.toArray, .agg ds.toArray] w (fun v w' => v = .bool (exSame x z) ∧ Ext w w') := by
  obtain ⟨op, at_, nm, ks⟩ := x
  have hmx := hm
  unfold exM at hmx
  obtain ⟨ka, kc, rfl, hkc, hks⟩ := hmx
  obtain ⟨op2, at2, nm2, ks2⟩ := z
  have hmz := hm2
  unfold exM at hmz
  obtain ⟨ka2, kc2, rfl, hkc2, hks2⟩ := hmz
  have hx2 := hx
  unfold exW at hx2
  refine enter (S := No) (l := [_, _]) (L := []) 24 Tryz.func91 rfl rfl rfl (St.start w No) (yA (w_boxA rfl (fun t2b gt2b ut2b => w_boxA rfl (fun t3b gt3b ut3b => aB rfl (yC (zf fa39_0 rfl (zL 1 z5 rfl rfl rfl (zf fa39_0 rfl (zL 0 z5 rfl rfl rfl (zg (fun _ => R_eq rfl rfl) (mB rfl ?_))))))))))); refine zd (t := 10) rfl (fun h3 => ?_) (fun h3 => ?_)
  · have hop : op = op2 := (by omega)
    refine zw rfl rfl (bT h3) (zf fa39_2 rfl (zw rfl rfl (bT h3) (zL 1 z9 rfl rfl rfl (zw rfl rfl (bT h3) (zf fa39_2 rfl (zw rfl rfl (bT h3) (zL 0 z9 rfl rfl rfl (zw rfl rfl (bT h3) (zg (fun _ => R_seq rfl rfl) (zg (v := .bool _) (fun _ => zT (bT h3) rfl) (mB rfl ?_))))))))))); refine zd (t := 17) rfl (fun h4 => ?_) (fun h4 => ?_)
    · refine zw rfl rfl (bT h4) (zf fa39_3 rfl (zw rfl rfl (bT h4) (zL 1 z37 rfl rfl rfl (zw rfl rfl (bT h4) (zf fa39_3 rfl (zw rfl rfl (bT h4) (zL 0 z37 rfl rfl rfl (zw rfl rfl (bT h4) (zC (fun w => zR Tryz.func90 rfl rfl rfl) rfl rfl (fun w h => eqE_spec n ih ks ks2 ka ka2 kc kc2 N w (fun x hx => by have := exsW_mem hx; omega) (by omega) (hks.now (fun _ _ hh => hh) zm0 h) (hks2.now (fun _ _ hh => hh) zm0 h)) (zg (v := .bool _) (fun _ => zT (bT h4) rfl) (aB rfl (yB (ze (zo (v := .bool _) rfl rfl rfl ?_))))))))))))))
      exact fun w' hw => ⟨by (try clear hm hm2 hks hks2 hw ih hx hx2 gt2b gt3b ut2b ut3b); simp only [exSame, exsSame_eq, Ex.op, Ex.nm, Ex.kids]; simp_all, hw.fr _ zm0⟩
    · refine zs rfl rfl (bF h4) (zs rfl rfl (bF h4) (zs rfl rfl (bF h4) (zs rfl rfl (bF h4) (zs rfl rfl (bF h4) (zg (v := .bool _) (fun _ => zF (bF h4) rfl) (aB rfl (yB (ze (zo (v := .bool _) rfl rfl rfl ?_))))))))); exact fun w' hw => ⟨by (try clear hm hm2 hks hks2 hw ih hx hx2 gt2b gt3b ut2b ut3b); simp only [exSame, exsSame_eq, Ex.op, Ex.nm, Ex.kids]; simp_all, hw.fr _ zm0⟩
  · have hop : ¬ op = op2 := (by omega)
    refine zs rfl rfl (bF h3) (zs rfl rfl (bF h3) (zs rfl rfl (bF h3) (zs rfl rfl (bF h3) (zs rfl rfl (bF h3) (zg (v := .bool _) (fun _ => zF (bF h3) rfl) (mB rfl ?_)))))); (iterate 5 refine zs rfl rfl rfl ?_); refine zg (v := .bool _) (fun _ => zF rfl rfl) (aB rfl (yB (ze (zo (v := .bool _) rfl rfl rfl ?_)))); exact fun w' hw => ⟨by (try clear hm hm2 hks hks2 hw ih hx hx2 gt2b gt3b ut2b ut3b); simp only [exSame, exsSame_eq, Ex.op, Ex.nm, Ex.kids]; simp_all, hw.fr _ zm0⟩


theorem same_all : ∀ n : Nat, n ≤ 10000000 → SameH 91 n
  | 0, _ => fun _ _ _ _ _ _ h => absurd h (Nat.not_lt_zero _)
  | n + 1, h => same_step n (same_all n (by omega)) (by omega)
theorem same_ok : SameH 91 10000000 := same_all _ (Nat.le_refl _)


def SameS (n : Nat) : Prop := ∀ (x z : Sm) (cs ds : List Value) (N : Nat → Prop) (w : World), smW x < n → smM w N x cs → smM w N z ds → Ret Tryz.prog 53 #[.agg cs.toArray, .agg ds.toArray] w fun v w' => v = .bool (smSame x z) ∧ Ext w w'

theorem eqS_spec (n : Nat) (ih : SameS n) (l r : List Sm) (a b : Option Addr) (c d : Nat) (N : Nat → Prop) (w : World) (hl : ∀ x ∈ l, smW x < n) (hll : l.length ≤ 10000000) (hm : smsM w N l a 0) (hm2 : smsM w N r b 0) :
    Ret Tryz.prog 52 #[.slice a l.length c, .slice b r.length d, .func (.func 53) #[] #[]] w (fun v w' => v = .bool (pairOk smSame l r) ∧ Ext w w') := by
  refine enter (S := No) (l := [_, _, _]) (L := []) 32 Tryz.func52 rfl rfl rfl (St.start w No) (yA (aB rfl (yB (zq (yA (mS rfl (zg (fun _ => R_len sl24 rfl) (mS rfl (zg (fun _ => R_len sl24 rfl) (zg (fun _ => R_ne rfl rfl) (yB ?_))))))))))); refine zD rfl (fun h1 => ?_) (fun h1 => ?_)
  · refine yA (aB rfl (yB (ze (zt ((zo (v := .bool _) rfl rfl rfl ?_)))))); exact fun w' hw => ⟨by rw [pairOk_len (by omega)], hw.fr _ zm0⟩
  · have hlen : l.length = r.length := (by omega)
    refine zi (zk (zq (yA (mS rfl (zg (fun _ => R_len sl24 rfl) (mI rfl (yB (zB (c_loop (fun m e B L => ∃ (k : Nat), e 1 = .slice b r.length d ∧ e 2 = .func (.func 53) #[] #[] ∧ e 15 = .slice a l.length c ∧ e 16 = .int .i64 (l.length : Nat) ∧ e 17 = .int .i64 (k : Nat) ∧ B = [(w, No)] ∧ L = [] ∧ k ≤ l.length ∧ (∀ p ∈ (l.zip r).take k, (!smSame p.1 p.2) = false) ∧ m = l.length - k) _ ⟨0, rfl, rfl, rfl, rfl, rfl, rfl, rfl, Nat.zero_le _, (by simp), rfl⟩ ?_)))))))))
    rintro m e B L ⟨k, e1_1, e2_1, e15_1, e16_1, e17_1, rfl, rfl, hk, hy, rfl⟩
    refine yA (zg (fun _ => R_lt e17_1 e16_1) (yB (zq ?_))); refine zD rfl (fun h2 => ?_) (fun h2 => ?_)
    · have hlt : k < l.length := (by omega); obtain ⟨x, hxk⟩ : ∃ x, l[k]? = some x := ⟨_, List.getElem?_eq_getElem hlt⟩; obtain ⟨z, hzk⟩ : ∃ z, r[k]? = some z := ⟨_, List.getElem?_eq_getElem (by omega)⟩; obtain ⟨cs, hA, hE⟩ := hm.get0 hxk; obtain ⟨ds, hA2, hE2⟩ := hm2.get0 hzk; have hxn := hl x (List.mem_of_getElem? hxk); obtain ⟨b1, o1, rfl⟩ := hA.ptr; obtain ⟨b2, o2, rfl⟩ := hA2.ptr; have hxe := hxk; have hze := hzk; have hEx := hE; have hEz := hE2; obtain ⟨op, at_, nm, ks, bo, el⟩ := x; obtain ⟨op2, at2, nm2, ks2, bo2, el2⟩ := z; unfold smM at hEx hEz; obtain ⟨ka, kc, ba, bc, ea, ec, rfl, hkc, hks, hbo, hel⟩ := hEx; obtain ⟨ka2, kc2, ba2, bc2, ea2, ec2, rfl, hkc2, hks2, hbo2, hel2⟩ := hEz
      refine zi (zk (zq (zB (yA (mI e17_1 (zg (fun _ => R_iaN (i := k) sl24 e15_1 e17_1 (by omega)) (w_loadC (l := [.int .u8 (op : Nat), .int .i64 at_, str nm, .slice ka ks.length kc, .slice ba bo.length bc, .slice ea el.length ec]) z76 rfl rfl (fun w h j v hj => hA.cell (fun _ _ hh => hh) zm0 h j v hj) (zA zr76 (fun t8b gt8b ut8b => aI rfl (zV 0 rfl z76 rfl rfl rfl rfl rfl rfl rfl (yC (mS e1_1 (mI rfl (zg (fun _ => R_iaN (i := k) sl24 rfl rfl (by omega)) (w_loadC (l := [.int .u8 (op2 : Nat), .int .i64 at2, str nm2, .slice ka2 ks2.length kc2, .slice ba2 bo2.length bc2, .slice ea2 el2.length ec2]) z76 rfl rfl (fun w h j v hj => hA2.cell (fun _ _ hh => hh) zm0 h j v hj) (zA zr76 (fun t9b gt9b ut9b => zV 0 rfl z76 rfl rfl rfl rfl rfl rfl rfl (yC (zm e2_1 (zY z76 rfl (fun _ h => h.at_ 1 rfl) rfl (zY z76 rfl (fun _ h => h.at_ 0 rfl) rfl (zC (fun w => R_callv rfl Tryz.func53 rfl rfl) rfl rfl (fun w h => ih _ _ _ _ N w hxn (hE.now (fun _ _ hh => hh) zm0 h) (hE2.now (fun _ _ hh => hh) zm0 h)) (zg (fun _ => R_not rfl) (yB ?_)))))))))))))))))))))))); refine c_condN rfl (fun h5 => ?_) (fun h5 => ?_)
      · refine yA (aB rfl (yB (ze (zb (zt (zt (zb (zt ((zo (v := .bool _) rfl rfl rfl ?_)))))))))); exact fun w' hw => ⟨by (rw [pairOk_no hxk hzk h5]; done), hw.fr _ zm0⟩
      · refine zi (zO (zk (zr (zg (fun _ => R_addi e17_1 rfl (by omega)) (mI rfl (zn (zK (B' := [(w, No)]) (L' := []) (fun w h => h.drop (List.nil_sublist _)) ?_))))))); exact k_again _ (by omega) ⟨k + 1, e1_1, e2_1, e15_1, e16_1, rfl, rfl, rfl, by omega, pair_next hy hxk hzk h5, rfl⟩
    · refine zX (zx (zx (b_here rfl (zk (yA (aB rfl (yB (ze (zo (v := .bool _) rfl rfl rfl ?_))))))))); exact fun w' hw => ⟨by (rw [pairOk_yes hlen hy (by omega)]; done), hw.fr _ zm0⟩

theorem sameS_step (n : Nat) (ih : SameS n) (hN : n ≤ 10000000) (x z : Sm) (cs ds : List Value) (N : Nat → Prop) (w : World) (hx : smW x < n + 1) (hm : smM w N x cs) (hm2 : smM w N z ds) :
    Ret Tryz.prog 53 #[.agg cs.toArray, .agg ds.toArray] w (fun v w' => v = .bool (smSame x z) ∧ Ext w w') := by
  have hEx := hm; have hEz := hm2; obtain ⟨op, at_, nm, ks, bo, el⟩ := x; obtain ⟨op2, at2, nm2, ks2, bo2, el2⟩ := z; unfold smM at hEx hEz; obtain ⟨ka, kc, ba, bc, ea, ec, rfl, hkc, hks, hbo, hel⟩ := hEx; obtain ⟨ka2, kc2, ba2, bc2, ea2, ec2, rfl, hkc2, hks2, hbo2, hel2⟩ := hEz
  have hx2 := hx
  unfold smW at hx2
  refine enter (S := No) (l := [_, _]) (L := []) 38 Tryz.func53 rfl rfl rfl (St.start w No) (yA (w_boxA rfl (fun t2b gt2b ut2b => w_boxA rfl (fun t3b gt3b ut3b => aB rfl (yC (zf fa76_0 rfl (zL 1 z5 rfl rfl rfl (zf fa76_0 rfl (zL 0 z5 rfl rfl rfl (zg (fun _ => R_eq rfl rfl) (mB rfl ?_))))))))))); refine zd (t := 10) rfl (fun h3 => ?_) (fun h3 => ?_)
  · have hop : op = op2 := (by omega)
    refine zw rfl rfl (bT h3) (zf fa76_2 rfl (zw rfl rfl (bT h3) (zL 1 z9 rfl rfl rfl (zw rfl rfl (bT h3) (zf fa76_2 rfl (zw rfl rfl (bT h3) (zL 0 z9 rfl rfl rfl (zw rfl rfl (bT h3) (zg (fun _ => R_seq rfl rfl) (zg (v := .bool _) (fun _ => zT (bT h3) rfl) (mB rfl ?_))))))))))); refine zd (t := 17) rfl (fun h4 => ?_) (fun h4 => ?_)
    · refine zw rfl rfl (bT h4) (zf fa76_3 rfl (zw rfl rfl (bT h4) (zL 1 z37 rfl rfl rfl (zw rfl rfl (bT h4) (zf fa76_3 rfl (zw rfl rfl (bT h4) (zL 0 z37 rfl rfl rfl (zw rfl rfl (bT h4) (zC (fun w => zR Tryz.func90 rfl rfl rfl) rfl rfl (fun w h => eqE_spec _ same_ok ks ks2 ka ka2 kc kc2 N w (fun x hx => by have := exsW_mem hx; omega) (by omega) (hks.now (fun _ _ hh => hh) zm0 h) (hks2.now (fun _ _ hh => hh) zm0 h)) (zg (v := .bool _) (fun _ => zT (bT h4) rfl) (mB rfl ?_))))))))))); refine zp (t := 24) rfl (fun h5 => ?_) (fun h5 => ?_)
      · refine zw rfl rfl (bV h5) (zf fa76_4 rfl (zw rfl rfl (bV h5) (zL 1 z24 rfl rfl rfl (zw rfl rfl (bV h5) (zf fa76_4 rfl (zw rfl rfl (bV h5) (zL 0 z24 rfl rfl rfl (zw rfl rfl (bV h5) (zC (fun w => zR Tryz.func52 rfl rfl rfl) rfl rfl (fun w h => eqS_spec n ih bo bo2 ba ba2 bc bc2 N w (fun x hx => by have := smsW_mem hx; omega) (by omega) (hbo.now (fun _ _ hh => hh) zm0 h) (hbo2.now (fun _ _ hh => hh) zm0 h)) (zg (v := .bool _) (fun _ => zT (bV h5) rfl) (mB rfl ?_))))))))))); refine zp (t := 31) rfl (fun h6 => ?_) (fun h6 => ?_)
        · refine zw rfl rfl (bV h6) (zf fa76_5 rfl (zw rfl rfl (bV h6) (zL 1 z24 rfl rfl rfl (zw rfl rfl (bV h6) (zf fa76_5 rfl (zw rfl rfl (bV h6) (zL 0 z24 rfl rfl rfl (zw rfl rfl (bV h6) (zC (fun w => zR Tryz.func52 rfl rfl rfl) rfl rfl (fun w h => eqS_spec n ih el el2 ea ea2 ec ec2 N w (fun x hx => by have := smsW_mem hx; omega) (by omega) (hel.now (fun _ _ hh => hh) zm0 h) (hel2.now (fun _ _ hh => hh) zm0 h)) (zg (v := .bool _) (fun _ => zT (bV h6) rfl) (aB rfl (yB (ze (zo (v := .bool _) rfl rfl rfl ?_))))))))))))))
          exact fun w' hw => ⟨by (try clear hm hm2 hks hks2 hbo hbo2 hel hel2 hw ih hx hx2 gt2b gt3b ut2b ut3b); simp only [smSame, exsSame_eq, smsSame_eq, Sm.op, Sm.nm, Sm.kids, Sm.body, Sm.els]; simp_all, hw.fr _ zm0⟩
        · refine zs rfl rfl (bV h6) (zs rfl rfl (bV h6) (zs rfl rfl (bV h6) (zs rfl rfl (bV h6) (zs rfl rfl (bV h6) (zg (v := .bool _) (fun _ => zF (bV h6) rfl) (aB rfl (yB (ze (zo (v := .bool _) rfl rfl rfl ?_))))))))); exact fun w' hw => ⟨by (try clear hm hm2 hks hks2 hbo hbo2 hel hel2 hw ih hx hx2 gt2b gt3b ut2b ut3b); simp only [smSame, exsSame_eq, smsSame_eq, Sm.op, Sm.nm, Sm.kids, Sm.body, Sm.els]; simp_all, hw.fr _ zm0⟩
      · refine zs rfl rfl (bV h5) (zs rfl rfl (bV h5) (zs rfl rfl (bV h5) (zs rfl rfl (bV h5) (zs rfl rfl (bV h5) (zg (v := .bool _) (fun _ => zF (bV h5) rfl) (mB rfl ?_)))))); (iterate 5 refine zs rfl rfl rfl ?_); refine zg (v := .bool _) (fun _ => zF rfl rfl) (aB rfl (yB (ze (zo (v := .bool _) rfl rfl rfl ?_)))); exact fun w' hw => ⟨by (try clear hm hm2 hks hks2 hbo hbo2 hel hel2 hw ih hx hx2 gt2b gt3b ut2b ut3b); simp only [smSame, exsSame_eq, smsSame_eq, Sm.op, Sm.nm, Sm.kids, Sm.body, Sm.els]; simp_all, hw.fr _ zm0⟩
    · refine zs rfl rfl (bF h4) (zs rfl rfl (bF h4) (zs rfl rfl (bF h4) (zs rfl rfl (bF h4) (zs rfl rfl (bF h4) (zg (v := .bool _) (fun _ => zF (bF h4) rfl) (mB rfl ?_)))))); (iterate 5 refine zs rfl rfl rfl ?_); refine zg (v := .bool _) (fun _ => zF rfl rfl) (mB rfl ?_); (iterate 5 refine zs rfl rfl rfl ?_); refine zg (v := .bool _) (fun _ => zF rfl rfl) (aB rfl (yB (ze (zo (v := .bool _) rfl rfl rfl ?_))))
      exact fun w' hw => ⟨by (try clear hm hm2 hks hks2 hbo hbo2 hel hel2 hw ih hx hx2 gt2b gt3b ut2b ut3b); simp only [smSame, exsSame_eq, smsSame_eq, Sm.op, Sm.nm, Sm.kids, Sm.body, Sm.els]; simp_all, hw.fr _ zm0⟩
  · have hop : ¬ op = op2 := (by omega)
    refine zs rfl rfl (bF h3) (zs rfl rfl (bF h3) (zs rfl rfl (bF h3) (zs rfl rfl (bF h3) (zs rfl rfl (bF h3) (zg (v := .bool _) (fun _ => zF (bF h3) rfl) (mB rfl ?_)))))); (iterate 5 refine zs rfl rfl rfl ?_); refine zg (v := .bool _) (fun _ => zF rfl rfl) (mB rfl ?_); (iterate 5 refine zs rfl rfl rfl ?_); refine zg (v := .bool _) (fun _ => zF rfl rfl) (mB rfl ?_)
    (iterate 5 refine zs rfl rfl rfl ?_); refine zg (v := .bool _) (fun _ => zF rfl rfl) (aB rfl (yB (ze (zo (v := .bool _) rfl rfl rfl ?_)))); exact fun w' hw => ⟨by (try clear hm hm2 hks hks2 hbo hbo2 hel hel2 hw ih hx hx2 gt2b gt3b ut2b ut3b); simp only [smSame, exsSame_eq, smsSame_eq, Sm.op, Sm.nm, Sm.kids, Sm.body, Sm.els]; simp_all, hw.fr _ zm0⟩


theorem sameS_all : ∀ n : Nat, n ≤ 10000000 → SameS n
  | 0, _ => fun _ _ _ _ _ _ h => absurd h (Nat.not_lt_zero _)
  | n + 1, h => sameS_step n (sameS_all n (by omega)) (by omega)
theorem sameS_ok : SameS 10000000 := sameS_all _ (Nat.le_refl _)

theorem sameD1_spec (l r : List Ex) (a b : Option Addr) (c d : Nat) (N : Nat → Prop) (w : World) (hl : ∀ x ∈ l, exW x < 10000000) (hll : l.length ≤ 10000000) (hm : exsM w N l a 0) (hm2 : exsM w N r b 0) :
    Ret Tryz.prog 89 #[.slice a l.length c, .slice b r.length d] w (fun v w' => v = .bool (pairOk exSame l r) ∧ Ext w w') := by
  refine enter (S := No) (l := [_, _]) (L := []) 8 Tryz.func89 rfl rfl rfl (St.start w No) (yA (aB rfl (yC (mS rfl (mS rfl (zC (fun w => zR Tryz.func90 rfl rfl rfl) rfl rfl (fun w h => eqE_spec _ same_ok l r a b c d N w hl hll (hm.now (fun _ _ hh => hh) zm0 h) (hm2.now (fun _ _ hh => hh) zm0 h)) (aB rfl (yB (ze (zo (v := .bool _) rfl rfl rfl ?_)))))))))); exact fun w' hw => ⟨rfl, hw.fr _ zm0⟩

theorem sameDecl_spec (x z : Dc) (cs ds : List Value) (N : Nat → Prop) (w : World) (hx : dcW x < 10000000) (hm : dcM w N x cs) (hm2 : dcM w N z ds) :
    Ret Tryz.prog 51 #[.agg cs.toArray, .agg ds.toArray] w (fun v w' => v = .bool (dcSame x z) ∧ Ext w w') := by
  have hEx := hm; have hEz := hm2; obtain ⟨ty, at_, nm, sz, lo, up, ini⟩ := x; obtain ⟨ty2, at2, nm2, sz2, lo2, up2, ini2⟩ := z; unfold dcM at hEx hEz; obtain ⟨xa, xc, la, lc, ua, uc, ia, ic, hcs, hsz, hlo, hup, hini⟩ := hEx; obtain ⟨xa2, xc2, la2, lc2, ua2, uc2, ia2, ic2, hds, hsz2, hlo2, hup2, hini2⟩ := hEz; simp only [] at hcs hds; subst hcs; subst hds
  have hx2 := hx
  unfold dcW at hx2
  simp only [] at hx2
  refine enter (S := No) (l := [_, _]) (L := []) 50 Tryz.func51 rfl rfl rfl (St.start w No) (yA (w_boxA rfl (fun t2b gt2b ut2b => w_boxA rfl (fun t3b gt3b ut3b => aB rfl (yC (za rfl (yC (zf fa46_0 rfl (zL 1 z5 rfl rfl rfl (zf fa46_0 rfl (zL 0 z5 rfl rfl rfl (zg (fun _ => R_eq rfl rfl) (mB rfl ?_))))))))))))); refine zd (t := 11) rfl (fun h3 => ?_) (fun h3 => ?_)
  · have hop : ty = ty2 := (by omega)
    refine zw rfl rfl (bT h3) (zf fa46_2 rfl (zw rfl rfl (bT h3) (zL 1 z9 rfl rfl rfl (zw rfl rfl (bT h3) (zf fa46_2 rfl (zw rfl rfl (bT h3) (zL 0 z9 rfl rfl rfl (zw rfl rfl (bT h3) (zg (fun _ => R_seq rfl rfl) (zg (v := .bool _) (fun _ => zT (bT h3) rfl) (mB rfl ?_))))))))))); refine zd (t := 18) rfl (fun h4 => ?_) (fun h4 => ?_)
    · refine zw rfl rfl (bT h4) (zm rfl (zw rfl rfl (bT h4) (zf fa46_3 rfl (zw rfl rfl (bT h4) (zL 1 z37 rfl rfl rfl (zw rfl rfl (bT h4) (zf fa46_3 rfl (zw rfl rfl (bT h4) (zL 0 z37 rfl rfl rfl (zw rfl rfl (bT h4) (zC (fun w => R_callv rfl Tryz.func89 rfl rfl) rfl rfl (fun w h => sameD1_spec sz sz2 xa xa2 xc xc2 N w (fun x hx => by have := exsW_mem hx; omega) (by omega) (hsz.now (fun _ _ hh => hh) zm0 h) (hsz2.now (fun _ _ hh => hh) zm0 h)) (zg (v := .bool _) (fun _ => zT (bT h4) rfl) (mB rfl ?_))))))))))))); refine zp (t := 26) rfl (fun h5 => ?_) (fun h5 => ?_)
      · refine zw rfl rfl (bV h5) (zm rfl (zw rfl rfl (bV h5) (zf fa46_4 rfl (zw rfl rfl (bV h5) (zL 1 z37 rfl rfl rfl (zw rfl rfl (bV h5) (zf fa46_4 rfl (zw rfl rfl (bV h5) (zL 0 z37 rfl rfl rfl (zw rfl rfl (bV h5) (zC (fun w => R_callv rfl Tryz.func89 rfl rfl) rfl rfl (fun w h => sameD1_spec lo lo2 la la2 lc lc2 N w (fun x hx => by have := exsW_mem hx; omega) (by omega) (hlo.now (fun _ _ hh => hh) zm0 h) (hlo2.now (fun _ _ hh => hh) zm0 h)) (zg (v := .bool _) (fun _ => zT (bV h5) rfl) (mB rfl ?_))))))))))))); refine zp (t := 34) rfl (fun h6 => ?_) (fun h6 => ?_)
        · refine zw rfl rfl (bV h6) (zm rfl (zw rfl rfl (bV h6) (zf fa46_5 rfl (zw rfl rfl (bV h6) (zL 1 z37 rfl rfl rfl (zw rfl rfl (bV h6) (zf fa46_5 rfl (zw rfl rfl (bV h6) (zL 0 z37 rfl rfl rfl (zw rfl rfl (bV h6) (zC (fun w => R_callv rfl Tryz.func89 rfl rfl) rfl rfl (fun w h => sameD1_spec up up2 ua ua2 uc uc2 N w (fun x hx => by have := exsW_mem hx; omega) (by omega) (hup.now (fun _ _ hh => hh) zm0 h) (hup2.now (fun _ _ hh => hh) zm0 h)) (zg (v := .bool _) (fun _ => zT (bV h6) rfl) (mB rfl ?_))))))))))))); refine zp (t := 42) rfl (fun h7 => ?_) (fun h7 => ?_)
          · refine zw rfl rfl (bV h7) (zm rfl (zw rfl rfl (bV h7) (zf fa46_6 rfl (zw rfl rfl (bV h7) (zL 1 z37 rfl rfl rfl (zw rfl rfl (bV h7) (zf fa46_6 rfl (zw rfl rfl (bV h7) (zL 0 z37 rfl rfl rfl (zw rfl rfl (bV h7) (zC (fun w => R_callv rfl Tryz.func89 rfl rfl) rfl rfl (fun w h => sameD1_spec ini ini2 ia ia2 ic ic2 N w (fun x hx => by have := exsW_mem hx; omega) (by omega) (hini.now (fun _ _ hh => hh) zm0 h) (hini2.now (fun _ _ hh => hh) zm0 h)) (zg (v := .bool _) (fun _ => zT (bV h7) rfl) (aB rfl (yB (ze (zo (v := .bool _) rfl rfl rfl ?_))))))))))))))))
            exact fun w' hw => ⟨by (try clear hm hm2 hw hsz hlo hup hini hsz2 hlo2 hup2 hini2 hx hx2 gt2b gt3b ut2b ut3b); simp only [dcSame, exsSame_eq]; simp_all, hw.fr _ zm0⟩
          · refine zs rfl rfl (bV h7) (zs rfl rfl (bV h7) (zs rfl rfl (bV h7) (zs rfl rfl (bV h7) (zs rfl rfl (bV h7) (zs rfl rfl (bV h7) (zg (v := .bool _) (fun _ => zF (bV h7) rfl) (aB rfl (yB (ze (zo (v := .bool _) rfl rfl rfl ?_)))))))))); exact fun w' hw => ⟨by (try clear hm hm2 hw hsz hlo hup hini hsz2 hlo2 hup2 hini2 hx hx2 gt2b gt3b ut2b ut3b); simp only [dcSame, exsSame_eq]; simp_all, hw.fr _ zm0⟩
        · refine zs rfl rfl (bV h6) (zs rfl rfl (bV h6) (zs rfl rfl (bV h6) (zs rfl rfl (bV h6) (zs rfl rfl (bV h6) (zs rfl rfl (bV h6) (zg (v := .bool _) (fun _ => zF (bV h6) rfl) (mB rfl ?_))))))); (iterate 6 refine zs rfl rfl rfl ?_); refine zg (v := .bool _) (fun _ => zF rfl rfl) (aB rfl (yB (ze (zo (v := .bool _) rfl rfl rfl ?_)))); exact fun w' hw => ⟨by (try clear hm hm2 hw hsz hlo hup hini hsz2 hlo2 hup2 hini2 hx hx2 gt2b gt3b ut2b ut3b); simp only [dcSame, exsSame_eq]; simp_all, hw.fr _ zm0⟩
      · refine zs rfl rfl (bV h5) (zs rfl rfl (bV h5) (zs rfl rfl (bV h5) (zs rfl rfl (bV h5) (zs rfl rfl (bV h5) (zs rfl rfl (bV h5) (zg (v := .bool _) (fun _ => zF (bV h5) rfl) (mB rfl ?_))))))); (iterate 6 refine zs rfl rfl rfl ?_); refine zg (v := .bool _) (fun _ => zF rfl rfl) (mB rfl ?_); (iterate 6 refine zs rfl rfl rfl ?_); refine zg (v := .bool _) (fun _ => zF rfl rfl) ?_
        refine aB rfl (yB (ze (zo (v := .bool _) rfl rfl rfl ?_))); exact fun w' hw => ⟨by (try clear hm hm2 hw hsz hlo hup hini hsz2 hlo2 hup2 hini2 hx hx2 gt2b gt3b ut2b ut3b); simp only [dcSame, exsSame_eq]; simp_all, hw.fr _ zm0⟩
    · refine zs rfl rfl (bF h4) (zs rfl rfl (bF h4) (zs rfl rfl (bF h4) (zs rfl rfl (bF h4) (zs rfl rfl (bF h4) (zs rfl rfl (bF h4) (zg (v := .bool _) (fun _ => zF (bF h4) rfl) (mB rfl ?_))))))); (iterate 6 refine zs rfl rfl rfl ?_); refine zg (v := .bool _) (fun _ => zF rfl rfl) (mB rfl ?_); (iterate 4 refine zs rfl rfl rfl ?_); refine zs rfl rfl rfl ?_
      refine zs rfl rfl rfl (zg (v := .bool _) (fun _ => zF rfl rfl) (mB rfl ?_)); (iterate 6 refine zs rfl rfl rfl ?_); refine zg (v := .bool _) (fun _ => zF rfl rfl) (aB rfl (yB (ze (zo (v := .bool _) rfl rfl rfl ?_)))); exact fun w' hw => ⟨by (try clear hm hm2 hw hsz hlo hup hini hsz2 hlo2 hup2 hini2 hx hx2 gt2b gt3b ut2b ut3b); simp only [dcSame, exsSame_eq]; simp_all, hw.fr _ zm0⟩
  · have hop : ¬ ty = ty2 := (by omega)
    refine zs rfl rfl (bF h3) (zs rfl rfl (bF h3) (zs rfl rfl (bF h3) (zs rfl rfl (bF h3) (zs rfl rfl (bF h3) (zg (v := .bool _) (fun _ => zF (bF h3) rfl) (mB rfl ?_)))))); (iterate 6 refine zs rfl rfl rfl ?_); refine zg (v := .bool _) (fun _ => zF rfl rfl) (mB rfl ?_); (iterate 6 refine zs rfl rfl rfl ?_); refine zg (v := .bool _) (fun _ => zF rfl rfl) ?_
    refine mB rfl ?_; (iterate 6 refine zs rfl rfl rfl ?_); refine zg (v := .bool _) (fun _ => zF rfl rfl) (mB rfl ?_); (iterate 6 refine zs rfl rfl rfl ?_); refine zg (v := .bool _) (fun _ => zF rfl rfl) (aB rfl (yB (ze (zo (v := .bool _) rfl rfl rfl ?_)))); exact fun w' hw => ⟨by (try clear hm hm2 hw hsz hlo hup hini hsz2 hlo2 hup2 hini2 hx hx2 gt2b gt3b ut2b ut3b); simp only [dcSame, exsSame_eq]; simp_all, hw.fr _ zm0⟩

theorem eqD_spec  (l r : List Dc) (a b : Option Addr) (c d : Nat) (N : Nat → Prop) (w : World) (hl : ∀ x ∈ l, dcW x < 10000000) (hll : l.length ≤ 10000000) (hm : dcsM w N l a) (hm2 : dcsM w N r b) :
    Ret Tryz.prog 50 #[.slice a l.length c, .slice b r.length d, .func (.func 51) #[] #[]] w (fun v w' => v = .bool (pairOk dcSame l r) ∧ Ext w w') := by
  refine enter (S := No) (l := [_, _, _]) (L := []) 32 Tryz.func50 rfl rfl rfl (St.start w No) (yA (aB rfl (yB (zq (yA (mS rfl (zg (fun _ => R_len sl23 rfl) (mS rfl (zg (fun _ => R_len sl23 rfl) (zg (fun _ => R_ne rfl rfl) (yB ?_))))))))))); refine zD rfl (fun h1 => ?_) (fun h1 => ?_)
  · refine yA (aB rfl (yB (ze (zt ((zo (v := .bool _) rfl rfl rfl ?_)))))); exact fun w' hw => ⟨by rw [pairOk_len (by omega)], hw.fr _ zm0⟩
  · have hlen : l.length = r.length := (by omega)
    refine zi (zk (zq (yA (mS rfl (zg (fun _ => R_len sl23 rfl) (mI rfl (yB (zB (c_loop (fun m e B L => ∃ (k : Nat), e 1 = .slice b r.length d ∧ e 2 = .func (.func 51) #[] #[] ∧ e 15 = .slice a l.length c ∧ e 16 = .int .i64 (l.length : Nat) ∧ e 17 = .int .i64 (k : Nat) ∧ B = [(w, No)] ∧ L = [] ∧ k ≤ l.length ∧ (∀ p ∈ (l.zip r).take k, (!dcSame p.1 p.2) = false) ∧ m = l.length - k) _ ⟨0, rfl, rfl, rfl, rfl, rfl, rfl, rfl, Nat.zero_le _, (by simp), rfl⟩ ?_)))))))))
    rintro m e B L ⟨k, e1_1, e2_1, e15_1, e16_1, e17_1, rfl, rfl, hk, hy, rfl⟩
    refine yA (zg (fun _ => R_lt e17_1 e16_1) (yB (zq ?_))); refine zD rfl (fun h2 => ?_) (fun h2 => ?_)
    · have hlt : k < l.length := (by omega); obtain ⟨x, hxk⟩ : ∃ x, l[k]? = some x := ⟨_, List.getElem?_eq_getElem hlt⟩; obtain ⟨z, hzk⟩ : ∃ z, r[k]? = some z := ⟨_, List.getElem?_eq_getElem (by omega)⟩; obtain ⟨cs, hA, hE⟩ := hm k x hxk; obtain ⟨ds, hA2, hE2⟩ := hm2 k z hzk; have hxn := hl x (List.mem_of_getElem? hxk); obtain ⟨b1, o1, rfl⟩ := hA.ptr; obtain ⟨b2, o2, rfl⟩ := hA2.ptr; have hxe := hxk; have hze := hzk; have hEx := hE; have hEz := hE2; obtain ⟨ty, at_, nm, sz, lo, up, ini⟩ := x; obtain ⟨ty2, at2, nm2, sz2, lo2, up2, ini2⟩ := z; unfold dcM at hEx hEz; obtain ⟨xa, xc, la, lc, ua, uc, ia, ic, hcs, hsz, hlo, hup, hini⟩ := hEx; obtain ⟨xa2, xc2, la2, lc2, ua2, uc2, ia2, ic2, hds, hsz2, hlo2, hup2, hini2⟩ := hEz; simp only [] at hcs hds; subst hcs; subst hds
      refine zi (zk (zq (zB (yA (mI e17_1 (zg (fun _ => R_iaN (i := k) sl23 e15_1 e17_1 (by omega)) (w_loadC (l := [.int .u8 (ty : Nat), .int .i64 at_, str nm, .slice xa sz.length xc, .slice la lo.length lc, .slice ua up.length uc, .slice ia ini.length ic]) z46 rfl rfl (fun w h j v hj => hA.cell (fun _ _ hh => hh) zm0 h j v hj) (zA zr46 (fun t8b gt8b ut8b => aI rfl (zV 0 rfl z46 rfl rfl rfl rfl rfl rfl rfl (yC (mS e1_1 (mI rfl (zg (fun _ => R_iaN (i := k) sl23 rfl rfl (by omega)) (w_loadC (l := [.int .u8 (ty2 : Nat), .int .i64 at2, str nm2, .slice xa2 sz2.length xc2, .slice la2 lo2.length lc2, .slice ua2 up2.length uc2, .slice ia2 ini2.length ic2]) z46 rfl rfl (fun w h j v hj => hA2.cell (fun _ _ hh => hh) zm0 h j v hj) (zA zr46 (fun t9b gt9b ut9b => zV 0 rfl z46 rfl rfl rfl rfl rfl rfl rfl (yC (zm e2_1 (zY z46 rfl (fun _ h => h.at_ 1 rfl) rfl (zY z46 rfl (fun _ h => h.at_ 0 rfl) rfl (zC (fun w => R_callv rfl Tryz.func51 rfl rfl) rfl rfl (fun w h => sameDecl_spec _ _ _ _ N w hxn (hE.now (fun _ _ hh => hh) zm0 h) (hE2.now (fun _ _ hh => hh) zm0 h)) (zg (fun _ => R_not rfl) (yB ?_)))))))))))))))))))))))); refine c_condN rfl (fun h5 => ?_) (fun h5 => ?_)
      · refine yA (aB rfl (yB (ze (zb (zt (zt (zb (zt ((zo (v := .bool _) rfl rfl rfl ?_)))))))))); exact fun w' hw => ⟨by (rw [pairOk_no hxk hzk h5]; done), hw.fr _ zm0⟩
      · refine zi (zO (zk (zr (zg (fun _ => R_addi e17_1 rfl (by omega)) (mI rfl (zn (zK (B' := [(w, No)]) (L' := []) (fun w h => h.drop (List.nil_sublist _)) ?_))))))); exact k_again _ (by omega) ⟨k + 1, e1_1, e2_1, e15_1, e16_1, rfl, rfl, rfl, by omega, pair_next hy hxk hzk h5, rfl⟩
    · refine zX (zx (zx (b_here rfl (zk (yA (aB rfl (yB (ze (zo (v := .bool _) rfl rfl rfl ?_))))))))); exact fun w' hw => ⟨by (rw [pairOk_yes hlen hy (by omega)]; done), hw.fr _ zm0⟩

theorem Same_spec (pg qg : List Bk) (cs ds : List Value) (N : Nat → Prop) (w : World) (hp : ∀ b ∈ pg, bkW b < 10000000) (hm : pgM w N pg cs) (hm2 : pgM w N qg ds) :
    Ret Tryz.prog 21 #[.agg cs.toArray, .agg ds.toArray] w (fun v w' => v = .bool (pgSame pg qg) ∧ Ext w w') := by
  refine enter (S := No) (l := [_, _]) (L := []) 40 Tryz.func21 rfl rfl rfl (St.start w No) (yA (w_boxA rfl (fun t2b gt2b ut2b => w_boxA rfl (fun t3b gt3b ut3b => aB rfl (yB (zq (yA (zf fa29_0 rfl (w_loadW z27 rfl (fun _ h => h.at_ 1 rfl) hm.len (mI rfl (yB (zB (c_loop (fun m e B L => ∃ (i : Nat), e 3 = .pointer (some ⟨t3b, 0, none⟩) ∧ e 9 = .agg cs.toArray ∧ e 10 = .int .i64 (i : Nat) ∧ B = [(w, No)] ∧ L = [(t3b, cel ds 29), (t2b, cel cs 29)] ∧ i ≤ 6 ∧ (∀ p ∈ (pg.zip qg).take i, (!bkSame p.1 p.2) = false) ∧ m = 6 - i) _ ⟨0, rfl, rfl, rfl, rfl, rfl, Nat.zero_le _, (by simp), rfl⟩ ?_)))))))))))))
  rintro m e B L ⟨i, e3_1, e9_1, e10_1, rfl, rfl, hi, hy, rfl⟩
  refine yA (zg (fun _ => R_lt e10_1 rfl) (yB (zq ?_))); refine zD rfl (fun h3 => ?_) (fun h3 => ?_)
  · have hi6 : i < 6 := (by omega); obtain ⟨b, hb⟩ : ∃ b, pg[i]? = some b := ⟨_, List.getElem?_eq_getElem (by rw [hm.six]; exact hi6)⟩; have hbw := hp b (List.mem_of_getElem? hb); unfold bkW at hbw; obtain ⟨da, dc, sa, sc, hcb, hds, hss⟩ := hm.one i b hb; obtain ⟨b2, hb2⟩ : ∃ b, qg[i]? = some b := ⟨_, List.getElem?_eq_getElem (by rw [hm2.six]; exact hi6)⟩; obtain ⟨da2, dc2, sa2, sc2, hcb2, hds2, hss2⟩ := hm2.one i b2 hb2
    refine zi (zk (zq (zB (yA (mI e10_1 (w_r (v := .agg (List.toArray [.bool b.is, .slice da b.decls.length dc, .slice sa b.stmts.length sc])) (fun _ => R_aidxA (i := i) ara27 e9_1 e10_1 (by omega) hcb) rfl rfl (zA zr26 (fun t6b gt6b ut6b => aI rfl (zV 0 rfl z26 rfl rfl rfl rfl rfl rfl rfl (yC (mI rfl (zf fa29_0 e3_1 (zg (fun _ => R_iaA (i := i) ara27 (by decide) rfl rfl (by omega)) (w_loadC (l := [.bool b2.is, .slice da2 b2.decls.length dc2, .slice sa2 b2.stmts.length sc2]) z26 rfl rfl (fun w h j v hj => zc 1 rfl (sub_get hcb2 hj) h) (zA zr26 (fun t7b gt7b ut7b => zV 0 rfl z26 rfl rfl rfl rfl rfl rfl rfl (yC (zf fa26_0 rfl (zL 1 z4 rfl rfl rfl (zf fa26_0 rfl (zL 0 z4 rfl rfl rfl (zg (fun _ => R_bne unb4 rfl rfl) (mB rfl ?_))))))))))))))))))))))); refine zp (t := 23) rfl (fun h6 => ?_) (fun h6 => ?_)
    · refine zs rfl rfl (bV h6) (zs rfl rfl (bV h6) (zs rfl rfl (bV h6) (zs rfl rfl (bV h6) (zs rfl rfl (bV h6) (zs rfl rfl (bV h6) (zg (v := .bool _) (fun _ => zT (bV h6) rfl) (mB rfl ?_))))))); (iterate 6 refine zs rfl rfl rfl ?_); refine zg (v := .bool _) (fun _ => zT rfl rfl) (yB (zE rfl (yA (aB rfl (yB (ze (zb (zt (zt (zb (zt (?_))))))))))))
      refine zo (v := .bool _) rfl rfl rfl ?_; exact fun w' hw => ⟨by unfold pgSame; (rw [pairOk_no hb hb2 (by (try clear hm hm2 hw hp hcb hds hss hcb2 hds2 hss2 hbw hy e10_1 e3_1 e9_1 gt2b gt3b gt6b gt7b ut2b ut3b ut6b ut7b); simp only [bkSame, smsSame_eq]; simp_all)]; done), hw.fr _ zm0⟩
    · refine zw rfl rfl (bV h6) (zf fa26_1 rfl (zw rfl rfl (bV h6) (zL 1 z23 rfl rfl rfl (zw rfl rfl (bV h6) (zf fa26_1 rfl (zw rfl rfl (bV h6) (zL 0 z23 rfl rfl rfl (zw rfl rfl (bV h6) (zC (fun w => zR Tryz.func50 rfl rfl rfl) rfl rfl (fun w h => eqD_spec b.decls b2.decls da da2 dc dc2 N w (fun x hx => by have := dcsW_mem hx; omega) (by omega) (hds.now (fun _ _ hh => hh) zm0 h) (hds2.now (fun _ _ hh => hh) zm0 h)) (zw rfl rfl (bV h6) (zg (fun _ => R_not rfl) (zg (v := .bool _) (fun _ => zF (bV h6) rfl) (mB rfl ?_))))))))))))); refine zp (t := 31) rfl (fun h7 => ?_) (fun h7 => ?_)
      · refine zs rfl rfl (bV h7) (zs rfl rfl (bV h7) (zs rfl rfl (bV h7) (zs rfl rfl (bV h7) (zs rfl rfl (bV h7) (zs rfl rfl (bV h7) (zg (v := .bool _) (fun _ => zT (bV h7) rfl) (yB (zE rfl (yA (aB rfl (yB (ze (zb (zt (zt (zb (zt ((zo (v := .bool _) rfl rfl rfl ?_))))))))))))))))))); exact fun w' hw => ⟨by unfold pgSame; (rw [pairOk_no hb hb2 (by (try clear hm hm2 hw hp hcb hds hss hcb2 hds2 hss2 hbw hy e10_1 e3_1 e9_1 gt2b gt3b gt6b gt7b ut2b ut3b ut6b ut7b); simp only [bkSame, smsSame_eq]; simp_all)]; done), hw.fr _ zm0⟩
      · refine zw rfl rfl (bV h7) (zf fa26_2 rfl (zw rfl rfl (bV h7) (zL 1 z24 rfl rfl rfl (zw rfl rfl (bV h7) (zf fa26_2 rfl (zw rfl rfl (bV h7) (zL 0 z24 rfl rfl rfl (zw rfl rfl (bV h7) (zC (fun w => zR Tryz.func52 rfl rfl rfl) rfl rfl (fun w h => eqS_spec _ sameS_ok b.stmts b2.stmts sa sa2 sc sc2 N w (fun x hx => by have := smsW_mem hx; omega) (by omega) (hss.now (fun _ _ hh => hh) zm0 h) (hss2.now (fun _ _ hh => hh) zm0 h)) (zw rfl rfl (bV h7) (zg (fun _ => R_not rfl) (zg (v := .bool _) (fun _ => zF (bV h7) rfl) (yB ?_))))))))))))); refine c_condN rfl (fun h8 => ?_) (fun h8 => ?_)
        · refine yA (aB rfl (yB (ze (zb (zt (zt (zb (zt ((zo (v := .bool _) rfl rfl rfl ?_)))))))))); exact fun w' hw => ⟨by unfold pgSame; (rw [pairOk_no hb hb2 (by (try clear hm hm2 hw hp hcb hds hss hcb2 hds2 hss2 hbw hy e10_1 e3_1 e9_1 gt2b gt3b gt6b gt7b ut2b ut3b ut6b ut7b); simp only [bkSame, smsSame_eq]; simp_all)]; done), hw.fr _ zm0⟩
        · refine zi (zO (zk (zr (zg (fun _ => R_addi e10_1 rfl (by omega)) (mI rfl (zn (zK (B' := [(w, No)]) (L' := _) (fun w h => h.drop (List.sublist_append_right [_, _] _)) ?_))))))); exact k_again _ (by omega) ⟨i + 1, e3_1, e9_1, rfl, rfl, rfl, by omega, pair_next hy hb hb2 (by (try clear hm hm2 hp hcb hds hss hcb2 hds2 hss2 hbw hy e10_1 e3_1 e9_1 gt2b gt3b gt6b gt7b ut2b ut3b ut6b ut7b); simp only [bkSame, smsSame_eq]; simp_all), rfl⟩
  · refine zX (zx (zx (b_here rfl (zk (yA (aB rfl (yB (ze (zo (v := .bool _) rfl rfl rfl ?_))))))))); exact fun w' hw => ⟨by unfold pgSame; (rw [pairOk_yes (hm.six.trans hm2.six.symm) hy (by have := hm.six; omega)]; done), hw.fr _ zm0⟩
end Go.Proofs.YtaniogadknakoaaGreatDoor
end

section
namespace Go.Proofs.YtaniogadknakoaaGreatDoor
open Go.RowKit Go.Sx
open Go.Tok Go.Tree Go.Prs

theorem Parse_at (s : Str) (hs : s.length ≤ 10000000) {p : List Bk} {fl : Fl} (h : resOf (List.replicate 6 noBk) (parseP s) = (p, fl)) (w : World) (hW : Wd w) (hng : 4 ≤ w.heap.size) :
  Ret Tryz.prog 10 #[str s] w fun v w' => ∃ cs, v = .tuple #[.agg cs.toArray, .agg #[.int .i64 (fl.1 : Nat), .int .i64 (fl.2 : Nat)]] ∧ pgM w' (Nn w w') p cs ∧ Ext w w' :=
 (Parse_ok s hs w hW hng).mono fun v w' ⟨cs, h1, h2, _, h4⟩ => ⟨cs, by rw [h1, h], by rw [h] at h2; exact h2, h4⟩
theorem Expr_at (s : Str) (hs : s.length ≤ 10000000) {p : Ex} {fl : Fl} (h : resOf noEx (exprP s) = (p, fl)) (w : World) (hW : Wd w) (hng : 4 ≤ w.heap.size) :
  Ret Tryz.prog 13 #[str s] w fun v w' => ∃ b, v = .tuple #[.agg (exE p b).toArray, .agg #[.int .i64 (fl.1 : Nat), .int .i64 (fl.2 : Nat)]] ∧ exT w' (Nn w w') p b ∧ Ext w w' :=
 (Expr_ok s hs w hW hng).mono fun v w' ⟨b, h1, h2, _, h4⟩ => ⟨b, by rw [h1, h], by rw [h] at h2; exact h2, h4⟩


def hP1 : List Bk := (resOf (List.replicate 6 noBk) (parseP [109, 111, 100, 101, 108, 32, 123, 32, 116, 97, 114, 103, 101, 116, 32, 43, 61, 32, 45, 40, 97, 32, 45, 32, 49, 41, 32, 42, 32, 50, 32, 59, 32, 125])).1
theorem parse1 (w : World) (hW : Wd w) (hng : 4 ≤ w.heap.size) : Ret Tryz.prog 10 #[str [109, 111, 100, 101, 108, 32, 123, 32, 116, 97, 114, 103, 101, 116, 32, 43, 61, 32, 45, 40, 97, 32, 45, 32, 49, 41, 32, 42, 32, 50, 32, 59, 32, 125]] w fun v w' => ∃ cs, v = .tuple #[.agg cs.toArray, .agg #[.int .i64 0, .int .i64 0]] ∧ pgM w' (Nn w w') hP1 cs ∧ Ext w w' :=
 Parse_at _ (by decide) (fl := (0, 0)) (Prod.ext rfl (by kernel_rfl)) w hW hng

def hP3 : List Bk := (resOf (List.replicate 6 noBk) (parseP [109, 111, 100, 101, 108, 32, 123, 32, 125, 32, 100, 97, 116, 97, 32, 123, 32, 125])).1
theorem parse3 (w : World) (hW : Wd w) (hng : 4 ≤ w.heap.size) : Ret Tryz.prog 10 #[str [109, 111, 100, 101, 108, 32, 123, 32, 125, 32, 100, 97, 116, 97, 32, 123, 32, 125]] w fun v w' => ∃ cs, v = .tuple #[.agg cs.toArray, .agg #[.int .i64 130, .int .i64 10]] ∧ pgM w' (Nn w w') hP3 cs ∧ Ext w w' :=
 Parse_at _ (by decide) (fl := (130, 10)) (Prod.ext rfl (by kernel_rfl)) w hW hng

def hP4 : List Bk := (resOf (List.replicate 6 noBk) (parseP [109, 111, 100, 101, 108, 32, 123, 32, 40, 97, 41, 32, 61, 32, 49, 59, 32, 125])).1
theorem parse4 (w : World) (hW : Wd w) (hng : 4 ≤ w.heap.size) : Ret Tryz.prog 10 #[str [109, 111, 100, 101, 108, 32, 123, 32, 40, 97, 41, 32, 61, 32, 49, 59, 32, 125]] w fun v w' => ∃ cs, v = .tuple #[.agg cs.toArray, .agg #[.int .i64 130, .int .i64 12]] ∧ pgM w' (Nn w w') hP4 cs ∧ Ext w w' :=
 Parse_at _ (by decide) (fl := (130, 12)) (Prod.ext rfl (by kernel_rfl)) w hW hng

def hP5 : List Bk := (resOf (List.replicate 6 noBk) (parseP [])).1
theorem parse5 (w : World) (hW : Wd w) (hng : 4 ≤ w.heap.size) : Ret Tryz.prog 10 #[str []] w fun v w' => ∃ cs, v = .tuple #[.agg cs.toArray, .agg #[.int .i64 0, .int .i64 0]] ∧ pgM w' (Nn w w') hP5 cs ∧ Ext w w' :=
 Parse_at _ (by decide) (fl := (0, 0)) (Prod.ext rfl (by kernel_rfl)) w hW hng

def hX6 : Ex := (resOf noEx (exprP [97, 43, 98, 42, 45, 99])).1
theorem expr6 (w : World) (hW : Wd w) (hng : 4 ≤ w.heap.size) : Ret Tryz.prog 13 #[str [97, 43, 98, 42, 45, 99]] w fun v w' => ∃ b, v = .tuple #[.agg (exE hX6 b).toArray, .agg #[.int .i64 0, .int .i64 0]] ∧ exT w' (Nn w w') hX6 b ∧ Ext w w' :=
 Expr_at _ (by decide) (fl := (0, 0)) (Prod.ext rfl (by kernel_rfl)) w hW hng
theorem write1 {cs : List Value} {N : Nat → Prop} {w : World} (hm : pgM w N hP1 cs) (hW : Wd w) : Ret Tryz.prog 19 #[.agg cs.toArray] w fun v w' => v = .tuple #[str [109, 111, 100, 101, 108, 32, 123, 10, 116, 97, 114, 103, 101, 116, 32, 43, 61, 32, 45, 32, 40, 32, 97, 32, 45, 32, 49, 32, 41, 32, 42, 32, 50, 32, 59, 10, 125, 10], .int .i64 0] ∧ Ext w w' := by
 have h1 : pgOk hP1 = true := by decide +kernel
 have h2 : textT (pgT hP1) = [109, 111, 100, 101, 108, 32, 123, 10, 116, 97, 114, 103, 101, 116, 32, 43, 61, 32, 45, 32, 40, 32, 97, 32, 45, 32, 49, 32, 41, 32, 42, 32, 50, 32, 59, 10, 125, 10] := by kernel_rfl
 have h3 : (pgT hP1).length ≤ 1000000000 := by decide +kernel
 have h := Write_spec hP1 cs N w (by decide +kernel) hm hW h3 (by rw [h2]; decide)
 rw [h1, h2] at h
 exact h
theorem writeX {b : Option Addr × Nat} {N : Nat → Prop} {w : World} (hm : exT w N hX6 b) (hW : Wd w) : Ret Tryz.prog 22 #[.agg (exE hX6 b).toArray] w fun v w' => v = .tuple #[str [97, 32, 43, 32, 98, 32, 42, 32, 45, 32, 99], .int .i64 0] ∧ Ext w w' := by
 have h1 : exOk hX6 = true := by decide +kernel
 have h2 : textT (exT hX6) = [97, 32, 43, 32, 98, 32, 42, 32, 45, 32, 99] := by kernel_rfl
 have h3 : (_root_.Go.Tree.exT hX6).length ≤ 1000000000 := by decide +kernel
 have h := WriteExpr_spec hX6 _ N w (by decide +kernel) hm.M hW h3 (by rw [h2]; decide)
 rw [h1, h2] at h
 exact h
theorem same0 {cs : List Value} {N : Nat → Prop} {w : World} (hm : pgM w N hP5 cs) : Ret Tryz.prog 21 #[.agg cs.toArray, .agg [.bool false, .slice none 0 0, .slice none 0 0, .bool false, .slice none 0 0, .slice none 0 0, .bool false, .slice none 0 0, .slice none 0 0, .bool false, .slice none 0 0, .slice none 0 0, .bool false, .slice none 0 0, .slice none 0 0, .bool false, .slice none 0 0, .slice none 0 0].toArray] w fun v w' => v = .bool true ∧ Ext w w' := by
 have h1 : pgSame hP5 (List.replicate 6 noBk) = true := by decide +kernel
 have h := Same_spec hP5 (List.replicate 6 noBk) cs _ N w (by decide +kernel) hm pgM.zero
 rw [h1] at h
 exact h


theorem head13_ok (w : World) (hW : Wd w) (hng : 4 ≤ w.heap.size) :
  Ret Tryz.prog 9 #[] w (fun v w' => v = .bool true ∧ Ext w w') := by
 refine enter (S := No) (l := []) (L := []) 89 Tryz.func9 rfl rfl rfl (St.start w No) (yA (aB rfl (yC (zP (fun w => zR Tryz.func10 rfl rfl rfl) rfl rfl (fun w h => parse1 w (hW.now zm0 h) (Nat.le_trans hng (h.fr _ zm0).size)) ?_))))
 rintro wa hwa v x1 ⟨cs1, rfl, hM, hx⟩
 refine ⟨_, _, (hwa.ext hx).base1, ?_⟩
 have hK1 : Kt (x1, inL _) w.heap.size pgM _ cs1 := Kt.new hM TL.pg hwa (hwa.fr _ zm0).size; clear hM hx hwa
 have hcl1 : cs1.length = 18 := hK1.len
 refine zm rfl (zg (fun _ => R_extract rfl rfl) (zg (fun _ => R_extract rfl rfl) (zA zr29 (fun p1b gp1b up1b => zA zr32 (fun f1b gf1b uf1b => w_storeW cs1 1 rfl z29 rfl rfl rfl hcl1 (pg_one hK1) rfl (zV 0 rfl z32 rfl rfl rfl rfl rfl rfl rfl (yC (w_loadW z29 rfl (fun w h => h.at_ 1 rfl) hcl1 (zC (fun w => zR Tryz.func19 rfl rfl rfl) rfl rfl (fun w h => write1 (hK1.now TL.pg zm0 h) (hW.now zm1 h)) (zm rfl (zg (fun _ => R_extract rfl rfl) (zg (fun _ => R_extract rfl rfl) (za (v := str _) rfl (aI rfl (yC (zP (fun w => zR Tryz.func10 rfl rfl rfl) rfl rfl (fun w h => parse3 w (hW.now zm1 h) (Nat.le_trans hng (h.fr _ zm1).size)) ?_))))))))))))))))
 rintro wa hwa v x3 ⟨cs3, rfl, hM, hx⟩
 refine ⟨_, _, (hwa.ext hx).base1, ?_⟩
 have hK3 : Kt (x3, inL _) w.heap.size pgM _ cs3 := Kt.new hM TL.pg hwa (hwa.fr _ zm1).size; clear hM hx hwa
 have hcl3 : cs3.length = 18 := hK3.len
 refine zm rfl (zg (fun _ => R_extract rfl rfl) (zg (fun _ => R_extract rfl rfl) (zA zr29 (fun p3b gp3b up3b => zA zr32 (fun f3b gf3b uf3b => w_storeW cs3 1 rfl z29 rfl rfl rfl hcl3 (pg_one hK3) rfl (zV 0 rfl z32 rfl rfl rfl rfl rfl rfl rfl (yC (zP (fun w => zR Tryz.func10 rfl rfl rfl) rfl rfl (fun w h => parse4 w (hW.now zm2 h) (Nat.le_trans hng (h.fr _ zm2).size)) ?_))))))))
 rintro wa hwa v x4 ⟨cs4, rfl, hM, hx⟩
 refine ⟨_, _, (hwa.ext hx).base1, ?_⟩
 have hK4 : Kt (x4, inL _) w.heap.size pgM _ cs4 := Kt.new hM TL.pg hwa (hwa.fr _ zm2).size; clear hM hx hwa
 have hcl4 : cs4.length = 18 := hK4.len
 refine zm rfl (zg (fun _ => R_extract rfl rfl) (zg (fun _ => R_extract rfl rfl) (zA zr29 (fun p4b gp4b up4b => zA zr32 (fun f4b gf4b uf4b => w_storeW cs4 1 rfl z29 rfl rfl rfl hcl4 (pg_one hK4) rfl (zV 0 rfl z32 rfl rfl rfl rfl rfl rfl rfl (yC (zP (fun w => zR Tryz.func10 rfl rfl rfl) rfl rfl (fun w h => parse5 w (hW.now zm3 h) (Nat.le_trans hng (h.fr _ zm3).size)) ?_))))))))
 rintro wa hwa v x5 ⟨cs5, rfl, hM, hx⟩
 refine ⟨_, _, (hwa.ext hx).base1, ?_⟩
 have hK5 : Kt (x5, inL _) w.heap.size pgM _ cs5 := Kt.new hM TL.pg hwa (hwa.fr _ zm3).size; clear hM hx hwa
 have hcl5 : cs5.length = 18 := hK5.len
 refine zm rfl (zg (fun _ => R_extract rfl rfl) (zg (fun _ => R_extract rfl rfl) (zA zr29 (fun p5b gp5b up5b => zA zr32 (fun f5b gf5b uf5b => w_storeW cs5 1 rfl z29 rfl rfl rfl hcl5 (pg_one hK5) rfl (zV 0 rfl z32 rfl rfl rfl rfl rfl rfl rfl (yC (zP (fun w => zR Tryz.func13 rfl rfl rfl) rfl rfl (fun w h => expr6 w (hW.now zm4 h) (Nat.le_trans hng (h.fr _ zm4).size)) ?_))))))))
 rintro wa hwa v x6 ⟨cs6, rfl, hM, hx⟩
 refine ⟨_, _, (hwa.ext hx).base1, ?_⟩
 have hK6 : Kt (x6, inL _) w.heap.size exT _ cs6 := Kt.new hM TL.ext hwa (hwa.fr _ zm4).size; clear hM hx hwa
 refine zm rfl (zg (fun _ => R_extract rfl rfl) (zg (fun _ => R_extract rfl rfl) (zA zr39 (fun e6b ge6b ue6b => zA zr32 (fun f6b gf6b uf6b => zV 1 rfl z39 rfl rfl rfl rfl rfl rfl rfl (zV 0 rfl z32 rfl rfl rfl rfl rfl rfl rfl (yC (zY z39 rfl (fun _ h => h.at_ 1 rfl) rfl (zC (fun w => zR Tryz.func22 rfl rfl rfl) rfl rfl (fun w h => writeX (hK6.now TL.ext zm0 h) (hW.now (.tail _ zm4) h)) (zm rfl (zg (fun _ => R_extract rfl rfl) (zg (fun _ => R_extract rfl rfl) (za (v := str _) rfl (aI rfl (yC (zf fa32_0 rfl (zL 8 z30 rfl rfl rfl (zg (fun _ => R_eq rfl rfl) (mB rfl ?_)))))))))))))))))))
 refine zd (t := 48) rfl (fun h11 => ?_) (fun h11 => ?_)
 ·refine zw rfl rfl (bT h11) (mI rfl (zw rfl rfl (bT h11) (zg (fun _ => R_eq rfl rfl) (zg (v := .bool _) (fun _ => zT (bT h11) rfl) (mB rfl ?_))))); refine zd (t := 52) rfl (fun h12 => ?_) (fun h12 => ?_)
  ·refine zw rfl rfl (bT h12) (zm (v := str _) rfl (zw rfl rfl (bT h12) (zg (fun _ => R_seq rfl rfl) (zg (v := .bool _) (fun _ => zT (bT h12) rfl) (mB rfl ?_))))); refine zd (t := 56) rfl (fun h13 => ?_) (fun h13 => ?_)
   ·refine zw rfl rfl (bT h13) (zY z32 rfl (fun _ h => h.at_ 6 rfl) rfl (zw rfl rfl (bT h13) (zg (fun _ => R_build bt32 rfl) (zw rfl rfl (bT h13) (zg (fun _ => R_eqS fl32 rfl rfl (eq2_run (n := 9998) fl32 z30 z3 un30 un3)) (zg (v := .bool _) (fun _ => zT (bT h13) rfl) (mB rfl ?_))))))); refine zp (t := 61) rfl (fun h14 => ?_) (fun h14 => ?_)
    ·refine zw rfl rfl (bV h14) (zY z32 rfl (fun _ h => h.at_ 4 rfl) rfl (zw rfl rfl (bV h14) (zg (fun _ => R_build bt32 rfl) (zw rfl rfl (bV h14) (zg (fun _ => R_eqS fl32 rfl rfl (eq2_run (n := 9998) fl32 z30 z3 un30 un3)) (zg (v := .bool _) (fun _ => zT (bV h14) rfl) (mB rfl ?_))))))); refine zp (t := 66) rfl (fun h15 => ?_) (fun h15 => ?_)
     ·refine zw rfl rfl (bV h15) (zf fa32_0 rfl (zw rfl rfl (bV h15) (zL 2 z30 rfl rfl rfl (zw rfl rfl (bV h15) (zg (fun _ => R_eq rfl rfl) (zg (v := .bool _) (fun _ => zT (bV h15) rfl) (mB rfl ?_))))))); refine zd (t := 71) rfl (fun h16 => ?_) (fun h16 => ?_)
      ·refine zw rfl rfl (bT h16) (w_loadW z29 rfl (fun w h => h.at_ 3 rfl) hcl5 (zw rfl rfl (bT h16) (zg (fun _ => R_build bt29 rfl) (zw rfl rfl (bT h16) (zC (fun w => zR Tryz.func21 rfl rfl rfl) rfl rfl (fun w h => same0 (hK5.now TL.pg zm1 h)) (zg (v := .bool _) (fun _ => zT (bT h16) rfl) (mB rfl (zw rfl rfl rfl (zf fa32_0 rfl (zw rfl rfl rfl (zL 0 z30 rfl rfl rfl (zw rfl rfl rfl (zg (fun _ => R_eq rfl rfl) (zg (v := .bool _) (fun _ => zT rfl rfl) (mB rfl ?_))))))))))))))); refine zd (t := 81) rfl (fun h17 => ?_) (fun h17 => ?_)
       ·refine zw rfl rfl (bT h17) (mI rfl (zw rfl rfl (bT h17) (zg (fun _ => R_eq rfl rfl) (zg (v := .bool _) (fun _ => zT (bT h17) rfl) (mB rfl ?_))))); refine zd (t := 85) rfl (fun h18 => ?_) (fun h18 => ?_)
        ·refine zw rfl rfl (bT h18) (zm (v := str _) rfl (zw rfl rfl (bT h18) (zg (fun _ => R_seq rfl rfl) (zg (v := .bool _) (fun _ => zT (bT h18) rfl) (aB rfl (yB (ze (zo (v := .bool _) rfl rfl rfl ?_)))))))); exact fun w' hw => ⟨rfl, hw.fr _ (.tail _ zm4)⟩
        ·exact absurd (by rfl) h18
       ·exact absurd (by rfl) h17
      ·exact absurd (by rfl) h16
     ·exact absurd h15 (by decide)
    ·exact absurd h14 (by decide)
   ·exact absurd (by rfl) h13
  ·exact absurd (by rfl) h12
 ·exact absurd (by rfl) h11
end Go.Proofs.YtaniogadknakoaaGreatDoor
end

section
namespace Go.Tree
def tb (ts : List Str) : Nat := (ts.map fun s => s.length + 1).sum
theorem tb_nil : tb [] = 0 := rfl
theorem tb_cons (s : Str) (l : List Str) : tb (s :: l) = s.length + 1 + tb l := by simp [tb]
theorem tb_append (a b : List Str) : tb (a ++ b) = tb a + tb b := by simp [tb]
theorem tb_flatten : ∀ l : List (List Str), tb l.flatten = (l.map tb).sum
  | [] => rfl
  | x :: l => by rw [List.flatten_cons, tb_append, tb_flatten l, List.map_cons, List.sum_cons]
theorem tb_len : ∀ l : List Str, l.length ≤ tb l
  | [] => Nat.zero_le _
  | s :: l => by rw [tb_cons, List.length_cons]; have := tb_len l; omega
theorem endT_le (n k : Nat) (s : Str) : (endT n k s).length ≤ 1 := by unfold endT; split <;> (try split) <;> simp
theorem textTo_tb (xs : List Str) : ∀ k, k ≤ xs.length → (textTo xs k).length ≤ tb (xs.take k)
  | 0, _ => by rw [textTo_zero]; exact Nat.zero_le _
  | k + 1, h => by
    have hk : xs[k]? = some xs[k] := List.getElem?_eq_getElem (by omega)
    have ih := textTo_tb xs k (by omega)
    have he := endT_le xs.length k xs[k]
    rw [textTo_next hk, List.take_succ_eq_append_getElem (by omega), tb_append, tb_cons, tb_nil, List.length_append, List.length_append]
    omega
theorem textT_tb (xs : List Str) : (textT xs).length ≤ tb xs := by
  have := textTo_tb xs xs.length (Nat.le_refl _)
  rwa [List.take_length] at this
theorem rowT_tb : ∀ l : List (List Str), tb (rowT l) ≤ (l.map tb).sum + 2 * l.length
  | [] => Nat.zero_le _
  | t :: l => by
    have h : ∀ m : List (List Str), tb (m.flatMap (fun x => [44] :: x)) = (m.map tb).sum + 2 * m.length := by
      intro m
      induction m with
      | nil => rfl
      | cons x m ih => rw [List.flatMap_cons, tb_append, ih, tb_cons]; simp only [List.map_cons, List.sum_cons, List.length_cons, List.length_nil]; omega
    rw [rowT, tb_append, h]; simp only [List.map_cons, List.sum_cons, List.length_cons]; omega
theorem kidT_tb (op : Nat) (t : List Str) (n : Nat) : tb (kidT op t n) ≤ tb t + 4 := by
  unfold kidT; split
  · simp only [tb_append, tb_cons, tb_nil, List.length_cons, List.length_nil]; omega
  · omega
theorem getD_tb (l : List (List Str)) (i : Nat) : tb (l.getD i []) ≤ (l.map tb).sum := by
  induction l generalizing i with
  | nil => simp [tb_nil]
  | cons x l ih =>
    cases i with
    | zero => simp
    | succ i => have := ih i; simp only [List.getD_cons_succ, List.map_cons, List.sum_cons]; omega
theorem getD2_tb (l : List (List Str)) : tb (l.getD 0 []) + tb (l.getD 1 []) ≤ (l.map tb).sum := by
  cases l with
  | nil => simp [tb_nil]
  | cons x l =>
    have := getD_tb l 0
    simp only [List.getD_cons_zero, List.getD_cons_succ, List.map_cons, List.sum_cons]; omega
theorem signs_len (op : Nat) : (signs op).length ≤ 2 := by unfold signs; split <;> simp
theorem exTok_tb (op : Nat) (nm : Str) (ops : List Nat) (ts : List (List Str)) : tb (exTok op nm ops ts) ≤ nm.length + 11 + (ts.map tb).sum + 2 * ts.length := by
  have h1 := rowT_tb ts
  have h2 := getD2_tb ts
  unfold exTok
  split
  · simp only [tb_cons, tb_nil]; omega
  split
  · simp only [tb_append, tb_cons, tb_nil, List.length_cons, List.length_nil]; omega
  split
  · simp only [tb_append, tb_cons, tb_nil, List.length_cons, List.length_nil]; omega
  split
  · have := kidT_tb (ops.getD 0 0) (ts.getD 0 []) 3
    simp only [tb_append, tb_cons, tb_nil, List.length_cons, List.length_nil]; omega
  · have h3 := kidT_tb (ops.getD 0 0) (ts.getD 0 []) (low op)
    have h4 := kidT_tb (ops.getD 1 0) (ts.getD 1 []) (min (low op + 1) (low op * 9))
    have h5 := signs_len op
    simp only [tb_append, tb_cons, tb_nil]; omega
mutual
theorem exT_tb : ∀ x : Ex, tb (exT x) ≤ 16 * exW x
  | .mk op at_ nm ks => by
    have h := exTok_tb op nm (ks.map Ex.op) (exsT ks)
    have h2 := exsT_tb ks
    have h3 : (exsT ks).length = ks.length := by rw [exsT_map, List.length_map]
    rw [exT, exW]; omega
theorem exsT_tb : ∀ l : List Ex, ((exsT l).map tb).sum ≤ 16 * exsW l
  | [] => Nat.zero_le _
  | e :: l => by
    have h := exT_tb e
    have h2 := exsT_tb l
    rw [exsT, exsW, List.map_cons, List.sum_cons]; omega
end
theorem bodyT_tb (b : List (List Str)) : tb (bodyT b) = (b.map tb).sum + 4 := by
  unfold bodyT; simp only [tb_append, tb_cons, tb_nil, tb_flatten, List.length_cons, List.length_nil]; omega
theorem smTok_tb (op : Nat) (nm : Str) (ks b e : List (List Str)) : tb (smTok op nm ks b e) ≤ nm.length + 32 + (ks.map tb).sum * 2 + 2 * ks.length + (b.map tb).sum + (e.map tb).sum := by
  have h1 := rowT_tb (ks.drop 1)
  have hd : ((ks.drop 1).map tb).sum ≤ (ks.map tb).sum := by cases ks <;> simp
  have hl : (ks.drop 1).length ≤ ks.length := by rw [List.length_drop]; omega
  have h2 := getD2_tb ks
  have h3 := getD_tb ks (ks.length - 1)
  have hb := bodyT_tb b
  have he := bodyT_tb e
  unfold smTok
  split
  · simp only [tb_append, tb_cons, tb_nil, List.length_cons, List.length_nil]; split <;> simp only [tb_append, tb_cons, tb_nil, List.length_cons, List.length_nil] <;> omega
  split
  · simp only [tb_append, tb_cons, tb_nil, List.length_cons, List.length_nil]; omega
  split
  · simp only [tb_append, tb_cons, tb_nil, List.length_cons, List.length_nil]; omega
  split
  · simp only [tb_append, tb_cons, tb_nil, List.length_cons, List.length_nil]; omega
  split
  · simp only [tb_append, tb_cons, tb_nil, List.length_cons, List.length_nil]; split <;> simp only [tb_append, tb_cons, tb_nil, List.length_cons, List.length_nil] <;> omega
  · omega
mutual
theorem smT_tb : ∀ x : Sm, tb (smT x) ≤ 32 * smW x
  | .mk op at_ nm ks b e => by
    have h := smTok_tb op nm (exsT ks) (smsT b) (smsT e)
    have h2 := exsT_tb ks
    have h3 : (exsT ks).length = ks.length := by rw [exsT_map, List.length_map]
    have h4 := smsT_tb b
    have h5 := smsT_tb e
    rw [smT, smW]; omega
theorem smsT_tb : ∀ l : List Sm, ((smsT l).map tb).sum ≤ 32 * smsW l
  | [] => Nat.zero_le _
  | e :: l => by
    have h := smT_tb e
    have h2 := smsT_tb l
    rw [smsT, smsW, List.map_cons, List.sum_cons]; omega
end
theorem ldT_tb (pre : List Str) : ∀ l : List Ex, tb (ldT pre l) ≤ tb pre * l.length + 16 * exsW l
  | [] => Nat.zero_le _
  | x :: l => by
    have h := ldT_tb pre l
    have h2 := exT_tb x
    have h3 : ldT pre (x :: l) = pre ++ exT x ++ ldT pre l := by simp [ldT]
    rw [h3, exsW, List.length_cons, Nat.mul_add]; simp only [tb_append]; omega
theorem sizeT_tb (d : Dc) : tb (sizeT d) ≤ 4 + 2 * d.size.length + 16 * exsW d.size := by
  have h := rowT_tb (exsT d.size)
  have h2 := exsT_tb d.size
  have h3 : (exsT d.size).length = d.size.length := by rw [exsT_map, List.length_map]
  unfold sizeT; simp only [tb_append, tb_cons, tb_nil, List.length_cons, List.length_nil]; omega
theorem boundsT_tb (d : Dc) : tb (boundsT d) ≤ 6 + 8 * d.lower.length + 8 * d.upper.length + 16 * exsW d.lower + 16 * exsW d.upper := by
  have h := ldT_tb lowW d.lower
  have h2 := ldT_tb upW d.upper
  have h3 : tb lowW = 8 := by decide
  have h4 : tb upW = 8 := by decide
  rw [h3] at h; rw [h4] at h2
  unfold boundsT; split
  · exact Nat.zero_le _
  · simp only [tb_append, tb_cons, tb_nil, List.length_cons, List.length_nil]; split <;> simp only [tb_cons, tb_nil, List.length_cons, List.length_nil] <;> omega
theorem tyT_len (n : Nat) : (tyT n).length ≤ 6 := by unfold tyT; split <;> simp
theorem dcT_tb (d : Dc) : tb (dcT d) ≤ 32 * dcW d := by
  have h1 := sizeT_tb d
  have h2 := boundsT_tb d
  have h3 := ldT_tb [[61]] d.init
  have h5 : tb [[61]] = 2 := by decide
  rw [h5] at h3
  have h4 := tyT_len d.ty
  unfold dcT dcW; simp only [tb_append, tb_cons, tb_nil, List.length_cons, List.length_nil]
  split <;> split <;> simp only [tb_append, tb_cons, tb_nil, List.length_cons, List.length_nil] <;> omega
theorem dcsT_tb : ∀ l : List Dc, tb (dcsT l) ≤ 32 * dcsW l
  | [] => Nat.zero_le _
  | d :: l => by
    have h := dcsT_tb l
    have h2 := dcT_tb d
    have h3 : dcsT (d :: l) = dcT d ++ dcsT l := by simp [dcsT]
    rw [h3, tb_append, dcsW]; omega
theorem headW_tb (i : Nat) : tb (headW i) ≤ 28 := by unfold headW; split <;> decide
theorem bkT_tb (i : Nat) (b : Bk) : tb (bkT i b) ≤ 32 * bkW b := by
  have h1 := headW_tb i
  have h2 := dcsT_tb b.decls
  have h3 := smsT_tb b.stmts
  unfold bkT bkW; split
  · simp only [tb_append, tb_cons, tb_nil, tb_flatten, List.length_cons, List.length_nil]; omega
  · rw [tb_nil]; exact Nat.zero_le _
def pgW (p : List Bk) : Nat := (p.map bkW).sum
theorem pgTo_tb {p : List Bk} {m : Nat} (hm : ∀ b ∈ p, bkW b ≤ m) : ∀ i, tb (pgTo p i) ≤ i * (32 * m)
  | 0 => by rw [pgTo_zero, tb_nil]; exact Nat.zero_le _
  | i + 1 => by
    have ih := pgTo_tb hm i
    rw [Nat.succ_mul]
    cases hb : p[i]? with
    | some b =>
      have h := bkT_tb i b
      have h2 := hm b (List.mem_of_getElem? hb)
      rw [pgTo_next hb, tb_append]; omega
    | none =>
      have : pgTo p (i + 1) = pgTo p i := by unfold pgTo; rw [List.range_succ, List.flatMap_append]; simp [hb]
      rw [this]; omega
theorem pgT_tb {p : List Bk} {m : Nat} (hm : ∀ b ∈ p, bkW b ≤ m) : tb (pgT p) ≤ 6 * (32 * m) := pgTo_tb hm 6
theorem pgT_len {p : List Bk} (hm : ∀ b ∈ p, bkW b ≤ 1048576) : (pgT p).length ≤ 1000000000 ∧ (textT (pgT p)).length ≤ 1000000000 := by
  have h1 := pgT_tb hm
  have h2 := tb_len (pgT p)
  have h3 := textT_tb (pgT p)
  omega
def sp (s : Str) : Str := s ++ (if brk s then [10] else [32])
theorem textTo_sp (xs : List Str) : ∀ k, k ≤ xs.length → (k = xs.length → ∀ s, xs.getLast? = some s → brk s = true) → textTo xs k = (xs.take k).flatMap sp
  | 0, _, _ => by rw [textTo_zero]; simp
  | k + 1, h, hb => by
    have hk : xs[k]? = some xs[k] := List.getElem?_eq_getElem (by omega)
    rw [textTo_next hk, textTo_sp xs k (by omega) (fun h => by omega), List.take_succ_eq_append_getElem (by omega), List.flatMap_append]
    congr 1
    simp only [List.flatMap_cons, List.flatMap_nil, List.append_nil, sp, endT]
    by_cases hq : brk xs[k] = true
    · rw [if_pos hq, if_pos hq]
    · rw [if_neg hq, if_neg hq]
      by_cases hl : k + 1 < xs.length
      · rw [if_pos hl]
      · exfalso
        refine hq (hb (by omega) _ ?_)
        rw [List.getLast?_eq_getElem?, show xs.length - 1 = k by omega, hk]
theorem textT_sp {xs : List Str} (h : ∀ s, xs.getLast? = some s → brk s = true) : textT xs = xs.flatMap sp := by
  have := textTo_sp xs xs.length (Nat.le_refl _) (fun _ => h)
  rwa [List.take_length] at this
theorem bkT_last {i : Nat} {b : Bk} {s : Str} (h : (bkT i b).getLast? = some s) : brk s = true := by
  unfold bkT at h
  split at h
  · rw [List.getLast?_append] at h
    have : s = [125] := by simpa using h.symm
    subst this; decide
  · simp at h
theorem pgTo_last {p : List Bk} : ∀ i s, (pgTo p i).getLast? = some s → brk s = true
  | 0, s, h => by rw [pgTo_zero] at h; simp at h
  | i + 1, s, h => by
    cases hb : p[i]? with
    | some b =>
      rw [pgTo_next hb, List.getLast?_append] at h
      cases hl : (bkT i b).getLast? with
      | some t =>
        rw [hl] at h
        obtain rfl : t = s := by simpa using h
        exact bkT_last hl
      | none =>
        rw [hl] at h
        exact pgTo_last i s (by simpa using h)
    | none =>
      have : pgTo p (i + 1) = pgTo p i := by unfold pgTo; rw [List.range_succ, List.flatMap_append]; simp [hb]
      rw [this] at h
      exact pgTo_last i s h
theorem textT_pg (p : List Bk) : textT (pgT p) = (pgT p).flatMap sp := textT_sp (pgTo_last 6)
def setIs (p : List Bk) (i : Nat) (b : Bk) : List Bk := p.set i { b with is := true }
end Go.Tree
end
