/- Layer 15, KindLevels: a program that may be has nothing in it that hangs on parameters, where something is chosen, counted or sized. Part 14 of 15. -/
import Derived.Test.YtoehjlmdnajibaaGreatDoorL13
set_option maxRecDepth 100000
set_option maxHeartbeats 16000000
section
namespace Go.Proofs.YtoehjlmdnajibaaGreatDoor
open Go.RowKit Go.Sx
open Go.Tok Go.Tree


def RNodesP (n : Nat) : Prop := ∀ (l : List Ex) (a : Option Addr) (c : Nat) (N : Nat → Prop) (w : World), exsW l < n → l.length ≤ 10000000 → exsM w N l a 0 →
    Ret Tryz.prog 37 #[.slice a l.length c] w fun v w' => v = .int .i64 (exsN l : Nat) ∧ Ext w w'
def RLongP (n : Nat) : Prop := ∀ (l : List Ex) (a : Option Addr) (c : Nat) (N : Nat → Prop) (w : World), exsW l < n → l.length ≤ 10000000 → exsM w N l a 0 →
    Ret Tryz.prog 29 #[.slice a l.length c] w fun v w' => v = .bool (exsLong l) ∧ Ext w w'

theorem rnodes_step (n : Nat) (ih : RNodesP n) (hN : n ≤ 10000000) (l : List Ex) (a : Option Addr) (c : Nat) (N : Nat → Prop) (w : World) (hl : exsW l < n + 1) (hll : l.length ≤ 10000000) (hm : exsM w N l a 0) :
    Ret Tryz.prog 37 #[.slice a l.length c] w (fun v w' => v = .int .i64 (exsN l : Nat) ∧ Ext w w') := by
  refine enter (S := No) (l := [_]) (L := []) 21 Tryz.func37 rfl rfl rfl (St.start w No) (yA (aI rfl (yC (aI rfl (yB (zq (yA (aI rfl (yB (zB (c_loop (fun m e B L => ∃ (k : Nat), e 0 = .slice a l.length c ∧ e 3 = .int .i64 (exsN (l.take k) : Nat) ∧ e 4 = .int .i64 (k : Nat) ∧ B = [(w, No)] ∧ L = [] ∧ k ≤ l.length ∧ m = l.length - k) _ ⟨0, rfl, rfl, rfl, rfl, rfl, Nat.zero_le _, rfl⟩ ?_)))))))))))
  rintro m e B L ⟨k, e0_1, e3_1, e4_1, rfl, rfl, hk, rfl⟩
  refine zq (yA (mI e4_1 (mS e0_1 (zg (fun _ => R_len sl47 rfl) (zg (fun _ => R_lt rfl rfl) (yB ?_)))))); refine zD rfl (fun h1 => ?_) (fun h1 => ?_)
  · have hlt : k < l.length := (by omega); obtain ⟨x, hxk⟩ : ∃ x, l[k]? = some x := ⟨_, List.getElem?_eq_getElem hlt⟩; obtain ⟨cs, hA, hE⟩ := hm.get0 hxk; have hxn := exsW_mem (List.mem_of_getElem? hxk); have hle := exsN_take l (k + 1); have hnx := exsN_next hxk; have hlN := exsN_le l; obtain ⟨b1, o1, rfl⟩ := hA.ptr; obtain ⟨op, at_, nm, ks⟩ := x; have hE2 := hE; unfold exM at hE2; obtain ⟨ka, kc, rfl, hkc, hks⟩ := hE2; have hxw := hxn; unfold exW at hxw; have hxN := hnx; unfold exN at hxN; have hkN := exsN_le ks
    refine zi (zk (zq (zB (zr (mI e3_1 (zg (fun _ => R_addi rfl rfl (by omega)) (mS e0_1 (mI e4_1 (zg (fun _ => R_iaN (i := k) sl47 rfl rfl (by omega)) (zf fa52_3 rfl (zl z47 rfl (fun _ h => hA.cell (fun _ _ hh => hh) zm0 h 3 _ rfl) (zC (fun w => zR Tryz.func37 rfl rfl rfl) rfl rfl (fun w h => ih ks ka kc N w (by omega) (by omega) (hks.now (fun _ _ hh => hh) zm0 h)) (zg (fun _ => R_addi rfl rfl (by omega)) (aI rfl (zn (zO (zk (zr (mI e4_1 (zg (fun _ => R_addi rfl rfl (by omega)) (aI rfl (zn ?_))))))))))))))))))))))
    have hfin : ((exsN (l.take k) : Nat) : Int) + 1 + ((exsN ks : Nat) : Int) = ((exsN (l.take (k + 1)) : Nat) : Int) := by omega
    exact k_again _ (by omega) ⟨k + 1, e0_1, (congrArg (Value.int .i64) hfin), rfl, rfl, rfl, by omega, rfl⟩
  · refine zX (zx (zx (b_here rfl (zk (yA (mI e3_1 (aI rfl (yB (ze (zo (v := .int _ _) rfl rfl rfl ?_)))))))))); exact fun w' hw => ⟨by rw [List.take_of_length_le (by omega)], hw.fr _ zm0⟩


theorem rnodes_all : ∀ n : Nat, n ≤ 10000000 → RNodesP n
  | 0, _ => fun _ _ _ _ _ h => absurd h (Nat.not_lt_zero _)
  | n + 1, h => rnodes_step n (rnodes_all n (by omega)) (by omega)
theorem rnodes_ok : RNodesP 10000000 := rnodes_all _ (Nat.le_refl _)

theorem rlong_step (n : Nat) (ih : RLongP n) (hN : n ≤ 10000000) (l : List Ex) (a : Option Addr) (c : Nat) (N : Nat → Prop) (w : World) (hl : exsW l < n + 1) (hll : l.length ≤ 10000000) (hm : exsM w N l a 0) :
    Ret Tryz.prog 29 #[.slice a l.length c] w (fun v w' => v = .bool (exsLong l) ∧ Ext w w') := by
  refine enter (S := No) (l := [_]) (L := []) 25 Tryz.func29 rfl rfl rfl (St.start w No) (yA (aB rfl (yB (zq (yA (aI rfl (yB (zB (c_loop (fun m e B L => ∃ (k : Nat), e 0 = .slice a l.length c ∧ e 3 = .int .i64 (k : Nat) ∧ B = [(w, No)] ∧ L = [] ∧ k ≤ l.length ∧ (∀ y ∈ l.take k, exLong y = false) ∧ m = l.length - k) _ ⟨0, rfl, rfl, rfl, rfl, Nat.zero_le _, (by simp), rfl⟩ ?_)))))))))
  rintro m e B L ⟨k, e0_1, e3_1, rfl, rfl, hk, hy, rfl⟩
  refine zq (yA (mI e3_1 (mS e0_1 (zg (fun _ => R_len sl47 rfl) (zg (fun _ => R_lt rfl rfl) (yB ?_)))))); refine zD rfl (fun h1 => ?_) (fun h1 => ?_)
  · have hlt : k < l.length := (by omega); obtain ⟨x, hxk⟩ : ∃ x, l[k]? = some x := ⟨_, List.getElem?_eq_getElem hlt⟩; obtain ⟨cs, hA, hE⟩ := hm.get0 hxk; have hxn := exsW_mem (List.mem_of_getElem? hxk); have hle := exsN_take l (k + 1); have hnx := exsN_next hxk; have hlN := exsN_le l; obtain ⟨b1, o1, rfl⟩ := hA.ptr; obtain ⟨op, at_, nm, ks⟩ := x; have hE2 := hE; unfold exM at hE2; obtain ⟨ka, kc, rfl, hkc, hks⟩ := hE2; have hxw := hxn; unfold exW at hxw; have hxN := hnx; unfold exN at hxN; have hkN := exsN_le ks
    refine zi (zk (zq (zB (yA (mS e0_1 (mI e3_1 (zg (fun _ => R_iaN (i := k) sl47 rfl rfl (by omega)) (zf fa52_2 rfl ?_)))))))); refine zl z9 rfl (fun _ h => by exact hA.cell (fun _ _ hh => hh) zm0 h 2 _ rfl) ?_; refine zg (fun _ => R_slen st9 rfl (by omega)) (zg (fun _ => R_gt rfl rfl) (mB rfl ?_)); refine zd (t := 17) rfl (fun h2 => ?_) (fun h2 => ?_)
    · refine zs rfl rfl (bT h2) (zs rfl rfl (bT h2) (zs rfl rfl (bT h2) (zs rfl rfl (bT h2) (zs rfl rfl (bT h2) (zs rfl rfl (bT h2) (zg (v := .bool _) (fun _ => zT (bT h2) rfl) (yB (zE rfl (yA (aB rfl (yB (ze (zb (zt (zt (zb (zt ((zo (v := .bool _) rfl rfl rfl ?_))))))))))))))))))); exact fun w' hw => ⟨by rw [exsLong_any]; (rw [any_yes hxk (by (try clear ih hm hA hE hks hw hl hxn hle hnx hxN hxw hy hlN hkN e0_1 e3_1); simp only [exLong]; grind)]; done), hw.fr _ zm0⟩
    · refine zw rfl rfl (bF h2) (mS e0_1 (zw rfl rfl (bF h2) (mI e3_1 (zw rfl rfl (bF h2) (zg (fun _ => R_iaN (i := k) sl47 rfl rfl (by omega)) (zw rfl rfl (bF h2) (zf fa52_3 rfl (zw rfl rfl (bF h2) ?_)))))))); refine zl z47 rfl (fun _ h => by exact hA.cell (fun _ _ hh => hh) zm0 h 3 _ rfl) ?_; refine zw rfl rfl (bF h2) (zC (fun w => zR Tryz.func29 rfl rfl rfl) rfl rfl (fun w h => ih ks ka kc N w (by omega) (by omega) (hks.now (fun _ _ hh => hh) zm0 h)) (zg (v := .bool _) (fun _ => zF (bF h2) rfl) (yB ?_))); refine c_cond rfl (fun h3 => ?_) (fun h3 => ?_)
      · refine yA (aB rfl (yB (ze (zb (zt (zt (zb (zt ((zo (v := .bool _) rfl rfl rfl ?_)))))))))); exact fun w' hw => ⟨by rw [exsLong_any]; (rw [any_yes hxk (by (try clear ih hm hA hE hks hw hl hxn hle hnx hxN hxw hy hlN hkN e0_1 e3_1); simp only [exLong]; grind)]; done), hw.fr _ zm0⟩
      · refine zi (zO (zk (zr (mI e3_1 (zg (fun _ => R_addi rfl rfl (by omega)) (aI rfl (zn ?_))))))); exact k_again _ (by omega) ⟨k + 1, e0_1, rfl, rfl, rfl, by omega, take_all hy hxk (by (try clear ih hm hA hE hks hl hxn hle hnx hxN hxw hy hlN hkN e0_1 e3_1); simp only [exLong]; grind), rfl⟩
  · refine zX (zx (zx (b_here rfl (zk (yA (aB rfl (yB (ze (zo (v := .bool _) rfl rfl rfl ?_))))))))); exact fun w' hw => ⟨by rw [exsLong_any]; (rw [any_of_take hy (by omega)]; done), hw.fr _ zm0⟩


theorem rlong_all : ∀ n : Nat, n ≤ 10000000 → RLongP n
  | 0, _ => fun _ _ _ _ _ h => absurd h (Nat.not_lt_zero _)
  | n + 1, h => rlong_step n (rlong_all n (by omega)) (by omega)
theorem rlong_ok : RLongP 10000000 := rlong_all _ (Nat.le_refl _)
def RNodesOfP (n : Nat) : Prop := ∀ (l : List Sm) (a : Option Addr) (c : Nat) (N : Nat → Prop) (w : World), smsW l < n → l.length ≤ 10000000 → smsM w N l a 0 →
    Ret Tryz.prog 45 #[.slice a l.length c] w fun v w' => v = .int .i64 (smsN l : Nat) ∧ Ext w w'
def RLongOfP (n : Nat) : Prop := ∀ (l : List Sm) (a : Option Addr) (c : Nat) (N : Nat → Prop) (w : World), smsW l < n → l.length ≤ 10000000 → smsM w N l a 0 →
    Ret Tryz.prog 28 #[.slice a l.length c] w fun v w' => v = .bool (smsLong l) ∧ Ext w w'

theorem rnodesOf_step (n : Nat) (ih : RNodesOfP n) (hN : n ≤ 10000000) (l : List Sm) (a : Option Addr) (c : Nat) (N : Nat → Prop) (w : World) (hl : smsW l < n + 1) (hll : l.length ≤ 10000000) (hm : smsM w N l a 0) :
    Ret Tryz.prog 45 #[.slice a l.length c] w (fun v w' => v = .int .i64 (smsN l : Nat) ∧ Ext w w') := by
  refine enter (S := No) (l := [_]) (L := []) 35 Tryz.func45 rfl rfl rfl (St.start w No) (yA (aI rfl (yC (aI rfl (yB (zq (yA (aI rfl (yB (zB (c_loop (fun m e B L => ∃ (k : Nat), e 0 = .slice a l.length c ∧ e 3 = .int .i64 (smsN (l.take k) : Nat) ∧ e 4 = .int .i64 (k : Nat) ∧ B = [(w, No)] ∧ L = [] ∧ k ≤ l.length ∧ m = l.length - k) _ ⟨0, rfl, rfl, rfl, rfl, rfl, Nat.zero_le _, rfl⟩ ?_)))))))))))
  rintro m e B L ⟨k, e0_1, e3_1, e4_1, rfl, rfl, hk, rfl⟩
  refine zq (yA (mI e4_1 (mS e0_1 (zg (fun _ => R_len sl27 rfl) (zg (fun _ => R_lt rfl rfl) (yB ?_)))))); refine zD rfl (fun h1 => ?_) (fun h1 => ?_)
  · have hlt : k < l.length := (by omega); obtain ⟨x, hxk⟩ : ∃ x, l[k]? = some x := ⟨_, List.getElem?_eq_getElem hlt⟩; obtain ⟨cs, hA, hE⟩ := hm.get0 hxk; have hxn := smsW_mem (List.mem_of_getElem? hxk); have hle := smsN_take l (k + 1); have hnx := smsN_next hxk; have hlN := smsN_le l; obtain ⟨b1, o1, rfl⟩ := hA.ptr; obtain ⟨op, at_, nm, ks, bo, el⟩ := x; have hE2 := hE; unfold smM at hE2; obtain ⟨ka, kc, ba, bc, ea, ec, rfl, hkc, hks, hbo, hel⟩ := hE2; have hxw := hxn; unfold smW at hxw; have hxN := hnx; unfold smN at hxN; have hkN := exsN_le ks
    refine zi (zk (zq (zB (c_held (St [(w, No)] []) mixed (zh2 0 rfl rfl (fun w h => h) (fun w h => R_move e3_1) (zh2 1 rfl rfl (fun w h => h) (fun w h => R_addi rfl rfl (by omega)) (zh2 2 rfl rfl (fun w h => h) (fun w h => R_move e0_1) (zh2 3 rfl rfl (fun w h => h) (fun w h => R_move e4_1) (zh2 4 rfl rfl (fun w h => h) (fun w h => R_iaN (i := k) sl27 rfl rfl (by omega)) (zh2 5 rfl rfl (fun w h => h) (fun w h => R_fa fa79_3 rfl) ?_)))))))))); refine zh2 6 rfl rfl (fun w h => h) (fun w h => R_ld1 z47 rfl (by exact hA.cell (fun _ _ hh => hh) zm0 h 3 _ rfl)) ?_
    refine zh2 9 rfl rfl (fun w h => h) (fun w h => R_move e0_1) (zh2 10 rfl rfl (fun w h => h) (fun w h => R_move e4_1) (zh2 11 rfl rfl (fun w h => h) (fun w h => R_iaN (i := k) sl27 rfl rfl (by omega)) (zh2 12 rfl rfl (fun w h => h) (fun w h => R_fa fa79_4 rfl) ?_))); refine zh2 13 rfl rfl (fun w h => h) (fun w h => R_ld1 z27 rfl (by exact hA.cell (fun _ _ hh => hh) zm0 h 4 _ rfl)) ?_; refine zh2 16 rfl rfl (fun w h => h) (fun w h => R_move e0_1) (zh2 17 rfl rfl (fun w h => h) (fun w h => R_move e4_1) (zh2 18 rfl rfl (fun w h => h) (fun w h => R_iaN (i := k) sl27 rfl rfl (by omega)) ?_))
    refine zh2 19 rfl rfl (fun w h => h) (fun w h => R_fa fa79_5 rfl) ?_; refine zh2 20 rfl rfl (fun w h => h) (fun w h => R_ld1 z27 rfl (by exact hA.cell (fun _ _ hh => hh) zm0 h 5 _ rfl)) ?_; refine h_pure 7 rfl (by kernel_rfl) rfl rfl (fun w h => h) (fun w => zR Tryz.func37 rfl rfl rfl) (fun w h => rnodes_ok ks ka kc N w (by omega) (by omega) (hks.now (fun _ _ hh => hh) zm0 h)) (zh2 8 rfl rfl (fun w h => h) (fun w h => R_addi rfl rfl (by omega)) (h_pure 14 rfl (by kernel_rfl) rfl rfl (fun w h => h) (fun w => zR Tryz.func45 rfl rfl rfl) (fun w h => ih bo ba bc N w (by omega) (by omega) (hbo.now (fun _ _ hh => hh) zm0 h)) (zh2 15 rfl rfl (fun w h => h) (fun w h => R_addi rfl rfl (by omega)) ?_)))
    refine h_pure 21 rfl (by kernel_rfl) rfl rfl (fun w h => h) (fun w => zR Tryz.func45 rfl rfl rfl) (fun w h => ih el ea ec N w (by omega) (by omega) (hel.now (fun _ _ hh => hh) zm0 h)) (zh2 22 rfl rfl (fun w h => h) (fun w h => R_addi rfl rfl (by omega)) (zh2 23 rfl rfl (fun w h => h) (fun w h => R_assign rfl) (zN2 (fun w h => h) (zO (zk (zr (mI e4_1 (zg (fun _ => R_addi rfl rfl (by omega)) (aI rfl (zn ?_))))))))))
    have hfin : ((smsN (l.take k) : Nat) : Int) + 1 + ((exsN ks : Nat) : Int) + ((smsN bo : Nat) : Int) + ((smsN el : Nat) : Int) = ((smsN (l.take (k + 1)) : Nat) : Int) := by omega
    exact k_again _ (by omega) ⟨k + 1, e0_1, (congrArg (Value.int .i64) hfin), rfl, rfl, rfl, by omega, rfl⟩
  · refine zX (zx (zx (b_here rfl (zk (yA (mI e3_1 (aI rfl (yB (ze (zo (v := .int _ _) rfl rfl rfl ?_)))))))))); exact fun w' hw => ⟨by rw [List.take_of_length_le (by omega)], hw.fr _ zm0⟩


theorem rnodesOf_all : ∀ n : Nat, n ≤ 10000000 → RNodesOfP n
  | 0, _ => fun _ _ _ _ _ h => absurd h (Nat.not_lt_zero _)
  | n + 1, h => rnodesOf_step n (rnodesOf_all n (by omega)) (by omega)
theorem rnodesOf_ok : RNodesOfP 10000000 := rnodesOf_all _ (Nat.le_refl _)

theorem rlongOf_step (n : Nat) (ih : RLongOfP n) (hN : n ≤ 10000000) (l : List Sm) (a : Option Addr) (c : Nat) (N : Nat → Prop) (w : World) (hl : smsW l < n + 1) (hll : l.length ≤ 10000000) (hm : smsM w N l a 0) :
    Ret Tryz.prog 28 #[.slice a l.length c] w (fun v w' => v = .bool (smsLong l) ∧ Ext w w') := by
  refine enter (S := No) (l := [_]) (L := []) 41 Tryz.func28 rfl rfl rfl (St.start w No) (yA (aB rfl (yB (zq (yA (aI rfl (yB (zB (c_loop (fun m e B L => ∃ (k : Nat), e 0 = .slice a l.length c ∧ e 3 = .int .i64 (k : Nat) ∧ B = [(w, No)] ∧ L = [] ∧ k ≤ l.length ∧ (∀ y ∈ l.take k, smLong y = false) ∧ m = l.length - k) _ ⟨0, rfl, rfl, rfl, rfl, Nat.zero_le _, (by simp), rfl⟩ ?_)))))))))
  rintro m e B L ⟨k, e0_1, e3_1, rfl, rfl, hk, hy, rfl⟩
  refine zq (yA (mI e3_1 (mS e0_1 (zg (fun _ => R_len sl27 rfl) (zg (fun _ => R_lt rfl rfl) (yB ?_)))))); refine zD rfl (fun h1 => ?_) (fun h1 => ?_)
  · have hlt : k < l.length := (by omega); obtain ⟨x, hxk⟩ : ∃ x, l[k]? = some x := ⟨_, List.getElem?_eq_getElem hlt⟩; obtain ⟨cs, hA, hE⟩ := hm.get0 hxk; have hxn := smsW_mem (List.mem_of_getElem? hxk); have hle := smsN_take l (k + 1); have hnx := smsN_next hxk; have hlN := smsN_le l; obtain ⟨b1, o1, rfl⟩ := hA.ptr; obtain ⟨op, at_, nm, ks, bo, el⟩ := x; have hE2 := hE; unfold smM at hE2; obtain ⟨ka, kc, ba, bc, ea, ec, rfl, hkc, hks, hbo, hel⟩ := hE2; have hxw := hxn; unfold smW at hxw; have hxN := hnx; unfold smN at hxN; have hkN := exsN_le ks
    refine zi (zk (zq (zB (yA (mS e0_1 (mI e3_1 (zg (fun _ => R_iaN (i := k) sl27 rfl rfl (by omega)) (zf fa79_2 rfl ?_)))))))); refine zl z9 rfl (fun _ h => by exact hA.cell (fun _ _ hh => hh) zm0 h 2 _ rfl) ?_; refine zg (fun _ => R_slen st9 rfl (by omega)) (zg (fun _ => R_gt rfl rfl) (mB rfl ?_)); refine zd (t := 17) rfl (fun h2 => ?_) (fun h2 => ?_)
    · refine zs rfl rfl (bT h2) (zs rfl rfl (bT h2) (zs rfl rfl (bT h2) (zs rfl rfl (bT h2) (zs rfl rfl (bT h2) (zs rfl rfl (bT h2) (zg (v := .bool _) (fun _ => zT (bT h2) rfl) (mB rfl ?_))))))); (iterate 6 refine zs rfl rfl rfl ?_); refine zg (v := .bool _) (fun _ => zT rfl rfl) (mB rfl ?_); (iterate 4 refine zs rfl rfl rfl ?_); refine zs rfl rfl rfl ?_
      refine zs rfl rfl rfl (zg (v := .bool _) (fun _ => zT rfl rfl) (yB (zE rfl (yA (aB rfl (yB (ze (zb (zt (zt (zb (zt ((zo (v := .bool _) rfl rfl rfl ?_)))))))))))))); exact fun w' hw => ⟨by rw [smsLong_any]; (rw [any_yes hxk (by (try clear ih hm hA hE hks hbo hel hw hl hxn hle hnx hxN hxw hy hlN hkN e0_1 e3_1); simp only [smLong]; grind)]; done), hw.fr _ zm0⟩
    · refine zw rfl rfl (bF h2) (mS e0_1 (zw rfl rfl (bF h2) (mI e3_1 (zw rfl rfl (bF h2) (zg (fun _ => R_iaN (i := k) sl27 rfl rfl (by omega)) (zw rfl rfl (bF h2) (zf fa79_3 rfl (zw rfl rfl (bF h2) ?_)))))))); refine zl z47 rfl (fun _ h => by exact hA.cell (fun _ _ hh => hh) zm0 h 3 _ rfl) ?_; refine zw rfl rfl (bF h2) (zC (fun w => zR Tryz.func29 rfl rfl rfl) rfl rfl (fun w h => rlong_ok ks ka kc N w (by omega) (by omega) (hks.now (fun _ _ hh => hh) zm0 h)) (zg (v := .bool _) (fun _ => zF (bF h2) rfl) (mB rfl ?_))); refine zp (t := 25) rfl (fun h3 => ?_) (fun h3 => ?_)
      · refine zs rfl rfl (bV h3) (zs rfl rfl (bV h3) (zs rfl rfl (bV h3) (zs rfl rfl (bV h3) (zs rfl rfl (bV h3) (zs rfl rfl (bV h3) (zg (v := .bool _) (fun _ => zT (bV h3) rfl) (mB rfl ?_))))))); (iterate 6 refine zs rfl rfl rfl ?_); refine zg (v := .bool _) (fun _ => zT rfl rfl) (yB (zE rfl (yA (aB rfl (yB (ze (zb (zt (zt (zb (zt (?_))))))))))))
        refine zo (v := .bool _) rfl rfl rfl ?_; exact fun w' hw => ⟨by rw [smsLong_any]; (rw [any_yes hxk (by (try clear ih hm hA hE hks hbo hel hw hl hxn hle hnx hxN hxw hy hlN hkN e0_1 e3_1); simp only [smLong]; grind)]; done), hw.fr _ zm0⟩
      · refine zw rfl rfl (bV h3) (mS e0_1 (zw rfl rfl (bV h3) (mI e3_1 (zw rfl rfl (bV h3) (zg (fun _ => R_iaN (i := k) sl27 rfl rfl (by omega)) (zw rfl rfl (bV h3) (zf fa79_4 rfl (zw rfl rfl (bV h3) ?_)))))))); refine zl z27 rfl (fun _ h => by exact hA.cell (fun _ _ hh => hh) zm0 h 4 _ rfl) ?_; refine zw rfl rfl (bV h3) (zC (fun w => zR Tryz.func28 rfl rfl rfl) rfl rfl (fun w h => ih bo ba bc N w (by omega) (by omega) (hbo.now (fun _ _ hh => hh) zm0 h)) (zg (v := .bool _) (fun _ => zF (bV h3) rfl) (mB rfl ?_))); refine zp (t := 33) rfl (fun h4 => ?_) (fun h4 => ?_)
        · refine zs rfl rfl (bV h4) (zs rfl rfl (bV h4) (zs rfl rfl (bV h4) (zs rfl rfl (bV h4) (zs rfl rfl (bV h4) (zs rfl rfl (bV h4) (zg (v := .bool _) (fun _ => zT (bV h4) rfl) (yB (zE rfl (yA (aB rfl (yB (ze (zb (zt (zt (zb (zt ((zo (v := .bool _) rfl rfl rfl ?_))))))))))))))))))); exact fun w' hw => ⟨by rw [smsLong_any]; (rw [any_yes hxk (by (try clear ih hm hA hE hks hbo hel hw hl hxn hle hnx hxN hxw hy hlN hkN e0_1 e3_1); simp only [smLong]; grind)]; done), hw.fr _ zm0⟩
        · refine zw rfl rfl (bV h4) (mS e0_1 (zw rfl rfl (bV h4) (mI e3_1 (zw rfl rfl (bV h4) (zg (fun _ => R_iaN (i := k) sl27 rfl rfl (by omega)) (zw rfl rfl (bV h4) (zf fa79_5 rfl (zw rfl rfl (bV h4) ?_)))))))); refine zl z27 rfl (fun _ h => by exact hA.cell (fun _ _ hh => hh) zm0 h 5 _ rfl) ?_; refine zw rfl rfl (bV h4) (zC (fun w => zR Tryz.func28 rfl rfl rfl) rfl rfl (fun w h => ih el ea ec N w (by omega) (by omega) (hel.now (fun _ _ hh => hh) zm0 h)) (zg (v := .bool _) (fun _ => zF (bV h4) rfl) (yB ?_))); refine c_cond rfl (fun h5 => ?_) (fun h5 => ?_)
          · refine yA (aB rfl (yB (ze (zb (zt (zt (zb (zt ((zo (v := .bool _) rfl rfl rfl ?_)))))))))); exact fun w' hw => ⟨by rw [smsLong_any]; (rw [any_yes hxk (by (try clear ih hm hA hE hks hbo hel hw hl hxn hle hnx hxN hxw hy hlN hkN e0_1 e3_1); simp only [smLong]; grind)]; done), hw.fr _ zm0⟩
          · refine zi (zO (zk (zr (mI e3_1 (zg (fun _ => R_addi rfl rfl (by omega)) (aI rfl (zn ?_))))))); exact k_again _ (by omega) ⟨k + 1, e0_1, rfl, rfl, rfl, by omega, take_all hy hxk (by (try clear ih hm hA hE hks hbo hel hl hxn hle hnx hxN hxw hy hlN hkN e0_1 e3_1); simp only [smLong]; grind), rfl⟩
  · refine zX (zx (zx (b_here rfl (zk (yA (aB rfl (yB (ze (zo (v := .bool _) rfl rfl rfl ?_))))))))); exact fun w' hw => ⟨by rw [smsLong_any]; (rw [any_of_take hy (by omega)]; done), hw.fr _ zm0⟩


theorem rlongOf_all : ∀ n : Nat, n ≤ 10000000 → RLongOfP n
  | 0, _ => fun _ _ _ _ _ h => absurd h (Nat.not_lt_zero _)
  | n + 1, h => rlongOf_step n (rlongOf_all n (by omega)) (by omega)
theorem rlongOf_ok : RLongOfP 10000000 := rlongOf_all _ (Nat.le_refl _)
end Go.Proofs.YtoehjlmdnajibaaGreatDoor
end

section
namespace Go.Proofs.YtoehjlmdnajibaaGreatDoor
open Go.RowKit Go.Sx
open Go.Tok Go.Tree
mutual
theorem exM.any {w : World} {N : Nat → Prop} : ∀ (e : Ex) (cs : List Value), exM w N e cs → exM w (fun _ => True) e cs
  | .mk op at_ nm ks, cs, h => by
    unfold exM at h ⊢
    obtain ⟨a, c, h1, h2, h3⟩ := h
    exact ⟨a, c, h1, h2, exsM.any ks a 0 h3⟩
theorem exsM.any {w : World} {N : Nat → Prop} : ∀ (l : List Ex) (a : Option Addr) (i : Nat), exsM w N l a i → exsM w (fun _ => True) l a i
  | [], _, _, _ => by unfold exsM; trivial
  | e :: l, a, i, h => by
    unfold exsM at h ⊢
    obtain ⟨⟨cs, ⟨b, o, ha, hb, hc⟩, h2⟩, h3⟩ := h
    exact ⟨⟨cs, ⟨b, o, ha, trivial, hc⟩, exM.any e cs h2⟩, exsM.any l a (i + 4) h3⟩
end

theorem rNodes_spec (pg : List Bk) (cs : List Value) (N : Nat → Prop) (w : World) (hp : ∀ b ∈ pg, bkW b < 10000000) (hm : pgM w N pg cs) :
    Ret Tryz.prog 27 #[.agg cs.toArray] w (fun v w' => v = .int .i64 (pgN pg : Nat) ∧ Ext w w') := by
  refine enter (S := No) (l := [_]) (L := []) 52 Tryz.func27 rfl rfl rfl (St.start w No) (yA (w_boxA rfl (fun t1b gt1b ut1b => aI rfl (yC (aI rfl (yB (zq (yA (aI rfl (yB (zB (c_loop (fun m e B L => ∃ (i : Nat), e 1 = .pointer (some ⟨t1b, 0, none⟩) ∧ e 3 = .int .i64 (pgNTo pg i : Nat) ∧ e 4 = .int .i64 (i : Nat) ∧ B = [(w, No)] ∧ L = [(t1b, cel cs 32)] ∧ i ≤ 6 ∧ pgNTo pg i ≤ i * 10000000 ∧ m = 6 - i) _ ⟨0, rfl, rfl, rfl, rfl, rfl, Nat.zero_le _, Nat.zero_le _, rfl⟩ ?_))))))))))))
  rintro m e B L ⟨i, e1_1, e3_1, e4_1, rfl, rfl, hi, hN, rfl⟩
  refine zq (yA (mI e4_1 (zg (fun _ => R_lt rfl rfl) (yB ?_)))); refine zD rfl (fun h2 => ?_) (fun h2 => ?_)
  · have hi6 : i < 6 := (by omega); obtain ⟨b, hb⟩ : ∃ b, pg[i]? = some b := ⟨_, List.getElem?_eq_getElem (by rw [hm.six]; exact hi6)⟩; have hbw := hp b (List.mem_of_getElem? hb); unfold bkW at hbw; obtain ⟨da, dc, sa, sc, hcb, hds, hss⟩ := hm.one i b hb; have hnb := pgNTo_next hb; have hNb := bkN_le b; unfold bkN at hnb hNb; have hsN := smsN_le b.stmts; have hdN := dcsN_le b.decls
    refine zi (zk (zq (zB (yA (mI e4_1 (zf fa32_0 e1_1 (zg (fun _ => R_iaA (i := i) ara30 (by decide) rfl rfl (by omega)) (w_loadC (l := [.bool b.is, .slice da b.decls.length dc, .slice sa b.stmts.length sc]) z29 rfl rfl (fun w h j v hj => zc 0 rfl (sub_get hcb hj) h) (zA zr29 (fun t5b gt5b ut5b => zV 0 rfl z29 rfl rfl rfl rfl rfl rfl rfl (yC (mI e3_1 (zf fa29_2 rfl (zL 0 z27 rfl rfl rfl (zC (fun w => zR Tryz.func45 rfl rfl rfl) rfl rfl (fun w h => rnodesOf_ok b.stmts sa sc N w (by omega) (by omega) (hss.now (fun _ _ hh => hh) zm0 h)) (zg (fun _ => R_addi rfl rfl (by omega)) (aI rfl (yC (aI rfl (yB (zB (c_loop (fun m e B L => ∃ (k : Nat), e 1 = .pointer (some ⟨t1b, 0, none⟩) ∧ e 3 = .int .i64 (pgNTo pg i + smsN b.stmts + dcsN (b.decls.take k) : Nat) ∧ e 4 = .int .i64 (i : Nat) ∧ e 5 = .pointer (some ⟨t5b, 0, none⟩) ∧ e 6 = .int .i64 (k : Nat) ∧ B = [(w, No)] ∧ L = [(t5b, cel [.bool b.is, .slice da b.decls.length dc, .slice sa b.stmts.length sc] 29), (t1b, cel cs 32)] ∧ k ≤ b.decls.length ∧ m = b.decls.length - k) _ ⟨0, e1_1, rfl, e4_1, rfl, rfl, rfl, rfl, Nat.zero_le _, rfl⟩ ?_))))))))))))))))))))))
    rintro m e B L ⟨k, e1_2, e3_2, e4_2, e5_2, e6_2, rfl, rfl, hk, rfl⟩
    refine zq (yA (mI e6_2 (zf fa29_1 e5_2 (zL 0 z26 rfl rfl rfl (zg (fun _ => R_len sl26 rfl) (zg (fun _ => R_lt rfl rfl) (yB ?_))))))); refine zD rfl (fun h4 => ?_) (fun h4 => ?_)
    · have hlt : k < b.decls.length := (by omega); obtain ⟨x, hxk⟩ : ∃ x, b.decls[k]? = some x := ⟨_, List.getElem?_eq_getElem hlt⟩; obtain ⟨cs2, hA, hE⟩ := hds k x hxk; have hxn := dcsW_mem (List.mem_of_getElem? hxk); obtain ⟨b1, o1, rfl⟩ := hA.ptr; have hE2 := hE; obtain ⟨ty, at_, nm, sz, lo, up, ini⟩ := x; unfold dcM at hE2; obtain ⟨xa, xc, la, lc, ua, uc, ia, ic, hcs, hsz, hlo, hup, hini⟩ := hE2; simp only [] at hcs; subst hcs; have hnx := dcsN_next hxk; have hle := dcsN_take b.decls (k + 1); have hdw := hxn; unfold dcW at hdw; have hxN := hnx; unfold dcN at hxN; have hk1 := exsN_le sz; have hk2 := exsN_le lo; have hk3 := exsN_le up; have hk4 := exsN_le ini; simp only [] at hxN hdw
      refine zi (zk (zq (zB (yA (zf fa29_1 e5_2 (zL 0 z26 rfl rfl rfl (mI e6_2 (zg (fun _ => R_iaN (i := k) sl26 rfl rfl (by omega)) (w_loadC (l := [.int .u8 (ty : Nat), .int .i64 at_, str nm, .slice xa sz.length xc, .slice la lo.length lc, .slice ua up.length uc, .slice ia ini.length ic]) z49 rfl rfl (fun w h j v hj => hA.cell (fun _ _ hh => hh) zm0 h j v hj) (zA zr49 (fun t7b gt7b ut7b => zV 0 rfl z49 rfl rfl rfl rfl rfl rfl rfl (yB (c_held (St [(w, No)] [(t7b, cel [.int .u8 (ty : Nat), .int .i64 at_, str nm, .slice xa sz.length xc, .slice la lo.length lc, .slice ua up.length uc, .slice ia ini.length ic] 49)]) mixed (zh2 0 rfl rfl (fun w h => h.drop (.cons_cons _ (List.nil_sublist _))) (fun w h => R_move e3_2) (zh2 1 rfl rfl (fun w h => h.drop (.cons_cons _ (List.nil_sublist _))) (fun w h => R_addi rfl rfl (by omega)) (zh2 2 rfl rfl (fun w h => h.drop (.cons_cons _ (List.nil_sublist _))) (fun w h => R_fa fa49_3 rfl) (zh2 3 rfl rfl (fun w h => h.drop (.cons_cons _ (List.nil_sublist _))) (fun w h => R_ld1 z47 rfl (zc 0 rfl rfl h)) (zh2 6 rfl rfl (fun w h => h.drop (.cons_cons _ (List.nil_sublist _))) (fun w h => R_fa fa49_4 rfl) (zh2 7 rfl rfl (fun w h => h.drop (.cons_cons _ (List.nil_sublist _))) (fun w h => R_ld1 z47 rfl (zc 0 rfl rfl h)) (zh2 10 rfl rfl (fun w h => h.drop (.cons_cons _ (List.nil_sublist _))) (fun w h => R_fa fa49_5 rfl) (zh2 11 rfl rfl (fun w h => h.drop (.cons_cons _ (List.nil_sublist _))) (fun w h => R_ld1 z47 rfl (zc 0 rfl rfl h)) (zh2 14 rfl rfl (fun w h => h.drop (.cons_cons _ (List.nil_sublist _))) (fun w h => R_fa fa49_6 rfl) (zh2 15 rfl rfl (fun w h => h.drop (.cons_cons _ (List.nil_sublist _))) (fun w h => R_ld1 z47 rfl (zc 0 rfl rfl h)) (h_pure 4 rfl (by kernel_rfl) rfl rfl (fun w h => h.drop (.cons_cons _ (List.nil_sublist _))) (fun w => zR Tryz.func37 rfl rfl rfl) (fun w h => rnodes_ok sz xa xc N w (by omega) (by omega) (hsz.now (fun _ _ hh => hh) zm0 h)) (zh2 5 rfl rfl (fun w h => h.drop (.cons_cons _ (List.nil_sublist _))) (fun w h => R_addi rfl rfl (by omega)) (h_pure 8 rfl (by kernel_rfl) rfl rfl (fun w h => h.drop (.cons_cons _ (List.nil_sublist _))) (fun w => zR Tryz.func37 rfl rfl rfl) (fun w h => rnodes_ok lo la lc N w (by omega) (by omega) (hlo.now (fun _ _ hh => hh) zm0 h)) (zh2 9 rfl rfl (fun w h => h.drop (.cons_cons _ (List.nil_sublist _))) (fun w h => R_addi rfl rfl (by omega)) (h_pure 12 rfl (by kernel_rfl) rfl rfl (fun w h => h.drop (.cons_cons _ (List.nil_sublist _))) (fun w => zR Tryz.func37 rfl rfl rfl) (fun w h => rnodes_ok up ua uc N w (by omega) (by omega) (hup.now (fun _ _ hh => hh) zm0 h)) (zh2 13 rfl rfl (fun w h => h.drop (.cons_cons _ (List.nil_sublist _))) (fun w h => R_addi rfl rfl (by omega)) ?_)))))))))))))))))))))))))))))
      refine h_pure 16 rfl (by kernel_rfl) rfl rfl (fun w h => h.drop (.cons_cons _ (List.nil_sublist _))) (fun w => zR Tryz.func37 rfl rfl rfl) (fun w h => rnodes_ok ini ia ic N w (by omega) (by omega) (hini.now (fun _ _ hh => hh) zm0 h)) (zh2 17 rfl rfl (fun w h => h.drop (.cons_cons _ (List.nil_sublist _))) (fun w h => R_addi rfl rfl (by omega)) (zh2 18 rfl rfl (fun w h => h.drop (.cons_cons _ (List.nil_sublist _))) (fun w h => R_assign rfl) (zN2 (fun w h => h.drop (.cons_cons _ (List.nil_sublist _))) (zO (zk (zr (mI e6_2 (zg (fun _ => R_addi rfl rfl (by omega)) (aI rfl (zn ?_))))))))))
      have hfin : ((pgNTo pg i + smsN b.stmts + dcsN (b.decls.take k) : Nat) : Int) + 1 + ((exsN sz : Nat) : Int) + ((exsN lo : Nat) : Int) + ((exsN up : Nat) : Int) + ((exsN ini : Nat) : Int) = ((pgNTo pg i + smsN b.stmts + dcsN (b.decls.take (k + 1)) : Nat) : Int) := by omega
      refine zK (B' := [(w, No)]) (L' := _) (fun w h => h.drop (List.sublist_cons_self _ _)) ?_; exact k_again _ (by omega) ⟨k + 1, e1_2, (congrArg (Value.int .i64) hfin), e4_2, e5_2, rfl, rfl, rfl, by omega, rfl⟩
    · refine zX (zx (zx (b_here rfl (zO (zk (zr (mI e4_2 (zg (fun _ => R_addi rfl rfl (by omega)) (aI rfl (zn (zK (B' := [(w, No)]) (L' := [(t1b, cel cs 32)]) (fun w h => h.drop (List.sublist_cons_self _ _)) ?_)))))))))))
      have hfin : ((pgNTo pg i + smsN b.stmts + dcsN (b.decls.take k) : Nat) : Int) = ((pgNTo pg (i + 1) : Nat) : Int) := by rw [List.take_of_length_le (by omega)]; omega
      exact k_again _ (by omega) ⟨i + 1, e1_2, (e3_2.trans (congrArg (Value.int .i64) hfin)), rfl, rfl, rfl, by omega, by omega, rfl⟩
  · refine zX (zx (zx (b_here rfl (zk (yA (mI e3_1 (aI rfl (yB (ze (zo (v := .int _ _) rfl rfl rfl ?_)))))))))); exact fun w' hw => ⟨by rw [show i = 6 by omega]; rfl, hw.fr _ zm0⟩

theorem Small_spec (pg : List Bk) (cs : List Value) (N : Nat → Prop) (w : World) (hp : ∀ b ∈ pg, bkW b < 10000000) (hm : pgM w N pg cs) :
    Ret Tryz.prog 12 #[.agg cs.toArray] w (fun v w' => v = .bool (pgSmall pg) ∧ Ext w w') := by
  refine enter (S := No) (l := [_]) (L := []) 57 Tryz.func12 rfl rfl rfl (St.start w No) (yA (w_boxA rfl (fun t1b gt1b ut1b => aB rfl (yB (zq (yA (w_loadW z32 rfl (fun _ h => h.at_ 0 rfl) hm.len (zC (fun w => zR Tryz.func27 rfl rfl rfl) rfl rfl (fun w h => rNodes_spec pg cs N w hp (hm.now (fun _ _ hh => hh) zm0 h)) (zg (fun _ => R_gt rfl rfl) (yB ?_)))))))))); refine zD rfl (fun h2 => ?_) (fun h2 => ?_)
  · refine yA (aB rfl (yB (ze (zt ((zo (v := .bool _) rfl rfl rfl ?_)))))); exact fun w' hw => ⟨by unfold pgSmall; rw [decide_eq_false (by omega)]; rfl, hw.fr _ zm0⟩
  · refine zi (zk (zq (yA (aI rfl (yB (zB (c_loop (fun m e B L => ∃ (i : Nat), e 1 = .pointer (some ⟨t1b, 0, none⟩) ∧ e 3 = .int .i64 (i : Nat) ∧ B = [(w, No)] ∧ L = [(t1b, cel cs 32)] ∧ i ≤ 6 ∧ (∀ y ∈ pg.take i, bkLong y = false) ∧ m = 6 - i) _ ⟨0, rfl, rfl, rfl, rfl, Nat.zero_le _, (by simp), rfl⟩ ?_)))))))
    rintro m e B L ⟨i, e1_1, e3_1, rfl, rfl, hi, hy, rfl⟩
    refine zq (yA (mI e3_1 (zg (fun _ => R_lt rfl rfl) (yB ?_)))); refine zD rfl (fun h3 => ?_) (fun h3 => ?_)
    · have hi6 : i < 6 := (by omega); obtain ⟨b, hb⟩ : ∃ b, pg[i]? = some b := ⟨_, List.getElem?_eq_getElem (by rw [hm.six]; exact hi6)⟩; have hbw := hp b (List.mem_of_getElem? hb); unfold bkW at hbw; obtain ⟨da, dc, sa, sc, hcb, hds, hss⟩ := hm.one i b hb
      refine zi (zk (zq (zB (yA (mI e3_1 (zf fa32_0 e1_1 (zg (fun _ => R_iaA (i := i) ara30 (by decide) rfl rfl (by omega)) (w_loadC (l := [.bool b.is, .slice da b.decls.length dc, .slice sa b.stmts.length sc]) z29 rfl rfl (fun w h j v hj => zc 0 rfl (sub_get hcb hj) h) (zA zr29 (fun t4b gt4b ut4b => zV 0 rfl z29 rfl rfl rfl rfl rfl rfl rfl (yB (zq (yA (zf fa29_2 rfl (zL 0 z27 rfl rfl rfl (zC (fun w => zR Tryz.func28 rfl rfl rfl) rfl rfl (fun w h => rlongOf_ok b.stmts sa sc N w (by omega) (by omega) (hss.now (fun _ _ hh => hh) zm0 h)) (yB ?_))))))))))))))))); refine c_cond rfl (fun h5 => ?_) (fun h5 => ?_)
      · refine yA (aB rfl (yB (ze (zt (zb (zt (zt (zb (zt ((zo (v := .bool _) rfl rfl rfl ?_))))))))))); exact fun w' hw => ⟨by unfold pgSmall pgLong; rw [any_yes hb (by unfold bkLong; rw [h5]; rfl)]; simp, hw.fr _ zm0⟩
      · refine zi (zk (yA (aI rfl (yB (zB (c_loop (fun m e B L => ∃ (k : Nat), e 1 = .pointer (some ⟨t1b, 0, none⟩) ∧ e 3 = .int .i64 (i : Nat) ∧ e 4 = .pointer (some ⟨t4b, 0, none⟩) ∧ e 5 = .int .i64 (k : Nat) ∧ B = [(w, No)] ∧ L = [(t4b, cel [.bool b.is, .slice da b.decls.length dc, .slice sa b.stmts.length sc] 29), (t1b, cel cs 32)] ∧ k ≤ b.decls.length ∧ (∀ y ∈ b.decls.take k, dcLong y = false) ∧ m = b.decls.length - k) _ ⟨0, e1_1, e3_1, rfl, rfl, rfl, rfl, Nat.zero_le _, (by simp), rfl⟩ ?_))))))
        rintro m e B L ⟨k, e1_2, e3_2, e4_2, e5_2, rfl, rfl, hk, hz, rfl⟩
        refine zq (yA (mI e5_2 (zf fa29_1 e4_2 (zL 0 z26 rfl rfl rfl (zg (fun _ => R_len sl26 rfl) (zg (fun _ => R_lt rfl rfl) (yB ?_))))))); refine zD rfl (fun h6 => ?_) (fun h6 => ?_)
        · have hlt : k < b.decls.length := (by omega); obtain ⟨x, hxk⟩ : ∃ x, b.decls[k]? = some x := ⟨_, List.getElem?_eq_getElem hlt⟩; obtain ⟨cs2, hA, hE⟩ := hds k x hxk; have hxn := dcsW_mem (List.mem_of_getElem? hxk); obtain ⟨b1, o1, rfl⟩ := hA.ptr; have hE2 := hE; obtain ⟨ty, at_, nm, sz, lo, up, ini⟩ := x; unfold dcM at hE2; obtain ⟨xa, xc, la, lc, ua, uc, ia, ic, hcs, hsz, hlo, hup, hini⟩ := hE2; simp only [] at hcs; subst hcs; have hdw := hxn; unfold dcW at hdw; simp only [] at hdw
          refine zi (zk (zq (zB (yA (zf fa29_1 e4_2 (zL 0 z26 rfl rfl rfl (mI e5_2 (zg (fun _ => R_iaN (i := k) sl26 rfl rfl (by omega)) (w_loadC (l := [.int .u8 (ty : Nat), .int .i64 at_, str nm, .slice xa sz.length xc, .slice la lo.length lc, .slice ua up.length uc, .slice ia ini.length ic]) z49 rfl rfl (fun w h j v hj => hA.cell (fun _ _ hh => hh) zm0 h j v hj) (zA zr49 (fun t6b gt6b ut6b => zV 0 rfl z49 rfl rfl rfl rfl rfl rfl rfl (yC (zf fa49_2 rfl (zL 0 z9 rfl rfl rfl (zg (fun _ => R_slen st9 rfl (by omega)) (zg (fun _ => R_gt rfl rfl) (mB rfl ?_))))))))))))))))); refine zd (t := 37) rfl (fun h8 => ?_) (fun h8 => ?_)
          · refine zs rfl rfl (bT h8) (zs rfl rfl (bT h8) (zs rfl rfl (bT h8) (zg (v := .bool _) (fun _ => zT (bT h8) rfl) (mB rfl ?_)))); (iterate 3 refine zs rfl rfl rfl ?_); refine zg (v := .bool _) (fun _ => zT rfl rfl) (mB rfl ?_); (iterate 3 refine zs rfl rfl rfl ?_); refine zg (v := .bool _) (fun _ => zT rfl rfl) (mB rfl ?_); (iterate 3 refine zs rfl rfl rfl ?_); refine zg (v := .bool _) (fun _ => zT rfl rfl) (zn ?_)
            refine zk (zE rfl (yA (aB rfl (yB (ze (zb (zt (zt (zb (zb (zt (zt (zb (zt ((zo (v := .bool _) rfl rfl rfl ?_)))))))))))))))); exact fun w' hw => ⟨by (unfold pgSmall pgLong; rw [any_yes hb (by unfold bkLong; rw [any_yes hxk (by (try clear hm hA hE hw hp hcb hds hss hsz hlo hup hini hbw hxn hdw e1_1 e1_2 e3_1 e3_2 e4_2 e5_2 gt1b gt4b gt6b ut1b ut4b ut6b); simp only [dcLong]; grind)]; simp)]; simp), hw.fr _ zm0⟩
          · refine zw rfl rfl (bF h8) (zf fa49_3 rfl (zw rfl rfl (bF h8) (zL 0 z47 rfl rfl rfl (zw rfl rfl (bF h8) (zC (fun w => zR Tryz.func29 rfl rfl rfl) rfl rfl (fun w h => rlong_ok sz xa xc N w (by omega) (by omega) (hsz.now (fun _ _ hh => hh) zm0 h)) (zg (v := .bool _) (fun _ => zF (bF h8) rfl) (mB rfl ?_))))))); refine zp (t := 42) rfl (fun h9 => ?_) (fun h9 => ?_)
            · refine zs rfl rfl (bV h9) (zs rfl rfl (bV h9) (zs rfl rfl (bV h9) (zg (v := .bool _) (fun _ => zT (bV h9) rfl) (mB rfl ?_)))); (iterate 3 refine zs rfl rfl rfl ?_); refine zg (v := .bool _) (fun _ => zT rfl rfl) (mB rfl ?_); (iterate 3 refine zs rfl rfl rfl ?_); refine zg (v := .bool _) (fun _ => zT rfl rfl) (yB (zE rfl (yA (aB rfl (yB (ze (zb (zt (zt (zb (zb (zt (zt (zb (zt (?_))))))))))))))))
              refine zo (v := .bool _) rfl rfl rfl ?_; exact fun w' hw => ⟨by (unfold pgSmall pgLong; rw [any_yes hb (by unfold bkLong; rw [any_yes hxk (by (try clear hm hA hE hw hp hcb hds hss hsz hlo hup hini hbw hxn hdw e1_1 e1_2 e3_1 e3_2 e4_2 e5_2 gt1b gt4b gt6b ut1b ut4b ut6b); simp only [dcLong]; grind)]; simp)]; simp), hw.fr _ zm0⟩
            · refine zw rfl rfl (bV h9) (zf fa49_4 rfl (zw rfl rfl (bV h9) (zL 0 z47 rfl rfl rfl (zw rfl rfl (bV h9) (zC (fun w => zR Tryz.func29 rfl rfl rfl) rfl rfl (fun w h => rlong_ok lo la lc N w (by omega) (by omega) (hlo.now (fun _ _ hh => hh) zm0 h)) (zg (v := .bool _) (fun _ => zF (bV h9) rfl) (mB rfl ?_))))))); refine zp (t := 47) rfl (fun h10 => ?_) (fun h10 => ?_)
              · refine zs rfl rfl (bV h10) (zs rfl rfl (bV h10) (zs rfl rfl (bV h10) (zg (v := .bool _) (fun _ => zT (bV h10) rfl) (mB rfl ?_)))); (iterate 3 refine zs rfl rfl rfl ?_); refine zg (v := .bool _) (fun _ => zT rfl rfl) (yB (zE rfl (yA (aB rfl (yB (ze (zb (zt (zt (zb (zb (zt (zt (zb (zt (?_))))))))))))))))
                refine zo (v := .bool _) rfl rfl rfl ?_; exact fun w' hw => ⟨by (unfold pgSmall pgLong; rw [any_yes hb (by unfold bkLong; rw [any_yes hxk (by (try clear hm hA hE hw hp hcb hds hss hsz hlo hup hini hbw hxn hdw e1_1 e1_2 e3_1 e3_2 e4_2 e5_2 gt1b gt4b gt6b ut1b ut4b ut6b); simp only [dcLong]; grind)]; simp)]; simp), hw.fr _ zm0⟩
              · refine zw rfl rfl (bV h10) (zf fa49_5 rfl (zw rfl rfl (bV h10) (zL 0 z47 rfl rfl rfl (zw rfl rfl (bV h10) (zC (fun w => zR Tryz.func29 rfl rfl rfl) rfl rfl (fun w h => rlong_ok up ua uc N w (by omega) (by omega) (hup.now (fun _ _ hh => hh) zm0 h)) (zg (v := .bool _) (fun _ => zF (bV h10) rfl) (mB rfl ?_))))))); refine zp (t := 52) rfl (fun h11 => ?_) (fun h11 => ?_)
                · refine zs rfl rfl (bV h11) (zs rfl rfl (bV h11) (zs rfl rfl (bV h11) (zg (v := .bool _) (fun _ => zT (bV h11) rfl) (yB (zE rfl (yA (aB rfl (yB (ze (zb (zt (zt (zb (zb (zt (zt (zb (zt ((zo (v := .bool _) rfl rfl rfl ?_)))))))))))))))))))); exact fun w' hw => ⟨by (unfold pgSmall pgLong; rw [any_yes hb (by unfold bkLong; rw [any_yes hxk (by (try clear hm hA hE hw hp hcb hds hss hsz hlo hup hini hbw hxn hdw e1_1 e1_2 e3_1 e3_2 e4_2 e5_2 gt1b gt4b gt6b ut1b ut4b ut6b); simp only [dcLong]; grind)]; simp)]; simp), hw.fr _ zm0⟩
                · refine zw rfl rfl (bV h11) (zf fa49_6 rfl (zw rfl rfl (bV h11) (zL 0 z47 rfl rfl rfl (zw rfl rfl (bV h11) (zC (fun w => zR Tryz.func29 rfl rfl rfl) rfl rfl (fun w h => rlong_ok ini ia ic N w (by omega) (by omega) (hini.now (fun _ _ hh => hh) zm0 h)) (zg (v := .bool _) (fun _ => zF (bV h11) rfl) (yB ?_))))))); refine c_cond rfl (fun h12 => ?_) (fun h12 => ?_)
                  · refine yA (aB rfl (yB (ze (zb (zt (zt (zb (zb (zt (zt (zb (zt ((zo (v := .bool _) rfl rfl rfl ?_)))))))))))))); exact fun w' hw => ⟨by (unfold pgSmall pgLong; rw [any_yes hb (by unfold bkLong; rw [any_yes hxk (by (try clear hm hA hE hw hp hcb hds hss hsz hlo hup hini hbw hxn hdw e1_1 e1_2 e3_1 e3_2 e4_2 e5_2 gt1b gt4b gt6b ut1b ut4b ut6b); simp only [dcLong]; grind)]; simp)]; simp), hw.fr _ zm0⟩
                  · refine zi (zO (zk (zr (mI e5_2 (zg (fun _ => R_addi rfl rfl (by omega)) (aI rfl (zn (zK (B' := [(w, No)]) (L' := _) (fun w h => h.drop (List.sublist_cons_self _ _)) ?_)))))))); exact k_again _ (by omega) ⟨k + 1, e1_2, e3_2, e4_2, rfl, rfl, rfl, by omega, take_all hz hxk (by (try clear hm hA hE hp hcb hds hss hsz hlo hup hini hbw hxn hdw e1_1 e1_2 e3_1 e3_2 e4_2 e5_2 gt1b gt4b gt6b ut1b ut4b ut6b); simp only [dcLong]; grind), rfl⟩
        · refine zX (zx (zx (b_here rfl (zO (zk (zr (mI e3_2 (zg (fun _ => R_addi rfl rfl (by omega)) (aI rfl (zn (zK (B' := [(w, No)]) (L' := [(t1b, cel cs 32)]) (fun w h => h.drop (List.sublist_cons_self _ _)) ?_))))))))))); exact k_again _ (by omega) ⟨i + 1, e1_2, rfl, rfl, rfl, by omega, take_all hy hb (by unfold bkLong; rw [h5, any_of_take hz (by omega)]; rfl), rfl⟩
    · refine zX (zx (zx (b_here rfl (zk (yA (aB rfl (yB (ze (zo (v := .bool _) rfl rfl rfl ?_))))))))); exact fun w' hw => ⟨by (unfold pgSmall pgLong; rw [any_of_take hy (by have := hm.six; omega), decide_eq_true (by omega)]; rfl), hw.fr _ zm0⟩
end Go.Proofs.YtoehjlmdnajibaaGreatDoor
end

section
open Go.RowKit
namespace Go.Sx
end Go.Sx
namespace Go.Sx
open Go.RowKit
def u8s (ts : List Nat) : List Value := ts.map fun t => .int .u8 (t : Nat)
abbrev OwnU (te : TypeId) (v : Value) (ts : List Nat) (W : Heap) : Prop := Own te 1 v (u8s ts) ts.length W
theorem OwnU.more {te : TypeId} {a : Option Addr} {c : Nat} {ts : List Nat} {t : Nat} {W : Heap} (h : Own te 1 (.slice a (ts.length + 1) c) (u8s ts ++ [.int .u8 (t : Nat)]) (ts.length + 1) W) : OwnU te (.slice a (ts ++ [t]).length c) (ts ++ [t]) W := by
  have e1 : (ts ++ [t]).length = ts.length + 1 := by simp
  have e2 : u8s (ts ++ [t]) = u8s ts ++ [.int .u8 (t : Nat)] := by simp [u8s]
  unfold OwnU; rw [e1, e2]; exact h
theorem OwnU.cell {te : TypeId} {a : Option Addr} {c i : Nat} {ts : List Nat} {W : Heap} (h : OwnU te (.slice a ts.length c) ts W) (hi : i < ts.length) : ∃ b, a = some ⟨b, 0, none⟩ ∧ ∀ (B : Base) (L : Heap) (w : World), (∀ p ∈ W, p ∈ L) → St B L w → ∀ (j t : Nat), ts[j]? = some t → w.cell? ⟨b, j, none⟩ = some (.int .u8 (t : Nat)) := by
  obtain ⟨b, h1, h2⟩ := Own.cell h hi
  exact ⟨b, h1, fun B L w hW hw j t ht => h2 B L w hW hw j _ (by unfold u8s; rw [List.getElem?_map, ht]; rfl)⟩
end Go.Sx
end

section
namespace Go.Knd
open Go.Tok Go.Tree
mutual
def mapA (g : Int → Int) : Ex → Ex
  | .mk op a nm ks => .mk op (g a) nm (mapsA g ks)
def mapsA (g : Int → Int) : List Ex → List Ex
  | [] => []
  | e :: l => mapA g e :: mapsA g l
end
def mapF {α : Type} (g : Int → Int) : Except Ft α → Except Ft α
  | .ok a => .ok a
  | .error f => .error (f.1, g f.2)
mutual
def speaksK (s : Str) : Ex → Bool
  | .mk _ _ nm ks => decide (nm = s) || speaksS s ks
def speaksS (s : Str) : List Ex → Bool
  | [] => false
  | e :: l => speaksK s e || speaksS s l
end
end Go.Knd
end

section
namespace Go.Knd
open Go.Tok Go.Tree
theorem need_code {t : Nat} {a : Int} {p : Bool} {f : Ft} (h : needT t a p = .error f) : f.1 = 152 := by
  unfold needT at h
  split at h
  · cases h; rfl
  · cases h
theorem rule_code {l : List Vr} {op : Nat} {a : Int} {nm : Str} {ks : List Ex} {t u : Nat} {p : Bool} {f : Ft} (h : ruleK l op a nm ks t u p = .error f) : f.1 = 150 ∨ f.1 = 152 ∨ f.1 = 153 := by
  unfold ruleK at h
  by_cases h1 : op = 1
  · rw [if_pos h1] at h; exact .inr (.inl (need_code h))
  · rw [if_neg h1] at h
    by_cases h2 : op = 2
    · rw [if_pos h2] at h
      cases hf : findV l nm with
      | none => rw [hf] at h; cases h; exact .inl rfl
      | some v => rw [hf] at h; cases h
    · rw [if_neg h2] at h
      by_cases h3 : op = 3
      · rw [if_pos h3] at h
        cases hf : findV l nm with
        | none => rw [hf] at h; cases h; exact .inl rfl
        | some v =>
          rw [hf] at h
          dsimp only at h
          split at h
          · cases h; exact .inr (.inl rfl)
          · cases ks with
            | nil => cases h; exact .inr (.inl rfl)
            | cons k r =>
              dsimp only at h
              split at h
              · cases h; exact .inr (.inl rfl)
              · split at h
                · cases h; exact .inr (.inr rfl)
                · exact .inr (.inl (need_code h))
      · rw [if_neg h3] at h
        by_cases h4 : op = 4
        · rw [if_pos h4] at h
          cases hc : callK nm t u with
          | none => rw [hc] at h; cases h; exact .inl rfl
          | some x =>
            rw [hc] at h
            dsimp only at h
            by_cases h5 : ks.length ≠ (if nm = [100, 111, 116] then 2 else 1)
            · rw [if_pos h5] at h; cases h; exact .inr (.inl rfl)
            · rw [if_neg h5] at h; exact .inr (.inl (need_code h))
        · rw [if_neg h4] at h
          split at h
          · exact .inr (.inl (need_code h))
          · exact .inr (.inl (need_code h))
mutual
theorem of_code {l : List Vr} : ∀ (e : Ex) (f : Ft), ofK l e = .error f → f.1 = 150 ∨ f.1 = 152 ∨ f.1 = 153
  | .mk op a nm ks, f, h => by
    rw [ofK] at h
    cases hq : kidsK l ks with
    | error f2 => rw [hq] at h; cases h; exact kids_code ks f hq
    | ok r => rw [hq] at h; exact rule_code h
theorem kids_code {l : List Vr} : ∀ (ks : List Ex) (f : Ft), kidsK l ks = .error f → f.1 = 150 ∨ f.1 = 152 ∨ f.1 = 153
  | [], f, h => by rw [kidsK] at h; cases h
  | e :: r, f, h => by
    rw [kidsK] at h
    cases hq : ofK l e with
    | error f2 => rw [hq] at h; cases h; exact of_code e f hq
    | ok k =>
      rw [hq] at h
      dsimp only at h
      cases hr : kidsK l r with
      | error f2 => rw [hr] at h; cases h; exact kids_code r f hr
      | ok r2 => rw [hr] at h; cases h
end
end Go.Knd
end

section
namespace Go.Knd
open Go.Tok Go.Tree
def szS : Str := [115, 105, 122, 101]
def parS (l : List Vr) (nm : Str) : Bool := l.any fun v => decide (v.nm = nm) && v.par
mutual
def hangsK (l : List Vr) : Ex → Bool
  | .mk op _ nm ks => ((decide (op = 2) || decide (op = 3)) && parS l nm) || (!(decide (op = 4) && decide (nm = szS)) && hangsS l ks)
def hangsS (l : List Vr) : List Ex → Bool
  | [] => false
  | e :: r => hangsK l e || hangsS l r
end
mutual
def placesK (l : List Vr) : Ex → Bool
  | .mk op _ _ ks => !(decide (op = 3) && hangsS l ks) && placesS l ks
def placesS (l : List Vr) : List Ex → Bool
  | [] => true
  | e :: r => placesK l e && placesS l r
end
def uniq (l : List Vr) : Prop := ∀ v ∈ l, ∀ u ∈ l, v.nm = u.nm → v = u
theorem find_mem {l : List Vr} {s : Str} {v : Vr} (h : findV l s = some v) : v ∈ l ∧ v.nm = s := by
  unfold findV at h
  have h1 := List.mem_of_find?_eq_some h
  have h2 := List.find?_some h
  exact ⟨List.mem_reverse.1 h1, of_decide_eq_true h2⟩
theorem par_find {l s : List Vr} {nm : Str} {v : Vr} (hu : uniq l) (hs : ∀ u ∈ s, u ∈ l) (h : findV l nm = some v) (hp : parS s nm = true) : v.par = true := by
  unfold parS at hp
  rw [List.any_eq_true] at hp
  obtain ⟨u, hu1, hu2⟩ := hp
  simp only [Bool.and_eq_true, decide_eq_true_eq] at hu2
  have h1 := find_mem h
  rw [hu v h1.1 u (hs u hu1) (h1.2.trans hu2.1.symm)]
  exact hu2.2
theorem need_ok {t : Nat} {a : Int} {p : Bool} {k : Nat × Bool} (h : needT t a p = .ok k) : k.2 = p := by
  unfold needT at h
  split at h
  · cases h
  · cases h; rfl
section
variable {l s : List Vr}
theorem rule_hangs (hu : uniq l) (hs : ∀ u ∈ s, u ∈ l) {op : Nat} {a : Int} {nm : Str} {ks : List Ex} {t u : Nat} {p : Bool} {k : Nat × Bool} (h0 : op = 2 → ks = []) (h : ruleK l op a nm ks t u p = .ok k) (hp : hangsS s ks = true → p = true)
    (hh : hangsK s (.mk op a nm ks) = true) : k.2 = true := by
  rw [hangsK, Bool.or_eq_true] at hh
  unfold ruleK at h
  by_cases h2 : op = 2
  · subst h2
    rw [if_neg (by decide), if_pos rfl] at h
    cases hf : findV l nm with
    | none => rw [hf] at h; cases h
    | some v =>
      rw [hf] at h
      cases h
      rcases hh with hh | hh
      · simp only [decide_true, Bool.true_or, Bool.true_and] at hh
        exact par_find hu hs hf hh
      · rw [h0 rfl, hangsS] at hh; simp at hh
  · by_cases h3 : op = 3
    · subst h3
      rw [if_neg (by decide), if_neg (by decide), if_pos rfl] at h
      cases hf : findV l nm with
      | none => rw [hf] at h; cases h
      | some v =>
        rw [hf] at h
        dsimp only at h
        split at h
        · cases h
        · cases ks with
          | nil => cases h
          | cons x r =>
            dsimp only at h
            split at h
            · cases h
            · split at h
              · cases h
              · rename_i hpf
                rw [need_ok h]
                rcases hh with hh | hh
                · simp only [decide_true, Bool.or_true, Bool.true_and] at hh
                  exact par_find hu hs hf hh
                · rw [Bool.and_eq_true] at hh
                  exact absurd (hp hh.2) hpf
    · have hk : (!(decide (op = 4) && decide (nm = szS)) && hangsS s ks) = true := by
        rcases hh with hh | hh
        · simp [h2, h3] at hh
        · exact hh
      rw [Bool.and_eq_true] at hk
      have hpp := hp hk.2
      subst hpp
      by_cases h1 : op = 1
      · rw [if_pos h1] at h; exact need_ok h
      · rw [if_neg h1, if_neg h2, if_neg h3] at h
        by_cases h4 : op = 4
        · rw [if_pos h4] at h
          cases hc : callK nm t u with
          | none => rw [hc] at h; cases h
          | some x =>
            rw [hc] at h
            dsimp only at h
            have hn : ¬ nm = szS := by
              intro hn
              have := hk.1
              rw [h4, hn] at this; simp at this
            split at h
            · split at h
              · cases h
              · rw [need_ok h]; simp only [Bool.true_and, Bool.not_eq_true', decide_eq_false_iff_not]; exact hn
            · split at h
              · cases h
              · rw [need_ok h]; simp only [Bool.true_and, Bool.not_eq_true', decide_eq_false_iff_not]; exact hn
        · rw [if_neg h4] at h
          split at h
          · exact need_ok h
          · exact need_ok h
theorem two_kids {op : Nat} {a : Int} {nm : Str} {ks : List Ex} (h : exOk (.mk op a nm ks) = true) : op = 2 → ks = [] := fun h2 => by
  subst h2
  rw [exOk, Bool.and_eq_true] at h
  have h1 : (decide (ks.length = 0) && nameOk nm) = true := h.1
  rw [Bool.and_eq_true] at h1
  exact List.length_eq_zero_iff.1 (of_decide_eq_true h1.1)
mutual
theorem of_hangs (hu : uniq l) (hs : ∀ u ∈ s, u ∈ l) : ∀ (e : Ex) (k : Nat × Bool), exOk e = true → ofK l e = .ok k → hangsK s e = true → k.2 = true
  | .mk op a nm ks, k, hok, h, hh => by
    have hks : exsOk ks = true := by rw [exOk, Bool.and_eq_true] at hok; exact hok.2
    rw [ofK] at h
    cases hq : kidsK l ks with
    | error f => rw [hq] at h; cases h
    | ok r =>
      rw [hq] at h
      exact rule_hangs hu hs (two_kids hok) h (kids_hangs hu hs ks r hks hq) hh
theorem kids_hangs (hu : uniq l) (hs : ∀ u ∈ s, u ∈ l) : ∀ (ks : List Ex) (r : List Nat × Bool), exsOk ks = true → kidsK l ks = .ok r → hangsS s ks = true → r.2 = true
  | [], r, _, _, hh => by rw [hangsS] at hh; cases hh
  | e :: ks, r, hok, h, hh => by
    rw [exsOk, Bool.and_eq_true] at hok
    rw [kidsK] at h
    rw [hangsS, Bool.or_eq_true] at hh
    cases hq : ofK l e with
    | error f => rw [hq] at h; cases h
    | ok k =>
      rw [hq] at h
      dsimp only at h
      cases hr : kidsK l ks with
      | error f => rw [hr] at h; cases h
      | ok r2 =>
        rw [hr] at h
        cases h
        show (k.2 || r2.2) = true
        rcases hh with hh | hh
        · rw [of_hangs hu hs e k hok.1 hq hh]; rfl
        · rw [kids_hangs hu hs ks r2 hok.2 hr hh, Bool.or_true]
end
mutual
theorem of_places (hu : uniq l) (hs : ∀ u ∈ s, u ∈ l) : ∀ (e : Ex) (k : Nat × Bool), exOk e = true → ofK l e = .ok k → placesK s e = true
  | .mk op a nm ks, k, hok, h => by
    have hks : exsOk ks = true := by rw [exOk, Bool.and_eq_true] at hok; exact hok.2
    rw [ofK] at h
    cases hq : kidsK l ks with
    | error f => rw [hq] at h; cases h
    | ok r =>
      rw [hq] at h
      rw [placesK, Bool.and_eq_true]
      refine ⟨?_, kids_places hu hs ks r hks hq⟩
      by_cases h3 : op = 3
      · subst h3
        cases hh : hangsS s ks with
        | false => simp
        | true =>
          have hp := kids_hangs hu hs ks r hks hq hh
          exfalso
          dsimp only at h
          unfold ruleK at h
          rw [if_neg (by decide), if_neg (by decide), if_pos rfl] at h
          cases hf : findV l nm with
          | none => rw [hf] at h; cases h
          | some v =>
            rw [hf] at h
            dsimp only at h
            split at h
            · cases h
            · cases ks with
              | nil => cases h
              | cons x r =>
                dsimp only at h
                split at h
                · cases h
                · cases h
      · simp [h3]
theorem kids_places (hu : uniq l) (hs : ∀ u ∈ s, u ∈ l) : ∀ (ks : List Ex) (r : List Nat × Bool), exsOk ks = true → kidsK l ks = .ok r → placesS s ks = true
  | [], _, _, _ => by rw [placesS]
  | e :: ks, r, hok, h => by
    rw [exsOk, Bool.and_eq_true] at hok
    rw [kidsK] at h
    cases hq : ofK l e with
    | error f => rw [hq] at h; cases h
    | ok k =>
      rw [hq] at h
      dsimp only at h
      cases hr : kidsK l ks with
      | error f => rw [hr] at h; cases h
      | ok r2 =>
        rw [placesS, of_places hu hs e k hok.1 hq, kids_places hu hs ks r2 hok.2 hr]; rfl
end
end
end Go.Knd
end

section
namespace Go.Tree
def tb (ts : List Str) : Nat := (ts.map fun s => s.length + 1).sum
def pgW (p : List Bk) : Nat := (p.map bkW).sum
def sp (s : Str) : Str := s ++ (if brk s then [10] else [32])
def setIs (p : List Bk) (i : Nat) (b : Bk) : List Bk := p.set i { b with is := true }
end Go.Tree
end

section
namespace Go.Tree
open Go.Tok
mutual
def exZ : Ex → Ex
  | .mk o _ n k => .mk o 0 n (exsZ k)
def exsZ : List Ex → List Ex
  | [] => []
  | e :: l => exZ e :: exsZ l
end
abbrev PR := Option (Ex × List Str)
mutual
def pSum : Nat → List Str → PR
  | 0, _ => none
  | f + 1, ts => match pProd f ts with | some (e, r) => sumL f e r | none => none
def sumL : Nat → Ex → List Str → PR
  | 0, _, _ => none
  | f + 1, e, ts =>
    if ts.head? = some [43] then (match pProd f ts.tail with | some (k, r) => sumL f (.mk 6 0 [] [e, k]) r | none => none)
    else if ts.head? = some [45] then (match pProd f ts.tail with | some (k, r) => sumL f (.mk 7 0 [] [e, k]) r | none => none)
    else some (e, ts)
def pProd : Nat → List Str → PR
  | 0, _ => none
  | f + 1, ts => match pSign f ts with | some (e, r) => prodL f e r | none => none
def prodL : Nat → Ex → List Str → PR
  | 0, _, _ => none
  | f + 1, e, ts =>
    if ts.head? = some [42] then (match pSign f ts.tail with | some (k, r) => prodL f (.mk 8 0 [] [e, k]) r | none => none)
    else if ts.head? = some [47] then (match pSign f ts.tail with | some (k, r) => prodL f (.mk 9 0 [] [e, k]) r | none => none)
    else some (e, ts)
def pSign : Nat → List Str → PR
  | 0, _ => none
  | f + 1, ts => match ts with
    | [] => none
    | t :: r =>
      if t = [45] then (match pSign f r with | some (k, r) => some (.mk 5 0 [] [k], r) | none => none)
      else if t = [40] then (match pSum f r with | some (e, r) => if r.head? = some [41] then some (e, r.tail) else none | none => none)
      else if oneB 2 t then some (.mk 1 0 t [], r)
      else if r.head? = some [91] then (match pSum f r.tail with | some (e, r) => if r.head? = some [93] then some (.mk 3 0 t [e], r.tail) else none | none => none)
      else if r.head? = some [40] then (if r.tail.head? = some [41] then some (.mk 4 0 t [], r.tail.tail) else match pSum f r.tail with | some (e, r) => argL f t [e] r | none => none)
      else some (.mk 2 0 t [], r)
def argL : Nat → Str → List Ex → List Str → PR
  | 0, _, _, _ => none
  | f + 1, t, l, ts =>
    if ts.head? = some [44] then (match pSum f ts.tail with | some (e, r) => argL f t (l ++ [e]) r | none => none)
    else if ts.head? = some [41] then some (.mk 4 0 t l, ts.tail)
    else none
end
def nb (r : List Str) : Prop := r.head? ≠ some [91] ∧ r.head? ≠ some [40]
def nm8 (r : List Str) : Prop := nb r ∧ r.head? ≠ some [42] ∧ r.head? ≠ some [47]
def nm6 (r : List Str) : Prop := nm8 r ∧ r.head? ≠ some [43] ∧ r.head? ≠ some [45]
def K (e : Ex) : Nat := 8 * exW e
def SgP (e : Ex) : Prop := ∀ f r, K e ≤ f + 4 → nb r → pSign f (exT e ++ r) = some (exZ e, r)
def PdP (e : Ex) : Prop := ∀ f r, K e ≤ f + 2 → nb r → ∃ g, f + 4 ≤ g + K e ∧ pProd f (exT e ++ r) = prodL g (exZ e) r
def SuP (e : Ex) : Prop := ∀ f r, K e ≤ f → nm8 r → ∃ g, f + 2 ≤ g + K e ∧ pSum f (exT e ++ r) = sumL g (exZ e) r
end Go.Tree
namespace Go.Tree
open Go.Tok
end Go.Tree
end

section
namespace Go.Tok
end Go.Tok
end

section
namespace Go.Tok
inductive Chain (s : List UInt8) : Nat → List Tk → Prop
  | nil (i : Nat) : Chain s i []
  | cons {i e kd : Nat} {ts : List Tk} : i ≤ s.length → skipTo s i < s.length → tokAt s (skipTo s i) = (kd, e, true) → Chain s e ts → Chain s i ((kd, tokTx s (skipTo s i), skipTo s i) :: ts)
def Bl (R : List UInt8) : Prop := R = [] ∨ ∃ r, R = 32 :: r
end Go.Tok
end

section
namespace Go.Tok
end Go.Tok
end

section
namespace Go.Tok
end Go.Tok
end

section
namespace Go.Tok
def Jn (ts : List Tk) : List UInt8 := ts.flatMap fun t => 32 :: t.2.1
def kt (t : Tk) : Nat × List UInt8 := (t.1, t.2.1)
def Good (t : Tk) : Prop := ∃ s k e, k ≤ s.length ∧ tokAt s k = (t.1, e, true) ∧ t.2.1 = (s.drop k).take (e - k)
end Go.Tok
end

section
namespace Go.Tok.W
open Go.Tok
def Bl (R : List UInt8) : Prop := R = [] ∨ ∃ c r, (c = 32 ∨ c = 10) ∧ R = c :: r
def Sp (xs : List (Tk × UInt8)) : List UInt8 := xs.flatMap fun t => t.1.2.1 ++ [t.2]
def isSp (c : UInt8) : Prop := c = 32 ∨ c = 10
end Go.Tok.W
end

section
namespace Go.Tree
open Go.Tok Go.Tok.W
def Tk1 (s : Str) : Prop := ∃ kd, Go.Tok.Good (kd, s, 0)
def Tks (l : List Str) : Prop := ∀ s ∈ l, Tk1 s
end Go.Tree
end

section
namespace Go.Tree
open Go.Tok Go.Tok.W
def exHd (h : Str) : Bool := decide (h = [45]) || (decide (h = [40]) || (oneB 2 h || nameOk h))
def hdK (h : Str) : Nat :=
  if h = [116, 97, 114, 103, 101, 116] then 2 else if h = [102, 111, 114] then 4 else if h = [105, 102] then 5 else if h = [123] then 6
  else if h = [125] then 7 else if h = [101, 108, 115, 101] then 8 else if h = [97, 114, 114, 97, 121] then 9 else if h = [105, 110, 116] then 10
  else if h = [114, 101, 97, 108] then 11 else if h = [118, 101, 99, 116, 111, 114] then 12 else if h = [60] then 13 else if h = [91] then 14 else 0
def hk : List Str → Nat
  | [] => 99
  | h :: _ => hdK h
theorem cmp_cases {e : Ex} (h : cmpOk e = true) : ∃ op a x y, e = .mk op a [] [x, y] ∧ 10 ≤ op ∧ op ≤ 15 ∧ exOk x = true ∧ exOk y = true ∧ exT e = exT x ++ signs op :: exT y := by
  obtain ⟨op, a, nm, ks⟩ := e
  simp only [cmpOk, Ex.op, Ex.nm, Ex.kids, Bool.and_eq_true, decide_eq_true_eq] at h
  obtain ⟨h1, h2, h3, h4⟩ := h
  obtain rfl := of_decide_eq_true h2
  have h3 := of_decide_eq_true h3
  match ks, h3, h4 with
  | [x, y], _, h4 =>
    rw [exsOk_all] at h4
    simp only [List.all_cons, List.all_nil, Bool.and_true, Bool.and_eq_true] at h4
    have h5 : 10 ≤ op ∧ op ≤ 15 := by simpa [cmpOp] using h1
    refine ⟨op, a, x, y, rfl, h5.1, h5.2, h4.1, h4.2, ?_⟩
    rw [exT_two (by omega) a [] (x := x) (z := y) rfl rfl]
    have hl : low op = 0 := by unfold low; rw [if_pos h1]
    rw [hl]
    unfold kidT
    simp
theorem sm_cases {op : Nat} {a : Int} {nm : Str} {ks : List Ex} {b e : List Sm} (h : smOk (.mk op a nm ks b e) = true) :
    (op = 1 ∧ nameOk nm = true ∧ b = [] ∧ e = [] ∧ ∃ x, ks = [x] ∧ exOk x = true) ∨ (op = 1 ∧ nameOk nm = true ∧ b = [] ∧ e = [] ∧ ∃ x y, ks = [x, y] ∧ exOk x = true ∧ exOk y = true) ∨
    (op = 3 ∧ nameOk nm = true ∧ b = [] ∧ e = [] ∧ ∃ x l, ks = x :: l ∧ exOk x = true ∧ exsOk l = true) ∨
    (op = 2 ∧ nm = [] ∧ b = [] ∧ e = [] ∧ ∃ x, ks = [x] ∧ exOk x = true) ∨
    (op = 4 ∧ nameOk nm = true ∧ e = [] ∧ smsOk b = true ∧ ∃ x y, ks = [x, y] ∧ exOk x = true ∧ exOk y = true) ∨
    (op = 5 ∧ nm = [] ∧ smsOk b = true ∧ smsOk e = true ∧ ∃ x, ks = [x] ∧ cmpOk x = true) ∨
    (op = 6 ∧ nm = [] ∧ ks = [] ∧ e = [] ∧ smsOk b = true) := by
  simp only [smOk, Bool.and_eq_true, Bool.or_eq_true, decide_eq_true_eq, Bool.not_eq_true', Bool.and_eq_false_iff, decide_eq_false_iff_not] at h
  obtain ⟨⟨⟨⟨h1, h2⟩, h3⟩, h4⟩, h5, h6⟩ := h
  have nil : ∀ {l : List Sm}, ¬ 0 < l.length → l = [] := fun h => List.length_eq_zero_iff.1 (by omega)
  have one : ∀ {l : List Ex}, l.length = 1 → ∃ x, l = [x] := fun h => List.length_eq_one_iff.1 h
  have two : ∀ {l : List Ex}, l.length = 2 → ∃ x y, l = [x, y] := by
    intro l h
    match l, h with
    | [x, y], _ => exact ⟨x, y, rfl⟩
  unfold sruleOk at h1
  split at h1
  · simp only [Bool.and_eq_true, Bool.or_eq_true, decide_eq_true_eq] at h1
    have hb := nil (h3.resolve_left (by decide))
    have he := nil (h4.resolve_left (by decide))
    have h2 := h2.resolve_left (by decide)
    rcases h1.2 with h | h
    · obtain ⟨x, rfl⟩ := one h
      rw [exsOk_all] at h2
      exact .inl ⟨rfl, h1.1, hb, he, x, rfl, by simpa using h2⟩
    · obtain ⟨x, y, rfl⟩ := two h
      rw [exsOk_all] at h2
      simp only [List.all_cons, List.all_nil, Bool.and_true, Bool.and_eq_true] at h2
      exact .inr (.inl ⟨rfl, h1.1, hb, he, x, y, rfl, h2⟩)
  · simp only [Bool.and_eq_true, decide_eq_true_eq] at h1
    have hb := nil (h3.resolve_left (by decide))
    have he := nil (h4.resolve_left (by decide))
    have h2 := h2.resolve_left (by decide)
    obtain ⟨x, rfl⟩ := one h1.2
    rw [exsOk_all] at h2
    exact .inr (.inr (.inr (.inl ⟨rfl, h1.1, hb, he, x, rfl, by simpa using h2⟩)))
  · simp only [Bool.and_eq_true, decide_eq_true_eq] at h1
    have hb := nil (h3.resolve_left (by decide))
    have he := nil (h4.resolve_left (by decide))
    have h2 := h2.resolve_left (by decide)
    match ks, h1, h2 with
    | x :: l, h1, h2 =>
      rw [exsOk, Bool.and_eq_true] at h2
      exact .inr (.inr (.inl ⟨rfl, h1.1, hb, he, x, l, rfl, h2⟩))
  · simp only [Bool.and_eq_true, decide_eq_true_eq] at h1
    have he := nil (h4.resolve_left (by decide))
    have h2 := h2.resolve_left (by decide)
    obtain ⟨x, y, rfl⟩ := two h1.2
    rw [exsOk_all] at h2
    simp only [List.all_cons, List.all_nil, Bool.and_true, Bool.and_eq_true] at h2
    exact .inr (.inr (.inr (.inr (.inl ⟨rfl, h1.1, he, h5, x, y, rfl, h2⟩))))
  · simp only [Bool.and_eq_true, decide_eq_true_eq] at h1
    obtain ⟨x, rfl⟩ := one h1.2.1
    exact .inr (.inr (.inr (.inr (.inr (.inl ⟨rfl, h1.1, h5, h6, x, rfl, h1.2.2⟩)))))
  · simp only [Bool.and_eq_true, decide_eq_true_eq] at h1
    have he := nil (h4.resolve_left (by decide))
    exact .inr (.inr (.inr (.inr (.inr (.inr ⟨rfl, h1.1, List.length_eq_zero_iff.1 h1.2, he, h5⟩)))))
  · cases h1
end Go.Tree
namespace Go.Tree
open Go.Tok Go.Tok.W
def kS (op : Nat) : Nat := if op = 1 ∨ op = 3 then 0 else op
def elT (e : List Sm) : List Str := if 0 < e.length then [101, 108, 115, 101] :: [123] :: ((smsT e).flatten ++ [[125]]) else []
section
variable (a : Int) (nm : Str) (x y : Ex) (l : List Ex) (b e : List Sm) (r : List Str)
end
end Go.Tree
end

section
namespace Go.Tree
open Go.Tok Go.Tok.W
def bT (lo up : List Ex) : List Str := if lo.length + up.length = 0 then [] else [[60]] ++ ldT lowW lo ++ (if lo.length + up.length = 2 then [[44]] else []) ++ ldT upW up ++ [[62]]
section
variable (x y : Ex) (X : List Str)
end
def iT (i : List Ex) (r : List Str) : List Str := ldT [[61]] i ++ [59] :: r
def scT (d : Dc) (r : List Str) : List Str := bT d.lower d.upper ++ d.nm :: iT d.init r
end Go.Tree
end

section
namespace Go.Tree
open Go.Tok Go.Tok.W
theorem bk_facts {i : Nat} {b : Bk} (h : bkOk i b = true) : (∀ d ∈ b.decls, dcOk d = true) ∧ smsOk b.stmts = true ∧ (b.is = false → b.decls = [] ∧ b.stmts = []) := by
  unfold bkOk headB at h
  simp only [Bool.and_eq_true, List.all_eq_true] at h
  obtain ⟨⟨⟨⟨h1, _⟩, _⟩, h4⟩, h5⟩ := h
  refine ⟨fun d hd => ?_, h4, fun hi => ?_⟩
  · have := h5 d hd
    unfold dgood at this
    rw [Bool.and_eq_true] at this
    exact this.1
  · rw [hi] at h1
    simp only [Bool.not_false, Bool.true_and, Bool.not_eq_true', decide_eq_false_iff_not] at h1
    exact ⟨List.length_eq_zero_iff.1 (by omega), List.length_eq_zero_iff.1 (by omega)⟩
def nhd (i : Nat) (r : List Str) : Prop := r.take 2 ≠ (headW i ++ [[123]]).take 2
theorem six {p : List Bk} (h : p.length = 6) : ∃ a b c d e f, p = [a, b, c, d, e, f] := by
  match p, h with
  | [a, b, c, d, e, f], _ => exact ⟨a, b, c, d, e, f, rfl⟩
def moveS (at_ : Int) : Sm → Sm
  | .mk o _ n k b e => .mk o at_ n k b e
def moveB (at_ : Int) (b : Bk) : Bk := { b with stmts := b.stmts.map (moveS at_) }
end Go.Tree
end

section
namespace Go.Knd
open Go.Tok Go.Tree
theorem andK_is {α β : Type} {x : Except Ft α} {f : α → Except Ft β} {b : β} (h : andK x f = .ok b) : ∃ a, x = .ok a ∧ f a = .ok b := by
  cases x with
  | error e => cases h
  | ok a => exact ⟨a, rfl, h⟩
theorem eachK_is {α : Type} {f : α → Except Ft Unit} : ∀ {l : List α} {u : Unit}, eachK f l = .ok u → ∀ x ∈ l, f x = .ok ()
  | [], _, _, x, hx => by cases hx
  | y :: l, u, h, x, hx => by
    rw [eachK] at h
    obtain ⟨⟨⟩, h1, h2⟩ := andK_is h
    rcases List.mem_cons.1 hx with rfl | hx
    · exact h1
    · exact eachK_is h2 x hx
theorem countK_is {l : List Vr} {e : Ex} {u : Unit} (h : countK l e = .ok u) : ∃ t, ofK l e = .ok (t, false) := by
  unfold countK countedK at h
  obtain ⟨⟨t, p⟩, h1, h2⟩ := andK_is h
  obtain ⟨_, _, h3⟩ := andK_is h2
  cases p with
  | false => exact ⟨t, h1⟩
  | true => cases h3
def countB (op n k : Nat) : Bool := decide (op = 4) || decide (op = 5) || (decide (op = 1) && decide (k = 0) && decide (n = 2))
def kidsC (s : List Vr) (op n : Nat) : Nat → List Ex → Bool
  | _, [] => true
  | k, x :: r => !(countB op n k && hangsK s x) && placesK s x && kidsC s op n (k + 1) r
mutual
def chosenS (s : List Vr) : Sm → Bool
  | .mk op _ _ ks b e => kidsC s op ks.length 0 ks && (chosenK s b && chosenK s e)
def chosenK (s : List Vr) : List Sm → Bool
  | [] => true
  | x :: r => chosenS s x && chosenK s r
end
section
variable {l s : List Vr}
theorem count_hangs (hu : uniq l) (hs : ∀ u ∈ s, u ∈ l) {e : Ex} {u : Unit} (hok : exOk e = true) (h : countK l e = .ok u) : hangsK s e = false ∧ placesK s e = true := by
  obtain ⟨t, h1⟩ := countK_is h
  refine ⟨?_, of_places hu hs e _ hok h1⟩
  cases hh : hangsK s e with
  | false => rfl
  | true => have := of_hangs hu hs e _ hok h1 hh; cases this
theorem kidsC_pl {op n : Nat} : ∀ (ks : List Ex) (k : Nat), (∀ x ∈ ks, placesK s x = true) → (∀ i x, ks[i]? = some x → countB op n (k + i) = true → hangsK s x = false) → kidsC s op n k ks = true
  | [], _, _, _ => by rw [kidsC]
  | x :: r, k, hp, hh => by
    rw [kidsC, hp x (.head _), kidsC_pl r (k + 1) (fun y hy => hp y (.tail _ hy)) (fun i y hy hc => hh (i + 1) y (by simpa using hy) (by rw [show k + (i + 1) = k + 1 + i by omega]; exact hc))]
    cases hc : countB op n k with
    | false => rfl
    | true => rw [hh 0 x rfl hc]; rfl
theorem args_places (hu : uniq l) (hs : ∀ u ∈ s, u ∈ l) {t m : Nat} : ∀ (ks : List Ex) (i : Nat) (u : Unit), exsOk ks = true → argsK l t m i ks = .ok u → ∀ x ∈ ks, placesK s x = true
  | [], _, _, _, _, x, hx => by cases hx
  | e :: r, i, u, hok, h, x, hx => by
    rw [exsOk, Bool.and_eq_true] at hok
    rw [argsK] at h
    obtain ⟨k, h1, h2⟩ := andK_is h
    obtain ⟨_, _, h3⟩ := andK_is h2
    obtain ⟨_, _, h4⟩ := andK_is h3
    rcases List.mem_cons.1 hx with rfl | hx
    · exact of_places hu hs _ k hok.1 h1
    · exact args_places hu hs r (i + 1) u hok.2 h4 x hx
theorem cmp_hangs {e : Ex} (h : cmpOk e = true) (hk : ∀ x ∈ e.kids, hangsK s x = false ∧ placesK s x = true) : hangsK s e = false ∧ placesK s e = true := by
  obtain ⟨op, a, x, y, rfl, h1, h2, _, _, _⟩ := cmp_cases h
  have hx := hk x (by simp [Ex.kids])
  have hy := hk y (by simp [Ex.kids])
  have e2 : ¬ op = 2 := by omega
  have e3 : ¬ op = 3 := by omega
  constructor
  · rw [hangsK, hangsS, hangsS, hangsS, hx.1, hy.1]; simp [e2, e3]
  · rw [placesK, placesS, placesS, placesS, hx.2, hy.2]; simp [e3]
theorem uniq_snoc {v : Vr} (hu : uniq l) (h : findV l v.nm = none) : uniq (l ++ [v]) := by
  have h1 : ∀ u ∈ l, ¬ u.nm = v.nm := fun u hul hn => by
    unfold findV at h
    rw [List.find?_eq_none] at h
    exact absurd (decide_eq_true hn) (h u (List.mem_reverse.2 hul))
  intro a ha b hb hn
  simp only [List.mem_append, List.mem_singleton] at ha hb
  rcases ha with ha | rfl <;> rcases hb with hb | rfl
  · exact hu a ha b hb hn
  · exact absurd hn (h1 a ha)
  · exact absurd hn.symm (h1 b hb)
  · rfl
theorem isSome_no {α : Type} {x : Option α} (h : ¬ x.isSome = true) : x = none := by
  cases x with
  | none => rfl
  | some a => exact absurd rfl h
theorem head_chosen (hu : uniq l) (hs : ∀ u ∈ s, u ∈ l) {op : Nat} {a : Int} {nm : Str} {ks : List Ex} {b e : List Sm} {block : Nat} {l2 : List Vr} (hok : smOk (.mk op a nm ks b e) = true) (h : headK l op a nm ks block = .ok l2) :
    uniq l2 ∧ (∀ u ∈ l, u ∈ l2) ∧ kidsC s op ks.length 0 ks = true := by
  rcases sm_cases hok with ⟨rfl, hn1, rfl, rfl, x, rfl, hx⟩ | ⟨rfl, hn1, rfl, rfl, x, y, rfl, hx, hy⟩ | ⟨rfl, hn1, rfl, rfl, x, r, rfl, hx, hl⟩ | ⟨rfl, rfl, rfl, rfl, x, rfl, hx⟩ | ⟨rfl, hn1, rfl, hb, x, y, rfl, hx, hy⟩ | ⟨rfl, rfl, hb, he, x, rfl, hx⟩ | ⟨rfl, rfl, rfl, rfl, hb⟩
  · rw [headK, if_pos rfl] at h
    obtain ⟨_, h1, h2⟩ := andK_is h
    cases h2
    refine ⟨hu, fun u hu => hu, ?_⟩
    unfold setK at h1
    cases hf : findV l nm with
    | none => rw [hf] at h1; cases h1
    | some v =>
      rw [hf] at h1
      obtain ⟨_, _, h3⟩ := andK_is h1
      obtain ⟨k, h4, _⟩ := andK_is h3
      have hp := of_places hu hs x k hx h4
      refine kidsC_pl _ _ (by simpa using hp) (fun i y _ hc => ?_)
      simp [countB] at hc
  · rw [headK, if_pos rfl] at h
    obtain ⟨_, h1, h2⟩ := andK_is h
    cases h2
    refine ⟨hu, fun u hu => hu, ?_⟩
    unfold setK at h1
    cases hf : findV l nm with
    | none => rw [hf] at h1; cases h1
    | some v =>
      rw [hf] at h1
      obtain ⟨_, _, h3⟩ := andK_is h1
      obtain ⟨_, _, h3⟩ := andK_is h3
      obtain ⟨_, hc, h3⟩ := andK_is h3
      obtain ⟨k, h4, _⟩ := andK_is h3
      have hcx := count_hangs hu hs hx hc
      have hp := of_places hu hs y k hy h4
      refine kidsC_pl _ _ (by simp [hcx.2, hp]) (fun i z hz hc => ?_)
      have hi : i = 0 := by simpa [countB] using hc
      subst hi
      obtain rfl : x = z := by simpa using hz
      exact hcx.1
  · rw [headK, if_neg (by decide), if_neg (by decide), if_pos rfl] at h
    obtain ⟨_, h1, h2⟩ := andK_is h
    cases h2
    refine ⟨hu, fun u hu => hu, ?_⟩
    unfold distS at h1
    obtain ⟨_, _, h3⟩ := andK_is h1
    cases hf : distK nm with
    | none => rw [hf] at h3; cases h3
    | some d =>
      rw [hf] at h3
      obtain ⟨_, _, h3⟩ := andK_is h3
      obtain ⟨k, h4, h5⟩ := andK_is h3
      obtain ⟨_, _, h6⟩ := andK_is h5
      have hp := of_places hu hs x k hx h4
      have hr := args_places hu hs r 0 _ hl h6
      refine kidsC_pl _ _ (fun y hy => ?_) (fun i y _ hc => by simp [countB] at hc)
      rcases List.mem_cons.1 hy with rfl | hy
      · exact hp
      · exact hr y hy
  · rw [headK, if_neg (by decide), if_pos rfl] at h
    obtain ⟨_, _, h1⟩ := andK_is h
    obtain ⟨k, h2, h3⟩ := andK_is h1
    obtain ⟨_, _, h4⟩ := andK_is h3
    cases h4
    refine ⟨hu, fun u hu => hu, kidsC_pl _ _ (by simpa using of_places hu hs x k hx h2) (fun i y _ hc => by simp [countB] at hc)⟩
  · rw [headK, if_neg (by decide), if_neg (by decide), if_neg (by decide), if_pos rfl] at h
    split at h
    · cases h
    · rename_i hf
      obtain ⟨_, h1, h2⟩ := andK_is h
      cases h2
      have hc := eachK_is h1
      have hcx := count_hangs hu hs hx (hc x (by simp))
      have hcy := count_hangs hu hs hy (hc y (by simp))
      refine ⟨uniq_snoc hu (isSome_no hf), fun u hu => List.mem_append_left _ hu, kidsC_pl _ _ (by simp [hcx.2, hcy.2]) (fun i z hz _ => ?_)⟩
      have hz := List.mem_of_getElem? hz
      simp only [List.mem_cons, List.not_mem_nil, or_false] at hz
      rcases hz with rfl | rfl
      · exact hcx.1
      · exact hcy.1
  · rw [headK, if_neg (by decide), if_neg (by decide), if_neg (by decide), if_neg (by decide), if_pos rfl] at h
    obtain ⟨_, h1, h2⟩ := andK_is h
    cases h2
    have hc := eachK_is h1
    have hk : ∀ y ∈ x.kids, exOk y = true := by
      have h5 := hx
      simp only [cmpOk, Bool.and_eq_true] at h5
      have h6 := h5.2.2.2
      rw [exsOk_all, List.all_eq_true] at h6
      exact h6
    have hcx := cmp_hangs hx (fun y hy => count_hangs hu hs (hk y hy) (hc y hy))
    refine ⟨hu, fun u hu => hu, kidsC_pl _ _ (by simp [hcx.2]) (fun i z hz _ => ?_)⟩
    have hz := List.mem_of_getElem? hz
    obtain rfl : z = x := by simpa using hz
    exact hcx.1
  · have : l = l2 := by
      rw [headK, if_neg (by decide), if_neg (by decide), if_neg (by decide), if_neg (by decide), if_neg (by decide)] at h
      cases h; rfl
    subst this
    exact ⟨hu, fun u hu => hu, rfl⟩
end
mutual
theorem stmt_chosen {s : List Vr} {block : Nat} : ∀ (x : Sm) (l : List Vr) (u : Unit), uniq l → (∀ v ∈ s, v ∈ l) → smOk x = true → stmtK block l x = .ok u → chosenS s x = true
  | .mk op a nm ks b e, l, u, hu, hs, hok, h => by
    rw [stmtK] at h
    obtain ⟨l2, h1, h2⟩ := andK_is h
    obtain ⟨_, h3, h4⟩ := andK_is h2
    obtain ⟨g1, g2, g3⟩ := head_chosen hu hs hok h1
    have hb : smsOk b = true ∧ smsOk e = true := by
      rw [smOk] at hok
      simp only [Bool.and_eq_true] at hok
      exact hok.2
    rw [chosenS, g3, stmts_chosen b l2 _ g1 (fun v hv => g2 v (hs v hv)) hb.1 h3, stmts_chosen e l2 _ g1 (fun v hv => g2 v (hs v hv)) hb.2 h4]
    rfl
theorem stmts_chosen {s : List Vr} {block : Nat} : ∀ (x : List Sm) (l : List Vr) (u : Unit), uniq l → (∀ v ∈ s, v ∈ l) → smsOk x = true → stmtsK block l x = .ok u → chosenK s x = true
  | [], _, _, _, _, _, _ => by rw [chosenK]
  | x :: r, l, u, hu, hs, hok, h => by
    rw [stmtsK] at h
    obtain ⟨_, h1, h2⟩ := andK_is h
    rw [smsOk, Bool.and_eq_true] at hok
    rw [chosenK, stmt_chosen x l _ hu hs hok.1 h1, stmts_chosen r l u hu hs hok.2 h2]
    rfl
end
end Go.Knd
end

section
namespace Go.Knd
open Go.Tok Go.Tree
theorem declK_is {l l2 : List Vr} {d : Dc} {i : Nat} (h : declK l d i = .ok l2) : l2 = l ++ [⟨d.nm, d.ty, i, decide (2 ≤ i)⟩] ∧ findV l d.nm = none ∧ (∀ x ∈ d.size, countK l x = .ok ()) ∧ (∀ x ∈ d.lower ++ d.upper, boundK l d.ty i x = .ok ()) := by
  unfold declK at h
  split at h
  · cases h
  · rename_i hf
    obtain ⟨_, _, h2⟩ := andK_is h
    obtain ⟨_, h3, h4⟩ := andK_is h2
    obtain ⟨_, h5, h6⟩ := andK_is h4
    obtain ⟨_, _, h7⟩ := andK_is h6
    cases h7
    exact ⟨rfl, isSome_no hf, eachK_is h3, eachK_is h5⟩
theorem declsK_pre {i : Nat} : ∀ (ds : List Dc) (l l2 : List Vr), declsK i l ds = .ok l2 → l <+: l2
  | [], l, l2, h => by rw [declsK] at h; cases h; exact List.prefix_refl _
  | d :: ds, l, l2, h => by
    rw [declsK] at h
    obtain ⟨l3, h1, h2⟩ := andK_is h
    have h3 := (declK_is h1).1
    have h4 := declsK_pre ds l3 l2 h2
    rw [h3] at h4
    exact (List.prefix_append l _).trans h4
theorem blocksK_pre : ∀ (bs : List Bk) (i : Nat) (l l2 : List Vr), blocksK i l bs = .ok l2 → l <+: l2
  | [], i, l, l2, h => by rw [blocksK] at h; cases h; exact List.prefix_refl _
  | b :: bs, i, l, l2, h => by
    rw [blocksK] at h
    obtain ⟨l3, h1, h2⟩ := andK_is h
    obtain ⟨_, _, h3⟩ := andK_is h2
    exact (declsK_pre _ _ _ h1).trans (blocksK_pre bs (i + 1) l3 l2 h3)
def noB : Bk := ⟨false, [], []⟩
def cutB (d s : Nat) (b : Bk) : Bk := ⟨b.is, b.decls.take d, b.stmts.take s⟩
def cutP (n d s : Nat) : List Bk → List Bk
  | [] => []
  | b :: r => match n with
    | 0 => cutB d s b :: List.replicate r.length noB
    | n + 1 => b :: cutP n d s r
end Go.Knd
end

section
namespace Go.Knd
open Go.Tok Go.Tree
def Bad {α : Type} (X : Except Ft α) : Prop := ∀ f, X = .error f → f.1 ≠ 0
theorem bad_ok {α : Type} (a : α) : Bad (.ok a : Except Ft α) := fun f h => by cases h
theorem bad_er {α : Type} {c : Nat} {a : Int} (h : c ≠ 0) : Bad (.error (c, a) : Except Ft α) := fun f hf => by cases hf; exact h
theorem bad_and {α β : Type} {X : Except Ft α} {F : α → Except Ft β} (h : Bad X) (hF : ∀ a, Bad (F a)) : Bad (andK X F) := by
  cases X with
  | error e => intro f hf; rw [andK_no] at hf; cases hf; exact h e rfl
  | ok a => rw [andK_ok]; exact hF a
theorem bad_need (b : Bool) (a : Int) : Bad (needK b a) := by unfold needK; split; exact bad_ok _; exact bad_er (by decide)
theorem bad_each {α : Type} {f : α → Except Ft Unit} (h : ∀ x, Bad (f x)) : ∀ l : List α, Bad (eachK f l)
  | [] => by rw [eachK]; exact bad_ok _
  | x :: r => by rw [eachK]; exact bad_and (h x) fun _ => bad_each h r
theorem bad_of (l : List Vr) (e : Ex) : Bad (ofK l e) := fun f h => by have := of_code e f h; omega
theorem bad_par (p : Bool) (a : Int) : Bad (if p = true then (.error (153, a) : Except Ft Unit) else .ok ()) := by split; exact bad_er (by decide); exact bad_ok _
theorem bad_counted (e : Ex) (k : Nat × Bool) : Bad (countedK e k) := bad_and (bad_need _ _) fun _ => bad_par _ _
theorem bad_count (l : List Vr) (e : Ex) : Bad (countK l e) := bad_and (bad_of l e) fun _ => bad_counted _ _
mutual
theorem bad_smooth : ∀ e : Ex, Bad (smoothK e)
  | .mk op a nm ks => by rw [smoothK]; exact bad_and (bad_smooths ks) fun _ => bad_need _ _
theorem bad_smooths : ∀ l : List Ex, Bad (smoothsK l)
  | [] => by rw [smoothsK]; exact bad_ok _
  | x :: r => by rw [smoothsK]; exact bad_and (bad_smooth x) fun _ => bad_smooths r
end
theorem bad_bound (l : List Vr) (ty i : Nat) (e : Ex) : Bad (boundK l ty i e) :=
  bad_and (bad_need _ _) fun _ => bad_and (bad_of l e) fun _ => bad_and (bad_need _ _) fun _ => bad_and (by split; exact bad_smooth e; exact bad_ok _) fun _ => bad_par _ _
theorem bad_decl (l : List Vr) (d : Dc) (i : Nat) : Bad (declK l d i) := by
  unfold declK
  split
  · exact bad_er (by decide)
  · exact bad_and (bad_need _ _) fun _ => bad_and (bad_each (bad_count l) _) fun _ => bad_and (bad_each (bad_bound l _ _) _) fun _ => bad_and (bad_each (fun e => bad_and (bad_of l e) fun _ => bad_need _ _) _) fun _ => bad_ok _
theorem bad_set (l : List Vr) (a : Int) (nm : Str) (ks : List Ex) (i : Nat) : Bad (setK l a nm ks i) := by
  unfold setK
  split
  · exact bad_er (by decide)
  · refine bad_and (bad_need _ _) fun _ => ?_
    split
    · exact bad_and (bad_of l _) fun _ => bad_need _ _
    · exact bad_and (bad_need _ _) fun _ => bad_and (bad_count l _) fun _ => bad_and (bad_of l _) fun _ => bad_need _ _
    · exact bad_ok _
theorem bad_args (l : List Vr) (t m : Nat) : ∀ (ks : List Ex) (i : Nat), Bad (argsK l t m i ks)
  | [], i => by rw [argsK]; exact bad_ok _
  | x :: r, i => by
    rw [argsK]
    exact bad_and (bad_of l x) fun _ => bad_and (bad_need _ _) fun _ => bad_and (by split; exact bad_er (by decide); exact bad_ok _) fun _ => bad_args l t m r (i + 1)
theorem bad_dist (l : List Vr) (a : Int) (nm : Str) (ks : List Ex) (i : Nat) : Bad (distS l a nm ks i) := by
  unfold distS
  refine bad_and (bad_need _ _) fun _ => ?_
  split
  · exact bad_er (by decide)
  · refine bad_and (bad_need _ _) fun _ => ?_
    split
    · exact bad_ok _
    · exact bad_and (bad_of l _) fun _ => bad_and (bad_need _ _) fun _ => bad_args l _ _ _ _
theorem bad_head (l : List Vr) (op : Nat) (a : Int) (nm : Str) (ks : List Ex) (i : Nat) : Bad (headK l op a nm ks i) := by
  unfold headK
  split
  · exact bad_and (bad_set _ _ _ _ _) fun _ => bad_ok _
  · split
    · refine bad_and (bad_need _ _) fun _ => ?_
      split
      · exact bad_ok _
      · exact bad_and (bad_of l _) fun _ => bad_and (bad_need _ _) fun _ => bad_ok _
    · split
      · exact bad_and (bad_dist _ _ _ _ _) fun _ => bad_ok _
      · split
        · split
          · exact bad_er (by decide)
          · exact bad_and (bad_each (bad_count l) _) fun _ => bad_ok _
        · split
          · split
            · exact bad_ok _
            · exact bad_and (bad_each (bad_count l) _) fun _ => bad_ok _
          · exact bad_ok _
mutual
theorem bad_stmt (i : Nat) : ∀ (l : List Vr) (s : Sm), Bad (stmtK i l s)
  | l, .mk op a nm ks b e => by rw [stmtK]; exact bad_and (bad_head _ _ _ _ _ _) fun l2 => bad_and (bad_stmts i l2 b) fun _ => bad_stmts i l2 e
theorem bad_stmts (i : Nat) : ∀ (l : List Vr) (s : List Sm), Bad (stmtsK i l s)
  | l, [] => by rw [stmtsK]; exact bad_ok _
  | l, s :: r => by rw [stmtsK]; exact bad_and (bad_stmt i l s) fun _ => bad_stmts i l r
end
theorem bad_decls (i : Nat) : ∀ (ds : List Dc) (l : List Vr), Bad (declsK i l ds)
  | [], l => by rw [declsK]; exact bad_ok _
  | d :: r, l => by rw [declsK]; exact bad_and (bad_decl l d i) fun l2 => bad_decls i r l2
theorem bad_blocks : ∀ (bs : List Bk) (i : Nat) (l : List Vr), Bad (blocksK i l bs)
  | [], i, l => by rw [blocksK]; exact bad_ok _
  | b :: r, i, l => by rw [blocksK]; exact bad_and (bad_decls i _ _) fun l2 => bad_and (bad_stmts i l2 _) fun _ => bad_blocks r (i + 1) l2
theorem bad_all (p : List Bk) : Bad (allK p) := by
  unfold allK
  split
  · exact bad_blocks _ _ _
  · exact bad_er (by decide)
theorem declsK_len {i : Nat} : ∀ (ds : List Dc) (l l2 : List Vr), declsK i l ds = .ok l2 → l2.length = l.length + ds.length
  | [], l, l2, h => by rw [declsK] at h; cases h; rfl
  | d :: r, l, l2, h => by
    rw [declsK] at h
    obtain ⟨l3, h1, h2⟩ := andK_is h
    have h3 := (declK_is h1).1
    have h4 := declsK_len r l3 l2 h2
    rw [h4, h3]; simp only [List.length_append, List.length_cons, List.length_nil]; omega
theorem blocksK_len {m : Nat} : ∀ (bs : List Bk) (i : Nat) (l l2 : List Vr), (∀ b ∈ bs, b.decls.length ≤ m) → blocksK i l bs = .ok l2 → l2.length ≤ l.length + bs.length * m
  | [], i, l, l2, _, h => by rw [blocksK] at h; cases h; exact Nat.le_add_right _ _
  | b :: r, i, l, l2, hb, h => by
    rw [blocksK] at h
    obtain ⟨l3, h1, h2⟩ := andK_is h
    obtain ⟨_, _, h3⟩ := andK_is h2
    have h4 := declsK_len b.decls l l3 h1
    have h5 := blocksK_len r (i + 1) l3 l2 (fun c hc => hb c (.tail _ hc)) h3
    have h6 := hb b (.head _)
    rw [List.length_cons, Nat.add_mul, Nat.one_mul]; omega
theorem allK_len {p : List Bk} {m : Nat} {l : List Vr} (lp : p.length = 6) (hb : ∀ b ∈ p, b.decls.length ≤ m) (h : allK p = .ok l) : l.length ≤ 6 * m := by
  unfold allK at h
  split at h
  · have h1 := blocksK_len p 0 [] l hb h
    rw [lp, List.length_nil, Nat.zero_add] at h1; exact h1
  · cases h
end Go.Knd
end

section
namespace Go.Sx
open Go.RowKit Go.Tree Go.Tok Go.Knd
section
variable {P : Program} {c : Cf} {e : Env} {B : Base} {L : Heap} {rest : List Oper} {d : Nat} {ρ : Operand → Value} {D : Option Tmp} {g : Option (Nat × Bool)} {x y : Operand} {T : TypeId} {p : String} {ed : Array Edge} {t : Nat} {w : World}
end
section
variable {P : Program} {t : TypeId} {w : World}
end
section
variable {P : Program} {ops : Array Oper} {Q : Exit → Act → World → Prop} {c : Cf} {e : Env} {B : Base} {L : Heap} {fuel d : Nat} {S : World → Prop} {listed : Array Bool} {v : Value}
end
theorem vrsV.take {w : World} {N : Nat → Prop} {l : List Vr} {b : Option Addr × Nat} (h : vrsV w N l b) (k : Nat) : vrsV w N (l.take k) b := by
  refine ⟨Nat.le_trans (by rw [List.length_take]; omega) h.1, fun j v hj => h.2 j v ?_⟩
  rw [List.getElem?_take] at hj
  split at hj
  · exact hj
  · cases hj
theorem smsM.take {w : World} {N : Nat → Prop} {a : Option Addr} : ∀ (l : List Sm) (i k : Nat), smsM w N l a i → smsM w N (l.take k) a i
  | _, i, 0, _ => by rw [List.take_zero]; unfold smsM; trivial
  | [], i, k + 1, _ => by rw [List.take_nil]; unfold smsM; trivial
  | x :: l, i, k + 1, h => by
    unfold smsM at h
    rw [List.take_succ_cons]
    unfold smsM
    exact ⟨h.1, smsM.take l _ k h.2⟩
theorem dcsM.take {w : World} {N : Nat → Prop} {a : Option Addr} {l : List Dc} (h : dcsM w N l a) (k : Nat) : dcsM w N (l.take k) a := fun j d hj => by
  rw [List.getElem?_take] at hj
  split at hj
  · exact h j d hj
  · cases hj
theorem put_ne {α : Type} {cs c : List α} {i j : Nat} (hl : cs.length = 18) (hc : c.length = 3) (hi : i < 6) (hj : j ≠ i) : ((cs.take (i * 3) ++ c ++ cs.drop (i * 3 + 3)).drop (j * 3)).take 3 = (cs.drop (j * 3)).take 3 := by
  have l1 : (cs.take (i * 3)).length = i * 3 := by rw [List.length_take]; omega
  refine List.ext_getElem? fun k => ?_
  rw [List.getElem?_take, List.getElem?_take, List.getElem?_drop, List.getElem?_drop]
  split
  · rename_i hk
    rw [List.append_assoc]
    by_cases h2 : j < i
    · rw [List.getElem?_append_left (by omega), List.getElem?_take, if_pos (by omega)]
    · rw [List.getElem?_append_right (by omega), List.getElem?_append_right (by omega), List.getElem?_drop, l1, hc]
      congr 1; omega
  · rfl
theorem pgM.put {w : World} {N : Nat → Prop} {p : List Bk} {cs c : List Value} {i : Nat} {b : Bk} (h : pgM w N p cs) (hi : i < 6) (hc : c.length = 3) (hb : bkM w N b c) : pgM w N (p.set i b) (cs.take (i * 3) ++ c ++ cs.drop (i * 3 + 3)) := by
  have h6 := h.six
  have hl := h.len
  have l1 : (cs.take (i * 3)).length = i * 3 := by rw [List.length_take]; omega
  refine ⟨by rw [List.length_set]; exact h6, by simp only [List.length_append, List.length_drop, l1, hc]; omega, fun j x hx => ?_⟩
  by_cases hj : j = i
  · subst hj
    rw [List.getElem?_set_self (by omega)] at hx
    obtain rfl := Option.some.inj hx
    rw [List.append_assoc, List.drop_append_of_le_length (by omega), List.drop_of_length_le (by omega), List.nil_append, List.take_append_of_le_length (by omega), List.take_of_length_le (by omega)]
    exact hb
  · rw [List.getElem?_set_ne (by omega)] at hx
    have h1 := h.one j x hx
    rw [put_ne hl hc hi hj]; exact h1
theorem pgM.cells {w : World} {N : Nat → Prop} {p : List Bk} {cs c : List Value} {i j : Nat} (_ : pgM w N p cs) (h : (cs.drop (i * 3)).take 3 = c) {v : Value} (hv : c[j]? = some v) : cs[i * 3 + j]? = some v := by
  subst h
  rw [List.getElem?_take] at hv
  split at hv
  · rwa [List.getElem?_drop] at hv
  · cases hv
end Go.Sx
end

section
namespace Go.Proofs.YtoehjlmdnajibaaGreatDoor
open Go.RowKit Go.Sx
open Go.Tok Go.Tree Go.Knd Go.Prs

theorem kVars_at (p : List Bk) (cs : List Value) (w : World) (hp : ∀ b ∈ p, bkW b < 10000000) (hm : pgM w (fun _ => True) p cs) (hW : Wd w) {l : List Vr} (hX : allK p = .ok l) : Ret Tryz.prog 16 #[.agg cs.toArray] w fun v w' => ∃ b : Option Addr × Nat, v = vsV l b ∧ vrsW w' (Nn w w') l b ∧ Ext w w' := by
 have h := kVars_ok p cs w hp hm hW
 rw [outV_ok hX] at h; exact h
theorem kCheck_at (p : List Bk) (cs : List Value) (w : World) (hp : ∀ b ∈ p, bkW b < 10000000) (hm : pgM w (fun _ => True) p cs) (hW : Wd w) {l : List Vr} (hX : allK p = .ok l) : Ret Tryz.prog 14 #[.agg cs.toArray] w fun v w' => v = .agg #[.int .i64 0, .int .i64 0] ∧ Ext w w' := by
 have h := kCheck_ok p cs w hp hm hW
 rw [outV_ok hX] at h; exact h
theorem kCheck_er (p : List Bk) (cs : List Value) (w : World) (hp : ∀ b ∈ p, bkW b < 10000000) (hm : pgM w (fun _ => True) p cs) (hW : Wd w) {f : Ft} (hX : allK p = .error f) : Ret Tryz.prog 14 #[.agg cs.toArray] w fun v w' => v = .agg #[.int .i64 (f.1 : Nat), .int .i64 f.2] ∧ Ext w w' := by
 have h := kCheck_ok p cs w hp hm hW
 rw [outV_er hX] at h; exact h
def capB (b : Bk) (c : List Value) : Prop := ∃ da dc sa sc, c = [.bool b.is, .slice da b.decls.length dc, .slice sa b.stmts.length sc] ∧ b.decls.length ≤ dc ∧ b.stmts.length ≤ sc
end Go.Proofs.YtoehjlmdnajibaaGreatDoor
end

section
namespace Go.Knd
open Go.Tok Go.Tree
theorem boundK_is {l : List Vr} {ty i : Nat} {e : Ex} {u : Unit} (h : boundK l ty i e = .ok u) : ∃ t, ofK l e = .ok (t, false) := by
  unfold boundK at h
  obtain ⟨_, _, h1⟩ := andK_is h
  obtain ⟨⟨t, p⟩, h2, h3⟩ := andK_is h1
  obtain ⟨_, _, h4⟩ := andK_is h3
  obtain ⟨_, _, h5⟩ := andK_is h4
  cases p with
  | false => exact ⟨t, h2⟩
  | true => cases h5
theorem free_hangs {l s : List Vr} (hu : uniq l) (hs : ∀ u ∈ s, u ∈ l) {e : Ex} {t : Nat} (hok : exOk e = true) (h : ofK l e = .ok (t, false)) : hangsK s e = false := by
  cases hh : hangsK s e with
  | false => rfl
  | true => have := of_hangs hu hs e _ hok h hh; cases this
theorem declsK_step {i : Nat} {l l2 : List Vr} {d : Dc} {ds : List Dc} (hu : uniq l) (hok : dcOk d = true) (h : declsK i l (d :: ds) = .ok l2) :
    (∀ e ∈ (d.size ++ d.lower) ++ d.upper, hangsK l e = false) ∧ l.length < l2.length ∧ l2[l.length]? = some ⟨d.nm, d.ty, i, decide (2 ≤ i)⟩ ∧ uniq (l ++ [⟨d.nm, d.ty, i, decide (2 ≤ i)⟩]) ∧ declsK i (l ++ [⟨d.nm, d.ty, i, decide (2 ≤ i)⟩]) ds = .ok l2 := by
  rw [declsK] at h
  obtain ⟨l3, h1, h2⟩ := andK_is h
  obtain ⟨rfl, h3, h4, h5⟩ := declK_is h1
  simp only [dcOk, partOk, Bool.and_eq_true, exsOk_all, List.all_eq_true] at hok
  obtain ⟨_, k1, k2, k3, _⟩ := hok
  have hp := declsK_pre ds _ l2 h2
  obtain ⟨r, rfl⟩ := hp
  refine ⟨fun e he => ?_, by simp, by simp, uniq_snoc hu h3, h2⟩
  rcases List.mem_append.1 he with he | he
  · rcases List.mem_append.1 he with he | he
    · obtain ⟨t, ht⟩ := countK_is (h4 e he)
      exact free_hangs hu (fun u hu => hu) (k1.2 e he) ht
    · obtain ⟨t, ht⟩ := boundK_is (h5 e (List.mem_append_left _ he))
      exact free_hangs hu (fun u hu => hu) (k2.2 e he) ht
  · obtain ⟨t, ht⟩ := boundK_is (h5 e (List.mem_append_right _ he))
    exact free_hangs hu (fun u hu => hu) (k3.2 e he) ht
theorem declsK_uniq {i : Nat} : ∀ (ds : List Dc) (l l2 : List Vr), uniq l → declsK i l ds = .ok l2 → uniq l2
  | [], l, l2, hu, h => by rw [declsK] at h; cases h; exact hu
  | d :: ds, l, l2, hu, h => by
    rw [declsK] at h
    obtain ⟨l3, h1, h2⟩ := andK_is h
    obtain ⟨rfl, h3, _⟩ := declK_is h1
    exact declsK_uniq ds _ l2 (uniq_snoc hu h3) h2
theorem blocksK_step {i : Nat} {l l2 : List Vr} {b : Bk} {bs : List Bk} (hu : uniq l) (hok : bkOk i b = true) (h : blocksK i l (b :: bs) = .ok l2) :
    ∃ l3, declsK i l b.decls = .ok l3 ∧ uniq l3 ∧ l3 <+: l2 ∧ chosenK l3 b.stmts = true ∧ blocksK (i + 1) l3 bs = .ok l2 := by
  rw [blocksK] at h
  obtain ⟨l3, h1, h2⟩ := andK_is h
  obtain ⟨_, h3, h4⟩ := andK_is h2
  have hu3 := declsK_uniq _ _ _ hu h1
  have hs := (bk_facts hok).2.1
  exact ⟨l3, h1, hu3, blocksK_pre bs (i + 1) l3 l2 h4, stmts_chosen b.stmts l3 _ hu3 (fun v hv => hv) hs h3, h4⟩
theorem uniq_nil : uniq [] := fun v hv => by cases hv
end Go.Knd
end

section
namespace Go.Knd
open Go.Tok Go.Tree
theorem hangsS_mem {l : List Vr} : ∀ {ks : List Ex}, hangsS l ks = false → ∀ x ∈ ks, hangsK l x = false
  | [], _, x, hx => by cases hx
  | k :: r, h, x, hx => by
    rw [hangsS, Bool.or_eq_false_iff] at h
    rcases List.mem_cons.1 hx with rfl | hx
    · exact h.1
    · exact hangsS_mem h.2 x hx
theorem placesS_mem {l : List Vr} : ∀ {ks : List Ex}, placesS l ks = true → ∀ x ∈ ks, placesK l x = true
  | [], _, x, hx => by cases hx
  | k :: r, h, x, hx => by
    rw [placesS, Bool.and_eq_true] at h
    rcases List.mem_cons.1 hx with rfl | hx
    · exact h.1
    · exact placesS_mem h.2 x hx
theorem hangs_parts {l : List Vr} {op : Nat} {a : Int} {nm : Str} {ks : List Ex} (h : hangsK l (.mk op a nm ks) = false) :
    ((op = 2 ∨ op = 3) → ∀ v ∈ l, v.nm = nm → v.par = false) ∧ (¬ (op = 4 ∧ nm = szS) → ∀ x ∈ ks, hangsK l x = false) := by
  rw [hangsK, Bool.or_eq_false_iff] at h
  obtain ⟨h1, h2⟩ := h
  refine ⟨fun ho v hv hn => ?_, fun hn => ?_⟩
  · have h3 : parS l nm = false := by
      rcases ho with rfl | rfl <;> simpa using h1
    unfold parS at h3
    rw [List.any_eq_false] at h3
    have h4 := h3 v hv
    simp only [Bool.and_eq_true, decide_eq_true_eq, not_and, Bool.not_eq_true] at h4
    exact h4 hn
  · have h3 : (!(decide (op = 4) && decide (nm = szS))) = true := by
      rw [Bool.not_eq_true', Bool.and_eq_false_iff]
      by_cases h4 : op = 4
      · exact .inr (decide_eq_false fun h5 => hn ⟨h4, h5⟩)
      · exact .inl (decide_eq_false h4)
    rw [h3, Bool.true_and] at h2
    exact hangsS_mem h2
theorem places_parts {l : List Vr} {op : Nat} {a : Int} {nm : Str} {ks : List Ex} (h : placesK l (.mk op a nm ks) = true) : (op = 3 → ∀ x ∈ ks, hangsK l x = false) ∧ ∀ x ∈ ks, placesK l x = true := by
  rw [placesK, Bool.and_eq_true] at h
  refine ⟨fun ho => ?_, placesS_mem h.2⟩
  have h1 := h.1
  rw [ho] at h1
  exact hangsS_mem (by simpa using h1)
theorem kidsC_at {s : List Vr} {op n : Nat} : ∀ {ks : List Ex} {k i : Nat} {x : Ex}, kidsC s op n k ks = true → ks[i]? = some x → (countB op n (k + i) = true → hangsK s x = false) ∧ placesK s x = true
  | [], k, i, x, _, h => by simp at h
  | y :: r, k, 0, x, h, hx => by
    obtain rfl : y = x := by simpa using hx
    rw [kidsC, Bool.and_eq_true, Bool.and_eq_true] at h
    refine ⟨fun hc => ?_, h.1.2⟩
    have h1 := h.1.1
    rw [Nat.add_zero] at hc
    rw [hc, Bool.true_and] at h1
    simpa using h1
  | y :: r, k, i + 1, x, h, hx => by
    rw [kidsC, Bool.and_eq_true] at h
    have h1 := kidsC_at (k := k + 1) (i := i) h.2 (by simpa using hx)
    rwa [show k + 1 + i = k + (i + 1) by omega] at h1
theorem chosen_parts {s : List Vr} {op : Nat} {a : Int} {nm : Str} {ks : List Ex} {b e : List Sm} (h : chosenS s (.mk op a nm ks b e) = true) :
    (∀ (i : Nat) x, ks[i]? = some x → (op = 4 ∨ op = 5 ∨ (op = 1 ∧ i = 0 ∧ ks.length = 2) → hangsK s x = false) ∧ placesK s x = true) ∧ chosenK s b = true ∧ chosenK s e = true := by
  rw [chosenS, Bool.and_eq_true, Bool.and_eq_true] at h
  refine ⟨fun i x hx => ?_, h.2⟩
  have h1 := kidsC_at h.1 hx
  rw [Nat.zero_add] at h1
  refine ⟨fun hc => h1.1 ?_, h1.2⟩
  simp only [countB, Bool.or_eq_true, Bool.and_eq_true, decide_eq_true_eq]
  omega
theorem chosenK_mem {s : List Vr} : ∀ {l : List Sm}, chosenK s l = true → ∀ x ∈ l, chosenS s x = true
  | [], _, x, hx => by cases hx
  | y :: r, h, x, hx => by
    rw [chosenK, Bool.and_eq_true] at h
    rcases List.mem_cons.1 hx with rfl | hx
    · exact h.1
    · exact chosenK_mem h.2 x hx
end Go.Knd
end
