/- Layer 15, KindBegins: a beginning of a program that may be, in its blocks, declarations and statements, may be, too, and its variables are the first ones. Part 14 of 15. -/
import Derived.Test.YtoehjlmdnajibaaGreatDoorB13
set_option maxRecDepth 100000
set_option maxHeartbeats 16000000
section
namespace Go.Proofs.YtoehjlmdnajibaaGreatDoor
open Go.RowKit Go.Sx
open Go.Tok Go.Tree


def RNodesP (n : Nat) : Prop := ∀ (l : List Ex) (a : Option Addr) (c : Nat) (N : Nat → Prop) (w : World), exsW l < n → l.length ≤ 10000000 → exsM w N l a 0 →
    Ret Tryz.prog 37 #[.slice a l.length c] w fun v w' => v = .int .i64 (exsN l : Nat) ∧ Ext w w'
def RLongP (n : Nat) : Prop := ∀ (l : List Ex) (a : Option Addr) (c : Nat) (N : Nat → Prop) (w : World), exsW l < n → l.length ≤ 10000000 → exsM w N l a 0 →
    Ret Tryz.prog 29 #[.slice a l.length c] w fun v w' => v = .bool (exsLong l) ∧ Ext w w'

theorem rnodes_step (n : Nat) (ih : RNodesP n) (hN : n ≤ 10000000) (l : List Ex) (a : Option Addr) (c : Nat) (N : Nat → Prop) (w : World) (hl : exsW l < n + 1) (hll : l.length ≤ 10000000) (hm : exsM w N l a 0) :
    Ret Tryz.prog 37 #[.slice a l.length c] w (fun v w' => v = .int .i64 (exsN l : Nat) ∧ Ext w w') := by
  refine enter (S := No) (l := [_]) (L := []) 21 Tryz.func37 rfl rfl rfl (St.start w No) (yA (aI rfl (yC (aI rfl (yB (zq (yA (aI rfl (yB (zB (c_loop (fun m e B L => ∃ (k : Nat), e 0 = .slice a l.length c ∧ e 3 = .int .i64 (exsN (l.take k) : Nat) ∧ e 4 = .int .i64 (k : Nat) ∧ B = [(w, No)] ∧ L = [] ∧ k ≤ l.length ∧ m = l.length - k) _ ⟨0, rfl, rfl, rfl, rfl, rfl, Nat.zero_le _, rfl⟩ ?_)))))))))))
  rintro m e B L ⟨k, e0_1, e3_1, e4_1, rfl, rfl, hk, rfl⟩
  refine zq (yA (mI e4_1 (mS e0_1 (zg (fun _ => R_len sl47 rfl) (zg (fun _ => R_lt rfl rfl) (yB ?_)))))); refine zD rfl (fun h1 => ?_) (fun h1 => ?_)
  · have hlt : k < l.length := (by omega); obtain ⟨x, hxk⟩ : ∃ x, l[k]? = some x := ⟨_, List.getElem?_eq_getElem hlt⟩; obtain ⟨cs, hA, hE⟩ := hm.get0 hxk; have hxn := exsW_mem (List.mem_of_getElem? hxk); have hle := exsN_take l (k + 1); have hnx := exsN_next hxk; have hlN := exsN_le l; obtain ⟨b1, o1, rfl⟩ := hA.ptr; obtain ⟨op, at_, nm, ks⟩ := x; have hE2 := hE; unfold exM at hE2; obtain ⟨ka, kc, rfl, hkc, hks⟩ := hE2; have hxw := hxn; unfold exW at hxw; have hxN := hnx; unfold exN at hxN; have hkN := exsN_le ks
    refine zi (zk (zq (zB (zr (mI e3_1 (zg (fun _ => R_addi rfl rfl (by omega)) (mS e0_1 (mI e4_1 (zg (fun _ => R_iaN (i := k) sl47 rfl rfl (by omega)) (zf fa52_3 rfl (zl z47 rfl (fun _ h => hA.cell (fun _ _ hh => hh) zm0 h 3 _ rfl) (zC (fun w => zR Tryz.func37 rfl rfl rfl) rfl rfl (fun w h => ih ks ka kc N w (by omega) (by omega) (hks.now (fun _ _ hh => hh) zm0 h)) (zg (fun _ => R_addi rfl rfl (by omega)) (aI rfl (zn (zO (zk (zr (mI e4_1 (zg (fun _ => R_addi rfl rfl (by omega)) (aI rfl (zn ?_))))))))))))))))))))))
    have hfin : ((exsN (l.take k) : Nat) : Int) + 1 + ((exsN ks : Nat) : Int) = ((exsN (l.take (k + 1)) : Nat) : Int) := by omega
    exact k_again _ (by omega) ⟨k + 1, e0_1, (congrArg (Value.int .i64) hfin), rfl, rfl, rfl, by omega, rfl⟩
  · refine zX (zx (zx (b_here rfl (zk (yA (mI e3_1 (aI rfl (yB (ze (zo (v := .int _ _) rfl rfl rfl ?_)))))))))); exact fun w' hw => ⟨by rw [List.take_of_length_le (by omega)], hw.fr _ zm0⟩


theorem rnodes_all : ∀ n : Nat, n ≤ 10000000 → RNodesP n
  | 0, _ => fun _ _ _ _ _ h => absurd h (Nat.not_lt_zero _)
  | n + 1, h => rnodes_step n (rnodes_all n (by omega)) (by omega)
theorem rnodes_ok : RNodesP 10000000 := rnodes_all _ (Nat.le_refl _)

theorem rlong_step (n : Nat) (ih : RLongP n) (hN : n ≤ 10000000) (l : List Ex) (a : Option Addr) (c : Nat) (N : Nat → Prop) (w : World) (hl : exsW l < n + 1) (hll : l.length ≤ 10000000) (hm : exsM w N l a 0) :
    Ret Tryz.prog 29 #[.slice a l.length c] w (fun v w' => v = .bool (exsLong l) ∧ Ext w w') := by
  refine enter (S := No) (l := [_]) (L := []) 25 Tryz.func29 rfl rfl rfl (St.start w No) (yA (aB rfl (yB (zq (yA (aI rfl (yB (zB (c_loop (fun m e B L => ∃ (k : Nat), e 0 = .slice a l.length c ∧ e 3 = .int .i64 (k : Nat) ∧ B = [(w, No)] ∧ L = [] ∧ k ≤ l.length ∧ (∀ y ∈ l.take k, exLong y = false) ∧ m = l.length - k) _ ⟨0, rfl, rfl, rfl, rfl, Nat.zero_le _, (by simp), rfl⟩ ?_)))))))))
  rintro m e B L ⟨k, e0_1, e3_1, rfl, rfl, hk, hy, rfl⟩
  refine zq (yA (mI e3_1 (mS e0_1 (zg (fun _ => R_len sl47 rfl) (zg (fun _ => R_lt rfl rfl) (yB ?_)))))); refine zD rfl (fun h1 => ?_) (fun h1 => ?_)
  · have hlt : k < l.length := (by omega); obtain ⟨x, hxk⟩ : ∃ x, l[k]? = some x := ⟨_, List.getElem?_eq_getElem hlt⟩; obtain ⟨cs, hA, hE⟩ := hm.get0 hxk; have hxn := exsW_mem (List.mem_of_getElem? hxk); have hle := exsN_take l (k + 1); have hnx := exsN_next hxk; have hlN := exsN_le l; obtain ⟨b1, o1, rfl⟩ := hA.ptr; obtain ⟨op, at_, nm, ks⟩ := x; have hE2 := hE; unfold exM at hE2; obtain ⟨ka, kc, rfl, hkc, hks⟩ := hE2; have hxw := hxn; unfold exW at hxw; have hxN := hnx; unfold exN at hxN; have hkN := exsN_le ks
    refine zi (zk (zq (zB (yA (mS e0_1 (mI e3_1 (zg (fun _ => R_iaN (i := k) sl47 rfl rfl (by omega)) (zf fa52_2 rfl ?_)))))))); refine zl z9 rfl (fun _ h => by exact hA.cell (fun _ _ hh => hh) zm0 h 2 _ rfl) ?_; refine zg (fun _ => R_slen st9 rfl (by omega)) (zg (fun _ => R_gt rfl rfl) (mB rfl ?_)); refine zd (t := 17) rfl (fun h2 => ?_) (fun h2 => ?_)
    · refine zs rfl rfl (bT h2) (zs rfl rfl (bT h2) (zs rfl rfl (bT h2) (zs rfl rfl (bT h2) (zs rfl rfl (bT h2) (zs rfl rfl (bT h2) (zg (v := .bool _) (fun _ => zT (bT h2) rfl) (yB (zE rfl (yA (aB rfl (yB (ze (zb (zt (zt (zb (zt ((zo (v := .bool _) rfl rfl rfl ?_))))))))))))))))))); exact fun w' hw => ⟨by rw [exsLong_any]; (rw [any_yes hxk (by (try clear ih hm hA hE hks hw hl hxn hle hnx hxN hxw hy hlN hkN e0_1 e3_1); simp only [exLong]; grind)]; done), hw.fr _ zm0⟩
    · refine zw rfl rfl (bF h2) (mS e0_1 (zw rfl rfl (bF h2) (mI e3_1 (zw rfl rfl (bF h2) (zg (fun _ => R_iaN (i := k) sl47 rfl rfl (by omega)) (zw rfl rfl (bF h2) (zf fa52_3 rfl (zw rfl rfl (bF h2) ?_)))))))); refine zl z47 rfl (fun _ h => by exact hA.cell (fun _ _ hh => hh) zm0 h 3 _ rfl) ?_; refine zw rfl rfl (bF h2) (zC (fun w => zR Tryz.func29 rfl rfl rfl) rfl rfl (fun w h => ih ks ka kc N w (by omega) (by omega) (hks.now (fun _ _ hh => hh) zm0 h)) (zg (v := .bool _) (fun _ => zF (bF h2) rfl) (yB ?_))); refine c_cond rfl (fun h3 => ?_) (fun h3 => ?_)
      · refine yA (aB rfl (yB (ze (zb (zt (zt (zb (zt ((zo (v := .bool _) rfl rfl rfl ?_)))))))))); exact fun w' hw => ⟨by rw [exsLong_any]; (rw [any_yes hxk (by (try clear ih hm hA hE hks hw hl hxn hle hnx hxN hxw hy hlN hkN e0_1 e3_1); simp only [exLong]; grind)]; done), hw.fr _ zm0⟩
      · refine zi (zO (zk (zr (mI e3_1 (zg (fun _ => R_addi rfl rfl (by omega)) (aI rfl (zn ?_))))))); exact k_again _ (by omega) ⟨k + 1, e0_1, rfl, rfl, rfl, by omega, take_all hy hxk (by (try clear ih hm hA hE hks hl hxn hle hnx hxN hxw hy hlN hkN e0_1 e3_1); simp only [exLong]; grind), rfl⟩
  · refine zX (zx (zx (b_here rfl (zk (yA (aB rfl (yB (ze (zo (v := .bool _) rfl rfl rfl ?_))))))))); exact fun w' hw => ⟨by rw [exsLong_any]; (rw [any_of_take hy (by omega)]; done), hw.fr _ zm0⟩


theorem rlong_all : ∀ n : Nat, n ≤ 10000000 → RLongP n
  | 0, _ => fun _ _ _ _ _ h => absurd h (Nat.not_lt_zero _)
  | n + 1, h => rlong_step n (rlong_all n (by omega)) (by omega)
theorem rlong_ok : RLongP 10000000 := rlong_all _ (Nat.le_refl _)
def RNodesOfP (n : Nat) : Prop := ∀ (l : List Sm) (a : Option Addr) (c : Nat) (N : Nat → Prop) (w : World), smsW l < n → l.length ≤ 10000000 → smsM w N l a 0 →
    Ret Tryz.prog 45 #[.slice a l.length c] w fun v w' => v = .int .i64 (smsN l : Nat) ∧ Ext w w'
def RLongOfP (n : Nat) : Prop := ∀ (l : List Sm) (a : Option Addr) (c : Nat) (N : Nat → Prop) (w : World), smsW l < n → l.length ≤ 10000000 → smsM w N l a 0 →
    Ret Tryz.prog 28 #[.slice a l.length c] w fun v w' => v = .bool (smsLong l) ∧ Ext w w'

theorem rnodesOf_step (n : Nat) (ih : RNodesOfP n) (hN : n ≤ 10000000) (l : List Sm) (a : Option Addr) (c : Nat) (N : Nat → Prop) (w : World) (hl : smsW l < n + 1) (hll : l.length ≤ 10000000) (hm : smsM w N l a 0) :
    Ret Tryz.prog 45 #[.slice a l.length c] w (fun v w' => v = .int .i64 (smsN l : Nat) ∧ Ext w w') := by
  refine enter (S := No) (l := [_]) (L := []) 35 Tryz.func45 rfl rfl rfl (St.start w No) (yA (aI rfl (yC (aI rfl (yB (zq (yA (aI rfl (yB (zB (c_loop (fun m e B L => ∃ (k : Nat), e 0 = .slice a l.length c ∧ e 3 = .int .i64 (smsN (l.take k) : Nat) ∧ e 4 = .int .i64 (k : Nat) ∧ B = [(w, No)] ∧ L = [] ∧ k ≤ l.length ∧ m = l.length - k) _ ⟨0, rfl, rfl, rfl, rfl, rfl, Nat.zero_le _, rfl⟩ ?_)))))))))))
  rintro m e B L ⟨k, e0_1, e3_1, e4_1, rfl, rfl, hk, rfl⟩
  refine zq (yA (mI e4_1 (mS e0_1 (zg (fun _ => R_len sl27 rfl) (zg (fun _ => R_lt rfl rfl) (yB ?_)))))); refine zD rfl (fun h1 => ?_) (fun h1 => ?_)
  · have hlt : k < l.length := (by omega); obtain ⟨x, hxk⟩ : ∃ x, l[k]? = some x := ⟨_, List.getElem?_eq_getElem hlt⟩; obtain ⟨cs, hA, hE⟩ := hm.get0 hxk; have hxn := smsW_mem (List.mem_of_getElem? hxk); have hle := smsN_take l (k + 1); have hnx := smsN_next hxk; have hlN := smsN_le l; obtain ⟨b1, o1, rfl⟩ := hA.ptr; obtain ⟨op, at_, nm, ks, bo, el⟩ := x; have hE2 := hE; unfold smM at hE2; obtain ⟨ka, kc, ba, bc, ea, ec, rfl, hkc, hks, hbo, hel⟩ := hE2; have hxw := hxn; unfold smW at hxw; have hxN := hnx; unfold smN at hxN; have hkN := exsN_le ks
    refine zi (zk (zq (zB (c_held (St [(w, No)] []) mixed (zh2 0 rfl rfl (fun w h => h) (fun w h => R_move e3_1) (zh2 1 rfl rfl (fun w h => h) (fun w h => R_addi rfl rfl (by omega)) (zh2 2 rfl rfl (fun w h => h) (fun w h => R_move e0_1) (zh2 3 rfl rfl (fun w h => h) (fun w h => R_move e4_1) (zh2 4 rfl rfl (fun w h => h) (fun w h => R_iaN (i := k) sl27 rfl rfl (by omega)) (zh2 5 rfl rfl (fun w h => h) (fun w h => R_fa fa79_3 rfl) ?_)))))))))); refine zh2 6 rfl rfl (fun w h => h) (fun w h => R_ld1 z47 rfl (by exact hA.cell (fun _ _ hh => hh) zm0 h 3 _ rfl)) ?_
    refine zh2 9 rfl rfl (fun w h => h) (fun w h => R_move e0_1) (zh2 10 rfl rfl (fun w h => h) (fun w h => R_move e4_1) (zh2 11 rfl rfl (fun w h => h) (fun w h => R_iaN (i := k) sl27 rfl rfl (by omega)) (zh2 12 rfl rfl (fun w h => h) (fun w h => R_fa fa79_4 rfl) ?_))); refine zh2 13 rfl rfl (fun w h => h) (fun w h => R_ld1 z27 rfl (by exact hA.cell (fun _ _ hh => hh) zm0 h 4 _ rfl)) ?_; refine zh2 16 rfl rfl (fun w h => h) (fun w h => R_move e0_1) (zh2 17 rfl rfl (fun w h => h) (fun w h => R_move e4_1) (zh2 18 rfl rfl (fun w h => h) (fun w h => R_iaN (i := k) sl27 rfl rfl (by omega)) ?_))
    refine zh2 19 rfl rfl (fun w h => h) (fun w h => R_fa fa79_5 rfl) ?_; refine zh2 20 rfl rfl (fun w h => h) (fun w h => R_ld1 z27 rfl (by exact hA.cell (fun _ _ hh => hh) zm0 h 5 _ rfl)) ?_; refine h_pure 7 rfl (by kernel_rfl) rfl rfl (fun w h => h) (fun w => zR Tryz.func37 rfl rfl rfl) (fun w h => rnodes_ok ks ka kc N w (by omega) (by omega) (hks.now (fun _ _ hh => hh) zm0 h)) (zh2 8 rfl rfl (fun w h => h) (fun w h => R_addi rfl rfl (by omega)) (h_pure 14 rfl (by kernel_rfl) rfl rfl (fun w h => h) (fun w => zR Tryz.func45 rfl rfl rfl) (fun w h => ih bo ba bc N w (by omega) (by omega) (hbo.now (fun _ _ hh => hh) zm0 h)) (zh2 15 rfl rfl (fun w h => h) (fun w h => R_addi rfl rfl (by omega)) ?_)))
    refine h_pure 21 rfl (by kernel_rfl) rfl rfl (fun w h => h) (fun w => zR Tryz.func45 rfl rfl rfl) (fun w h => ih el ea ec N w (by omega) (by omega) (hel.now (fun _ _ hh => hh) zm0 h)) (zh2 22 rfl rfl (fun w h => h) (fun w h => R_addi rfl rfl (by omega)) (zh2 23 rfl rfl (fun w h => h) (fun w h => R_assign rfl) (zN2 (fun w h => h) (zO (zk (zr (mI e4_1 (zg (fun _ => R_addi rfl rfl (by omega)) (aI rfl (zn ?_))))))))))
    have hfin : ((smsN (l.take k) : Nat) : Int) + 1 + ((exsN ks : Nat) : Int) + ((smsN bo : Nat) : Int) + ((smsN el : Nat) : Int) = ((smsN (l.take (k + 1)) : Nat) : Int) := by omega
    exact k_again _ (by omega) ⟨k + 1, e0_1, (congrArg (Value.int .i64) hfin), rfl, rfl, rfl, by omega, rfl⟩
  · refine zX (zx (zx (b_here rfl (zk (yA (mI e3_1 (aI rfl (yB (ze (zo (v := .int _ _) rfl rfl rfl ?_)))))))))); exact fun w' hw => ⟨by rw [List.take_of_length_le (by omega)], hw.fr _ zm0⟩


theorem rnodesOf_all : ∀ n : Nat, n ≤ 10000000 → RNodesOfP n
  | 0, _ => fun _ _ _ _ _ h => absurd h (Nat.not_lt_zero _)
  | n + 1, h => rnodesOf_step n (rnodesOf_all n (by omega)) (by omega)
theorem rnodesOf_ok : RNodesOfP 10000000 := rnodesOf_all _ (Nat.le_refl _)

theorem rlongOf_step (n : Nat) (ih : RLongOfP n) (hN : n ≤ 10000000) (l : List Sm) (a : Option Addr) (c : Nat) (N : Nat → Prop) (w : World) (hl : smsW l < n + 1) (hll : l.length ≤ 10000000) (hm : smsM w N l a 0) :
    Ret Tryz.prog 28 #[.slice a l.length c] w (fun v w' => v = .bool (smsLong l) ∧ Ext w w') := by
  refine enter (S := No) (l := [_]) (L := []) 41 Tryz.func28 rfl rfl rfl (St.start w No) (yA (aB rfl (yB (zq (yA (aI rfl (yB (zB (c_loop (fun m e B L => ∃ (k : Nat), e 0 = .slice a l.length c ∧ e 3 = .int .i64 (k : Nat) ∧ B = [(w, No)] ∧ L = [] ∧ k ≤ l.length ∧ (∀ y ∈ l.take k, smLong y = false) ∧ m = l.length - k) _ ⟨0, rfl, rfl, rfl, rfl, Nat.zero_le _, (by simp), rfl⟩ ?_)))))))))
  rintro m e B L ⟨k, e0_1, e3_1, rfl, rfl, hk, hy, rfl⟩
  refine zq (yA (mI e3_1 (mS e0_1 (zg (fun _ => R_len sl27 rfl) (zg (fun _ => R_lt rfl rfl) (yB ?_)))))); refine zD rfl (fun h1 => ?_) (fun h1 => ?_)
  · have hlt : k < l.length := (by omega); obtain ⟨x, hxk⟩ : ∃ x, l[k]? = some x := ⟨_, List.getElem?_eq_getElem hlt⟩; obtain ⟨cs, hA, hE⟩ := hm.get0 hxk; have hxn := smsW_mem (List.mem_of_getElem? hxk); have hle := smsN_take l (k + 1); have hnx := smsN_next hxk; have hlN := smsN_le l; obtain ⟨b1, o1, rfl⟩ := hA.ptr; obtain ⟨op, at_, nm, ks, bo, el⟩ := x; have hE2 := hE; unfold smM at hE2; obtain ⟨ka, kc, ba, bc, ea, ec, rfl, hkc, hks, hbo, hel⟩ := hE2; have hxw := hxn; unfold smW at hxw; have hxN := hnx; unfold smN at hxN; have hkN := exsN_le ks
    refine zi (zk (zq (zB (yA (mS e0_1 (mI e3_1 (zg (fun _ => R_iaN (i := k) sl27 rfl rfl (by omega)) (zf fa79_2 rfl ?_)))))))); refine zl z9 rfl (fun _ h => by exact hA.cell (fun _ _ hh => hh) zm0 h 2 _ rfl) ?_; refine zg (fun _ => R_slen st9 rfl (by omega)) (zg (fun _ => R_gt rfl rfl) (mB rfl ?_)); refine zd (t := 17) rfl (fun h2 => ?_) (fun h2 => ?_)
    · refine zs rfl rfl (bT h2) (zs rfl rfl (bT h2) (zs rfl rfl (bT h2) (zs rfl rfl (bT h2) (zs rfl rfl (bT h2) (zs rfl rfl (bT h2) (zg (v := .bool _) (fun _ => zT (bT h2) rfl) (mB rfl ?_))))))); (iterate 6 refine zs rfl rfl rfl ?_); refine zg (v := .bool _) (fun _ => zT rfl rfl) (mB rfl ?_); (iterate 4 refine zs rfl rfl rfl ?_); refine zs rfl rfl rfl ?_
      refine zs rfl rfl rfl (zg (v := .bool _) (fun _ => zT rfl rfl) (yB (zE rfl (yA (aB rfl (yB (ze (zb (zt (zt (zb (zt ((zo (v := .bool _) rfl rfl rfl ?_)))))))))))))); exact fun w' hw => ⟨by rw [smsLong_any]; (rw [any_yes hxk (by (try clear ih hm hA hE hks hbo hel hw hl hxn hle hnx hxN hxw hy hlN hkN e0_1 e3_1); simp only [smLong]; grind)]; done), hw.fr _ zm0⟩
    · refine zw rfl rfl (bF h2) (mS e0_1 (zw rfl rfl (bF h2) (mI e3_1 (zw rfl rfl (bF h2) (zg (fun _ => R_iaN (i := k) sl27 rfl rfl (by omega)) (zw rfl rfl (bF h2) (zf fa79_3 rfl (zw rfl rfl (bF h2) ?_)))))))); refine zl z47 rfl (fun _ h => by exact hA.cell (fun _ _ hh => hh) zm0 h 3 _ rfl) ?_; refine zw rfl rfl (bF h2) (zC (fun w => zR Tryz.func29 rfl rfl rfl) rfl rfl (fun w h => rlong_ok ks ka kc N w (by omega) (by omega) (hks.now (fun _ _ hh => hh) zm0 h)) (zg (v := .bool _) (fun _ => zF (bF h2) rfl) (mB rfl ?_))); refine zp (t := 25) rfl (fun h3 => ?_) (fun h3 => ?_)
      · refine zs rfl rfl (bV h3) (zs rfl rfl (bV h3) (zs rfl rfl (bV h3) (zs rfl rfl (bV h3) (zs rfl rfl (bV h3) (zs rfl rfl (bV h3) (zg (v := .bool _) (fun _ => zT (bV h3) rfl) (mB rfl ?_))))))); (iterate 6 refine zs rfl rfl rfl ?_); refine zg (v := .bool _) (fun _ => zT rfl rfl) (yB (zE rfl (yA (aB rfl (yB (ze (zb (zt (zt (zb (zt (?_))))))))))))
        refine zo (v := .bool _) rfl rfl rfl ?_; exact fun w' hw => ⟨by rw [smsLong_any]; (rw [any_yes hxk (by (try clear ih hm hA hE hks hbo hel hw hl hxn hle hnx hxN hxw hy hlN hkN e0_1 e3_1); simp only [smLong]; grind)]; done), hw.fr _ zm0⟩
      · refine zw rfl rfl (bV h3) (mS e0_1 (zw rfl rfl (bV h3) (mI e3_1 (zw rfl rfl (bV h3) (zg (fun _ => R_iaN (i := k) sl27 rfl rfl (by omega)) (zw rfl rfl (bV h3) (zf fa79_4 rfl (zw rfl rfl (bV h3) ?_)))))))); refine zl z27 rfl (fun _ h => by exact hA.cell (fun _ _ hh => hh) zm0 h 4 _ rfl) ?_; refine zw rfl rfl (bV h3) (zC (fun w => zR Tryz.func28 rfl rfl rfl) rfl rfl (fun w h => ih bo ba bc N w (by omega) (by omega) (hbo.now (fun _ _ hh => hh) zm0 h)) (zg (v := .bool _) (fun _ => zF (bV h3) rfl) (mB rfl ?_))); refine zp (t := 33) rfl (fun h4 => ?_) (fun h4 => ?_)
        · refine zs rfl rfl (bV h4) (zs rfl rfl (bV h4) (zs rfl rfl (bV h4) (zs rfl rfl (bV h4) (zs rfl rfl (bV h4) (zs rfl rfl (bV h4) (zg (v := .bool _) (fun _ => zT (bV h4) rfl) (yB (zE rfl (yA (aB rfl (yB (ze (zb (zt (zt (zb (zt ((zo (v := .bool _) rfl rfl rfl ?_))))))))))))))))))); exact fun w' hw => ⟨by rw [smsLong_any]; (rw [any_yes hxk (by (try clear ih hm hA hE hks hbo hel hw hl hxn hle hnx hxN hxw hy hlN hkN e0_1 e3_1); simp only [smLong]; grind)]; done), hw.fr _ zm0⟩
        · refine zw rfl rfl (bV h4) (mS e0_1 (zw rfl rfl (bV h4) (mI e3_1 (zw rfl rfl (bV h4) (zg (fun _ => R_iaN (i := k) sl27 rfl rfl (by omega)) (zw rfl rfl (bV h4) (zf fa79_5 rfl (zw rfl rfl (bV h4) ?_)))))))); refine zl z27 rfl (fun _ h => by exact hA.cell (fun _ _ hh => hh) zm0 h 5 _ rfl) ?_; refine zw rfl rfl (bV h4) (zC (fun w => zR Tryz.func28 rfl rfl rfl) rfl rfl (fun w h => ih el ea ec N w (by omega) (by omega) (hel.now (fun _ _ hh => hh) zm0 h)) (zg (v := .bool _) (fun _ => zF (bV h4) rfl) (yB ?_))); refine c_cond rfl (fun h5 => ?_) (fun h5 => ?_)
          · refine yA (aB rfl (yB (ze (zb (zt (zt (zb (zt ((zo (v := .bool _) rfl rfl rfl ?_)))))))))); exact fun w' hw => ⟨by rw [smsLong_any]; (rw [any_yes hxk (by (try clear ih hm hA hE hks hbo hel hw hl hxn hle hnx hxN hxw hy hlN hkN e0_1 e3_1); simp only [smLong]; grind)]; done), hw.fr _ zm0⟩
          · refine zi (zO (zk (zr (mI e3_1 (zg (fun _ => R_addi rfl rfl (by omega)) (aI rfl (zn ?_))))))); exact k_again _ (by omega) ⟨k + 1, e0_1, rfl, rfl, rfl, by omega, take_all hy hxk (by (try clear ih hm hA hE hks hbo hel hl hxn hle hnx hxN hxw hy hlN hkN e0_1 e3_1); simp only [smLong]; grind), rfl⟩
  · refine zX (zx (zx (b_here rfl (zk (yA (aB rfl (yB (ze (zo (v := .bool _) rfl rfl rfl ?_))))))))); exact fun w' hw => ⟨by rw [smsLong_any]; (rw [any_of_take hy (by omega)]; done), hw.fr _ zm0⟩


theorem rlongOf_all : ∀ n : Nat, n ≤ 10000000 → RLongOfP n
  | 0, _ => fun _ _ _ _ _ h => absurd h (Nat.not_lt_zero _)
  | n + 1, h => rlongOf_step n (rlongOf_all n (by omega)) (by omega)
theorem rlongOf_ok : RLongOfP 10000000 := rlongOf_all _ (Nat.le_refl _)
end Go.Proofs.YtoehjlmdnajibaaGreatDoor
end

section
namespace Go.Proofs.YtoehjlmdnajibaaGreatDoor
open Go.RowKit Go.Sx
open Go.Tok Go.Tree
mutual
theorem exM.any {w : World} {N : Nat → Prop} : ∀ (e : Ex) (cs : List Value), exM w N e cs → exM w (fun _ => True) e cs
  | .mk op at_ nm ks, cs, h => by
    unfold exM at h ⊢
    obtain ⟨a, c, h1, h2, h3⟩ := h
    exact ⟨a, c, h1, h2, exsM.any ks a 0 h3⟩
theorem exsM.any {w : World} {N : Nat → Prop} : ∀ (l : List Ex) (a : Option Addr) (i : Nat), exsM w N l a i → exsM w (fun _ => True) l a i
  | [], _, _, _ => by unfold exsM; trivial
  | e :: l, a, i, h => by
    unfold exsM at h ⊢
    obtain ⟨⟨cs, ⟨b, o, ha, hb, hc⟩, h2⟩, h3⟩ := h
    exact ⟨⟨cs, ⟨b, o, ha, trivial, hc⟩, exM.any e cs h2⟩, exsM.any l a (i + 4) h3⟩
end

theorem rNodes_spec (pg : List Bk) (cs : List Value) (N : Nat → Prop) (w : World) (hp : ∀ b ∈ pg, bkW b < 10000000) (hm : pgM w N pg cs) :
    Ret Tryz.prog 27 #[.agg cs.toArray] w (fun v w' => v = .int .i64 (pgN pg : Nat) ∧ Ext w w') := by
  refine enter (S := No) (l := [_]) (L := []) 52 Tryz.func27 rfl rfl rfl (St.start w No) (yA (w_boxA rfl (fun t1b gt1b ut1b => aI rfl (yC (aI rfl (yB (zq (yA (aI rfl (yB (zB (c_loop (fun m e B L => ∃ (i : Nat), e 1 = .pointer (some ⟨t1b, 0, none⟩) ∧ e 3 = .int .i64 (pgNTo pg i : Nat) ∧ e 4 = .int .i64 (i : Nat) ∧ B = [(w, No)] ∧ L = [(t1b, cel cs 32)] ∧ i ≤ 6 ∧ pgNTo pg i ≤ i * 10000000 ∧ m = 6 - i) _ ⟨0, rfl, rfl, rfl, rfl, rfl, Nat.zero_le _, Nat.zero_le _, rfl⟩ ?_))))))))))))
  rintro m e B L ⟨i, e1_1, e3_1, e4_1, rfl, rfl, hi, hN, rfl⟩
  refine zq (yA (mI e4_1 (zg (fun _ => R_lt rfl rfl) (yB ?_)))); refine zD rfl (fun h2 => ?_) (fun h2 => ?_)
  · have hi6 : i < 6 := (by omega); obtain ⟨b, hb⟩ : ∃ b, pg[i]? = some b := ⟨_, List.getElem?_eq_getElem (by rw [hm.six]; exact hi6)⟩; have hbw := hp b (List.mem_of_getElem? hb); unfold bkW at hbw; obtain ⟨da, dc, sa, sc, hcb, hds, hss⟩ := hm.one i b hb; have hnb := pgNTo_next hb; have hNb := bkN_le b; unfold bkN at hnb hNb; have hsN := smsN_le b.stmts; have hdN := dcsN_le b.decls
    refine zi (zk (zq (zB (yA (mI e4_1 (zf fa32_0 e1_1 (zg (fun _ => R_iaA (i := i) ara30 (by decide) rfl rfl (by omega)) (w_loadC (l := [.bool b.is, .slice da b.decls.length dc, .slice sa b.stmts.length sc]) z29 rfl rfl (fun w h j v hj => zc 0 rfl (sub_get hcb hj) h) (zA zr29 (fun t5b gt5b ut5b => zV 0 rfl z29 rfl rfl rfl rfl rfl rfl rfl (yC (mI e3_1 (zf fa29_2 rfl (zL 0 z27 rfl rfl rfl (zC (fun w => zR Tryz.func45 rfl rfl rfl) rfl rfl (fun w h => rnodesOf_ok b.stmts sa sc N w (by omega) (by omega) (hss.now (fun _ _ hh => hh) zm0 h)) (zg (fun _ => R_addi rfl rfl (by omega)) (aI rfl (yC (aI rfl (yB (zB (c_loop (fun m e B L => ∃ (k : Nat), e 1 = .pointer (some ⟨t1b, 0, none⟩) ∧ e 3 = .int .i64 (pgNTo pg i + smsN b.stmts + dcsN (b.decls.take k) : Nat) ∧ e 4 = .int .i64 (i : Nat) ∧ e 5 = .pointer (some ⟨t5b, 0, none⟩) ∧ e 6 = .int .i64 (k : Nat) ∧ B = [(w, No)] ∧ L = [(t5b, cel [.bool b.is, .slice da b.decls.length dc, .slice sa b.stmts.length sc] 29), (t1b, cel cs 32)] ∧ k ≤ b.decls.length ∧ m = b.decls.length - k) _ ⟨0, e1_1, rfl, e4_1, rfl, rfl, rfl, rfl, Nat.zero_le _, rfl⟩ ?_))))))))))))))))))))))
    rintro m e B L ⟨k, e1_2, e3_2, e4_2, e5_2, e6_2, rfl, rfl, hk, rfl⟩
    refine zq (yA (mI e6_2 (zf fa29_1 e5_2 (zL 0 z26 rfl rfl rfl (zg (fun _ => R_len sl26 rfl) (zg (fun _ => R_lt rfl rfl) (yB ?_))))))); refine zD rfl (fun h4 => ?_) (fun h4 => ?_)
    · have hlt : k < b.decls.length := (by omega); obtain ⟨x, hxk⟩ : ∃ x, b.decls[k]? = some x := ⟨_, List.getElem?_eq_getElem hlt⟩; obtain ⟨cs2, hA, hE⟩ := hds k x hxk; have hxn := dcsW_mem (List.mem_of_getElem? hxk); obtain ⟨b1, o1, rfl⟩ := hA.ptr; have hE2 := hE; obtain ⟨ty, at_, nm, sz, lo, up, ini⟩ := x; unfold dcM at hE2; obtain ⟨xa, xc, la, lc, ua, uc, ia, ic, hcs, hsz, hlo, hup, hini⟩ := hE2; simp only [] at hcs; subst hcs; have hnx := dcsN_next hxk; have hle := dcsN_take b.decls (k + 1); have hdw := hxn; unfold dcW at hdw; have hxN := hnx; unfold dcN at hxN; have hk1 := exsN_le sz; have hk2 := exsN_le lo; have hk3 := exsN_le up; have hk4 := exsN_le ini; simp only [] at hxN hdw
      refine zi (zk (zq (zB (yA (zf fa29_1 e5_2 (zL 0 z26 rfl rfl rfl (mI e6_2 (zg (fun _ => R_iaN (i := k) sl26 rfl rfl (by omega)) (w_loadC (l := [.int .u8 (ty : Nat), .int .i64 at_, str nm, .slice xa sz.length xc, .slice la lo.length lc, .slice ua up.length uc, .slice ia ini.length ic]) z49 rfl rfl (fun w h j v hj => hA.cell (fun _ _ hh => hh) zm0 h j v hj) (zA zr49 (fun t7b gt7b ut7b => zV 0 rfl z49 rfl rfl rfl rfl rfl rfl rfl (yB (c_held (St [(w, No)] [(t7b, cel [.int .u8 (ty : Nat), .int .i64 at_, str nm, .slice xa sz.length xc, .slice la lo.length lc, .slice ua up.length uc, .slice ia ini.length ic] 49)]) mixed (zh2 0 rfl rfl (fun w h => h.drop (.cons_cons _ (List.nil_sublist _))) (fun w h => R_move e3_2) (zh2 1 rfl rfl (fun w h => h.drop (.cons_cons _ (List.nil_sublist _))) (fun w h => R_addi rfl rfl (by omega)) (zh2 2 rfl rfl (fun w h => h.drop (.cons_cons _ (List.nil_sublist _))) (fun w h => R_fa fa49_3 rfl) (zh2 3 rfl rfl (fun w h => h.drop (.cons_cons _ (List.nil_sublist _))) (fun w h => R_ld1 z47 rfl (zc 0 rfl rfl h)) (zh2 6 rfl rfl (fun w h => h.drop (.cons_cons _ (List.nil_sublist _))) (fun w h => R_fa fa49_4 rfl) (zh2 7 rfl rfl (fun w h => h.drop (.cons_cons _ (List.nil_sublist _))) (fun w h => R_ld1 z47 rfl (zc 0 rfl rfl h)) (zh2 10 rfl rfl (fun w h => h.drop (.cons_cons _ (List.nil_sublist _))) (fun w h => R_fa fa49_5 rfl) (zh2 11 rfl rfl (fun w h => h.drop (.cons_cons _ (List.nil_sublist _))) (fun w h => R_ld1 z47 rfl (zc 0 rfl rfl h)) (zh2 14 rfl rfl (fun w h => h.drop (.cons_cons _ (List.nil_sublist _))) (fun w h => R_fa fa49_6 rfl) (zh2 15 rfl rfl (fun w h => h.drop (.cons_cons _ (List.nil_sublist _))) (fun w h => R_ld1 z47 rfl (zc 0 rfl rfl h)) (h_pure 4 rfl (by kernel_rfl) rfl rfl (fun w h => h.drop (.cons_cons _ (List.nil_sublist _))) (fun w => zR Tryz.func37 rfl rfl rfl) (fun w h => rnodes_ok sz xa xc N w (by omega) (by omega) (hsz.now (fun _ _ hh => hh) zm0 h)) (zh2 5 rfl rfl (fun w h => h.drop (.cons_cons _ (List.nil_sublist _))) (fun w h => R_addi rfl rfl (by omega)) (h_pure 8 rfl (by kernel_rfl) rfl rfl (fun w h => h.drop (.cons_cons _ (List.nil_sublist _))) (fun w => zR Tryz.func37 rfl rfl rfl) (fun w h => rnodes_ok lo la lc N w (by omega) (by omega) (hlo.now (fun _ _ hh => hh) zm0 h)) (zh2 9 rfl rfl (fun w h => h.drop (.cons_cons _ (List.nil_sublist _))) (fun w h => R_addi rfl rfl (by omega)) (h_pure 12 rfl (by kernel_rfl) rfl rfl (fun w h => h.drop (.cons_cons _ (List.nil_sublist _))) (fun w => zR Tryz.func37 rfl rfl rfl) (fun w h => rnodes_ok up ua uc N w (by omega) (by omega) (hup.now (fun _ _ hh => hh) zm0 h)) (zh2 13 rfl rfl (fun w h => h.drop (.cons_cons _ (List.nil_sublist _))) (fun w h => R_addi rfl rfl (by omega)) ?_)))))))))))))))))))))))))))))
      refine h_pure 16 rfl (by kernel_rfl) rfl rfl (fun w h => h.drop (.cons_cons _ (List.nil_sublist _))) (fun w => zR Tryz.func37 rfl rfl rfl) (fun w h => rnodes_ok ini ia ic N w (by omega) (by omega) (hini.now (fun _ _ hh => hh) zm0 h)) (zh2 17 rfl rfl (fun w h => h.drop (.cons_cons _ (List.nil_sublist _))) (fun w h => R_addi rfl rfl (by omega)) (zh2 18 rfl rfl (fun w h => h.drop (.cons_cons _ (List.nil_sublist _))) (fun w h => R_assign rfl) (zN2 (fun w h => h.drop (.cons_cons _ (List.nil_sublist _))) (zO (zk (zr (mI e6_2 (zg (fun _ => R_addi rfl rfl (by omega)) (aI rfl (zn ?_))))))))))
      have hfin : ((pgNTo pg i + smsN b.stmts + dcsN (b.decls.take k) : Nat) : Int) + 1 + ((exsN sz : Nat) : Int) + ((exsN lo : Nat) : Int) + ((exsN up : Nat) : Int) + ((exsN ini : Nat) : Int) = ((pgNTo pg i + smsN b.stmts + dcsN (b.decls.take (k + 1)) : Nat) : Int) := by omega
      refine zK (B' := [(w, No)]) (L' := _) (fun w h => h.drop (List.sublist_cons_self _ _)) ?_; exact k_again _ (by omega) ⟨k + 1, e1_2, (congrArg (Value.int .i64) hfin), e4_2, e5_2, rfl, rfl, rfl, by omega, rfl⟩
    · refine zX (zx (zx (b_here rfl (zO (zk (zr (mI e4_2 (zg (fun _ => R_addi rfl rfl (by omega)) (aI rfl (zn (zK (B' := [(w, No)]) (L' := [(t1b, cel cs 32)]) (fun w h => h.drop (List.sublist_cons_self _ _)) ?_)))))))))))
      have hfin : ((pgNTo pg i + smsN b.stmts + dcsN (b.decls.take k) : Nat) : Int) = ((pgNTo pg (i + 1) : Nat) : Int) := by rw [List.take_of_length_le (by omega)]; omega
      exact k_again _ (by omega) ⟨i + 1, e1_2, (e3_2.trans (congrArg (Value.int .i64) hfin)), rfl, rfl, rfl, by omega, by omega, rfl⟩
  · refine zX (zx (zx (b_here rfl (zk (yA (mI e3_1 (aI rfl (yB (ze (zo (v := .int _ _) rfl rfl rfl ?_)))))))))); exact fun w' hw => ⟨by rw [show i = 6 by omega]; rfl, hw.fr _ zm0⟩

theorem Small_spec (pg : List Bk) (cs : List Value) (N : Nat → Prop) (w : World) (hp : ∀ b ∈ pg, bkW b < 10000000) (hm : pgM w N pg cs) :
    Ret Tryz.prog 12 #[.agg cs.toArray] w (fun v w' => v = .bool (pgSmall pg) ∧ Ext w w') := by
  refine enter (S := No) (l := [_]) (L := []) 57 Tryz.func12 rfl rfl rfl (St.start w No) (yA (w_boxA rfl (fun t1b gt1b ut1b => aB rfl (yB (zq (yA (w_loadW z32 rfl (fun _ h => h.at_ 0 rfl) hm.len (zC (fun w => zR Tryz.func27 rfl rfl rfl) rfl rfl (fun w h => rNodes_spec pg cs N w hp (hm.now (fun _ _ hh => hh) zm0 h)) (zg (fun _ => R_gt rfl rfl) (yB ?_)))))))))); refine zD rfl (fun h2 => ?_) (fun h2 => ?_)
  · refine yA (aB rfl (yB (ze (zt ((zo (v := .bool _) rfl rfl rfl ?_)))))); exact fun w' hw => ⟨by unfold pgSmall; rw [decide_eq_false (by omega)]; rfl, hw.fr _ zm0⟩
  · refine zi (zk (zq (yA (aI rfl (yB (zB (c_loop (fun m e B L => ∃ (i : Nat), e 1 = .pointer (some ⟨t1b, 0, none⟩) ∧ e 3 = .int .i64 (i : Nat) ∧ B = [(w, No)] ∧ L = [(t1b, cel cs 32)] ∧ i ≤ 6 ∧ (∀ y ∈ pg.take i, bkLong y = false) ∧ m = 6 - i) _ ⟨0, rfl, rfl, rfl, rfl, Nat.zero_le _, (by simp), rfl⟩ ?_)))))))
    rintro m e B L ⟨i, e1_1, e3_1, rfl, rfl, hi, hy, rfl⟩
    refine zq (yA (mI e3_1 (zg (fun _ => R_lt rfl rfl) (yB ?_)))); refine zD rfl (fun h3 => ?_) (fun h3 => ?_)
    · have hi6 : i < 6 := (by omega); obtain ⟨b, hb⟩ : ∃ b, pg[i]? = some b := ⟨_, List.getElem?_eq_getElem (by rw [hm.six]; exact hi6)⟩; have hbw := hp b (List.mem_of_getElem? hb); unfold bkW at hbw; obtain ⟨da, dc, sa, sc, hcb, hds, hss⟩ := hm.one i b hb
      refine zi (zk (zq (zB (yA (mI e3_1 (zf fa32_0 e1_1 (zg (fun _ => R_iaA (i := i) ara30 (by decide) rfl rfl (by omega)) (w_loadC (l := [.bool b.is, .slice da b.decls.length dc, .slice sa b.stmts.length sc]) z29 rfl rfl (fun w h j v hj => zc 0 rfl (sub_get hcb hj) h) (zA zr29 (fun t4b gt4b ut4b => zV 0 rfl z29 rfl rfl rfl rfl rfl rfl rfl (yB (zq (yA (zf fa29_2 rfl (zL 0 z27 rfl rfl rfl (zC (fun w => zR Tryz.func28 rfl rfl rfl) rfl rfl (fun w h => rlongOf_ok b.stmts sa sc N w (by omega) (by omega) (hss.now (fun _ _ hh => hh) zm0 h)) (yB ?_))))))))))))))))); refine c_cond rfl (fun h5 => ?_) (fun h5 => ?_)
      · refine yA (aB rfl (yB (ze (zt (zb (zt (zt (zb (zt ((zo (v := .bool _) rfl rfl rfl ?_))))))))))); exact fun w' hw => ⟨by unfold pgSmall pgLong; rw [any_yes hb (by unfold bkLong; rw [h5]; rfl)]; simp, hw.fr _ zm0⟩
      · refine zi (zk (yA (aI rfl (yB (zB (c_loop (fun m e B L => ∃ (k : Nat), e 1 = .pointer (some ⟨t1b, 0, none⟩) ∧ e 3 = .int .i64 (i : Nat) ∧ e 4 = .pointer (some ⟨t4b, 0, none⟩) ∧ e 5 = .int .i64 (k : Nat) ∧ B = [(w, No)] ∧ L = [(t4b, cel [.bool b.is, .slice da b.decls.length dc, .slice sa b.stmts.length sc] 29), (t1b, cel cs 32)] ∧ k ≤ b.decls.length ∧ (∀ y ∈ b.decls.take k, dcLong y = false) ∧ m = b.decls.length - k) _ ⟨0, e1_1, e3_1, rfl, rfl, rfl, rfl, Nat.zero_le _, (by simp), rfl⟩ ?_))))))
        rintro m e B L ⟨k, e1_2, e3_2, e4_2, e5_2, rfl, rfl, hk, hz, rfl⟩
        refine zq (yA (mI e5_2 (zf fa29_1 e4_2 (zL 0 z26 rfl rfl rfl (zg (fun _ => R_len sl26 rfl) (zg (fun _ => R_lt rfl rfl) (yB ?_))))))); refine zD rfl (fun h6 => ?_) (fun h6 => ?_)
        · have hlt : k < b.decls.length := (by omega); obtain ⟨x, hxk⟩ : ∃ x, b.decls[k]? = some x := ⟨_, List.getElem?_eq_getElem hlt⟩; obtain ⟨cs2, hA, hE⟩ := hds k x hxk; have hxn := dcsW_mem (List.mem_of_getElem? hxk); obtain ⟨b1, o1, rfl⟩ := hA.ptr; have hE2 := hE; obtain ⟨ty, at_, nm, sz, lo, up, ini⟩ := x; unfold dcM at hE2; obtain ⟨xa, xc, la, lc, ua, uc, ia, ic, hcs, hsz, hlo, hup, hini⟩ := hE2; simp only [] at hcs; subst hcs; have hdw := hxn; unfold dcW at hdw; simp only [] at hdw
          refine zi (zk (zq (zB (yA (zf fa29_1 e4_2 (zL 0 z26 rfl rfl rfl (mI e5_2 (zg (fun _ => R_iaN (i := k) sl26 rfl rfl (by omega)) (w_loadC (l := [.int .u8 (ty : Nat), .int .i64 at_, str nm, .slice xa sz.length xc, .slice la lo.length lc, .slice ua up.length uc, .slice ia ini.length ic]) z49 rfl rfl (fun w h j v hj => hA.cell (fun _ _ hh => hh) zm0 h j v hj) (zA zr49 (fun t6b gt6b ut6b => zV 0 rfl z49 rfl rfl rfl rfl rfl rfl rfl (yC (zf fa49_2 rfl (zL 0 z9 rfl rfl rfl (zg (fun _ => R_slen st9 rfl (by omega)) (zg (fun _ => R_gt rfl rfl) (mB rfl ?_))))))))))))))))); refine zd (t := 37) rfl (fun h8 => ?_) (fun h8 => ?_)
          · refine zs rfl rfl (bT h8) (zs rfl rfl (bT h8) (zs rfl rfl (bT h8) (zg (v := .bool _) (fun _ => zT (bT h8) rfl) (mB rfl ?_)))); (iterate 3 refine zs rfl rfl rfl ?_); refine zg (v := .bool _) (fun _ => zT rfl rfl) (mB rfl ?_); (iterate 3 refine zs rfl rfl rfl ?_); refine zg (v := .bool _) (fun _ => zT rfl rfl) (mB rfl ?_); (iterate 3 refine zs rfl rfl rfl ?_); refine zg (v := .bool _) (fun _ => zT rfl rfl) (zn ?_)
            refine zk (zE rfl (yA (aB rfl (yB (ze (zb (zt (zt (zb (zb (zt (zt (zb (zt ((zo (v := .bool _) rfl rfl rfl ?_)))))))))))))))); exact fun w' hw => ⟨by (unfold pgSmall pgLong; rw [any_yes hb (by unfold bkLong; rw [any_yes hxk (by (try clear hm hA hE hw hp hcb hds hss hsz hlo hup hini hbw hxn hdw e1_1 e1_2 e3_1 e3_2 e4_2 e5_2 gt1b gt4b gt6b ut1b ut4b ut6b); simp only [dcLong]; grind)]; simp)]; simp), hw.fr _ zm0⟩
          · refine zw rfl rfl (bF h8) (zf fa49_3 rfl (zw rfl rfl (bF h8) (zL 0 z47 rfl rfl rfl (zw rfl rfl (bF h8) (zC (fun w => zR Tryz.func29 rfl rfl rfl) rfl rfl (fun w h => rlong_ok sz xa xc N w (by omega) (by omega) (hsz.now (fun _ _ hh => hh) zm0 h)) (zg (v := .bool _) (fun _ => zF (bF h8) rfl) (mB rfl ?_))))))); refine zp (t := 42) rfl (fun h9 => ?_) (fun h9 => ?_)
            · refine zs rfl rfl (bV h9) (zs rfl rfl (bV h9) (zs rfl rfl (bV h9) (zg (v := .bool _) (fun _ => zT (bV h9) rfl) (mB rfl ?_)))); (iterate 3 refine zs rfl rfl rfl ?_); refine zg (v := .bool _) (fun _ => zT rfl rfl) (mB rfl ?_); (iterate 3 refine zs rfl rfl rfl ?_); refine zg (v := .bool _) (fun _ => zT rfl rfl) (yB (zE rfl (yA (aB rfl (yB (ze (zb (zt (zt (zb (zb (zt (zt (zb (zt (?_))))))))))))))))
              refine zo (v := .bool _) rfl rfl rfl ?_; exact fun w' hw => ⟨by (unfold pgSmall pgLong; rw [any_yes hb (by unfold bkLong; rw [any_yes hxk (by (try clear hm hA hE hw hp hcb hds hss hsz hlo hup hini hbw hxn hdw e1_1 e1_2 e3_1 e3_2 e4_2 e5_2 gt1b gt4b gt6b ut1b ut4b ut6b); simp only [dcLong]; grind)]; simp)]; simp), hw.fr _ zm0⟩
            · refine zw rfl rfl (bV h9) (zf fa49_4 rfl (zw rfl rfl (bV h9) (zL 0 z47 rfl rfl rfl (zw rfl rfl (bV h9) (zC (fun w => zR Tryz.func29 rfl rfl rfl) rfl rfl (fun w h => rlong_ok lo la lc N w (by omega) (by omega) (hlo.now (fun _ _ hh => hh) zm0 h)) (zg (v := .bool _) (fun _ => zF (bV h9) rfl) (mB rfl ?_))))))); refine zp (t := 47) rfl (fun h10 => ?_) (fun h10 => ?_)
              · refine zs rfl rfl (bV h10) (zs rfl rfl (bV h10) (zs rfl rfl (bV h10) (zg (v := .bool _) (fun _ => zT (bV h10) rfl) (mB rfl ?_)))); (iterate 3 refine zs rfl rfl rfl ?_); refine zg (v := .bool _) (fun _ => zT rfl rfl) (yB (zE rfl (yA (aB rfl (yB (ze (zb (zt (zt (zb (zb (zt (zt (zb (zt (?_))))))))))))))))
                refine zo (v := .bool _) rfl rfl rfl ?_; exact fun w' hw => ⟨by (unfold pgSmall pgLong; rw [any_yes hb (by unfold bkLong; rw [any_yes hxk (by (try clear hm hA hE hw hp hcb hds hss hsz hlo hup hini hbw hxn hdw e1_1 e1_2 e3_1 e3_2 e4_2 e5_2 gt1b gt4b gt6b ut1b ut4b ut6b); simp only [dcLong]; grind)]; simp)]; simp), hw.fr _ zm0⟩
              · refine zw rfl rfl (bV h10) (zf fa49_5 rfl (zw rfl rfl (bV h10) (zL 0 z47 rfl rfl rfl (zw rfl rfl (bV h10) (zC (fun w => zR Tryz.func29 rfl rfl rfl) rfl rfl (fun w h => rlong_ok up ua uc N w (by omega) (by omega) (hup.now (fun _ _ hh => hh) zm0 h)) (zg (v := .bool _) (fun _ => zF (bV h10) rfl) (mB rfl ?_))))))); refine zp (t := 52) rfl (fun h11 => ?_) (fun h11 => ?_)
                · refine zs rfl rfl (bV h11) (zs rfl rfl (bV h11) (zs rfl rfl (bV h11) (zg (v := .bool _) (fun _ => zT (bV h11) rfl) (yB (zE rfl (yA (aB rfl (yB (ze (zb (zt (zt (zb (zb (zt (zt (zb (zt ((zo (v := .bool _) rfl rfl rfl ?_)))))))))))))))))))); exact fun w' hw => ⟨by (unfold pgSmall pgLong; rw [any_yes hb (by unfold bkLong; rw [any_yes hxk (by (try clear hm hA hE hw hp hcb hds hss hsz hlo hup hini hbw hxn hdw e1_1 e1_2 e3_1 e3_2 e4_2 e5_2 gt1b gt4b gt6b ut1b ut4b ut6b); simp only [dcLong]; grind)]; simp)]; simp), hw.fr _ zm0⟩
                · refine zw rfl rfl (bV h11) (zf fa49_6 rfl (zw rfl rfl (bV h11) (zL 0 z47 rfl rfl rfl (zw rfl rfl (bV h11) (zC (fun w => zR Tryz.func29 rfl rfl rfl) rfl rfl (fun w h => rlong_ok ini ia ic N w (by omega) (by omega) (hini.now (fun _ _ hh => hh) zm0 h)) (zg (v := .bool _) (fun _ => zF (bV h11) rfl) (yB ?_))))))); refine c_cond rfl (fun h12 => ?_) (fun h12 => ?_)
                  · refine yA (aB rfl (yB (ze (zb (zt (zt (zb (zb (zt (zt (zb (zt ((zo (v := .bool _) rfl rfl rfl ?_)))))))))))))); exact fun w' hw => ⟨by (unfold pgSmall pgLong; rw [any_yes hb (by unfold bkLong; rw [any_yes hxk (by (try clear hm hA hE hw hp hcb hds hss hsz hlo hup hini hbw hxn hdw e1_1 e1_2 e3_1 e3_2 e4_2 e5_2 gt1b gt4b gt6b ut1b ut4b ut6b); simp only [dcLong]; grind)]; simp)]; simp), hw.fr _ zm0⟩
                  · refine zi (zO (zk (zr (mI e5_2 (zg (fun _ => R_addi rfl rfl (by omega)) (aI rfl (zn (zK (B' := [(w, No)]) (L' := _) (fun w h => h.drop (List.sublist_cons_self _ _)) ?_)))))))); exact k_again _ (by omega) ⟨k + 1, e1_2, e3_2, e4_2, rfl, rfl, rfl, by omega, take_all hz hxk (by (try clear hm hA hE hp hcb hds hss hsz hlo hup hini hbw hxn hdw e1_1 e1_2 e3_1 e3_2 e4_2 e5_2 gt1b gt4b gt6b ut1b ut4b ut6b); simp only [dcLong]; grind), rfl⟩
        · refine zX (zx (zx (b_here rfl (zO (zk (zr (mI e3_2 (zg (fun _ => R_addi rfl rfl (by omega)) (aI rfl (zn (zK (B' := [(w, No)]) (L' := [(t1b, cel cs 32)]) (fun w h => h.drop (List.sublist_cons_self _ _)) ?_))))))))))); exact k_again _ (by omega) ⟨i + 1, e1_2, rfl, rfl, rfl, by omega, take_all hy hb (by unfold bkLong; rw [h5, any_of_take hz (by omega)]; rfl), rfl⟩
    · refine zX (zx (zx (b_here rfl (zk (yA (aB rfl (yB (ze (zo (v := .bool _) rfl rfl rfl ?_))))))))); exact fun w' hw => ⟨by (unfold pgSmall pgLong; rw [any_of_take hy (by have := hm.six; omega), decide_eq_true (by omega)]; rfl), hw.fr _ zm0⟩
end Go.Proofs.YtoehjlmdnajibaaGreatDoor
end

section
open Go.RowKit
namespace Go.Sx
theorem c_heldI {P : Program} {ops : Array Oper} {Q : Exit → Act → World → Prop} {e : Env} {B : Base} {L : Heap} {id : Nat} {n : Nat} {ds : List Deferred} (idx : List Nat) (hm : P.follows .mixedOrders = true) (h : WH P ops ⟨n, ds, none⟩ Q (St B (idx.filterMap fun i => L[i]?)) ops.size (Array.replicate ops.size false) e B L) : WC P ⟨n, ds, none⟩ (.region id ops true) Q e B L := c_held _ hm h
end Go.Sx
namespace Go.Sx
open Go.RowKit
def u8s (ts : List Nat) : List Value := ts.map fun t => .int .u8 (t : Nat)
abbrev OwnU (te : TypeId) (v : Value) (ts : List Nat) (W : Heap) : Prop := Own te 1 v (u8s ts) ts.length W
theorem OwnU.more {te : TypeId} {a : Option Addr} {c : Nat} {ts : List Nat} {t : Nat} {W : Heap} (h : Own te 1 (.slice a (ts.length + 1) c) (u8s ts ++ [.int .u8 (t : Nat)]) (ts.length + 1) W) : OwnU te (.slice a (ts ++ [t]).length c) (ts ++ [t]) W := by
  have e1 : (ts ++ [t]).length = ts.length + 1 := by simp
  have e2 : u8s (ts ++ [t]) = u8s ts ++ [.int .u8 (t : Nat)] := by simp [u8s]
  unfold OwnU; rw [e1, e2]; exact h
theorem OwnU.cell {te : TypeId} {a : Option Addr} {c i : Nat} {ts : List Nat} {W : Heap} (h : OwnU te (.slice a ts.length c) ts W) (hi : i < ts.length) : ∃ b, a = some ⟨b, 0, none⟩ ∧ ∀ (B : Base) (L : Heap) (w : World), (∀ p ∈ W, p ∈ L) → St B L w → ∀ (j t : Nat), ts[j]? = some t → w.cell? ⟨b, j, none⟩ = some (.int .u8 (t : Nat)) := by
  obtain ⟨b, h1, h2⟩ := Own.cell h hi
  exact ⟨b, h1, fun B L w hW hw j t ht => h2 B L w hW hw j _ (by unfold u8s; rw [List.getElem?_map, ht]; rfl)⟩
end Go.Sx
end

section
namespace Go.Knd
open Go.Tok Go.Tree
mutual
def mapA (g : Int → Int) : Ex → Ex
  | .mk op a nm ks => .mk op (g a) nm (mapsA g ks)
def mapsA (g : Int → Int) : List Ex → List Ex
  | [] => []
  | e :: l => mapA g e :: mapsA g l
end
def mapF {α : Type} (g : Int → Int) : Except Ft α → Except Ft α
  | .ok a => .ok a
  | .error f => .error (f.1, g f.2)
mutual
def speaksK (s : Str) : Ex → Bool
  | .mk _ _ nm ks => decide (nm = s) || speaksS s ks
def speaksS (s : Str) : List Ex → Bool
  | [] => false
  | e :: l => speaksK s e || speaksS s l
end
end Go.Knd
end

section
namespace Go.Knd
open Go.Tok Go.Tree
theorem need_code {t : Nat} {a : Int} {p : Bool} {f : Ft} (h : needT t a p = .error f) : f.1 = 152 := by
  unfold needT at h
  split at h
  · cases h; rfl
  · cases h
theorem rule_code {l : List Vr} {op : Nat} {a : Int} {nm : Str} {ks : List Ex} {t u : Nat} {p : Bool} {f : Ft} (h : ruleK l op a nm ks t u p = .error f) : f.1 = 150 ∨ f.1 = 152 ∨ f.1 = 153 := by
  unfold ruleK at h
  by_cases h1 : op = 1
  · rw [if_pos h1] at h; exact .inr (.inl (need_code h))
  · rw [if_neg h1] at h
    by_cases h2 : op = 2
    · rw [if_pos h2] at h
      cases hf : findV l nm with
      | none => rw [hf] at h; cases h; exact .inl rfl
      | some v => rw [hf] at h; cases h
    · rw [if_neg h2] at h
      by_cases h3 : op = 3
      · rw [if_pos h3] at h
        cases hf : findV l nm with
        | none => rw [hf] at h; cases h; exact .inl rfl
        | some v =>
          rw [hf] at h
          dsimp only at h
          split at h
          · cases h; exact .inr (.inl rfl)
          · cases ks with
            | nil => cases h; exact .inr (.inl rfl)
            | cons k r =>
              dsimp only at h
              split at h
              · cases h; exact .inr (.inl rfl)
              · split at h
                · cases h; exact .inr (.inr rfl)
                · exact .inr (.inl (need_code h))
      · rw [if_neg h3] at h
        by_cases h4 : op = 4
        · rw [if_pos h4] at h
          cases hc : callK nm t u with
          | none => rw [hc] at h; cases h; exact .inl rfl
          | some x =>
            rw [hc] at h
            dsimp only at h
            by_cases h5 : ks.length ≠ (if nm = [100, 111, 116] then 2 else 1)
            · rw [if_pos h5] at h; cases h; exact .inr (.inl rfl)
            · rw [if_neg h5] at h; exact .inr (.inl (need_code h))
        · rw [if_neg h4] at h
          split at h
          · exact .inr (.inl (need_code h))
          · exact .inr (.inl (need_code h))
mutual
theorem of_code {l : List Vr} : ∀ (e : Ex) (f : Ft), ofK l e = .error f → f.1 = 150 ∨ f.1 = 152 ∨ f.1 = 153
  | .mk op a nm ks, f, h => by
    rw [ofK] at h
    cases hq : kidsK l ks with
    | error f2 => rw [hq] at h; cases h; exact kids_code ks f hq
    | ok r => rw [hq] at h; exact rule_code h
theorem kids_code {l : List Vr} : ∀ (ks : List Ex) (f : Ft), kidsK l ks = .error f → f.1 = 150 ∨ f.1 = 152 ∨ f.1 = 153
  | [], f, h => by rw [kidsK] at h; cases h
  | e :: r, f, h => by
    rw [kidsK] at h
    cases hq : ofK l e with
    | error f2 => rw [hq] at h; cases h; exact of_code e f hq
    | ok k =>
      rw [hq] at h
      dsimp only at h
      cases hr : kidsK l r with
      | error f2 => rw [hr] at h; cases h; exact kids_code r f hr
      | ok r2 => rw [hr] at h; cases h
end
end Go.Knd
end

section
namespace Go.Knd
open Go.Tok Go.Tree
def szS : Str := [115, 105, 122, 101]
def parS (l : List Vr) (nm : Str) : Bool := l.any fun v => decide (v.nm = nm) && v.par
mutual
def hangsK (l : List Vr) : Ex → Bool
  | .mk op _ nm ks => ((decide (op = 2) || decide (op = 3)) && parS l nm) || (!(decide (op = 4) && decide (nm = szS)) && hangsS l ks)
def hangsS (l : List Vr) : List Ex → Bool
  | [] => false
  | e :: r => hangsK l e || hangsS l r
end
mutual
def placesK (l : List Vr) : Ex → Bool
  | .mk op _ _ ks => !(decide (op = 3) && hangsS l ks) && placesS l ks
def placesS (l : List Vr) : List Ex → Bool
  | [] => true
  | e :: r => placesK l e && placesS l r
end
def uniq (l : List Vr) : Prop := ∀ v ∈ l, ∀ u ∈ l, v.nm = u.nm → v = u
theorem need_ok {t : Nat} {a : Int} {p : Bool} {k : Nat × Bool} (h : needT t a p = .ok k) : k.2 = p := by
  unfold needT at h
  split at h
  · cases h
  · cases h; rfl
section
variable {l s : List Vr}
end
end Go.Knd
end

section
namespace Go.Tree
def tb (ts : List Str) : Nat := (ts.map fun s => s.length + 1).sum
def pgW (p : List Bk) : Nat := (p.map bkW).sum
def sp (s : Str) : Str := s ++ (if brk s then [10] else [32])
def setIs (p : List Bk) (i : Nat) (b : Bk) : List Bk := p.set i { b with is := true }
end Go.Tree
end

section
namespace Go.Tree
open Go.Tok
mutual
def exZ : Ex → Ex
  | .mk o _ n k => .mk o 0 n (exsZ k)
def exsZ : List Ex → List Ex
  | [] => []
  | e :: l => exZ e :: exsZ l
end
abbrev PR := Option (Ex × List Str)
mutual
def pSum : Nat → List Str → PR
  | 0, _ => none
  | f + 1, ts => match pProd f ts with | some (e, r) => sumL f e r | none => none
def sumL : Nat → Ex → List Str → PR
  | 0, _, _ => none
  | f + 1, e, ts =>
    if ts.head? = some [43] then (match pProd f ts.tail with | some (k, r) => sumL f (.mk 6 0 [] [e, k]) r | none => none)
    else if ts.head? = some [45] then (match pProd f ts.tail with | some (k, r) => sumL f (.mk 7 0 [] [e, k]) r | none => none)
    else some (e, ts)
def pProd : Nat → List Str → PR
  | 0, _ => none
  | f + 1, ts => match pSign f ts with | some (e, r) => prodL f e r | none => none
def prodL : Nat → Ex → List Str → PR
  | 0, _, _ => none
  | f + 1, e, ts =>
    if ts.head? = some [42] then (match pSign f ts.tail with | some (k, r) => prodL f (.mk 8 0 [] [e, k]) r | none => none)
    else if ts.head? = some [47] then (match pSign f ts.tail with | some (k, r) => prodL f (.mk 9 0 [] [e, k]) r | none => none)
    else some (e, ts)
def pSign : Nat → List Str → PR
  | 0, _ => none
  | f + 1, ts => match ts with
    | [] => none
    | t :: r =>
      if t = [45] then (match pSign f r with | some (k, r) => some (.mk 5 0 [] [k], r) | none => none)
      else if t = [40] then (match pSum f r with | some (e, r) => if r.head? = some [41] then some (e, r.tail) else none | none => none)
      else if oneB 2 t then some (.mk 1 0 t [], r)
      else if r.head? = some [91] then (match pSum f r.tail with | some (e, r) => if r.head? = some [93] then some (.mk 3 0 t [e], r.tail) else none | none => none)
      else if r.head? = some [40] then (if r.tail.head? = some [41] then some (.mk 4 0 t [], r.tail.tail) else match pSum f r.tail with | some (e, r) => argL f t [e] r | none => none)
      else some (.mk 2 0 t [], r)
def argL : Nat → Str → List Ex → List Str → PR
  | 0, _, _, _ => none
  | f + 1, t, l, ts =>
    if ts.head? = some [44] then (match pSum f ts.tail with | some (e, r) => argL f t (l ++ [e]) r | none => none)
    else if ts.head? = some [41] then some (.mk 4 0 t l, ts.tail)
    else none
end
def nb (r : List Str) : Prop := r.head? ≠ some [91] ∧ r.head? ≠ some [40]
def nm8 (r : List Str) : Prop := nb r ∧ r.head? ≠ some [42] ∧ r.head? ≠ some [47]
def nm6 (r : List Str) : Prop := nm8 r ∧ r.head? ≠ some [43] ∧ r.head? ≠ some [45]
def K (e : Ex) : Nat := 8 * exW e
def SgP (e : Ex) : Prop := ∀ f r, K e ≤ f + 4 → nb r → pSign f (exT e ++ r) = some (exZ e, r)
def PdP (e : Ex) : Prop := ∀ f r, K e ≤ f + 2 → nb r → ∃ g, f + 4 ≤ g + K e ∧ pProd f (exT e ++ r) = prodL g (exZ e) r
def SuP (e : Ex) : Prop := ∀ f r, K e ≤ f → nm8 r → ∃ g, f + 2 ≤ g + K e ∧ pSum f (exT e ++ r) = sumL g (exZ e) r
end Go.Tree
namespace Go.Tree
open Go.Tok
end Go.Tree
end

section
namespace Go.Tok
end Go.Tok
end

section
namespace Go.Tok
inductive Chain (s : List UInt8) : Nat → List Tk → Prop
  | nil (i : Nat) : Chain s i []
  | cons {i e kd : Nat} {ts : List Tk} : i ≤ s.length → skipTo s i < s.length → tokAt s (skipTo s i) = (kd, e, true) → Chain s e ts → Chain s i ((kd, tokTx s (skipTo s i), skipTo s i) :: ts)
def Bl (R : List UInt8) : Prop := R = [] ∨ ∃ r, R = 32 :: r
end Go.Tok
end

section
namespace Go.Tok
end Go.Tok
end

section
namespace Go.Tok
end Go.Tok
end

section
namespace Go.Tok
def Jn (ts : List Tk) : List UInt8 := ts.flatMap fun t => 32 :: t.2.1
def kt (t : Tk) : Nat × List UInt8 := (t.1, t.2.1)
def Good (t : Tk) : Prop := ∃ s k e, k ≤ s.length ∧ tokAt s k = (t.1, e, true) ∧ t.2.1 = (s.drop k).take (e - k)
end Go.Tok
end

section
namespace Go.Tok.W
open Go.Tok
def Bl (R : List UInt8) : Prop := R = [] ∨ ∃ c r, (c = 32 ∨ c = 10) ∧ R = c :: r
def Sp (xs : List (Tk × UInt8)) : List UInt8 := xs.flatMap fun t => t.1.2.1 ++ [t.2]
def isSp (c : UInt8) : Prop := c = 32 ∨ c = 10
end Go.Tok.W
end

section
namespace Go.Tree
open Go.Tok Go.Tok.W
def Tk1 (s : Str) : Prop := ∃ kd, Go.Tok.Good (kd, s, 0)
def Tks (l : List Str) : Prop := ∀ s ∈ l, Tk1 s
end Go.Tree
end

section
namespace Go.Tree
open Go.Tok Go.Tok.W
def exHd (h : Str) : Bool := decide (h = [45]) || (decide (h = [40]) || (oneB 2 h || nameOk h))
def hdK (h : Str) : Nat :=
  if h = [116, 97, 114, 103, 101, 116] then 2 else if h = [102, 111, 114] then 4 else if h = [105, 102] then 5 else if h = [123] then 6
  else if h = [125] then 7 else if h = [101, 108, 115, 101] then 8 else if h = [97, 114, 114, 97, 121] then 9 else if h = [105, 110, 116] then 10
  else if h = [114, 101, 97, 108] then 11 else if h = [118, 101, 99, 116, 111, 114] then 12 else if h = [60] then 13 else if h = [91] then 14 else 0
def hk : List Str → Nat
  | [] => 99
  | h :: _ => hdK h
end Go.Tree
namespace Go.Tree
open Go.Tok Go.Tok.W
def kS (op : Nat) : Nat := if op = 1 ∨ op = 3 then 0 else op
def elT (e : List Sm) : List Str := if 0 < e.length then [101, 108, 115, 101] :: [123] :: ((smsT e).flatten ++ [[125]]) else []
section
variable (a : Int) (nm : Str) (x y : Ex) (l : List Ex) (b e : List Sm) (r : List Str)
end
end Go.Tree
end

section
namespace Go.Tree
open Go.Tok Go.Tok.W
def bT (lo up : List Ex) : List Str := if lo.length + up.length = 0 then [] else [[60]] ++ ldT lowW lo ++ (if lo.length + up.length = 2 then [[44]] else []) ++ ldT upW up ++ [[62]]
section
variable (x y : Ex) (X : List Str)
end
def iT (i : List Ex) (r : List Str) : List Str := ldT [[61]] i ++ [59] :: r
def scT (d : Dc) (r : List Str) : List Str := bT d.lower d.upper ++ d.nm :: iT d.init r
end Go.Tree
end

section
namespace Go.Tree
open Go.Tok Go.Tok.W
theorem bk_facts {i : Nat} {b : Bk} (h : bkOk i b = true) : (∀ d ∈ b.decls, dcOk d = true) ∧ smsOk b.stmts = true ∧ (b.is = false → b.decls = [] ∧ b.stmts = []) := by
  unfold bkOk headB at h
  simp only [Bool.and_eq_true, List.all_eq_true] at h
  obtain ⟨⟨⟨⟨h1, _⟩, _⟩, h4⟩, h5⟩ := h
  refine ⟨fun d hd => ?_, h4, fun hi => ?_⟩
  · have := h5 d hd
    unfold dgood at this
    rw [Bool.and_eq_true] at this
    exact this.1
  · rw [hi] at h1
    simp only [Bool.not_false, Bool.true_and, Bool.not_eq_true', decide_eq_false_iff_not] at h1
    exact ⟨List.length_eq_zero_iff.1 (by omega), List.length_eq_zero_iff.1 (by omega)⟩
def nhd (i : Nat) (r : List Str) : Prop := r.take 2 ≠ (headW i ++ [[123]]).take 2
theorem six {p : List Bk} (h : p.length = 6) : ∃ a b c d e f, p = [a, b, c, d, e, f] := by
  match p, h with
  | [a, b, c, d, e, f], _ => exact ⟨a, b, c, d, e, f, rfl⟩
def moveS (at_ : Int) : Sm → Sm
  | .mk o _ n k b e => .mk o at_ n k b e
def moveB (at_ : Int) (b : Bk) : Bk := { b with stmts := b.stmts.map (moveS at_) }
end Go.Tree
end

section
namespace Go.Knd
open Go.Tok Go.Tree
theorem andK_is {α β : Type} {x : Except Ft α} {f : α → Except Ft β} {b : β} (h : andK x f = .ok b) : ∃ a, x = .ok a ∧ f a = .ok b := by
  cases x with
  | error e => cases h
  | ok a => exact ⟨a, rfl, h⟩
theorem eachK_is {α : Type} {f : α → Except Ft Unit} : ∀ {l : List α} {u : Unit}, eachK f l = .ok u → ∀ x ∈ l, f x = .ok ()
  | [], _, _, x, hx => by cases hx
  | y :: l, u, h, x, hx => by
    rw [eachK] at h
    obtain ⟨⟨⟩, h1, h2⟩ := andK_is h
    rcases List.mem_cons.1 hx with rfl | hx
    · exact h1
    · exact eachK_is h2 x hx
def countB (op n k : Nat) : Bool := decide (op = 4) || decide (op = 5) || (decide (op = 1) && decide (k = 0) && decide (n = 2))
def kidsC (s : List Vr) (op n : Nat) : Nat → List Ex → Bool
  | _, [] => true
  | k, x :: r => !(countB op n k && hangsK s x) && placesK s x && kidsC s op n (k + 1) r
mutual
def chosenS (s : List Vr) : Sm → Bool
  | .mk op _ _ ks b e => kidsC s op ks.length 0 ks && (chosenK s b && chosenK s e)
def chosenK (s : List Vr) : List Sm → Bool
  | [] => true
  | x :: r => chosenS s x && chosenK s r
end
section
variable {l s : List Vr}
theorem isSome_no {α : Type} {x : Option α} (h : ¬ x.isSome = true) : x = none := by
  cases x with
  | none => rfl
  | some a => exact absurd rfl h
end
end Go.Knd
end

section
namespace Go.Knd
open Go.Tok Go.Tree
theorem declK_is {l l2 : List Vr} {d : Dc} {i : Nat} (h : declK l d i = .ok l2) : l2 = l ++ [⟨d.nm, d.ty, i, decide (2 ≤ i)⟩] ∧ findV l d.nm = none ∧ (∀ x ∈ d.size, countK l x = .ok ()) ∧ (∀ x ∈ d.lower ++ d.upper, boundK l d.ty i x = .ok ()) := by
  unfold declK at h
  split at h
  · cases h
  · rename_i hf
    obtain ⟨_, _, h2⟩ := andK_is h
    obtain ⟨_, h3, h4⟩ := andK_is h2
    obtain ⟨_, h5, h6⟩ := andK_is h4
    obtain ⟨_, _, h7⟩ := andK_is h6
    cases h7
    exact ⟨rfl, isSome_no hf, eachK_is h3, eachK_is h5⟩
theorem declsK_pre {i : Nat} : ∀ (ds : List Dc) (l l2 : List Vr), declsK i l ds = .ok l2 → l <+: l2
  | [], l, l2, h => by rw [declsK] at h; cases h; exact List.prefix_refl _
  | d :: ds, l, l2, h => by
    rw [declsK] at h
    obtain ⟨l3, h1, h2⟩ := andK_is h
    have h3 := (declK_is h1).1
    have h4 := declsK_pre ds l3 l2 h2
    rw [h3] at h4
    exact (List.prefix_append l _).trans h4
theorem declsK_take {i : Nat} : ∀ (ds : List Dc) (d : Nat) (l l2 : List Vr), declsK i l ds = .ok l2 → ∃ l3, declsK i l (ds.take d) = .ok l3 ∧ l3 <+: l2
  | ds, 0, l, l2, h => ⟨l, by rw [List.take_zero, declsK], declsK_pre ds l l2 h⟩
  | [], d + 1, l, l2, h => ⟨l, by rw [List.take_nil, declsK], declsK_pre [] l l2 h⟩
  | x :: ds, d + 1, l, l2, h => by
    rw [declsK] at h
    obtain ⟨l3, h1, h2⟩ := andK_is h
    obtain ⟨l4, h3, h4⟩ := declsK_take ds d l3 l2 h2
    exact ⟨l4, by rw [List.take_succ_cons, declsK, h1, andK_ok]; exact h3, h4⟩
theorem stmtsK_take {i : Nat} {l : List Vr} : ∀ (ss : List Sm) (s : Nat) (u : Unit), stmtsK i l ss = .ok u → stmtsK i l (ss.take s) = .ok ()
  | ss, 0, u, h => by rw [List.take_zero, stmtsK]
  | [], s + 1, u, h => by rw [List.take_nil, stmtsK]
  | x :: ss, s + 1, u, h => by
    rw [stmtsK] at h
    obtain ⟨_, h1, h2⟩ := andK_is h
    rw [List.take_succ_cons, stmtsK, h1, andK_ok]
    exact stmtsK_take ss s u h2
theorem blocksK_pre : ∀ (bs : List Bk) (i : Nat) (l l2 : List Vr), blocksK i l bs = .ok l2 → l <+: l2
  | [], i, l, l2, h => by rw [blocksK] at h; cases h; exact List.prefix_refl _
  | b :: bs, i, l, l2, h => by
    rw [blocksK] at h
    obtain ⟨l3, h1, h2⟩ := andK_is h
    obtain ⟨_, _, h3⟩ := andK_is h2
    exact (declsK_pre _ _ _ h1).trans (blocksK_pre bs (i + 1) l3 l2 h3)
def noB : Bk := ⟨false, [], []⟩
theorem blocksK_no : ∀ (n i : Nat) (l : List Vr), blocksK i l (List.replicate n noB) = .ok l
  | 0, i, l => by rw [List.replicate_zero, blocksK]
  | n + 1, i, l => by
    rw [List.replicate_succ, blocksK]
    show andK (declsK i l []) _ = _
    rw [declsK, andK_ok]
    show andK (stmtsK i l []) _ = _
    rw [stmtsK, andK_ok]
    exact blocksK_no n (i + 1) l
def cutB (d s : Nat) (b : Bk) : Bk := ⟨b.is, b.decls.take d, b.stmts.take s⟩
def cutP (n d s : Nat) : List Bk → List Bk
  | [] => []
  | b :: r => match n with
    | 0 => cutB d s b :: List.replicate r.length noB
    | n + 1 => b :: cutP n d s r
theorem blocksK_cut {d s : Nat} : ∀ (bs : List Bk) (n i : Nat) (l l2 : List Vr), (∀ b, bs[n]? = some b → d < b.decls.length → s = 0) → blocksK i l bs = .ok l2 → ∃ l3, blocksK i l (cutP n d s bs) = .ok l3 ∧ l3 <+: l2
  | [], n, i, l, l2, _, h => ⟨l2, by rw [cutP]; exact h, List.prefix_refl _⟩
  | b :: bs, 0, i, l, l2, hc, h => by
    have h0 := h
    rw [blocksK] at h
    obtain ⟨l3, h1, h2⟩ := andK_is h
    obtain ⟨_, h3, h4⟩ := andK_is h2
    have hp := blocksK_pre bs (i + 1) l3 l2 h4
    rw [cutP]
    by_cases hd : d < b.decls.length
    · have hs := hc b rfl hd
      subst hs
      obtain ⟨l4, g1, g2⟩ := declsK_take b.decls d l l3 h1
      refine ⟨l4, ?_, g2.trans hp⟩
      rw [blocksK]
      show andK (declsK i l (b.decls.take d)) _ = _
      rw [g1, andK_ok]
      show andK (stmtsK i l4 (b.stmts.take 0)) _ = _
      rw [List.take_zero, stmtsK, andK_ok]
      exact blocksK_no _ _ _
    · refine ⟨l3, ?_, hp⟩
      rw [blocksK]
      show andK (declsK i l (b.decls.take d)) _ = _
      rw [List.take_of_length_le (by omega), h1, andK_ok]
      show andK (stmtsK i l3 (b.stmts.take s)) _ = _
      rw [stmtsK_take b.stmts s _ h3, andK_ok]
      exact blocksK_no _ _ _
  | b :: bs, n + 1, i, l, l2, hc, h => by
    rw [blocksK] at h
    obtain ⟨l3, h1, h2⟩ := andK_is h
    obtain ⟨_, h3, h4⟩ := andK_is h2
    obtain ⟨l4, g1, g2⟩ := blocksK_cut bs n (i + 1) l3 l2 (fun b hb => hc b (by simpa using hb)) h4
    refine ⟨l4, ?_, g2⟩
    rw [cutP, blocksK, h1, andK_ok, h3, andK_ok]
    exact g1
theorem smsOk_take {l : List Sm} (s : Nat) (h : smsOk l = true) : smsOk (l.take s) = true := by
  rw [smsOk_all, List.all_eq_true] at *
  exact fun x hx => h x (List.mem_of_mem_take hx)
theorem cutB_ok {i d s : Nat} {b : Bk} (h : bkOk i b = true) : bkOk i (cutB d s b) = true := by
  have f := bk_facts h
  unfold bkOk headB at h ⊢
  simp only [Bool.and_eq_true, List.all_eq_true, Bool.not_eq_true', Bool.and_eq_false_iff, decide_eq_false_iff_not] at h ⊢
  obtain ⟨⟨⟨⟨h1, h2⟩, h3⟩, h4⟩, h5⟩ := h
  have ls : (b.stmts.take s).length ≤ b.stmts.length := by rw [List.length_take]; omega
  have ld : (b.decls.take d).length ≤ b.decls.length := by rw [List.length_take]; omega
  refine ⟨⟨⟨⟨?_, ?_⟩, ?_⟩, smsOk_take s h4⟩, fun x hx => h5 x (List.mem_of_mem_take hx)⟩
  · rcases h1 with h1 | h1
    · exact .inl h1
    · exact .inr (by show ¬ 0 < (b.decls.take d).length + (b.stmts.take s).length; omega)
  · rcases h2 with h2 | h2
    · exact .inl h2
    · exact .inr (by show ¬ 0 < (b.stmts.take s).length; omega)
  · rcases h3 with h3 | h3
    · exact .inl h3
    · exact .inr (by show ¬ 0 < (b.decls.take d).length; omega)
theorem cutP_get {d s : Nat} : ∀ (p : List Bk) (n i : Nat) (b : Bk), (cutP n d s p)[i]? = some b → b = noB ∨ (∃ c, p[i]? = some c ∧ (b = c ∨ b = cutB d s c))
  | [], n, i, b, h => by rw [cutP] at h; simp at h
  | x :: p, 0, 0, b, h => .inr ⟨x, rfl, .inr (by rw [cutP] at h; simpa using h.symm)⟩
  | x :: p, 0, i + 1, b, h => by
    rw [cutP] at h
    simp only [List.getElem?_cons_succ, List.getElem?_replicate] at h
    split at h
    · exact .inl (by simpa using h.symm)
    · cases h
  | x :: p, n + 1, 0, b, h => .inr ⟨x, rfl, .inl (by rw [cutP] at h; simpa using h.symm)⟩
  | x :: p, n + 1, i + 1, b, h => by
    rw [cutP] at h
    exact cutP_get p n i b (by simpa using h)
theorem cutP_len {d s : Nat} : ∀ (p : List Bk) (n : Nat), (cutP n d s p).length = p.length
  | [], n => by rw [cutP]
  | x :: p, 0 => by rw [cutP]; simp
  | x :: p, n + 1 => by rw [cutP, List.length_cons, List.length_cons, cutP_len p n]
theorem noB_ok (i : Nat) : bkOk i noB = true := by simp [bkOk, headB, noB, smsOk]
theorem cutP_ok {n d s : Nat} {p : List Bk} (lp : p.length = 6) (h : pgOk p = true) : pgOk (cutP n d s p) = true := by
  refine pgOk_yes ((cutP_len p n).trans lp) fun j b hj hb => ?_
  rcases cutP_get p n j b hb with rfl | ⟨c, hc, hbc⟩
  · exact noB_ok j
  · unfold pgOk at h
    rw [List.all_eq_true] at h
    have h1 := h j (List.mem_range.2 hj)
    rw [hc] at h1
    rcases hbc with rfl | rfl
    · exact h1
    · exact cutB_ok h1
theorem begins_law {n d s : Nat} {p : List Bk} {l : List Vr} (lp : p.length = 6) (hc : ∀ b, p[n]? = some b → d < b.decls.length → s = 0) (h : allK p = .ok l) : ∃ l2, allK (cutP n d s p) = .ok l2 ∧ l2 <+: l := by
  unfold allK at h
  split at h
  · rename_i hp
    obtain ⟨l2, h1, h2⟩ := blocksK_cut p n 0 [] l hc h
    exact ⟨l2, by unfold allK; rw [if_pos (cutP_ok lp hp)]; exact h1, h2⟩
  · cases h
end Go.Knd
end

section
namespace Go.Knd
open Go.Tok Go.Tree
def Bad {α : Type} (X : Except Ft α) : Prop := ∀ f, X = .error f → f.1 ≠ 0
theorem bad_ok {α : Type} (a : α) : Bad (.ok a : Except Ft α) := fun f h => by cases h
theorem bad_er {α : Type} {c : Nat} {a : Int} (h : c ≠ 0) : Bad (.error (c, a) : Except Ft α) := fun f hf => by cases hf; exact h
theorem bad_and {α β : Type} {X : Except Ft α} {F : α → Except Ft β} (h : Bad X) (hF : ∀ a, Bad (F a)) : Bad (andK X F) := by
  cases X with
  | error e => intro f hf; rw [andK_no] at hf; cases hf; exact h e rfl
  | ok a => rw [andK_ok]; exact hF a
theorem bad_need (b : Bool) (a : Int) : Bad (needK b a) := by unfold needK; split; exact bad_ok _; exact bad_er (by decide)
theorem bad_each {α : Type} {f : α → Except Ft Unit} (h : ∀ x, Bad (f x)) : ∀ l : List α, Bad (eachK f l)
  | [] => by rw [eachK]; exact bad_ok _
  | x :: r => by rw [eachK]; exact bad_and (h x) fun _ => bad_each h r
theorem bad_of (l : List Vr) (e : Ex) : Bad (ofK l e) := fun f h => by have := of_code e f h; omega
theorem bad_par (p : Bool) (a : Int) : Bad (if p = true then (.error (153, a) : Except Ft Unit) else .ok ()) := by split; exact bad_er (by decide); exact bad_ok _
theorem bad_counted (e : Ex) (k : Nat × Bool) : Bad (countedK e k) := bad_and (bad_need _ _) fun _ => bad_par _ _
theorem bad_count (l : List Vr) (e : Ex) : Bad (countK l e) := bad_and (bad_of l e) fun _ => bad_counted _ _
mutual
theorem bad_smooth : ∀ e : Ex, Bad (smoothK e)
  | .mk op a nm ks => by rw [smoothK]; exact bad_and (bad_smooths ks) fun _ => bad_need _ _
theorem bad_smooths : ∀ l : List Ex, Bad (smoothsK l)
  | [] => by rw [smoothsK]; exact bad_ok _
  | x :: r => by rw [smoothsK]; exact bad_and (bad_smooth x) fun _ => bad_smooths r
end
theorem bad_bound (l : List Vr) (ty i : Nat) (e : Ex) : Bad (boundK l ty i e) :=
  bad_and (bad_need _ _) fun _ => bad_and (bad_of l e) fun _ => bad_and (bad_need _ _) fun _ => bad_and (by split; exact bad_smooth e; exact bad_ok _) fun _ => bad_par _ _
theorem bad_decl (l : List Vr) (d : Dc) (i : Nat) : Bad (declK l d i) := by
  unfold declK
  split
  · exact bad_er (by decide)
  · exact bad_and (bad_need _ _) fun _ => bad_and (bad_each (bad_count l) _) fun _ => bad_and (bad_each (bad_bound l _ _) _) fun _ => bad_and (bad_each (fun e => bad_and (bad_of l e) fun _ => bad_need _ _) _) fun _ => bad_ok _
theorem bad_set (l : List Vr) (a : Int) (nm : Str) (ks : List Ex) (i : Nat) : Bad (setK l a nm ks i) := by
  unfold setK
  split
  · exact bad_er (by decide)
  · refine bad_and (bad_need _ _) fun _ => ?_
    split
    · exact bad_and (bad_of l _) fun _ => bad_need _ _
    · exact bad_and (bad_need _ _) fun _ => bad_and (bad_count l _) fun _ => bad_and (bad_of l _) fun _ => bad_need _ _
    · exact bad_ok _
theorem bad_args (l : List Vr) (t m : Nat) : ∀ (ks : List Ex) (i : Nat), Bad (argsK l t m i ks)
  | [], i => by rw [argsK]; exact bad_ok _
  | x :: r, i => by
    rw [argsK]
    exact bad_and (bad_of l x) fun _ => bad_and (bad_need _ _) fun _ => bad_and (by split; exact bad_er (by decide); exact bad_ok _) fun _ => bad_args l t m r (i + 1)
theorem bad_dist (l : List Vr) (a : Int) (nm : Str) (ks : List Ex) (i : Nat) : Bad (distS l a nm ks i) := by
  unfold distS
  refine bad_and (bad_need _ _) fun _ => ?_
  split
  · exact bad_er (by decide)
  · refine bad_and (bad_need _ _) fun _ => ?_
    split
    · exact bad_ok _
    · exact bad_and (bad_of l _) fun _ => bad_and (bad_need _ _) fun _ => bad_args l _ _ _ _
theorem bad_head (l : List Vr) (op : Nat) (a : Int) (nm : Str) (ks : List Ex) (i : Nat) : Bad (headK l op a nm ks i) := by
  unfold headK
  split
  · exact bad_and (bad_set _ _ _ _ _) fun _ => bad_ok _
  · split
    · refine bad_and (bad_need _ _) fun _ => ?_
      split
      · exact bad_ok _
      · exact bad_and (bad_of l _) fun _ => bad_and (bad_need _ _) fun _ => bad_ok _
    · split
      · exact bad_and (bad_dist _ _ _ _ _) fun _ => bad_ok _
      · split
        · split
          · exact bad_er (by decide)
          · exact bad_and (bad_each (bad_count l) _) fun _ => bad_ok _
        · split
          · split
            · exact bad_ok _
            · exact bad_and (bad_each (bad_count l) _) fun _ => bad_ok _
          · exact bad_ok _
mutual
theorem bad_stmt (i : Nat) : ∀ (l : List Vr) (s : Sm), Bad (stmtK i l s)
  | l, .mk op a nm ks b e => by rw [stmtK]; exact bad_and (bad_head _ _ _ _ _ _) fun l2 => bad_and (bad_stmts i l2 b) fun _ => bad_stmts i l2 e
theorem bad_stmts (i : Nat) : ∀ (l : List Vr) (s : List Sm), Bad (stmtsK i l s)
  | l, [] => by rw [stmtsK]; exact bad_ok _
  | l, s :: r => by rw [stmtsK]; exact bad_and (bad_stmt i l s) fun _ => bad_stmts i l r
end
theorem bad_decls (i : Nat) : ∀ (ds : List Dc) (l : List Vr), Bad (declsK i l ds)
  | [], l => by rw [declsK]; exact bad_ok _
  | d :: r, l => by rw [declsK]; exact bad_and (bad_decl l d i) fun l2 => bad_decls i r l2
theorem bad_blocks : ∀ (bs : List Bk) (i : Nat) (l : List Vr), Bad (blocksK i l bs)
  | [], i, l => by rw [blocksK]; exact bad_ok _
  | b :: r, i, l => by rw [blocksK]; exact bad_and (bad_decls i _ _) fun l2 => bad_and (bad_stmts i l2 _) fun _ => bad_blocks r (i + 1) l2
theorem bad_all (p : List Bk) : Bad (allK p) := by
  unfold allK
  split
  · exact bad_blocks _ _ _
  · exact bad_er (by decide)
theorem declsK_len {i : Nat} : ∀ (ds : List Dc) (l l2 : List Vr), declsK i l ds = .ok l2 → l2.length = l.length + ds.length
  | [], l, l2, h => by rw [declsK] at h; cases h; rfl
  | d :: r, l, l2, h => by
    rw [declsK] at h
    obtain ⟨l3, h1, h2⟩ := andK_is h
    have h3 := (declK_is h1).1
    have h4 := declsK_len r l3 l2 h2
    rw [h4, h3]; simp only [List.length_append, List.length_cons, List.length_nil]; omega
theorem blocksK_len {m : Nat} : ∀ (bs : List Bk) (i : Nat) (l l2 : List Vr), (∀ b ∈ bs, b.decls.length ≤ m) → blocksK i l bs = .ok l2 → l2.length ≤ l.length + bs.length * m
  | [], i, l, l2, _, h => by rw [blocksK] at h; cases h; exact Nat.le_add_right _ _
  | b :: r, i, l, l2, hb, h => by
    rw [blocksK] at h
    obtain ⟨l3, h1, h2⟩ := andK_is h
    obtain ⟨_, _, h3⟩ := andK_is h2
    have h4 := declsK_len b.decls l l3 h1
    have h5 := blocksK_len r (i + 1) l3 l2 (fun c hc => hb c (.tail _ hc)) h3
    have h6 := hb b (.head _)
    rw [List.length_cons, Nat.add_mul, Nat.one_mul]; omega
theorem allK_len {p : List Bk} {m : Nat} {l : List Vr} (lp : p.length = 6) (hb : ∀ b ∈ p, b.decls.length ≤ m) (h : allK p = .ok l) : l.length ≤ 6 * m := by
  unfold allK at h
  split at h
  · have h1 := blocksK_len p 0 [] l hb h
    rw [lp, List.length_nil, Nat.zero_add] at h1; exact h1
  · cases h
theorem cutP_set {d s : Nat} : ∀ (p q : List Bk) (n : Nat) (b : Bk), p[n]? = some b → q.length = p.length → (∀ j c, p[j]? = some c → q[j]? = some (if n < j then noB else c)) → q.set n (cutB d s b) = cutP n d s p
  | [], q, n, b, hb, _, _ => by simp at hb
  | x :: p, [], n, b, hb, hl, _ => by simp at hl
  | x :: p, y :: q, 0, b, hb, hl, h => by
    obtain rfl : x = b := by simpa using hb
    rw [List.set_cons_zero, cutP]
    congr 1
    refine List.ext_getElem? fun j => ?_
    by_cases hj : j < p.length
    · have h1 := h (j + 1) _ (by rw [List.getElem?_cons_succ]; exact List.getElem?_eq_getElem hj)
      rw [List.getElem?_cons_succ, if_pos (by omega)] at h1
      rw [h1, List.getElem?_replicate, if_pos hj]
    · rw [List.getElem?_replicate, if_neg hj]
      exact List.getElem?_eq_none (by simp at hl; omega)
  | x :: p, y :: q, n + 1, b, hb, hl, h => by
    have h0 := h 0 x rfl
    rw [if_neg (by omega)] at h0
    obtain rfl : y = x := by simpa using h0
    rw [List.set_cons_succ, cutP]
    congr 1
    refine cutP_set p q n b (by simpa using hb) (by simpa using hl) (fun j c hc => ?_)
    have h1 := h (j + 1) c (by simpa using hc)
    rw [List.getElem?_cons_succ] at h1
    rw [h1]
    by_cases hj : n < j
    · rw [if_pos hj, if_pos (by omega)]
    · rw [if_neg hj, if_neg (by omega)]
end Go.Knd
end

section
namespace Go.Sx
open Go.RowKit Go.Tree Go.Tok Go.Knd
section
variable {P : Program} {c : Cf} {e : Env} {B : Base} {L : Heap} {rest : List Oper} {d : Nat} {ρ : Operand → Value} {D : Option Tmp} {g : Option (Nat × Bool)} {x y : Operand} {T : TypeId} {p : String} {ed : Array Edge} {t : Nat} {w : World}
theorem R_slHiA {k : IntKind} {q n m l : Nat} {a : Option Addr} {hi : Operand} (hu : slB P t q = true) (hx : ρ x = .slice a n m) (hh : ρ hi = .int k (l : Nat)) (hl : l ≤ m) : Run P ⟨D, .slice t x none (some hi) none, T, p, ed, g⟩ ρ w (.slice a l m) w := by
  obtain ⟨e, ti, h3, h4, h5⟩ := slB_spec hu
  cases a <;> simp [Run, execOp, hx, hh, go_sem, Instr.sliceAt, Instr.slice, run_underlying h3, Instr.sliceBounds, Instr.sliceBound, asIntOf, hl, sizeOf, typeInfo, h4, h5, Addr.add]
end
section
variable {P : Program} {t : TypeId} {w : World}
theorem eq_bool_run {d : Nat} {a b : Bool} (h : P.underlying t = some .bool) : (Op.equalIn (d + 1) t (.bool a) (.bool b)).run P w = .ok (decide (a = b)) w := by
  rw [run_equalIn_bool' w d t a b h]; by_cases hx : a = b <;> simp [hx]
theorem eqV_run {t1 t2 t3 t4 : TypeId} {u v : Vr} {n : Nat} (hS : flatS P t [(t1, 0), (t2, 1), (t3, 2), (t4, 3)]) (z1 : szB P t1 1 false = true) (z2 : szB P t2 1 false = true) (z3 : szB P t3 1 false = true) (z4 : szB P t4 1 false = true)
    (u1 : P.underlying t1 = some .string) (u2 : P.underlying t2 = some (.int .u8)) (u3 : P.underlying t3 = some (.int .i64)) (u4 : P.underlying t4 = some .bool) :
    (Op.equalIn (n + 2) t (.agg (vrC u).toArray) (.agg (vrC v).toArray)).run P w = .ok (decide (u = v)) w := by
  rw [run_equalIn_agg w (n + 1) t _ _ hS.u hS.s]
  have hf := hS.f
  generalize (P.fieldsOf t).toList = fs at hf
  obtain ⟨f1, fs1, rfl, h1, hf⟩ := List.map_eq_cons_iff.1 hf
  obtain ⟨f2, fs2, rfl, h2, hf⟩ := List.map_eq_cons_iff.1 hf
  obtain ⟨f3, fs3, rfl, h3, hf⟩ := List.map_eq_cons_iff.1 hf
  obtain ⟨f4, fs4, rfl, h4, hf⟩ := List.map_eq_cons_iff.1 hf
  obtain rfl := List.map_eq_nil_iff.1 hf
  have e : decide (u = v) = (decide (u.nm = v.nm) && (decide ((u.ty : Int) = (v.ty : Int)) && (decide (u.bk = v.bk) && (decide (u.par = v.par) && true)))) := by
    obtain ⟨a, b, c, d⟩ := u; obtain ⟨a', b', c', d'⟩ := v
    rw [Bool.eq_iff_iff]; simp [Int.natCast_inj]
  rw [e]
  exact eqF_cons (xs := vrC u) (ys := vrC v) h1 z1 rfl rfl (eq_str_run u1) (eqF_cons h2 z2 rfl rfl (eq_int_run u2) (eqF_cons h3 z3 rfl rfl (eq_int_run u3) (eqF_cons h4 z4 rfl rfl (eq_bool_run u4) eqF_nil)))
end
section
variable {P : Program} {ops : Array Oper} {Q : Exit → Act → World → Prop} {c : Cf} {e : Env} {B : Base} {L : Heap} {fuel d : Nat} {S : World → Prop} {listed : Array Bool} {v : Value}
theorem o_ld1 {i : Nat} {t T : TypeId} {x : Operand} {p : String} {a : Array Edge} {ad : Addr} (hi : ops[i]? = some ⟨some d, .load t x, T, p, a, none⟩) (hz : szB P t 1 false = true) (hx : ev c.n e x = .pointer (some ad)) (hc : ∀ w, St B L w → w.cell? ad = some v)
    (h : WH P ops c Q S fuel (listed.setIfInBounds i true) (upd e d v) B L) : WO P ops c Q S fuel listed i e B L :=
  o_val hi rfl rfl fun w hw => ⟨_, w, B, L, R_ld1 hz hx (hc w hw), hw, h⟩
end
theorem vrsV.take {w : World} {N : Nat → Prop} {l : List Vr} {b : Option Addr × Nat} (h : vrsV w N l b) (k : Nat) : vrsV w N (l.take k) b := by
  refine ⟨Nat.le_trans (by rw [List.length_take]; omega) h.1, fun j v hj => h.2 j v ?_⟩
  rw [List.getElem?_take] at hj
  split at hj
  · exact hj
  · cases hj
theorem smsM.take {w : World} {N : Nat → Prop} {a : Option Addr} : ∀ (l : List Sm) (i k : Nat), smsM w N l a i → smsM w N (l.take k) a i
  | _, i, 0, _ => by rw [List.take_zero]; unfold smsM; trivial
  | [], i, k + 1, _ => by rw [List.take_nil]; unfold smsM; trivial
  | x :: l, i, k + 1, h => by
    unfold smsM at h
    rw [List.take_succ_cons]
    unfold smsM
    exact ⟨h.1, smsM.take l _ k h.2⟩
theorem dcsM.take {w : World} {N : Nat → Prop} {a : Option Addr} {l : List Dc} (h : dcsM w N l a) (k : Nat) : dcsM w N (l.take k) a := fun j d hj => by
  rw [List.getElem?_take] at hj
  split at hj
  · exact h j d hj
  · cases hj
theorem noB_M (w : World) (N : Nat → Prop) : bkM w N noB [.bool false, .slice none 0 0, .slice none 0 0] := ⟨none, 0, none, 0, rfl, fun k d h => by simp [noB] at h, by unfold noB; simp only []; unfold smsM; trivial⟩
theorem ap_get {α : Type} {cs r : List α} {j : Nat} {v : α} (h : cs[j]? = some v) : (cs ++ r)[0 + j]? = some v := by
  rw [Nat.zero_add, List.getElem?_append_left (List.getElem?_eq_some_iff.1 h).1]; exact h
theorem ap_at {α : Type} {cs r : List α} {n j off : Nat} {v : α} (hl : cs.length = n) (h : r[j]? = some v) (ho : n + j = off) : (cs ++ r)[off]? = some v := by
  subst ho; subst hl
  rw [List.getElem?_append_right (by omega), Nat.add_sub_cancel_left]; exact h
theorem put_ne {α : Type} {cs c : List α} {i j : Nat} (hl : cs.length = 18) (hc : c.length = 3) (hi : i < 6) (hj : j ≠ i) : ((cs.take (i * 3) ++ c ++ cs.drop (i * 3 + 3)).drop (j * 3)).take 3 = (cs.drop (j * 3)).take 3 := by
  have l1 : (cs.take (i * 3)).length = i * 3 := by rw [List.length_take]; omega
  refine List.ext_getElem? fun k => ?_
  rw [List.getElem?_take, List.getElem?_take, List.getElem?_drop, List.getElem?_drop]
  split
  · rename_i hk
    rw [List.append_assoc]
    by_cases h2 : j < i
    · rw [List.getElem?_append_left (by omega), List.getElem?_take, if_pos (by omega)]
    · rw [List.getElem?_append_right (by omega), List.getElem?_append_right (by omega), List.getElem?_drop, l1, hc]
      congr 1; omega
  · rfl
theorem pgM.put {w : World} {N : Nat → Prop} {p : List Bk} {cs c : List Value} {i : Nat} {b : Bk} (h : pgM w N p cs) (hi : i < 6) (hc : c.length = 3) (hb : bkM w N b c) : pgM w N (p.set i b) (cs.take (i * 3) ++ c ++ cs.drop (i * 3 + 3)) := by
  have h6 := h.six
  have hl := h.len
  have l1 : (cs.take (i * 3)).length = i * 3 := by rw [List.length_take]; omega
  refine ⟨by rw [List.length_set]; exact h6, by simp only [List.length_append, List.length_drop, l1, hc]; omega, fun j x hx => ?_⟩
  by_cases hj : j = i
  · subst hj
    rw [List.getElem?_set_self (by omega)] at hx
    obtain rfl := Option.some.inj hx
    rw [List.append_assoc, List.drop_append_of_le_length (by omega), List.drop_of_length_le (by omega), List.nil_append, List.take_append_of_le_length (by omega), List.take_of_length_le (by omega)]
    exact hb
  · rw [List.getElem?_set_ne (by omega)] at hx
    have h1 := h.one j x hx
    rw [put_ne hl hc hi hj]; exact h1
theorem set_two {α : Type} {cs : List α} {a b c b' c' : α} {i : Nat} (h : (cs.drop (i * 3)).take 3 = [a, b, c]) : (cs.set (i * 3 + 1) b').set (i * 3 + 2) c' = cs.take (i * 3) ++ [a, b', c'] ++ cs.drop (i * 3 + 3) := by
  have e : cs = cs.take (i * 3) ++ ([a, b, c] ++ cs.drop (i * 3 + 3)) := by
    rw [← h, show cs.drop (i * 3 + 3) = (cs.drop (i * 3)).drop 3 by rw [List.drop_drop], List.take_append_drop, List.take_append_drop]
  have l1 : (cs.take (i * 3)).length = i * 3 := by
    have h2 := congrArg List.length h
    simp only [List.length_take, List.length_drop, List.length_cons, List.length_nil] at h2
    rw [List.length_take]; omega
  generalize hA : cs.take (i * 3) = A at *
  generalize hR : cs.drop (i * 3 + 3) = R at *
  subst e
  rw [List.set_append_right _ _ (by omega), List.set_append_right _ _ (by omega), l1, show i * 3 + 1 - i * 3 = 1 by omega, show i * 3 + 2 - i * 3 = 2 by omega, List.append_assoc]
  rfl
theorem pgM.cells {w : World} {N : Nat → Prop} {p : List Bk} {cs c : List Value} {i j : Nat} (_ : pgM w N p cs) (h : (cs.drop (i * 3)).take 3 = c) {v : Value} (hv : c[j]? = some v) : cs[i * 3 + j]? = some v := by
  subst h
  rw [List.getElem?_take] at hv
  split at hv
  · rwa [List.getElem?_drop] at hv
  · cases hv
end Go.Sx
end

section
namespace Go.Proofs.YtoehjlmdnajibaaGreatDoor
open Go.RowKit Go.Sx
open Go.Tok Go.Tree Go.Knd Go.Prs

theorem same_ok (vs : List Vr) (va ua : Option Addr) (vc uc : Nat) (w : World) (hv : vrsV w (fun _ => True) vs (va, vc)) (hu : vrsV w (fun _ => True) vs (ua, uc)) (hvl : vs.length ≤ 90000000) :
    Ret Tryz.prog 15 #[.slice va vs.length vc, .slice ua vs.length uc] w (fun v w' => v = .bool true ∧ Ext w w') := by
  refine enter (S := No) (l := [_, _]) (L := []) 26 Tryz.func15 rfl rfl rfl (St.start w No) (yA (aB rfl (yB (zq (yA (mS rfl (zg (fun _ => R_len sl34 rfl) (mS rfl (zg (fun _ => R_len sl34 rfl) (zg (fun _ => R_ne rfl rfl) (yB ?_))))))))))); refine zD rfl (fun h1 => ?_) (fun h1 => ?_)
  · exact absurd rfl h1
  · refine zi (zk (zq (yA (aI rfl (yB (zB (c_loop (fun m e B L => ∃ (k : Nat), e 0 = .slice va vs.length vc ∧ e 1 = .slice ua vs.length uc ∧ e 5 = .int .i64 (k : Nat) ∧ B = [(w, No)] ∧ L = [] ∧ k ≤ vs.length ∧ m = vs.length - k) _ ⟨0, rfl, rfl, rfl, rfl, rfl, Nat.zero_le _, rfl⟩ ?_)))))))
    rintro m e B L ⟨k, e0_1, e1_1, e5_1, rfl, rfl, hk, rfl⟩
    refine zq (yA (mI e5_1 (mS e0_1 (zg (fun _ => R_len sl34 rfl) (zg (fun _ => R_lt rfl rfl) (yB ?_)))))); refine zD rfl (fun h2 => ?_) (fun h2 => ?_)
    · have hlt : k < vs.length := (by omega); obtain ⟨v, hxk⟩ : ∃ x, vs[k]? = some x := ⟨_, List.getElem?_eq_getElem hlt⟩; have hA := hv.2 k v hxk; have hA2 := hu.2 k v hxk; have hA1 : ∃ b1 o1, va = some ⟨b1, o1, none⟩ := hA.ptr; obtain ⟨b1, o1, rfl⟩ := hA1; have hA1 : ∃ b1 o1, ua = some ⟨b1, o1, none⟩ := hA2.ptr; obtain ⟨b2, o2, rfl⟩ := hA1
      refine zi (zk (zq (zB (zq (c_heldS mixed (zh (v := .slice _ _ _) 0 rfl (by kernel_rfl) rfl rfl (fun w h => h) (fun w h => R_move e0_1) (zh (v := .int _ _) 1 rfl (by kernel_rfl) rfl rfl (fun w h => h) (fun w h => R_move e5_1) (zh2 2 rfl rfl (fun w h => h) (fun w h => R_iaN (i := k) sl34 rfl rfl (by omega)) (h_loadC 3 (l := vrC v) rfl (by kernel_rfl) (fun w h => h) z54 rfl rfl (fun w h j v hj => hA.cell (x := (_, No)) (fun _ _ h => h) zm0 h j v hj) (zh (v := .slice _ _ _) 4 rfl (by kernel_rfl) rfl rfl (fun w h => h) (fun w h => R_move e1_1) (zh (v := .int _ _) 5 rfl (by kernel_rfl) rfl rfl (fun w h => h) (fun w h => R_move e5_1) (zh2 6 rfl rfl (fun w h => h) (fun w h => R_iaN (i := k) sl34 rfl rfl (by omega)) (h_loadC 7 (l := vrC v) rfl (by kernel_rfl) (fun w h => h) z54 rfl rfl (fun w h j v hj => hA2.cell (x := (_, No)) (fun _ _ h => h) zm0 h j v hj) (zh2 8 rfl rfl (fun w h => h) (fun w h => R_neS fl54 rfl rfl (eqV_run (n := 9998) fl54 z9 z5 z3 z4 un9 un5 un3 unb4)) (zN2 (fun w h => h) (zk ?_)))))))))))))))); refine c_cond rfl (fun h3 => ?_) (fun h3 => ?_)
      · simp at h3
      · refine zi (zO (zk (zr (mI e5_1 (zg (fun _ => R_addi rfl rfl (by omega)) (aI rfl (zn ?_))))))); exact k_again _ (by omega) ⟨k + 1, e0_1, e1_1, rfl, rfl, rfl, by omega, rfl⟩
    · refine zX (zx (zx (b_here rfl (zk (yA (aB rfl (yB (ze (zo (v := .bool _) rfl rfl rfl ?_))))))))); exact fun w' hw => ⟨rfl, hw.fr _ zm0⟩

theorem kVars_at (p : List Bk) (cs : List Value) (w : World) (hp : ∀ b ∈ p, bkW b < 10000000) (hm : pgM w (fun _ => True) p cs) (hW : Wd w) {l : List Vr} (hX : allK p = .ok l) : Ret Tryz.prog 16 #[.agg cs.toArray] w fun v w' => ∃ b : Option Addr × Nat, v = vsV l b ∧ vrsW w' (Nn w w') l b ∧ Ext w w' := by
  have h := kVars_ok p cs w hp hm hW
  rw [outV_ok hX] at h; exact h
theorem kCheck_at (p : List Bk) (cs : List Value) (w : World) (hp : ∀ b ∈ p, bkW b < 10000000) (hm : pgM w (fun _ => True) p cs) (hW : Wd w) {l : List Vr} (hX : allK p = .ok l) : Ret Tryz.prog 14 #[.agg cs.toArray] w fun v w' => v = .agg #[.int .i64 0, .int .i64 0] ∧ Ext w w' := by
  have h := kCheck_ok p cs w hp hm hW
  rw [outV_ok hX] at h; exact h
theorem kCheck_er (p : List Bk) (cs : List Value) (w : World) (hp : ∀ b ∈ p, bkW b < 10000000) (hm : pgM w (fun _ => True) p cs) (hW : Wd w) {f : Ft} (hX : allK p = .error f) : Ret Tryz.prog 14 #[.agg cs.toArray] w fun v w' => v = .agg #[.int .i64 (f.1 : Nat), .int .i64 f.2] ∧ Ext w w' := by
  have h := kCheck_ok p cs w hp hm hW
  rw [outV_er hX] at h; exact h
theorem same_pre {l l2 : List Vr} (hpre : l2 <+: l) {va ua : Option Addr} {vc uc : Nat} (w : World) (hv : vrsV w (fun _ => True) l2 (va, vc)) (hu : vrsV w (fun _ => True) l (ua, uc)) (hvl : l2.length ≤ 90000000) : Ret Tryz.prog 15 #[.slice va l2.length vc, .slice ua l2.length uc] w fun v w' => v = .bool true ∧ Ext w w' := by
  have h := hu.take l2.length
  rw [← List.prefix_iff_eq_take.1 hpre] at h
  exact same_ok l2 va ua vc uc w hv h hvl
def capB (b : Bk) (c : List Value) : Prop := ∃ da dc sa sc, c = [.bool b.is, .slice da b.decls.length dc, .slice sa b.stmts.length sc] ∧ b.decls.length ≤ dc ∧ b.stmts.length ≤ sc
theorem dcsW_take : ∀ (l : List Dc) (k : Nat), dcsW (l.take k) ≤ dcsW l
  | _, 0 => by rw [List.take_zero]; exact Nat.zero_le _
  | [], k + 1 => by rw [List.take_nil]; exact Nat.le_refl _
  | x :: l, k + 1 => by have := dcsW_take l k; rw [List.take_succ_cons, dcsW, dcsW]; omega
theorem smsW_take : ∀ (l : List Sm) (k : Nat), smsW (l.take k) ≤ smsW l
  | _, 0 => by rw [List.take_zero]; exact Nat.zero_le _
  | [], k + 1 => by rw [List.take_nil]; exact Nat.le_refl _
  | x :: l, k + 1 => by have := smsW_take l k; rw [List.take_succ_cons, smsW, smsW]; omega
theorem cutP_W {p : List Bk} {n d s m : Nat} (h : ∀ b ∈ p, bkW b < m) (hm : 1000 ≤ m) : ∀ b ∈ cutP n d s p, bkW b < m := by
  intro b hb
  obtain ⟨i, hi⟩ := List.getElem?_of_mem hb
  rcases cutP_get p n i b hi with rfl | ⟨c, hc, rfl | rfl⟩
  · exact Nat.lt_of_lt_of_le (by decide) hm
  · exact h _ (List.mem_of_getElem? hc)
  · have h1 := h c (List.mem_of_getElem? hc)
    have h2 := dcsW_take c.decls d
    have h3 := smsW_take c.stmts s
    have l2 : (c.decls.take d).length ≤ c.decls.length := by rw [List.length_take]; omega
    have l3 : (c.stmts.take s).length ≤ c.stmts.length := by rw [List.length_take]; omega
    unfold bkW at h1 ⊢
    unfold cutB
    simp only []
    omega
theorem clr_step {p q : List Bk} {n i : Nat} (h : ∀ j c, p[j]? = some c → q[j]? = some (if n < j ∧ j < i then noB else c)) (hn : n < i) (hi : i < q.length) : ∀ j c, p[j]? = some c → (q.set i noB)[j]? = some (if n < j ∧ j < i + 1 then noB else c) := by
  intro j c hc
  by_cases hj : j = i
  · subst hj; rw [List.getElem?_set_self hi, if_pos (by omega)]
  · rw [List.getElem?_set_ne (by omega), h j c hc]
    by_cases h1 : n < j ∧ j < i
    · rw [if_pos h1, if_pos (by omega)]
    · rw [if_neg h1, if_neg (by omega)]
theorem put_one {α : Type} {cs : List α} {i off : Nat} {v : α} (ho : off = i) (hl : i < cs.length) : cs.take off ++ [v] ++ cs.drop (off + 1) = cs.set i v := by
  subst ho; rw [List.set_eq_take_append_cons_drop, if_pos hl]; simp
theorem cut_M {w : World} {p q : List Bk} {xs : List Value} {n d s : Nat} {b : Bk} {da sa : Option Addr} {dc sc : Nat} (hq : pgM w (fun _ => True) q xs) (h6 : p.length = 6) (hn : n < 6) (hb : p[n]? = some b) (hqs : ∀ j c, p[j]? = some c → q[j]? = some (if n < j ∧ j < 6 then noB else c))
    (hc : (xs.drop (n * 3)).take 3 = [.bool b.is, .slice da b.decls.length dc, .slice sa b.stmts.length sc]) (hds : dcsM w (fun _ => True) b.decls da) (hss : smsM w (fun _ => True) b.stmts sa 0) (hd : d ≤ b.decls.length) (hs : s ≤ b.stmts.length) :
    pgM w (fun _ => True) (cutP n d s p) ((xs.set (n * 3 + 1) (.slice da d dc)).set (n * 3 + 2) (.slice sa s sc)) := by
  have h := hq.put (i := n) (b := cutB d s b) (c := [.bool b.is, .slice da d dc, .slice sa s sc]) hn rfl ⟨da, dc, sa, sc, by unfold cutB; simp only [List.length_take, Nat.min_eq_left hd, Nat.min_eq_left hs], hds.take d, hss.take _ _ _⟩
  rw [cutP_set p q n b hb (hq.six.trans h6.symm) (fun j c hjc => by
    have hj6 := (List.getElem?_eq_some_iff.1 hjc).1
    rw [hqs j c hjc]
    by_cases h1 : n < j
    · rw [if_pos ⟨h1, by omega⟩, if_pos h1]
    · rw [if_neg (by omega), if_neg h1])] at h
  rw [set_two hc]; exact h

theorem begins15_walk (p : List Bk) (cs : List Value) (bl dl sl : Nat) (hbl : bl < 256) (hdl : dl < 256) (hsl : sl < 256) (w : World) (hW : Wd w) (hng : 4 ≤ w.heap.size) (hp : ∀ b ∈ p, bkW b ≤ 1048576) (hm : pgM w (fun _ => True) p cs) (hcap : ∀ i b, p[i]? = some b → capB b ((cs.drop (i * 3)).take 3)) :
    Ret Tryz.prog 5 #[.agg (cs ++ ([.int .u8 (bl : Nat), .int .u8 (dl : Nat), .int .u8 (sl : Nat)] : List Value)).toArray] w (fun v w' => v = .bool true ∧ Ext w w') := by
  have hn6 : bl % 6 < 6 := Nat.mod_lt _ (by decide)
  obtain ⟨b, hb⟩ : ∃ b, p[bl % 6]? = some b := ⟨_, List.getElem?_eq_getElem (by rw [hm.six]; exact hn6)⟩
  obtain ⟨da, dc, sa, sc, hXC, hcd, hcs⟩ := hcap _ b hb
  have hone := hm.one _ b hb
  rw [hXC] at hone
  obtain ⟨hds, hss⟩ : dcsM w (fun _ => True) b.decls da ∧ smsM w (fun _ => True) b.stmts sa 0 := (by obtain ⟨da', dc', sa', sc', he, h1, h2⟩ := hone; simp only [List.cons.injEq, Value.slice.injEq, and_true, true_and] at he; obtain ⟨⟨rfl, _⟩, rfl, _⟩ := he; exact ⟨h1, h2⟩)
  have hbw := hp b (List.mem_of_getElem? hb)
  have hld : b.decls.length ≤ 2000000 ∧ b.stmts.length ≤ 2000000 := (by unfold bkW at hbw; omega)
  have hd0 : (dl % (b.decls.length + 1)) ≤ b.decls.length := (by have := Nat.mod_lt dl (show 0 < b.decls.length + 1 by omega); omega)
  have hs0 : (sl % (b.stmts.length + 1)) ≤ b.stmts.length := (by have := Nat.mod_lt sl (show 0 < b.stmts.length + 1 by omega); omega)
  refine enter (S := No) (l := [_]) (L := []) 119 Tryz.func5 rfl rfl rfl (St.start w No) (yA (w_boxA rfl (fun t1b gt1b ut1b => aB rfl (yB (zq (c_heldI [0] mixed (zh2 0 rfl rfl (fun w h => (h).pick [0] (by decide)) (fun w h => R_fa fa44_0 rfl) (h_loadC 1 (l := cs) rfl (by kernel_rfl) (fun w h => (h).pick [0] (by decide)) z32 rfl hm.len (fun w h j v hj => zc 0 rfl (ap_get hj) h) (zh2 2 rfl rfl (fun w h => (h).pick [0] (by decide)) (fun w h => R_fa fa44_1 rfl) (zh (v := .int .u8 (bl : Nat)) 3 rfl (by kernel_rfl) rfl rfl (fun w h => (h).pick [0] (by decide)) (fun w h => R_ld1 z5 rfl (zc (v := .int .u8 (bl : Nat)) 0 rfl (ap_at hm.len (j := 0) rfl rfl) h)) (zh2 4 rfl rfl (fun w h => (h).pick [0] (by decide)) (fun w h => R_fa fa44_2 rfl) (zh (v := .int .u8 (dl : Nat)) 5 rfl (by kernel_rfl) rfl rfl (fun w h => (h).pick [0] (by decide)) (fun w h => R_ld1 z5 rfl (zc (v := .int .u8 (dl : Nat)) 0 rfl (ap_at hm.len (j := 1) rfl rfl) h)) (zh2 6 rfl rfl (fun w h => (h).pick [0] (by decide)) (fun w h => R_fa fa44_3 rfl) (zh (v := .int .u8 (sl : Nat)) 7 rfl (by kernel_rfl) rfl rfl (fun w h => (h).pick [0] (by decide)) (fun w h => R_ld1 z5 rfl (zc (v := .int .u8 (sl : Nat)) 0 rfl (ap_at hm.len (j := 2) rfl rfl) h)) (zH2 8 (fun w h => (h).pick [0] (by decide)) (o_alloc rfl zr32 (fun t3b gt3b ut3b => zH2 9 (fun w h => (h).pick [1] (by decide)) (o_storeW cs 0 rfl rfl z32 rfl rfl rfl hm.len (pg_one hm) rfl (zh (v := .int _ _) 10 rfl (by kernel_rfl) rfl rfl (fun w h => (h).pick [1] (by decide)) (fun w h => R_assign rfl) (zh (v := .int _ _) 11 rfl (by kernel_rfl) rfl rfl (fun w h => (h).pick [1] (by decide)) (fun w h => R_assign rfl) (zh (v := .int _ _) 12 rfl (by kernel_rfl) rfl rfl (fun w h => (h).pick [1] (by decide)) (fun w h => R_assign rfl) (zN2 (fun w h => (h).pick [1] (by decide)) (zk (zq (yA (w_loadW z32 rfl (fun w h => h.at_ 0 rfl) hm.len (zC (fun w => zR Tryz.func12 rfl rfl rfl) rfl rfl (fun w h => Small_spec p cs (fun _ => True) w (fun b hb => Nat.lt_of_le_of_lt (hp b hb) (by decide)) (hm.now (x := (_, No)) (fun _ _ h => h) zm0 h)) (zg (fun _ => R_not rfl) (mB rfl ?_))))))))))))))))))))))))))))); refine zp (t := 26) rfl (fun h2 => ?_) (fun h2 => ?_)
  · refine zs rfl rfl (bV h2) (zs rfl rfl (bV h2) (zs rfl rfl (bV h2) (zs rfl rfl (bV h2) (zg (v := .bool _) (fun _ => zT (bV h2) rfl) (yB (zE rfl (yA (zC (v := .bool true) (fun w => zR Tryz.func9 rfl rfl rfl) rfl rfl (fun w h => head15_ok w (hW.now zm0 h) (Nat.le_trans hng (h.fr _ zm0).size)) (aB rfl (yB (ze (zt ((zo (v := .bool _) rfl rfl rfl ?_)))))))))))))); exact fun w' hw => ⟨rfl, hw.fr _ zm0⟩
  · refine zw rfl rfl (bV h2) (w_loadW z32 rfl (fun w h => h.at_ 0 rfl) hm.len (zw rfl rfl (bV h2) ?_))
    rcases hX : allK p with f | l0
    · have hbad := bad_all p f hX; refine zC (fun w => zR Tryz.func14 rfl rfl rfl) rfl rfl (fun w h => kCheck_er p cs w (fun b hb => Nat.lt_of_le_of_lt (hp b hb) (by decide)) (hm.now (x := (_, No)) (fun _ _ h => h) zm0 h) (hW.now zm0 h) hX) ?_
      refine zw rfl rfl (bV h2) (zg (fun _ => R_fieldA fd37_0 z35 rfl rfl) (zw rfl rfl (bV h2) (zg (fun _ => R_ne rfl rfl) (zg (v := .bool _) (fun _ => zF (bV h2) rfl) (yB ?_))))); refine zD rfl (fun h3 => ?_) (fun h3 => ?_)
      · refine yA (zC (v := .bool true) (fun w => zR Tryz.func9 rfl rfl rfl) rfl rfl (fun w h => head15_ok w (hW.now zm0 h) (Nat.le_trans hng (h.fr _ zm0).size)) (aB rfl (yB (ze (zt ((zo (v := .bool _) rfl rfl rfl ?_))))))); exact fun w' hw => ⟨rfl, hw.fr _ zm0⟩
      · exfalso; omega
    · refine zC (fun w => zR Tryz.func14 rfl rfl rfl) rfl rfl (fun w h => kCheck_at p cs w (fun b hb => Nat.lt_of_le_of_lt (hp b hb) (by decide)) (hm.now (x := (_, No)) (fun _ _ h => h) zm0 h) (hW.now zm0 h) hX) (zw rfl rfl (bV h2) (zg (fun _ => R_fieldA fd37_0 z35 rfl rfl) (zw rfl rfl (bV h2) (zg (fun _ => R_ne rfl rfl) (zg (v := .bool _) (fun _ => zF (bV h2) rfl) (yB (zG (congrArg Value.bool (decide_eq_false (by decide))) (zi (zk (yA (w_loadW z32 rfl (fun w h => h.at_ 0 rfl) hm.len (zP (fun w => zR Tryz.func16 rfl rfl rfl) rfl rfl (fun w h => kVars_at p cs w (fun b hb => Nat.lt_of_le_of_lt (hp b hb) (by decide)) (hm.now (x := (_, No)) (fun _ _ h => h) zm0 h) (hW.now zm0 h) hX) ?_))))))))))))
      rintro w1 hw1 v w2 ⟨⟨a0, c0⟩, rfl, hM, hxx⟩; refine ⟨_, _, (hw1.ext hxx).base1, ?_⟩; have hK0 : Kt (w2, inL [_, _]) w.heap.size vrsW l0 (a0, c0) := Kt.new hM TL.vrw hw1 (hw1.fr _ zm0).size; have hcl : l0.length ≤ c0 := hM.1.1; have hl0 := allK_len (m := 1048576) hm.six (fun b hb => by have := hp b hb; unfold bkW at this; omega) hX; clear hM
      refine za (v := .slice _ _ _) rfl (yC (mI rfl (zg (fun _ => R_convN (n := bl) un5 un3 rfl (by omega)) (zg (fun _ => R_remN (n := bl) (m := 6) rfl rfl (by decide)) (aI rfl (yC (w_loadW z32 rfl (fun w h => h.at_ 0 rfl) hm.len (zA zr32 (fun t9b gt9b ut9b => w_storeW cs 0 rfl z32 rfl rfl rfl hm.len (pg_one hm) rfl (yB (zq (yA (mI rfl (zg (fun _ => R_addi rfl rfl (by omega)) (aI rfl (yB (zB ?_)))))))))))))))))
      refine c_loop (fun m e B L => ∃ (i : Nat) (q : List Bk) (xs : List Value), e 7 = .slice a0 l0.length c0 ∧ e 9 = .pointer (some ⟨t9b, 0, none⟩) ∧ e 5 = .int .u8 (dl : Nat) ∧ e 6 = .int .u8 (sl : Nat) ∧ e 8 = .int .i64 (bl % 6 : Nat) ∧ e 10 = .int .i64 (i : Nat) ∧ B = [(w2, inL [(t3b, cel cs 32), (t1b, cel (cs ++ ([.int .u8 (bl : Nat), .int .u8 (dl : Nat), .int .u8 (sl : Nat)] : List Value)) 44)]), (w, No)] ∧ L = [(t9b, cel xs 32), (t3b, cel cs 32), (t1b, cel (cs ++ ([.int .u8 (bl : Nat), .int .u8 (dl : Nat), .int .u8 (sl : Nat)] : List Value)) 44)] ∧ bl % 6 < i ∧ i ≤ 6 ∧ pgM w (fun _ => True) q xs ∧ (∀ j c, p[j]? = some c → q[j]? = some (if bl % 6 < j ∧ j < i then noB else c)) ∧ (xs.drop (bl % 6 * 3)).take 3 = [.bool b.is, .slice da b.decls.length dc, .slice sa b.stmts.length sc] ∧ m = 6 - i) _ ⟨bl % 6 + 1, p, cs, rfl, rfl, rfl, rfl, rfl, rfl, rfl, rfl, Nat.lt_succ_self _, by omega, hm, (fun j c hc => by rw [hc, if_neg (by omega)]), hXC, rfl⟩ ?_
      rintro m e B L ⟨i, q, xs, e7_1, e9_1, e5_1, e6_1, e8_1, e10_1, rfl, rfl, hni, hi, hq, hqs, hXB, rfl⟩
      refine zq (yA (mI e10_1 (zg (fun _ => R_lt rfl rfl) (yB ?_)))); refine zD rfl (fun h5 => ?_) (fun h5 => ?_)
      · refine zi (zk (zq (zB (zr (mI e10_1 (zg (fun _ => R_build bt29 rfl) (zf fa32_0 e9_1 (zg (fun _ => R_iaA (i := i) ara30 (by decide) rfl rfl (by omega)) (zV (cs' := xs.take (i * 3) ++ [.bool false, .slice none 0 0, .slice none 0 0] ++ xs.drop (i * 3 + 3)) (vs := [.bool false, .slice none 0 0, .slice none 0 0]) 0 rfl z29 rfl rfl rfl rfl rfl (by rw [Nat.ble_eq, hq.len]; omega) (by simp) (zn (zO (zk (zr (mI e10_1 (zg (fun _ => R_addi rfl rfl (by omega)) (aI rfl (zn ?_)))))))))))))))))
        exact k_again _ (by omega) ⟨i + 1, q.set i noB, _, e7_1, e9_1, e5_1, e6_1, e8_1, rfl, rfl, rfl, by omega, by omega, hq.put (by omega) rfl (noB_M _ _), clr_step hqs hni (by rw [hq.six]; omega), (put_ne hq.len rfl (by omega) (by omega)).trans hXB, rfl⟩
      · obtain rfl : i = 6 := (by omega)
        refine zX (zx (zx (b_here rfl (zk (yA (mI e8_1 (zf fa32_0 e9_1 (zg (fun _ => R_iaA (i := (bl % 6)) ara30 (by decide) rfl rfl (by omega)) (za (v := .pointer _) rfl (yC (mI e5_1 (zg (fun _ => R_convN (n := dl) un5 un3 rfl (by omega)) (mP rfl (zI rfl (zf fa29_1 rfl ?_))))))))))))))); refine zl (v := .slice da b.decls.length dc) z26 rfl (fun w h => zc 0 rfl (by rw [show 0 + 0 + bl % 6 * 3 + 1 = bl % 6 * 3 + 1 by omega]; exact hq.cells hXB (j := 1) rfl) h) ?_
        refine zg (fun _ => R_len sl26 rfl) (zg (fun _ => R_addi rfl rfl (by omega)) (zg (fun _ => R_remN (n := dl) (m := b.decls.length + 1) rfl rfl (by omega)) (aI rfl (yC (mI e6_1 (zg (fun _ => R_convN (n := sl) un5 un3 rfl (by omega)) (mP rfl (zI rfl (zf fa29_2 rfl ?_))))))))); refine zl (v := .slice sa b.stmts.length sc) z27 rfl (fun w h => zc 0 rfl (by rw [show 0 + 0 + bl % 6 * 3 + 2 = bl % 6 * 3 + 2 by omega]; exact hq.cells hXB (j := 2) rfl) h) ?_
        refine zg (fun _ => R_len sl27 rfl) (zg (fun _ => R_addi rfl rfl (by omega)) (zg (fun _ => R_remN (n := sl) (m := b.stmts.length + 1) rfl rfl (by omega)) (aI rfl (yB ?_))))
        refine c_cut (fun e B L => ∃ (s : Nat), e 7 = .slice a0 l0.length c0 ∧ e 9 = .pointer (some ⟨t9b, 0, none⟩) ∧ e 11 = .pointer (some ⟨t9b, 0 + 0 + bl % 6 * 3, none⟩) ∧ e 12 = .int .i64 ((dl % (b.decls.length + 1)) : Nat) ∧ e 13 = .int .i64 (s : Nat) ∧ B = [(w2, inL [(t3b, cel cs 32), (t1b, cel (cs ++ ([.int .u8 (bl : Nat), .int .u8 (dl : Nat), .int .u8 (sl : Nat)] : List Value)) 44)]), (w, No)] ∧ L = [(t9b, cel xs 32), (t3b, cel cs 32), (t1b, cel (cs ++ ([.int .u8 (bl : Nat), .int .u8 (dl : Nat), .int .u8 (sl : Nat)] : List Value)) 44)] ∧ ((dl % (b.decls.length + 1)) < b.decls.length → s = 0) ∧ s ≤ b.stmts.length) ?_ ?_
        · refine yA (mI rfl (mP rfl (zI rfl (zf fa29_1 rfl ?_)))); refine zl (v := .slice da b.decls.length dc) z26 rfl (fun w h => zc 0 rfl (by rw [show 0 + 0 + bl % 6 * 3 + 1 = bl % 6 * 3 + 1 by omega]; exact hq.cells hXB (j := 1) rfl) h) ?_; refine zg (fun _ => R_len sl26 rfl) (zg (fun _ => R_lt rfl rfl) (yB ?_)); refine zD rfl (fun h6 => ?_) (fun h6 => ?_)
          · refine zr (aI rfl (zn ?_)); exact k_mid ⟨0, e7_1, e9_1, rfl, rfl, rfl, rfl, rfl, fun _ => rfl, Nat.zero_le _⟩
          · refine zi ?_; exact k_mid ⟨(sl % (b.stmts.length + 1)), e7_1, e9_1, rfl, rfl, rfl, rfl, rfl, (fun h => absurd h (by omega)), hs0⟩
        rintro e B L ⟨s, e7_2, e9_2, e11_2, e12_2, e13_2, rfl, rfl, hds0, hss0⟩
        refine c_cut (fun e B L => ∃ (xs : List Value) (d : Nat), e 7 = .slice a0 l0.length c0 ∧ e 9 = .pointer (some ⟨t9b, 0, none⟩) ∧ B = [(w2, inL [(t3b, cel cs 32), (t1b, cel (cs ++ ([.int .u8 (bl : Nat), .int .u8 (dl : Nat), .int .u8 (sl : Nat)] : List Value)) 44)]), (w, No)] ∧ L = [(t9b, cel xs 32), (t3b, cel cs 32), (t1b, cel (cs ++ ([.int .u8 (bl : Nat), .int .u8 (dl : Nat), .int .u8 (sl : Nat)] : List Value)) 44)] ∧ pgM w (fun _ => True) (cutP (bl % 6) d s p) xs ∧ (d < b.decls.length → s = 0)) ?_ ?_
        · refine c_heldI [1, 2] mixed (zh (v := .pointer _) 0 rfl (by kernel_rfl) rfl rfl (fun w h => (h).pick [1, 2] (by decide)) (fun w h => R_move e11_2) (zh (v := .pointer _) 1 rfl (by kernel_rfl) rfl rfl (fun w h => (h).pick [1, 2] (by decide)) (fun w h => R_move e11_2) (zh (v := .pointer _) 2 rfl (by kernel_rfl) rfl rfl (fun w h => (h).pick [1, 2] (by decide)) (fun w h => R_move e11_2) (zh2 3 rfl rfl (fun w h => (h).pick [1, 2] (by decide)) (fun w h => R_nil rfl) (zh2 4 rfl rfl (fun w h => (h).pick [1, 2] (by decide)) (fun w h => R_fa fa29_1 rfl) (zh (v := .int _ _) 6 rfl (by kernel_rfl) rfl rfl (fun w h => (h).pick [1, 2] (by decide)) (fun w h => R_move e12_2) (zh (v := .pointer _) 8 rfl (by kernel_rfl) rfl rfl (fun w h => (h).pick [1, 2] (by decide)) (fun w h => R_move e11_2) (zh2 9 rfl rfl (fun w h => (h).pick [1, 2] (by decide)) (fun w h => R_nil rfl) (zh2 10 rfl rfl (fun w h => (h).pick [1, 2] (by decide)) (fun w h => R_fa fa29_2 rfl) (zh (v := .int _ _) 12 rfl (by kernel_rfl) rfl rfl (fun w h => (h).pick [1, 2] (by decide)) (fun w h => R_move e13_2) ?_)))))))))); refine h_two 5 11 (by kernel_rfl) (fun w h => (h).pick [1, 2] (by decide)) ?_ ?_
          · refine o_ld1 (v := .slice da b.decls.length dc) rfl z26 rfl (fun w h => zc 0 rfl (by rw [show 0 + 0 + bl % 6 * 3 + 1 = bl % 6 * 3 + 1 by omega]; exact hq.cells hXB (j := 1) rfl) h) ?_; refine zh2 7 rfl rfl (fun w h => (h).pick [1, 2] (by decide)) (fun w h => R_slHiA sl26 rfl rfl (by omega)) (zH2 11 (fun w h => (h).pick [1, 2] (by decide)) ?_); refine o_ld1 (v := .slice sa b.stmts.length sc) rfl z27 rfl (fun w h => zc 0 rfl (by rw [show 0 + 0 + bl % 6 * 3 + 2 = bl % 6 * 3 + 2 by omega]; exact hq.cells hXB (j := 2) rfl) h) ?_; refine zh2 13 rfl rfl (fun w h => (h).pick [1, 2] (by decide)) (fun w h => R_slHiA sl27 rfl rfl (by omega)) (zh2 14 rfl rfl (fun w h => (h).pick [1, 2] (by decide)) (fun w h => R_nil rfl) ?_)
            refine zh2 15 rfl rfl (fun w h => (h).pick [1, 2] (by decide)) (fun w h => R_fa fa29_1 rfl) (zH2 16 (fun w h => (h).pick [1, 2] (by decide)) (zJ (cs' := (xs.set (bl % 6 * 3 + 1) (.slice da (dl % (b.decls.length + 1)) dc))) (vs := [.slice da (dl % (b.decls.length + 1)) dc]) 0 rfl rfl z26 rfl rfl rfl rfl rfl (by rw [Nat.ble_eq]; simp only [List.length_set, hq.len]; omega) (put_one (by omega) (by simp only [List.length_set, hq.len]; omega)) (zh2 17 rfl rfl (fun w h => (h).pick [1, 2] (by decide)) (fun w h => R_nil rfl) (zh2 18 rfl rfl (fun w h => (h).pick [1, 2] (by decide)) (fun w h => R_fa fa29_2 rfl) (zH2 19 (fun w h => (h).pick [1, 2] (by decide)) (zJ (cs' := ((xs.set (bl % 6 * 3 + 1) (.slice da (dl % (b.decls.length + 1)) dc)).set (bl % 6 * 3 + 2) (.slice sa s sc))) (vs := [.slice sa s sc]) 0 rfl rfl z27 rfl rfl rfl rfl rfl (by rw [Nat.ble_eq]; simp only [List.length_set, hq.len]; omega) (put_one (by omega) (by simp only [List.length_set, hq.len]; omega)) (zN2 (fun w h => (h).pick [1, 2] (by decide)) ?_))))))); exact k_mid ⟨_, (dl % (b.decls.length + 1)), e7_2, e9_2, rfl, rfl, (by have h := cut_M (d := (dl % (b.decls.length + 1))) (s := s) hq hm.six hn6 hb hqs hXB hds hss hd0 hss0; exact h), hds0⟩
          · refine o_ld1 (v := .slice sa b.stmts.length sc) rfl z27 rfl (fun w h => zc 0 rfl (by rw [show 0 + 0 + bl % 6 * 3 + 2 = bl % 6 * 3 + 2 by omega]; exact hq.cells hXB (j := 2) rfl) h) ?_; refine zh2 13 rfl rfl (fun w h => (h).pick [1, 2] (by decide)) (fun w h => R_slHiA sl27 rfl rfl (by omega)) (zH2 5 (fun w h => (h).pick [1, 2] (by decide)) ?_); refine o_ld1 (v := .slice da b.decls.length dc) rfl z26 rfl (fun w h => zc 0 rfl (by rw [show 0 + 0 + bl % 6 * 3 + 1 = bl % 6 * 3 + 1 by omega]; exact hq.cells hXB (j := 1) rfl) h) ?_; refine zh2 7 rfl rfl (fun w h => (h).pick [1, 2] (by decide)) (fun w h => R_slHiA sl26 rfl rfl (by omega)) (zh2 14 rfl rfl (fun w h => (h).pick [1, 2] (by decide)) (fun w h => R_nil rfl) ?_)
            refine zh2 15 rfl rfl (fun w h => (h).pick [1, 2] (by decide)) (fun w h => R_fa fa29_1 rfl) (zH2 16 (fun w h => (h).pick [1, 2] (by decide)) (zJ (cs' := (xs.set (bl % 6 * 3 + 1) (.slice da (dl % (b.decls.length + 1)) dc))) (vs := [.slice da (dl % (b.decls.length + 1)) dc]) 0 rfl rfl z26 rfl rfl rfl rfl rfl (by rw [Nat.ble_eq]; simp only [List.length_set, hq.len]; omega) (put_one (by omega) (by simp only [List.length_set, hq.len]; omega)) (zh2 17 rfl rfl (fun w h => (h).pick [1, 2] (by decide)) (fun w h => R_nil rfl) (zh2 18 rfl rfl (fun w h => (h).pick [1, 2] (by decide)) (fun w h => R_fa fa29_2 rfl) (zH2 19 (fun w h => (h).pick [1, 2] (by decide)) (zJ (cs' := ((xs.set (bl % 6 * 3 + 1) (.slice da (dl % (b.decls.length + 1)) dc)).set (bl % 6 * 3 + 2) (.slice sa s sc))) (vs := [.slice sa s sc]) 0 rfl rfl z27 rfl rfl rfl rfl rfl (by rw [Nat.ble_eq]; simp only [List.length_set, hq.len]; omega) (put_one (by omega) (by simp only [List.length_set, hq.len]; omega)) (zN2 (fun w h => (h).pick [1, 2] (by decide)) ?_))))))); exact k_mid ⟨_, (dl % (b.decls.length + 1)), e7_2, e9_2, rfl, rfl, (by have h := cut_M (d := (dl % (b.decls.length + 1))) (s := s) hq hm.six hn6 hb hqs hXB hds hss hd0 hss0; exact h), hds0⟩
        rintro e B L ⟨xs, d, e7_3, e9_3, rfl, rfl, hq, hds0⟩
        obtain ⟨l2, hX2, hpre⟩ := begins_law (n := bl % 6) hm.six (fun b2 hb2 hd2 => hds0 (by rw [hb] at hb2; obtain rfl := Option.some.inj hb2; exact hd2)) hX; have hp2 : ∀ b ∈ cutP (bl % 6) d s p, bkW b < 10000000 := cutP_W (fun b hb => Nat.lt_of_le_of_lt (hp b hb) (by decide)) (by decide)
        refine yA (w_loadW z32 e9_3 (fun w h => h.at_ 0 rfl) hq.len (zP (fun w => zR Tryz.func16 rfl rfl rfl) rfl rfl (fun w h => kVars_at (cutP (bl % 6) d s p) xs w hp2 (hq.now (x := (_, No)) (fun _ _ h => h) zm1 h) (hW.now zm1 h) hX2) ?_))
        rintro w1 hw1 v w4 ⟨⟨a2, c2⟩, rfl, hM, hxx⟩; refine ⟨_, _, (hw1.ext hxx).base1, ?_⟩; have hK2 : Kt (w4, inL [_, _, _]) w.heap.size vrsW l2 (a2, c2) := Kt.new hM TL.vrw hw1 (hw1.fr _ zm1).size; clear hM
        refine za (v := .slice _ _ _) rfl (yC (w_loadW z32 e9_3 (fun w h => h.at_ 0 rfl) hq.len (zC (fun w => zR Tryz.func14 rfl rfl rfl) rfl rfl (fun w h => kCheck_at (cutP (bl % 6) d s p) xs w hp2 (hq.now (x := (_, No)) (fun _ _ h => h) zm2 h) (hW.now zm2 h) hX2) (zg (fun _ => R_fieldA fd37_0 z35 rfl rfl) (zg (fun _ => R_eq rfl rfl) (mB rfl (zw rfl rfl (congrArg Value.bool (decide_eq_true (by decide))) (mS rfl (zw rfl rfl (congrArg Value.bool (decide_eq_true (by decide))) (zg (fun _ => R_len sl34 rfl) (zw rfl rfl (congrArg Value.bool (decide_eq_true (by decide))) (mS e7_3 (zw rfl rfl (congrArg Value.bool (decide_eq_true (by decide))) (zg (fun _ => R_len sl34 rfl) (zw rfl rfl (congrArg Value.bool (decide_eq_true (by decide))) (zg (fun _ => R_le rfl rfl) (zg (v := .bool _) (fun _ => zT (congrArg Value.bool (decide_eq_true (by decide))) rfl) (mB rfl (zw rfl rfl (congrArg Value.bool (decide_eq_true (by have := hpre.length_le; omega))) (mS rfl (zw rfl rfl (congrArg Value.bool (decide_eq_true (by have := hpre.length_le; omega))) (mS e7_3 (zw rfl rfl (congrArg Value.bool (decide_eq_true (by have := hpre.length_le; omega))) (mS rfl (zw rfl rfl (congrArg Value.bool (decide_eq_true (by have := hpre.length_le; omega))) (zg (fun _ => R_len sl34 rfl) (zw rfl rfl (congrArg Value.bool (decide_eq_true (by have := hpre.length_le; omega))) (zg (fun _ => R_slHiA sl34 rfl rfl (by have := hpre.length_le; omega)) (zw rfl rfl (congrArg Value.bool (decide_eq_true (by have := hpre.length_le; omega))) (zC (v := .bool true) (fun w => zR Tryz.func15 rfl rfl rfl) rfl rfl (fun w h => same_pre hpre w (hK2.T TL.vrw zm0 h).1 (hK0.T TL.vrw zm1 h).1 (by have := hpre.length_le; omega)) (zg (v := .bool _) (fun _ => zT (congrArg Value.bool (decide_eq_true (by have := hpre.length_le; omega))) rfl) (mB rfl (zw rfl rfl rfl (zC (v := .bool true) (fun w => zR Tryz.func9 rfl rfl rfl) rfl rfl (fun w h => head15_ok w (hW.now zm2 h) (Nat.le_trans hng (h.fr _ zm2).size)) (zg (v := .bool _) (fun _ => zT rfl rfl) (aB rfl (yB (ze (zo (v := .bool _) rfl rfl rfl ?_))))))))))))))))))))))))))))))))))))))); exact fun w' hw => ⟨rfl, hw.fr _ zm2⟩
end Go.Proofs.YtoehjlmdnajibaaGreatDoor
end
