/- For every two expressions, of a bulk of at most 1048576, the law TreeExprs holds of the given program. Part 11 of 15. -/
import Derived.Test.YtcmcdgkjipnfnaaGreatDoorE02
import Derived.Test.YtcmcdgkjipnfnaaGreatDoorE10
section
namespace Go.Proofs.YtcmcdgkjipnfnaaGreatDoor
open Go.RowKit Go.Sx
open Go.Tok Go.Tree


def RNodesP (n : Nat) : Prop := ∀ (l : List Ex) (a : Option Addr) (c : Nat) (N : Nat → Prop) (w : World), exsW l < n → l.length ≤ 10000000 → exsM w N l a 0 →
    Ret Tryz.prog 20 #[.slice a l.length c] w fun v w' => v = .int .i64 (exsN l : Nat) ∧ Ext w w'
def RLongP (n : Nat) : Prop := ∀ (l : List Ex) (a : Option Addr) (c : Nat) (N : Nat → Prop) (w : World), exsW l < n → l.length ≤ 10000000 → exsM w N l a 0 →
    Ret Tryz.prog 21 #[.slice a l.length c] w fun v w' => v = .bool (exsLong l) ∧ Ext w w'

set_option maxRecDepth 100000 in
set_option maxHeartbeats 400000 in
theorem rnodes_step (n : Nat) (ih : RNodesP n) (hN : n ≤ 10000000) (l : List Ex) (a : Option Addr) (c : Nat) (N : Nat → Prop) (w : World) (hl : exsW l < n + 1) (hll : l.length ≤ 10000000) (hm : exsM w N l a 0) :
    Ret Tryz.prog 20 #[.slice a l.length c] w (fun v w' => v = .int .i64 (exsN l : Nat) ∧ Ext w w') := by
  refine enter (S := No) (l := [_]) (L := []) 21 Tryz.func20 rfl rfl rfl (St.start w No) ?_
  refine c_seq ?_; refine c_region ?_; refine w_asg (v := .int _ _) rfl ?_; refine w_nil ?_; refine k_on ?_; refine c_seq ?_; refine c_region ?_; refine w_asg (v := .int _ _) rfl ?_
  refine w_nil ?_; refine k_on ?_; refine c_seq ?_; refine c_seq ?_; refine c_region ?_; refine w_asg (v := .int _ _) rfl ?_; refine w_nil ?_; refine k_on ?_; refine c_block ?_
  refine c_loop (fun m e B L => ∃ (k : Nat), e 0 = .slice a l.length c ∧ e 3 = .int .i64 (exsN (l.take k) : Nat) ∧ e 4 = .int .i64 (k : Nat) ∧ B = [(w, No)] ∧ L = [] ∧ k ≤ l.length ∧ m = l.length - k) _ ⟨0, rfl, rfl, rfl, rfl, rfl, Nat.zero_le _, rfl⟩ ?_
  rintro m e B L ⟨k, e0_1, e3_1, e4_1, rfl, rfl, hk, rfl⟩
  refine c_seq ?_; refine c_seq ?_; refine c_region ?_; refine w_move (v := .int _ _) e4_1 ?_; refine w_move (v := .slice _ _ _) e0_1 ?_; refine w_r (fun _ => R_len sl22 rfl) rfl rfl ?_
  refine w_r (fun _ => R_lt rfl rfl) rfl rfl ?_; refine w_nil ?_; refine k_on ?_
  refine c_condD rfl (fun h1 => ?_) (fun h1 => ?_)
  · have hlt : k < l.length := (by omega); obtain ⟨x, hxk⟩ : ∃ x, l[k]? = some x := ⟨_, List.getElem?_eq_getElem hlt⟩; obtain ⟨cs, hA, hE⟩ := hm.get0 hxk; have hxn := exsW_mem (List.mem_of_getElem? hxk); have hle := exsN_take l (k + 1); have hnx := exsN_next hxk; have hlN := exsN_le l; obtain ⟨b1, o1, rfl⟩ := hA.ptr; obtain ⟨op, at_, nm, ks⟩ := x; have hE2 := hE; unfold exM at hE2; obtain ⟨ka, kc, rfl, hkc, hks⟩ := hE2; have hxw := hxn; unfold exW at hxw; have hxN := hnx; unfold exN at hxN; have hkN := exsN_le ks
    refine c_skip ?_; refine k_on ?_; refine c_seq ?_; refine c_block ?_; refine c_region ?_; refine w_move (v := .int _ _) e3_1 ?_; refine w_r (fun _ => R_addi rfl rfl (by omega)) rfl rfl ?_
    refine w_move (v := .slice _ _ _) e0_1 ?_; refine w_move (v := .int _ _) e4_1 ?_; refine w_r (fun _ => R_iaN (i := k) sl22 rfl rfl (by first | omega | decide)) rfl rfl ?_
    refine w_fa fa24_3 rfl ?_; refine w_load z22 rfl (fun _ h => hA.cell (fun _ _ hh => hh) (.head _) h 3 _ rfl) ?_; refine w_call (fun w => R_call Tryz.func20 rfl rfl rfl) rfl rfl (fun w h => ih ks ka kc N w (by omega) (by omega) (hks.now (fun _ _ hh => hh) (.head _) h)) ?_
    refine w_r (fun _ => R_addi rfl rfl (by omega)) rfl rfl ?_; refine w_asg (v := .int _ _) rfl ?_; refine w_nil ?_; refine b_on (k_on ?_); refine c_region ?_; refine w_move (v := .int _ _) e4_1 ?_
    refine w_r (fun _ => R_addi rfl rfl (by omega)) rfl rfl ?_; refine w_asg (v := .int _ _) rfl ?_; refine w_nil ?_
    have hfin : ((exsN (l.take k) : Nat) : Int) + 1 + ((exsN ks : Nat) : Int) = ((exsN (l.take (k + 1)) : Nat) : Int) := by omega
    exact k_again _ (by omega) ⟨k + 1, e0_1, (congrArg (Value.int .i64) hfin), rfl, rfl, rfl, by omega, rfl⟩
  · refine c_exit ?_; refine k_exit (k_exit (b_here rfl (k_on ?_))); refine c_seq ?_; refine c_region ?_; refine w_move (v := .int _ _) e3_1 ?_; refine w_asg (v := .int _ _) rfl ?_
    refine w_nil ?_; refine k_on ?_; refine c_ret ?_
    refine r_one (v := .int _ _) rfl rfl rfl ?_
    exact fun w' hw => ⟨by rw [List.take_of_length_le (by omega)], hw.fr _ (.head _)⟩


theorem rnodes_all : ∀ n : Nat, n ≤ 10000000 → RNodesP n
  | 0, _ => fun _ _ _ _ _ h => absurd h (Nat.not_lt_zero _)
  | n + 1, h => rnodes_step n (rnodes_all n (by omega)) (by omega)
theorem rnodes_ok : RNodesP 10000000 := rnodes_all _ (Nat.le_refl _)

set_option maxRecDepth 100000 in
set_option maxHeartbeats 400000 in
theorem rlong_step (n : Nat) (ih : RLongP n) (hN : n ≤ 10000000) (l : List Ex) (a : Option Addr) (c : Nat) (N : Nat → Prop) (w : World) (hl : exsW l < n + 1) (hll : l.length ≤ 10000000) (hm : exsM w N l a 0) :
    Ret Tryz.prog 21 #[.slice a l.length c] w (fun v w' => v = .bool (exsLong l) ∧ Ext w w') := by
  refine enter (S := No) (l := [_]) (L := []) 25 Tryz.func21 rfl rfl rfl (St.start w No) ?_
  refine c_seq ?_; refine c_region ?_; refine w_asg (v := .bool _) rfl ?_; refine w_nil ?_; refine k_on ?_; refine c_seq ?_; refine c_seq ?_; refine c_region ?_; refine w_asg (v := .int _ _) rfl ?_
  refine w_nil ?_; refine k_on ?_; refine c_block ?_
  refine c_loop (fun m e B L => ∃ (k : Nat), e 0 = .slice a l.length c ∧ e 3 = .int .i64 (k : Nat) ∧ B = [(w, No)] ∧ L = [] ∧ k ≤ l.length ∧ (∀ y ∈ l.take k, exLong y = false) ∧ m = l.length - k) _ ⟨0, rfl, rfl, rfl, rfl, Nat.zero_le _, (by simp), rfl⟩ ?_
  rintro m e B L ⟨k, e0_1, e3_1, rfl, rfl, hk, hy, rfl⟩
  refine c_seq ?_; refine c_seq ?_; refine c_region ?_; refine w_move (v := .int _ _) e3_1 ?_; refine w_move (v := .slice _ _ _) e0_1 ?_; refine w_r (fun _ => R_len sl22 rfl) rfl rfl ?_
  refine w_r (fun _ => R_lt rfl rfl) rfl rfl ?_; refine w_nil ?_; refine k_on ?_
  refine c_condD rfl (fun h1 => ?_) (fun h1 => ?_)
  · have hlt : k < l.length := (by omega); obtain ⟨x, hxk⟩ : ∃ x, l[k]? = some x := ⟨_, List.getElem?_eq_getElem hlt⟩; obtain ⟨cs, hA, hE⟩ := hm.get0 hxk; have hxn := exsW_mem (List.mem_of_getElem? hxk); have hle := exsN_take l (k + 1); have hnx := exsN_next hxk; have hlN := exsN_le l; obtain ⟨b1, o1, rfl⟩ := hA.ptr; obtain ⟨op, at_, nm, ks⟩ := x; have hE2 := hE; unfold exM at hE2; obtain ⟨ka, kc, rfl, hkc, hks⟩ := hE2; have hxw := hxn; unfold exW at hxw; have hxN := hnx; unfold exN at hxN; have hkN := exsN_le ks
    refine c_skip ?_; refine k_on ?_; refine c_seq ?_; refine c_block ?_; refine c_seq ?_; refine c_region ?_; refine w_move (v := .slice _ _ _) e0_1 ?_; refine w_move (v := .int _ _) e3_1 ?_
    refine w_r (fun _ => R_iaN (i := k) sl22 rfl rfl (by first | omega | decide)) rfl rfl ?_; refine w_fa fa24_2 rfl ?_; refine w_load z9 rfl (fun _ h => by first | exact hA.cell (fun _ _ hh => hh) (.head _) h 3 _ rfl | exact hA.cell (fun _ _ hh => hh) (.head _) h 2 _ rfl) ?_
    refine w_r (fun _ => R_slen st9 rfl (by omega)) rfl rfl ?_; refine w_r (fun _ => R_gt rfl rfl) rfl rfl ?_; refine w_move (v := .bool _) rfl ?_
    refine w_splitD (t := 17) rfl (fun h2 => ?_) (fun h2 => ?_)
    · refine w_skip rfl rfl (bT h2) ?_; refine w_skip rfl rfl (bT h2) ?_; refine w_skip rfl rfl (bT h2) ?_
      refine w_skip rfl rfl (bT h2) ?_; refine w_skip rfl rfl (bT h2) ?_; refine w_skip rfl rfl (bT h2) ?_
      refine w_r (v := .bool _) (fun _ => R_pickT (bT h2) rfl) rfl rfl ?_; refine w_nil ?_; refine k_on ?_; refine c_condT rfl ?_
      refine c_seq ?_; refine c_region ?_; refine w_asg (v := .bool _) rfl ?_; refine w_nil ?_; refine k_on ?_; refine c_ret ?_; refine b_ret (k_ret (k_ret (b_ret (k_ret (?_)))))
      refine r_one (v := .bool _) rfl rfl rfl ?_
      exact fun w' hw => ⟨by rw [exsLong_any]; first | (rw [any_of_take hy (by omega)]; done) | (rw [any_yes hxk (by (try clear ih); (try clear hm); (try clear hA); (try clear hE); (try clear hks); (try clear hw); (try clear hl); (try clear hxn); (try clear hle); (try clear hnx); (try clear hxN); (try clear hxw); (try clear hy); (try clear hlN); (try clear hkN); (try clear e0_1); (try clear e3_1); simp only [exLong]; grind)]; done), hw.fr _ (.head _)⟩
    · refine w_want rfl rfl (bF h2) ?_; refine w_move (v := .slice _ _ _) e0_1 ?_; refine w_want rfl rfl (bF h2) ?_
      refine w_move (v := .int _ _) e3_1 ?_; refine w_want rfl rfl (bF h2) ?_; refine w_r (fun _ => R_iaN (i := k) sl22 rfl rfl (by first | omega | decide)) rfl rfl ?_
      refine w_want rfl rfl (bF h2) ?_; refine w_fa fa24_3 rfl ?_; refine w_want rfl rfl (bF h2) ?_
      refine w_load z22 rfl (fun _ h => by first | exact hA.cell (fun _ _ hh => hh) (.head _) h 3 _ rfl | exact hA.cell (fun _ _ hh => hh) (.head _) h 2 _ rfl) ?_
      refine w_want rfl rfl (bF h2) ?_; refine w_call (fun w => R_call Tryz.func21 rfl rfl rfl) rfl rfl (fun w h => ih ks ka kc N w (by omega) (by omega) (hks.now (fun _ _ hh => hh) (.head _) h)) ?_
      refine w_r (v := .bool _) (fun _ => R_pickF (bF h2) rfl) rfl rfl ?_; refine w_nil ?_; refine k_on ?_
      refine c_cond rfl (fun h3 => ?_) (fun h3 => ?_)
      · refine c_seq ?_; refine c_region ?_; refine w_asg (v := .bool _) rfl ?_; refine w_nil ?_; refine k_on ?_; refine c_ret ?_; refine b_ret (k_ret (k_ret (b_ret (k_ret (?_)))))
        refine r_one (v := .bool _) rfl rfl rfl ?_
        exact fun w' hw => ⟨by rw [exsLong_any]; first | (rw [any_of_take hy (by omega)]; done) | (rw [any_yes hxk (by (try clear ih); (try clear hm); (try clear hA); (try clear hE); (try clear hks); (try clear hw); (try clear hl); (try clear hxn); (try clear hle); (try clear hnx); (try clear hxN); (try clear hxw); (try clear hy); (try clear hlN); (try clear hkN); (try clear e0_1); (try clear e3_1); simp only [exLong]; grind)]; done), hw.fr _ (.head _)⟩
      · refine c_skip ?_; refine b_on (k_on ?_); refine c_region ?_; refine w_move (v := .int _ _) e3_1 ?_; refine w_r (fun _ => R_addi rfl rfl (by omega)) rfl rfl ?_; refine w_asg (v := .int _ _) rfl ?_
        refine w_nil ?_
        exact k_again _ (by omega) ⟨k + 1, e0_1, rfl, rfl, rfl, by omega, take_all hy hxk (by (try clear ih); (try clear hm); (try clear hA); (try clear hE); (try clear hks); (try clear hw); (try clear hl); (try clear hxn); (try clear hle); (try clear hnx); (try clear hxN); (try clear hxw); (try clear hy); (try clear hlN); (try clear hkN); (try clear e0_1); (try clear e3_1); simp only [exLong]; grind), rfl⟩
  · refine c_exit ?_; refine k_exit (k_exit (b_here rfl (k_on ?_))); refine c_seq ?_; refine c_region ?_; refine w_asg (v := .bool _) rfl ?_; refine w_nil ?_; refine k_on ?_
    refine c_ret ?_
    refine r_one (v := .bool _) rfl rfl rfl ?_
    exact fun w' hw => ⟨by rw [exsLong_any]; first | (rw [any_of_take hy (by omega)]; done) | (rw [any_yes hxk (by (try clear ih); (try clear hm); (try clear hA); (try clear hE); (try clear hks); (try clear hw); (try clear hl); (try clear hxn); (try clear hle); (try clear hnx); (try clear hxN); (try clear hxw); (try clear hy); (try clear hlN); (try clear hkN); (try clear e0_1); (try clear e3_1); simp only [exLong]; grind)]; done), hw.fr _ (.head _)⟩


theorem rlong_all : ∀ n : Nat, n ≤ 10000000 → RLongP n
  | 0, _ => fun _ _ _ _ _ h => absurd h (Nat.not_lt_zero _)
  | n + 1, h => rlong_step n (rlong_all n (by omega)) (by omega)
theorem rlong_ok : RLongP 10000000 := rlong_all _ (Nat.le_refl _)
def RNodesOfP (n : Nat) : Prop := ∀ (l : List Sm) (a : Option Addr) (c : Nat) (N : Nat → Prop) (w : World), smsW l < n → l.length ≤ 10000000 → smsM w N l a 0 →
    Ret Tryz.prog 49 #[.slice a l.length c] w fun v w' => v = .int .i64 (smsN l : Nat) ∧ Ext w w'
def RLongOfP (n : Nat) : Prop := ∀ (l : List Sm) (a : Option Addr) (c : Nat) (N : Nat → Prop) (w : World), smsW l < n → l.length ≤ 10000000 → smsM w N l a 0 →
    Ret Tryz.prog 33 #[.slice a l.length c] w fun v w' => v = .bool (smsLong l) ∧ Ext w w'

set_option maxRecDepth 100000 in
set_option maxHeartbeats 2000000 in
theorem rnodesOf_step (n : Nat) (ih : RNodesOfP n) (hN : n ≤ 10000000) (l : List Sm) (a : Option Addr) (c : Nat) (N : Nat → Prop) (w : World) (hl : smsW l < n + 1) (hll : l.length ≤ 10000000) (hm : smsM w N l a 0) :
    Ret Tryz.prog 49 #[.slice a l.length c] w (fun v w' => v = .int .i64 (smsN l : Nat) ∧ Ext w w') := by
  refine enter (S := No) (l := [_]) (L := []) 35 Tryz.func49 rfl rfl rfl (St.start w No) ?_
  refine c_seq ?_; refine c_region ?_; refine w_asg (v := .int _ _) rfl ?_; refine w_nil ?_; refine k_on ?_; refine c_seq ?_; refine c_region ?_; refine w_asg (v := .int _ _) rfl ?_
  refine w_nil ?_; refine k_on ?_; refine c_seq ?_; refine c_seq ?_; refine c_region ?_; refine w_asg (v := .int _ _) rfl ?_; refine w_nil ?_; refine k_on ?_; refine c_block ?_
  refine c_loop (fun m e B L => ∃ (k : Nat), e 0 = .slice a l.length c ∧ e 3 = .int .i64 (smsN (l.take k) : Nat) ∧ e 4 = .int .i64 (k : Nat) ∧ B = [(w, No)] ∧ L = [] ∧ k ≤ l.length ∧ m = l.length - k) _ ⟨0, rfl, rfl, rfl, rfl, rfl, Nat.zero_le _, rfl⟩ ?_
  rintro m e B L ⟨k, e0_1, e3_1, e4_1, rfl, rfl, hk, rfl⟩
  refine c_seq ?_; refine c_seq ?_; refine c_region ?_; refine w_move (v := .int _ _) e4_1 ?_; refine w_move (v := .slice _ _ _) e0_1 ?_; refine w_r (fun _ => R_len sl35 rfl) rfl rfl ?_
  refine w_r (fun _ => R_lt rfl rfl) rfl rfl ?_; refine w_nil ?_; refine k_on ?_
  refine c_condD rfl (fun h1 => ?_) (fun h1 => ?_)
  · have hlt : k < l.length := (by omega); obtain ⟨x, hxk⟩ : ∃ x, l[k]? = some x := ⟨_, List.getElem?_eq_getElem hlt⟩; obtain ⟨cs, hA, hE⟩ := hm.get0 hxk; have hxn := smsW_mem (List.mem_of_getElem? hxk); have hle := smsN_take l (k + 1); have hnx := smsN_next hxk; have hlN := smsN_le l; obtain ⟨b1, o1, rfl⟩ := hA.ptr; obtain ⟨op, at_, nm, ks, bo, el⟩ := x; have hE2 := hE; unfold smM at hE2; obtain ⟨ka, kc, ba, bc, ea, ec, rfl, hkc, hks, hbo, hel⟩ := hE2; have hxw := hxn; unfold smW at hxw; have hxN := hnx; unfold smN at hxN; have hkN := exsN_le ks
    refine c_skip ?_; refine k_on ?_; refine c_seq ?_; refine c_block ?_
    refine c_held (St [(w, No)] []) mixed ?_
    refine h_take 0 rfl (by kernel_rfl) rfl rfl (fun w h => h) (fun w h => R_move e3_1) ?_
    refine h_take 1 rfl (by kernel_rfl) rfl rfl (fun w h => h) (fun w h => R_addi rfl rfl (by omega)) ?_
    refine h_take 2 rfl (by kernel_rfl) rfl rfl (fun w h => h) (fun w h => R_move e0_1) ?_
    refine h_take 3 rfl (by kernel_rfl) rfl rfl (fun w h => h) (fun w h => R_move e4_1) ?_
    refine h_take 4 rfl (by kernel_rfl) rfl rfl (fun w h => h) (fun w h => R_iaN (i := k) sl35 rfl rfl (by first | omega | decide)) ?_
    refine h_take 5 rfl (by kernel_rfl) rfl rfl (fun w h => h) (fun w h => R_fa fa70_3 rfl) ?_
    refine h_take 6 rfl (by kernel_rfl) rfl rfl (fun w h => h) (fun w h => R_ld1 z22 rfl (by first | exact hA.cell (fun _ _ hh => hh) (.head _) h 3 _ rfl | exact hA.cell (fun _ _ hh => hh) (.head _) h 4 _ rfl | exact hA.cell (fun _ _ hh => hh) (.head _) h 5 _ rfl)) ?_
    refine h_take 9 rfl (by kernel_rfl) rfl rfl (fun w h => h) (fun w h => R_move e0_1) ?_
    refine h_take 10 rfl (by kernel_rfl) rfl rfl (fun w h => h) (fun w h => R_move e4_1) ?_
    refine h_take 11 rfl (by kernel_rfl) rfl rfl (fun w h => h) (fun w h => R_iaN (i := k) sl35 rfl rfl (by first | omega | decide)) ?_
    refine h_take 12 rfl (by kernel_rfl) rfl rfl (fun w h => h) (fun w h => R_fa fa70_4 rfl) ?_
    refine h_take 13 rfl (by kernel_rfl) rfl rfl (fun w h => h) (fun w h => R_ld1 z35 rfl (by first | exact hA.cell (fun _ _ hh => hh) (.head _) h 3 _ rfl | exact hA.cell (fun _ _ hh => hh) (.head _) h 4 _ rfl | exact hA.cell (fun _ _ hh => hh) (.head _) h 5 _ rfl)) ?_
    refine h_take 16 rfl (by kernel_rfl) rfl rfl (fun w h => h) (fun w h => R_move e0_1) ?_
    refine h_take 17 rfl (by kernel_rfl) rfl rfl (fun w h => h) (fun w h => R_move e4_1) ?_
    refine h_take 18 rfl (by kernel_rfl) rfl rfl (fun w h => h) (fun w h => R_iaN (i := k) sl35 rfl rfl (by first | omega | decide)) ?_
    refine h_take 19 rfl (by kernel_rfl) rfl rfl (fun w h => h) (fun w h => R_fa fa70_5 rfl) ?_
    refine h_take 20 rfl (by kernel_rfl) rfl rfl (fun w h => h) (fun w h => R_ld1 z35 rfl (by first | exact hA.cell (fun _ _ hh => hh) (.head _) h 3 _ rfl | exact hA.cell (fun _ _ hh => hh) (.head _) h 4 _ rfl | exact hA.cell (fun _ _ hh => hh) (.head _) h 5 _ rfl)) ?_
    refine h_pure 7 rfl (by kernel_rfl) rfl rfl (fun w h => h) (fun w => R_call Tryz.func20 rfl rfl rfl) (fun w h => rnodes_ok ks ka kc N w (by omega) (by omega) (hks.now (fun _ _ hh => hh) (.head _) h)) ?_
    refine h_take 8 rfl (by kernel_rfl) rfl rfl (fun w h => h) (fun w h => R_addi rfl rfl (by omega)) ?_
    refine h_pure 14 rfl (by kernel_rfl) rfl rfl (fun w h => h) (fun w => R_call Tryz.func49 rfl rfl rfl) (fun w h => ih bo ba bc N w (by omega) (by omega) (hbo.now (fun _ _ hh => hh) (.head _) h)) ?_
    refine h_take 15 rfl (by kernel_rfl) rfl rfl (fun w h => h) (fun w h => R_addi rfl rfl (by omega)) ?_
    refine h_pure 21 rfl (by kernel_rfl) rfl rfl (fun w h => h) (fun w => R_call Tryz.func49 rfl rfl rfl) (fun w h => ih el ea ec N w (by omega) (by omega) (hel.now (fun _ _ hh => hh) (.head _) h)) ?_
    refine h_take 22 rfl (by kernel_rfl) rfl rfl (fun w h => h) (fun w h => R_addi rfl rfl (by omega)) ?_
    refine h_take 23 rfl (by kernel_rfl) rfl rfl (fun w h => h) (fun w h => R_assign rfl) ?_
    refine h_done (by kernel_rfl) (fun w h => h) ?_
    refine b_on (k_on ?_); refine c_region ?_; refine w_move (v := .int _ _) e4_1 ?_; refine w_r (fun _ => R_addi rfl rfl (by omega)) rfl rfl ?_; refine w_asg (v := .int _ _) rfl ?_
    refine w_nil ?_
    have hfin : ((smsN (l.take k) : Nat) : Int) + 1 + ((exsN ks : Nat) : Int) + ((smsN bo : Nat) : Int) + ((smsN el : Nat) : Int) = ((smsN (l.take (k + 1)) : Nat) : Int) := by omega
    exact k_again _ (by omega) ⟨k + 1, e0_1, (congrArg (Value.int .i64) hfin), rfl, rfl, rfl, by omega, rfl⟩
  · refine c_exit ?_; refine k_exit (k_exit (b_here rfl (k_on ?_))); refine c_seq ?_; refine c_region ?_; refine w_move (v := .int _ _) e3_1 ?_; refine w_asg (v := .int _ _) rfl ?_
    refine w_nil ?_; refine k_on ?_; refine c_ret ?_
    refine r_one (v := .int _ _) rfl rfl rfl ?_
    exact fun w' hw => ⟨by rw [List.take_of_length_le (by omega)], hw.fr _ (.head _)⟩


theorem rnodesOf_all : ∀ n : Nat, n ≤ 10000000 → RNodesOfP n
  | 0, _ => fun _ _ _ _ _ h => absurd h (Nat.not_lt_zero _)
  | n + 1, h => rnodesOf_step n (rnodesOf_all n (by omega)) (by omega)
theorem rnodesOf_ok : RNodesOfP 10000000 := rnodesOf_all _ (Nat.le_refl _)

set_option maxRecDepth 100000 in
set_option maxHeartbeats 2000000 in
theorem rlongOf_step (n : Nat) (ih : RLongOfP n) (hN : n ≤ 10000000) (l : List Sm) (a : Option Addr) (c : Nat) (N : Nat → Prop) (w : World) (hl : smsW l < n + 1) (hll : l.length ≤ 10000000) (hm : smsM w N l a 0) :
    Ret Tryz.prog 33 #[.slice a l.length c] w (fun v w' => v = .bool (smsLong l) ∧ Ext w w') := by
  refine enter (S := No) (l := [_]) (L := []) 41 Tryz.func33 rfl rfl rfl (St.start w No) ?_
  refine c_seq ?_; refine c_region ?_; refine w_asg (v := .bool _) rfl ?_; refine w_nil ?_; refine k_on ?_; refine c_seq ?_; refine c_seq ?_; refine c_region ?_; refine w_asg (v := .int _ _) rfl ?_
  refine w_nil ?_; refine k_on ?_; refine c_block ?_
  refine c_loop (fun m e B L => ∃ (k : Nat), e 0 = .slice a l.length c ∧ e 3 = .int .i64 (k : Nat) ∧ B = [(w, No)] ∧ L = [] ∧ k ≤ l.length ∧ (∀ y ∈ l.take k, smLong y = false) ∧ m = l.length - k) _ ⟨0, rfl, rfl, rfl, rfl, Nat.zero_le _, (by simp), rfl⟩ ?_
  rintro m e B L ⟨k, e0_1, e3_1, rfl, rfl, hk, hy, rfl⟩
  refine c_seq ?_; refine c_seq ?_; refine c_region ?_; refine w_move (v := .int _ _) e3_1 ?_; refine w_move (v := .slice _ _ _) e0_1 ?_; refine w_r (fun _ => R_len sl35 rfl) rfl rfl ?_
  refine w_r (fun _ => R_lt rfl rfl) rfl rfl ?_; refine w_nil ?_; refine k_on ?_
  refine c_condD rfl (fun h1 => ?_) (fun h1 => ?_)
  · have hlt : k < l.length := (by omega); obtain ⟨x, hxk⟩ : ∃ x, l[k]? = some x := ⟨_, List.getElem?_eq_getElem hlt⟩; obtain ⟨cs, hA, hE⟩ := hm.get0 hxk; have hxn := smsW_mem (List.mem_of_getElem? hxk); have hle := smsN_take l (k + 1); have hnx := smsN_next hxk; have hlN := smsN_le l; obtain ⟨b1, o1, rfl⟩ := hA.ptr; obtain ⟨op, at_, nm, ks, bo, el⟩ := x; have hE2 := hE; unfold smM at hE2; obtain ⟨ka, kc, ba, bc, ea, ec, rfl, hkc, hks, hbo, hel⟩ := hE2; have hxw := hxn; unfold smW at hxw; have hxN := hnx; unfold smN at hxN; have hkN := exsN_le ks
    refine c_skip ?_; refine k_on ?_; refine c_seq ?_; refine c_block ?_; refine c_seq ?_; refine c_region ?_; refine w_move (v := .slice _ _ _) e0_1 ?_; refine w_move (v := .int _ _) e3_1 ?_
    refine w_r (fun _ => R_iaN (i := k) sl35 rfl rfl (by first | omega | decide)) rfl rfl ?_; refine w_fa fa70_2 rfl ?_; refine w_load z9 rfl (fun _ h => by first | exact hA.cell (fun _ _ hh => hh) (.head _) h 2 _ rfl | exact hA.cell (fun _ _ hh => hh) (.head _) h 3 _ rfl | exact hA.cell (fun _ _ hh => hh) (.head _) h 4 _ rfl | exact hA.cell (fun _ _ hh => hh) (.head _) h 5 _ rfl) ?_
    refine w_r (fun _ => R_slen st9 rfl (by omega)) rfl rfl ?_; refine w_r (fun _ => R_gt rfl rfl) rfl rfl ?_; refine w_move (v := .bool _) rfl ?_
    refine w_splitD (t := 17) rfl (fun h2 => ?_) (fun h2 => ?_)
    · refine w_skip rfl rfl (bT h2) ?_; refine w_skip rfl rfl (bT h2) ?_; refine w_skip rfl rfl (bT h2) ?_
      refine w_skip rfl rfl (bT h2) ?_; refine w_skip rfl rfl (bT h2) ?_; refine w_skip rfl rfl (bT h2) ?_
      refine w_r (v := .bool _) (fun _ => R_pickT (bT h2) rfl) rfl rfl ?_; refine w_move (v := .bool _) rfl ?_; refine w_skip rfl rfl rfl ?_
      refine w_skip rfl rfl rfl ?_; refine w_skip rfl rfl rfl ?_; refine w_skip rfl rfl rfl ?_; refine w_skip rfl rfl rfl ?_; refine w_skip rfl rfl rfl ?_; refine w_r (v := .bool _) (fun _ => R_pickT rfl rfl) rfl rfl ?_
      refine w_move (v := .bool _) rfl ?_; refine w_skip rfl rfl rfl ?_; refine w_skip rfl rfl rfl ?_; refine w_skip rfl rfl rfl ?_; refine w_skip rfl rfl rfl ?_; refine w_skip rfl rfl rfl ?_
      refine w_skip rfl rfl rfl ?_; refine w_r (v := .bool _) (fun _ => R_pickT rfl rfl) rfl rfl ?_; refine w_nil ?_; refine k_on ?_; refine c_condT rfl ?_; refine c_seq ?_
      refine c_region ?_; refine w_asg (v := .bool _) rfl ?_; refine w_nil ?_; refine k_on ?_; refine c_ret ?_; refine b_ret (k_ret (k_ret (b_ret (k_ret (?_)))))
      refine r_one (v := .bool _) rfl rfl rfl ?_
      exact fun w' hw => ⟨by rw [smsLong_any]; first | (rw [any_of_take hy (by omega)]; done) | (rw [any_yes hxk (by (try clear ih); (try clear hm); (try clear hA); (try clear hE); (try clear hks); (try clear hbo); (try clear hel); (try clear hw); (try clear hl); (try clear hxn); (try clear hle); (try clear hnx); (try clear hxN); (try clear hxw); (try clear hy); (try clear hlN); (try clear hkN); (try clear e0_1); (try clear e3_1); simp only [smLong]; grind)]; done), hw.fr _ (.head _)⟩
    · refine w_want rfl rfl (bF h2) ?_; refine w_move (v := .slice _ _ _) e0_1 ?_; refine w_want rfl rfl (bF h2) ?_
      refine w_move (v := .int _ _) e3_1 ?_; refine w_want rfl rfl (bF h2) ?_; refine w_r (fun _ => R_iaN (i := k) sl35 rfl rfl (by first | omega | decide)) rfl rfl ?_
      refine w_want rfl rfl (bF h2) ?_; refine w_fa fa70_3 rfl ?_; refine w_want rfl rfl (bF h2) ?_
      refine w_load z22 rfl (fun _ h => by first | exact hA.cell (fun _ _ hh => hh) (.head _) h 2 _ rfl | exact hA.cell (fun _ _ hh => hh) (.head _) h 3 _ rfl | exact hA.cell (fun _ _ hh => hh) (.head _) h 4 _ rfl | exact hA.cell (fun _ _ hh => hh) (.head _) h 5 _ rfl) ?_
      refine w_want rfl rfl (bF h2) ?_; refine w_call (fun w => R_call Tryz.func21 rfl rfl rfl) rfl rfl (fun w h => rlong_ok ks ka kc N w (by omega) (by omega) (hks.now (fun _ _ hh => hh) (.head _) h)) ?_
      refine w_r (v := .bool _) (fun _ => R_pickF (bF h2) rfl) rfl rfl ?_; refine w_move (v := .bool _) rfl ?_
      refine w_split (t := 25) rfl (fun h3 => ?_) (fun h3 => ?_)
      · refine w_skip rfl rfl (bV h3) ?_; refine w_skip rfl rfl (bV h3) ?_; refine w_skip rfl rfl (bV h3) ?_; refine w_skip rfl rfl (bV h3) ?_
        refine w_skip rfl rfl (bV h3) ?_; refine w_skip rfl rfl (bV h3) ?_; refine w_r (v := .bool _) (fun _ => R_pickT (bV h3) rfl) rfl rfl ?_
        refine w_move (v := .bool _) rfl ?_; refine w_skip rfl rfl rfl ?_; refine w_skip rfl rfl rfl ?_; refine w_skip rfl rfl rfl ?_; refine w_skip rfl rfl rfl ?_; refine w_skip rfl rfl rfl ?_
        refine w_skip rfl rfl rfl ?_; refine w_r (v := .bool _) (fun _ => R_pickT rfl rfl) rfl rfl ?_; refine w_nil ?_; refine k_on ?_; refine c_condT rfl ?_; refine c_seq ?_
        refine c_region ?_; refine w_asg (v := .bool _) rfl ?_; refine w_nil ?_; refine k_on ?_; refine c_ret ?_; refine b_ret (k_ret (k_ret (b_ret (k_ret (?_)))))
        refine r_one (v := .bool _) rfl rfl rfl ?_
        exact fun w' hw => ⟨by rw [smsLong_any]; first | (rw [any_of_take hy (by omega)]; done) | (rw [any_yes hxk (by (try clear ih); (try clear hm); (try clear hA); (try clear hE); (try clear hks); (try clear hbo); (try clear hel); (try clear hw); (try clear hl); (try clear hxn); (try clear hle); (try clear hnx); (try clear hxN); (try clear hxw); (try clear hy); (try clear hlN); (try clear hkN); (try clear e0_1); (try clear e3_1); simp only [smLong]; grind)]; done), hw.fr _ (.head _)⟩
      · refine w_want rfl rfl (bV h3) ?_; refine w_move (v := .slice _ _ _) e0_1 ?_; refine w_want rfl rfl (bV h3) ?_; refine w_move (v := .int _ _) e3_1 ?_
        refine w_want rfl rfl (bV h3) ?_; refine w_r (fun _ => R_iaN (i := k) sl35 rfl rfl (by first | omega | decide)) rfl rfl ?_; refine w_want rfl rfl (bV h3) ?_
        refine w_fa fa70_4 rfl ?_; refine w_want rfl rfl (bV h3) ?_; refine w_load z35 rfl (fun _ h => by first | exact hA.cell (fun _ _ hh => hh) (.head _) h 2 _ rfl | exact hA.cell (fun _ _ hh => hh) (.head _) h 3 _ rfl | exact hA.cell (fun _ _ hh => hh) (.head _) h 4 _ rfl | exact hA.cell (fun _ _ hh => hh) (.head _) h 5 _ rfl) ?_
        refine w_want rfl rfl (bV h3) ?_; refine w_call (fun w => R_call Tryz.func33 rfl rfl rfl) rfl rfl (fun w h => ih bo ba bc N w (by omega) (by omega) (hbo.now (fun _ _ hh => hh) (.head _) h)) ?_
        refine w_r (v := .bool _) (fun _ => R_pickF (bV h3) rfl) rfl rfl ?_; refine w_move (v := .bool _) rfl ?_
        refine w_split (t := 33) rfl (fun h4 => ?_) (fun h4 => ?_)
        · refine w_skip rfl rfl (bV h4) ?_; refine w_skip rfl rfl (bV h4) ?_; refine w_skip rfl rfl (bV h4) ?_; refine w_skip rfl rfl (bV h4) ?_
          refine w_skip rfl rfl (bV h4) ?_; refine w_skip rfl rfl (bV h4) ?_; refine w_r (v := .bool _) (fun _ => R_pickT (bV h4) rfl) rfl rfl ?_
          refine w_nil ?_; refine k_on ?_; refine c_condT rfl ?_; refine c_seq ?_; refine c_region ?_; refine w_asg (v := .bool _) rfl ?_; refine w_nil ?_; refine k_on ?_; refine c_ret ?_
          refine b_ret (k_ret (k_ret (b_ret (k_ret (?_)))))
          refine r_one (v := .bool _) rfl rfl rfl ?_
          exact fun w' hw => ⟨by rw [smsLong_any]; first | (rw [any_of_take hy (by omega)]; done) | (rw [any_yes hxk (by (try clear ih); (try clear hm); (try clear hA); (try clear hE); (try clear hks); (try clear hbo); (try clear hel); (try clear hw); (try clear hl); (try clear hxn); (try clear hle); (try clear hnx); (try clear hxN); (try clear hxw); (try clear hy); (try clear hlN); (try clear hkN); (try clear e0_1); (try clear e3_1); simp only [smLong]; grind)]; done), hw.fr _ (.head _)⟩
        · refine w_want rfl rfl (bV h4) ?_; refine w_move (v := .slice _ _ _) e0_1 ?_; refine w_want rfl rfl (bV h4) ?_; refine w_move (v := .int _ _) e3_1 ?_
          refine w_want rfl rfl (bV h4) ?_; refine w_r (fun _ => R_iaN (i := k) sl35 rfl rfl (by first | omega | decide)) rfl rfl ?_; refine w_want rfl rfl (bV h4) ?_
          refine w_fa fa70_5 rfl ?_; refine w_want rfl rfl (bV h4) ?_; refine w_load z35 rfl (fun _ h => by first | exact hA.cell (fun _ _ hh => hh) (.head _) h 2 _ rfl | exact hA.cell (fun _ _ hh => hh) (.head _) h 3 _ rfl | exact hA.cell (fun _ _ hh => hh) (.head _) h 4 _ rfl | exact hA.cell (fun _ _ hh => hh) (.head _) h 5 _ rfl) ?_
          refine w_want rfl rfl (bV h4) ?_; refine w_call (fun w => R_call Tryz.func33 rfl rfl rfl) rfl rfl (fun w h => ih el ea ec N w (by omega) (by omega) (hel.now (fun _ _ hh => hh) (.head _) h)) ?_
          refine w_r (v := .bool _) (fun _ => R_pickF (bV h4) rfl) rfl rfl ?_; refine w_nil ?_; refine k_on ?_
          refine c_cond rfl (fun h5 => ?_) (fun h5 => ?_)
          · refine c_seq ?_; refine c_region ?_; refine w_asg (v := .bool _) rfl ?_; refine w_nil ?_; refine k_on ?_; refine c_ret ?_; refine b_ret (k_ret (k_ret (b_ret (k_ret (?_)))))
            refine r_one (v := .bool _) rfl rfl rfl ?_
            exact fun w' hw => ⟨by rw [smsLong_any]; first | (rw [any_of_take hy (by omega)]; done) | (rw [any_yes hxk (by (try clear ih); (try clear hm); (try clear hA); (try clear hE); (try clear hks); (try clear hbo); (try clear hel); (try clear hw); (try clear hl); (try clear hxn); (try clear hle); (try clear hnx); (try clear hxN); (try clear hxw); (try clear hy); (try clear hlN); (try clear hkN); (try clear e0_1); (try clear e3_1); simp only [smLong]; grind)]; done), hw.fr _ (.head _)⟩
          · refine c_skip ?_; refine b_on (k_on ?_); refine c_region ?_; refine w_move (v := .int _ _) e3_1 ?_; refine w_r (fun _ => R_addi rfl rfl (by omega)) rfl rfl ?_; refine w_asg (v := .int _ _) rfl ?_
            refine w_nil ?_
            exact k_again _ (by omega) ⟨k + 1, e0_1, rfl, rfl, rfl, by omega, take_all hy hxk (by (try clear ih); (try clear hm); (try clear hA); (try clear hE); (try clear hks); (try clear hbo); (try clear hel); (try clear hw); (try clear hl); (try clear hxn); (try clear hle); (try clear hnx); (try clear hxN); (try clear hxw); (try clear hy); (try clear hlN); (try clear hkN); (try clear e0_1); (try clear e3_1); simp only [smLong]; grind), rfl⟩
  · refine c_exit ?_; refine k_exit (k_exit (b_here rfl (k_on ?_))); refine c_seq ?_; refine c_region ?_; refine w_asg (v := .bool _) rfl ?_; refine w_nil ?_; refine k_on ?_
    refine c_ret ?_
    refine r_one (v := .bool _) rfl rfl rfl ?_
    exact fun w' hw => ⟨by rw [smsLong_any]; first | (rw [any_of_take hy (by omega)]; done) | (rw [any_yes hxk (by (try clear ih); (try clear hm); (try clear hA); (try clear hE); (try clear hks); (try clear hbo); (try clear hel); (try clear hw); (try clear hl); (try clear hxn); (try clear hle); (try clear hnx); (try clear hxN); (try clear hxw); (try clear hy); (try clear hlN); (try clear hkN); (try clear e0_1); (try clear e3_1); simp only [smLong]; grind)]; done), hw.fr _ (.head _)⟩


theorem rlongOf_all : ∀ n : Nat, n ≤ 10000000 → RLongOfP n
  | 0, _ => fun _ _ _ _ _ h => absurd h (Nat.not_lt_zero _)
  | n + 1, h => rlongOf_step n (rlongOf_all n (by omega)) (by omega)
theorem rlongOf_ok : RLongOfP 10000000 := rlongOf_all _ (Nat.le_refl _)
end Go.Proofs.YtcmcdgkjipnfnaaGreatDoor
end

section
namespace Go.Proofs.YtcmcdgkjipnfnaaGreatDoor
open Go.RowKit Go.Sx
open Go.Tok Go.Tree


mutual
theorem exM.any {w : World} {N : Nat → Prop} : ∀ (e : Ex) (cs : List Value), exM w N e cs → exM w (fun _ => True) e cs
  | .mk op at_ nm ks, cs, h => by
    unfold exM at h ⊢
    obtain ⟨a, c, h1, h2, h3⟩ := h
    exact ⟨a, c, h1, h2, exsM.any ks a 0 h3⟩
theorem exsM.any {w : World} {N : Nat → Prop} : ∀ (l : List Ex) (a : Option Addr) (i : Nat), exsM w N l a i → exsM w (fun _ => True) l a i
  | [], _, _, _ => by unfold exsM; trivial
  | e :: l, a, i, h => by
    unfold exsM at h ⊢
    obtain ⟨⟨cs, ⟨b, o, ha, hb, hc⟩, h2⟩, h3⟩ := h
    exact ⟨⟨cs, ⟨b, o, ha, trivial, hc⟩, exM.any e cs h2⟩, exsM.any l a (i + 4) h3⟩
end

theorem exsN_one (x : Ex) : exsN [x] = exN x := by unfold exsN exsN; omega
theorem exsLong_one (x : Ex) : exsLong [x] = exLong x := by unfold exsLong exsLong; rw [Bool.or_false]

theorem exsW_one (x : Ex) : exsW [x] = exW x := by unfold exsW exsW; omega
theorem rnodes_one {op : Nat} {at_ : Int} {nm : Str} {ks : List Ex} {ka : Option Addr} {kc : Nat} {N : Nat → Prop} (b : Nat) (w : World) (hx : exW (Ex.mk op at_ nm ks) < 10000000) (hb : w.heap[b]? = some (cel [.int .u8 (op : Nat), .int .i64 at_, str nm, .slice ka ks.length kc] 24)) (hm : exM w N (Ex.mk op at_ nm ks) [.int .u8 (op : Nat), .int .i64 at_, str nm, .slice ka ks.length kc]) :
    Ret Tryz.prog 20 #[.slice (some ⟨b, 0, none⟩) 1 1] w fun v w' => v = .int .i64 (exN (Ex.mk op at_ nm ks) : Nat) ∧ Ext w w' :=
by rw [← exsN_one]; exact rnodes_ok [(Ex.mk op at_ nm ks)] (some ⟨b, 0, none⟩) 1 _ w (by rw [exsW_one]; exact hx) (show (1 : Nat) ≤ 10000000 by decide) (exsM_one (N := fun _ => True) trivial hb (exM.any _ _ hm))
theorem rlong_one {op : Nat} {at_ : Int} {nm : Str} {ks : List Ex} {ka : Option Addr} {kc : Nat} {N : Nat → Prop} (b : Nat) (w : World) (hx : exW (Ex.mk op at_ nm ks) < 10000000) (hb : w.heap[b]? = some (cel [.int .u8 (op : Nat), .int .i64 at_, str nm, .slice ka ks.length kc] 24)) (hm : exM w N (Ex.mk op at_ nm ks) [.int .u8 (op : Nat), .int .i64 at_, str nm, .slice ka ks.length kc]) :
    Ret Tryz.prog 21 #[.slice (some ⟨b, 0, none⟩) 1 1] w fun v w' => v = .bool (exLong (Ex.mk op at_ nm ks)) ∧ Ext w w' :=
by rw [← exsLong_one]; exact rlong_ok [(Ex.mk op at_ nm ks)] (some ⟨b, 0, none⟩) 1 _ w (by rw [exsW_one]; exact hx) (show (1 : Nat) ≤ 10000000 by decide) (exsM_one (N := fun _ => True) trivial hb (exM.any _ _ hm))

set_option maxRecDepth 100000 in
set_option maxHeartbeats 400000 in
theorem SmallExpr_spec (x : Ex) (cs : List Value) (N : Nat → Prop) (w : World) (hx : exW x < 10000000) (hm : exM w N x cs) :
    Ret Tryz.prog 5 #[.agg cs.toArray] w (fun v w' => v = .bool (exSmall x) ∧ Ext w w') := by
  obtain ⟨op, at_, nm, ks⟩ := x
  have hm2 := hm
  unfold exM at hm2
  obtain ⟨ka, kc, rfl, hkc, hks⟩ := hm2
  have hx2 := hx
  unfold exW at hx2
  refine enter (S := No) (l := [_]) (L := []) 13 Tryz.func5 rfl rfl rfl (St.start w No) ?_
  refine c_seq ?_; refine c_region ?_
  refine w_boxA rfl (fun t1b gt1b ut1b => ?_)
  refine w_asg (v := .bool _) rfl ?_; refine w_nil ?_; refine k_on ?_; refine c_seq ?_; refine c_region ?_; refine w_loadA z24 rfl (fun _ h => h.at_ 0 rfl) rfl ?_
  refine w_bslice slt22 (by decide) rfl rfl (fun b2 gb2 ub2 => ?_)
  refine w_call (fun w => R_call Tryz.func20 rfl rfl rfl) rfl rfl (fun w h => rnodes_one _ w hx (h.at_ 0 rfl) (hm.now (fun _ _ hh => hh) (.head _) h)) ?_
  refine w_r (fun _ => R_le rfl rfl) rfl rfl ?_; refine w_move (v := .bool _) rfl ?_
  refine w_splitD (t := 7) rfl (fun h3 => ?_) (fun h3 => ?_)
  · refine w_want rfl rfl (bT h3) ?_; refine w_loadA z24 rfl (fun _ h => h.at_ 1 rfl) rfl ?_; refine w_want rfl rfl (bT h3) ?_
    refine w_bslice slt22 (by decide) rfl rfl (fun b4 gb4 ub4 => ?_)
    refine w_want rfl rfl (bT h3) ?_; refine w_call (fun w => R_call Tryz.func21 rfl rfl rfl) rfl rfl (fun w h => rlong_one _ w hx (h.at_ 0 rfl) (hm.now (fun _ _ hh => hh) (.head _) h)) ?_
    refine w_want rfl rfl (bT h3) ?_; refine w_r (fun _ => R_not rfl) rfl rfl ?_; refine w_r (v := .bool _) (fun _ => R_pickT (bT h3) rfl) rfl rfl ?_
    refine w_asg (v := .bool _) rfl ?_; refine w_nil ?_; refine k_on ?_; refine c_ret ?_
    refine r_one (v := .bool _) rfl rfl rfl ?_
    exact fun w' hw => ⟨by (try clear hm); (try clear hks); (try clear hw); (try clear gb2); (try clear gb4); (try clear gt1b); (try clear ub2); (try clear ub4); (try clear ut1b); simp only [exSmall]; grind, hw.fr _ (.head _)⟩
  · refine w_skip rfl rfl (bF h3) ?_; refine w_skip rfl rfl (bF h3) ?_; refine w_skip rfl rfl (bF h3) ?_
    refine w_skip rfl rfl (bF h3) ?_; refine w_r (v := .bool _) (fun _ => R_pickF (bF h3) rfl) rfl rfl ?_
    refine w_asg (v := .bool _) rfl ?_; refine w_nil ?_; refine k_on ?_; refine c_ret ?_
    refine r_one (v := .bool _) rfl rfl rfl ?_
    exact fun w' hw => ⟨by (try clear hm); (try clear hks); (try clear hw); (try clear gb2); (try clear gb4); (try clear gt1b); (try clear ub2); (try clear ub4); (try clear ut1b); simp only [exSmall]; grind, hw.fr _ (.head _)⟩

set_option maxRecDepth 100000 in
set_option maxHeartbeats 4000000 in
theorem rNodes_spec (pg : List Bk) (cs : List Value) (N : Nat → Prop) (w : World) (hp : ∀ b ∈ pg, bkW b < 10000000) (hm : pgM w N pg cs) :
    Ret Tryz.prog 19 #[.agg cs.toArray] w (fun v w' => v = .int .i64 (pgN pg : Nat) ∧ Ext w w') := by
  refine enter (S := No) (l := [_]) (L := []) 52 Tryz.func19 rfl rfl rfl (St.start w No) ?_
  refine c_seq ?_; refine c_region ?_
  refine w_boxA rfl (fun t1b gt1b ut1b => ?_)
  refine w_asg (v := .int _ _) rfl ?_; refine w_nil ?_; refine k_on ?_; refine c_seq ?_; refine c_region ?_; refine w_asg (v := .int _ _) rfl ?_; refine w_nil ?_; refine k_on ?_
  refine c_seq ?_; refine c_seq ?_; refine c_region ?_; refine w_asg (v := .int _ _) rfl ?_; refine w_nil ?_; refine k_on ?_; refine c_block ?_
  refine c_loop (fun m e B L => ∃ (i : Nat), e 1 = .pointer (some ⟨t1b, 0, none⟩) ∧ e 3 = .int .i64 (pgNTo pg i : Nat) ∧ e 4 = .int .i64 (i : Nat) ∧ B = [(w, No)] ∧ L = [(t1b, cel cs 40)] ∧ i ≤ 6 ∧ pgNTo pg i ≤ i * 10000000 ∧ m = 6 - i) _ ⟨0, rfl, rfl, rfl, rfl, rfl, Nat.zero_le _, Nat.zero_le _, rfl⟩ ?_
  rintro m e B L ⟨i, e1_1, e3_1, e4_1, rfl, rfl, hi, hN, rfl⟩
  refine c_seq ?_; refine c_seq ?_; refine c_region ?_; refine w_move (v := .int _ _) e4_1 ?_; refine w_r (fun _ => R_lt rfl rfl) rfl rfl ?_; refine w_nil ?_; refine k_on ?_
  refine c_condD rfl (fun h2 => ?_) (fun h2 => ?_)
  · have hi6 : i < 6 := (by omega); obtain ⟨b, hb⟩ : ∃ b, pg[i]? = some b := ⟨_, List.getElem?_eq_getElem (by rw [hm.six]; exact hi6)⟩; have hbw := hp b (List.mem_of_getElem? hb); unfold bkW at hbw; obtain ⟨da, dc, sa, sc, hcb, hds, hss⟩ := hm.one i b hb; have hnb := pgNTo_next hb; have hNb := bkN_le b; unfold bkN at hnb hNb; have hsN := smsN_le b.stmts; have hdN := dcsN_le b.decls
    refine c_skip ?_; refine k_on ?_; refine c_seq ?_; refine c_block ?_; refine c_seq ?_; refine c_region ?_; refine w_move (v := .int _ _) e4_1 ?_; refine w_fa fa40_0 e1_1 ?_
    refine w_r (fun _ => R_iaA (i := i) ara38 (by decide) rfl rfl (by first | omega | decide)) rfl rfl ?_
    refine w_loadC (l := [.bool b.is, .slice da b.decls.length dc, .slice sa b.stmts.length sc]) z37 rfl rfl (fun w h j v hj => cel_own 0 rfl (sub_get hcb hj) h) ?_
    refine w_alloc zr37 (fun t5b gt5b ut5b => ?_)
    refine w_store 0 rfl z37 rfl rfl rfl rfl rfl rfl rfl ?_; refine w_nil ?_; refine k_on ?_; refine c_seq ?_; refine c_region ?_; refine w_move (v := .int _ _) e3_1 ?_
    refine w_fa fa37_2 rfl ?_; refine w_load z35 rfl (fun _ h => cel_own 0 rfl rfl h) ?_; refine w_call (fun w => R_call Tryz.func49 rfl rfl rfl) rfl rfl (fun w h => rnodesOf_ok b.stmts sa sc N w (by omega) (by omega) (hss.now (fun _ _ hh => hh) (.head _) h)) ?_
    refine w_r (fun _ => R_addi rfl rfl (by omega)) rfl rfl ?_; refine w_asg (v := .int _ _) rfl ?_; refine w_nil ?_; refine k_on ?_; refine c_seq ?_; refine c_region ?_
    refine w_asg (v := .int _ _) rfl ?_; refine w_nil ?_; refine k_on ?_; refine c_block ?_
    refine c_loop (fun m e B L => ∃ (k : Nat), e 1 = .pointer (some ⟨t1b, 0, none⟩) ∧ e 3 = .int .i64 (pgNTo pg i + smsN b.stmts + dcsN (b.decls.take k) : Nat) ∧ e 4 = .int .i64 (i : Nat) ∧ e 5 = .pointer (some ⟨t5b, 0, none⟩) ∧ e 6 = .int .i64 (k : Nat) ∧ B = [(w, No)] ∧ L = [(t5b, cel [.bool b.is, .slice da b.decls.length dc, .slice sa b.stmts.length sc] 37), (t1b, cel cs 40)] ∧ k ≤ b.decls.length ∧ m = b.decls.length - k) _ ⟨0, e1_1, rfl, e4_1, rfl, rfl, rfl, rfl, Nat.zero_le _, rfl⟩ ?_
    rintro m e B L ⟨k, e1_2, e3_2, e4_2, e5_2, e6_2, rfl, rfl, hk, rfl⟩
    refine c_seq ?_; refine c_seq ?_; refine c_region ?_; refine w_move (v := .int _ _) e6_2 ?_; refine w_fa fa37_1 e5_2 ?_; refine w_load z34 rfl (fun _ h => cel_own 0 rfl rfl h) ?_
    refine w_r (fun _ => R_len sl34 rfl) rfl rfl ?_; refine w_r (fun _ => R_lt rfl rfl) rfl rfl ?_; refine w_nil ?_; refine k_on ?_
    refine c_condD rfl (fun h4 => ?_) (fun h4 => ?_)
    · have hlt : k < b.decls.length := (by omega); obtain ⟨x, hxk⟩ : ∃ x, b.decls[k]? = some x := ⟨_, List.getElem?_eq_getElem hlt⟩; obtain ⟨cs2, hA, hE⟩ := hds k x hxk; have hxn := dcsW_mem (List.mem_of_getElem? hxk); obtain ⟨b1, o1, rfl⟩ := hA.ptr; have hE2 := hE; obtain ⟨ty, at_, nm, sz, lo, up, ini⟩ := x; unfold dcM at hE2; obtain ⟨xa, xc, la, lc, ua, uc, ia, ic, hcs, hsz, hlo, hup, hini⟩ := hE2; simp only [] at hcs; subst hcs; have hnx := dcsN_next hxk; have hle := dcsN_take b.decls (k + 1); have hdw := hxn; unfold dcW at hdw; have hxN := hnx; unfold dcN at hxN; have hk1 := exsN_le sz; have hk2 := exsN_le lo; have hk3 := exsN_le up; have hk4 := exsN_le ini; simp only [] at hxN hdw
      refine c_skip ?_; refine k_on ?_; refine c_seq ?_; refine c_block ?_; refine c_seq ?_; refine c_region ?_; refine w_fa fa37_1 e5_2 ?_; refine w_load z34 rfl (fun _ h => cel_own 0 rfl rfl h) ?_
      refine w_move (v := .int _ _) e6_2 ?_; refine w_r (fun _ => R_iaN (i := k) sl34 rfl rfl (by first | omega | decide)) rfl rfl ?_
      refine w_loadC (l := [.int .u8 (ty : Nat), .int .i64 at_, str nm, .slice xa sz.length xc, .slice la lo.length lc, .slice ua up.length uc, .slice ia ini.length ic]) z52 rfl rfl (fun w h j v hj => hA.cell (fun _ _ hh => hh) (.head _) h j v hj) ?_
      refine w_alloc zr52 (fun t7b gt7b ut7b => ?_)
      refine w_store 0 rfl z52 rfl rfl rfl rfl rfl rfl rfl ?_; refine w_nil ?_; refine k_on ?_
      refine c_held (St [(w, No)] [(t7b, cel [.int .u8 (ty : Nat), .int .i64 at_, str nm, .slice xa sz.length xc, .slice la lo.length lc, .slice ua up.length uc, .slice ia ini.length ic] 52)]) mixed ?_
      refine h_take 0 rfl (by kernel_rfl) rfl rfl (fun w h => h.drop (.cons_cons _ (List.nil_sublist _))) (fun w h => R_move e3_2) ?_
      refine h_take 1 rfl (by kernel_rfl) rfl rfl (fun w h => h.drop (.cons_cons _ (List.nil_sublist _))) (fun w h => R_addi rfl rfl (by omega)) ?_
      refine h_take 2 rfl (by kernel_rfl) rfl rfl (fun w h => h.drop (.cons_cons _ (List.nil_sublist _))) (fun w h => R_fa fa52_3 rfl) ?_
      refine h_take 3 rfl (by kernel_rfl) rfl rfl (fun w h => h.drop (.cons_cons _ (List.nil_sublist _))) (fun w h => R_ld1 z22 rfl (cel_own 0 rfl rfl h)) ?_
      refine h_take 6 rfl (by kernel_rfl) rfl rfl (fun w h => h.drop (.cons_cons _ (List.nil_sublist _))) (fun w h => R_fa fa52_4 rfl) ?_
      refine h_take 7 rfl (by kernel_rfl) rfl rfl (fun w h => h.drop (.cons_cons _ (List.nil_sublist _))) (fun w h => R_ld1 z22 rfl (cel_own 0 rfl rfl h)) ?_
      refine h_take 10 rfl (by kernel_rfl) rfl rfl (fun w h => h.drop (.cons_cons _ (List.nil_sublist _))) (fun w h => R_fa fa52_5 rfl) ?_
      refine h_take 11 rfl (by kernel_rfl) rfl rfl (fun w h => h.drop (.cons_cons _ (List.nil_sublist _))) (fun w h => R_ld1 z22 rfl (cel_own 0 rfl rfl h)) ?_
      refine h_take 14 rfl (by kernel_rfl) rfl rfl (fun w h => h.drop (.cons_cons _ (List.nil_sublist _))) (fun w h => R_fa fa52_6 rfl) ?_
      refine h_take 15 rfl (by kernel_rfl) rfl rfl (fun w h => h.drop (.cons_cons _ (List.nil_sublist _))) (fun w h => R_ld1 z22 rfl (cel_own 0 rfl rfl h)) ?_
      refine h_pure 4 rfl (by kernel_rfl) rfl rfl (fun w h => h.drop (.cons_cons _ (List.nil_sublist _))) (fun w => R_call Tryz.func20 rfl rfl rfl) (fun w h => rnodes_ok sz xa xc N w (by omega) (by omega) (hsz.now (fun _ _ hh => hh) (.head _) h)) ?_
      refine h_take 5 rfl (by kernel_rfl) rfl rfl (fun w h => h.drop (.cons_cons _ (List.nil_sublist _))) (fun w h => R_addi rfl rfl (by omega)) ?_
      refine h_pure 8 rfl (by kernel_rfl) rfl rfl (fun w h => h.drop (.cons_cons _ (List.nil_sublist _))) (fun w => R_call Tryz.func20 rfl rfl rfl) (fun w h => rnodes_ok lo la lc N w (by omega) (by omega) (hlo.now (fun _ _ hh => hh) (.head _) h)) ?_
      refine h_take 9 rfl (by kernel_rfl) rfl rfl (fun w h => h.drop (.cons_cons _ (List.nil_sublist _))) (fun w h => R_addi rfl rfl (by omega)) ?_
      refine h_pure 12 rfl (by kernel_rfl) rfl rfl (fun w h => h.drop (.cons_cons _ (List.nil_sublist _))) (fun w => R_call Tryz.func20 rfl rfl rfl) (fun w h => rnodes_ok up ua uc N w (by omega) (by omega) (hup.now (fun _ _ hh => hh) (.head _) h)) ?_
      refine h_take 13 rfl (by kernel_rfl) rfl rfl (fun w h => h.drop (.cons_cons _ (List.nil_sublist _))) (fun w h => R_addi rfl rfl (by omega)) ?_
      refine h_pure 16 rfl (by kernel_rfl) rfl rfl (fun w h => h.drop (.cons_cons _ (List.nil_sublist _))) (fun w => R_call Tryz.func20 rfl rfl rfl) (fun w h => rnodes_ok ini ia ic N w (by omega) (by omega) (hini.now (fun _ _ hh => hh) (.head _) h)) ?_
      refine h_take 17 rfl (by kernel_rfl) rfl rfl (fun w h => h.drop (.cons_cons _ (List.nil_sublist _))) (fun w h => R_addi rfl rfl (by omega)) ?_
      refine h_take 18 rfl (by kernel_rfl) rfl rfl (fun w h => h.drop (.cons_cons _ (List.nil_sublist _))) (fun w h => R_assign rfl) ?_
      refine h_done (by kernel_rfl) (fun w h => h.drop (.cons_cons _ (List.nil_sublist _))) ?_
      refine b_on (k_on ?_); refine c_region ?_; refine w_move (v := .int _ _) e6_2 ?_; refine w_r (fun _ => R_addi rfl rfl (by omega)) rfl rfl ?_; refine w_asg (v := .int _ _) rfl ?_
      refine w_nil ?_
      have hfin : ((pgNTo pg i + smsN b.stmts + dcsN (b.decls.take k) : Nat) : Int) + 1 + ((exsN sz : Nat) : Int) + ((exsN lo : Nat) : Int) + ((exsN up : Nat) : Int) + ((exsN ini : Nat) : Int) = ((pgNTo pg i + smsN b.stmts + dcsN (b.decls.take (k + 1)) : Nat) : Int) := by omega
      refine k_st (B' := [(w, No)]) (L' := _) (fun w h => h.drop (List.sublist_cons_self _ _)) ?_
      exact k_again _ (by omega) ⟨k + 1, e1_2, (congrArg (Value.int .i64) hfin), e4_2, e5_2, rfl, rfl, rfl, by omega, rfl⟩
    · refine c_exit ?_; refine k_exit (k_exit (b_here rfl (b_on (k_on ?_)))); refine c_region ?_; refine w_move (v := .int _ _) e4_2 ?_; refine w_r (fun _ => R_addi rfl rfl (by omega)) rfl rfl ?_
      refine w_asg (v := .int _ _) rfl ?_; refine w_nil ?_
      refine k_st (B' := [(w, No)]) (L' := [(t1b, cel cs 40)]) (fun w h => h.drop (List.sublist_cons_self _ _)) ?_
      have hfin : ((pgNTo pg i + smsN b.stmts + dcsN (b.decls.take k) : Nat) : Int) = ((pgNTo pg (i + 1) : Nat) : Int) := by rw [List.take_of_length_le (by omega)]; omega
      exact k_again _ (by omega) ⟨i + 1, e1_2, (e3_2.trans (congrArg (Value.int .i64) hfin)), rfl, rfl, rfl, by omega, by omega, rfl⟩
  · refine c_exit ?_; refine k_exit (k_exit (b_here rfl (k_on ?_))); refine c_seq ?_; refine c_region ?_; refine w_move (v := .int _ _) e3_1 ?_; refine w_asg (v := .int _ _) rfl ?_
    refine w_nil ?_; refine k_on ?_; refine c_ret ?_
    refine r_one (v := .int _ _) rfl rfl rfl ?_
    exact fun w' hw => ⟨by rw [show i = 6 by omega]; rfl, hw.fr _ (.head _)⟩

set_option maxRecDepth 100000 in
set_option maxHeartbeats 4000000 in
theorem Small_spec (pg : List Bk) (cs : List Value) (N : Nat → Prop) (w : World) (hp : ∀ b ∈ pg, bkW b < 10000000) (hm : pgM w N pg cs) :
    Ret Tryz.prog 12 #[.agg cs.toArray] w (fun v w' => v = .bool (pgSmall pg) ∧ Ext w w') := by
  refine enter (S := No) (l := [_]) (L := []) 57 Tryz.func12 rfl rfl rfl (St.start w No) ?_
  refine c_seq ?_; refine c_region ?_
  refine w_boxA rfl (fun t1b gt1b ut1b => ?_)
  refine w_asg (v := .bool _) rfl ?_; refine w_nil ?_; refine k_on ?_; refine c_seq ?_; refine c_seq ?_; refine c_region ?_
  refine w_loadW z40 rfl (fun _ h => h.at_ 0 rfl) hm.len ?_
  refine w_call (fun w => R_call Tryz.func19 rfl rfl rfl) rfl rfl (fun w h => rNodes_spec pg cs N w hp (hm.now (fun _ _ hh => hh) (.head _) h)) ?_; refine w_r (fun _ => R_gt rfl rfl) rfl rfl ?_
  refine w_nil ?_; refine k_on ?_
  refine c_condD rfl (fun h2 => ?_) (fun h2 => ?_)
  · refine c_seq ?_; refine c_region ?_; refine w_asg (v := .bool _) rfl ?_; refine w_nil ?_; refine k_on ?_; refine c_ret ?_; refine k_ret (?_)
    refine r_one (v := .bool _) rfl rfl rfl ?_
    exact fun w' hw => ⟨by unfold pgSmall; rw [decide_eq_false (by omega)]; rfl, hw.fr _ (.head _)⟩
  · refine c_skip ?_; refine k_on ?_; refine c_seq ?_; refine c_seq ?_; refine c_region ?_; refine w_asg (v := .int _ _) rfl ?_; refine w_nil ?_; refine k_on ?_; refine c_block ?_
    refine c_loop (fun m e B L => ∃ (i : Nat), e 1 = .pointer (some ⟨t1b, 0, none⟩) ∧ e 3 = .int .i64 (i : Nat) ∧ B = [(w, No)] ∧ L = [(t1b, cel cs 40)] ∧ i ≤ 6 ∧ (∀ y ∈ pg.take i, bkLong y = false) ∧ m = 6 - i) _ ⟨0, rfl, rfl, rfl, rfl, Nat.zero_le _, (by simp), rfl⟩ ?_
    rintro m e B L ⟨i, e1_1, e3_1, rfl, rfl, hi, hy, rfl⟩
    refine c_seq ?_; refine c_seq ?_; refine c_region ?_; refine w_move (v := .int _ _) e3_1 ?_; refine w_r (fun _ => R_lt rfl rfl) rfl rfl ?_; refine w_nil ?_; refine k_on ?_
    refine c_condD rfl (fun h3 => ?_) (fun h3 => ?_)
    · have hi6 : i < 6 := (by omega); obtain ⟨b, hb⟩ : ∃ b, pg[i]? = some b := ⟨_, List.getElem?_eq_getElem (by rw [hm.six]; exact hi6)⟩; have hbw := hp b (List.mem_of_getElem? hb); unfold bkW at hbw; obtain ⟨da, dc, sa, sc, hcb, hds, hss⟩ := hm.one i b hb
      refine c_skip ?_; refine k_on ?_; refine c_seq ?_; refine c_block ?_; refine c_seq ?_; refine c_region ?_; refine w_move (v := .int _ _) e3_1 ?_; refine w_fa fa40_0 e1_1 ?_
      refine w_r (fun _ => R_iaA (i := i) ara38 (by decide) rfl rfl (by first | omega | decide)) rfl rfl ?_
      refine w_loadC (l := [.bool b.is, .slice da b.decls.length dc, .slice sa b.stmts.length sc]) z37 rfl rfl (fun w h j v hj => cel_own 0 rfl (sub_get hcb hj) h) ?_
      refine w_alloc zr37 (fun t4b gt4b ut4b => ?_)
      refine w_store 0 rfl z37 rfl rfl rfl rfl rfl rfl rfl ?_; refine w_nil ?_; refine k_on ?_; refine c_seq ?_; refine c_seq ?_; refine c_region ?_; refine w_fa fa37_2 rfl ?_
      refine w_load z35 rfl (fun _ h => cel_own 0 rfl rfl h) ?_; refine w_call (fun w => R_call Tryz.func33 rfl rfl rfl) rfl rfl (fun w h => rlongOf_ok b.stmts sa sc N w (by omega) (by omega) (hss.now (fun _ _ hh => hh) (.head _) h)) ?_
      refine w_nil ?_; refine k_on ?_
      refine c_cond rfl (fun h5 => ?_) (fun h5 => ?_)
      · refine c_seq ?_; refine c_region ?_; refine w_asg (v := .bool _) rfl ?_; refine w_nil ?_; refine k_on ?_; refine c_ret ?_; refine k_ret (b_ret (k_ret (k_ret (b_ret (k_ret (?_))))))
        refine r_one (v := .bool _) rfl rfl rfl ?_
        exact fun w' hw => ⟨by unfold pgSmall pgLong; rw [any_yes hb (by unfold bkLong; rw [h5]; rfl)]; simp, hw.fr _ (.head _)⟩
      · refine c_skip ?_; refine k_on ?_; refine c_seq ?_; refine c_region ?_; refine w_asg (v := .int _ _) rfl ?_; refine w_nil ?_; refine k_on ?_; refine c_block ?_
        refine c_loop (fun m e B L => ∃ (k : Nat), e 1 = .pointer (some ⟨t1b, 0, none⟩) ∧ e 3 = .int .i64 (i : Nat) ∧ e 4 = .pointer (some ⟨t4b, 0, none⟩) ∧ e 5 = .int .i64 (k : Nat) ∧ B = [(w, No)] ∧ L = [(t4b, cel [.bool b.is, .slice da b.decls.length dc, .slice sa b.stmts.length sc] 37), (t1b, cel cs 40)] ∧ k ≤ b.decls.length ∧ (∀ y ∈ b.decls.take k, dcLong y = false) ∧ m = b.decls.length - k) _ ⟨0, e1_1, e3_1, rfl, rfl, rfl, rfl, Nat.zero_le _, (by simp), rfl⟩ ?_
        rintro m e B L ⟨k, e1_2, e3_2, e4_2, e5_2, rfl, rfl, hk, hz, rfl⟩
        refine c_seq ?_; refine c_seq ?_; refine c_region ?_; refine w_move (v := .int _ _) e5_2 ?_; refine w_fa fa37_1 e4_2 ?_; refine w_load z34 rfl (fun _ h => cel_own 0 rfl rfl h) ?_
        refine w_r (fun _ => R_len sl34 rfl) rfl rfl ?_; refine w_r (fun _ => R_lt rfl rfl) rfl rfl ?_; refine w_nil ?_; refine k_on ?_
        refine c_condD rfl (fun h6 => ?_) (fun h6 => ?_)
        · have hlt : k < b.decls.length := (by omega); obtain ⟨x, hxk⟩ : ∃ x, b.decls[k]? = some x := ⟨_, List.getElem?_eq_getElem hlt⟩; obtain ⟨cs2, hA, hE⟩ := hds k x hxk; have hxn := dcsW_mem (List.mem_of_getElem? hxk); obtain ⟨b1, o1, rfl⟩ := hA.ptr; have hE2 := hE; obtain ⟨ty, at_, nm, sz, lo, up, ini⟩ := x; unfold dcM at hE2; obtain ⟨xa, xc, la, lc, ua, uc, ia, ic, hcs, hsz, hlo, hup, hini⟩ := hE2; simp only [] at hcs; subst hcs; have hdw := hxn; unfold dcW at hdw; simp only [] at hdw
          refine c_skip ?_; refine k_on ?_; refine c_seq ?_; refine c_block ?_; refine c_seq ?_; refine c_region ?_; refine w_fa fa37_1 e4_2 ?_; refine w_load z34 rfl (fun _ h => cel_own 0 rfl rfl h) ?_
          refine w_move (v := .int _ _) e5_2 ?_; refine w_r (fun _ => R_iaN (i := k) sl34 rfl rfl (by first | omega | decide)) rfl rfl ?_
          refine w_loadC (l := [.int .u8 (ty : Nat), .int .i64 at_, str nm, .slice xa sz.length xc, .slice la lo.length lc, .slice ua up.length uc, .slice ia ini.length ic]) z52 rfl rfl (fun w h j v hj => hA.cell (fun _ _ hh => hh) (.head _) h j v hj) ?_
          refine w_alloc zr52 (fun t6b gt6b ut6b => ?_)
          refine w_store 0 rfl z52 rfl rfl rfl rfl rfl rfl rfl ?_; refine w_nil ?_; refine k_on ?_; refine c_seq ?_; refine c_region ?_; refine w_fa fa52_2 rfl ?_; refine w_load z9 rfl (fun _ h => cel_own 0 rfl rfl h) ?_
          refine w_r (fun _ => R_slen st9 rfl (by omega)) rfl rfl ?_; refine w_r (fun _ => R_gt rfl rfl) rfl rfl ?_; refine w_move (v := .bool _) rfl ?_
          refine w_splitD (t := 37) rfl (fun h8 => ?_) (fun h8 => ?_)
          · refine w_skip rfl rfl (bT h8) ?_; refine w_skip rfl rfl (bT h8) ?_; refine w_skip rfl rfl (bT h8) ?_
            refine w_r (v := .bool _) (fun _ => R_pickT (bT h8) rfl) rfl rfl ?_; refine w_move (v := .bool _) rfl ?_; refine w_skip rfl rfl rfl ?_
            refine w_skip rfl rfl rfl ?_; refine w_skip rfl rfl rfl ?_; refine w_r (v := .bool _) (fun _ => R_pickT rfl rfl) rfl rfl ?_; refine w_move (v := .bool _) rfl ?_
            refine w_skip rfl rfl rfl ?_; refine w_skip rfl rfl rfl ?_; refine w_skip rfl rfl rfl ?_; refine w_r (v := .bool _) (fun _ => R_pickT rfl rfl) rfl rfl ?_; refine w_move (v := .bool _) rfl ?_
            refine w_skip rfl rfl rfl ?_; refine w_skip rfl rfl rfl ?_; refine w_skip rfl rfl rfl ?_; refine w_r (v := .bool _) (fun _ => R_pickT rfl rfl) rfl rfl ?_; refine w_nil ?_
            refine k_on ?_; refine c_condT rfl ?_; refine c_seq ?_; refine c_region ?_; refine w_asg (v := .bool _) rfl ?_; refine w_nil ?_; refine k_on ?_; refine c_ret ?_; refine b_ret (k_ret (k_ret (b_ret (b_ret (k_ret (k_ret (b_ret (k_ret (?_)))))))))
            refine r_one (v := .bool _) rfl rfl rfl ?_
            exact fun w' hw => ⟨by first | (unfold pgSmall pgLong; rw [any_of_take hy (by have := hm.six; omega), decide_eq_true (by omega)]; rfl) | (unfold pgSmall pgLong; rw [any_yes hb (by unfold bkLong; rw [any_yes hxk (by (try clear hm); (try clear hA); (try clear hE); (try clear hw); (try clear hp); (try clear hcb); (try clear hds); (try clear hss); (try clear hsz); (try clear hlo); (try clear hup); (try clear hini); (try clear hbw); (try clear hxn); (try clear hdw); (try clear e1_1); (try clear e1_2); (try clear e3_1); (try clear e3_2); (try clear e4_2); (try clear e5_2); (try clear gt1b); (try clear gt4b); (try clear gt6b); (try clear ut1b); (try clear ut4b); (try clear ut6b); simp only [dcLong]; grind)]; simp)]; simp), hw.fr _ (.head _)⟩
          · refine w_want rfl rfl (bF h8) ?_; refine w_fa fa52_3 rfl ?_; refine w_want rfl rfl (bF h8) ?_
            refine w_load z22 rfl (fun _ h => cel_own 0 rfl rfl h) ?_; refine w_want rfl rfl (bF h8) ?_; refine w_call (fun w => R_call Tryz.func21 rfl rfl rfl) rfl rfl (fun w h => rlong_ok sz xa xc N w (by omega) (by omega) (hsz.now (fun _ _ hh => hh) (.head _) h)) ?_
            refine w_r (v := .bool _) (fun _ => R_pickF (bF h8) rfl) rfl rfl ?_; refine w_move (v := .bool _) rfl ?_
            refine w_split (t := 42) rfl (fun h9 => ?_) (fun h9 => ?_)
            · refine w_skip rfl rfl (bV h9) ?_; refine w_skip rfl rfl (bV h9) ?_; refine w_skip rfl rfl (bV h9) ?_; refine w_r (v := .bool _) (fun _ => R_pickT (bV h9) rfl) rfl rfl ?_
              refine w_move (v := .bool _) rfl ?_; refine w_skip rfl rfl rfl ?_; refine w_skip rfl rfl rfl ?_; refine w_skip rfl rfl rfl ?_; refine w_r (v := .bool _) (fun _ => R_pickT rfl rfl) rfl rfl ?_
              refine w_move (v := .bool _) rfl ?_; refine w_skip rfl rfl rfl ?_; refine w_skip rfl rfl rfl ?_; refine w_skip rfl rfl rfl ?_; refine w_r (v := .bool _) (fun _ => R_pickT rfl rfl) rfl rfl ?_
              refine w_nil ?_; refine k_on ?_; refine c_condT rfl ?_; refine c_seq ?_; refine c_region ?_; refine w_asg (v := .bool _) rfl ?_; refine w_nil ?_; refine k_on ?_; refine c_ret ?_
              refine b_ret (k_ret (k_ret (b_ret (b_ret (k_ret (k_ret (b_ret (k_ret (?_)))))))))
              refine r_one (v := .bool _) rfl rfl rfl ?_
              exact fun w' hw => ⟨by first | (unfold pgSmall pgLong; rw [any_of_take hy (by have := hm.six; omega), decide_eq_true (by omega)]; rfl) | (unfold pgSmall pgLong; rw [any_yes hb (by unfold bkLong; rw [any_yes hxk (by (try clear hm); (try clear hA); (try clear hE); (try clear hw); (try clear hp); (try clear hcb); (try clear hds); (try clear hss); (try clear hsz); (try clear hlo); (try clear hup); (try clear hini); (try clear hbw); (try clear hxn); (try clear hdw); (try clear e1_1); (try clear e1_2); (try clear e3_1); (try clear e3_2); (try clear e4_2); (try clear e5_2); (try clear gt1b); (try clear gt4b); (try clear gt6b); (try clear ut1b); (try clear ut4b); (try clear ut6b); simp only [dcLong]; grind)]; simp)]; simp), hw.fr _ (.head _)⟩
            · refine w_want rfl rfl (bV h9) ?_; refine w_fa fa52_4 rfl ?_; refine w_want rfl rfl (bV h9) ?_; refine w_load z22 rfl (fun _ h => cel_own 0 rfl rfl h) ?_
              refine w_want rfl rfl (bV h9) ?_; refine w_call (fun w => R_call Tryz.func21 rfl rfl rfl) rfl rfl (fun w h => rlong_ok lo la lc N w (by omega) (by omega) (hlo.now (fun _ _ hh => hh) (.head _) h)) ?_
              refine w_r (v := .bool _) (fun _ => R_pickF (bV h9) rfl) rfl rfl ?_; refine w_move (v := .bool _) rfl ?_
              refine w_split (t := 47) rfl (fun h10 => ?_) (fun h10 => ?_)
              · refine w_skip rfl rfl (bV h10) ?_; refine w_skip rfl rfl (bV h10) ?_; refine w_skip rfl rfl (bV h10) ?_; refine w_r (v := .bool _) (fun _ => R_pickT (bV h10) rfl) rfl rfl ?_
                refine w_move (v := .bool _) rfl ?_; refine w_skip rfl rfl rfl ?_; refine w_skip rfl rfl rfl ?_; refine w_skip rfl rfl rfl ?_; refine w_r (v := .bool _) (fun _ => R_pickT rfl rfl) rfl rfl ?_
                refine w_nil ?_; refine k_on ?_; refine c_condT rfl ?_; refine c_seq ?_; refine c_region ?_; refine w_asg (v := .bool _) rfl ?_; refine w_nil ?_; refine k_on ?_; refine c_ret ?_
                refine b_ret (k_ret (k_ret (b_ret (b_ret (k_ret (k_ret (b_ret (k_ret (?_)))))))))
                refine r_one (v := .bool _) rfl rfl rfl ?_
                exact fun w' hw => ⟨by first | (unfold pgSmall pgLong; rw [any_of_take hy (by have := hm.six; omega), decide_eq_true (by omega)]; rfl) | (unfold pgSmall pgLong; rw [any_yes hb (by unfold bkLong; rw [any_yes hxk (by (try clear hm); (try clear hA); (try clear hE); (try clear hw); (try clear hp); (try clear hcb); (try clear hds); (try clear hss); (try clear hsz); (try clear hlo); (try clear hup); (try clear hini); (try clear hbw); (try clear hxn); (try clear hdw); (try clear e1_1); (try clear e1_2); (try clear e3_1); (try clear e3_2); (try clear e4_2); (try clear e5_2); (try clear gt1b); (try clear gt4b); (try clear gt6b); (try clear ut1b); (try clear ut4b); (try clear ut6b); simp only [dcLong]; grind)]; simp)]; simp), hw.fr _ (.head _)⟩
              · refine w_want rfl rfl (bV h10) ?_; refine w_fa fa52_5 rfl ?_; refine w_want rfl rfl (bV h10) ?_; refine w_load z22 rfl (fun _ h => cel_own 0 rfl rfl h) ?_
                refine w_want rfl rfl (bV h10) ?_; refine w_call (fun w => R_call Tryz.func21 rfl rfl rfl) rfl rfl (fun w h => rlong_ok up ua uc N w (by omega) (by omega) (hup.now (fun _ _ hh => hh) (.head _) h)) ?_
                refine w_r (v := .bool _) (fun _ => R_pickF (bV h10) rfl) rfl rfl ?_; refine w_move (v := .bool _) rfl ?_
                refine w_split (t := 52) rfl (fun h11 => ?_) (fun h11 => ?_)
                · refine w_skip rfl rfl (bV h11) ?_; refine w_skip rfl rfl (bV h11) ?_; refine w_skip rfl rfl (bV h11) ?_; refine w_r (v := .bool _) (fun _ => R_pickT (bV h11) rfl) rfl rfl ?_
                  refine w_nil ?_; refine k_on ?_; refine c_condT rfl ?_; refine c_seq ?_; refine c_region ?_; refine w_asg (v := .bool _) rfl ?_; refine w_nil ?_; refine k_on ?_; refine c_ret ?_
                  refine b_ret (k_ret (k_ret (b_ret (b_ret (k_ret (k_ret (b_ret (k_ret (?_)))))))))
                  refine r_one (v := .bool _) rfl rfl rfl ?_
                  exact fun w' hw => ⟨by first | (unfold pgSmall pgLong; rw [any_of_take hy (by have := hm.six; omega), decide_eq_true (by omega)]; rfl) | (unfold pgSmall pgLong; rw [any_yes hb (by unfold bkLong; rw [any_yes hxk (by (try clear hm); (try clear hA); (try clear hE); (try clear hw); (try clear hp); (try clear hcb); (try clear hds); (try clear hss); (try clear hsz); (try clear hlo); (try clear hup); (try clear hini); (try clear hbw); (try clear hxn); (try clear hdw); (try clear e1_1); (try clear e1_2); (try clear e3_1); (try clear e3_2); (try clear e4_2); (try clear e5_2); (try clear gt1b); (try clear gt4b); (try clear gt6b); (try clear ut1b); (try clear ut4b); (try clear ut6b); simp only [dcLong]; grind)]; simp)]; simp), hw.fr _ (.head _)⟩
                · refine w_want rfl rfl (bV h11) ?_; refine w_fa fa52_6 rfl ?_; refine w_want rfl rfl (bV h11) ?_; refine w_load z22 rfl (fun _ h => cel_own 0 rfl rfl h) ?_
                  refine w_want rfl rfl (bV h11) ?_; refine w_call (fun w => R_call Tryz.func21 rfl rfl rfl) rfl rfl (fun w h => rlong_ok ini ia ic N w (by omega) (by omega) (hini.now (fun _ _ hh => hh) (.head _) h)) ?_
                  refine w_r (v := .bool _) (fun _ => R_pickF (bV h11) rfl) rfl rfl ?_; refine w_nil ?_; refine k_on ?_
                  refine c_cond rfl (fun h12 => ?_) (fun h12 => ?_)
                  · refine c_seq ?_; refine c_region ?_; refine w_asg (v := .bool _) rfl ?_; refine w_nil ?_; refine k_on ?_; refine c_ret ?_; refine b_ret (k_ret (k_ret (b_ret (b_ret (k_ret (k_ret (b_ret (k_ret (?_)))))))))
                    refine r_one (v := .bool _) rfl rfl rfl ?_
                    exact fun w' hw => ⟨by first | (unfold pgSmall pgLong; rw [any_of_take hy (by have := hm.six; omega), decide_eq_true (by omega)]; rfl) | (unfold pgSmall pgLong; rw [any_yes hb (by unfold bkLong; rw [any_yes hxk (by (try clear hm); (try clear hA); (try clear hE); (try clear hw); (try clear hp); (try clear hcb); (try clear hds); (try clear hss); (try clear hsz); (try clear hlo); (try clear hup); (try clear hini); (try clear hbw); (try clear hxn); (try clear hdw); (try clear e1_1); (try clear e1_2); (try clear e3_1); (try clear e3_2); (try clear e4_2); (try clear e5_2); (try clear gt1b); (try clear gt4b); (try clear gt6b); (try clear ut1b); (try clear ut4b); (try clear ut6b); simp only [dcLong]; grind)]; simp)]; simp), hw.fr _ (.head _)⟩
                  · refine c_skip ?_; refine b_on (k_on ?_); refine c_region ?_; refine w_move (v := .int _ _) e5_2 ?_; refine w_r (fun _ => R_addi rfl rfl (by omega)) rfl rfl ?_; refine w_asg (v := .int _ _) rfl ?_
                    refine w_nil ?_
                    refine k_st (B' := [(w, No)]) (L' := _) (fun w h => h.drop (List.sublist_cons_self _ _)) ?_
                    exact k_again _ (by omega) ⟨k + 1, e1_2, e3_2, e4_2, rfl, rfl, rfl, by omega, take_all hz hxk (by (try clear hm); (try clear hA); (try clear hE); (try clear hw); (try clear hp); (try clear hcb); (try clear hds); (try clear hss); (try clear hsz); (try clear hlo); (try clear hup); (try clear hini); (try clear hbw); (try clear hxn); (try clear hdw); (try clear e1_1); (try clear e1_2); (try clear e3_1); (try clear e3_2); (try clear e4_2); (try clear e5_2); (try clear gt1b); (try clear gt4b); (try clear gt6b); (try clear ut1b); (try clear ut4b); (try clear ut6b); simp only [dcLong]; grind), rfl⟩
        · refine c_exit ?_; refine k_exit (k_exit (b_here rfl (b_on (k_on ?_)))); refine c_region ?_; refine w_move (v := .int _ _) e3_2 ?_; refine w_r (fun _ => R_addi rfl rfl (by omega)) rfl rfl ?_
          refine w_asg (v := .int _ _) rfl ?_; refine w_nil ?_
          refine k_st (B' := [(w, No)]) (L' := [(t1b, cel cs 40)]) (fun w h => h.drop (List.sublist_cons_self _ _)) ?_
          exact k_again _ (by omega) ⟨i + 1, e1_2, rfl, rfl, rfl, by omega, take_all hy hb (by unfold bkLong; rw [h5, any_of_take hz (by omega)]; rfl), rfl⟩
    · refine c_exit ?_; refine k_exit (k_exit (b_here rfl (k_on ?_))); refine c_seq ?_; refine c_region ?_; refine w_asg (v := .bool _) rfl ?_; refine w_nil ?_; refine k_on ?_
      refine c_ret ?_
      refine r_one (v := .bool _) rfl rfl rfl ?_
      exact fun w' hw => ⟨by first | (unfold pgSmall pgLong; rw [any_of_take hy (by have := hm.six; omega), decide_eq_true (by omega)]; rfl) | (unfold pgSmall pgLong; rw [any_yes hb (by unfold bkLong; rw [any_yes hxk (by (try clear hm); (try clear hA); (try clear hE); (try clear hw); (try clear hp); (try clear hcb); (try clear hds); (try clear hss); (try clear hsz); (try clear hlo); (try clear hup); (try clear hini); (try clear hbw); (try clear hxn); (try clear hdw); (try clear e1_1); (try clear e1_2); (try clear e3_1); (try clear e3_2); (try clear e4_2); (try clear e5_2); (try clear gt1b); (try clear gt4b); (try clear gt6b); (try clear ut1b); (try clear ut4b); (try clear ut6b); simp only [dcLong]; grind)]; simp)]; simp), hw.fr _ (.head _)⟩
end Go.Proofs.YtcmcdgkjipnfnaaGreatDoor
end
