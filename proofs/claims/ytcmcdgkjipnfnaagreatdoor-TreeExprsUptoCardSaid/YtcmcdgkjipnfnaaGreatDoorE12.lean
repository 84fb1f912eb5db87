/- For every two expressions, of a bulk of at most 1048576, the law TreeExprs holds of the given program. Part 12 of 15. -/
import Derived.Test.YtcmcdgkjipnfnaaGreatDoorE02
import Derived.Test.YtcmcdgkjipnfnaaGreatDoorE11
section
namespace Go.Proofs.YtcmcdgkjipnfnaaGreatDoor
open Go.RowKit Go.Sx
open Go.Tok Go.Tree


def SameH (f : FuncId) (n : Nat) : Prop := ∀ (x z : Ex) (cs ds : List Value) (N : Nat → Prop) (w : World), exW x < n → exM w N x cs → exM w N z ds → Ret Tryz.prog f #[.agg cs.toArray, .agg ds.toArray] w fun v w' => v = .bool (exSame x z) ∧ Ext w w'

set_option maxRecDepth 100000 in
set_option maxHeartbeats 1000000 in
theorem eqE_spec (n : Nat) (ih : SameH 10 n) (l r : List Ex) (a b : Option Addr) (c d : Nat) (N : Nat → Prop) (w : World) (hl : ∀ x ∈ l, exW x < n) (hll : l.length ≤ 10000000) (hm : exsM w N l a 0) (hm2 : exsM w N r b 0) :
    Ret Tryz.prog 31 #[.slice a l.length c, .slice b r.length d, .func (.func 10) #[] #[]] w (fun v w' => v = .bool (pairOk exSame l r) ∧ Ext w w') := by
  refine enter (S := No) (l := [_, _, _]) (L := []) 32 Tryz.func31 rfl rfl rfl (St.start w No) ?_
  refine c_seq ?_; refine c_region ?_; refine w_asg (v := .bool _) rfl ?_; refine w_nil ?_; refine k_on ?_; refine c_seq ?_; refine c_seq ?_; refine c_region ?_; refine w_move (v := .slice _ _ _) rfl ?_
  refine w_r (fun _ => R_len sl22 rfl) rfl rfl ?_; refine w_move (v := .slice _ _ _) rfl ?_; refine w_r (fun _ => R_len sl22 rfl) rfl rfl ?_; refine w_r (fun _ => R_ne rfl rfl) rfl rfl ?_
  refine w_nil ?_; refine k_on ?_
  refine c_condD rfl (fun h1 => ?_) (fun h1 => ?_)
  · refine c_seq ?_; refine c_region ?_; refine w_asg (v := .bool _) rfl ?_; refine w_nil ?_; refine k_on ?_; refine c_ret ?_; refine k_ret (?_)
    refine r_one (v := .bool _) rfl rfl rfl ?_
    exact fun w' hw => ⟨by rw [pairOk_len (by omega)], hw.fr _ (.head _)⟩
  · have hlen : l.length = r.length := (by omega)
    refine c_skip ?_; refine k_on ?_; refine c_seq ?_; refine c_seq ?_; refine c_region ?_; refine w_move (v := .slice _ _ _) rfl ?_; refine w_r (fun _ => R_len sl22 rfl) rfl rfl ?_
    refine w_move (v := .int _ _) rfl ?_; refine w_nil ?_; refine k_on ?_; refine c_block ?_
    refine c_loop (fun m e B L => ∃ (k : Nat), e 1 = .slice b r.length d ∧ e 2 = .func (.func 10) #[] #[] ∧ e 15 = .slice a l.length c ∧ e 16 = .int .i64 (l.length : Nat) ∧ e 17 = .int .i64 (k : Nat) ∧ B = [(w, No)] ∧ L = [] ∧ k ≤ l.length ∧ (∀ p ∈ (l.zip r).take k, (!exSame p.1 p.2) = false) ∧ m = l.length - k) _ ⟨0, rfl, rfl, rfl, rfl, rfl, rfl, rfl, Nat.zero_le _, (by simp), rfl⟩ ?_
    rintro m e B L ⟨k, e1_1, e2_1, e15_1, e16_1, e17_1, rfl, rfl, hk, hy, rfl⟩
    refine c_seq ?_; refine c_region ?_; refine w_r (fun _ => R_lt e17_1 e16_1) rfl rfl ?_; refine w_nil ?_; refine k_on ?_; refine c_seq ?_
    refine c_condD rfl (fun h2 => ?_) (fun h2 => ?_)
    · have hlt : k < l.length := (by omega); obtain ⟨x, hxk⟩ : ∃ x, l[k]? = some x := ⟨_, List.getElem?_eq_getElem hlt⟩; obtain ⟨z, hzk⟩ : ∃ z, r[k]? = some z := ⟨_, List.getElem?_eq_getElem (by omega)⟩; obtain ⟨cs, hA, hE⟩ := hm.get0 hxk; obtain ⟨ds, hA2, hE2⟩ := hm2.get0 hzk; have hxn := hl x (List.mem_of_getElem? hxk); obtain ⟨b1, o1, rfl⟩ := hA.ptr; obtain ⟨b2, o2, rfl⟩ := hA2.ptr; have hxe := hxk; have hze := hzk; have hEx := hE; have hEz := hE2; obtain ⟨op, at_, nm, ks⟩ := x; obtain ⟨op2, at2, nm2, ks2⟩ := z; unfold exM at hEx hEz; obtain ⟨ka, kc, rfl, hkc, hks⟩ := hEx; obtain ⟨ka2, kc2, rfl, hkc2, hks2⟩ := hEz
      refine c_skip ?_; refine k_on ?_; refine c_seq ?_; refine c_block ?_; refine c_seq ?_; refine c_region ?_; refine w_move (v := .int _ _) e17_1 ?_; refine w_r (fun _ => R_iaN (i := k) sl22 e15_1 e17_1 (by first | omega | decide)) rfl rfl ?_
      refine w_loadC (l := [.int .u8 (op : Nat), .int .i64 at_, str nm, .slice ka ks.length kc]) z24 rfl rfl (fun w h j v hj => hA.cell (fun _ _ hh => hh) (.head _) h j v hj) ?_
      refine w_alloc zr24 (fun t8b gt8b ut8b => ?_)
      refine w_asg (v := .int _ _) rfl ?_; refine w_store 0 rfl z24 rfl rfl rfl rfl rfl rfl rfl ?_; refine w_nil ?_; refine k_on ?_; refine c_seq ?_; refine c_region ?_
      refine w_move (v := .slice _ _ _) e1_1 ?_; refine w_move (v := .int _ _) rfl ?_; refine w_r (fun _ => R_iaN (i := k) sl22 rfl rfl (by first | omega | decide)) rfl rfl ?_
      refine w_loadC (l := [.int .u8 (op2 : Nat), .int .i64 at2, str nm2, .slice ka2 ks2.length kc2]) z24 rfl rfl (fun w h j v hj => hA2.cell (fun _ _ hh => hh) (.head _) h j v hj) ?_
      refine w_alloc zr24 (fun t9b gt9b ut9b => ?_)
      refine w_store 0 rfl z24 rfl rfl rfl rfl rfl rfl rfl ?_; refine w_nil ?_; refine k_on ?_; refine c_seq ?_; refine c_region ?_; refine w_move e2_1 ?_; refine w_loadA z24 rfl (fun _ h => h.at_ 1 rfl) rfl ?_
      refine w_loadA z24 rfl (fun _ h => h.at_ 0 rfl) rfl ?_; refine w_call (fun w => R_callv rfl Tryz.func10 rfl rfl) rfl rfl (fun w h => ih _ _ _ _ N w hxn (hE.now (fun _ _ hh => hh) (.head _) h) (hE2.now (fun _ _ hh => hh) (.head _) h)) ?_
      refine w_r (fun _ => R_not rfl) rfl rfl ?_; refine w_nil ?_; refine k_on ?_
      refine c_condN rfl (fun h5 => ?_) (fun h5 => ?_)
      · refine c_seq ?_; refine c_region ?_; refine w_asg (v := .bool _) rfl ?_; refine w_nil ?_; refine k_on ?_; refine c_ret ?_; refine b_ret (k_ret (k_ret (b_ret (k_ret (?_)))))
        refine r_one (v := .bool _) rfl rfl rfl ?_
        exact fun w' hw => ⟨by first | (rw [pairOk_no hxk hzk h5]; done) | (rw [pairOk_yes hlen hy (by omega)]; done), hw.fr _ (.head _)⟩
      · refine c_skip ?_; refine b_on (k_on ?_); refine c_region ?_; refine w_r (fun _ => R_addi e17_1 rfl (by omega)) rfl rfl ?_; refine w_move (v := .int _ _) rfl ?_
        refine w_nil ?_
        refine k_st (B' := [(w, No)]) (L' := []) (fun w h => h.drop (List.nil_sublist _)) ?_
        exact k_again _ (by omega) ⟨k + 1, e1_1, e2_1, e15_1, e16_1, rfl, rfl, rfl, by omega, pair_next hy hxk hzk h5, rfl⟩
    · refine c_exit ?_; refine k_exit (k_exit (b_here rfl (k_on ?_))); refine c_seq ?_; refine c_region ?_; refine w_asg (v := .bool _) rfl ?_; refine w_nil ?_; refine k_on ?_
      refine c_ret ?_
      refine r_one (v := .bool _) rfl rfl rfl ?_
      exact fun w' hw => ⟨by first | (rw [pairOk_no hxk hzk h5]; done) | (rw [pairOk_yes hlen hy (by omega)]; done), hw.fr _ (.head _)⟩

set_option maxRecDepth 100000 in
set_option maxHeartbeats 1000000 in
theorem same_step (n : Nat) (ih : SameH 10 n) (hN : n ≤ 10000000) (x z : Ex) (cs ds : List Value) (N : Nat → Prop) (w : World) (hx : exW x < n + 1) (hm : exM w N x cs) (hm2 : exM w N z ds) :
    Ret Tryz.prog 10 #[.agg cs.toArray, .agg ds.toArray] w (fun v w' => v = .bool (exSame x z) ∧ Ext w w') := by
  obtain ⟨op, at_, nm, ks⟩ := x
  have hmx := hm
  unfold exM at hmx
  obtain ⟨ka, kc, rfl, hkc, hks⟩ := hmx
  obtain ⟨op2, at2, nm2, ks2⟩ := z
  have hmz := hm2
  unfold exM at hmz
  obtain ⟨ka2, kc2, rfl, hkc2, hks2⟩ := hmz
  have hx2 := hx
  unfold exW at hx2
  refine enter (S := No) (l := [_, _]) (L := []) 24 Tryz.func10 rfl rfl rfl (St.start w No) ?_
  refine c_seq ?_; refine c_region ?_
  refine w_boxA rfl (fun t2b gt2b ut2b => ?_)
  refine w_boxA rfl (fun t3b gt3b ut3b => ?_)
  refine w_asg (v := .bool _) rfl ?_; refine w_nil ?_; refine k_on ?_; refine c_seq ?_; refine c_region ?_; refine w_fa fa24_0 rfl ?_; refine w_load z5 rfl (fun _ h => cel_own 1 rfl rfl h) ?_
  refine w_fa fa24_0 rfl ?_; refine w_load z5 rfl (fun _ h => cel_own 0 rfl rfl h) ?_; refine w_r (fun _ => R_eq rfl rfl) rfl rfl ?_; refine w_move (v := .bool _) rfl ?_
  refine w_splitD (t := 10) rfl (fun h3 => ?_) (fun h3 => ?_)
  · have hop : op = op2 := (by omega)
    refine w_want rfl rfl (bT h3) ?_; refine w_fa fa24_2 rfl ?_; refine w_want rfl rfl (bT h3) ?_
    refine w_load z9 rfl (fun _ h => cel_own 1 rfl rfl h) ?_; refine w_want rfl rfl (bT h3) ?_; refine w_fa fa24_2 rfl ?_; refine w_want rfl rfl (bT h3) ?_
    refine w_load z9 rfl (fun _ h => cel_own 0 rfl rfl h) ?_; refine w_want rfl rfl (bT h3) ?_; refine w_r (fun _ => R_seq rfl rfl) rfl rfl ?_
    refine w_r (v := .bool _) (fun _ => R_pickT (bT h3) rfl) rfl rfl ?_; refine w_move (v := .bool _) rfl ?_
    refine w_splitD (t := 17) rfl (fun h4 => ?_) (fun h4 => ?_)
    · refine w_want rfl rfl (bT h4) ?_; refine w_fa fa24_3 rfl ?_; refine w_want rfl rfl (bT h4) ?_
      refine w_load z22 rfl (fun _ h => cel_own 1 rfl rfl h) ?_; refine w_want rfl rfl (bT h4) ?_; refine w_fa fa24_3 rfl ?_; refine w_want rfl rfl (bT h4) ?_
      refine w_load z22 rfl (fun _ h => cel_own 0 rfl rfl h) ?_; refine w_want rfl rfl (bT h4) ?_; refine w_call (fun w => R_call Tryz.func31 rfl rfl rfl) rfl rfl (fun w h => eqE_spec n ih ks ks2 ka ka2 kc kc2 N w (fun x hx => by have := exsW_mem hx; omega) (by omega) (hks.now (fun _ _ hh => hh) (.head _) h) (hks2.now (fun _ _ hh => hh) (.head _) h)) ?_
      refine w_r (v := .bool _) (fun _ => R_pickT (bT h4) rfl) rfl rfl ?_; refine w_asg (v := .bool _) rfl ?_; refine w_nil ?_; refine k_on ?_
      refine c_ret ?_
      refine r_one (v := .bool _) rfl rfl rfl ?_
      exact fun w' hw => ⟨by (try clear hm); (try clear hm2); (try clear hmx); (try clear hmz); (try clear hks); (try clear hks2); (try clear hw); (try clear ih); (try clear hx); (try clear hx2); (try clear gt2b); (try clear gt3b); (try clear ut2b); (try clear ut3b); simp only [exSame, exsSame_eq, Ex.op, Ex.nm, Ex.kids]; simp_all, hw.fr _ (.head _)⟩
    · refine w_skip rfl rfl (bF h4) ?_; refine w_skip rfl rfl (bF h4) ?_; refine w_skip rfl rfl (bF h4) ?_
      refine w_skip rfl rfl (bF h4) ?_; refine w_skip rfl rfl (bF h4) ?_; refine w_r (v := .bool _) (fun _ => R_pickF (bF h4) rfl) rfl rfl ?_
      refine w_asg (v := .bool _) rfl ?_; refine w_nil ?_; refine k_on ?_; refine c_ret ?_
      refine r_one (v := .bool _) rfl rfl rfl ?_
      exact fun w' hw => ⟨by (try clear hm); (try clear hm2); (try clear hmx); (try clear hmz); (try clear hks); (try clear hks2); (try clear hw); (try clear ih); (try clear hx); (try clear hx2); (try clear gt2b); (try clear gt3b); (try clear ut2b); (try clear ut3b); simp only [exSame, exsSame_eq, Ex.op, Ex.nm, Ex.kids]; simp_all, hw.fr _ (.head _)⟩
  · have hop : ¬ op = op2 := (by omega)
    refine w_skip rfl rfl (bF h3) ?_; refine w_skip rfl rfl (bF h3) ?_; refine w_skip rfl rfl (bF h3) ?_
    refine w_skip rfl rfl (bF h3) ?_; refine w_skip rfl rfl (bF h3) ?_; refine w_r (v := .bool _) (fun _ => R_pickF (bF h3) rfl) rfl rfl ?_
    refine w_move (v := .bool _) rfl ?_; refine w_skip rfl rfl rfl ?_; refine w_skip rfl rfl rfl ?_; refine w_skip rfl rfl rfl ?_; refine w_skip rfl rfl rfl ?_; refine w_skip rfl rfl rfl ?_
    refine w_r (v := .bool _) (fun _ => R_pickF rfl rfl) rfl rfl ?_; refine w_asg (v := .bool _) rfl ?_; refine w_nil ?_; refine k_on ?_; refine c_ret ?_
    refine r_one (v := .bool _) rfl rfl rfl ?_
    exact fun w' hw => ⟨by (try clear hm); (try clear hm2); (try clear hmx); (try clear hmz); (try clear hks); (try clear hks2); (try clear hw); (try clear ih); (try clear hx); (try clear hx2); (try clear gt2b); (try clear gt3b); (try clear ut2b); (try clear ut3b); simp only [exSame, exsSame_eq, Ex.op, Ex.nm, Ex.kids]; simp_all, hw.fr _ (.head _)⟩


theorem same_all : ∀ n : Nat, n ≤ 10000000 → SameH 10 n
  | 0, _ => fun _ _ _ _ _ _ h => absurd h (Nat.not_lt_zero _)
  | n + 1, h => same_step n (same_all n (by omega)) (by omega)
theorem same_ok : SameH 10 10000000 := same_all _ (Nat.le_refl _)


def SameS (n : Nat) : Prop := ∀ (x z : Sm) (cs ds : List Value) (N : Nat → Prop) (w : World), smW x < n → smM w N x cs → smM w N z ds → Ret Tryz.prog 45 #[.agg cs.toArray, .agg ds.toArray] w fun v w' => v = .bool (smSame x z) ∧ Ext w w'

set_option maxRecDepth 100000 in
set_option maxHeartbeats 1000000 in
theorem eqS_spec (n : Nat) (ih : SameS n) (l r : List Sm) (a b : Option Addr) (c d : Nat) (N : Nat → Prop) (w : World) (hl : ∀ x ∈ l, smW x < n) (hll : l.length ≤ 10000000) (hm : smsM w N l a 0) (hm2 : smsM w N r b 0) :
    Ret Tryz.prog 44 #[.slice a l.length c, .slice b r.length d, .func (.func 45) #[] #[]] w (fun v w' => v = .bool (pairOk smSame l r) ∧ Ext w w') := by
  refine enter (S := No) (l := [_, _, _]) (L := []) 32 Tryz.func44 rfl rfl rfl (St.start w No) ?_
  refine c_seq ?_; refine c_region ?_; refine w_asg (v := .bool _) rfl ?_; refine w_nil ?_; refine k_on ?_; refine c_seq ?_; refine c_seq ?_; refine c_region ?_; refine w_move (v := .slice _ _ _) rfl ?_
  refine w_r (fun _ => R_len sl35 rfl) rfl rfl ?_; refine w_move (v := .slice _ _ _) rfl ?_; refine w_r (fun _ => R_len sl35 rfl) rfl rfl ?_; refine w_r (fun _ => R_ne rfl rfl) rfl rfl ?_
  refine w_nil ?_; refine k_on ?_
  refine c_condD rfl (fun h1 => ?_) (fun h1 => ?_)
  · refine c_seq ?_; refine c_region ?_; refine w_asg (v := .bool _) rfl ?_; refine w_nil ?_; refine k_on ?_; refine c_ret ?_; refine k_ret (?_)
    refine r_one (v := .bool _) rfl rfl rfl ?_
    exact fun w' hw => ⟨by rw [pairOk_len (by omega)], hw.fr _ (.head _)⟩
  · have hlen : l.length = r.length := (by omega)
    refine c_skip ?_; refine k_on ?_; refine c_seq ?_; refine c_seq ?_; refine c_region ?_; refine w_move (v := .slice _ _ _) rfl ?_; refine w_r (fun _ => R_len sl35 rfl) rfl rfl ?_
    refine w_move (v := .int _ _) rfl ?_; refine w_nil ?_; refine k_on ?_; refine c_block ?_
    refine c_loop (fun m e B L => ∃ (k : Nat), e 1 = .slice b r.length d ∧ e 2 = .func (.func 45) #[] #[] ∧ e 15 = .slice a l.length c ∧ e 16 = .int .i64 (l.length : Nat) ∧ e 17 = .int .i64 (k : Nat) ∧ B = [(w, No)] ∧ L = [] ∧ k ≤ l.length ∧ (∀ p ∈ (l.zip r).take k, (!smSame p.1 p.2) = false) ∧ m = l.length - k) _ ⟨0, rfl, rfl, rfl, rfl, rfl, rfl, rfl, Nat.zero_le _, (by simp), rfl⟩ ?_
    rintro m e B L ⟨k, e1_1, e2_1, e15_1, e16_1, e17_1, rfl, rfl, hk, hy, rfl⟩
    refine c_seq ?_; refine c_region ?_; refine w_r (fun _ => R_lt e17_1 e16_1) rfl rfl ?_; refine w_nil ?_; refine k_on ?_; refine c_seq ?_
    refine c_condD rfl (fun h2 => ?_) (fun h2 => ?_)
    · have hlt : k < l.length := (by omega); obtain ⟨x, hxk⟩ : ∃ x, l[k]? = some x := ⟨_, List.getElem?_eq_getElem hlt⟩; obtain ⟨z, hzk⟩ : ∃ z, r[k]? = some z := ⟨_, List.getElem?_eq_getElem (by omega)⟩; obtain ⟨cs, hA, hE⟩ := hm.get0 hxk; obtain ⟨ds, hA2, hE2⟩ := hm2.get0 hzk; have hxn := hl x (List.mem_of_getElem? hxk); obtain ⟨b1, o1, rfl⟩ := hA.ptr; obtain ⟨b2, o2, rfl⟩ := hA2.ptr; have hxe := hxk; have hze := hzk; have hEx := hE; have hEz := hE2; obtain ⟨op, at_, nm, ks, bo, el⟩ := x; obtain ⟨op2, at2, nm2, ks2, bo2, el2⟩ := z; unfold smM at hEx hEz; obtain ⟨ka, kc, ba, bc, ea, ec, rfl, hkc, hks, hbo, hel⟩ := hEx; obtain ⟨ka2, kc2, ba2, bc2, ea2, ec2, rfl, hkc2, hks2, hbo2, hel2⟩ := hEz
      refine c_skip ?_; refine k_on ?_; refine c_seq ?_; refine c_block ?_; refine c_seq ?_; refine c_region ?_; refine w_move (v := .int _ _) e17_1 ?_; refine w_r (fun _ => R_iaN (i := k) sl35 e15_1 e17_1 (by first | omega | decide)) rfl rfl ?_
      refine w_loadC (l := [.int .u8 (op : Nat), .int .i64 at_, str nm, .slice ka ks.length kc, .slice ba bo.length bc, .slice ea el.length ec]) z70 rfl rfl (fun w h j v hj => hA.cell (fun _ _ hh => hh) (.head _) h j v hj) ?_
      refine w_alloc zr70 (fun t8b gt8b ut8b => ?_)
      refine w_asg (v := .int _ _) rfl ?_; refine w_store 0 rfl z70 rfl rfl rfl rfl rfl rfl rfl ?_; refine w_nil ?_; refine k_on ?_; refine c_seq ?_; refine c_region ?_
      refine w_move (v := .slice _ _ _) e1_1 ?_; refine w_move (v := .int _ _) rfl ?_; refine w_r (fun _ => R_iaN (i := k) sl35 rfl rfl (by first | omega | decide)) rfl rfl ?_
      refine w_loadC (l := [.int .u8 (op2 : Nat), .int .i64 at2, str nm2, .slice ka2 ks2.length kc2, .slice ba2 bo2.length bc2, .slice ea2 el2.length ec2]) z70 rfl rfl (fun w h j v hj => hA2.cell (fun _ _ hh => hh) (.head _) h j v hj) ?_
      refine w_alloc zr70 (fun t9b gt9b ut9b => ?_)
      refine w_store 0 rfl z70 rfl rfl rfl rfl rfl rfl rfl ?_; refine w_nil ?_; refine k_on ?_; refine c_seq ?_; refine c_region ?_; refine w_move e2_1 ?_; refine w_loadA z70 rfl (fun _ h => h.at_ 1 rfl) rfl ?_
      refine w_loadA z70 rfl (fun _ h => h.at_ 0 rfl) rfl ?_; refine w_call (fun w => R_callv rfl Tryz.func45 rfl rfl) rfl rfl (fun w h => ih _ _ _ _ N w hxn (hE.now (fun _ _ hh => hh) (.head _) h) (hE2.now (fun _ _ hh => hh) (.head _) h)) ?_
      refine w_r (fun _ => R_not rfl) rfl rfl ?_; refine w_nil ?_; refine k_on ?_
      refine c_condN rfl (fun h5 => ?_) (fun h5 => ?_)
      · refine c_seq ?_; refine c_region ?_; refine w_asg (v := .bool _) rfl ?_; refine w_nil ?_; refine k_on ?_; refine c_ret ?_; refine b_ret (k_ret (k_ret (b_ret (k_ret (?_)))))
        refine r_one (v := .bool _) rfl rfl rfl ?_
        exact fun w' hw => ⟨by first | (rw [pairOk_no hxk hzk h5]; done) | (rw [pairOk_yes hlen hy (by omega)]; done), hw.fr _ (.head _)⟩
      · refine c_skip ?_; refine b_on (k_on ?_); refine c_region ?_; refine w_r (fun _ => R_addi e17_1 rfl (by omega)) rfl rfl ?_; refine w_move (v := .int _ _) rfl ?_
        refine w_nil ?_
        refine k_st (B' := [(w, No)]) (L' := []) (fun w h => h.drop (List.nil_sublist _)) ?_
        exact k_again _ (by omega) ⟨k + 1, e1_1, e2_1, e15_1, e16_1, rfl, rfl, rfl, by omega, pair_next hy hxk hzk h5, rfl⟩
    · refine c_exit ?_; refine k_exit (k_exit (b_here rfl (k_on ?_))); refine c_seq ?_; refine c_region ?_; refine w_asg (v := .bool _) rfl ?_; refine w_nil ?_; refine k_on ?_
      refine c_ret ?_
      refine r_one (v := .bool _) rfl rfl rfl ?_
      exact fun w' hw => ⟨by first | (rw [pairOk_no hxk hzk h5]; done) | (rw [pairOk_yes hlen hy (by omega)]; done), hw.fr _ (.head _)⟩

set_option maxRecDepth 100000 in
set_option maxHeartbeats 1000000 in
theorem sameS_step (n : Nat) (ih : SameS n) (hN : n ≤ 10000000) (x z : Sm) (cs ds : List Value) (N : Nat → Prop) (w : World) (hx : smW x < n + 1) (hm : smM w N x cs) (hm2 : smM w N z ds) :
    Ret Tryz.prog 45 #[.agg cs.toArray, .agg ds.toArray] w (fun v w' => v = .bool (smSame x z) ∧ Ext w w') := by
  have hEx := hm; have hEz := hm2; obtain ⟨op, at_, nm, ks, bo, el⟩ := x; obtain ⟨op2, at2, nm2, ks2, bo2, el2⟩ := z; unfold smM at hEx hEz; obtain ⟨ka, kc, ba, bc, ea, ec, rfl, hkc, hks, hbo, hel⟩ := hEx; obtain ⟨ka2, kc2, ba2, bc2, ea2, ec2, rfl, hkc2, hks2, hbo2, hel2⟩ := hEz
  have hx2 := hx
  unfold smW at hx2
  refine enter (S := No) (l := [_, _]) (L := []) 38 Tryz.func45 rfl rfl rfl (St.start w No) ?_
  refine c_seq ?_; refine c_region ?_
  refine w_boxA rfl (fun t2b gt2b ut2b => ?_)
  refine w_boxA rfl (fun t3b gt3b ut3b => ?_)
  refine w_asg (v := .bool _) rfl ?_; refine w_nil ?_; refine k_on ?_; refine c_seq ?_; refine c_region ?_; refine w_fa fa70_0 rfl ?_; refine w_load z5 rfl (fun _ h => cel_own 1 rfl rfl h) ?_
  refine w_fa fa70_0 rfl ?_; refine w_load z5 rfl (fun _ h => cel_own 0 rfl rfl h) ?_; refine w_r (fun _ => R_eq rfl rfl) rfl rfl ?_; refine w_move (v := .bool _) rfl ?_
  refine w_splitD (t := 10) rfl (fun h3 => ?_) (fun h3 => ?_)
  · have hop : op = op2 := (by omega)
    refine w_want rfl rfl (bT h3) ?_; refine w_fa fa70_2 rfl ?_; refine w_want rfl rfl (bT h3) ?_
    refine w_load z9 rfl (fun _ h => cel_own 1 rfl rfl h) ?_; refine w_want rfl rfl (bT h3) ?_; refine w_fa fa70_2 rfl ?_; refine w_want rfl rfl (bT h3) ?_
    refine w_load z9 rfl (fun _ h => cel_own 0 rfl rfl h) ?_; refine w_want rfl rfl (bT h3) ?_; refine w_r (fun _ => R_seq rfl rfl) rfl rfl ?_
    refine w_r (v := .bool _) (fun _ => R_pickT (bT h3) rfl) rfl rfl ?_; refine w_move (v := .bool _) rfl ?_
    refine w_splitD (t := 17) rfl (fun h4 => ?_) (fun h4 => ?_)
    · refine w_want rfl rfl (bT h4) ?_; refine w_fa fa70_3 rfl ?_; refine w_want rfl rfl (bT h4) ?_
      refine w_load z22 rfl (fun _ h => cel_own 1 rfl rfl h) ?_; refine w_want rfl rfl (bT h4) ?_; refine w_fa fa70_3 rfl ?_; refine w_want rfl rfl (bT h4) ?_
      refine w_load z22 rfl (fun _ h => cel_own 0 rfl rfl h) ?_; refine w_want rfl rfl (bT h4) ?_; refine w_call (fun w => R_call Tryz.func31 rfl rfl rfl) rfl rfl (fun w h => eqE_spec _ same_ok ks ks2 ka ka2 kc kc2 N w (fun x hx => by have := exsW_mem hx; omega) (by omega) (hks.now (fun _ _ hh => hh) (.head _) h) (hks2.now (fun _ _ hh => hh) (.head _) h)) ?_
      refine w_r (v := .bool _) (fun _ => R_pickT (bT h4) rfl) rfl rfl ?_; refine w_move (v := .bool _) rfl ?_
      refine w_split (t := 24) rfl (fun h5 => ?_) (fun h5 => ?_)
      · refine w_want rfl rfl (bV h5) ?_; refine w_fa fa70_4 rfl ?_; refine w_want rfl rfl (bV h5) ?_; refine w_load z35 rfl (fun _ h => cel_own 1 rfl rfl h) ?_
        refine w_want rfl rfl (bV h5) ?_; refine w_fa fa70_4 rfl ?_; refine w_want rfl rfl (bV h5) ?_; refine w_load z35 rfl (fun _ h => cel_own 0 rfl rfl h) ?_
        refine w_want rfl rfl (bV h5) ?_; refine w_call (fun w => R_call Tryz.func44 rfl rfl rfl) rfl rfl (fun w h => eqS_spec n ih bo bo2 ba ba2 bc bc2 N w (fun x hx => by have := smsW_mem hx; omega) (by omega) (hbo.now (fun _ _ hh => hh) (.head _) h) (hbo2.now (fun _ _ hh => hh) (.head _) h)) ?_
        refine w_r (v := .bool _) (fun _ => R_pickT (bV h5) rfl) rfl rfl ?_; refine w_move (v := .bool _) rfl ?_
        refine w_split (t := 31) rfl (fun h6 => ?_) (fun h6 => ?_)
        · refine w_want rfl rfl (bV h6) ?_; refine w_fa fa70_5 rfl ?_; refine w_want rfl rfl (bV h6) ?_; refine w_load z35 rfl (fun _ h => cel_own 1 rfl rfl h) ?_
          refine w_want rfl rfl (bV h6) ?_; refine w_fa fa70_5 rfl ?_; refine w_want rfl rfl (bV h6) ?_; refine w_load z35 rfl (fun _ h => cel_own 0 rfl rfl h) ?_
          refine w_want rfl rfl (bV h6) ?_; refine w_call (fun w => R_call Tryz.func44 rfl rfl rfl) rfl rfl (fun w h => eqS_spec n ih el el2 ea ea2 ec ec2 N w (fun x hx => by have := smsW_mem hx; omega) (by omega) (hel.now (fun _ _ hh => hh) (.head _) h) (hel2.now (fun _ _ hh => hh) (.head _) h)) ?_
          refine w_r (v := .bool _) (fun _ => R_pickT (bV h6) rfl) rfl rfl ?_; refine w_asg (v := .bool _) rfl ?_; refine w_nil ?_; refine k_on ?_; refine c_ret ?_
          refine r_one (v := .bool _) rfl rfl rfl ?_
          exact fun w' hw => ⟨by (try clear hm); (try clear hm2); (try clear hEx); (try clear hEz); (try clear hks); (try clear hks2); (try clear hbo); (try clear hbo2); (try clear hel); (try clear hel2); (try clear hw); (try clear ih); (try clear hx); (try clear hx2); (try clear gt2b); (try clear gt3b); (try clear ut2b); (try clear ut3b); simp only [smSame, exsSame_eq, smsSame_eq, Sm.op, Sm.nm, Sm.kids, Sm.body, Sm.els]; simp_all, hw.fr _ (.head _)⟩
        · refine w_skip rfl rfl (bV h6) ?_; refine w_skip rfl rfl (bV h6) ?_; refine w_skip rfl rfl (bV h6) ?_; refine w_skip rfl rfl (bV h6) ?_
          refine w_skip rfl rfl (bV h6) ?_; refine w_r (v := .bool _) (fun _ => R_pickF (bV h6) rfl) rfl rfl ?_; refine w_asg (v := .bool _) rfl ?_
          refine w_nil ?_; refine k_on ?_; refine c_ret ?_
          refine r_one (v := .bool _) rfl rfl rfl ?_
          exact fun w' hw => ⟨by (try clear hm); (try clear hm2); (try clear hEx); (try clear hEz); (try clear hks); (try clear hks2); (try clear hbo); (try clear hbo2); (try clear hel); (try clear hel2); (try clear hw); (try clear ih); (try clear hx); (try clear hx2); (try clear gt2b); (try clear gt3b); (try clear ut2b); (try clear ut3b); simp only [smSame, exsSame_eq, smsSame_eq, Sm.op, Sm.nm, Sm.kids, Sm.body, Sm.els]; simp_all, hw.fr _ (.head _)⟩
      · refine w_skip rfl rfl (bV h5) ?_; refine w_skip rfl rfl (bV h5) ?_; refine w_skip rfl rfl (bV h5) ?_; refine w_skip rfl rfl (bV h5) ?_
        refine w_skip rfl rfl (bV h5) ?_; refine w_r (v := .bool _) (fun _ => R_pickF (bV h5) rfl) rfl rfl ?_; refine w_move (v := .bool _) rfl ?_
        refine w_skip rfl rfl rfl ?_; refine w_skip rfl rfl rfl ?_; refine w_skip rfl rfl rfl ?_; refine w_skip rfl rfl rfl ?_; refine w_skip rfl rfl rfl ?_; refine w_r (v := .bool _) (fun _ => R_pickF rfl rfl) rfl rfl ?_
        refine w_asg (v := .bool _) rfl ?_; refine w_nil ?_; refine k_on ?_; refine c_ret ?_
        refine r_one (v := .bool _) rfl rfl rfl ?_
        exact fun w' hw => ⟨by (try clear hm); (try clear hm2); (try clear hEx); (try clear hEz); (try clear hks); (try clear hks2); (try clear hbo); (try clear hbo2); (try clear hel); (try clear hel2); (try clear hw); (try clear ih); (try clear hx); (try clear hx2); (try clear gt2b); (try clear gt3b); (try clear ut2b); (try clear ut3b); simp only [smSame, exsSame_eq, smsSame_eq, Sm.op, Sm.nm, Sm.kids, Sm.body, Sm.els]; simp_all, hw.fr _ (.head _)⟩
    · refine w_skip rfl rfl (bF h4) ?_; refine w_skip rfl rfl (bF h4) ?_; refine w_skip rfl rfl (bF h4) ?_
      refine w_skip rfl rfl (bF h4) ?_; refine w_skip rfl rfl (bF h4) ?_; refine w_r (v := .bool _) (fun _ => R_pickF (bF h4) rfl) rfl rfl ?_
      refine w_move (v := .bool _) rfl ?_; refine w_skip rfl rfl rfl ?_; refine w_skip rfl rfl rfl ?_; refine w_skip rfl rfl rfl ?_; refine w_skip rfl rfl rfl ?_; refine w_skip rfl rfl rfl ?_
      refine w_r (v := .bool _) (fun _ => R_pickF rfl rfl) rfl rfl ?_; refine w_move (v := .bool _) rfl ?_; refine w_skip rfl rfl rfl ?_; refine w_skip rfl rfl rfl ?_
      refine w_skip rfl rfl rfl ?_; refine w_skip rfl rfl rfl ?_; refine w_skip rfl rfl rfl ?_; refine w_r (v := .bool _) (fun _ => R_pickF rfl rfl) rfl rfl ?_; refine w_asg (v := .bool _) rfl ?_
      refine w_nil ?_; refine k_on ?_; refine c_ret ?_
      refine r_one (v := .bool _) rfl rfl rfl ?_
      exact fun w' hw => ⟨by (try clear hm); (try clear hm2); (try clear hEx); (try clear hEz); (try clear hks); (try clear hks2); (try clear hbo); (try clear hbo2); (try clear hel); (try clear hel2); (try clear hw); (try clear ih); (try clear hx); (try clear hx2); (try clear gt2b); (try clear gt3b); (try clear ut2b); (try clear ut3b); simp only [smSame, exsSame_eq, smsSame_eq, Sm.op, Sm.nm, Sm.kids, Sm.body, Sm.els]; simp_all, hw.fr _ (.head _)⟩
  · have hop : ¬ op = op2 := (by omega)
    refine w_skip rfl rfl (bF h3) ?_; refine w_skip rfl rfl (bF h3) ?_; refine w_skip rfl rfl (bF h3) ?_
    refine w_skip rfl rfl (bF h3) ?_; refine w_skip rfl rfl (bF h3) ?_; refine w_r (v := .bool _) (fun _ => R_pickF (bF h3) rfl) rfl rfl ?_
    refine w_move (v := .bool _) rfl ?_; refine w_skip rfl rfl rfl ?_; refine w_skip rfl rfl rfl ?_; refine w_skip rfl rfl rfl ?_; refine w_skip rfl rfl rfl ?_; refine w_skip rfl rfl rfl ?_
    refine w_r (v := .bool _) (fun _ => R_pickF rfl rfl) rfl rfl ?_; refine w_move (v := .bool _) rfl ?_; refine w_skip rfl rfl rfl ?_; refine w_skip rfl rfl rfl ?_
    refine w_skip rfl rfl rfl ?_; refine w_skip rfl rfl rfl ?_; refine w_skip rfl rfl rfl ?_; refine w_r (v := .bool _) (fun _ => R_pickF rfl rfl) rfl rfl ?_; refine w_move (v := .bool _) rfl ?_
    refine w_skip rfl rfl rfl ?_; refine w_skip rfl rfl rfl ?_; refine w_skip rfl rfl rfl ?_; refine w_skip rfl rfl rfl ?_; refine w_skip rfl rfl rfl ?_; refine w_r (v := .bool _) (fun _ => R_pickF rfl rfl) rfl rfl ?_
    refine w_asg (v := .bool _) rfl ?_; refine w_nil ?_; refine k_on ?_; refine c_ret ?_
    refine r_one (v := .bool _) rfl rfl rfl ?_
    exact fun w' hw => ⟨by (try clear hm); (try clear hm2); (try clear hEx); (try clear hEz); (try clear hks); (try clear hks2); (try clear hbo); (try clear hbo2); (try clear hel); (try clear hel2); (try clear hw); (try clear ih); (try clear hx); (try clear hx2); (try clear gt2b); (try clear gt3b); (try clear ut2b); (try clear ut3b); simp only [smSame, exsSame_eq, smsSame_eq, Sm.op, Sm.nm, Sm.kids, Sm.body, Sm.els]; simp_all, hw.fr _ (.head _)⟩


theorem sameS_all : ∀ n : Nat, n ≤ 10000000 → SameS n
  | 0, _ => fun _ _ _ _ _ _ h => absurd h (Nat.not_lt_zero _)
  | n + 1, h => sameS_step n (sameS_all n (by omega)) (by omega)
theorem sameS_ok : SameS 10000000 := sameS_all _ (Nat.le_refl _)

set_option maxRecDepth 100000 in
set_option maxHeartbeats 400000 in
theorem sameD1_spec (l r : List Ex) (a b : Option Addr) (c d : Nat) (N : Nat → Prop) (w : World) (hl : ∀ x ∈ l, exW x < 10000000) (hll : l.length ≤ 10000000) (hm : exsM w N l a 0) (hm2 : exsM w N r b 0) :
    Ret Tryz.prog 85 #[.slice a l.length c, .slice b r.length d] w (fun v w' => v = .bool (pairOk exSame l r) ∧ Ext w w') := by
  refine enter (S := No) (l := [_, _]) (L := []) 8 Tryz.func85 rfl rfl rfl (St.start w No) ?_
  refine c_seq ?_; refine c_region ?_; refine w_asg (v := .bool _) rfl ?_; refine w_nil ?_; refine k_on ?_; refine c_seq ?_; refine c_region ?_; refine w_move (v := .slice _ _ _) rfl ?_
  refine w_move (v := .slice _ _ _) rfl ?_; refine w_call (fun w => R_call Tryz.func31 rfl rfl rfl) rfl rfl (fun w h => eqE_spec _ same_ok l r a b c d N w hl hll (hm.now (fun _ _ hh => hh) (.head _) h) (hm2.now (fun _ _ hh => hh) (.head _) h)) ?_
  refine w_asg (v := .bool _) rfl ?_; refine w_nil ?_; refine k_on ?_; refine c_ret ?_
  refine r_one (v := .bool _) rfl rfl rfl ?_
  exact fun w' hw => ⟨rfl, hw.fr _ (.head _)⟩

set_option maxRecDepth 100000 in
set_option maxHeartbeats 2000000 in
theorem sameDecl_spec (x z : Dc) (cs ds : List Value) (N : Nat → Prop) (w : World) (hx : dcW x < 10000000) (hm : dcM w N x cs) (hm2 : dcM w N z ds) :
    Ret Tryz.prog 43 #[.agg cs.toArray, .agg ds.toArray] w (fun v w' => v = .bool (dcSame x z) ∧ Ext w w') := by
  have hEx := hm; have hEz := hm2; obtain ⟨ty, at_, nm, sz, lo, up, ini⟩ := x; obtain ⟨ty2, at2, nm2, sz2, lo2, up2, ini2⟩ := z; unfold dcM at hEx hEz; obtain ⟨xa, xc, la, lc, ua, uc, ia, ic, hcs, hsz, hlo, hup, hini⟩ := hEx; obtain ⟨xa2, xc2, la2, lc2, ua2, uc2, ia2, ic2, hds, hsz2, hlo2, hup2, hini2⟩ := hEz; simp only [] at hcs hds; subst hcs; subst hds
  have hx2 := hx
  unfold dcW at hx2
  simp only [] at hx2
  refine enter (S := No) (l := [_, _]) (L := []) 50 Tryz.func43 rfl rfl rfl (St.start w No) ?_
  refine c_seq ?_; refine c_region ?_
  refine w_boxA rfl (fun t2b gt2b ut2b => ?_)
  refine w_boxA rfl (fun t3b gt3b ut3b => ?_)
  refine w_asg (v := .bool _) rfl ?_; refine w_nil ?_; refine k_on ?_; refine c_seq ?_; refine c_region ?_; refine w_asg rfl ?_; refine w_nil ?_; refine k_on ?_; refine c_seq ?_
  refine c_region ?_; refine w_fa fa52_0 rfl ?_; refine w_load z5 rfl (fun _ h => cel_own 1 rfl rfl h) ?_; refine w_fa fa52_0 rfl ?_; refine w_load z5 rfl (fun _ h => cel_own 0 rfl rfl h) ?_
  refine w_r (fun _ => R_eq rfl rfl) rfl rfl ?_; refine w_move (v := .bool _) rfl ?_
  refine w_splitD (t := 11) rfl (fun h3 => ?_) (fun h3 => ?_)
  · have hop : ty = ty2 := (by omega)
    refine w_want rfl rfl (bT h3) ?_; refine w_fa fa52_2 rfl ?_; refine w_want rfl rfl (bT h3) ?_
    refine w_load z9 rfl (fun _ h => cel_own 1 rfl rfl h) ?_; refine w_want rfl rfl (bT h3) ?_; refine w_fa fa52_2 rfl ?_; refine w_want rfl rfl (bT h3) ?_
    refine w_load z9 rfl (fun _ h => cel_own 0 rfl rfl h) ?_; refine w_want rfl rfl (bT h3) ?_; refine w_r (fun _ => R_seq rfl rfl) rfl rfl ?_
    refine w_r (v := .bool _) (fun _ => R_pickT (bT h3) rfl) rfl rfl ?_; refine w_move (v := .bool _) rfl ?_
    refine w_splitD (t := 18) rfl (fun h4 => ?_) (fun h4 => ?_)
    · refine w_want rfl rfl (bT h4) ?_; refine w_move rfl ?_; refine w_want rfl rfl (bT h4) ?_
      refine w_fa fa52_3 rfl ?_; refine w_want rfl rfl (bT h4) ?_; refine w_load z22 rfl (fun _ h => cel_own 1 rfl rfl h) ?_; refine w_want rfl rfl (bT h4) ?_
      refine w_fa fa52_3 rfl ?_; refine w_want rfl rfl (bT h4) ?_; refine w_load z22 rfl (fun _ h => cel_own 0 rfl rfl h) ?_; refine w_want rfl rfl (bT h4) ?_
      refine w_call (fun w => R_callv rfl Tryz.func85 rfl rfl) rfl rfl (fun w h => sameD1_spec sz sz2 xa xa2 xc xc2 N w (fun x hx => by have := exsW_mem hx; omega) (by omega) (hsz.now (fun _ _ hh => hh) (.head _) h) (hsz2.now (fun _ _ hh => hh) (.head _) h)) ?_
      refine w_r (v := .bool _) (fun _ => R_pickT (bT h4) rfl) rfl rfl ?_; refine w_move (v := .bool _) rfl ?_
      refine w_split (t := 26) rfl (fun h5 => ?_) (fun h5 => ?_)
      · refine w_want rfl rfl (bV h5) ?_; refine w_move rfl ?_; refine w_want rfl rfl (bV h5) ?_; refine w_fa fa52_4 rfl ?_; refine w_want rfl rfl (bV h5) ?_
        refine w_load z22 rfl (fun _ h => cel_own 1 rfl rfl h) ?_; refine w_want rfl rfl (bV h5) ?_; refine w_fa fa52_4 rfl ?_; refine w_want rfl rfl (bV h5) ?_
        refine w_load z22 rfl (fun _ h => cel_own 0 rfl rfl h) ?_; refine w_want rfl rfl (bV h5) ?_; refine w_call (fun w => R_callv rfl Tryz.func85 rfl rfl) rfl rfl (fun w h => sameD1_spec lo lo2 la la2 lc lc2 N w (fun x hx => by have := exsW_mem hx; omega) (by omega) (hlo.now (fun _ _ hh => hh) (.head _) h) (hlo2.now (fun _ _ hh => hh) (.head _) h)) ?_
        refine w_r (v := .bool _) (fun _ => R_pickT (bV h5) rfl) rfl rfl ?_; refine w_move (v := .bool _) rfl ?_
        refine w_split (t := 34) rfl (fun h6 => ?_) (fun h6 => ?_)
        · refine w_want rfl rfl (bV h6) ?_; refine w_move rfl ?_; refine w_want rfl rfl (bV h6) ?_; refine w_fa fa52_5 rfl ?_; refine w_want rfl rfl (bV h6) ?_
          refine w_load z22 rfl (fun _ h => cel_own 1 rfl rfl h) ?_; refine w_want rfl rfl (bV h6) ?_; refine w_fa fa52_5 rfl ?_; refine w_want rfl rfl (bV h6) ?_
          refine w_load z22 rfl (fun _ h => cel_own 0 rfl rfl h) ?_; refine w_want rfl rfl (bV h6) ?_; refine w_call (fun w => R_callv rfl Tryz.func85 rfl rfl) rfl rfl (fun w h => sameD1_spec up up2 ua ua2 uc uc2 N w (fun x hx => by have := exsW_mem hx; omega) (by omega) (hup.now (fun _ _ hh => hh) (.head _) h) (hup2.now (fun _ _ hh => hh) (.head _) h)) ?_
          refine w_r (v := .bool _) (fun _ => R_pickT (bV h6) rfl) rfl rfl ?_; refine w_move (v := .bool _) rfl ?_
          refine w_split (t := 42) rfl (fun h7 => ?_) (fun h7 => ?_)
          · refine w_want rfl rfl (bV h7) ?_; refine w_move rfl ?_; refine w_want rfl rfl (bV h7) ?_; refine w_fa fa52_6 rfl ?_; refine w_want rfl rfl (bV h7) ?_
            refine w_load z22 rfl (fun _ h => cel_own 1 rfl rfl h) ?_; refine w_want rfl rfl (bV h7) ?_; refine w_fa fa52_6 rfl ?_; refine w_want rfl rfl (bV h7) ?_
            refine w_load z22 rfl (fun _ h => cel_own 0 rfl rfl h) ?_; refine w_want rfl rfl (bV h7) ?_; refine w_call (fun w => R_callv rfl Tryz.func85 rfl rfl) rfl rfl (fun w h => sameD1_spec ini ini2 ia ia2 ic ic2 N w (fun x hx => by have := exsW_mem hx; omega) (by omega) (hini.now (fun _ _ hh => hh) (.head _) h) (hini2.now (fun _ _ hh => hh) (.head _) h)) ?_
            refine w_r (v := .bool _) (fun _ => R_pickT (bV h7) rfl) rfl rfl ?_; refine w_asg (v := .bool _) rfl ?_; refine w_nil ?_; refine k_on ?_; refine c_ret ?_
            refine r_one (v := .bool _) rfl rfl rfl ?_
            exact fun w' hw => ⟨by (try clear hm); (try clear hm2); (try clear hEx); (try clear hEz); (try clear hw); (try clear hds); (try clear hsz); (try clear hlo); (try clear hup); (try clear hini); (try clear hsz2); (try clear hlo2); (try clear hup2); (try clear hini2); (try clear hx); (try clear hx2); (try clear gt2b); (try clear gt3b); (try clear ut2b); (try clear ut3b); simp only [dcSame, exsSame_eq]; simp_all, hw.fr _ (.head _)⟩
          · refine w_skip rfl rfl (bV h7) ?_; refine w_skip rfl rfl (bV h7) ?_; refine w_skip rfl rfl (bV h7) ?_; refine w_skip rfl rfl (bV h7) ?_
            refine w_skip rfl rfl (bV h7) ?_; refine w_skip rfl rfl (bV h7) ?_; refine w_r (v := .bool _) (fun _ => R_pickF (bV h7) rfl) rfl rfl ?_
            refine w_asg (v := .bool _) rfl ?_; refine w_nil ?_; refine k_on ?_; refine c_ret ?_
            refine r_one (v := .bool _) rfl rfl rfl ?_
            exact fun w' hw => ⟨by (try clear hm); (try clear hm2); (try clear hEx); (try clear hEz); (try clear hw); (try clear hds); (try clear hsz); (try clear hlo); (try clear hup); (try clear hini); (try clear hsz2); (try clear hlo2); (try clear hup2); (try clear hini2); (try clear hx); (try clear hx2); (try clear gt2b); (try clear gt3b); (try clear ut2b); (try clear ut3b); simp only [dcSame, exsSame_eq]; simp_all, hw.fr _ (.head _)⟩
        · refine w_skip rfl rfl (bV h6) ?_; refine w_skip rfl rfl (bV h6) ?_; refine w_skip rfl rfl (bV h6) ?_; refine w_skip rfl rfl (bV h6) ?_
          refine w_skip rfl rfl (bV h6) ?_; refine w_skip rfl rfl (bV h6) ?_; refine w_r (v := .bool _) (fun _ => R_pickF (bV h6) rfl) rfl rfl ?_
          refine w_move (v := .bool _) rfl ?_; refine w_skip rfl rfl rfl ?_; refine w_skip rfl rfl rfl ?_; refine w_skip rfl rfl rfl ?_; refine w_skip rfl rfl rfl ?_; refine w_skip rfl rfl rfl ?_
          refine w_skip rfl rfl rfl ?_; refine w_r (v := .bool _) (fun _ => R_pickF rfl rfl) rfl rfl ?_; refine w_asg (v := .bool _) rfl ?_; refine w_nil ?_; refine k_on ?_
          refine c_ret ?_
          refine r_one (v := .bool _) rfl rfl rfl ?_
          exact fun w' hw => ⟨by (try clear hm); (try clear hm2); (try clear hEx); (try clear hEz); (try clear hw); (try clear hds); (try clear hsz); (try clear hlo); (try clear hup); (try clear hini); (try clear hsz2); (try clear hlo2); (try clear hup2); (try clear hini2); (try clear hx); (try clear hx2); (try clear gt2b); (try clear gt3b); (try clear ut2b); (try clear ut3b); simp only [dcSame, exsSame_eq]; simp_all, hw.fr _ (.head _)⟩
      · refine w_skip rfl rfl (bV h5) ?_; refine w_skip rfl rfl (bV h5) ?_; refine w_skip rfl rfl (bV h5) ?_; refine w_skip rfl rfl (bV h5) ?_
        refine w_skip rfl rfl (bV h5) ?_; refine w_skip rfl rfl (bV h5) ?_; refine w_r (v := .bool _) (fun _ => R_pickF (bV h5) rfl) rfl rfl ?_
        refine w_move (v := .bool _) rfl ?_; refine w_skip rfl rfl rfl ?_; refine w_skip rfl rfl rfl ?_; refine w_skip rfl rfl rfl ?_; refine w_skip rfl rfl rfl ?_; refine w_skip rfl rfl rfl ?_
        refine w_skip rfl rfl rfl ?_; refine w_r (v := .bool _) (fun _ => R_pickF rfl rfl) rfl rfl ?_; refine w_move (v := .bool _) rfl ?_; refine w_skip rfl rfl rfl ?_
        refine w_skip rfl rfl rfl ?_; refine w_skip rfl rfl rfl ?_; refine w_skip rfl rfl rfl ?_; refine w_skip rfl rfl rfl ?_; refine w_skip rfl rfl rfl ?_; refine w_r (v := .bool _) (fun _ => R_pickF rfl rfl) rfl rfl ?_
        refine w_asg (v := .bool _) rfl ?_; refine w_nil ?_; refine k_on ?_; refine c_ret ?_
        refine r_one (v := .bool _) rfl rfl rfl ?_
        exact fun w' hw => ⟨by (try clear hm); (try clear hm2); (try clear hEx); (try clear hEz); (try clear hw); (try clear hds); (try clear hsz); (try clear hlo); (try clear hup); (try clear hini); (try clear hsz2); (try clear hlo2); (try clear hup2); (try clear hini2); (try clear hx); (try clear hx2); (try clear gt2b); (try clear gt3b); (try clear ut2b); (try clear ut3b); simp only [dcSame, exsSame_eq]; simp_all, hw.fr _ (.head _)⟩
    · refine w_skip rfl rfl (bF h4) ?_; refine w_skip rfl rfl (bF h4) ?_; refine w_skip rfl rfl (bF h4) ?_
      refine w_skip rfl rfl (bF h4) ?_; refine w_skip rfl rfl (bF h4) ?_; refine w_skip rfl rfl (bF h4) ?_
      refine w_r (v := .bool _) (fun _ => R_pickF (bF h4) rfl) rfl rfl ?_; refine w_move (v := .bool _) rfl ?_; refine w_skip rfl rfl rfl ?_
      refine w_skip rfl rfl rfl ?_; refine w_skip rfl rfl rfl ?_; refine w_skip rfl rfl rfl ?_; refine w_skip rfl rfl rfl ?_; refine w_skip rfl rfl rfl ?_; refine w_r (v := .bool _) (fun _ => R_pickF rfl rfl) rfl rfl ?_
      refine w_move (v := .bool _) rfl ?_; refine w_skip rfl rfl rfl ?_; refine w_skip rfl rfl rfl ?_; refine w_skip rfl rfl rfl ?_; refine w_skip rfl rfl rfl ?_; refine w_skip rfl rfl rfl ?_
      refine w_skip rfl rfl rfl ?_; refine w_r (v := .bool _) (fun _ => R_pickF rfl rfl) rfl rfl ?_; refine w_move (v := .bool _) rfl ?_; refine w_skip rfl rfl rfl ?_
      refine w_skip rfl rfl rfl ?_; refine w_skip rfl rfl rfl ?_; refine w_skip rfl rfl rfl ?_; refine w_skip rfl rfl rfl ?_; refine w_skip rfl rfl rfl ?_; refine w_r (v := .bool _) (fun _ => R_pickF rfl rfl) rfl rfl ?_
      refine w_asg (v := .bool _) rfl ?_; refine w_nil ?_; refine k_on ?_; refine c_ret ?_
      refine r_one (v := .bool _) rfl rfl rfl ?_
      exact fun w' hw => ⟨by (try clear hm); (try clear hm2); (try clear hEx); (try clear hEz); (try clear hw); (try clear hds); (try clear hsz); (try clear hlo); (try clear hup); (try clear hini); (try clear hsz2); (try clear hlo2); (try clear hup2); (try clear hini2); (try clear hx); (try clear hx2); (try clear gt2b); (try clear gt3b); (try clear ut2b); (try clear ut3b); simp only [dcSame, exsSame_eq]; simp_all, hw.fr _ (.head _)⟩
  · have hop : ¬ ty = ty2 := (by omega)
    refine w_skip rfl rfl (bF h3) ?_; refine w_skip rfl rfl (bF h3) ?_; refine w_skip rfl rfl (bF h3) ?_
    refine w_skip rfl rfl (bF h3) ?_; refine w_skip rfl rfl (bF h3) ?_; refine w_r (v := .bool _) (fun _ => R_pickF (bF h3) rfl) rfl rfl ?_
    refine w_move (v := .bool _) rfl ?_; refine w_skip rfl rfl rfl ?_; refine w_skip rfl rfl rfl ?_; refine w_skip rfl rfl rfl ?_; refine w_skip rfl rfl rfl ?_; refine w_skip rfl rfl rfl ?_
    refine w_skip rfl rfl rfl ?_; refine w_r (v := .bool _) (fun _ => R_pickF rfl rfl) rfl rfl ?_; refine w_move (v := .bool _) rfl ?_; refine w_skip rfl rfl rfl ?_
    refine w_skip rfl rfl rfl ?_; refine w_skip rfl rfl rfl ?_; refine w_skip rfl rfl rfl ?_; refine w_skip rfl rfl rfl ?_; refine w_skip rfl rfl rfl ?_; refine w_r (v := .bool _) (fun _ => R_pickF rfl rfl) rfl rfl ?_
    refine w_move (v := .bool _) rfl ?_; refine w_skip rfl rfl rfl ?_; refine w_skip rfl rfl rfl ?_; refine w_skip rfl rfl rfl ?_; refine w_skip rfl rfl rfl ?_; refine w_skip rfl rfl rfl ?_
    refine w_skip rfl rfl rfl ?_; refine w_r (v := .bool _) (fun _ => R_pickF rfl rfl) rfl rfl ?_; refine w_move (v := .bool _) rfl ?_; refine w_skip rfl rfl rfl ?_
    refine w_skip rfl rfl rfl ?_; refine w_skip rfl rfl rfl ?_; refine w_skip rfl rfl rfl ?_; refine w_skip rfl rfl rfl ?_; refine w_skip rfl rfl rfl ?_; refine w_r (v := .bool _) (fun _ => R_pickF rfl rfl) rfl rfl ?_
    refine w_asg (v := .bool _) rfl ?_; refine w_nil ?_; refine k_on ?_; refine c_ret ?_
    refine r_one (v := .bool _) rfl rfl rfl ?_
    exact fun w' hw => ⟨by (try clear hm); (try clear hm2); (try clear hEx); (try clear hEz); (try clear hw); (try clear hds); (try clear hsz); (try clear hlo); (try clear hup); (try clear hini); (try clear hsz2); (try clear hlo2); (try clear hup2); (try clear hini2); (try clear hx); (try clear hx2); (try clear gt2b); (try clear gt3b); (try clear ut2b); (try clear ut3b); simp only [dcSame, exsSame_eq]; simp_all, hw.fr _ (.head _)⟩

set_option maxRecDepth 100000 in
set_option maxHeartbeats 1000000 in
theorem eqD_spec  (l r : List Dc) (a b : Option Addr) (c d : Nat) (N : Nat → Prop) (w : World) (hl : ∀ x ∈ l, dcW x < 10000000) (hll : l.length ≤ 10000000) (hm : dcsM w N l a) (hm2 : dcsM w N r b) :
    Ret Tryz.prog 42 #[.slice a l.length c, .slice b r.length d, .func (.func 43) #[] #[]] w (fun v w' => v = .bool (pairOk dcSame l r) ∧ Ext w w') := by
  refine enter (S := No) (l := [_, _, _]) (L := []) 32 Tryz.func42 rfl rfl rfl (St.start w No) ?_
  refine c_seq ?_; refine c_region ?_; refine w_asg (v := .bool _) rfl ?_; refine w_nil ?_; refine k_on ?_; refine c_seq ?_; refine c_seq ?_; refine c_region ?_; refine w_move (v := .slice _ _ _) rfl ?_
  refine w_r (fun _ => R_len sl34 rfl) rfl rfl ?_; refine w_move (v := .slice _ _ _) rfl ?_; refine w_r (fun _ => R_len sl34 rfl) rfl rfl ?_; refine w_r (fun _ => R_ne rfl rfl) rfl rfl ?_
  refine w_nil ?_; refine k_on ?_
  refine c_condD rfl (fun h1 => ?_) (fun h1 => ?_)
  · refine c_seq ?_; refine c_region ?_; refine w_asg (v := .bool _) rfl ?_; refine w_nil ?_; refine k_on ?_; refine c_ret ?_; refine k_ret (?_)
    refine r_one (v := .bool _) rfl rfl rfl ?_
    exact fun w' hw => ⟨by rw [pairOk_len (by omega)], hw.fr _ (.head _)⟩
  · have hlen : l.length = r.length := (by omega)
    refine c_skip ?_; refine k_on ?_; refine c_seq ?_; refine c_seq ?_; refine c_region ?_; refine w_move (v := .slice _ _ _) rfl ?_; refine w_r (fun _ => R_len sl34 rfl) rfl rfl ?_
    refine w_move (v := .int _ _) rfl ?_; refine w_nil ?_; refine k_on ?_; refine c_block ?_
    refine c_loop (fun m e B L => ∃ (k : Nat), e 1 = .slice b r.length d ∧ e 2 = .func (.func 43) #[] #[] ∧ e 15 = .slice a l.length c ∧ e 16 = .int .i64 (l.length : Nat) ∧ e 17 = .int .i64 (k : Nat) ∧ B = [(w, No)] ∧ L = [] ∧ k ≤ l.length ∧ (∀ p ∈ (l.zip r).take k, (!dcSame p.1 p.2) = false) ∧ m = l.length - k) _ ⟨0, rfl, rfl, rfl, rfl, rfl, rfl, rfl, Nat.zero_le _, (by simp), rfl⟩ ?_
    rintro m e B L ⟨k, e1_1, e2_1, e15_1, e16_1, e17_1, rfl, rfl, hk, hy, rfl⟩
    refine c_seq ?_; refine c_region ?_; refine w_r (fun _ => R_lt e17_1 e16_1) rfl rfl ?_; refine w_nil ?_; refine k_on ?_; refine c_seq ?_
    refine c_condD rfl (fun h2 => ?_) (fun h2 => ?_)
    · have hlt : k < l.length := (by omega); obtain ⟨x, hxk⟩ : ∃ x, l[k]? = some x := ⟨_, List.getElem?_eq_getElem hlt⟩; obtain ⟨z, hzk⟩ : ∃ z, r[k]? = some z := ⟨_, List.getElem?_eq_getElem (by omega)⟩; obtain ⟨cs, hA, hE⟩ := hm k x hxk; obtain ⟨ds, hA2, hE2⟩ := hm2 k z hzk; have hxn := hl x (List.mem_of_getElem? hxk); obtain ⟨b1, o1, rfl⟩ := hA.ptr; obtain ⟨b2, o2, rfl⟩ := hA2.ptr; have hxe := hxk; have hze := hzk; have hEx := hE; have hEz := hE2; obtain ⟨ty, at_, nm, sz, lo, up, ini⟩ := x; obtain ⟨ty2, at2, nm2, sz2, lo2, up2, ini2⟩ := z; unfold dcM at hEx hEz; obtain ⟨xa, xc, la, lc, ua, uc, ia, ic, hcs, hsz, hlo, hup, hini⟩ := hEx; obtain ⟨xa2, xc2, la2, lc2, ua2, uc2, ia2, ic2, hds, hsz2, hlo2, hup2, hini2⟩ := hEz; simp only [] at hcs hds; subst hcs; subst hds
      refine c_skip ?_; refine k_on ?_; refine c_seq ?_; refine c_block ?_; refine c_seq ?_; refine c_region ?_; refine w_move (v := .int _ _) e17_1 ?_; refine w_r (fun _ => R_iaN (i := k) sl34 e15_1 e17_1 (by first | omega | decide)) rfl rfl ?_
      refine w_loadC (l := [.int .u8 (ty : Nat), .int .i64 at_, str nm, .slice xa sz.length xc, .slice la lo.length lc, .slice ua up.length uc, .slice ia ini.length ic]) z52 rfl rfl (fun w h j v hj => hA.cell (fun _ _ hh => hh) (.head _) h j v hj) ?_
      refine w_alloc zr52 (fun t8b gt8b ut8b => ?_)
      refine w_asg (v := .int _ _) rfl ?_; refine w_store 0 rfl z52 rfl rfl rfl rfl rfl rfl rfl ?_; refine w_nil ?_; refine k_on ?_; refine c_seq ?_; refine c_region ?_
      refine w_move (v := .slice _ _ _) e1_1 ?_; refine w_move (v := .int _ _) rfl ?_; refine w_r (fun _ => R_iaN (i := k) sl34 rfl rfl (by first | omega | decide)) rfl rfl ?_
      refine w_loadC (l := [.int .u8 (ty2 : Nat), .int .i64 at2, str nm2, .slice xa2 sz2.length xc2, .slice la2 lo2.length lc2, .slice ua2 up2.length uc2, .slice ia2 ini2.length ic2]) z52 rfl rfl (fun w h j v hj => hA2.cell (fun _ _ hh => hh) (.head _) h j v hj) ?_
      refine w_alloc zr52 (fun t9b gt9b ut9b => ?_)
      refine w_store 0 rfl z52 rfl rfl rfl rfl rfl rfl rfl ?_; refine w_nil ?_; refine k_on ?_; refine c_seq ?_; refine c_region ?_; refine w_move e2_1 ?_; refine w_loadA z52 rfl (fun _ h => h.at_ 1 rfl) rfl ?_
      refine w_loadA z52 rfl (fun _ h => h.at_ 0 rfl) rfl ?_; refine w_call (fun w => R_callv rfl Tryz.func43 rfl rfl) rfl rfl (fun w h => sameDecl_spec _ _ _ _ N w hxn (hE.now (fun _ _ hh => hh) (.head _) h) (hE2.now (fun _ _ hh => hh) (.head _) h)) ?_
      refine w_r (fun _ => R_not rfl) rfl rfl ?_; refine w_nil ?_; refine k_on ?_
      refine c_condN rfl (fun h5 => ?_) (fun h5 => ?_)
      · refine c_seq ?_; refine c_region ?_; refine w_asg (v := .bool _) rfl ?_; refine w_nil ?_; refine k_on ?_; refine c_ret ?_; refine b_ret (k_ret (k_ret (b_ret (k_ret (?_)))))
        refine r_one (v := .bool _) rfl rfl rfl ?_
        exact fun w' hw => ⟨by first | (rw [pairOk_no hxk hzk h5]; done) | (rw [pairOk_yes hlen hy (by omega)]; done), hw.fr _ (.head _)⟩
      · refine c_skip ?_; refine b_on (k_on ?_); refine c_region ?_; refine w_r (fun _ => R_addi e17_1 rfl (by omega)) rfl rfl ?_; refine w_move (v := .int _ _) rfl ?_
        refine w_nil ?_
        refine k_st (B' := [(w, No)]) (L' := []) (fun w h => h.drop (List.nil_sublist _)) ?_
        exact k_again _ (by omega) ⟨k + 1, e1_1, e2_1, e15_1, e16_1, rfl, rfl, rfl, by omega, pair_next hy hxk hzk h5, rfl⟩
    · refine c_exit ?_; refine k_exit (k_exit (b_here rfl (k_on ?_))); refine c_seq ?_; refine c_region ?_; refine w_asg (v := .bool _) rfl ?_; refine w_nil ?_; refine k_on ?_
      refine c_ret ?_
      refine r_one (v := .bool _) rfl rfl rfl ?_
      exact fun w' hw => ⟨by first | (rw [pairOk_no hxk hzk h5]; done) | (rw [pairOk_yes hlen hy (by omega)]; done), hw.fr _ (.head _)⟩

set_option maxRecDepth 100000 in
set_option maxHeartbeats 4000000 in
theorem Same_spec (pg qg : List Bk) (cs ds : List Value) (N : Nat → Prop) (w : World) (hp : ∀ b ∈ pg, bkW b < 10000000) (hm : pgM w N pg cs) (hm2 : pgM w N qg ds) :
    Ret Tryz.prog 16 #[.agg cs.toArray, .agg ds.toArray] w (fun v w' => v = .bool (pgSame pg qg) ∧ Ext w w') := by
  refine enter (S := No) (l := [_, _]) (L := []) 40 Tryz.func16 rfl rfl rfl (St.start w No) ?_
  refine c_seq ?_; refine c_region ?_
  refine w_boxA rfl (fun t2b gt2b ut2b => ?_)
  refine w_boxA rfl (fun t3b gt3b ut3b => ?_)
  refine w_asg (v := .bool _) rfl ?_; refine w_nil ?_; refine k_on ?_; refine c_seq ?_; refine c_seq ?_; refine c_region ?_; refine w_fa fa40_0 rfl ?_
  refine w_loadW z38 rfl (fun _ h => h.at_ 1 rfl) hm.len ?_
  refine w_move (v := .int _ _) rfl ?_; refine w_nil ?_; refine k_on ?_; refine c_block ?_
  refine c_loop (fun m e B L => ∃ (i : Nat), e 3 = .pointer (some ⟨t3b, 0, none⟩) ∧ e 9 = .agg cs.toArray ∧ e 10 = .int .i64 (i : Nat) ∧ B = [(w, No)] ∧ L = [(t3b, cel ds 40), (t2b, cel cs 40)] ∧ i ≤ 6 ∧ (∀ p ∈ (pg.zip qg).take i, (!bkSame p.1 p.2) = false) ∧ m = 6 - i) _ ⟨0, rfl, rfl, rfl, rfl, rfl, Nat.zero_le _, (by simp), rfl⟩ ?_
  rintro m e B L ⟨i, e3_1, e9_1, e10_1, rfl, rfl, hi, hy, rfl⟩
  refine c_seq ?_; refine c_region ?_; refine w_r (fun _ => R_lt e10_1 rfl) rfl rfl ?_; refine w_nil ?_; refine k_on ?_; refine c_seq ?_
  refine c_condD rfl (fun h3 => ?_) (fun h3 => ?_)
  · have hi6 : i < 6 := (by omega); obtain ⟨b, hb⟩ : ∃ b, pg[i]? = some b := ⟨_, List.getElem?_eq_getElem (by rw [hm.six]; exact hi6)⟩; have hbw := hp b (List.mem_of_getElem? hb); unfold bkW at hbw; obtain ⟨da, dc, sa, sc, hcb, hds, hss⟩ := hm.one i b hb; obtain ⟨b2, hb2⟩ : ∃ b, qg[i]? = some b := ⟨_, List.getElem?_eq_getElem (by rw [hm2.six]; exact hi6)⟩; obtain ⟨da2, dc2, sa2, sc2, hcb2, hds2, hss2⟩ := hm2.one i b2 hb2
    refine c_skip ?_; refine k_on ?_; refine c_seq ?_; refine c_block ?_; refine c_seq ?_; refine c_region ?_; refine w_move (v := .int _ _) e10_1 ?_
    refine w_r (v := .agg (List.toArray [.bool b.is, .slice da b.decls.length dc, .slice sa b.stmts.length sc])) (fun _ => R_aidxA (i := i) ara38 e9_1 e10_1 (by omega) hcb) rfl rfl ?_
    refine w_alloc zr37 (fun t6b gt6b ut6b => ?_)
    refine w_asg (v := .int _ _) rfl ?_; refine w_store 0 rfl z37 rfl rfl rfl rfl rfl rfl rfl ?_; refine w_nil ?_; refine k_on ?_; refine c_seq ?_; refine c_region ?_
    refine w_move (v := .int _ _) rfl ?_; refine w_fa fa40_0 e3_1 ?_; refine w_r (fun _ => R_iaA (i := i) ara38 (by decide) rfl rfl (by first | omega | decide)) rfl rfl ?_
    refine w_loadC (l := [.bool b2.is, .slice da2 b2.decls.length dc2, .slice sa2 b2.stmts.length sc2]) z37 rfl rfl (fun w h j v hj => cel_own 1 rfl (sub_get hcb2 hj) h) ?_
    refine w_alloc zr37 (fun t7b gt7b ut7b => ?_)
    refine w_store 0 rfl z37 rfl rfl rfl rfl rfl rfl rfl ?_; refine w_nil ?_; refine k_on ?_; refine c_seq ?_; refine c_region ?_; refine w_fa fa37_0 rfl ?_; refine w_load z4 rfl (fun _ h => cel_own 1 rfl rfl h) ?_
    refine w_fa fa37_0 rfl ?_; refine w_load z4 rfl (fun _ h => cel_own 0 rfl rfl h) ?_; refine w_r (fun _ => R_bne unb4 rfl rfl) rfl rfl ?_; refine w_move (v := .bool _) rfl ?_
    refine w_split (t := 23) rfl (fun h6 => ?_) (fun h6 => ?_)
    · refine w_skip rfl rfl (bV h6) ?_; refine w_skip rfl rfl (bV h6) ?_; refine w_skip rfl rfl (bV h6) ?_; refine w_skip rfl rfl (bV h6) ?_
      refine w_skip rfl rfl (bV h6) ?_; refine w_skip rfl rfl (bV h6) ?_; refine w_r (v := .bool _) (fun _ => R_pickT (bV h6) rfl) rfl rfl ?_
      refine w_move (v := .bool _) rfl ?_; refine w_skip rfl rfl rfl ?_; refine w_skip rfl rfl rfl ?_; refine w_skip rfl rfl rfl ?_; refine w_skip rfl rfl rfl ?_; refine w_skip rfl rfl rfl ?_
      refine w_skip rfl rfl rfl ?_; refine w_r (v := .bool _) (fun _ => R_pickT rfl rfl) rfl rfl ?_; refine w_nil ?_; refine k_on ?_; refine c_condT rfl ?_; refine c_seq ?_
      refine c_region ?_; refine w_asg (v := .bool _) rfl ?_; refine w_nil ?_; refine k_on ?_; refine c_ret ?_; refine b_ret (k_ret (k_ret (b_ret (k_ret (?_)))))
      refine r_one (v := .bool _) rfl rfl rfl ?_
      exact fun w' hw => ⟨by unfold pgSame; first | (rw [pairOk_yes (hm.six.trans hm2.six.symm) hy (by have := hm.six; omega)]; done) | (rw [pairOk_no hb hb2 (by (try clear hm); (try clear hm2); (try clear hw); (try clear hp); (try clear hcb); (try clear hds); (try clear hss); (try clear hcb2); (try clear hds2); (try clear hss2); (try clear hbw); (try clear hx); (try clear hy); (try clear e10_1); (try clear e3_1); (try clear e9_1); (try clear gt2b); (try clear gt3b); (try clear gt6b); (try clear gt7b); (try clear ut2b); (try clear ut3b); (try clear ut6b); (try clear ut7b); simp only [bkSame, smsSame_eq]; simp_all)]; done), hw.fr _ (.head _)⟩
    · refine w_want rfl rfl (bV h6) ?_; refine w_fa fa37_1 rfl ?_; refine w_want rfl rfl (bV h6) ?_; refine w_load z34 rfl (fun _ h => cel_own 1 rfl rfl h) ?_
      refine w_want rfl rfl (bV h6) ?_; refine w_fa fa37_1 rfl ?_; refine w_want rfl rfl (bV h6) ?_; refine w_load z34 rfl (fun _ h => cel_own 0 rfl rfl h) ?_
      refine w_want rfl rfl (bV h6) ?_; refine w_call (fun w => R_call Tryz.func42 rfl rfl rfl) rfl rfl (fun w h => eqD_spec b.decls b2.decls da da2 dc dc2 N w (fun x hx => by have := dcsW_mem hx; omega) (by omega) (hds.now (fun _ _ hh => hh) (.head _) h) (hds2.now (fun _ _ hh => hh) (.head _) h)) ?_
      refine w_want rfl rfl (bV h6) ?_; refine w_r (fun _ => R_not rfl) rfl rfl ?_; refine w_r (v := .bool _) (fun _ => R_pickF (bV h6) rfl) rfl rfl ?_
      refine w_move (v := .bool _) rfl ?_
      refine w_split (t := 31) rfl (fun h7 => ?_) (fun h7 => ?_)
      · refine w_skip rfl rfl (bV h7) ?_; refine w_skip rfl rfl (bV h7) ?_; refine w_skip rfl rfl (bV h7) ?_; refine w_skip rfl rfl (bV h7) ?_
        refine w_skip rfl rfl (bV h7) ?_; refine w_skip rfl rfl (bV h7) ?_; refine w_r (v := .bool _) (fun _ => R_pickT (bV h7) rfl) rfl rfl ?_
        refine w_nil ?_; refine k_on ?_; refine c_condT rfl ?_; refine c_seq ?_; refine c_region ?_; refine w_asg (v := .bool _) rfl ?_; refine w_nil ?_; refine k_on ?_; refine c_ret ?_
        refine b_ret (k_ret (k_ret (b_ret (k_ret (?_)))))
        refine r_one (v := .bool _) rfl rfl rfl ?_
        exact fun w' hw => ⟨by unfold pgSame; first | (rw [pairOk_yes (hm.six.trans hm2.six.symm) hy (by have := hm.six; omega)]; done) | (rw [pairOk_no hb hb2 (by (try clear hm); (try clear hm2); (try clear hw); (try clear hp); (try clear hcb); (try clear hds); (try clear hss); (try clear hcb2); (try clear hds2); (try clear hss2); (try clear hbw); (try clear hx); (try clear hy); (try clear e10_1); (try clear e3_1); (try clear e9_1); (try clear gt2b); (try clear gt3b); (try clear gt6b); (try clear gt7b); (try clear ut2b); (try clear ut3b); (try clear ut6b); (try clear ut7b); simp only [bkSame, smsSame_eq]; simp_all)]; done), hw.fr _ (.head _)⟩
      · refine w_want rfl rfl (bV h7) ?_; refine w_fa fa37_2 rfl ?_; refine w_want rfl rfl (bV h7) ?_; refine w_load z35 rfl (fun _ h => cel_own 1 rfl rfl h) ?_
        refine w_want rfl rfl (bV h7) ?_; refine w_fa fa37_2 rfl ?_; refine w_want rfl rfl (bV h7) ?_; refine w_load z35 rfl (fun _ h => cel_own 0 rfl rfl h) ?_
        refine w_want rfl rfl (bV h7) ?_; refine w_call (fun w => R_call Tryz.func44 rfl rfl rfl) rfl rfl (fun w h => eqS_spec _ sameS_ok b.stmts b2.stmts sa sa2 sc sc2 N w (fun x hx => by have := smsW_mem hx; omega) (by omega) (hss.now (fun _ _ hh => hh) (.head _) h) (hss2.now (fun _ _ hh => hh) (.head _) h)) ?_
        refine w_want rfl rfl (bV h7) ?_; refine w_r (fun _ => R_not rfl) rfl rfl ?_; refine w_r (v := .bool _) (fun _ => R_pickF (bV h7) rfl) rfl rfl ?_
        refine w_nil ?_; refine k_on ?_
        refine c_condN rfl (fun h8 => ?_) (fun h8 => ?_)
        · refine c_seq ?_; refine c_region ?_; refine w_asg (v := .bool _) rfl ?_; refine w_nil ?_; refine k_on ?_; refine c_ret ?_; refine b_ret (k_ret (k_ret (b_ret (k_ret (?_)))))
          refine r_one (v := .bool _) rfl rfl rfl ?_
          exact fun w' hw => ⟨by unfold pgSame; first | (rw [pairOk_yes (hm.six.trans hm2.six.symm) hy (by have := hm.six; omega)]; done) | (rw [pairOk_no hb hb2 (by (try clear hm); (try clear hm2); (try clear hw); (try clear hp); (try clear hcb); (try clear hds); (try clear hss); (try clear hcb2); (try clear hds2); (try clear hss2); (try clear hbw); (try clear hx); (try clear hy); (try clear e10_1); (try clear e3_1); (try clear e9_1); (try clear gt2b); (try clear gt3b); (try clear gt6b); (try clear gt7b); (try clear ut2b); (try clear ut3b); (try clear ut6b); (try clear ut7b); simp only [bkSame, smsSame_eq]; simp_all)]; done), hw.fr _ (.head _)⟩
        · refine c_skip ?_; refine b_on (k_on ?_); refine c_region ?_; refine w_r (fun _ => R_addi e10_1 rfl (by omega)) rfl rfl ?_; refine w_move (v := .int _ _) rfl ?_
          refine w_nil ?_
          refine k_st (B' := [(w, No)]) (L' := _) (fun w h => h.drop (List.sublist_append_right [_, _] _)) ?_
          exact k_again _ (by omega) ⟨i + 1, e3_1, e9_1, rfl, rfl, rfl, by omega, pair_next hy hb hb2 (by (try clear hm); (try clear hm2); (try clear hw); (try clear hp); (try clear hcb); (try clear hds); (try clear hss); (try clear hcb2); (try clear hds2); (try clear hss2); (try clear hbw); (try clear hx); (try clear hy); (try clear e10_1); (try clear e3_1); (try clear e9_1); (try clear gt2b); (try clear gt3b); (try clear gt6b); (try clear gt7b); (try clear ut2b); (try clear ut3b); (try clear ut6b); (try clear ut7b); simp only [bkSame, smsSame_eq]; simp_all), rfl⟩
  · refine c_exit ?_; refine k_exit (k_exit (b_here rfl (k_on ?_))); refine c_seq ?_; refine c_region ?_; refine w_asg (v := .bool _) rfl ?_; refine w_nil ?_; refine k_on ?_
    refine c_ret ?_
    refine r_one (v := .bool _) rfl rfl rfl ?_
    exact fun w' hw => ⟨by unfold pgSame; first | (rw [pairOk_yes (hm.six.trans hm2.six.symm) hy (by have := hm.six; omega)]; done) | (rw [pairOk_no hb hb2 (by (try clear hm); (try clear hm2); (try clear hw); (try clear hp); (try clear hcb); (try clear hds); (try clear hss); (try clear hcb2); (try clear hds2); (try clear hss2); (try clear hbw); (try clear hx); (try clear hy); (try clear e10_1); (try clear e3_1); (try clear e9_1); (try clear gt2b); (try clear gt3b); (try clear gt6b); (try clear gt7b); (try clear ut2b); (try clear ut3b); (try clear ut6b); (try clear ut7b); simp only [bkSame, smsSame_eq]; simp_all)]; done), hw.fr _ (.head _)⟩
end Go.Proofs.YtcmcdgkjipnfnaaGreatDoor
end

section
namespace Go.Proofs.YtcmcdgkjipnfnaaGreatDoor
open Go.RowKit Go.Sx
open Go.Tok Go.Tree

set_option maxRecDepth 100000 in
set_option maxHeartbeats 400000 in
theorem rsames_spec (n : Nat) (ih : SameH 11 n) (l r : List Ex) (a b : Option Addr) (c d : Nat) (N : Nat → Prop) (w : World) (hl : ∀ x ∈ l, exW x < n) (hll : l.length ≤ 10000000) (hm : exsM w N l a 0) (hm2 : exsM w N r b 0) :
    Ret Tryz.prog 32 #[.slice a l.length c, .slice b r.length d] w (fun v w' => v = .bool (exsSame l r) ∧ Ext w w') := by
  refine enter (S := No) (l := [_, _]) (L := []) 27 Tryz.func32 rfl rfl rfl (St.start w No) ?_
  refine c_seq ?_; refine c_region ?_; refine w_asg (v := .bool _) rfl ?_; refine w_nil ?_; refine k_on ?_; refine c_seq ?_; refine c_seq ?_; refine c_region ?_; refine w_move (v := .slice _ _ _) rfl ?_
  refine w_r (fun _ => R_len sl22 rfl) rfl rfl ?_; refine w_move (v := .slice _ _ _) rfl ?_; refine w_r (fun _ => R_len sl22 rfl) rfl rfl ?_; refine w_r (fun _ => R_ne rfl rfl) rfl rfl ?_
  refine w_nil ?_; refine k_on ?_
  refine c_condD rfl (fun h1 => ?_) (fun h1 => ?_)
  · refine c_seq ?_; refine c_region ?_; refine w_asg (v := .bool _) rfl ?_; refine w_nil ?_; refine k_on ?_; refine c_ret ?_; refine k_ret (?_)
    refine r_one (v := .bool _) rfl rfl rfl ?_
    exact fun w' hw => ⟨by rw [exsSame_eq, pairOk_len (by omega)], hw.fr _ (.head _)⟩
  · have hlen : l.length = r.length := (by omega)
    refine c_skip ?_; refine k_on ?_; refine c_seq ?_; refine c_seq ?_; refine c_region ?_; refine w_asg (v := .int _ _) rfl ?_; refine w_nil ?_; refine k_on ?_; refine c_block ?_
    refine c_loop (fun m e B L => ∃ (k : Nat), e 0 = .slice a l.length c ∧ e 1 = .slice b r.length d ∧ e 5 = .int .i64 (k : Nat) ∧ B = [(w, No)] ∧ L = [] ∧ k ≤ l.length ∧ (∀ p ∈ (l.zip r).take k, (!exSame p.1 p.2) = false) ∧ m = l.length - k) _ ⟨0, rfl, rfl, rfl, rfl, rfl, Nat.zero_le _, (by simp), rfl⟩ ?_
    rintro m e B L ⟨k, e0_1, e1_1, e5_1, rfl, rfl, hk, hy, rfl⟩
    refine c_seq ?_; refine c_seq ?_; refine c_region ?_; refine w_move (v := .int _ _) e5_1 ?_; refine w_move (v := .slice _ _ _) e0_1 ?_; refine w_r (fun _ => R_len sl22 rfl) rfl rfl ?_
    refine w_r (fun _ => R_lt rfl rfl) rfl rfl ?_; refine w_nil ?_; refine k_on ?_
    refine c_condD rfl (fun h2 => ?_) (fun h2 => ?_)
    · have hlt : k < l.length := (by omega); obtain ⟨x, hxk⟩ : ∃ x, l[k]? = some x := ⟨_, List.getElem?_eq_getElem hlt⟩; obtain ⟨z, hzk⟩ : ∃ z, r[k]? = some z := ⟨_, List.getElem?_eq_getElem (by omega)⟩; obtain ⟨cs, hA, hE⟩ := hm.get0 hxk; obtain ⟨ds, hA2, hE2⟩ := hm2.get0 hzk; have hxn := hl x (List.mem_of_getElem? hxk); obtain ⟨b1, o1, rfl⟩ := hA.ptr; obtain ⟨b2, o2, rfl⟩ := hA2.ptr; have hxe := hxk; have hze := hzk; have hEx := hE; have hEz := hE2; obtain ⟨op, at_, nm, ks⟩ := x; obtain ⟨op2, at2, nm2, ks2⟩ := z; unfold exM at hEx hEz; obtain ⟨ka, kc, rfl, hkc, hks⟩ := hEx; obtain ⟨ka2, kc2, rfl, hkc2, hks2⟩ := hEz
      refine c_skip ?_; refine k_on ?_; refine c_seq ?_; refine c_block ?_; refine c_seq ?_; refine c_draw mixed (by kernel_rfl) ?_; refine w_move (v := .slice _ _ _) e0_1 ?_
      refine w_move (v := .int _ _) e5_1 ?_; refine w_r (fun _ => R_iaN (i := k) sl22 rfl rfl (by first | omega | decide)) rfl rfl ?_
      refine w_loadC (l := [.int .u8 (op : Nat), .int .i64 at_, str nm, .slice ka ks.length kc]) z24 rfl rfl (fun w h j v hj => hA.cell (fun _ _ hh => hh) (.head _) h j v hj) ?_
      refine w_move (v := .slice _ _ _) e1_1 ?_; refine w_move (v := .int _ _) e5_1 ?_; refine w_r (fun _ => R_iaN (i := k) sl22 rfl rfl (by first | omega | decide)) rfl rfl ?_
      refine w_loadC (l := [.int .u8 (op2 : Nat), .int .i64 at2, str nm2, .slice ka2 ks2.length kc2]) z24 rfl rfl (fun w h j v hj => hA2.cell (fun _ _ hh => hh) (.head _) h j v hj) ?_
      refine w_call (fun w => R_call Tryz.func11 rfl rfl rfl) rfl rfl (fun w h => ih _ _ _ _ N w hxn (hE.now (fun _ _ hh => hh) (.head _) h) (hE2.now (fun _ _ hh => hh) (.head _) h)) ?_
      refine w_r (fun _ => R_not rfl) rfl rfl ?_; refine w_nil ?_; refine k_on ?_
      refine c_condN rfl (fun h3 => ?_) (fun h3 => ?_)
      · refine c_seq ?_; refine c_region ?_; refine w_asg (v := .bool _) rfl ?_; refine w_nil ?_; refine k_on ?_; refine c_ret ?_; refine b_ret (k_ret (k_ret (b_ret (k_ret (?_)))))
        refine r_one (v := .bool _) rfl rfl rfl ?_
        exact fun w' hw => ⟨by rw [exsSame_eq]; first | (rw [pairOk_no hxk hzk h3]; done) | (rw [pairOk_yes hlen hy (by omega)]; done), hw.fr _ (.head _)⟩
      · refine c_skip ?_; refine b_on (k_on ?_); refine c_region ?_; refine w_move (v := .int _ _) e5_1 ?_; refine w_r (fun _ => R_addi rfl rfl (by omega)) rfl rfl ?_; refine w_asg (v := .int _ _) rfl ?_
        refine w_nil ?_
        exact k_again _ (by omega) ⟨k + 1, e0_1, e1_1, rfl, rfl, rfl, by omega, pair_next hy hxk hzk h3, rfl⟩
    · refine c_exit ?_; refine k_exit (k_exit (b_here rfl (k_on ?_))); refine c_seq ?_; refine c_region ?_; refine w_asg (v := .bool _) rfl ?_; refine w_nil ?_; refine k_on ?_
      refine c_ret ?_
      refine r_one (v := .bool _) rfl rfl rfl ?_
      exact fun w' hw => ⟨by rw [exsSame_eq]; first | (rw [pairOk_no hxk hzk h3]; done) | (rw [pairOk_yes hlen hy (by omega)]; done), hw.fr _ (.head _)⟩

set_option maxRecDepth 100000 in
set_option maxHeartbeats 1000000 in
theorem rsame_step (n : Nat) (ih : SameH 11 n) (hN : n ≤ 10000000) (x z : Ex) (cs ds : List Value) (N : Nat → Prop) (w : World) (hx : exW x < n + 1) (hm : exM w N x cs) (hm2 : exM w N z ds) :
    Ret Tryz.prog 11 #[.agg cs.toArray, .agg ds.toArray] w (fun v w' => v = .bool (exSame x z) ∧ Ext w w') := by
  obtain ⟨op, at_, nm, ks⟩ := x
  have hmx := hm
  unfold exM at hmx
  obtain ⟨ka, kc, rfl, hkc, hks⟩ := hmx
  obtain ⟨op2, at2, nm2, ks2⟩ := z
  have hmz := hm2
  unfold exM at hmz
  obtain ⟨ka2, kc2, rfl, hkc2, hks2⟩ := hmz
  have hx2 := hx
  unfold exW at hx2
  refine enter (S := No) (l := [_, _]) (L := []) 24 Tryz.func11 rfl rfl rfl (St.start w No) ?_
  refine c_seq ?_; refine c_region ?_
  refine w_boxA rfl (fun t2b gt2b ut2b => ?_)
  refine w_boxA rfl (fun t3b gt3b ut3b => ?_)
  refine w_asg (v := .bool _) rfl ?_; refine w_nil ?_; refine k_on ?_; refine c_seq ?_; refine c_region ?_; refine w_fa fa24_0 rfl ?_; refine w_load z5 rfl (fun _ h => cel_own 1 rfl rfl h) ?_
  refine w_fa fa24_0 rfl ?_; refine w_load z5 rfl (fun _ h => cel_own 0 rfl rfl h) ?_; refine w_r (fun _ => R_eq rfl rfl) rfl rfl ?_; refine w_move (v := .bool _) rfl ?_
  refine w_splitD (t := 10) rfl (fun h3 => ?_) (fun h3 => ?_)
  · have hop : op = op2 := (by omega)
    refine w_want rfl rfl (bT h3) ?_; refine w_fa fa24_2 rfl ?_; refine w_want rfl rfl (bT h3) ?_
    refine w_load z9 rfl (fun _ h => cel_own 1 rfl rfl h) ?_; refine w_want rfl rfl (bT h3) ?_; refine w_fa fa24_2 rfl ?_; refine w_want rfl rfl (bT h3) ?_
    refine w_load z9 rfl (fun _ h => cel_own 0 rfl rfl h) ?_; refine w_want rfl rfl (bT h3) ?_; refine w_r (fun _ => R_seq rfl rfl) rfl rfl ?_
    refine w_r (v := .bool _) (fun _ => R_pickT (bT h3) rfl) rfl rfl ?_; refine w_move (v := .bool _) rfl ?_
    refine w_splitD (t := 17) rfl (fun h4 => ?_) (fun h4 => ?_)
    · refine w_want rfl rfl (bT h4) ?_; refine w_fa fa24_3 rfl ?_; refine w_want rfl rfl (bT h4) ?_
      refine w_load z22 rfl (fun _ h => cel_own 1 rfl rfl h) ?_; refine w_want rfl rfl (bT h4) ?_; refine w_fa fa24_3 rfl ?_; refine w_want rfl rfl (bT h4) ?_
      refine w_load z22 rfl (fun _ h => cel_own 0 rfl rfl h) ?_; refine w_want rfl rfl (bT h4) ?_; refine w_call (fun w => R_call Tryz.func32 rfl rfl rfl) rfl rfl (fun w h => rsames_spec n ih ks ks2 ka ka2 kc kc2 N w (fun x hx => by have := exsW_mem hx; omega) (by omega) (hks.now (fun _ _ hh => hh) (.head _) h) (hks2.now (fun _ _ hh => hh) (.head _) h)) ?_
      refine w_r (v := .bool _) (fun _ => R_pickT (bT h4) rfl) rfl rfl ?_; refine w_asg (v := .bool _) rfl ?_; refine w_nil ?_; refine k_on ?_
      refine c_ret ?_
      refine r_one (v := .bool _) rfl rfl rfl ?_
      exact fun w' hw => ⟨by (try clear hm); (try clear hm2); (try clear hmx); (try clear hmz); (try clear hks); (try clear hks2); (try clear hw); (try clear ih); (try clear hx); (try clear hx2); (try clear gt2b); (try clear gt3b); (try clear ut2b); (try clear ut3b); simp only [exSame, Ex.op, Ex.nm, Ex.kids]; simp_all, hw.fr _ (.head _)⟩
    · refine w_skip rfl rfl (bF h4) ?_; refine w_skip rfl rfl (bF h4) ?_; refine w_skip rfl rfl (bF h4) ?_
      refine w_skip rfl rfl (bF h4) ?_; refine w_skip rfl rfl (bF h4) ?_; refine w_r (v := .bool _) (fun _ => R_pickF (bF h4) rfl) rfl rfl ?_
      refine w_asg (v := .bool _) rfl ?_; refine w_nil ?_; refine k_on ?_; refine c_ret ?_
      refine r_one (v := .bool _) rfl rfl rfl ?_
      exact fun w' hw => ⟨by (try clear hm); (try clear hm2); (try clear hmx); (try clear hmz); (try clear hks); (try clear hks2); (try clear hw); (try clear ih); (try clear hx); (try clear hx2); (try clear gt2b); (try clear gt3b); (try clear ut2b); (try clear ut3b); simp only [exSame, Ex.op, Ex.nm, Ex.kids]; simp_all, hw.fr _ (.head _)⟩
  · have hop : ¬ op = op2 := (by omega)
    refine w_skip rfl rfl (bF h3) ?_; refine w_skip rfl rfl (bF h3) ?_; refine w_skip rfl rfl (bF h3) ?_
    refine w_skip rfl rfl (bF h3) ?_; refine w_skip rfl rfl (bF h3) ?_; refine w_r (v := .bool _) (fun _ => R_pickF (bF h3) rfl) rfl rfl ?_
    refine w_move (v := .bool _) rfl ?_; refine w_skip rfl rfl rfl ?_; refine w_skip rfl rfl rfl ?_; refine w_skip rfl rfl rfl ?_; refine w_skip rfl rfl rfl ?_; refine w_skip rfl rfl rfl ?_
    refine w_r (v := .bool _) (fun _ => R_pickF rfl rfl) rfl rfl ?_; refine w_asg (v := .bool _) rfl ?_; refine w_nil ?_; refine k_on ?_; refine c_ret ?_
    refine r_one (v := .bool _) rfl rfl rfl ?_
    exact fun w' hw => ⟨by (try clear hm); (try clear hm2); (try clear hmx); (try clear hmz); (try clear hks); (try clear hks2); (try clear hw); (try clear ih); (try clear hx); (try clear hx2); (try clear gt2b); (try clear gt3b); (try clear ut2b); (try clear ut3b); simp only [exSame, Ex.op, Ex.nm, Ex.kids]; simp_all, hw.fr _ (.head _)⟩


theorem rsame_all : ∀ n : Nat, n ≤ 10000000 → SameH 11 n
  | 0, _ => fun _ _ _ _ _ _ h => absurd h (Nat.not_lt_zero _)
  | n + 1, h => rsame_step n (rsame_all n (by omega)) (by omega)
theorem rsame_ok : SameH 11 10000000 := rsame_all _ (Nat.le_refl _)
def RSameS (n : Nat) : Prop := ∀ (l r : List Sm) (a b : Option Addr) (c d : Nat) (N : Nat → Prop) (w : World), smsW l < n → l.length ≤ 10000000 → smsM w N l a 0 → smsM w N r b 0 → Ret Tryz.prog 46 #[.slice a l.length c, .slice b r.length d] w fun v w' => v = .bool (smsSame l r) ∧ Ext w w'

set_option maxRecDepth 100000 in
set_option maxHeartbeats 4000000 in
theorem rsameS_step (n : Nat) (ih : RSameS n) (hN : n ≤ 10000000) (l r : List Sm) (a b : Option Addr) (c d : Nat) (N : Nat → Prop) (w : World) (hl : smsW l < n + 1) (hll : l.length ≤ 10000000) (hm : smsM w N l a 0) (hm2 : smsM w N r b 0) :
    Ret Tryz.prog 46 #[.slice a l.length c, .slice b r.length d] w (fun v w' => v = .bool (smsSame l r) ∧ Ext w w') := by
  refine enter (S := No) (l := [_, _]) (L := []) 83 Tryz.func46 rfl rfl rfl (St.start w No) ?_
  refine c_seq ?_; refine c_region ?_; refine w_asg (v := .bool _) rfl ?_; refine w_nil ?_; refine k_on ?_; refine c_seq ?_; refine c_seq ?_; refine c_region ?_; refine w_move (v := .slice _ _ _) rfl ?_
  refine w_r (fun _ => R_len sl35 rfl) rfl rfl ?_; refine w_move (v := .slice _ _ _) rfl ?_; refine w_r (fun _ => R_len sl35 rfl) rfl rfl ?_; refine w_r (fun _ => R_ne rfl rfl) rfl rfl ?_
  refine w_nil ?_; refine k_on ?_
  refine c_condD rfl (fun h1 => ?_) (fun h1 => ?_)
  · refine c_seq ?_; refine c_region ?_; refine w_asg (v := .bool _) rfl ?_; refine w_nil ?_; refine k_on ?_; refine c_ret ?_; refine k_ret (?_)
    refine r_one (v := .bool _) rfl rfl rfl ?_
    exact fun w' hw => ⟨by rw [smsSame_eq, pairOk_len (by omega)], hw.fr _ (.head _)⟩
  · have hlen : l.length = r.length := (by omega)
    refine c_skip ?_; refine k_on ?_; refine c_seq ?_; refine c_seq ?_; refine c_region ?_; refine w_asg (v := .int _ _) rfl ?_; refine w_nil ?_; refine k_on ?_; refine c_block ?_
    refine c_loop (fun m e B L => ∃ (k : Nat), e 0 = .slice a l.length c ∧ e 1 = .slice b r.length d ∧ e 5 = .int .i64 (k : Nat) ∧ B = [(w, No)] ∧ L = [] ∧ k ≤ l.length ∧ (∀ p ∈ (l.zip r).take k, (!smSame p.1 p.2) = false) ∧ m = l.length - k) _ ⟨0, rfl, rfl, rfl, rfl, rfl, Nat.zero_le _, (by simp), rfl⟩ ?_
    rintro m e B L ⟨k, e0_1, e1_1, e5_1, rfl, rfl, hk, hy, rfl⟩
    refine c_seq ?_; refine c_seq ?_; refine c_region ?_; refine w_move (v := .int _ _) e5_1 ?_; refine w_move (v := .slice _ _ _) e0_1 ?_; refine w_r (fun _ => R_len sl35 rfl) rfl rfl ?_
    refine w_r (fun _ => R_lt rfl rfl) rfl rfl ?_; refine w_nil ?_; refine k_on ?_
    refine c_condD rfl (fun h2 => ?_) (fun h2 => ?_)
    · have hlt : k < l.length := (by omega); obtain ⟨x, hxk⟩ : ∃ x, l[k]? = some x := ⟨_, List.getElem?_eq_getElem hlt⟩; obtain ⟨z, hzk⟩ : ∃ z, r[k]? = some z := ⟨_, List.getElem?_eq_getElem (by omega)⟩; obtain ⟨cs, hA, hE⟩ := hm.get0 hxk; obtain ⟨ds, hA2, hE2⟩ := hm2.get0 hzk; have hxn := smsW_mem (List.mem_of_getElem? hxk); obtain ⟨b1, o1, rfl⟩ := hA.ptr; obtain ⟨b2, o2, rfl⟩ := hA2.ptr; have hxe := hxk; have hze := hzk; have hEx := hE; have hEz := hE2; obtain ⟨op, at_, nm, ks, bo, el⟩ := x; obtain ⟨op2, at2, nm2, ks2, bo2, el2⟩ := z; unfold smM at hEx hEz; obtain ⟨ka, kc, ba, bc, ea, ec, rfl, hkc, hks, hbo, hel⟩ := hEx; obtain ⟨ka2, kc2, ba2, bc2, ea2, ec2, rfl, hkc2, hks2, hbo2, hel2⟩ := hEz; have hxw := hxn; unfold smW at hxw
      refine c_skip ?_; refine k_on ?_; refine c_seq ?_; refine c_block ?_; refine c_seq ?_; refine c_draw mixed (by kernel_rfl) ?_; refine w_move (v := .slice _ _ _) e0_1 ?_
      refine w_move (v := .int _ _) e5_1 ?_; refine w_r (fun _ => R_iaN (i := k) sl35 rfl rfl (by first | omega | decide)) rfl rfl ?_; refine w_fa fa70_0 rfl ?_; refine w_load z5 rfl (fun _ h => by first | exact hA.cell (fun _ _ hh => hh) (.head _) h 0 _ rfl | exact hA.cell (fun _ _ hh => hh) (.head _) h 2 _ rfl | exact hA.cell (fun _ _ hh => hh) (.head _) h 3 _ rfl | exact hA.cell (fun _ _ hh => hh) (.head _) h 4 _ rfl | exact hA.cell (fun _ _ hh => hh) (.head _) h 5 _ rfl | exact hA2.cell (fun _ _ hh => hh) (.head _) h 0 _ rfl | exact hA2.cell (fun _ _ hh => hh) (.head _) h 2 _ rfl | exact hA2.cell (fun _ _ hh => hh) (.head _) h 3 _ rfl | exact hA2.cell (fun _ _ hh => hh) (.head _) h 4 _ rfl | exact hA2.cell (fun _ _ hh => hh) (.head _) h 5 _ rfl) ?_
      refine w_move (v := .slice _ _ _) e1_1 ?_; refine w_move (v := .int _ _) e5_1 ?_; refine w_r (fun _ => R_iaN (i := k) sl35 rfl rfl (by first | omega | decide)) rfl rfl ?_
      refine w_fa fa70_0 rfl ?_; refine w_load z5 rfl (fun _ h => by first | exact hA.cell (fun _ _ hh => hh) (.head _) h 0 _ rfl | exact hA.cell (fun _ _ hh => hh) (.head _) h 2 _ rfl | exact hA.cell (fun _ _ hh => hh) (.head _) h 3 _ rfl | exact hA.cell (fun _ _ hh => hh) (.head _) h 4 _ rfl | exact hA.cell (fun _ _ hh => hh) (.head _) h 5 _ rfl | exact hA2.cell (fun _ _ hh => hh) (.head _) h 0 _ rfl | exact hA2.cell (fun _ _ hh => hh) (.head _) h 2 _ rfl | exact hA2.cell (fun _ _ hh => hh) (.head _) h 3 _ rfl | exact hA2.cell (fun _ _ hh => hh) (.head _) h 4 _ rfl | exact hA2.cell (fun _ _ hh => hh) (.head _) h 5 _ rfl) ?_
      refine w_r (fun _ => R_ne rfl rfl) rfl rfl ?_; refine w_move (v := .bool _) rfl ?_
      refine w_splitD (t := 28) rfl (fun h3 => ?_) (fun h3 => ?_)
      · have hop : ¬ op = op2 := (by omega)
        refine w_skip rfl rfl (bT h3) ?_; refine w_skip rfl rfl (bT h3) ?_; refine w_skip rfl rfl (bT h3) ?_
        refine w_skip rfl rfl (bT h3) ?_; refine w_skip rfl rfl (bT h3) ?_; refine w_skip rfl rfl (bT h3) ?_
        refine w_skip rfl rfl (bT h3) ?_; refine w_skip rfl rfl (bT h3) ?_; refine w_skip rfl rfl (bT h3) ?_
        refine w_skip rfl rfl (bT h3) ?_; refine w_skip rfl rfl (bT h3) ?_; refine w_r (v := .bool _) (fun _ => R_pickT (bT h3) rfl) rfl rfl ?_
        refine w_move (v := .bool _) rfl ?_; refine w_skip rfl rfl rfl ?_; refine w_skip rfl rfl rfl ?_; refine w_skip rfl rfl rfl ?_; refine w_skip rfl rfl rfl ?_; refine w_skip rfl rfl rfl ?_
        refine w_skip rfl rfl rfl ?_; refine w_skip rfl rfl rfl ?_; refine w_skip rfl rfl rfl ?_; refine w_skip rfl rfl rfl ?_; refine w_skip rfl rfl rfl ?_; refine w_skip rfl rfl rfl ?_
        refine w_skip rfl rfl rfl ?_; refine w_r (v := .bool _) (fun _ => R_pickT rfl rfl) rfl rfl ?_; refine w_move (v := .bool _) rfl ?_; refine w_skip rfl rfl rfl ?_
        refine w_skip rfl rfl rfl ?_; refine w_skip rfl rfl rfl ?_; refine w_skip rfl rfl rfl ?_; refine w_skip rfl rfl rfl ?_; refine w_skip rfl rfl rfl ?_; refine w_skip rfl rfl rfl ?_
        refine w_skip rfl rfl rfl ?_; refine w_skip rfl rfl rfl ?_; refine w_skip rfl rfl rfl ?_; refine w_skip rfl rfl rfl ?_; refine w_skip rfl rfl rfl ?_; refine w_r (v := .bool _) (fun _ => R_pickT rfl rfl) rfl rfl ?_
        refine w_move (v := .bool _) rfl ?_; refine w_skip rfl rfl rfl ?_; refine w_skip rfl rfl rfl ?_; refine w_skip rfl rfl rfl ?_; refine w_skip rfl rfl rfl ?_; refine w_skip rfl rfl rfl ?_
        refine w_skip rfl rfl rfl ?_; refine w_skip rfl rfl rfl ?_; refine w_skip rfl rfl rfl ?_; refine w_skip rfl rfl rfl ?_; refine w_skip rfl rfl rfl ?_; refine w_skip rfl rfl rfl ?_
        refine w_skip rfl rfl rfl ?_; refine w_r (v := .bool _) (fun _ => R_pickT rfl rfl) rfl rfl ?_; refine w_nil ?_; refine k_on ?_; refine c_condT rfl ?_; refine c_seq ?_
        refine c_region ?_; refine w_asg (v := .bool _) rfl ?_; refine w_nil ?_; refine k_on ?_; refine c_ret ?_; refine b_ret (k_ret (k_ret (b_ret (k_ret (?_)))))
        refine r_one (v := .bool _) rfl rfl rfl ?_
        exact fun w' hw => ⟨by rw [smsSame_eq]; first | (rw [pairOk_yes hlen hy (by omega)]; done) | (rw [pairOk_no hxk hzk (by (try clear hm); (try clear hm2); (try clear hA); (try clear hE); (try clear hA2); (try clear hE2); (try clear hEx); (try clear hEz); (try clear hks); (try clear hks2); (try clear hbo); (try clear hbo2); (try clear hel); (try clear hel2); (try clear hw); (try clear hxn); (try clear ih); (try clear hl); (try clear hx); (try clear hy); (try clear e0_1); (try clear e1_1); (try clear e5_1); simp only [smSame, Sm.op, Sm.nm, Sm.kids, Sm.body, Sm.els]; simp_all)]; done), hw.fr _ (.head _)⟩
      · have hop : op = op2 := (by omega)
        refine w_want rfl rfl (bF h3) ?_; refine w_move (v := .slice _ _ _) e0_1 ?_; refine w_want rfl rfl (bF h3) ?_
        refine w_move (v := .int _ _) e5_1 ?_; refine w_want rfl rfl (bF h3) ?_; refine w_r (fun _ => R_iaN (i := k) sl35 rfl rfl (by first | omega | decide)) rfl rfl ?_
        refine w_want rfl rfl (bF h3) ?_; refine w_fa fa70_2 rfl ?_; refine w_want rfl rfl (bF h3) ?_
        refine w_load z9 rfl (fun _ h => by first | exact hA.cell (fun _ _ hh => hh) (.head _) h 0 _ rfl | exact hA.cell (fun _ _ hh => hh) (.head _) h 2 _ rfl | exact hA.cell (fun _ _ hh => hh) (.head _) h 3 _ rfl | exact hA.cell (fun _ _ hh => hh) (.head _) h 4 _ rfl | exact hA.cell (fun _ _ hh => hh) (.head _) h 5 _ rfl | exact hA2.cell (fun _ _ hh => hh) (.head _) h 0 _ rfl | exact hA2.cell (fun _ _ hh => hh) (.head _) h 2 _ rfl | exact hA2.cell (fun _ _ hh => hh) (.head _) h 3 _ rfl | exact hA2.cell (fun _ _ hh => hh) (.head _) h 4 _ rfl | exact hA2.cell (fun _ _ hh => hh) (.head _) h 5 _ rfl) ?_
        refine w_want rfl rfl (bF h3) ?_; refine w_move (v := .slice _ _ _) e1_1 ?_; refine w_want rfl rfl (bF h3) ?_
        refine w_move (v := .int _ _) e5_1 ?_; refine w_want rfl rfl (bF h3) ?_; refine w_r (fun _ => R_iaN (i := k) sl35 rfl rfl (by first | omega | decide)) rfl rfl ?_
        refine w_want rfl rfl (bF h3) ?_; refine w_fa fa70_2 rfl ?_; refine w_want rfl rfl (bF h3) ?_
        refine w_load z9 rfl (fun _ h => by first | exact hA.cell (fun _ _ hh => hh) (.head _) h 0 _ rfl | exact hA.cell (fun _ _ hh => hh) (.head _) h 2 _ rfl | exact hA.cell (fun _ _ hh => hh) (.head _) h 3 _ rfl | exact hA.cell (fun _ _ hh => hh) (.head _) h 4 _ rfl | exact hA.cell (fun _ _ hh => hh) (.head _) h 5 _ rfl | exact hA2.cell (fun _ _ hh => hh) (.head _) h 0 _ rfl | exact hA2.cell (fun _ _ hh => hh) (.head _) h 2 _ rfl | exact hA2.cell (fun _ _ hh => hh) (.head _) h 3 _ rfl | exact hA2.cell (fun _ _ hh => hh) (.head _) h 4 _ rfl | exact hA2.cell (fun _ _ hh => hh) (.head _) h 5 _ rfl) ?_
        refine w_want rfl rfl (bF h3) ?_; refine w_r (fun _ => R_sne rfl rfl) rfl rfl ?_; refine w_r (v := .bool _) (fun _ => R_pickF (bF h3) rfl) rfl rfl ?_
        refine w_move (v := .bool _) rfl ?_
        refine w_splitD (t := 41) rfl (fun h4 => ?_) (fun h4 => ?_)
        · refine w_skip rfl rfl (bT h4) ?_; refine w_skip rfl rfl (bT h4) ?_; refine w_skip rfl rfl (bT h4) ?_
          refine w_skip rfl rfl (bT h4) ?_; refine w_skip rfl rfl (bT h4) ?_; refine w_skip rfl rfl (bT h4) ?_
          refine w_skip rfl rfl (bT h4) ?_; refine w_skip rfl rfl (bT h4) ?_; refine w_skip rfl rfl (bT h4) ?_
          refine w_skip rfl rfl (bT h4) ?_; refine w_skip rfl rfl (bT h4) ?_; refine w_skip rfl rfl (bT h4) ?_
          refine w_r (v := .bool _) (fun _ => R_pickT (bT h4) rfl) rfl rfl ?_; refine w_move (v := .bool _) rfl ?_; refine w_skip rfl rfl rfl ?_
          refine w_skip rfl rfl rfl ?_; refine w_skip rfl rfl rfl ?_; refine w_skip rfl rfl rfl ?_; refine w_skip rfl rfl rfl ?_; refine w_skip rfl rfl rfl ?_; refine w_skip rfl rfl rfl ?_
          refine w_skip rfl rfl rfl ?_; refine w_skip rfl rfl rfl ?_; refine w_skip rfl rfl rfl ?_; refine w_skip rfl rfl rfl ?_; refine w_skip rfl rfl rfl ?_; refine w_r (v := .bool _) (fun _ => R_pickT rfl rfl) rfl rfl ?_
          refine w_move (v := .bool _) rfl ?_; refine w_skip rfl rfl rfl ?_; refine w_skip rfl rfl rfl ?_; refine w_skip rfl rfl rfl ?_; refine w_skip rfl rfl rfl ?_; refine w_skip rfl rfl rfl ?_
          refine w_skip rfl rfl rfl ?_; refine w_skip rfl rfl rfl ?_; refine w_skip rfl rfl rfl ?_; refine w_skip rfl rfl rfl ?_; refine w_skip rfl rfl rfl ?_; refine w_skip rfl rfl rfl ?_
          refine w_skip rfl rfl rfl ?_; refine w_r (v := .bool _) (fun _ => R_pickT rfl rfl) rfl rfl ?_; refine w_nil ?_; refine k_on ?_; refine c_condT rfl ?_; refine c_seq ?_
          refine c_region ?_; refine w_asg (v := .bool _) rfl ?_; refine w_nil ?_; refine k_on ?_; refine c_ret ?_; refine b_ret (k_ret (k_ret (b_ret (k_ret (?_)))))
          refine r_one (v := .bool _) rfl rfl rfl ?_
          exact fun w' hw => ⟨by rw [smsSame_eq]; first | (rw [pairOk_yes hlen hy (by omega)]; done) | (rw [pairOk_no hxk hzk (by (try clear hm); (try clear hm2); (try clear hA); (try clear hE); (try clear hA2); (try clear hE2); (try clear hEx); (try clear hEz); (try clear hks); (try clear hks2); (try clear hbo); (try clear hbo2); (try clear hel); (try clear hel2); (try clear hw); (try clear hxn); (try clear ih); (try clear hl); (try clear hx); (try clear hy); (try clear e0_1); (try clear e1_1); (try clear e5_1); simp only [smSame, Sm.op, Sm.nm, Sm.kids, Sm.body, Sm.els]; simp_all)]; done), hw.fr _ (.head _)⟩
        · refine w_want rfl rfl (bF h4) ?_; refine w_move (v := .slice _ _ _) e0_1 ?_; refine w_want rfl rfl (bF h4) ?_
          refine w_move (v := .int _ _) e5_1 ?_; refine w_want rfl rfl (bF h4) ?_; refine w_r (fun _ => R_iaN (i := k) sl35 rfl rfl (by first | omega | decide)) rfl rfl ?_
          refine w_want rfl rfl (bF h4) ?_; refine w_fa fa70_3 rfl ?_; refine w_want rfl rfl (bF h4) ?_
          refine w_load z22 rfl (fun _ h => by first | exact hA.cell (fun _ _ hh => hh) (.head _) h 0 _ rfl | exact hA.cell (fun _ _ hh => hh) (.head _) h 2 _ rfl | exact hA.cell (fun _ _ hh => hh) (.head _) h 3 _ rfl | exact hA.cell (fun _ _ hh => hh) (.head _) h 4 _ rfl | exact hA.cell (fun _ _ hh => hh) (.head _) h 5 _ rfl | exact hA2.cell (fun _ _ hh => hh) (.head _) h 0 _ rfl | exact hA2.cell (fun _ _ hh => hh) (.head _) h 2 _ rfl | exact hA2.cell (fun _ _ hh => hh) (.head _) h 3 _ rfl | exact hA2.cell (fun _ _ hh => hh) (.head _) h 4 _ rfl | exact hA2.cell (fun _ _ hh => hh) (.head _) h 5 _ rfl) ?_
          refine w_want rfl rfl (bF h4) ?_; refine w_move (v := .slice _ _ _) e1_1 ?_; refine w_want rfl rfl (bF h4) ?_
          refine w_move (v := .int _ _) e5_1 ?_; refine w_want rfl rfl (bF h4) ?_; refine w_r (fun _ => R_iaN (i := k) sl35 rfl rfl (by first | omega | decide)) rfl rfl ?_
          refine w_want rfl rfl (bF h4) ?_; refine w_fa fa70_3 rfl ?_; refine w_want rfl rfl (bF h4) ?_
          refine w_load z22 rfl (fun _ h => by first | exact hA.cell (fun _ _ hh => hh) (.head _) h 0 _ rfl | exact hA.cell (fun _ _ hh => hh) (.head _) h 2 _ rfl | exact hA.cell (fun _ _ hh => hh) (.head _) h 3 _ rfl | exact hA.cell (fun _ _ hh => hh) (.head _) h 4 _ rfl | exact hA.cell (fun _ _ hh => hh) (.head _) h 5 _ rfl | exact hA2.cell (fun _ _ hh => hh) (.head _) h 0 _ rfl | exact hA2.cell (fun _ _ hh => hh) (.head _) h 2 _ rfl | exact hA2.cell (fun _ _ hh => hh) (.head _) h 3 _ rfl | exact hA2.cell (fun _ _ hh => hh) (.head _) h 4 _ rfl | exact hA2.cell (fun _ _ hh => hh) (.head _) h 5 _ rfl) ?_
          refine w_want rfl rfl (bF h4) ?_; refine w_call (fun w => R_call Tryz.func32 rfl rfl rfl) rfl rfl (fun w h => rsames_spec _ rsame_ok ks ks2 ka ka2 kc kc2 N w (fun x hx => by have := exsW_mem hx; omega) (by omega) (hks.now (fun _ _ hh => hh) (.head _) h) (hks2.now (fun _ _ hh => hh) (.head _) h)) ?_
          refine w_want rfl rfl (bF h4) ?_; refine w_r (fun _ => R_not rfl) rfl rfl ?_; refine w_r (v := .bool _) (fun _ => R_pickF (bF h4) rfl) rfl rfl ?_
          refine w_move (v := .bool _) rfl ?_
          refine w_split (t := 55) rfl (fun h5 => ?_) (fun h5 => ?_)
          · refine w_skip rfl rfl (bV h5) ?_; refine w_skip rfl rfl (bV h5) ?_; refine w_skip rfl rfl (bV h5) ?_; refine w_skip rfl rfl (bV h5) ?_
            refine w_skip rfl rfl (bV h5) ?_; refine w_skip rfl rfl (bV h5) ?_; refine w_skip rfl rfl (bV h5) ?_; refine w_skip rfl rfl (bV h5) ?_
            refine w_skip rfl rfl (bV h5) ?_; refine w_skip rfl rfl (bV h5) ?_; refine w_skip rfl rfl (bV h5) ?_; refine w_skip rfl rfl (bV h5) ?_
            refine w_r (v := .bool _) (fun _ => R_pickT (bV h5) rfl) rfl rfl ?_; refine w_move (v := .bool _) rfl ?_; refine w_skip rfl rfl rfl ?_; refine w_skip rfl rfl rfl ?_
            refine w_skip rfl rfl rfl ?_; refine w_skip rfl rfl rfl ?_; refine w_skip rfl rfl rfl ?_; refine w_skip rfl rfl rfl ?_; refine w_skip rfl rfl rfl ?_; refine w_skip rfl rfl rfl ?_
            refine w_skip rfl rfl rfl ?_; refine w_skip rfl rfl rfl ?_; refine w_skip rfl rfl rfl ?_; refine w_skip rfl rfl rfl ?_; refine w_r (v := .bool _) (fun _ => R_pickT rfl rfl) rfl rfl ?_
            refine w_nil ?_; refine k_on ?_; refine c_condT rfl ?_; refine c_seq ?_; refine c_region ?_; refine w_asg (v := .bool _) rfl ?_; refine w_nil ?_; refine k_on ?_; refine c_ret ?_
            refine b_ret (k_ret (k_ret (b_ret (k_ret (?_)))))
            refine r_one (v := .bool _) rfl rfl rfl ?_
            exact fun w' hw => ⟨by rw [smsSame_eq]; first | (rw [pairOk_yes hlen hy (by omega)]; done) | (rw [pairOk_no hxk hzk (by (try clear hm); (try clear hm2); (try clear hA); (try clear hE); (try clear hA2); (try clear hE2); (try clear hEx); (try clear hEz); (try clear hks); (try clear hks2); (try clear hbo); (try clear hbo2); (try clear hel); (try clear hel2); (try clear hw); (try clear hxn); (try clear ih); (try clear hl); (try clear hx); (try clear hy); (try clear e0_1); (try clear e1_1); (try clear e5_1); simp only [smSame, Sm.op, Sm.nm, Sm.kids, Sm.body, Sm.els]; simp_all)]; done), hw.fr _ (.head _)⟩
          · refine w_want rfl rfl (bV h5) ?_; refine w_move (v := .slice _ _ _) e0_1 ?_; refine w_want rfl rfl (bV h5) ?_; refine w_move (v := .int _ _) e5_1 ?_
            refine w_want rfl rfl (bV h5) ?_; refine w_r (fun _ => R_iaN (i := k) sl35 rfl rfl (by first | omega | decide)) rfl rfl ?_; refine w_want rfl rfl (bV h5) ?_
            refine w_fa fa70_4 rfl ?_; refine w_want rfl rfl (bV h5) ?_; refine w_load z35 rfl (fun _ h => by first | exact hA.cell (fun _ _ hh => hh) (.head _) h 0 _ rfl | exact hA.cell (fun _ _ hh => hh) (.head _) h 2 _ rfl | exact hA.cell (fun _ _ hh => hh) (.head _) h 3 _ rfl | exact hA.cell (fun _ _ hh => hh) (.head _) h 4 _ rfl | exact hA.cell (fun _ _ hh => hh) (.head _) h 5 _ rfl | exact hA2.cell (fun _ _ hh => hh) (.head _) h 0 _ rfl | exact hA2.cell (fun _ _ hh => hh) (.head _) h 2 _ rfl | exact hA2.cell (fun _ _ hh => hh) (.head _) h 3 _ rfl | exact hA2.cell (fun _ _ hh => hh) (.head _) h 4 _ rfl | exact hA2.cell (fun _ _ hh => hh) (.head _) h 5 _ rfl) ?_
            refine w_want rfl rfl (bV h5) ?_; refine w_move (v := .slice _ _ _) e1_1 ?_; refine w_want rfl rfl (bV h5) ?_; refine w_move (v := .int _ _) e5_1 ?_
            refine w_want rfl rfl (bV h5) ?_; refine w_r (fun _ => R_iaN (i := k) sl35 rfl rfl (by first | omega | decide)) rfl rfl ?_; refine w_want rfl rfl (bV h5) ?_
            refine w_fa fa70_4 rfl ?_; refine w_want rfl rfl (bV h5) ?_; refine w_load z35 rfl (fun _ h => by first | exact hA.cell (fun _ _ hh => hh) (.head _) h 0 _ rfl | exact hA.cell (fun _ _ hh => hh) (.head _) h 2 _ rfl | exact hA.cell (fun _ _ hh => hh) (.head _) h 3 _ rfl | exact hA.cell (fun _ _ hh => hh) (.head _) h 4 _ rfl | exact hA.cell (fun _ _ hh => hh) (.head _) h 5 _ rfl | exact hA2.cell (fun _ _ hh => hh) (.head _) h 0 _ rfl | exact hA2.cell (fun _ _ hh => hh) (.head _) h 2 _ rfl | exact hA2.cell (fun _ _ hh => hh) (.head _) h 3 _ rfl | exact hA2.cell (fun _ _ hh => hh) (.head _) h 4 _ rfl | exact hA2.cell (fun _ _ hh => hh) (.head _) h 5 _ rfl) ?_
            refine w_want rfl rfl (bV h5) ?_; refine w_call (fun w => R_call Tryz.func46 rfl rfl rfl) rfl rfl (fun w h => ih bo bo2 ba ba2 bc bc2 N w (by omega) (by omega) (hbo.now (fun _ _ hh => hh) (.head _) h) (hbo2.now (fun _ _ hh => hh) (.head _) h)) ?_
            refine w_want rfl rfl (bV h5) ?_; refine w_r (fun _ => R_not rfl) rfl rfl ?_; refine w_r (v := .bool _) (fun _ => R_pickF (bV h5) rfl) rfl rfl ?_
            refine w_move (v := .bool _) rfl ?_
            refine w_split (t := 69) rfl (fun h6 => ?_) (fun h6 => ?_)
            · refine w_skip rfl rfl (bV h6) ?_; refine w_skip rfl rfl (bV h6) ?_; refine w_skip rfl rfl (bV h6) ?_; refine w_skip rfl rfl (bV h6) ?_
              refine w_skip rfl rfl (bV h6) ?_; refine w_skip rfl rfl (bV h6) ?_; refine w_skip rfl rfl (bV h6) ?_; refine w_skip rfl rfl (bV h6) ?_
              refine w_skip rfl rfl (bV h6) ?_; refine w_skip rfl rfl (bV h6) ?_; refine w_skip rfl rfl (bV h6) ?_; refine w_skip rfl rfl (bV h6) ?_
              refine w_r (v := .bool _) (fun _ => R_pickT (bV h6) rfl) rfl rfl ?_; refine w_nil ?_; refine k_on ?_; refine c_condT rfl ?_; refine c_seq ?_; refine c_region ?_
              refine w_asg (v := .bool _) rfl ?_; refine w_nil ?_; refine k_on ?_; refine c_ret ?_; refine b_ret (k_ret (k_ret (b_ret (k_ret (?_)))))
              refine r_one (v := .bool _) rfl rfl rfl ?_
              exact fun w' hw => ⟨by rw [smsSame_eq]; first | (rw [pairOk_yes hlen hy (by omega)]; done) | (rw [pairOk_no hxk hzk (by (try clear hm); (try clear hm2); (try clear hA); (try clear hE); (try clear hA2); (try clear hE2); (try clear hEx); (try clear hEz); (try clear hks); (try clear hks2); (try clear hbo); (try clear hbo2); (try clear hel); (try clear hel2); (try clear hw); (try clear hxn); (try clear ih); (try clear hl); (try clear hx); (try clear hy); (try clear e0_1); (try clear e1_1); (try clear e5_1); simp only [smSame, Sm.op, Sm.nm, Sm.kids, Sm.body, Sm.els]; simp_all)]; done), hw.fr _ (.head _)⟩
            · refine w_want rfl rfl (bV h6) ?_; refine w_move (v := .slice _ _ _) e0_1 ?_; refine w_want rfl rfl (bV h6) ?_; refine w_move (v := .int _ _) e5_1 ?_
              refine w_want rfl rfl (bV h6) ?_; refine w_r (fun _ => R_iaN (i := k) sl35 rfl rfl (by first | omega | decide)) rfl rfl ?_; refine w_want rfl rfl (bV h6) ?_
              refine w_fa fa70_5 rfl ?_; refine w_want rfl rfl (bV h6) ?_; refine w_load z35 rfl (fun _ h => by first | exact hA.cell (fun _ _ hh => hh) (.head _) h 0 _ rfl | exact hA.cell (fun _ _ hh => hh) (.head _) h 2 _ rfl | exact hA.cell (fun _ _ hh => hh) (.head _) h 3 _ rfl | exact hA.cell (fun _ _ hh => hh) (.head _) h 4 _ rfl | exact hA.cell (fun _ _ hh => hh) (.head _) h 5 _ rfl | exact hA2.cell (fun _ _ hh => hh) (.head _) h 0 _ rfl | exact hA2.cell (fun _ _ hh => hh) (.head _) h 2 _ rfl | exact hA2.cell (fun _ _ hh => hh) (.head _) h 3 _ rfl | exact hA2.cell (fun _ _ hh => hh) (.head _) h 4 _ rfl | exact hA2.cell (fun _ _ hh => hh) (.head _) h 5 _ rfl) ?_
              refine w_want rfl rfl (bV h6) ?_; refine w_move (v := .slice _ _ _) e1_1 ?_; refine w_want rfl rfl (bV h6) ?_; refine w_move (v := .int _ _) e5_1 ?_
              refine w_want rfl rfl (bV h6) ?_; refine w_r (fun _ => R_iaN (i := k) sl35 rfl rfl (by first | omega | decide)) rfl rfl ?_; refine w_want rfl rfl (bV h6) ?_
              refine w_fa fa70_5 rfl ?_; refine w_want rfl rfl (bV h6) ?_; refine w_load z35 rfl (fun _ h => by first | exact hA.cell (fun _ _ hh => hh) (.head _) h 0 _ rfl | exact hA.cell (fun _ _ hh => hh) (.head _) h 2 _ rfl | exact hA.cell (fun _ _ hh => hh) (.head _) h 3 _ rfl | exact hA.cell (fun _ _ hh => hh) (.head _) h 4 _ rfl | exact hA.cell (fun _ _ hh => hh) (.head _) h 5 _ rfl | exact hA2.cell (fun _ _ hh => hh) (.head _) h 0 _ rfl | exact hA2.cell (fun _ _ hh => hh) (.head _) h 2 _ rfl | exact hA2.cell (fun _ _ hh => hh) (.head _) h 3 _ rfl | exact hA2.cell (fun _ _ hh => hh) (.head _) h 4 _ rfl | exact hA2.cell (fun _ _ hh => hh) (.head _) h 5 _ rfl) ?_
              refine w_want rfl rfl (bV h6) ?_; refine w_call (fun w => R_call Tryz.func46 rfl rfl rfl) rfl rfl (fun w h => ih el el2 ea ea2 ec ec2 N w (by omega) (by omega) (hel.now (fun _ _ hh => hh) (.head _) h) (hel2.now (fun _ _ hh => hh) (.head _) h)) ?_
              refine w_want rfl rfl (bV h6) ?_; refine w_r (fun _ => R_not rfl) rfl rfl ?_; refine w_r (v := .bool _) (fun _ => R_pickF (bV h6) rfl) rfl rfl ?_
              refine w_nil ?_; refine k_on ?_
              refine c_condN rfl (fun h7 => ?_) (fun h7 => ?_)
              · refine c_seq ?_; refine c_region ?_; refine w_asg (v := .bool _) rfl ?_; refine w_nil ?_; refine k_on ?_; refine c_ret ?_; refine b_ret (k_ret (k_ret (b_ret (k_ret (?_)))))
                refine r_one (v := .bool _) rfl rfl rfl ?_
                exact fun w' hw => ⟨by rw [smsSame_eq]; first | (rw [pairOk_yes hlen hy (by omega)]; done) | (rw [pairOk_no hxk hzk (by (try clear hm); (try clear hm2); (try clear hA); (try clear hE); (try clear hA2); (try clear hE2); (try clear hEx); (try clear hEz); (try clear hks); (try clear hks2); (try clear hbo); (try clear hbo2); (try clear hel); (try clear hel2); (try clear hw); (try clear hxn); (try clear ih); (try clear hl); (try clear hx); (try clear hy); (try clear e0_1); (try clear e1_1); (try clear e5_1); simp only [smSame, Sm.op, Sm.nm, Sm.kids, Sm.body, Sm.els]; simp_all)]; done), hw.fr _ (.head _)⟩
              · refine c_skip ?_; refine b_on (k_on ?_); refine c_region ?_; refine w_move (v := .int _ _) e5_1 ?_; refine w_r (fun _ => R_addi rfl rfl (by omega)) rfl rfl ?_; refine w_asg (v := .int _ _) rfl ?_
                refine w_nil ?_
                exact k_again _ (by omega) ⟨k + 1, e0_1, e1_1, rfl, rfl, rfl, by omega, pair_next hy hxk hzk (by (try clear hm); (try clear hm2); (try clear hA); (try clear hE); (try clear hA2); (try clear hE2); (try clear hEx); (try clear hEz); (try clear hks); (try clear hks2); (try clear hbo); (try clear hbo2); (try clear hel); (try clear hel2); (try clear hw); (try clear hxn); (try clear ih); (try clear hl); (try clear hx); (try clear hy); (try clear e0_1); (try clear e1_1); (try clear e5_1); simp only [smSame, Sm.op, Sm.nm, Sm.kids, Sm.body, Sm.els]; simp_all), rfl⟩
    · refine c_exit ?_; refine k_exit (k_exit (b_here rfl (k_on ?_))); refine c_seq ?_; refine c_region ?_; refine w_asg (v := .bool _) rfl ?_; refine w_nil ?_; refine k_on ?_
      refine c_ret ?_
      refine r_one (v := .bool _) rfl rfl rfl ?_
      exact fun w' hw => ⟨by rw [smsSame_eq]; first | (rw [pairOk_yes hlen hy (by omega)]; done) | (rw [pairOk_no hxk hzk (by (try clear hm); (try clear hm2); (try clear hA); (try clear hE); (try clear hA2); (try clear hE2); (try clear hEx); (try clear hEz); (try clear hks); (try clear hks2); (try clear hbo); (try clear hbo2); (try clear hel); (try clear hel2); (try clear hw); (try clear hxn); (try clear ih); (try clear hl); (try clear hx); (try clear hy); (try clear e0_1); (try clear e1_1); (try clear e5_1); simp only [smSame, Sm.op, Sm.nm, Sm.kids, Sm.body, Sm.els]; simp_all)]; done), hw.fr _ (.head _)⟩


theorem rsameS_all : ∀ n : Nat, n ≤ 10000000 → RSameS n
  | 0, _ => fun _ _ _ _ _ _ _ _ h => absurd h (Nat.not_lt_zero _)
  | n + 1, h => rsameS_step n (rsameS_all n (by omega)) (by omega)
theorem rsameS_ok : RSameS 10000000 := rsameS_all _ (Nat.le_refl _)
end Go.Proofs.YtcmcdgkjipnfnaaGreatDoor
end

section
/- Regions that draw their order: two that may come up, one by one; allocations and stores among them. -/
namespace Go.Sx
open Go.RowKit
/-- number i comes up -/
def WO (P : Program) (ops : Array Oper) (c : Cf) (Q : Exit → Act → World → Prop) (S : World → Prop) (fuel : Nat) (listed : Array Bool) (i : Nat) (e : Env) (B : Base) (L : Heap) : Prop :=
  ∀ w, St B L w → wpOp P ops (Qn Q) i (fun a' w' => S w' ∧ wpAnyH P .any ops (Qn Q) S fuel (listed.setIfInBounds i true) a' w') (act c e) w
section
variable {P : Program} {ops : Array Oper} {Q : Exit → Act → World → Prop} {c : Cf} {e : Env} {B B' : Base} {L L' : Heap} {o : Oper} {v : Value} {d id fuel : Nat} {S : World → Prop} {listed : Array Bool}
theorem h_two (i j : Nat) (hr : Region.ready .any ops listed = [i, j]) (hs : ∀ w, St B L w → S w) (h1 : WO P ops c Q S fuel listed i e B L) (h2 : WO P ops c Q S fuel listed j e B L) : WH P ops c Q S (fuel + 1) listed e B L := by
  refine ⟨hs, fun w hw => wpAnyH_all hr (by simp) (fun k hk => ?_)⟩
  rcases List.mem_cons.1 hk with rfl | hk
  · exact h1 w hw
  · obtain rfl : k = j := by simpa using hk
    exact h2 w hw
theorem h_one (i : Nat) (hr : Region.ready .any ops listed = [i]) (hs : ∀ w, St B L w → S w) (h1 : WO P ops c Q S fuel listed i e B L) : WH P ops c Q S (fuel + 1) listed e B L := by
  refine ⟨hs, fun w hw => wpAnyH_all hr (by simp) (fun k hk => ?_)⟩
  obtain rfl : k = i := by simpa using hk
  exact h1 w hw
theorem o_val {i : Nat} (hi : ops[i]? = some o) (hg : plainB o = true) (hd : o.dst = some d)
    (h : ∀ w, St B L w → ∃ v w' B' L', Run P o (ev c.n e) w v w' ∧ St B' L' w' ∧ WH P ops c Q S fuel (listed.setIfInBounds i true) (upd e d v) B' L') : WO P ops c Q S fuel listed i e B L := by
  intro w hw
  obtain ⟨v, w', B', L', h1, h2, h3⟩ := h w hw
  unfold wpOp
  simp only [hi, Region.wanted, (plainB_spec hg).1, if_true]
  refine .inl ?_
  unfold Oper.wp
  unfold Run at h1
  rw [act_eval, h1, Oper.upon_value, hd, act_put]
  exact ⟨h3.s w' h2, h3.h w' h2⟩
theorem o_unit {i : Nat} (hi : ops[i]? = some o) (hg : plainB o = true) (hd : o.dst = none)
    (h : ∀ w, St B L w → ∃ w' B' L', RunU P o (ev c.n e) w w' ∧ St B' L' w' ∧ WH P ops c Q S fuel (listed.setIfInBounds i true) e B' L') : WO P ops c Q S fuel listed i e B L := by
  intro w hw
  obtain ⟨w', B', L', h1, h2, h3⟩ := h w hw
  unfold wpOp
  simp only [hi, Region.wanted, (plainB_spec hg).1, if_true]
  refine .inl ?_
  unfold Oper.wp
  unfold RunU at h1
  rw [act_eval, h1]
  simp only [Oper.upon, hd, act_put_none]
  exact ⟨h3.s w' h2, h3.h w' h2⟩
theorem o_alloc {i : Nat} {t T : TypeId} {zv : Value} {p : String} {a : Array Edge} (hi : ops[i]? = some ⟨some d, .alloc t, T, p, a, none⟩) (hz : zeroB P t zv)
    (h : ∀ b, (∀ x ∈ L, x.1 < b) → (∀ x ∈ B, x.1.heap.size ≤ b) → WH P ops c Q S fuel (listed.setIfInBounds i true) (upd e d (.pointer (some ⟨b, 0, none⟩))) B ((b, .cells zv.cells t (0, 0)) :: L)) : WO P ops c Q S fuel listed i e B L :=
  o_val hi rfl rfl fun w hw => ⟨_, _, B, _, R_alloc hz, hw.new, h w.heap.size (fun p hp => lt_of_blk (hw.own p hp)) (fun x hx => (hw.fr x hx).size)⟩
theorem o_store {i : Nat} {t T ty : TypeId} {x y : Operand} {p : String} {a : Array Edge} {b off k : Nat} {cs vs cs' : List Value} {ag : Bool} (j : Nat) (hi : ops[i]? = some ⟨none, .store t x y, ty, p, a, none⟩) (hj : L[j]? = some (b, cel cs T)) (hz : szB P t k ag = true) (hx : ev c.n e x = .pointer (some ⟨b, off, none⟩)) (hy : ev c.n e y = v)
    (hv : v.cells = vs.toArray) (hl : vs.length = k) (h1 : vs.all Value.oneCell' = true) (ho : Nat.ble (off + k) cs.length = true) (hc : cs.take off ++ vs ++ cs.drop (off + k) = cs')
    (h : WH P ops c Q S fuel (listed.setIfInBounds i true) e B (L.set j (b, cel cs' T))) : WO P ops c Q S fuel listed i e B L :=
  o_unit hi rfl rfl fun w hw => by
    subst hc
    exact ⟨_, B, _, R_st hz hx hy hv hl h1 (hw.at_ j hj) (Nat.le_of_ble_eq_true ho), hw.put j hj, h⟩
end
attribute [irreducible] WO
section
variable {P : Program} {ρ : Operand → Value} {w : World} {D : Option Tmp} {ty t s yt : TypeId} {pos : String} {aft : Array Edge} {g : Option (Nat × Bool)} {x y : Operand} {k k' : IntKind} {i j : Int}
theorem R_rem (hx : ρ x = .int k i) (hy : ρ y = .int k j) (hj : j ≠ 0) : Run P ⟨D, .binOp .rem t x y yt, ty, pos, aft, g⟩ ρ w (.int k (i.tmod j)) w := by simp [Run, execOp, hx, hy, go_sem, hj]
theorem R_remN {n m : Nat} (hx : ρ x = .int k (n : Nat)) (hy : ρ y = .int k (m : Nat)) (hj : m ≠ 0) : Run P ⟨D, .binOp .rem t x y yt, ty, pos, aft, g⟩ ρ w (.int k ((n % m : Nat) : Int)) w := by
  have := R_rem (P := P) (w := w) (D := D) (t := t) (yt := yt) (ty := ty) (pos := pos) (aft := aft) (g := g) hx hy (by omega)
  rwa [Int.tmod_eq_emod_of_nonneg (Int.natCast_nonneg _), ← Int.natCast_emod] at this
theorem R_convN {n : Nat} (hs : P.underlying s = some (.int k)) (ht : P.underlying t = some (.int .i64)) (hx : ρ x = .int k (n : Nat)) (hn : n ≤ 9223372036854775807) : Run P ⟨D, .convert s t x, ty, pos, aft, g⟩ ρ w (.int .i64 (n : Nat)) w := by
  have := R_convI (P := P) (w := w) (D := D) (ty := ty) (pos := pos) (aft := aft) (g := g) hs ht hx
  rwa [wrap_i64 (by omega) (by omega)] at this
end
/-! naturals among integers: for simp -/
theorem nc_eq (a b : Nat) : ((a : Int) = (b : Int)) = (a = b) := propext ⟨fun h => by omega, fun h => by omega⟩
theorem nc_eql (a n : Nat) : ((a : Int) = (no_index (@OfNat.ofNat Int n instOfNat))) = (a = @OfNat.ofNat Nat n (instOfNatNat n)) := propext ⟨fun h => Int.ofNat.inj h, fun h => congrArg Int.ofNat h⟩
theorem nc_lt (a b : Nat) : ((a : Int) < (b : Int)) = (a < b) := propext ⟨fun h => by omega, fun h => by omega⟩
theorem nc_le (a b : Nat) : ((a : Int) ≤ (b : Int)) = (a ≤ b) := propext ⟨fun h => by omega, fun h => by omega⟩
theorem nc_ltl (a n : Nat) : ((a : Int) < (no_index (@OfNat.ofNat Int n instOfNat))) = (a < @OfNat.ofNat Nat n (instOfNatNat n)) := propext ⟨fun h => Int.ofNat_lt.1 h, fun h => Int.ofNat_lt.2 h⟩
theorem nc_lel (a n : Nat) : ((a : Int) ≤ (no_index (@OfNat.ofNat Int n instOfNat))) = (a ≤ @OfNat.ofNat Nat n (instOfNatNat n)) := propext ⟨fun h => Int.ofNat_le.1 h, fun h => Int.ofNat_le.2 h⟩
theorem nc_llt (a n : Nat) : ((no_index (@OfNat.ofNat Int n instOfNat)) < (a : Int)) = (@OfNat.ofNat Nat n (instOfNatNat n) < a) := propext ⟨fun h => Int.ofNat_lt.1 h, fun h => Int.ofNat_lt.2 h⟩
theorem nc_lle (a n : Nat) : ((no_index (@OfNat.ofNat Int n instOfNat)) ≤ (a : Int)) = (@OfNat.ofNat Nat n (instOfNatNat n) ≤ a) := propext ⟨fun h => Int.ofNat_le.1 h, fun h => Int.ofNat_le.2 h⟩
theorem nc_add (a b : Nat) : ((a : Int) + (b : Int)) = ((a + b : Nat) : Int) := by omega
theorem ncs : (∀ a b : Nat, ((a : Int) = (b : Int)) = (a = b)) ∧ (∀ a n : Nat, ((a : Int) = (no_index (@OfNat.ofNat Int n instOfNat))) = (a = (@OfNat.ofNat Nat n (instOfNatNat n)))) ∧ (∀ a b : Nat, ((a : Int) < (b : Int)) = (a < b)) ∧ (∀ a b : Nat, ((a : Int) ≤ (b : Int)) = (a ≤ b)) ∧ (∀ a n : Nat, ((a : Int) < (no_index (@OfNat.ofNat Int n instOfNat))) = (a < (@OfNat.ofNat Nat n (instOfNatNat n)))) ∧ (∀ a n : Nat, ((a : Int) ≤ (no_index (@OfNat.ofNat Int n instOfNat))) = (a ≤ (@OfNat.ofNat Nat n (instOfNatNat n)))) ∧ (∀ a n : Nat, ((no_index (@OfNat.ofNat Int n instOfNat)) < (a : Int)) = ((@OfNat.ofNat Nat n (instOfNatNat n)) < a)) ∧ (∀ a n : Nat, ((no_index (@OfNat.ofNat Int n instOfNat)) ≤ (a : Int)) = ((@OfNat.ofNat Nat n (instOfNatNat n)) ≤ a)) ∧ (∀ a b : Nat, ((a : Int) + (b : Int)) = ((a + b : Nat) : Int)) ∧ (∀ a b : Int, (a ≥ b) = (b ≤ a)) ∧ (∀ a b : Int, (a > b) = (b < a)) ∧ (∀ a b : Nat, (a ≥ b) = (b ≤ a)) ∧ (∀ a b : Nat, (a > b) = (b < a)) :=
  ⟨nc_eq, nc_eql, nc_lt, nc_le, nc_ltl, nc_lel, nc_llt, nc_lle, nc_add, fun _ _ => rfl, fun _ _ => rfl, fun _ _ => rfl, fun _ _ => rfl⟩
end Go.Sx
end
