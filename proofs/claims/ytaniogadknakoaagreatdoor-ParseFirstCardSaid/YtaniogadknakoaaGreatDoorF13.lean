/- Layer 13, ParseFirst: a fault by ErrSyntax at a token is the first one, and blanks or a remark behind a source that is read turn nothing (the card of the statement); without conditions. Part 13 of 14. -/
import Derived.Test.YtaniogadknakoaaGreatDoorF04
import Derived.Test.YtaniogadknakoaaGreatDoorF12
import Derived.Test.YtaniogadknakoaaGreatDoorF09
import Derived.Test.YtaniogadknakoaaGreatDoorF03
section
namespace Go.Proofs.YtaniogadknakoaaGreatDoor
open Go.RowKit Go.Sx
open Go.Tok Go.Tree


def SameH (f : FuncId) (n : Nat) : Prop := ∀ (x z : Ex) (cs ds : List Value) (N : Nat → Prop) (w : World), exW x < n → exM w N x cs → exM w N z ds → Ret Tryz.prog f #[.agg cs.toArray, .agg ds.toArray] w fun v w' => v = .bool (exSame x z) ∧ Ext w w'

set_option maxRecDepth 100000 in
set_option maxHeartbeats 1000000 in
theorem eqE_spec (n : Nat) (ih : SameH 91 n) (l r : List Ex) (a b : Option Addr) (c d : Nat) (N : Nat → Prop) (w : World) (hl : ∀ x ∈ l, exW x < n) (hll : l.length ≤ 10000000) (hm : exsM w N l a 0) (hm2 : exsM w N r b 0) :
    Ret Tryz.prog 90 #[.slice a l.length c, .slice b r.length d, .func (.func 91) #[] #[]] w (fun v w' => v = .bool (pairOk exSame l r) ∧ Ext w w') := by
  refine enter (S := No) (l := [_, _, _]) (L := []) 32 Tryz.func90 rfl rfl rfl (St.start w No) ?_; refine yA ?_; refine aB rfl ?_; refine yB ?_; refine zq ?_; refine yA ?_; refine mS rfl ?_; refine w_r (fun _ => R_len sl37 rfl) rfl rfl ?_; refine mS rfl ?_; refine w_r (fun _ => R_len sl37 rfl) rfl rfl ?_; refine w_r (fun _ => R_ne rfl rfl) rfl rfl ?_; refine yB ?_; refine zD rfl (fun h1 => ?_) (fun h1 => ?_)
  · refine yA ?_; refine aB rfl ?_; refine yB ?_; refine ze ?_; refine zt (?_)
    refine zo (v := .bool _) rfl rfl rfl ?_; exact fun w' hw => ⟨by rw [pairOk_len (by omega)], hw.fr _ (.head _)⟩
  · have hlen : l.length = r.length := (by omega)
    refine zi ?_; refine zk ?_; refine zq ?_; refine yA ?_; refine mS rfl ?_; refine w_r (fun _ => R_len sl37 rfl) rfl rfl ?_; refine mI rfl ?_; refine yB ?_; refine zB ?_; refine c_loop (fun m e B L => ∃ (k : Nat), e 1 = .slice b r.length d ∧ e 2 = .func (.func 91) #[] #[] ∧ e 15 = .slice a l.length c ∧ e 16 = .int .i64 (l.length : Nat) ∧ e 17 = .int .i64 (k : Nat) ∧ B = [(w, No)] ∧ L = [] ∧ k ≤ l.length ∧ (∀ p ∈ (l.zip r).take k, (!exSame p.1 p.2) = false) ∧ m = l.length - k) _ ⟨0, rfl, rfl, rfl, rfl, rfl, rfl, rfl, Nat.zero_le _, (by simp), rfl⟩ ?_
    rintro m e B L ⟨k, e1_1, e2_1, e15_1, e16_1, e17_1, rfl, rfl, hk, hy, rfl⟩
    refine yA ?_; refine w_r (fun _ => R_lt e17_1 e16_1) rfl rfl ?_; refine yB ?_; refine zq ?_; refine zD rfl (fun h2 => ?_) (fun h2 => ?_)
    · have hlt : k < l.length := (by omega); obtain ⟨x, hxk⟩ : ∃ x, l[k]? = some x := ⟨_, List.getElem?_eq_getElem hlt⟩; obtain ⟨z, hzk⟩ : ∃ z, r[k]? = some z := ⟨_, List.getElem?_eq_getElem (by omega)⟩; obtain ⟨cs, hA, hE⟩ := hm.get0 hxk; obtain ⟨ds, hA2, hE2⟩ := hm2.get0 hzk; have hxn := hl x (List.mem_of_getElem? hxk); obtain ⟨b1, o1, rfl⟩ := hA.ptr; obtain ⟨b2, o2, rfl⟩ := hA2.ptr; have hxe := hxk; have hze := hzk; have hEx := hE; have hEz := hE2; obtain ⟨op, at_, nm, ks⟩ := x; obtain ⟨op2, at2, nm2, ks2⟩ := z; unfold exM at hEx hEz; obtain ⟨ka, kc, rfl, hkc, hks⟩ := hEx; obtain ⟨ka2, kc2, rfl, hkc2, hks2⟩ := hEz
      refine zi ?_; refine zk ?_; refine zq ?_; refine zB ?_; refine yA ?_; refine mI e17_1 ?_; refine w_r (fun _ => R_iaN (i := k) sl37 e15_1 e17_1 (by first | omega | decide)) rfl rfl ?_; refine w_loadC (l := [.int .u8 (op : Nat), .int .i64 at_, str nm, .slice ka ks.length kc]) z39 rfl rfl (fun w h j v hj => hA.cell (fun _ _ hh => hh) (.head _) h j v hj) ?_; refine w_alloc zr39 (fun t8b gt8b ut8b => ?_)
      refine aI rfl ?_; refine w_store 0 rfl z39 rfl rfl rfl rfl rfl rfl rfl ?_; refine yC ?_; refine mS e1_1 ?_; refine mI rfl ?_; refine w_r (fun _ => R_iaN (i := k) sl37 rfl rfl (by first | omega | decide)) rfl rfl ?_; refine w_loadC (l := [.int .u8 (op2 : Nat), .int .i64 at2, str nm2, .slice ka2 ks2.length kc2]) z39 rfl rfl (fun w h j v hj => hA2.cell (fun _ _ hh => hh) (.head _) h j v hj) ?_; refine w_alloc zr39 (fun t9b gt9b ut9b => ?_)
      refine w_store 0 rfl z39 rfl rfl rfl rfl rfl rfl rfl ?_; refine yC ?_; refine zm e2_1 ?_; refine w_loadA z39 rfl (fun _ h => h.at_ 1 rfl) rfl ?_; refine w_loadA z39 rfl (fun _ h => h.at_ 0 rfl) rfl ?_; refine zC (fun w => R_callv rfl Tryz.func91 rfl rfl) rfl rfl (fun w h => ih _ _ _ _ N w hxn (hE.now (fun _ _ hh => hh) (.head _) h) (hE2.now (fun _ _ hh => hh) (.head _) h)) ?_; refine w_r (fun _ => R_not rfl) rfl rfl ?_; refine yB ?_; refine c_condN rfl (fun h5 => ?_) (fun h5 => ?_)
      · refine yA ?_; refine aB rfl ?_; refine yB ?_; refine ze ?_; refine zb (zt (zt (zb (zt (?_)))))
        refine zo (v := .bool _) rfl rfl rfl ?_; exact fun w' hw => ⟨by first | (rw [pairOk_no hxk hzk h5]; done) | (rw [pairOk_yes hlen hy (by omega)]; done), hw.fr _ (.head _)⟩
      · refine zi ?_; refine b_on (zk ?_); refine zr ?_; refine w_r (fun _ => R_addi e17_1 rfl (by omega)) rfl rfl ?_; refine mI rfl ?_; refine zn ?_; refine k_st (B' := [(w, No)]) (L' := []) (fun w h => h.drop (List.nil_sublist _)) ?_; exact k_again _ (by omega) ⟨k + 1, e1_1, e2_1, e15_1, e16_1, rfl, rfl, rfl, by omega, pair_next hy hxk hzk h5, rfl⟩
    · refine c_exit ?_; refine zx (zx (b_here rfl (zk ?_))); refine yA ?_; refine aB rfl ?_; refine yB ?_; refine ze ?_; refine zo (v := .bool _) rfl rfl rfl ?_; exact fun w' hw => ⟨by first | (rw [pairOk_no hxk hzk h5]; done) | (rw [pairOk_yes hlen hy (by omega)]; done), hw.fr _ (.head _)⟩

set_option maxRecDepth 100000 in
set_option maxHeartbeats 1000000 in
theorem same_step (n : Nat) (ih : SameH 91 n) (hN : n ≤ 10000000) (x z : Ex) (cs ds : List Value) (N : Nat → Prop) (w : World) (hx : exW x < n + 1) (hm : exM w N x cs) (hm2 : exM w N z ds) :
    Ret Tryz.prog 91 #[.agg cs.toArray, .agg ds.toArray] w (fun v w' => v = .bool (exSame x z) ∧ Ext w w') := by
  obtain ⟨op, at_, nm, ks⟩ := x
  have hmx := hm
  unfold exM at hmx
  obtain ⟨ka, kc, rfl, hkc, hks⟩ := hmx
  obtain ⟨op2, at2, nm2, ks2⟩ := z
  have hmz := hm2
  unfold exM at hmz
  obtain ⟨ka2, kc2, rfl, hkc2, hks2⟩ := hmz
  have hx2 := hx
  unfold exW at hx2
  refine enter (S := No) (l := [_, _]) (L := []) 24 Tryz.func91 rfl rfl rfl (St.start w No) ?_; refine yA ?_; refine w_boxA rfl (fun t2b gt2b ut2b => ?_)
  refine w_boxA rfl (fun t3b gt3b ut3b => ?_)
  refine aB rfl ?_; refine yC ?_; refine zf fa39_0 rfl ?_; refine zl z5 rfl (fun _ h => zc 1 rfl rfl h) ?_; refine zf fa39_0 rfl ?_; refine zl z5 rfl (fun _ h => zc 0 rfl rfl h) ?_; refine w_r (fun _ => R_eq rfl rfl) rfl rfl ?_; refine mB rfl ?_; refine zd (t := 10) rfl (fun h3 => ?_) (fun h3 => ?_)
  · have hop : op = op2 := (by omega)
    refine zw rfl rfl (bT h3) ?_; refine zf fa39_2 rfl ?_; refine zw rfl rfl (bT h3) ?_; refine zl z9 rfl (fun _ h => zc 1 rfl rfl h) ?_; refine zw rfl rfl (bT h3) ?_; refine zf fa39_2 rfl ?_; refine zw rfl rfl (bT h3) ?_; refine zl z9 rfl (fun _ h => zc 0 rfl rfl h) ?_; refine zw rfl rfl (bT h3) ?_; refine w_r (fun _ => R_seq rfl rfl) rfl rfl ?_; refine w_r (v := .bool _) (fun _ => zT (bT h3) rfl) rfl rfl ?_; refine mB rfl ?_; refine zd (t := 17) rfl (fun h4 => ?_) (fun h4 => ?_)
    · refine zw rfl rfl (bT h4) ?_; refine zf fa39_3 rfl ?_; refine zw rfl rfl (bT h4) ?_; refine zl z37 rfl (fun _ h => zc 1 rfl rfl h) ?_; refine zw rfl rfl (bT h4) ?_; refine zf fa39_3 rfl ?_; refine zw rfl rfl (bT h4) ?_; refine zl z37 rfl (fun _ h => zc 0 rfl rfl h) ?_; refine zw rfl rfl (bT h4) ?_; refine zC (fun w => zR Tryz.func90 rfl rfl rfl) rfl rfl (fun w h => eqE_spec n ih ks ks2 ka ka2 kc kc2 N w (fun x hx => by have := exsW_mem hx; omega) (by omega) (hks.now (fun _ _ hh => hh) (.head _) h) (hks2.now (fun _ _ hh => hh) (.head _) h)) ?_; refine w_r (v := .bool _) (fun _ => zT (bT h4) rfl) rfl rfl ?_; refine aB rfl ?_; refine yB ?_; refine ze ?_; refine zo (v := .bool _) rfl rfl rfl ?_
      exact fun w' hw => ⟨by (try clear hm); (try clear hm2); (try clear hmx); (try clear hmz); (try clear hks); (try clear hks2); (try clear hw); (try clear ih); (try clear hx); (try clear hx2); (try clear gt2b); (try clear gt3b); (try clear ut2b); (try clear ut3b); simp only [exSame, exsSame_eq, Ex.op, Ex.nm, Ex.kids]; simp_all, hw.fr _ (.head _)⟩
    · refine zs rfl rfl (bF h4) ?_; refine zs rfl rfl (bF h4) ?_; refine zs rfl rfl (bF h4) ?_; refine zs rfl rfl (bF h4) ?_; refine zs rfl rfl (bF h4) ?_; refine w_r (v := .bool _) (fun _ => zF (bF h4) rfl) rfl rfl ?_; refine aB rfl ?_; refine yB ?_; refine ze ?_; refine zo (v := .bool _) rfl rfl rfl ?_; exact fun w' hw => ⟨by (try clear hm); (try clear hm2); (try clear hmx); (try clear hmz); (try clear hks); (try clear hks2); (try clear hw); (try clear ih); (try clear hx); (try clear hx2); (try clear gt2b); (try clear gt3b); (try clear ut2b); (try clear ut3b); simp only [exSame, exsSame_eq, Ex.op, Ex.nm, Ex.kids]; simp_all, hw.fr _ (.head _)⟩
  · have hop : ¬ op = op2 := (by omega)
    refine zs rfl rfl (bF h3) ?_; refine zs rfl rfl (bF h3) ?_; refine zs rfl rfl (bF h3) ?_; refine zs rfl rfl (bF h3) ?_; refine zs rfl rfl (bF h3) ?_; refine w_r (v := .bool _) (fun _ => zF (bF h3) rfl) rfl rfl ?_; refine mB rfl ?_; refine zs rfl rfl rfl ?_; refine zs rfl rfl rfl ?_; refine zs rfl rfl rfl ?_; refine zs rfl rfl rfl ?_; refine zs rfl rfl rfl ?_; refine w_r (v := .bool _) (fun _ => zF rfl rfl) rfl rfl ?_; refine aB rfl ?_; refine yB ?_; refine ze ?_; refine zo (v := .bool _) rfl rfl rfl ?_
    exact fun w' hw => ⟨by (try clear hm); (try clear hm2); (try clear hmx); (try clear hmz); (try clear hks); (try clear hks2); (try clear hw); (try clear ih); (try clear hx); (try clear hx2); (try clear gt2b); (try clear gt3b); (try clear ut2b); (try clear ut3b); simp only [exSame, exsSame_eq, Ex.op, Ex.nm, Ex.kids]; simp_all, hw.fr _ (.head _)⟩


theorem same_all : ∀ n : Nat, n ≤ 10000000 → SameH 91 n
  | 0, _ => fun _ _ _ _ _ _ h => absurd h (Nat.not_lt_zero _)
  | n + 1, h => same_step n (same_all n (by omega)) (by omega)
theorem same_ok : SameH 91 10000000 := same_all _ (Nat.le_refl _)


def SameS (n : Nat) : Prop := ∀ (x z : Sm) (cs ds : List Value) (N : Nat → Prop) (w : World), smW x < n → smM w N x cs → smM w N z ds → Ret Tryz.prog 53 #[.agg cs.toArray, .agg ds.toArray] w fun v w' => v = .bool (smSame x z) ∧ Ext w w'

set_option maxRecDepth 100000 in
set_option maxHeartbeats 1000000 in
theorem eqS_spec (n : Nat) (ih : SameS n) (l r : List Sm) (a b : Option Addr) (c d : Nat) (N : Nat → Prop) (w : World) (hl : ∀ x ∈ l, smW x < n) (hll : l.length ≤ 10000000) (hm : smsM w N l a 0) (hm2 : smsM w N r b 0) :
    Ret Tryz.prog 52 #[.slice a l.length c, .slice b r.length d, .func (.func 53) #[] #[]] w (fun v w' => v = .bool (pairOk smSame l r) ∧ Ext w w') := by
  refine enter (S := No) (l := [_, _, _]) (L := []) 32 Tryz.func52 rfl rfl rfl (St.start w No) ?_; refine yA ?_; refine aB rfl ?_; refine yB ?_; refine zq ?_; refine yA ?_; refine mS rfl ?_; refine w_r (fun _ => R_len sl24 rfl) rfl rfl ?_; refine mS rfl ?_; refine w_r (fun _ => R_len sl24 rfl) rfl rfl ?_; refine w_r (fun _ => R_ne rfl rfl) rfl rfl ?_; refine yB ?_; refine zD rfl (fun h1 => ?_) (fun h1 => ?_)
  · refine yA ?_; refine aB rfl ?_; refine yB ?_; refine ze ?_; refine zt (?_)
    refine zo (v := .bool _) rfl rfl rfl ?_; exact fun w' hw => ⟨by rw [pairOk_len (by omega)], hw.fr _ (.head _)⟩
  · have hlen : l.length = r.length := (by omega)
    refine zi ?_; refine zk ?_; refine zq ?_; refine yA ?_; refine mS rfl ?_; refine w_r (fun _ => R_len sl24 rfl) rfl rfl ?_; refine mI rfl ?_; refine yB ?_; refine zB ?_; refine c_loop (fun m e B L => ∃ (k : Nat), e 1 = .slice b r.length d ∧ e 2 = .func (.func 53) #[] #[] ∧ e 15 = .slice a l.length c ∧ e 16 = .int .i64 (l.length : Nat) ∧ e 17 = .int .i64 (k : Nat) ∧ B = [(w, No)] ∧ L = [] ∧ k ≤ l.length ∧ (∀ p ∈ (l.zip r).take k, (!smSame p.1 p.2) = false) ∧ m = l.length - k) _ ⟨0, rfl, rfl, rfl, rfl, rfl, rfl, rfl, Nat.zero_le _, (by simp), rfl⟩ ?_
    rintro m e B L ⟨k, e1_1, e2_1, e15_1, e16_1, e17_1, rfl, rfl, hk, hy, rfl⟩
    refine yA ?_; refine w_r (fun _ => R_lt e17_1 e16_1) rfl rfl ?_; refine yB ?_; refine zq ?_; refine zD rfl (fun h2 => ?_) (fun h2 => ?_)
    · have hlt : k < l.length := (by omega); obtain ⟨x, hxk⟩ : ∃ x, l[k]? = some x := ⟨_, List.getElem?_eq_getElem hlt⟩; obtain ⟨z, hzk⟩ : ∃ z, r[k]? = some z := ⟨_, List.getElem?_eq_getElem (by omega)⟩; obtain ⟨cs, hA, hE⟩ := hm.get0 hxk; obtain ⟨ds, hA2, hE2⟩ := hm2.get0 hzk; have hxn := hl x (List.mem_of_getElem? hxk); obtain ⟨b1, o1, rfl⟩ := hA.ptr; obtain ⟨b2, o2, rfl⟩ := hA2.ptr; have hxe := hxk; have hze := hzk; have hEx := hE; have hEz := hE2; obtain ⟨op, at_, nm, ks, bo, el⟩ := x; obtain ⟨op2, at2, nm2, ks2, bo2, el2⟩ := z; unfold smM at hEx hEz; obtain ⟨ka, kc, ba, bc, ea, ec, rfl, hkc, hks, hbo, hel⟩ := hEx; obtain ⟨ka2, kc2, ba2, bc2, ea2, ec2, rfl, hkc2, hks2, hbo2, hel2⟩ := hEz
      refine zi ?_; refine zk ?_; refine zq ?_; refine zB ?_; refine yA ?_; refine mI e17_1 ?_; refine w_r (fun _ => R_iaN (i := k) sl24 e15_1 e17_1 (by first | omega | decide)) rfl rfl ?_; refine w_loadC (l := [.int .u8 (op : Nat), .int .i64 at_, str nm, .slice ka ks.length kc, .slice ba bo.length bc, .slice ea el.length ec]) z76 rfl rfl (fun w h j v hj => hA.cell (fun _ _ hh => hh) (.head _) h j v hj) ?_; refine w_alloc zr76 (fun t8b gt8b ut8b => ?_)
      refine aI rfl ?_; refine w_store 0 rfl z76 rfl rfl rfl rfl rfl rfl rfl ?_; refine yC ?_; refine mS e1_1 ?_; refine mI rfl ?_; refine w_r (fun _ => R_iaN (i := k) sl24 rfl rfl (by first | omega | decide)) rfl rfl ?_; refine w_loadC (l := [.int .u8 (op2 : Nat), .int .i64 at2, str nm2, .slice ka2 ks2.length kc2, .slice ba2 bo2.length bc2, .slice ea2 el2.length ec2]) z76 rfl rfl (fun w h j v hj => hA2.cell (fun _ _ hh => hh) (.head _) h j v hj) ?_; refine w_alloc zr76 (fun t9b gt9b ut9b => ?_)
      refine w_store 0 rfl z76 rfl rfl rfl rfl rfl rfl rfl ?_; refine yC ?_; refine zm e2_1 ?_; refine w_loadA z76 rfl (fun _ h => h.at_ 1 rfl) rfl ?_; refine w_loadA z76 rfl (fun _ h => h.at_ 0 rfl) rfl ?_; refine zC (fun w => R_callv rfl Tryz.func53 rfl rfl) rfl rfl (fun w h => ih _ _ _ _ N w hxn (hE.now (fun _ _ hh => hh) (.head _) h) (hE2.now (fun _ _ hh => hh) (.head _) h)) ?_; refine w_r (fun _ => R_not rfl) rfl rfl ?_; refine yB ?_; refine c_condN rfl (fun h5 => ?_) (fun h5 => ?_)
      · refine yA ?_; refine aB rfl ?_; refine yB ?_; refine ze ?_; refine zb (zt (zt (zb (zt (?_)))))
        refine zo (v := .bool _) rfl rfl rfl ?_; exact fun w' hw => ⟨by first | (rw [pairOk_no hxk hzk h5]; done) | (rw [pairOk_yes hlen hy (by omega)]; done), hw.fr _ (.head _)⟩
      · refine zi ?_; refine b_on (zk ?_); refine zr ?_; refine w_r (fun _ => R_addi e17_1 rfl (by omega)) rfl rfl ?_; refine mI rfl ?_; refine zn ?_; refine k_st (B' := [(w, No)]) (L' := []) (fun w h => h.drop (List.nil_sublist _)) ?_; exact k_again _ (by omega) ⟨k + 1, e1_1, e2_1, e15_1, e16_1, rfl, rfl, rfl, by omega, pair_next hy hxk hzk h5, rfl⟩
    · refine c_exit ?_; refine zx (zx (b_here rfl (zk ?_))); refine yA ?_; refine aB rfl ?_; refine yB ?_; refine ze ?_; refine zo (v := .bool _) rfl rfl rfl ?_; exact fun w' hw => ⟨by first | (rw [pairOk_no hxk hzk h5]; done) | (rw [pairOk_yes hlen hy (by omega)]; done), hw.fr _ (.head _)⟩

set_option maxRecDepth 100000 in
set_option maxHeartbeats 1000000 in
theorem sameS_step (n : Nat) (ih : SameS n) (hN : n ≤ 10000000) (x z : Sm) (cs ds : List Value) (N : Nat → Prop) (w : World) (hx : smW x < n + 1) (hm : smM w N x cs) (hm2 : smM w N z ds) :
    Ret Tryz.prog 53 #[.agg cs.toArray, .agg ds.toArray] w (fun v w' => v = .bool (smSame x z) ∧ Ext w w') := by
  have hEx := hm; have hEz := hm2; obtain ⟨op, at_, nm, ks, bo, el⟩ := x; obtain ⟨op2, at2, nm2, ks2, bo2, el2⟩ := z; unfold smM at hEx hEz; obtain ⟨ka, kc, ba, bc, ea, ec, rfl, hkc, hks, hbo, hel⟩ := hEx; obtain ⟨ka2, kc2, ba2, bc2, ea2, ec2, rfl, hkc2, hks2, hbo2, hel2⟩ := hEz
  have hx2 := hx
  unfold smW at hx2
  refine enter (S := No) (l := [_, _]) (L := []) 38 Tryz.func53 rfl rfl rfl (St.start w No) ?_; refine yA ?_; refine w_boxA rfl (fun t2b gt2b ut2b => ?_)
  refine w_boxA rfl (fun t3b gt3b ut3b => ?_)
  refine aB rfl ?_; refine yC ?_; refine zf fa76_0 rfl ?_; refine zl z5 rfl (fun _ h => zc 1 rfl rfl h) ?_; refine zf fa76_0 rfl ?_; refine zl z5 rfl (fun _ h => zc 0 rfl rfl h) ?_; refine w_r (fun _ => R_eq rfl rfl) rfl rfl ?_; refine mB rfl ?_; refine zd (t := 10) rfl (fun h3 => ?_) (fun h3 => ?_)
  · have hop : op = op2 := (by omega)
    refine zw rfl rfl (bT h3) ?_; refine zf fa76_2 rfl ?_; refine zw rfl rfl (bT h3) ?_; refine zl z9 rfl (fun _ h => zc 1 rfl rfl h) ?_; refine zw rfl rfl (bT h3) ?_; refine zf fa76_2 rfl ?_; refine zw rfl rfl (bT h3) ?_; refine zl z9 rfl (fun _ h => zc 0 rfl rfl h) ?_; refine zw rfl rfl (bT h3) ?_; refine w_r (fun _ => R_seq rfl rfl) rfl rfl ?_; refine w_r (v := .bool _) (fun _ => zT (bT h3) rfl) rfl rfl ?_; refine mB rfl ?_; refine zd (t := 17) rfl (fun h4 => ?_) (fun h4 => ?_)
    · refine zw rfl rfl (bT h4) ?_; refine zf fa76_3 rfl ?_; refine zw rfl rfl (bT h4) ?_; refine zl z37 rfl (fun _ h => zc 1 rfl rfl h) ?_; refine zw rfl rfl (bT h4) ?_; refine zf fa76_3 rfl ?_; refine zw rfl rfl (bT h4) ?_; refine zl z37 rfl (fun _ h => zc 0 rfl rfl h) ?_; refine zw rfl rfl (bT h4) ?_; refine zC (fun w => zR Tryz.func90 rfl rfl rfl) rfl rfl (fun w h => eqE_spec _ same_ok ks ks2 ka ka2 kc kc2 N w (fun x hx => by have := exsW_mem hx; omega) (by omega) (hks.now (fun _ _ hh => hh) (.head _) h) (hks2.now (fun _ _ hh => hh) (.head _) h)) ?_; refine w_r (v := .bool _) (fun _ => zT (bT h4) rfl) rfl rfl ?_; refine mB rfl ?_; refine zp (t := 24) rfl (fun h5 => ?_) (fun h5 => ?_)
      · refine zw rfl rfl (bV h5) ?_; refine zf fa76_4 rfl ?_; refine zw rfl rfl (bV h5) ?_; refine zl z24 rfl (fun _ h => zc 1 rfl rfl h) ?_; refine zw rfl rfl (bV h5) ?_; refine zf fa76_4 rfl ?_; refine zw rfl rfl (bV h5) ?_; refine zl z24 rfl (fun _ h => zc 0 rfl rfl h) ?_; refine zw rfl rfl (bV h5) ?_; refine zC (fun w => zR Tryz.func52 rfl rfl rfl) rfl rfl (fun w h => eqS_spec n ih bo bo2 ba ba2 bc bc2 N w (fun x hx => by have := smsW_mem hx; omega) (by omega) (hbo.now (fun _ _ hh => hh) (.head _) h) (hbo2.now (fun _ _ hh => hh) (.head _) h)) ?_; refine w_r (v := .bool _) (fun _ => zT (bV h5) rfl) rfl rfl ?_; refine mB rfl ?_; refine zp (t := 31) rfl (fun h6 => ?_) (fun h6 => ?_)
        · refine zw rfl rfl (bV h6) ?_; refine zf fa76_5 rfl ?_; refine zw rfl rfl (bV h6) ?_; refine zl z24 rfl (fun _ h => zc 1 rfl rfl h) ?_; refine zw rfl rfl (bV h6) ?_; refine zf fa76_5 rfl ?_; refine zw rfl rfl (bV h6) ?_; refine zl z24 rfl (fun _ h => zc 0 rfl rfl h) ?_; refine zw rfl rfl (bV h6) ?_; refine zC (fun w => zR Tryz.func52 rfl rfl rfl) rfl rfl (fun w h => eqS_spec n ih el el2 ea ea2 ec ec2 N w (fun x hx => by have := smsW_mem hx; omega) (by omega) (hel.now (fun _ _ hh => hh) (.head _) h) (hel2.now (fun _ _ hh => hh) (.head _) h)) ?_; refine w_r (v := .bool _) (fun _ => zT (bV h6) rfl) rfl rfl ?_; refine aB rfl ?_; refine yB ?_; refine ze ?_; refine zo (v := .bool _) rfl rfl rfl ?_
          exact fun w' hw => ⟨by (try clear hm); (try clear hm2); (try clear hEx); (try clear hEz); (try clear hw); (try clear ih); (try clear hx); (try clear hx2); (try clear gt2b); (try clear gt3b); (try clear ut2b); (try clear ut3b); (try clear hks hbo hel); (try clear hks2 hbo2 hel2); simp only [smSame, exsSame_eq, smsSame_eq, Sm.op, Sm.nm, Sm.kids, Sm.body, Sm.els]; simp_all, hw.fr _ (.head _)⟩
        · refine zs rfl rfl (bV h6) ?_; refine zs rfl rfl (bV h6) ?_; refine zs rfl rfl (bV h6) ?_; refine zs rfl rfl (bV h6) ?_; refine zs rfl rfl (bV h6) ?_; refine w_r (v := .bool _) (fun _ => zF (bV h6) rfl) rfl rfl ?_; refine aB rfl ?_; refine yB ?_; refine ze ?_; refine zo (v := .bool _) rfl rfl rfl ?_; exact fun w' hw => ⟨by (try clear hm); (try clear hm2); (try clear hEx); (try clear hEz); (try clear hw); (try clear ih); (try clear hx); (try clear hx2); (try clear gt2b); (try clear gt3b); (try clear ut2b); (try clear ut3b); (try clear hks hbo hel); (try clear hks2 hbo2 hel2); simp only [smSame, exsSame_eq, smsSame_eq, Sm.op, Sm.nm, Sm.kids, Sm.body, Sm.els]; simp_all, hw.fr _ (.head _)⟩
      · refine zs rfl rfl (bV h5) ?_; refine zs rfl rfl (bV h5) ?_; refine zs rfl rfl (bV h5) ?_; refine zs rfl rfl (bV h5) ?_; refine zs rfl rfl (bV h5) ?_; refine w_r (v := .bool _) (fun _ => zF (bV h5) rfl) rfl rfl ?_; refine mB rfl ?_; refine zs rfl rfl rfl ?_; refine zs rfl rfl rfl ?_; refine zs rfl rfl rfl ?_; refine zs rfl rfl rfl ?_; refine zs rfl rfl rfl ?_; refine w_r (v := .bool _) (fun _ => zF rfl rfl) rfl rfl ?_; refine aB rfl ?_; refine yB ?_; refine ze ?_; refine zo (v := .bool _) rfl rfl rfl ?_
        exact fun w' hw => ⟨by (try clear hm); (try clear hm2); (try clear hEx); (try clear hEz); (try clear hw); (try clear ih); (try clear hx); (try clear hx2); (try clear gt2b); (try clear gt3b); (try clear ut2b); (try clear ut3b); (try clear hks hbo hel); (try clear hks2 hbo2 hel2); simp only [smSame, exsSame_eq, smsSame_eq, Sm.op, Sm.nm, Sm.kids, Sm.body, Sm.els]; simp_all, hw.fr _ (.head _)⟩
    · refine zs rfl rfl (bF h4) ?_; refine zs rfl rfl (bF h4) ?_; refine zs rfl rfl (bF h4) ?_; refine zs rfl rfl (bF h4) ?_; refine zs rfl rfl (bF h4) ?_; refine w_r (v := .bool _) (fun _ => zF (bF h4) rfl) rfl rfl ?_; refine mB rfl ?_; refine zs rfl rfl rfl ?_; refine zs rfl rfl rfl ?_; refine zs rfl rfl rfl ?_; refine zs rfl rfl rfl ?_; refine zs rfl rfl rfl ?_; refine w_r (v := .bool _) (fun _ => zF rfl rfl) rfl rfl ?_; refine mB rfl ?_; refine zs rfl rfl rfl ?_; refine zs rfl rfl rfl ?_; refine zs rfl rfl rfl ?_; refine zs rfl rfl rfl ?_; refine zs rfl rfl rfl ?_; refine w_r (v := .bool _) (fun _ => zF rfl rfl) rfl rfl ?_; refine aB rfl ?_; refine yB ?_; refine ze ?_; refine zo (v := .bool _) rfl rfl rfl ?_
      exact fun w' hw => ⟨by (try clear hm); (try clear hm2); (try clear hEx); (try clear hEz); (try clear hw); (try clear ih); (try clear hx); (try clear hx2); (try clear gt2b); (try clear gt3b); (try clear ut2b); (try clear ut3b); (try clear hks hbo hel); (try clear hks2 hbo2 hel2); simp only [smSame, exsSame_eq, smsSame_eq, Sm.op, Sm.nm, Sm.kids, Sm.body, Sm.els]; simp_all, hw.fr _ (.head _)⟩
  · have hop : ¬ op = op2 := (by omega)
    refine zs rfl rfl (bF h3) ?_; refine zs rfl rfl (bF h3) ?_; refine zs rfl rfl (bF h3) ?_; refine zs rfl rfl (bF h3) ?_; refine zs rfl rfl (bF h3) ?_; refine w_r (v := .bool _) (fun _ => zF (bF h3) rfl) rfl rfl ?_; refine mB rfl ?_; refine zs rfl rfl rfl ?_; refine zs rfl rfl rfl ?_; refine zs rfl rfl rfl ?_; refine zs rfl rfl rfl ?_; refine zs rfl rfl rfl ?_; refine w_r (v := .bool _) (fun _ => zF rfl rfl) rfl rfl ?_; refine mB rfl ?_; refine zs rfl rfl rfl ?_; refine zs rfl rfl rfl ?_; refine zs rfl rfl rfl ?_; refine zs rfl rfl rfl ?_; refine zs rfl rfl rfl ?_; refine w_r (v := .bool _) (fun _ => zF rfl rfl) rfl rfl ?_; refine mB rfl ?_
    refine zs rfl rfl rfl ?_; refine zs rfl rfl rfl ?_; refine zs rfl rfl rfl ?_; refine zs rfl rfl rfl ?_; refine zs rfl rfl rfl ?_; refine w_r (v := .bool _) (fun _ => zF rfl rfl) rfl rfl ?_; refine aB rfl ?_; refine yB ?_; refine ze ?_; refine zo (v := .bool _) rfl rfl rfl ?_; exact fun w' hw => ⟨by (try clear hm); (try clear hm2); (try clear hEx); (try clear hEz); (try clear hw); (try clear ih); (try clear hx); (try clear hx2); (try clear gt2b); (try clear gt3b); (try clear ut2b); (try clear ut3b); (try clear hks hbo hel); (try clear hks2 hbo2 hel2); simp only [smSame, exsSame_eq, smsSame_eq, Sm.op, Sm.nm, Sm.kids, Sm.body, Sm.els]; simp_all, hw.fr _ (.head _)⟩


theorem sameS_all : ∀ n : Nat, n ≤ 10000000 → SameS n
  | 0, _ => fun _ _ _ _ _ _ h => absurd h (Nat.not_lt_zero _)
  | n + 1, h => sameS_step n (sameS_all n (by omega)) (by omega)
theorem sameS_ok : SameS 10000000 := sameS_all _ (Nat.le_refl _)

set_option maxRecDepth 100000 in
set_option maxHeartbeats 400000 in
theorem sameD1_spec (l r : List Ex) (a b : Option Addr) (c d : Nat) (N : Nat → Prop) (w : World) (hl : ∀ x ∈ l, exW x < 10000000) (hll : l.length ≤ 10000000) (hm : exsM w N l a 0) (hm2 : exsM w N r b 0) :
    Ret Tryz.prog 89 #[.slice a l.length c, .slice b r.length d] w (fun v w' => v = .bool (pairOk exSame l r) ∧ Ext w w') := by
  refine enter (S := No) (l := [_, _]) (L := []) 8 Tryz.func89 rfl rfl rfl (St.start w No) ?_; refine yA ?_; refine aB rfl ?_; refine yC ?_; refine mS rfl ?_; refine mS rfl ?_; refine zC (fun w => zR Tryz.func90 rfl rfl rfl) rfl rfl (fun w h => eqE_spec _ same_ok l r a b c d N w hl hll (hm.now (fun _ _ hh => hh) (.head _) h) (hm2.now (fun _ _ hh => hh) (.head _) h)) ?_; refine aB rfl ?_; refine yB ?_; refine ze ?_; refine zo (v := .bool _) rfl rfl rfl ?_; exact fun w' hw => ⟨rfl, hw.fr _ (.head _)⟩

set_option maxRecDepth 100000 in
set_option maxHeartbeats 2000000 in
theorem sameDecl_spec (x z : Dc) (cs ds : List Value) (N : Nat → Prop) (w : World) (hx : dcW x < 10000000) (hm : dcM w N x cs) (hm2 : dcM w N z ds) :
    Ret Tryz.prog 51 #[.agg cs.toArray, .agg ds.toArray] w (fun v w' => v = .bool (dcSame x z) ∧ Ext w w') := by
  have hEx := hm; have hEz := hm2; obtain ⟨ty, at_, nm, sz, lo, up, ini⟩ := x; obtain ⟨ty2, at2, nm2, sz2, lo2, up2, ini2⟩ := z; unfold dcM at hEx hEz; obtain ⟨xa, xc, la, lc, ua, uc, ia, ic, hcs, hsz, hlo, hup, hini⟩ := hEx; obtain ⟨xa2, xc2, la2, lc2, ua2, uc2, ia2, ic2, hds, hsz2, hlo2, hup2, hini2⟩ := hEz; simp only [] at hcs hds; subst hcs; subst hds
  have hx2 := hx
  unfold dcW at hx2
  simp only [] at hx2
  refine enter (S := No) (l := [_, _]) (L := []) 50 Tryz.func51 rfl rfl rfl (St.start w No) ?_; refine yA ?_; refine w_boxA rfl (fun t2b gt2b ut2b => ?_)
  refine w_boxA rfl (fun t3b gt3b ut3b => ?_)
  refine aB rfl ?_; refine yC ?_; refine za rfl ?_; refine yC ?_; refine zf fa46_0 rfl ?_; refine zl z5 rfl (fun _ h => zc 1 rfl rfl h) ?_; refine zf fa46_0 rfl ?_; refine zl z5 rfl (fun _ h => zc 0 rfl rfl h) ?_; refine w_r (fun _ => R_eq rfl rfl) rfl rfl ?_; refine mB rfl ?_; refine zd (t := 11) rfl (fun h3 => ?_) (fun h3 => ?_)
  · have hop : ty = ty2 := (by omega)
    refine zw rfl rfl (bT h3) ?_; refine zf fa46_2 rfl ?_; refine zw rfl rfl (bT h3) ?_; refine zl z9 rfl (fun _ h => zc 1 rfl rfl h) ?_; refine zw rfl rfl (bT h3) ?_; refine zf fa46_2 rfl ?_; refine zw rfl rfl (bT h3) ?_; refine zl z9 rfl (fun _ h => zc 0 rfl rfl h) ?_; refine zw rfl rfl (bT h3) ?_; refine w_r (fun _ => R_seq rfl rfl) rfl rfl ?_; refine w_r (v := .bool _) (fun _ => zT (bT h3) rfl) rfl rfl ?_; refine mB rfl ?_; refine zd (t := 18) rfl (fun h4 => ?_) (fun h4 => ?_)
    · refine zw rfl rfl (bT h4) ?_; refine zm rfl ?_; refine zw rfl rfl (bT h4) ?_; refine zf fa46_3 rfl ?_; refine zw rfl rfl (bT h4) ?_; refine zl z37 rfl (fun _ h => zc 1 rfl rfl h) ?_; refine zw rfl rfl (bT h4) ?_; refine zf fa46_3 rfl ?_; refine zw rfl rfl (bT h4) ?_; refine zl z37 rfl (fun _ h => zc 0 rfl rfl h) ?_; refine zw rfl rfl (bT h4) ?_; refine zC (fun w => R_callv rfl Tryz.func89 rfl rfl) rfl rfl (fun w h => sameD1_spec sz sz2 xa xa2 xc xc2 N w (fun x hx => by have := exsW_mem hx; omega) (by omega) (hsz.now (fun _ _ hh => hh) (.head _) h) (hsz2.now (fun _ _ hh => hh) (.head _) h)) ?_; refine w_r (v := .bool _) (fun _ => zT (bT h4) rfl) rfl rfl ?_; refine mB rfl ?_; refine zp (t := 26) rfl (fun h5 => ?_) (fun h5 => ?_)
      · refine zw rfl rfl (bV h5) ?_; refine zm rfl ?_; refine zw rfl rfl (bV h5) ?_; refine zf fa46_4 rfl ?_; refine zw rfl rfl (bV h5) ?_; refine zl z37 rfl (fun _ h => zc 1 rfl rfl h) ?_; refine zw rfl rfl (bV h5) ?_; refine zf fa46_4 rfl ?_; refine zw rfl rfl (bV h5) ?_; refine zl z37 rfl (fun _ h => zc 0 rfl rfl h) ?_; refine zw rfl rfl (bV h5) ?_; refine zC (fun w => R_callv rfl Tryz.func89 rfl rfl) rfl rfl (fun w h => sameD1_spec lo lo2 la la2 lc lc2 N w (fun x hx => by have := exsW_mem hx; omega) (by omega) (hlo.now (fun _ _ hh => hh) (.head _) h) (hlo2.now (fun _ _ hh => hh) (.head _) h)) ?_; refine w_r (v := .bool _) (fun _ => zT (bV h5) rfl) rfl rfl ?_; refine mB rfl ?_; refine zp (t := 34) rfl (fun h6 => ?_) (fun h6 => ?_)
        · refine zw rfl rfl (bV h6) ?_; refine zm rfl ?_; refine zw rfl rfl (bV h6) ?_; refine zf fa46_5 rfl ?_; refine zw rfl rfl (bV h6) ?_; refine zl z37 rfl (fun _ h => zc 1 rfl rfl h) ?_; refine zw rfl rfl (bV h6) ?_; refine zf fa46_5 rfl ?_; refine zw rfl rfl (bV h6) ?_; refine zl z37 rfl (fun _ h => zc 0 rfl rfl h) ?_; refine zw rfl rfl (bV h6) ?_; refine zC (fun w => R_callv rfl Tryz.func89 rfl rfl) rfl rfl (fun w h => sameD1_spec up up2 ua ua2 uc uc2 N w (fun x hx => by have := exsW_mem hx; omega) (by omega) (hup.now (fun _ _ hh => hh) (.head _) h) (hup2.now (fun _ _ hh => hh) (.head _) h)) ?_; refine w_r (v := .bool _) (fun _ => zT (bV h6) rfl) rfl rfl ?_; refine mB rfl ?_; refine zp (t := 42) rfl (fun h7 => ?_) (fun h7 => ?_)
          · refine zw rfl rfl (bV h7) ?_; refine zm rfl ?_; refine zw rfl rfl (bV h7) ?_; refine zf fa46_6 rfl ?_; refine zw rfl rfl (bV h7) ?_; refine zl z37 rfl (fun _ h => zc 1 rfl rfl h) ?_; refine zw rfl rfl (bV h7) ?_; refine zf fa46_6 rfl ?_; refine zw rfl rfl (bV h7) ?_; refine zl z37 rfl (fun _ h => zc 0 rfl rfl h) ?_; refine zw rfl rfl (bV h7) ?_; refine zC (fun w => R_callv rfl Tryz.func89 rfl rfl) rfl rfl (fun w h => sameD1_spec ini ini2 ia ia2 ic ic2 N w (fun x hx => by have := exsW_mem hx; omega) (by omega) (hini.now (fun _ _ hh => hh) (.head _) h) (hini2.now (fun _ _ hh => hh) (.head _) h)) ?_; refine w_r (v := .bool _) (fun _ => zT (bV h7) rfl) rfl rfl ?_; refine aB rfl ?_; refine yB ?_; refine ze ?_; refine zo (v := .bool _) rfl rfl rfl ?_
            exact fun w' hw => ⟨by (try clear hm); (try clear hm2); (try clear hEx); (try clear hEz); (try clear hw); (try clear hds); (try clear hx); (try clear hx2); (try clear gt2b); (try clear gt3b); (try clear ut2b); (try clear ut3b); (try clear hsz hlo hup hini); (try clear hsz2 hlo2 hup2 hini2); simp only [dcSame, exsSame_eq]; simp_all, hw.fr _ (.head _)⟩
          · refine zs rfl rfl (bV h7) ?_; refine zs rfl rfl (bV h7) ?_; refine zs rfl rfl (bV h7) ?_; refine zs rfl rfl (bV h7) ?_; refine zs rfl rfl (bV h7) ?_; refine zs rfl rfl (bV h7) ?_; refine w_r (v := .bool _) (fun _ => zF (bV h7) rfl) rfl rfl ?_; refine aB rfl ?_; refine yB ?_; refine ze ?_; refine zo (v := .bool _) rfl rfl rfl ?_; exact fun w' hw => ⟨by (try clear hm); (try clear hm2); (try clear hEx); (try clear hEz); (try clear hw); (try clear hds); (try clear hx); (try clear hx2); (try clear gt2b); (try clear gt3b); (try clear ut2b); (try clear ut3b); (try clear hsz hlo hup hini); (try clear hsz2 hlo2 hup2 hini2); simp only [dcSame, exsSame_eq]; simp_all, hw.fr _ (.head _)⟩
        · refine zs rfl rfl (bV h6) ?_; refine zs rfl rfl (bV h6) ?_; refine zs rfl rfl (bV h6) ?_; refine zs rfl rfl (bV h6) ?_; refine zs rfl rfl (bV h6) ?_; refine zs rfl rfl (bV h6) ?_; refine w_r (v := .bool _) (fun _ => zF (bV h6) rfl) rfl rfl ?_; refine mB rfl ?_; refine zs rfl rfl rfl ?_; refine zs rfl rfl rfl ?_; refine zs rfl rfl rfl ?_; refine zs rfl rfl rfl ?_; refine zs rfl rfl rfl ?_; refine zs rfl rfl rfl ?_; refine w_r (v := .bool _) (fun _ => zF rfl rfl) rfl rfl ?_; refine aB rfl ?_; refine yB ?_; refine ze ?_; refine zo (v := .bool _) rfl rfl rfl ?_
          exact fun w' hw => ⟨by (try clear hm); (try clear hm2); (try clear hEx); (try clear hEz); (try clear hw); (try clear hds); (try clear hx); (try clear hx2); (try clear gt2b); (try clear gt3b); (try clear ut2b); (try clear ut3b); (try clear hsz hlo hup hini); (try clear hsz2 hlo2 hup2 hini2); simp only [dcSame, exsSame_eq]; simp_all, hw.fr _ (.head _)⟩
      · refine zs rfl rfl (bV h5) ?_; refine zs rfl rfl (bV h5) ?_; refine zs rfl rfl (bV h5) ?_; refine zs rfl rfl (bV h5) ?_; refine zs rfl rfl (bV h5) ?_; refine zs rfl rfl (bV h5) ?_; refine w_r (v := .bool _) (fun _ => zF (bV h5) rfl) rfl rfl ?_; refine mB rfl ?_; refine zs rfl rfl rfl ?_; refine zs rfl rfl rfl ?_; refine zs rfl rfl rfl ?_; refine zs rfl rfl rfl ?_; refine zs rfl rfl rfl ?_; refine zs rfl rfl rfl ?_; refine w_r (v := .bool _) (fun _ => zF rfl rfl) rfl rfl ?_; refine mB rfl ?_; refine zs rfl rfl rfl ?_; refine zs rfl rfl rfl ?_; refine zs rfl rfl rfl ?_; refine zs rfl rfl rfl ?_; refine zs rfl rfl rfl ?_; refine zs rfl rfl rfl ?_; refine w_r (v := .bool _) (fun _ => zF rfl rfl) rfl rfl ?_
        refine aB rfl ?_; refine yB ?_; refine ze ?_; refine zo (v := .bool _) rfl rfl rfl ?_; exact fun w' hw => ⟨by (try clear hm); (try clear hm2); (try clear hEx); (try clear hEz); (try clear hw); (try clear hds); (try clear hx); (try clear hx2); (try clear gt2b); (try clear gt3b); (try clear ut2b); (try clear ut3b); (try clear hsz hlo hup hini); (try clear hsz2 hlo2 hup2 hini2); simp only [dcSame, exsSame_eq]; simp_all, hw.fr _ (.head _)⟩
    · refine zs rfl rfl (bF h4) ?_; refine zs rfl rfl (bF h4) ?_; refine zs rfl rfl (bF h4) ?_; refine zs rfl rfl (bF h4) ?_; refine zs rfl rfl (bF h4) ?_; refine zs rfl rfl (bF h4) ?_; refine w_r (v := .bool _) (fun _ => zF (bF h4) rfl) rfl rfl ?_; refine mB rfl ?_; refine zs rfl rfl rfl ?_; refine zs rfl rfl rfl ?_; refine zs rfl rfl rfl ?_; refine zs rfl rfl rfl ?_; refine zs rfl rfl rfl ?_; refine zs rfl rfl rfl ?_; refine w_r (v := .bool _) (fun _ => zF rfl rfl) rfl rfl ?_; refine mB rfl ?_; refine zs rfl rfl rfl ?_; refine zs rfl rfl rfl ?_; refine zs rfl rfl rfl ?_; refine zs rfl rfl rfl ?_; refine zs rfl rfl rfl ?_
      refine zs rfl rfl rfl ?_; refine w_r (v := .bool _) (fun _ => zF rfl rfl) rfl rfl ?_; refine mB rfl ?_; refine zs rfl rfl rfl ?_; refine zs rfl rfl rfl ?_; refine zs rfl rfl rfl ?_; refine zs rfl rfl rfl ?_; refine zs rfl rfl rfl ?_; refine zs rfl rfl rfl ?_; refine w_r (v := .bool _) (fun _ => zF rfl rfl) rfl rfl ?_; refine aB rfl ?_; refine yB ?_; refine ze ?_; refine zo (v := .bool _) rfl rfl rfl ?_; exact fun w' hw => ⟨by (try clear hm); (try clear hm2); (try clear hEx); (try clear hEz); (try clear hw); (try clear hds); (try clear hx); (try clear hx2); (try clear gt2b); (try clear gt3b); (try clear ut2b); (try clear ut3b); (try clear hsz hlo hup hini); (try clear hsz2 hlo2 hup2 hini2); simp only [dcSame, exsSame_eq]; simp_all, hw.fr _ (.head _)⟩
  · have hop : ¬ ty = ty2 := (by omega)
    refine zs rfl rfl (bF h3) ?_; refine zs rfl rfl (bF h3) ?_; refine zs rfl rfl (bF h3) ?_; refine zs rfl rfl (bF h3) ?_; refine zs rfl rfl (bF h3) ?_; refine w_r (v := .bool _) (fun _ => zF (bF h3) rfl) rfl rfl ?_; refine mB rfl ?_; refine zs rfl rfl rfl ?_; refine zs rfl rfl rfl ?_; refine zs rfl rfl rfl ?_; refine zs rfl rfl rfl ?_; refine zs rfl rfl rfl ?_; refine zs rfl rfl rfl ?_; refine w_r (v := .bool _) (fun _ => zF rfl rfl) rfl rfl ?_; refine mB rfl ?_; refine zs rfl rfl rfl ?_; refine zs rfl rfl rfl ?_; refine zs rfl rfl rfl ?_; refine zs rfl rfl rfl ?_; refine zs rfl rfl rfl ?_; refine zs rfl rfl rfl ?_; refine w_r (v := .bool _) (fun _ => zF rfl rfl) rfl rfl ?_
    refine mB rfl ?_; refine zs rfl rfl rfl ?_; refine zs rfl rfl rfl ?_; refine zs rfl rfl rfl ?_; refine zs rfl rfl rfl ?_; refine zs rfl rfl rfl ?_; refine zs rfl rfl rfl ?_; refine w_r (v := .bool _) (fun _ => zF rfl rfl) rfl rfl ?_; refine mB rfl ?_; refine zs rfl rfl rfl ?_; refine zs rfl rfl rfl ?_; refine zs rfl rfl rfl ?_; refine zs rfl rfl rfl ?_; refine zs rfl rfl rfl ?_; refine zs rfl rfl rfl ?_; refine w_r (v := .bool _) (fun _ => zF rfl rfl) rfl rfl ?_; refine aB rfl ?_; refine yB ?_; refine ze ?_; refine zo (v := .bool _) rfl rfl rfl ?_
    exact fun w' hw => ⟨by (try clear hm); (try clear hm2); (try clear hEx); (try clear hEz); (try clear hw); (try clear hds); (try clear hx); (try clear hx2); (try clear gt2b); (try clear gt3b); (try clear ut2b); (try clear ut3b); (try clear hsz hlo hup hini); (try clear hsz2 hlo2 hup2 hini2); simp only [dcSame, exsSame_eq]; simp_all, hw.fr _ (.head _)⟩

set_option maxRecDepth 100000 in
set_option maxHeartbeats 1000000 in
theorem eqD_spec  (l r : List Dc) (a b : Option Addr) (c d : Nat) (N : Nat → Prop) (w : World) (hl : ∀ x ∈ l, dcW x < 10000000) (hll : l.length ≤ 10000000) (hm : dcsM w N l a) (hm2 : dcsM w N r b) :
    Ret Tryz.prog 50 #[.slice a l.length c, .slice b r.length d, .func (.func 51) #[] #[]] w (fun v w' => v = .bool (pairOk dcSame l r) ∧ Ext w w') := by
  refine enter (S := No) (l := [_, _, _]) (L := []) 32 Tryz.func50 rfl rfl rfl (St.start w No) ?_; refine yA ?_; refine aB rfl ?_; refine yB ?_; refine zq ?_; refine yA ?_; refine mS rfl ?_; refine w_r (fun _ => R_len sl23 rfl) rfl rfl ?_; refine mS rfl ?_; refine w_r (fun _ => R_len sl23 rfl) rfl rfl ?_; refine w_r (fun _ => R_ne rfl rfl) rfl rfl ?_; refine yB ?_; refine zD rfl (fun h1 => ?_) (fun h1 => ?_)
  · refine yA ?_; refine aB rfl ?_; refine yB ?_; refine ze ?_; refine zt (?_)
    refine zo (v := .bool _) rfl rfl rfl ?_; exact fun w' hw => ⟨by rw [pairOk_len (by omega)], hw.fr _ (.head _)⟩
  · have hlen : l.length = r.length := (by omega)
    refine zi ?_; refine zk ?_; refine zq ?_; refine yA ?_; refine mS rfl ?_; refine w_r (fun _ => R_len sl23 rfl) rfl rfl ?_; refine mI rfl ?_; refine yB ?_; refine zB ?_; refine c_loop (fun m e B L => ∃ (k : Nat), e 1 = .slice b r.length d ∧ e 2 = .func (.func 51) #[] #[] ∧ e 15 = .slice a l.length c ∧ e 16 = .int .i64 (l.length : Nat) ∧ e 17 = .int .i64 (k : Nat) ∧ B = [(w, No)] ∧ L = [] ∧ k ≤ l.length ∧ (∀ p ∈ (l.zip r).take k, (!dcSame p.1 p.2) = false) ∧ m = l.length - k) _ ⟨0, rfl, rfl, rfl, rfl, rfl, rfl, rfl, Nat.zero_le _, (by simp), rfl⟩ ?_
    rintro m e B L ⟨k, e1_1, e2_1, e15_1, e16_1, e17_1, rfl, rfl, hk, hy, rfl⟩
    refine yA ?_; refine w_r (fun _ => R_lt e17_1 e16_1) rfl rfl ?_; refine yB ?_; refine zq ?_; refine zD rfl (fun h2 => ?_) (fun h2 => ?_)
    · have hlt : k < l.length := (by omega); obtain ⟨x, hxk⟩ : ∃ x, l[k]? = some x := ⟨_, List.getElem?_eq_getElem hlt⟩; obtain ⟨z, hzk⟩ : ∃ z, r[k]? = some z := ⟨_, List.getElem?_eq_getElem (by omega)⟩; obtain ⟨cs, hA, hE⟩ := hm k x hxk; obtain ⟨ds, hA2, hE2⟩ := hm2 k z hzk; have hxn := hl x (List.mem_of_getElem? hxk); obtain ⟨b1, o1, rfl⟩ := hA.ptr; obtain ⟨b2, o2, rfl⟩ := hA2.ptr; have hxe := hxk; have hze := hzk; have hEx := hE; have hEz := hE2; obtain ⟨ty, at_, nm, sz, lo, up, ini⟩ := x; obtain ⟨ty2, at2, nm2, sz2, lo2, up2, ini2⟩ := z; unfold dcM at hEx hEz; obtain ⟨xa, xc, la, lc, ua, uc, ia, ic, hcs, hsz, hlo, hup, hini⟩ := hEx; obtain ⟨xa2, xc2, la2, lc2, ua2, uc2, ia2, ic2, hds, hsz2, hlo2, hup2, hini2⟩ := hEz; simp only [] at hcs hds; subst hcs; subst hds
      refine zi ?_; refine zk ?_; refine zq ?_; refine zB ?_; refine yA ?_; refine mI e17_1 ?_; refine w_r (fun _ => R_iaN (i := k) sl23 e15_1 e17_1 (by first | omega | decide)) rfl rfl ?_; refine w_loadC (l := [.int .u8 (ty : Nat), .int .i64 at_, str nm, .slice xa sz.length xc, .slice la lo.length lc, .slice ua up.length uc, .slice ia ini.length ic]) z46 rfl rfl (fun w h j v hj => hA.cell (fun _ _ hh => hh) (.head _) h j v hj) ?_; refine w_alloc zr46 (fun t8b gt8b ut8b => ?_)
      refine aI rfl ?_; refine w_store 0 rfl z46 rfl rfl rfl rfl rfl rfl rfl ?_; refine yC ?_; refine mS e1_1 ?_; refine mI rfl ?_; refine w_r (fun _ => R_iaN (i := k) sl23 rfl rfl (by first | omega | decide)) rfl rfl ?_; refine w_loadC (l := [.int .u8 (ty2 : Nat), .int .i64 at2, str nm2, .slice xa2 sz2.length xc2, .slice la2 lo2.length lc2, .slice ua2 up2.length uc2, .slice ia2 ini2.length ic2]) z46 rfl rfl (fun w h j v hj => hA2.cell (fun _ _ hh => hh) (.head _) h j v hj) ?_; refine w_alloc zr46 (fun t9b gt9b ut9b => ?_)
      refine w_store 0 rfl z46 rfl rfl rfl rfl rfl rfl rfl ?_; refine yC ?_; refine zm e2_1 ?_; refine w_loadA z46 rfl (fun _ h => h.at_ 1 rfl) rfl ?_; refine w_loadA z46 rfl (fun _ h => h.at_ 0 rfl) rfl ?_; refine zC (fun w => R_callv rfl Tryz.func51 rfl rfl) rfl rfl (fun w h => sameDecl_spec _ _ _ _ N w hxn (hE.now (fun _ _ hh => hh) (.head _) h) (hE2.now (fun _ _ hh => hh) (.head _) h)) ?_; refine w_r (fun _ => R_not rfl) rfl rfl ?_; refine yB ?_; refine c_condN rfl (fun h5 => ?_) (fun h5 => ?_)
      · refine yA ?_; refine aB rfl ?_; refine yB ?_; refine ze ?_; refine zb (zt (zt (zb (zt (?_)))))
        refine zo (v := .bool _) rfl rfl rfl ?_; exact fun w' hw => ⟨by first | (rw [pairOk_no hxk hzk h5]; done) | (rw [pairOk_yes hlen hy (by omega)]; done), hw.fr _ (.head _)⟩
      · refine zi ?_; refine b_on (zk ?_); refine zr ?_; refine w_r (fun _ => R_addi e17_1 rfl (by omega)) rfl rfl ?_; refine mI rfl ?_; refine zn ?_; refine k_st (B' := [(w, No)]) (L' := []) (fun w h => h.drop (List.nil_sublist _)) ?_; exact k_again _ (by omega) ⟨k + 1, e1_1, e2_1, e15_1, e16_1, rfl, rfl, rfl, by omega, pair_next hy hxk hzk h5, rfl⟩
    · refine c_exit ?_; refine zx (zx (b_here rfl (zk ?_))); refine yA ?_; refine aB rfl ?_; refine yB ?_; refine ze ?_; refine zo (v := .bool _) rfl rfl rfl ?_; exact fun w' hw => ⟨by first | (rw [pairOk_no hxk hzk h5]; done) | (rw [pairOk_yes hlen hy (by omega)]; done), hw.fr _ (.head _)⟩

set_option maxRecDepth 100000 in
set_option maxHeartbeats 4000000 in
theorem Same_spec (pg qg : List Bk) (cs ds : List Value) (N : Nat → Prop) (w : World) (hp : ∀ b ∈ pg, bkW b < 10000000) (hm : pgM w N pg cs) (hm2 : pgM w N qg ds) :
    Ret Tryz.prog 21 #[.agg cs.toArray, .agg ds.toArray] w (fun v w' => v = .bool (pgSame pg qg) ∧ Ext w w') := by
  refine enter (S := No) (l := [_, _]) (L := []) 40 Tryz.func21 rfl rfl rfl (St.start w No) ?_; refine yA ?_; refine w_boxA rfl (fun t2b gt2b ut2b => ?_)
  refine w_boxA rfl (fun t3b gt3b ut3b => ?_)
  refine aB rfl ?_; refine yB ?_; refine zq ?_; refine yA ?_; refine zf fa29_0 rfl ?_; refine w_loadW z27 rfl (fun _ h => h.at_ 1 rfl) hm.len ?_; refine mI rfl ?_; refine yB ?_; refine zB ?_; refine c_loop (fun m e B L => ∃ (i : Nat), e 3 = .pointer (some ⟨t3b, 0, none⟩) ∧ e 9 = .agg cs.toArray ∧ e 10 = .int .i64 (i : Nat) ∧ B = [(w, No)] ∧ L = [(t3b, cel ds 29), (t2b, cel cs 29)] ∧ i ≤ 6 ∧ (∀ p ∈ (pg.zip qg).take i, (!bkSame p.1 p.2) = false) ∧ m = 6 - i) _ ⟨0, rfl, rfl, rfl, rfl, rfl, Nat.zero_le _, (by simp), rfl⟩ ?_
  rintro m e B L ⟨i, e3_1, e9_1, e10_1, rfl, rfl, hi, hy, rfl⟩
  refine yA ?_; refine w_r (fun _ => R_lt e10_1 rfl) rfl rfl ?_; refine yB ?_; refine zq ?_; refine zD rfl (fun h3 => ?_) (fun h3 => ?_)
  · have hi6 : i < 6 := (by omega); obtain ⟨b, hb⟩ : ∃ b, pg[i]? = some b := ⟨_, List.getElem?_eq_getElem (by rw [hm.six]; exact hi6)⟩; have hbw := hp b (List.mem_of_getElem? hb); unfold bkW at hbw; obtain ⟨da, dc, sa, sc, hcb, hds, hss⟩ := hm.one i b hb; obtain ⟨b2, hb2⟩ : ∃ b, qg[i]? = some b := ⟨_, List.getElem?_eq_getElem (by rw [hm2.six]; exact hi6)⟩; obtain ⟨da2, dc2, sa2, sc2, hcb2, hds2, hss2⟩ := hm2.one i b2 hb2
    refine zi ?_; refine zk ?_; refine zq ?_; refine zB ?_; refine yA ?_; refine mI e10_1 ?_; refine w_r (v := .agg (List.toArray [.bool b.is, .slice da b.decls.length dc, .slice sa b.stmts.length sc])) (fun _ => R_aidxA (i := i) ara27 e9_1 e10_1 (by omega) hcb) rfl rfl ?_; refine w_alloc zr26 (fun t6b gt6b ut6b => ?_)
    refine aI rfl ?_; refine w_store 0 rfl z26 rfl rfl rfl rfl rfl rfl rfl ?_; refine yC ?_; refine mI rfl ?_; refine zf fa29_0 e3_1 ?_; refine w_r (fun _ => R_iaA (i := i) ara27 (by decide) rfl rfl (by first | omega | decide)) rfl rfl ?_; refine w_loadC (l := [.bool b2.is, .slice da2 b2.decls.length dc2, .slice sa2 b2.stmts.length sc2]) z26 rfl rfl (fun w h j v hj => zc 1 rfl (sub_get hcb2 hj) h) ?_; refine w_alloc zr26 (fun t7b gt7b ut7b => ?_)
    refine w_store 0 rfl z26 rfl rfl rfl rfl rfl rfl rfl ?_; refine yC ?_; refine zf fa26_0 rfl ?_; refine zl z4 rfl (fun _ h => zc 1 rfl rfl h) ?_; refine zf fa26_0 rfl ?_; refine zl z4 rfl (fun _ h => zc 0 rfl rfl h) ?_; refine w_r (fun _ => R_bne unb4 rfl rfl) rfl rfl ?_; refine mB rfl ?_; refine zp (t := 23) rfl (fun h6 => ?_) (fun h6 => ?_)
    · refine zs rfl rfl (bV h6) ?_; refine zs rfl rfl (bV h6) ?_; refine zs rfl rfl (bV h6) ?_; refine zs rfl rfl (bV h6) ?_; refine zs rfl rfl (bV h6) ?_; refine zs rfl rfl (bV h6) ?_; refine w_r (v := .bool _) (fun _ => zT (bV h6) rfl) rfl rfl ?_; refine mB rfl ?_; refine zs rfl rfl rfl ?_; refine zs rfl rfl rfl ?_; refine zs rfl rfl rfl ?_; refine zs rfl rfl rfl ?_; refine zs rfl rfl rfl ?_; refine zs rfl rfl rfl ?_; refine w_r (v := .bool _) (fun _ => zT rfl rfl) rfl rfl ?_; refine yB ?_; refine zE rfl ?_; refine yA ?_; refine aB rfl ?_; refine yB ?_; refine ze ?_; refine zb (zt (zt (zb (zt (?_)))))
      refine zo (v := .bool _) rfl rfl rfl ?_; exact fun w' hw => ⟨by unfold pgSame; first | (rw [pairOk_yes (hm.six.trans hm2.six.symm) hy (by have := hm.six; omega)]; done) | (rw [pairOk_no hb hb2 (by (try clear hm); (try clear hm2); (try clear hw); (try clear hp); (try clear hbw); (try clear hy); (try clear e10_1); (try clear e3_1); (try clear e9_1); (try clear gt2b); (try clear gt3b); (try clear gt6b); (try clear gt7b); (try clear ut2b); (try clear ut3b); (try clear ut6b); (try clear ut7b); (try clear hcb hds hss); (try clear hcb2 hds2 hss2); simp only [bkSame, smsSame_eq]; simp_all)]; done), hw.fr _ (.head _)⟩
    · refine zw rfl rfl (bV h6) ?_; refine zf fa26_1 rfl ?_; refine zw rfl rfl (bV h6) ?_; refine zl z23 rfl (fun _ h => zc 1 rfl rfl h) ?_; refine zw rfl rfl (bV h6) ?_; refine zf fa26_1 rfl ?_; refine zw rfl rfl (bV h6) ?_; refine zl z23 rfl (fun _ h => zc 0 rfl rfl h) ?_; refine zw rfl rfl (bV h6) ?_; refine zC (fun w => zR Tryz.func50 rfl rfl rfl) rfl rfl (fun w h => eqD_spec b.decls b2.decls da da2 dc dc2 N w (fun x hx => by have := dcsW_mem hx; omega) (by omega) (hds.now (fun _ _ hh => hh) (.head _) h) (hds2.now (fun _ _ hh => hh) (.head _) h)) ?_; refine zw rfl rfl (bV h6) ?_; refine w_r (fun _ => R_not rfl) rfl rfl ?_; refine w_r (v := .bool _) (fun _ => zF (bV h6) rfl) rfl rfl ?_; refine mB rfl ?_; refine zp (t := 31) rfl (fun h7 => ?_) (fun h7 => ?_)
      · refine zs rfl rfl (bV h7) ?_; refine zs rfl rfl (bV h7) ?_; refine zs rfl rfl (bV h7) ?_; refine zs rfl rfl (bV h7) ?_; refine zs rfl rfl (bV h7) ?_; refine zs rfl rfl (bV h7) ?_; refine w_r (v := .bool _) (fun _ => zT (bV h7) rfl) rfl rfl ?_; refine yB ?_; refine zE rfl ?_; refine yA ?_; refine aB rfl ?_; refine yB ?_; refine ze ?_; refine zb (zt (zt (zb (zt (?_)))))
        refine zo (v := .bool _) rfl rfl rfl ?_; exact fun w' hw => ⟨by unfold pgSame; first | (rw [pairOk_yes (hm.six.trans hm2.six.symm) hy (by have := hm.six; omega)]; done) | (rw [pairOk_no hb hb2 (by (try clear hm); (try clear hm2); (try clear hw); (try clear hp); (try clear hbw); (try clear hx); (try clear hy); (try clear e10_1); (try clear e3_1); (try clear e9_1); (try clear gt2b); (try clear gt3b); (try clear gt6b); (try clear gt7b); (try clear ut2b); (try clear ut3b); (try clear ut6b); (try clear ut7b); (try clear hcb hds hss); (try clear hcb2 hds2 hss2); simp only [bkSame, smsSame_eq]; simp_all)]; done), hw.fr _ (.head _)⟩
      · refine zw rfl rfl (bV h7) ?_; refine zf fa26_2 rfl ?_; refine zw rfl rfl (bV h7) ?_; refine zl z24 rfl (fun _ h => zc 1 rfl rfl h) ?_; refine zw rfl rfl (bV h7) ?_; refine zf fa26_2 rfl ?_; refine zw rfl rfl (bV h7) ?_; refine zl z24 rfl (fun _ h => zc 0 rfl rfl h) ?_; refine zw rfl rfl (bV h7) ?_; refine zC (fun w => zR Tryz.func52 rfl rfl rfl) rfl rfl (fun w h => eqS_spec _ sameS_ok b.stmts b2.stmts sa sa2 sc sc2 N w (fun x hx => by have := smsW_mem hx; omega) (by omega) (hss.now (fun _ _ hh => hh) (.head _) h) (hss2.now (fun _ _ hh => hh) (.head _) h)) ?_; refine zw rfl rfl (bV h7) ?_; refine w_r (fun _ => R_not rfl) rfl rfl ?_; refine w_r (v := .bool _) (fun _ => zF (bV h7) rfl) rfl rfl ?_; refine yB ?_; refine c_condN rfl (fun h8 => ?_) (fun h8 => ?_)
        · refine yA ?_; refine aB rfl ?_; refine yB ?_; refine ze ?_; refine zb (zt (zt (zb (zt (?_)))))
          refine zo (v := .bool _) rfl rfl rfl ?_; exact fun w' hw => ⟨by unfold pgSame; first | (rw [pairOk_yes (hm.six.trans hm2.six.symm) hy (by have := hm.six; omega)]; done) | (rw [pairOk_no hb hb2 (by (try clear hm); (try clear hm2); (try clear hw); (try clear hp); (try clear hbw); (try clear hx); (try clear hy); (try clear e10_1); (try clear e3_1); (try clear e9_1); (try clear gt2b); (try clear gt3b); (try clear gt6b); (try clear gt7b); (try clear ut2b); (try clear ut3b); (try clear ut6b); (try clear ut7b); (try clear hcb hds hss); (try clear hcb2 hds2 hss2); simp only [bkSame, smsSame_eq]; simp_all)]; done), hw.fr _ (.head _)⟩
        · refine zi ?_; refine b_on (zk ?_); refine zr ?_; refine w_r (fun _ => R_addi e10_1 rfl (by omega)) rfl rfl ?_; refine mI rfl ?_; refine zn ?_; refine k_st (B' := [(w, No)]) (L' := _) (fun w h => h.drop (List.sublist_append_right [_, _] _)) ?_; exact k_again _ (by omega) ⟨i + 1, e3_1, e9_1, rfl, rfl, rfl, by omega, pair_next hy hb hb2 (by (try clear hm); (try clear hm2); (try clear hp); (try clear hbw); (try clear hx); (try clear hy); (try clear e10_1); (try clear e3_1); (try clear e9_1); (try clear gt2b); (try clear gt3b); (try clear gt6b); (try clear gt7b); (try clear ut2b); (try clear ut3b); (try clear ut6b); (try clear ut7b); (try clear hcb hds hss); (try clear hcb2 hds2 hss2); simp only [bkSame, smsSame_eq]; simp_all), rfl⟩
  · refine c_exit ?_; refine zx (zx (b_here rfl (zk ?_))); refine yA ?_; refine aB rfl ?_; refine yB ?_; refine ze ?_; refine zo (v := .bool _) rfl rfl rfl ?_; exact fun w' hw => ⟨by unfold pgSame; first | (rw [pairOk_yes (hm.six.trans hm2.six.symm) hy (by have := hm.six; omega)]; done) | (rw [pairOk_no hb hb2 (by (try clear hm); (try clear hm2); (try clear hw); (try clear hp); (try clear hy); (try clear e10_1); (try clear e3_1); (try clear e9_1); (try clear gt2b); (try clear gt3b); (try clear ut2b); (try clear ut3b); simp only [bkSame, smsSame_eq]; simp_all)]; done), hw.fr _ (.head _)⟩
end Go.Proofs.YtaniogadknakoaaGreatDoor
end

section
namespace Go.Proofs.YtaniogadknakoaaGreatDoor
open Go.RowKit Go.Sx
open Go.Tok Go.Tree Go.Prs

theorem Parse_at (s : Str) (hs : s.length ≤ 10000000) {p : List Bk} {fl : Fl} (h : resOf (List.replicate 6 noBk) (parseP s) = (p, fl)) (w : World) (hW : Wd w) (hng : 4 ≤ w.heap.size) :
  Ret Tryz.prog 10 #[str s] w fun v w' => ∃ cs, v = .tuple #[.agg cs.toArray, .agg #[.int .i64 (fl.1 : Nat), .int .i64 (fl.2 : Nat)]] ∧ pgM w' (Nn w w') p cs ∧ Ext w w' :=
 (Parse_ok s hs w hW hng).mono fun v w' ⟨cs, h1, h2, _, h4⟩ => ⟨cs, by rw [h1, h], by rw [h] at h2; exact h2, h4⟩
theorem Expr_at (s : Str) (hs : s.length ≤ 10000000) {p : Ex} {fl : Fl} (h : resOf noEx (exprP s) = (p, fl)) (w : World) (hW : Wd w) (hng : 4 ≤ w.heap.size) :
  Ret Tryz.prog 13 #[str s] w fun v w' => ∃ b, v = .tuple #[.agg (exE p b).toArray, .agg #[.int .i64 (fl.1 : Nat), .int .i64 (fl.2 : Nat)]] ∧ exT w' (Nn w w') p b ∧ Ext w w' :=
 (Expr_ok s hs w hW hng).mono fun v w' ⟨b, h1, h2, _, h4⟩ => ⟨b, by rw [h1, h], by rw [h] at h2; exact h2, h4⟩


def hP1 : List Bk := (resOf (List.replicate 6 noBk) (parseP [109, 111, 100, 101, 108, 32, 123, 32, 116, 97, 114, 103, 101, 116, 32, 43, 61, 32, 45, 40, 97, 32, 45, 32, 49, 41, 32, 42, 32, 50, 32, 59, 32, 125])).1
theorem parse1 (w : World) (hW : Wd w) (hng : 4 ≤ w.heap.size) : Ret Tryz.prog 10 #[str [109, 111, 100, 101, 108, 32, 123, 32, 116, 97, 114, 103, 101, 116, 32, 43, 61, 32, 45, 40, 97, 32, 45, 32, 49, 41, 32, 42, 32, 50, 32, 59, 32, 125]] w fun v w' => ∃ cs, v = .tuple #[.agg cs.toArray, .agg #[.int .i64 0, .int .i64 0]] ∧ pgM w' (Nn w w') hP1 cs ∧ Ext w w' :=
 Parse_at _ (by decide) (fl := (0, 0)) (Prod.ext rfl (by kernel_rfl)) w hW hng

def hP3 : List Bk := (resOf (List.replicate 6 noBk) (parseP [109, 111, 100, 101, 108, 32, 123, 32, 125, 32, 100, 97, 116, 97, 32, 123, 32, 125])).1
theorem parse3 (w : World) (hW : Wd w) (hng : 4 ≤ w.heap.size) : Ret Tryz.prog 10 #[str [109, 111, 100, 101, 108, 32, 123, 32, 125, 32, 100, 97, 116, 97, 32, 123, 32, 125]] w fun v w' => ∃ cs, v = .tuple #[.agg cs.toArray, .agg #[.int .i64 130, .int .i64 10]] ∧ pgM w' (Nn w w') hP3 cs ∧ Ext w w' :=
 Parse_at _ (by decide) (fl := (130, 10)) (Prod.ext rfl (by kernel_rfl)) w hW hng

def hP4 : List Bk := (resOf (List.replicate 6 noBk) (parseP [109, 111, 100, 101, 108, 32, 123, 32, 40, 97, 41, 32, 61, 32, 49, 59, 32, 125])).1
theorem parse4 (w : World) (hW : Wd w) (hng : 4 ≤ w.heap.size) : Ret Tryz.prog 10 #[str [109, 111, 100, 101, 108, 32, 123, 32, 40, 97, 41, 32, 61, 32, 49, 59, 32, 125]] w fun v w' => ∃ cs, v = .tuple #[.agg cs.toArray, .agg #[.int .i64 130, .int .i64 12]] ∧ pgM w' (Nn w w') hP4 cs ∧ Ext w w' :=
 Parse_at _ (by decide) (fl := (130, 12)) (Prod.ext rfl (by kernel_rfl)) w hW hng

def hP5 : List Bk := (resOf (List.replicate 6 noBk) (parseP [])).1
theorem parse5 (w : World) (hW : Wd w) (hng : 4 ≤ w.heap.size) : Ret Tryz.prog 10 #[str []] w fun v w' => ∃ cs, v = .tuple #[.agg cs.toArray, .agg #[.int .i64 0, .int .i64 0]] ∧ pgM w' (Nn w w') hP5 cs ∧ Ext w w' :=
 Parse_at _ (by decide) (fl := (0, 0)) (Prod.ext rfl (by kernel_rfl)) w hW hng

def hX6 : Ex := (resOf noEx (exprP [97, 43, 98, 42, 45, 99])).1
theorem expr6 (w : World) (hW : Wd w) (hng : 4 ≤ w.heap.size) : Ret Tryz.prog 13 #[str [97, 43, 98, 42, 45, 99]] w fun v w' => ∃ b, v = .tuple #[.agg (exE hX6 b).toArray, .agg #[.int .i64 0, .int .i64 0]] ∧ exT w' (Nn w w') hX6 b ∧ Ext w w' :=
 Expr_at _ (by decide) (fl := (0, 0)) (Prod.ext rfl (by kernel_rfl)) w hW hng
theorem write1 {cs : List Value} {N : Nat → Prop} {w : World} (hm : pgM w N hP1 cs) (hW : Wd w) : Ret Tryz.prog 19 #[.agg cs.toArray] w fun v w' => v = .tuple #[str [109, 111, 100, 101, 108, 32, 123, 10, 116, 97, 114, 103, 101, 116, 32, 43, 61, 32, 45, 32, 40, 32, 97, 32, 45, 32, 49, 32, 41, 32, 42, 32, 50, 32, 59, 10, 125, 10], .int .i64 0] ∧ Ext w w' := by
 have h1 : pgOk hP1 = true := by decide +kernel
 have h2 : textT (pgT hP1) = [109, 111, 100, 101, 108, 32, 123, 10, 116, 97, 114, 103, 101, 116, 32, 43, 61, 32, 45, 32, 40, 32, 97, 32, 45, 32, 49, 32, 41, 32, 42, 32, 50, 32, 59, 10, 125, 10] := by kernel_rfl
 have h3 : (pgT hP1).length ≤ 1000000000 := by decide +kernel
 have h := Write_spec hP1 cs N w (by decide +kernel) hm hW h3 (by rw [h2]; decide)
 rw [h1, h2] at h
 exact h
theorem writeX {b : Option Addr × Nat} {N : Nat → Prop} {w : World} (hm : exT w N hX6 b) (hW : Wd w) : Ret Tryz.prog 22 #[.agg (exE hX6 b).toArray] w fun v w' => v = .tuple #[str [97, 32, 43, 32, 98, 32, 42, 32, 45, 32, 99], .int .i64 0] ∧ Ext w w' := by
 have h1 : exOk hX6 = true := by decide +kernel
 have h2 : textT (exT hX6) = [97, 32, 43, 32, 98, 32, 42, 32, 45, 32, 99] := by kernel_rfl
 have h3 : (_root_.Go.Tree.exT hX6).length ≤ 1000000000 := by decide +kernel
 have h := WriteExpr_spec hX6 _ N w (by decide +kernel) hm.M hW h3 (by rw [h2]; decide)
 rw [h1, h2] at h
 exact h
theorem same0 {cs : List Value} {N : Nat → Prop} {w : World} (hm : pgM w N hP5 cs) : Ret Tryz.prog 21 #[.agg cs.toArray, .agg [.bool false, .slice none 0 0, .slice none 0 0, .bool false, .slice none 0 0, .slice none 0 0, .bool false, .slice none 0 0, .slice none 0 0, .bool false, .slice none 0 0, .slice none 0 0, .bool false, .slice none 0 0, .slice none 0 0, .bool false, .slice none 0 0, .slice none 0 0].toArray] w fun v w' => v = .bool true ∧ Ext w w' := by
 have h1 : pgSame hP5 (List.replicate 6 noBk) = true := by decide +kernel
 have h := Same_spec hP5 (List.replicate 6 noBk) cs _ N w (by decide +kernel) hm pgM.zero
 rw [h1] at h
 exact h


set_option maxRecDepth 100000 in
set_option maxHeartbeats 8000000 in
theorem head13_ok (w : World) (hW : Wd w) (hng : 4 ≤ w.heap.size) :
  Ret Tryz.prog 9 #[] w (fun v w' => v = .bool true ∧ Ext w w') := by
 refine enter (S := No) (l := []) (L := []) 89 Tryz.func9 rfl rfl rfl (St.start w No) ?_; refine yA ?_; refine aB rfl ?_; refine yC ?_; refine w_callR (fun w => zR Tryz.func10 rfl rfl rfl) rfl rfl (fun w h => parse1 w (hW.now (.head _) h) (Nat.le_trans hng (h.fr _ (.head _)).size)) ?_
 rintro wa hwa v x1 ⟨cs1, rfl, hM, hx⟩
 refine ⟨_, _, (hwa.ext hx).base1, ?_⟩
 have hK1 : Kt (x1, inL _) w.heap.size pgM _ cs1 := Kt.new hM TL.pg hwa (hwa.fr _ (.head _)).size; clear hM hx hwa
 have hcl1 : cs1.length = 18 := hK1.len
 refine zm rfl ?_; refine w_r (fun _ => R_extract rfl rfl) rfl rfl ?_; refine w_r (fun _ => R_extract rfl rfl) rfl rfl ?_; refine w_alloc zr29 (fun p1b gp1b up1b => ?_)
 refine w_alloc zr32 (fun f1b gf1b uf1b => ?_)
 refine w_storeW cs1 1 rfl z29 rfl rfl rfl hcl1 (pg_one hK1) rfl ?_; refine w_store 0 rfl z32 rfl rfl rfl rfl rfl rfl rfl ?_; refine yC ?_; refine w_loadW z29 rfl (fun w h => h.at_ 1 rfl) hcl1 ?_; refine zC (fun w => zR Tryz.func19 rfl rfl rfl) rfl rfl (fun w h => write1 (hK1.now TL.pg (.head _) h) (hW.now (.tail _ (.head _)) h)) ?_; refine zm rfl ?_; refine w_r (fun _ => R_extract rfl rfl) rfl rfl ?_; refine w_r (fun _ => R_extract rfl rfl) rfl rfl ?_; refine za (v := str _) rfl ?_; refine aI rfl ?_; refine yC ?_; refine w_callR (fun w => zR Tryz.func10 rfl rfl rfl) rfl rfl (fun w h => parse3 w (hW.now (.tail _ (.head _)) h) (Nat.le_trans hng (h.fr _ (.tail _ (.head _))).size)) ?_
 rintro wa hwa v x3 ⟨cs3, rfl, hM, hx⟩
 refine ⟨_, _, (hwa.ext hx).base1, ?_⟩
 have hK3 : Kt (x3, inL _) w.heap.size pgM _ cs3 := Kt.new hM TL.pg hwa (hwa.fr _ (.tail _ (.head _))).size; clear hM hx hwa
 have hcl3 : cs3.length = 18 := hK3.len
 refine zm rfl ?_; refine w_r (fun _ => R_extract rfl rfl) rfl rfl ?_; refine w_r (fun _ => R_extract rfl rfl) rfl rfl ?_; refine w_alloc zr29 (fun p3b gp3b up3b => ?_)
 refine w_alloc zr32 (fun f3b gf3b uf3b => ?_)
 refine w_storeW cs3 1 rfl z29 rfl rfl rfl hcl3 (pg_one hK3) rfl ?_; refine w_store 0 rfl z32 rfl rfl rfl rfl rfl rfl rfl ?_; refine yC ?_; refine w_callR (fun w => zR Tryz.func10 rfl rfl rfl) rfl rfl (fun w h => parse4 w (hW.now (.tail _ (.tail _ (.head _))) h) (Nat.le_trans hng (h.fr _ (.tail _ (.tail _ (.head _)))).size)) ?_
 rintro wa hwa v x4 ⟨cs4, rfl, hM, hx⟩
 refine ⟨_, _, (hwa.ext hx).base1, ?_⟩
 have hK4 : Kt (x4, inL _) w.heap.size pgM _ cs4 := Kt.new hM TL.pg hwa (hwa.fr _ (.tail _ (.tail _ (.head _)))).size; clear hM hx hwa
 have hcl4 : cs4.length = 18 := hK4.len
 refine zm rfl ?_; refine w_r (fun _ => R_extract rfl rfl) rfl rfl ?_; refine w_r (fun _ => R_extract rfl rfl) rfl rfl ?_; refine w_alloc zr29 (fun p4b gp4b up4b => ?_)
 refine w_alloc zr32 (fun f4b gf4b uf4b => ?_)
 refine w_storeW cs4 1 rfl z29 rfl rfl rfl hcl4 (pg_one hK4) rfl ?_; refine w_store 0 rfl z32 rfl rfl rfl rfl rfl rfl rfl ?_; refine yC ?_; refine w_callR (fun w => zR Tryz.func10 rfl rfl rfl) rfl rfl (fun w h => parse5 w (hW.now (.tail _ (.tail _ (.tail _ (.head _)))) h) (Nat.le_trans hng (h.fr _ (.tail _ (.tail _ (.tail _ (.head _))))).size)) ?_
 rintro wa hwa v x5 ⟨cs5, rfl, hM, hx⟩
 refine ⟨_, _, (hwa.ext hx).base1, ?_⟩
 have hK5 : Kt (x5, inL _) w.heap.size pgM _ cs5 := Kt.new hM TL.pg hwa (hwa.fr _ (.tail _ (.tail _ (.tail _ (.head _))))).size; clear hM hx hwa
 have hcl5 : cs5.length = 18 := hK5.len
 refine zm rfl ?_; refine w_r (fun _ => R_extract rfl rfl) rfl rfl ?_; refine w_r (fun _ => R_extract rfl rfl) rfl rfl ?_; refine w_alloc zr29 (fun p5b gp5b up5b => ?_)
 refine w_alloc zr32 (fun f5b gf5b uf5b => ?_)
 refine w_storeW cs5 1 rfl z29 rfl rfl rfl hcl5 (pg_one hK5) rfl ?_; refine w_store 0 rfl z32 rfl rfl rfl rfl rfl rfl rfl ?_; refine yC ?_; refine w_callR (fun w => zR Tryz.func13 rfl rfl rfl) rfl rfl (fun w h => expr6 w (hW.now (.tail _ (.tail _ (.tail _ (.tail _ (.head _))))) h) (Nat.le_trans hng (h.fr _ (.tail _ (.tail _ (.tail _ (.tail _ (.head _)))))).size)) ?_
 rintro wa hwa v x6 ⟨cs6, rfl, hM, hx⟩
 refine ⟨_, _, (hwa.ext hx).base1, ?_⟩
 have hK6 : Kt (x6, inL _) w.heap.size exT _ cs6 := Kt.new hM TL.ext hwa (hwa.fr _ (.tail _ (.tail _ (.tail _ (.tail _ (.head _)))))).size; clear hM hx hwa
 refine zm rfl ?_; refine w_r (fun _ => R_extract rfl rfl) rfl rfl ?_; refine w_r (fun _ => R_extract rfl rfl) rfl rfl ?_; refine w_alloc zr39 (fun e6b ge6b ue6b => ?_)
 refine w_alloc zr32 (fun f6b gf6b uf6b => ?_)
 refine w_store 1 rfl z39 rfl rfl rfl rfl rfl rfl rfl ?_; refine w_store 0 rfl z32 rfl rfl rfl rfl rfl rfl rfl ?_; refine yC ?_; refine w_loadA z39 rfl (fun _ h => h.at_ 1 rfl) rfl ?_; refine zC (fun w => zR Tryz.func22 rfl rfl rfl) rfl rfl (fun w h => writeX (hK6.now TL.ext (.head _) h) (hW.now (.tail _ (.tail _ (.tail _ (.tail _ (.tail _ (.head _)))))) h)) ?_; refine zm rfl ?_; refine w_r (fun _ => R_extract rfl rfl) rfl rfl ?_; refine w_r (fun _ => R_extract rfl rfl) rfl rfl ?_; refine za (v := str _) rfl ?_; refine aI rfl ?_; refine yC ?_; refine zf fa32_0 rfl ?_; refine zl z30 rfl (fun _ h => zc 8 rfl rfl h) ?_; refine w_r (fun _ => R_eq rfl rfl) rfl rfl ?_; refine mB rfl ?_
 refine zd (t := 48) rfl (fun h11 => ?_) (fun h11 => ?_)
 ·refine zw rfl rfl (bT h11) ?_; refine mI rfl ?_; refine zw rfl rfl (bT h11) ?_; refine w_r (fun _ => R_eq rfl rfl) rfl rfl ?_; refine w_r (v := .bool _) (fun _ => zT (bT h11) rfl) rfl rfl ?_; refine mB rfl ?_; refine zd (t := 52) rfl (fun h12 => ?_) (fun h12 => ?_)
  ·refine zw rfl rfl (bT h12) ?_; refine zm (v := str _) rfl ?_; refine zw rfl rfl (bT h12) ?_; refine w_r (fun _ => R_seq rfl rfl) rfl rfl ?_; refine w_r (v := .bool _) (fun _ => zT (bT h12) rfl) rfl rfl ?_; refine mB rfl ?_; refine zd (t := 56) rfl (fun h13 => ?_) (fun h13 => ?_)
   ·refine zw rfl rfl (bT h13) ?_; refine w_loadA z32 rfl (fun _ h => h.at_ 6 rfl) rfl ?_; refine zw rfl rfl (bT h13) ?_; refine w_r (fun _ => R_build bt32 rfl) rfl rfl ?_; refine zw rfl rfl (bT h13) ?_; refine w_r (fun _ => R_eqS fl32 rfl rfl (eq2_run (n := 9998) fl32 z30 z3 un30 un3)) rfl rfl ?_; refine w_r (v := .bool _) (fun _ => zT (bT h13) rfl) rfl rfl ?_; refine mB rfl ?_; refine zp (t := 61) rfl (fun h14 => ?_) (fun h14 => ?_)
    ·refine zw rfl rfl (bV h14) ?_; refine w_loadA z32 rfl (fun _ h => h.at_ 4 rfl) rfl ?_; refine zw rfl rfl (bV h14) ?_; refine w_r (fun _ => R_build bt32 rfl) rfl rfl ?_; refine zw rfl rfl (bV h14) ?_; refine w_r (fun _ => R_eqS fl32 rfl rfl (eq2_run (n := 9998) fl32 z30 z3 un30 un3)) rfl rfl ?_; refine w_r (v := .bool _) (fun _ => zT (bV h14) rfl) rfl rfl ?_; refine mB rfl ?_; refine zp (t := 66) rfl (fun h15 => ?_) (fun h15 => ?_)
     ·refine zw rfl rfl (bV h15) ?_; refine zf fa32_0 rfl ?_; refine zw rfl rfl (bV h15) ?_; refine zl z30 rfl (fun _ h => zc 2 rfl rfl h) ?_; refine zw rfl rfl (bV h15) ?_; refine w_r (fun _ => R_eq rfl rfl) rfl rfl ?_; refine w_r (v := .bool _) (fun _ => zT (bV h15) rfl) rfl rfl ?_; refine mB rfl ?_; refine zd (t := 71) rfl (fun h16 => ?_) (fun h16 => ?_)
      ·refine zw rfl rfl (bT h16) ?_; refine w_loadW z29 rfl (fun w h => h.at_ 3 rfl) hcl5 ?_; refine zw rfl rfl (bT h16) ?_; refine w_r (fun _ => R_build bt29 rfl) rfl rfl ?_; refine zw rfl rfl (bT h16) ?_; refine zC (fun w => zR Tryz.func21 rfl rfl rfl) rfl rfl (fun w h => same0 (hK5.now TL.pg (.tail _ (.head _)) h)) ?_; refine w_r (v := .bool _) (fun _ => zT (bT h16) rfl) rfl rfl ?_; refine mB rfl ?_; refine zw rfl rfl rfl ?_; refine zf fa32_0 rfl ?_; refine zw rfl rfl rfl ?_; refine zl z30 rfl (fun _ h => zc 0 rfl rfl h) ?_; refine zw rfl rfl rfl ?_; refine w_r (fun _ => R_eq rfl rfl) rfl rfl ?_; refine w_r (v := .bool _) (fun _ => zT rfl rfl) rfl rfl ?_; refine mB rfl ?_; refine zd (t := 81) rfl (fun h17 => ?_) (fun h17 => ?_)
       ·refine zw rfl rfl (bT h17) ?_; refine mI rfl ?_; refine zw rfl rfl (bT h17) ?_; refine w_r (fun _ => R_eq rfl rfl) rfl rfl ?_; refine w_r (v := .bool _) (fun _ => zT (bT h17) rfl) rfl rfl ?_; refine mB rfl ?_; refine zd (t := 85) rfl (fun h18 => ?_) (fun h18 => ?_)
        ·refine zw rfl rfl (bT h18) ?_; refine zm (v := str _) rfl ?_; refine zw rfl rfl (bT h18) ?_; refine w_r (fun _ => R_seq rfl rfl) rfl rfl ?_; refine w_r (v := .bool _) (fun _ => zT (bT h18) rfl) rfl rfl ?_; refine aB rfl ?_; refine yB ?_; refine ze ?_; refine zo (v := .bool _) rfl rfl rfl ?_; exact fun w' hw => ⟨rfl, hw.fr _ (.tail _ (.tail _ (.tail _ (.tail _ (.tail _ (.head _))))))⟩
        ·first | exact absurd (by first | rfl | decide) h18 | exact absurd h18 (by decide) | (simp at h18)
       ·first | exact absurd (by first | rfl | decide) h17 | exact absurd h17 (by decide) | (simp at h17)
      ·first | exact absurd (by first | rfl | decide) h16 | exact absurd h16 (by decide) | (simp at h16)
     ·first | exact absurd (by first | rfl | decide) h15 | exact absurd h15 (by decide) | (simp at h15)
    ·first | exact absurd (by first | rfl | decide) h14 | exact absurd h14 (by decide) | (simp at h14)
   ·first | exact absurd (by first | rfl | decide) h13 | exact absurd h13 (by decide) | (simp at h13)
  ·first | exact absurd (by first | rfl | decide) h12 | exact absurd h12 (by decide) | (simp at h12)
 ·first | exact absurd (by first | rfl | decide) h11 | exact absurd h11 (by decide) | (simp at h11)
end Go.Proofs.YtaniogadknakoaaGreatDoor
end

section
/- Trees: how long what is written is; the same tree is the same; a block more. -/
namespace Go.Tree
/-! how many bytes, with a blank behind each token -/
def tb (ts : List Str) : Nat := (ts.map fun s => s.length + 1).sum
def pgW (p : List Bk) : Nat := (p.map bkW).sum
/-! the same as itself -/
mutual
theorem exSame_refl : ∀ x : Ex, exSame x x = true
  | .mk op at_ nm ks => by rw [exSame, show (Ex.mk op at_ nm ks).kids = ks from rfl, exsSame_refl ks]; simp [Ex.op, Ex.nm]
theorem exsSame_refl : ∀ l : List Ex, exsSame l l = true
  | [] => by simp [exsSame]
  | x :: l => by rw [exsSame]; simp [exSame_refl x, exsSame_refl l]
end
mutual
theorem smSame_refl : ∀ x : Sm, smSame x x = true
  | .mk op at_ nm ks b e => by rw [smSame, show (Sm.mk op at_ nm ks b e).kids = ks from rfl, show (Sm.mk op at_ nm ks b e).body = b from rfl, show (Sm.mk op at_ nm ks b e).els = e from rfl, exsSame_refl ks, smsSame_refl b, smsSame_refl e]; simp [Sm.op, Sm.nm]
theorem smsSame_refl : ∀ l : List Sm, smsSame l l = true
  | [] => by simp [smsSame]
  | x :: l => by rw [smsSame]; simp [smSame_refl x, smsSame_refl l]
end
theorem dcSame_refl (d : Dc) : dcSame d d = true := by simp [dcSame, exsSame_refl]
theorem pairOk_refl {α : Type} {q : α → α → Bool} (h : ∀ x, q x x = true) : ∀ l : List α, pairOk q l l = true
  | [] => by simp [pairOk]
  | x :: l => by rw [pairOk_cons, h, pairOk_refl h l]; rfl
theorem bkSame_refl (b : Bk) : bkSame b b = true := by simp [bkSame, pairOk_refl dcSame_refl, smsSame_refl]
theorem pgSame_refl (p : List Bk) : pgSame p p = true := pairOk_refl bkSame_refl p
/-! a block more -/
def sp (s : Str) : Str := s ++ (if brk s then [10] else [32])
def setIs (p : List Bk) (i : Nat) (b : Bk) : List Bk := p.set i { b with is := true }
end Go.Tree
end

section
/- Trees: what is written of an expression tells it: a reader of tokens, and its way back. -/
namespace Go.Tree
open Go.Tok
/-! but for places -/
mutual
def exZ : Ex → Ex
  | .mk o _ n k => .mk o 0 n (exsZ k)
def exsZ : List Ex → List Ex
  | [] => []
  | e :: l => exZ e :: exsZ l
end
theorem exsZ_map : ∀ l : List Ex, exsZ l = l.map exZ
  | [] => by simp [exsZ]
  | e :: l => by rw [exsZ, exsZ_map l, List.map_cons]
/-! the reader -/
abbrev PR := Option (Ex × List Str)
mutual
def pSum : Nat → List Str → PR
  | 0, _ => none
  | f + 1, ts => match pProd f ts with | some (e, r) => sumL f e r | none => none
def sumL : Nat → Ex → List Str → PR
  | 0, _, _ => none
  | f + 1, e, ts =>
    if ts.head? = some [43] then (match pProd f ts.tail with | some (k, r) => sumL f (.mk 6 0 [] [e, k]) r | none => none)
    else if ts.head? = some [45] then (match pProd f ts.tail with | some (k, r) => sumL f (.mk 7 0 [] [e, k]) r | none => none)
    else some (e, ts)
def pProd : Nat → List Str → PR
  | 0, _ => none
  | f + 1, ts => match pSign f ts with | some (e, r) => prodL f e r | none => none
def prodL : Nat → Ex → List Str → PR
  | 0, _, _ => none
  | f + 1, e, ts =>
    if ts.head? = some [42] then (match pSign f ts.tail with | some (k, r) => prodL f (.mk 8 0 [] [e, k]) r | none => none)
    else if ts.head? = some [47] then (match pSign f ts.tail with | some (k, r) => prodL f (.mk 9 0 [] [e, k]) r | none => none)
    else some (e, ts)
def pSign : Nat → List Str → PR
  | 0, _ => none
  | f + 1, ts => match ts with
    | [] => none
    | t :: r =>
      if t = [45] then (match pSign f r with | some (k, r) => some (.mk 5 0 [] [k], r) | none => none)
      else if t = [40] then (match pSum f r with | some (e, r) => if r.head? = some [41] then some (e, r.tail) else none | none => none)
      else if oneB 2 t then some (.mk 1 0 t [], r)
      else if r.head? = some [91] then (match pSum f r.tail with | some (e, r) => if r.head? = some [93] then some (.mk 3 0 t [e], r.tail) else none | none => none)
      else if r.head? = some [40] then (if r.tail.head? = some [41] then some (.mk 4 0 t [], r.tail.tail) else match pSum f r.tail with | some (e, r) => argL f t [e] r | none => none)
      else some (.mk 2 0 t [], r)
def argL : Nat → Str → List Ex → List Str → PR
  | 0, _, _, _ => none
  | f + 1, t, l, ts =>
    if ts.head? = some [44] then (match pSum f ts.tail with | some (e, r) => argL f t (l ++ [e]) r | none => none)
    else if ts.head? = some [41] then some (.mk 4 0 t l, ts.tail)
    else none
end
/-- what may stand behind -/
def nb (r : List Str) : Prop := r.head? ≠ some [91] ∧ r.head? ≠ some [40]
def nm8 (r : List Str) : Prop := nb r ∧ r.head? ≠ some [42] ∧ r.head? ≠ some [47]
def nm6 (r : List Str) : Prop := nm8 r ∧ r.head? ≠ some [43] ∧ r.head? ≠ some [45]
/-! the way back: fuel K e is enough, and what is left of it is told -/
def K (e : Ex) : Nat := 8 * exW e
/-- of what holds together closely -/
def SgP (e : Ex) : Prop := ∀ f r, K e ≤ f + 4 → nb r → pSign f (exT e ++ r) = some (exZ e, r)
def PdP (e : Ex) : Prop := ∀ f r, K e ≤ f + 2 → nb r → ∃ g, f + 4 ≤ g + K e ∧ pProd f (exT e ++ r) = prodL g (exZ e) r
def SuP (e : Ex) : Prop := ∀ f r, K e ≤ f → nm8 r → ∃ g, f + 2 ≤ g + K e ∧ pSum f (exT e ++ r) = sumL g (exZ e) r
end Go.Tree
namespace Go.Tree
open Go.Tok
end Go.Tree
end

section
/- The plain part of layer parse: what is read does not hang on places. -/
namespace Go.Prs
open Go.Tok Go.Tree
mutual
def smZ : Sm → Sm
  | .mk o _ n k b e => .mk o 0 n (exsZ k) (smsZ b) (smsZ e)
def smsZ : List Sm → List Sm
  | [] => []
  | s :: l => smZ s :: smsZ l
end
theorem smsZ_map : ∀ l : List Sm, smsZ l = l.map smZ
  | [] => by simp [smsZ]
  | e :: l => by rw [smsZ, smsZ_map l, List.map_cons]
def dcZ (d : Dc) : Dc := ⟨d.ty, 0, d.nm, exsZ d.size, exsZ d.lower, exsZ d.upper, exsZ d.init⟩
def bkZ (b : Bk) : Bk := ⟨b.is, b.decls.map dcZ, smsZ b.stmts⟩
def tsZ (l : List Tk) : List Tk := l.map fun t => (t.1, t.2.1, 0)
def mapZ {β : Type} (h : β → β) : Except Fl β → Except Fl β
  | .ok b => .ok (h b)
  | .error e => .error (e.1, 0)
def rZ {α : Type} (g : α → α) : α × List Tk → α × List Tk := fun x => (g x.1, tsZ x.2)
theorem isW_Z (x : Str) (ts : List Tk) : isW x (tsZ ts) = isW x ts := by cases ts <;> rfl
theorem named_Z (ts : List Tk) : named (tsZ ts) = named ts := by cases ts <;> rfl
theorem txt_Z (ts : List Tk) : txt (tsZ ts) = txt ts := by cases ts <;> rfl
theorem tail_Z (ts : List Tk) : (tsZ ts).tail = tsZ ts.tail := by cases ts <;> rfl
theorem place_Z (ts : List Tk) : place 0 (tsZ ts) = 0 := by cases ts <;> rfl
section
variable {α β : Type} {h : β → β} {z o : Nat} {x : Str} {ts : List Tk}
theorem andR_Z {g : α → α} {X Y : Rs α} {f f' : α → List Tk → Except Fl β} (hx : Y = mapZ (rZ g) X) (hf : ∀ a r, f' (g a) (tsZ r) = mapZ h (f a r)) : andR Y f' = mapZ h (andR X f) := by
  subst hx
  cases X with
  | ok a => obtain ⟨a, r⟩ := a; exact hf a r
  | error e => rfl
theorem want_Z {f f' : List Tk → Except Fl β} (hf : ∀ r, f' (tsZ r) = mapZ h (f r)) : want 0 x (tsZ ts) f' = mapZ h (want z x ts f) := by
  unfold want
  rw [isW_Z, tail_Z, place_Z]
  split
  · exact hf _
  · rfl
theorem opn_Z {f f' : List Tk → Except Fl β} (hf : ∀ r, f' (tsZ r) = mapZ h (f r)) : opn 0 o x (tsZ ts) f' = mapZ h (opn z o x ts f) := by
  unfold opn
  rw [isW_Z, tail_Z, place_Z]
  split
  · split
    · exact hf _
    · rfl
  · rfl
theorem if_Z {p q : Bool} {a a' b b' : Except Fl β} (hp : p = q) (ha : q = true → a' = mapZ h a) (hb : q = false → b' = mapZ h b) : (if p = true then a' else b') = mapZ h (if q = true then a else b) := by
  subst hp
  cases p
  · exact hb rfl
  · exact ha rfl
end
theorem now_Z0 (ts : List Tk) : (nowT 0 (tsZ ts)).2.2 = 0 := by cases ts <;> rfl
theorem now_Z1 (z : Nat) (ts : List Tk) : (nowT 0 (tsZ ts)).1 = (nowT z ts).1 := by cases ts <;> rfl
theorem now_Z2 (z : Nat) (ts : List Tk) : (nowT 0 (tsZ ts)).2.1 = (nowT z ts).2.1 := by cases ts <;> rfl
theorem nameX_Z (z : Nat) (ts : List Tk) : nameX 0 (tsZ ts) = mapZ (rZ id) (nameX z ts) := by
  unfold nameX
  rw [named_Z, txt_Z, tail_Z, place_Z]
  split <;> rfl
theorem exZ_op (e : Ex) : (exZ e).op = e.op := by cases e; rfl
theorem exZ_nm (e : Ex) : (exZ e).nm = e.nm := by cases e; rfl
theorem exZ_kids (e : Ex) : (exZ e).kids = exsZ e.kids := by cases e; rfl
theorem exZ_pair (op : Nat) (a b : Ex) : exZ (pair op a b) = pair op (exZ a) (exZ b) := by cases a; cases b; simp [pair, exZ, exsZ, Ex.at_]
theorem exZ_setAt (e : Ex) (a : Int) : exZ (setAt e a) = setAt (exZ e) 0 := by cases e; simp [setAt, exZ, Ex.op, Ex.nm, Ex.kids]
theorem exsZ_snoc (l : List Ex) (e : Ex) : exsZ (l ++ [e]) = exsZ l ++ [exZ e] := by simp [exsZ_map]
theorem smsZ_snoc (l : List Sm) (e : Sm) : smsZ (l ++ [e]) = smsZ l ++ [smZ e] := by simp [smsZ_map]
set_option maxHeartbeats 1000000 in
theorem ex_Z (z : Nat) : ∀ n : Nat, (∀ ts o, pSum 0 n (tsZ ts) o = mapZ (rZ exZ) (pSum z n ts o)) ∧ (∀ e ts o, pSumL 0 n (exZ e) (tsZ ts) o = mapZ (rZ exZ) (pSumL z n e ts o)) ∧
    (∀ ts o, pProd 0 n (tsZ ts) o = mapZ (rZ exZ) (pProd z n ts o)) ∧ (∀ e ts o, pProdL 0 n (exZ e) (tsZ ts) o = mapZ (rZ exZ) (pProdL z n e ts o)) ∧ (∀ ts o, pSign 0 n (tsZ ts) o = mapZ (rZ exZ) (pSign z n ts o)) ∧
    (∀ ts o, pSums 0 n (tsZ ts) o = mapZ (rZ exsZ) (pSums z n ts o)) ∧ (∀ l ts o, pSumsL 0 n (exsZ l) (tsZ ts) o = mapZ (rZ exsZ) (pSumsL z n l ts o)) := by
  intro n
  induction n with
  | zero => refine ⟨?_, ?_, ?_, ?_, ?_, ?_, ?_⟩ <;> intros <;> (first | rw [pSum, pSum] | rw [pSumL, pSumL] | rw [pProd, pProd] | rw [pProdL, pProdL] | rw [pSign, pSign] | rw [pSums, pSums] | rw [pSumsL, pSumsL]) <;> rfl
  | succ n ih =>
    obtain ⟨h1, h2, h3, h4, h5, h6, h7⟩ := ih
    refine ⟨?_, ?_, ?_, ?_, ?_, ?_, ?_⟩
    · intro ts o
      rw [pSum, pSum]
      exact andR_Z (h3 ts o) fun a r => h2 a r o
    · intro e ts o
      rw [pSumL, pSumL, tail_Z]
      refine if_Z (isW_Z _ _) (fun _ => andR_Z (h3 _ o) fun a r => ?_) fun _ => if_Z (isW_Z _ _) (fun _ => andR_Z (h3 _ o) fun a r => ?_) fun _ => rfl
      · rw [← exZ_pair]; exact h2 _ r o
      · rw [← exZ_pair]; exact h2 _ r o
    · intro ts o
      rw [pProd, pProd]
      exact andR_Z (h5 ts o) fun a r => h4 a r o
    · intro e ts o
      rw [pProdL, pProdL, tail_Z]
      refine if_Z (isW_Z _ _) (fun _ => andR_Z (h5 _ o) fun a r => ?_) fun _ => if_Z (isW_Z _ _) (fun _ => andR_Z (h5 _ o) fun a r => ?_) fun _ => rfl
      · rw [← exZ_pair]; exact h4 _ r o
      · rw [← exZ_pair]; exact h4 _ r o
    · intro ts o
      rw [pSign_eq, pSign_eq, now_Z0]
      refine if_Z (isW_Z _ _) (fun _ => opn_Z fun r => andR_Z (h5 r (o + 1)) fun a r => ?_) fun _ => if_Z (isW_Z _ _) (fun _ => opn_Z fun r => andR_Z (h1 r (o + 1)) fun a r => want_Z fun r => ?_) fun _ => ?_
      · rfl
      · simp only [mapZ, rZ, exZ_setAt]; rfl
      · rw [now_Z1 z, now_Z2 z, place_Z, tail_Z]
        split
        · split
          · rfl
          · rfl
        · rw [nameX_Z z]
          refine andR_Z (g := id) rfl fun nm r => ?_
          unfold pTail
          exact if_Z (isW_Z _ _) (fun _ => opn_Z fun r => andR_Z (h1 r (o + 1)) fun a r => want_Z fun r => rfl) fun _ => if_Z (isW_Z _ _) (fun _ => opn_Z fun r => andR_Z (h6 r (o + 1)) fun a r => want_Z fun r => rfl) fun _ => rfl
    · intro ts o
      rw [pSums, pSums]
      refine if_Z (isW_Z _ _) (fun _ => rfl) fun _ => andR_Z (h1 ts o) fun a r => ?_
      have := h7 [a] r o
      simpa [exsZ] using this
    · intro l ts o
      rw [pSumsL, pSumsL, tail_Z]
      refine if_Z (isW_Z _ _) (fun _ => andR_Z (h1 _ o) fun a r => ?_) fun _ => rfl
      rw [← exsZ_snoc]; exact h7 _ r o
section
variable {z n o : Nat}
theorem sum_Z (ts : List Tk) : pSum 0 n (tsZ ts) o = mapZ (rZ exZ) (pSum z n ts o) := (ex_Z z n).1 ts o
theorem sums_Z (ts : List Tk) : pSums 0 n (tsZ ts) o = mapZ (rZ exsZ) (pSums z n ts o) := (ex_Z z n).2.2.2.2.2.1 ts o
theorem cmpU_Z (ts : List Tk) : ∀ i, cmpU i (tsZ ts) = cmpU i ts
  | 0 => rfl
  | i + 1 => by rw [cmpU, cmpU, cmpU_Z ts i, isW_Z]
theorem add_Z (ts : List Tk) : pAdd 0 n (tsZ ts) o = mapZ (rZ smZ) (pAdd z n ts o) := want_Z fun r => want_Z fun r => andR_Z (sum_Z r) fun a r => want_Z fun r => by simp [mapZ, rZ, smZ, smsZ, exsZ]
variable {body body' : List Tk → Rs (List Sm)}
theorem loop_Z (hb : ∀ r, body' (tsZ r) = mapZ (rZ smsZ) (body r)) (ts : List Tk) : pLoop body' 0 n (tsZ ts) o = mapZ (rZ smZ) (pLoop body z n ts o) :=
  want_Z fun r => opn_Z fun r => andR_Z (nameX_Z z r) fun nm r => want_Z fun r => andR_Z (sum_Z r) fun x r => want_Z fun r => andR_Z (sum_Z r) fun y r => want_Z fun r => andR_Z (hb r) fun b r => by simp [mapZ, rZ, smZ, smsZ, exsZ]
theorem choice_Z (hb : ∀ r, body' (tsZ r) = mapZ (rZ smsZ) (body r)) (ts : List Tk) : pChoice body' 0 n (tsZ ts) o = mapZ (rZ smZ) (pChoice body z n ts o) :=
  want_Z fun r => opn_Z fun r => andR_Z (sum_Z r) fun x r => by
    unfold pChoiceA
    rw [cmpU_Z, place_Z, tail_Z]
    split
    · rfl
    · refine andR_Z (sum_Z _) fun y r2 => ?_
      rw [← exZ_pair]
      refine want_Z fun r => andR_Z (hb r) fun b r => ?_
      rw [tail_Z]
      exact if_Z (isW_Z _ _) (fun _ => andR_Z (hb _) fun e r => by simp [mapZ, rZ, smZ, smsZ, exsZ]) fun _ => by simp [mapZ, rZ, smZ, smsZ, exsZ]
theorem plain_Z (ts : List Tk) : pPlain 0 n (tsZ ts) o = mapZ (rZ smZ) (pPlain z n ts o) := andR_Z (sum_Z ts) fun e r => by
  unfold pPlainB
  rw [named_Z, exZ_op, isW_Z, tail_Z]
  refine if_Z rfl (fun _ => andR_Z (sum_Z _) fun k r => want_Z fun r => ?_) fun _ => want_Z fun r => andR_Z (nameX_Z z r) fun nm r => opn_Z fun r => andR_Z (sums_Z r) fun l r => want_Z fun r => want_Z fun r => ?_
  · rw [exZ_nm, exZ_kids, ← exsZ_snoc]; simp [mapZ, rZ, smZ, smsZ]
  · simp [mapZ, rZ, smZ, smsZ, exsZ]
end
theorem smZ_setS (s : Sm) (a : Int) : smZ (setS s a) = setS (smZ s) 0 := by cases s; simp [setS, smZ]
set_option maxHeartbeats 1000000 in
theorem sm_Z (z : Nat) : ∀ n : Nat, (∀ ts o, pStmt 0 n (tsZ ts) o = mapZ (rZ smZ) (pStmt z n ts o)) ∧ (∀ ts o, pBody 0 n (tsZ ts) o = mapZ (rZ smsZ) (pBody z n ts o)) ∧ (∀ l ts o, pStmts 0 n (smsZ l) (tsZ ts) o = mapZ (rZ smsZ) (pStmts z n l ts o)) := by
  intro n
  induction n with
  | zero => refine ⟨?_, ?_, ?_⟩ <;> intros <;> (first | rw [pStmt, pStmt] | rw [pBody, pBody] | rw [pStmts, pStmts]) <;> rfl
  | succ n ih =>
    obtain ⟨h1, h2, h3⟩ := ih
    refine ⟨?_, ?_, ?_⟩
    · intro ts o
      rw [pStmt_eq, pStmt_eq, now_Z0]
      refine andR_Z (g := smZ) ?_ fun s r => ?_
      · exact if_Z (isW_Z _ _) (fun _ => add_Z ts) fun _ => if_Z (isW_Z _ _) (fun _ => loop_Z (fun r => h2 r o) ts) fun _ => if_Z (isW_Z _ _) (fun _ => choice_Z (fun r => h2 r o) ts) fun _ => if_Z (isW_Z _ _) (fun _ => andR_Z (h2 ts o) fun b r => by simp [mapZ, rZ, smZ, smsZ, exsZ]) fun _ => plain_Z ts
      · simp only [mapZ, rZ, smZ_setS]; rfl
    · intro ts o
      rw [pBody_eq, pBody_eq]
      exact opn_Z fun r => andR_Z (h3 [] r _) fun l r => want_Z fun r => rfl
    · intro l ts o
      rw [pStmts_eq, pStmts_eq]
      refine if_Z (isW_Z _ _) (fun _ => rfl) fun _ => andR_Z (h1 ts o) fun s r => ?_
      rw [← smsZ_snoc]; exact h3 _ r o
section
variable {z n o ty a : Nat} {first : Bool}
theorem size_Z (ts : List Tk) : pSize 0 n (tsZ ts) o = mapZ (rZ exsZ) (pSize z n ts o) := opn_Z fun r => andR_Z (sum_Z r) fun e r => want_Z fun r => by simp [mapZ, rZ, exsZ]
def twZ (p : List Ex × List Ex) : List Ex × List Ex := (exsZ p.1, exsZ p.2)
theorem upper_Z (lo : List Ex) (ts : List Tk) : pUpper 0 n (exsZ lo) (tsZ ts) o = mapZ (rZ twZ) (pUpper z n lo ts o) := want_Z fun r => want_Z fun r => andR_Z (sum_Z r) fun e r => want_Z fun r => by simp [mapZ, rZ, twZ, exsZ]
theorem bounds_Z (ts : List Tk) : pBounds 0 n (tsZ ts) o = mapZ (rZ twZ) (pBounds z n ts o) := by
  unfold pBounds
  rw [tail_Z, tail_Z]
  refine if_Z (isW_Z _ _) (fun _ => if_Z (isW_Z _ _) (fun _ => want_Z fun r => andR_Z (sum_Z r) fun e r => ?_) fun _ => ?_) fun _ => rfl
  · unfold pBoundsB
    rw [tail_Z]
    exact if_Z (isW_Z _ _) (fun _ => by have := upper_Z (z := z) (n := n) (o := o) [e] r.tail; simpa [exsZ] using this) fun _ => want_Z fun r => by simp [mapZ, rZ, twZ, exsZ]
  · have := upper_Z (z := z) (n := n) (o := o) [] ts.tail
    simpa [exsZ] using this
def bdZ (p : Bool × Dc) : Bool × Dc := (p.1, dcZ p.2)
variable {nm : Str} {size lo up init : List Ex}
theorem declE_Z (ts : List Tk) : pDeclE 0 ty 0 nm (exsZ size) (exsZ lo) (exsZ up) (exsZ init) (tsZ ts) = mapZ (rZ bdZ) (pDeclE z ty a nm size lo up init ts) := want_Z fun r => by simp [mapZ, rZ, bdZ, dcZ]
theorem declN_Z (ts : List Tk) : pDeclN 0 n first ty 0 o (exsZ size) (exsZ lo) (exsZ up) nm (tsZ ts) = mapZ (rZ bdZ) (pDeclN z n first ty a o size lo up nm ts) := by
  unfold pDeclN
  rw [isW_Z, tail_Z]
  refine if_Z rfl (fun _ => andR_Z (sum_Z _) fun e r => ?_) fun _ => ?_
  · have := declE_Z (z := z) (ty := ty) (a := a) (nm := nm) (size := size) (lo := lo) (up := up) (init := [e]) r
    simpa [exsZ] using this
  · have := declE_Z (z := z) (ty := ty) (a := a) (nm := nm) (size := size) (lo := lo) (up := up) (init := []) ts
    simpa [exsZ] using this
theorem declV_Z (ts : List Tk) : pDeclV 0 n first ty 0 o (exsZ size) (exsZ lo) (exsZ up) (tsZ ts) = mapZ (rZ bdZ) (pDeclV z n first ty a o size lo up ts) := andR_Z (nameX_Z z ts) fun _ r => declN_Z r
theorem declT_Z (ts : List Tk) : pDeclT 0 n first ty 0 o (exsZ size) (tsZ ts) = mapZ (rZ bdZ) (pDeclT z n first ty a o size ts) := andR_Z (bounds_Z ts) fun b r => by
  unfold pDeclU
  split
  · exact andR_Z (size_Z r) fun s r => declV_Z r
  · exact declV_Z r
theorem decl_Z (ts : List Tk) : pDecl 0 n first (tsZ ts) o = mapZ (rZ bdZ) (pDecl z n first ts o) := by
  unfold pDecl
  rw [now_Z0, tail_Z]
  have e0 : ([] : List Ex) = exsZ [] := by simp [exsZ]
  refine if_Z (isW_Z _ _) (fun _ => by rw [e0]; exact declT_Z _) fun _ => if_Z (isW_Z _ _) (fun _ => by rw [e0]; exact declT_Z _) fun _ => if_Z (isW_Z _ _) (fun _ => by rw [e0]; exact declT_Z _) fun _ => if_Z (isW_Z _ _) (fun _ => andR_Z (size_Z _) fun s r => ?_) fun _ => by simp [mapZ, rZ, bdZ, dcZ, exsZ]
  rw [tail_Z]
  exact if_Z (isW_Z _ _) (fun _ => declT_Z _) fun _ => want_Z fun r => declT_Z r
theorem decls_Z : ∀ (n : Nat) (l : List Dc) (ts : List Tk), pDecls 0 n first (l.map dcZ) (tsZ ts) o = mapZ (rZ (List.map dcZ)) (pDecls z n first l ts o)
  | 0, _, _ => by rw [pDecls, pDecls]; rfl
  | n + 1, l, ts => by
    rw [pDecls_eq, pDecls_eq]
    refine andR_Z (decl_Z ts) fun d r => if_Z rfl (fun _ => ?_) fun _ => rfl
    have := decls_Z n (l ++ [d.2]) r
    rw [← this, List.map_append]; rfl
theorem fillE_Z (ds : List Dc) (ss : List Sm) (ts : List Tk) : pFillE 0 (ds.map dcZ) (smsZ ss) (tsZ ts) = mapZ (rZ bkZ) (pFillE z ds ss ts) := want_Z fun _ => rfl
theorem fill_Z (i : Nat) (ts : List Tk) : pFill 0 n i (tsZ ts) o = mapZ (rZ bkZ) (pFill z n i ts o) := opn_Z fun r => by
  unfold pFillD
  refine andR_Z (g := List.map dcZ) ?_ fun ds r => ?_
  · split
    · rfl
    · exact decls_Z n [] r
  · unfold pFillS
    refine if_Z rfl (fun _ => ?_) fun _ => andR_Z ((sm_Z z n).2.2 [] r _) fun ss r => fillE_Z ds ss r
    have := fillE_Z (z := z) ds [] r
    simpa [smsZ] using this
theorem head_Z (last : Nat) (ts : List Tk) : pHead 0 last (tsZ ts) = mapZ (rZ id) (pHead z last ts) := by
  unfold pHead
  simp only [isW_Z, tail_Z]
  refine if_Z rfl (fun _ => rfl) fun _ => if_Z rfl (fun _ => if_Z rfl (fun _ => rfl) fun _ => want_Z fun r => rfl) fun _ => if_Z rfl (fun _ => rfl) fun _ => if_Z rfl (fun _ => rfl) fun _ => if_Z rfl (fun _ => want_Z fun r => rfl) fun _ => rfl
theorem prog_Z : ∀ (n last : Nat) (out : List Bk) (ts : List Tk), pProg 0 n last (out.map bkZ) (tsZ ts) = mapZ (rZ (List.map bkZ)) (pProg z n last out ts)
  | 0, _, _, _ => by rw [pProg, pProg]; rfl
  | n + 1, last, out, ts => by
    rw [pProg_eq, pProg_eq]
    refine andR_Z (head_Z last ts) fun i r => if_Z rfl (fun _ => andR_Z (fill_Z i.1 r) fun b r => ?_) fun _ => rfl
    rw [← prog_Z n _ _ r, List.map_set]; rfl
end
theorem noBk_Z : (List.replicate 6 noBk).map bkZ = List.replicate 6 noBk := by simp [List.map_replicate, noBk, bkZ, smsZ]
/-- what is read of two rows of tokens that are the same but for places -/
theorem prog_same {z z2 n : Nat} {T T2 : List Tk} (h : tsZ T = tsZ T2) : mapZ (List.map bkZ) (andR (pProg z n 0 (List.replicate 6 noBk) T) endR) = mapZ (List.map bkZ) (andR (pProg z2 n 0 (List.replicate 6 noBk) T2) endR) := by
  have key : ∀ z T, andR (pProg 0 n 0 (List.replicate 6 noBk) (tsZ T)) endR = mapZ (List.map bkZ) (andR (pProg z n 0 (List.replicate 6 noBk) T) endR) := fun z T => by
    have h1 := prog_Z (z := z) n 0 (List.replicate 6 noBk) T
    rw [noBk_Z] at h1
    exact andR_Z h1 fun a r => by cases r <;> rfl
  rw [← key z T, ← key z2 T2, h]
end Go.Prs
end

section
/- The plain part of layer parse: what is read is not more than its tokens. -/
namespace Go.Prs
open Go.Tok Go.Tree
def tw : List Tk → Nat
  | [] => 0
  | t :: r => 2 + t.2.1.length + tw r
theorem tw_snoc (t : Tk) : ∀ l : List Tk, tw (l ++ [t]) = tw l + 2 + t.2.1.length
  | [] => by simp [tw]
  | u :: l => by rw [List.cons_append, tw, tw, tw_snoc t l]; omega
theorem tw_tail (ts : List Tk) : tw ts.tail ≤ tw ts := by cases ts <;> simp [tw]
theorem tw_pos {ts : List Tk} (h : ts ≠ []) : tw ts.tail + 2 + (txt ts).length ≤ tw ts := by
  cases ts with
  | nil => exact absurd rfl h
  | cons t l => simp [tw, txt]; omega
theorem isW_tw {x : Str} {ts : List Tk} (h : isW x ts = true) : tw ts.tail + 2 ≤ tw ts := by
  have := tw_pos (ts := ts) (by rintro rfl; cases h); omega
theorem named_tw {ts : List Tk} (h : named ts = true) : tw ts.tail + 2 + (txt ts).length ≤ tw ts := tw_pos (by rintro rfl; cases h)
theorem cmpU_tw {ts : List Tk} : ∀ {i : Nat}, cmpU i ts ≠ 0 → tw ts.tail + 2 ≤ tw ts
  | 0, h => absurd rfl h
  | i + 1, h => by
    rw [cmpU] at h
    split at h
    · split at h
      · rename_i hw; exact isW_tw hw
      · exact absurd rfl h
    · exact cmpU_tw h
/-- told of all that is read -/
def Al {β : Type} (P : β → Prop) (X : Except Fl β) : Prop := ∀ b, X = .ok b → P b
section
variable {α β : Type} {P Q : β → Prop} {z o : Nat} {x : Str} {ts : List Tk}
theorem Al.ok {b : β} (h : P b) : Al P (.ok b) := fun c hc => by cases hc; exact h
theorem Al.er {e : Fl} : Al P (.error e) := fun c hc => by cases hc
theorem Al.mono {X : Except Fl β} (h : Al P X) (hq : ∀ b, P b → Q b) : Al Q X := fun b hb => hq b (h b hb)
theorem Al.andR {X : Rs α} {F : α → List Tk → Except Fl β} {A : α × List Tk → Prop} (hX : Al A X) (hF : ∀ a r, A (a, r) → Al P (F a r)) : Al P (andR X F) := by
  intro b hb
  cases X with
  | ok p => obtain ⟨a, r⟩ := p; exact hF a r (hX _ rfl) b hb
  | error e => cases hb
theorem Al.want {f : List Tk → Except Fl β} (h : tw ts.tail + 2 ≤ tw ts → Al P (f ts.tail)) : Al P (want z x ts f) := by
  unfold Prs.want
  split
  · rename_i hw; exact h (isW_tw hw)
  · exact .er
theorem Al.opn {f : List Tk → Except Fl β} (h : tw ts.tail + 2 ≤ tw ts → Al P (f ts.tail)) : Al P (opn z o x ts f) := by
  unfold Prs.opn
  split
  · rename_i hw
    split
    · exact h (isW_tw hw)
    · exact .er
  · exact .er
theorem Al.ifW {a b : Except Fl β} (ha : tw ts.tail + 2 ≤ tw ts → Al P a) (hb : Al P b) : Al P (if isW x ts = true then a else b) := by
  split
  · rename_i hw; exact ha (isW_tw hw)
  · exact hb
theorem Al.nameX : Al (fun p : Str × List Tk => tw p.2 + 2 + p.1.length ≤ tw ts) (nameX z ts) := by
  unfold Prs.nameX
  split
  · rename_i h; exact .ok (named_tw h)
  · exact .er
end
theorem exW_pair (op : Nat) (a b : Ex) : exW (pair op a b) = exW a + exW b + 3 := by simp [pair, exW, exsW]; omega
theorem exW_setAt (e : Ex) (a : Int) : exW (setAt e a) = exW e := by cases e; simp [setAt, exW, Ex.op, Ex.nm, Ex.kids]
theorem exW_op (e : Ex) : exW e = 1 + e.nm.length + e.kids.length + exsW e.kids := by cases e; rw [exW]; rfl
theorem exsW_snoc (e : Ex) : ∀ l : List Ex, exsW (l ++ [e]) = exsW l + exW e
  | [] => by simp [exsW]
  | u :: l => by rw [List.cons_append, exsW, exsW, exsW_snoc e l]; omega
theorem smsW_snoc (e : Sm) : ∀ l : List Sm, smsW (l ++ [e]) = smsW l + smW e
  | [] => by simp [smsW]
  | u :: l => by rw [List.cons_append, smsW, smsW, smsW_snoc e l]; omega
theorem smW_setS (s : Sm) (a : Int) : smW (setS s a) = smW s := by cases s; simp [setS, smW]
theorem exW_mk (op : Nat) (a : Int) (nm : Str) (l : List Ex) : exW (.mk op a nm l) = 1 + nm.length + l.length + exsW l := by rw [exW]
theorem smW_mk (op : Nat) (a : Int) (nm : Str) (l : List Ex) (b e : List Sm) : smW (.mk op a nm l b e) = 1 + nm.length + l.length + b.length + e.length + exsW l + smsW b + smsW e := by rw [smW]
theorem exsW_nil : exsW [] = 0 := by rw [exsW]
theorem exsW_one1 (e : Ex) : exsW [e] = exW e := by rw [exsW, exsW]; omega
theorem exsW_cons (e : Ex) (l : List Ex) : exsW (e :: l) = exW e + exsW l := by rw [exsW]
theorem smsW_nil : smsW [] = 0 := by rw [smsW]
abbrev lw (l : List Ex) : Nat := l.length + exsW l
abbrev SW (ts : List Tk) : Sm × List Tk → Prop := fun p => smW p.1 + 1 + tw p.2 ≤ tw ts
theorem wtF : (∀ (ts : List Tk) (p : Sm × List Tk), SW ts p = (smW p.1 + 1 + tw p.2 ≤ tw ts)) ∧ (∀ l : List Ex, lw l = l.length + exsW l) ∧ (∀ (op : Nat) (a b : Ex), exW (pair op a b) = exW a + exW b + 3) ∧ (∀ (e : Ex) (a : Int), exW (setAt e a) = exW e) ∧
    (∀ (op : Nat) (a : Int) (nm : Str) (l : List Ex), exW (.mk op a nm l) = 1 + nm.length + l.length + exsW l) ∧ (∀ e : Ex, exsW [e] = exW e) ∧ exsW [] = 0 ∧ (∀ (e : Ex) (l : List Ex), exsW (e :: l) = exW e + exsW l) ∧ (∀ (e : Ex) (l : List Ex), exsW (l ++ [e]) = exsW l + exW e) ∧
    (∀ (op : Nat) (a : Int) (nm : Str) (l : List Ex) (b e : List Sm), smW (.mk op a nm l b e) = 1 + nm.length + l.length + b.length + e.length + exsW l + smsW b + smsW e) ∧ (∀ (s : Sm) (a : Int), smW (setS s a) = smW s) ∧ smsW [] = 0 ∧ (∀ (e : Sm) (l : List Sm), smsW (l ++ [e]) = smsW l + smW e) ∧
    (∀ (l r : List Ex), (l ++ r).length = l.length + r.length) ∧ (∀ (l r : List Sm), (l ++ r).length = l.length + r.length) ∧ (∀ (e : Ex) (l : List Ex), (e :: l).length = l.length + 1) ∧ (∀ (e : Sm) (l : List Sm), (e :: l).length = l.length + 1) ∧ ([] : List Ex).length = 0 ∧ ([] : List Sm).length = 0 ∧ ([] : Str).length = 0 :=
  ⟨fun _ _ => rfl, fun _ => rfl, exW_pair, exW_setAt, exW_mk, exsW_one1, exsW_nil, exsW_cons, exsW_snoc, smW_mk, smW_setS, smsW_nil, smsW_snoc, fun _ _ => List.length_append, fun _ _ => List.length_append, fun _ _ => rfl, fun _ _ => rfl, rfl, rfl, rfl⟩
set_option maxHeartbeats 2000000 in
theorem ex_W (z : Nat) : ∀ n : Nat, (∀ ts o, Al (fun p : Ex × List Tk => exW p.1 + 1 + tw p.2 ≤ tw ts) (pSum z n ts o)) ∧ (∀ e ts o, Al (fun p : Ex × List Tk => exW p.1 + tw p.2 ≤ exW e + tw ts) (pSumL z n e ts o)) ∧
    (∀ ts o, Al (fun p : Ex × List Tk => exW p.1 + 1 + tw p.2 ≤ tw ts) (pProd z n ts o)) ∧ (∀ e ts o, Al (fun p : Ex × List Tk => exW p.1 + tw p.2 ≤ exW e + tw ts) (pProdL z n e ts o)) ∧ (∀ ts o, Al (fun p : Ex × List Tk => exW p.1 + 1 + tw p.2 ≤ tw ts) (pSign z n ts o)) ∧
    (∀ ts o, Al (fun p : List Ex × List Tk => p.1.length + exsW p.1 + tw p.2 ≤ tw ts) (pSums z n ts o)) ∧ (∀ l ts o, Al (fun p : List Ex × List Tk => p.1.length + exsW p.1 + tw p.2 ≤ l.length + exsW l + tw ts) (pSumsL z n l ts o)) := by
  intro n
  induction n with
  | zero => refine ⟨?_, ?_, ?_, ?_, ?_, ?_, ?_⟩ <;> intros <;> (first | rw [pSum] | rw [pSumL] | rw [pProd] | rw [pProdL] | rw [pSign] | rw [pSums] | rw [pSumsL]) <;> exact .er
  | succ n ih =>
    obtain ⟨h1, h2, h3, h4, h5, h6, h7⟩ := ih
    refine ⟨?_, ?_, ?_, ?_, ?_, ?_, ?_⟩
    · intro ts o
      rw [pSum_eq]
      exact .andR (h3 ts o) fun a r ha => (h2 a r o).mono fun p hp => by ((try simp only [wtF] at *); omega)
    · intro e ts o
      rw [pSumL_eq]
      exact .ifW (fun ht => .andR (h3 _ o) fun k r hk => (h2 _ r o).mono fun p hp => by ((try simp only [wtF] at *); omega)) (.ifW (fun ht => .andR (h3 _ o) fun k r hk => (h2 _ r o).mono fun p hp => by ((try simp only [wtF] at *); omega)) (.ok (Nat.le_refl _)))
    · intro ts o
      rw [pProd_eq]
      exact .andR (h5 ts o) fun a r ha => (h4 a r o).mono fun p hp => by ((try simp only [wtF] at *); omega)
    · intro e ts o
      rw [pProdL_eq]
      exact .ifW (fun ht => .andR (h5 _ o) fun k r hk => (h4 _ r o).mono fun p hp => by ((try simp only [wtF] at *); omega)) (.ifW (fun ht => .andR (h5 _ o) fun k r hk => (h4 _ r o).mono fun p hp => by ((try simp only [wtF] at *); omega)) (.ok (Nat.le_refl _)))
    · intro ts o
      rw [pSign_eq]
      refine .ifW (fun ht => .opn fun _ => .andR (h5 _ _) fun k r hk => .ok (by ((try simp only [wtF] at *); omega))) (.ifW (fun ht => .opn fun _ => .andR (h1 _ _) fun e r he => .want fun hr => .ok (by ((try simp only [wtF] at *); omega))) ?_)
      split
      · rename_i hk
        have hne : ts ≠ [] := by rintro rfl; cases hk
        have := tw_pos hne
        rw [txt_now z hne] at this
        split
        · exact .er
        · exact .ok (by ((try simp only [wtF] at *); omega))
      · refine .andR .nameX fun nm r hr => ?_
        unfold pTail
        exact .ifW (fun ht => .opn fun _ => .andR (h1 _ _) fun k r' hk => .want fun hw => .ok (by ((try simp only [wtF] at *); omega))) (.ifW (fun ht => .opn fun _ => .andR (h6 _ _) fun l r' hl => .want fun hw => .ok (by ((try simp only [wtF] at *); omega))) (.ok (by ((try simp only [wtF] at *); omega))))
    · intro ts o
      rw [pSums_eq]
      exact .ifW (fun ht => .ok (by ((try simp only [wtF] at *); omega))) (.andR (h1 ts o) fun e r he => (h7 [e] r o).mono fun p hp => by ((try simp only [wtF] at *); omega))
    · intro l ts o
      rw [pSumsL_eq]
      exact .ifW (fun ht => .andR (h1 _ o) fun e r he => (h7 _ r o).mono fun p hp => by ((try simp only [wtF] at *); omega)) (.ok (Nat.le_refl _))
section
variable {z n o : Nat}
theorem sum_W (ts : List Tk) (o : Nat) : Al (fun p : Ex × List Tk => exW p.1 + 1 + tw p.2 ≤ tw ts) (pSum z n ts o) := (ex_W z n).1 ts o
theorem sums_W (ts : List Tk) (o : Nat) : Al (fun p : List Ex × List Tk => p.1.length + exsW p.1 + tw p.2 ≤ tw ts) (pSums z n ts o) := (ex_W z n).2.2.2.2.2.1 ts o
variable {body : List Tk → Rs (List Sm)} (hb : ∀ ts, Al (fun p : List Sm × List Tk => p.1.length + smsW p.1 + 2 + tw p.2 ≤ tw ts) (body ts)) (ts : List Tk)
theorem add_W : Al (SW ts) (pAdd z n ts o) := .want fun h1 => .want fun h2 => .andR (sum_W _ _) fun e r he => .want fun h3 => .ok (by ((try simp only [wtF] at *); omega))
include hb in
theorem loop_W : Al (SW ts) (pLoop body z n ts o) := .want fun h1 => .opn fun h2 => .andR .nameX fun nm r hn => .want fun h3 => .andR (sum_W _ _) fun x r1 hx => .want fun h4 => .andR (sum_W _ _) fun y r2 hy => .want fun h5 => .andR (hb _) fun b r3 hb => .ok (by ((try simp only [wtF] at *); omega))
include hb in
theorem choice_W : Al (SW ts) (pChoice body z n ts o) := .want fun h1 => .opn fun h2 => .andR (sum_W _ _) fun x r hx => by
  unfold pChoiceA
  split
  · exact .er
  · rename_i hc
    have := cmpU_tw hc
    exact .andR (sum_W _ _) fun y r2 hy => .want fun h5 => .andR (hb _) fun b r3 hb1 => .ifW (fun h6 => .andR (hb _) fun e r4 he => .ok (by ((try simp only [wtF] at *); omega))) (.ok (by ((try simp only [wtF] at *); omega)))
theorem plain_W : Al (SW ts) (pPlain z n ts o) := .andR (sum_W _ _) fun e r he => by
  unfold pPlainB
  split
  · rename_i hc
    have := isW_tw ((Bool.and_eq_true _ _).mp hc).2
    have h9 := exW_op e
    exact .andR (sum_W _ _) fun k r2 hk => .want fun h3 => .ok (by ((try simp only [wtF] at *); omega))
  · exact .want fun h1 => .andR .nameX fun nm r2 hn => .opn fun h2 => .andR (sums_W _ _) fun l r3 hl => .want fun h3 => .want fun h4 => .ok (by ((try simp only [wtF] at *); omega))
end
set_option maxHeartbeats 1000000 in
theorem sm_W (z : Nat) : ∀ n : Nat, (∀ ts o, Al (SW ts) (pStmt z n ts o)) ∧ (∀ ts o, Al (fun p : List Sm × List Tk => p.1.length + smsW p.1 + 2 + tw p.2 ≤ tw ts) (pBody z n ts o)) ∧ (∀ l ts o, Al (fun p : List Sm × List Tk => p.1.length + smsW p.1 + tw p.2 ≤ l.length + smsW l + tw ts) (pStmts z n l ts o)) := by
  intro n
  induction n with
  | zero => refine ⟨?_, ?_, ?_⟩ <;> intros <;> (first | rw [pStmt] | rw [pBody] | rw [pStmts]) <;> exact .er
  | succ n ih =>
    obtain ⟨h1, h2, h3⟩ := ih
    refine ⟨?_, ?_, ?_⟩
    · intro ts o
      rw [pStmt_eq]
      refine .andR (A := SW ts) ?_ fun s r hs => .ok (by ((try simp only [wtF] at *); omega))
      refine .ifW (fun _ => add_W ts) (.ifW (fun _ => loop_W (fun t => h2 t o) ts) (.ifW (fun _ => choice_W (fun t => h2 t o) ts) (.ifW (fun h => .andR (h2 ts o) fun b r hb => .ok (by ((try simp only [wtF] at *); omega))) (plain_W ts))))
    · intro ts o
      rw [pBody_eq]
      exact .opn fun h => .andR (h3 [] _ _) fun l r hl => .want fun h4 => .ok (by ((try simp only [wtF] at *); omega))
    · intro l ts o
      rw [pStmts_eq]
      exact .ifW (fun _ => .ok (Nat.le_refl _)) (.andR (h1 ts o) fun s r hs => (h3 _ r o).mono fun p hp => by ((try simp only [wtF] at *); omega))
/-! declarations, blocks -/
theorem stmts_W {z n : Nat} (l : List Sm) (ts : List Tk) (o : Nat) : Al (fun p : List Sm × List Tk => p.1.length + smsW p.1 + tw p.2 ≤ l.length + smsW l + tw ts) (pStmts z n l ts o) := (sm_W z n).2.2 l ts o
section
variable {z n o ty a : Nat} {first : Bool} {size lo up init : List Ex} {nm : Str}
theorem size_W (ts : List Tk) : Al (fun p : List Ex × List Tk => lw p.1 + tw p.2 ≤ tw ts) (pSize z n ts o) := .opn fun h1 => .andR (sum_W _ _) fun e r he => .want fun h2 => .ok (by ((try simp only [wtF] at *); omega))
theorem upper_W (ts : List Tk) : Al (fun p : (List Ex × List Ex) × List Tk => lw p.1.1 + lw p.1.2 + tw p.2 ≤ lw lo + tw ts) (pUpper z n lo ts o) := .want fun h1 => .want fun h2 => .andR (sum_W _ _) fun e r he => .want fun h3 => .ok (by ((try simp only [wtF] at *); omega))
theorem bounds_W (ts : List Tk) : Al (fun p : (List Ex × List Ex) × List Tk => lw p.1.1 + lw p.1.2 + tw p.2 ≤ tw ts) (pBounds z n ts o) := by
  refine .ifW (fun h1 => .ifW (fun h2 => .want fun h3 => .andR (sum_W _ _) fun e r he => ?_) ?_) (.ok (by simp [lw, exsW_nil]))
  · unfold pBoundsB
    exact .ifW (fun h4 => (upper_W (lo := [e]) _).mono fun p hp => by ((try simp only [wtF] at *); omega)) (.want fun h4 => .ok (by ((try simp only [wtF] at *); omega)))
  · exact (upper_W (lo := []) _).mono fun p hp => by ((try simp only [wtF] at *); omega)
theorem declE_W (ts : List Tk) : Al (fun p : (Bool × Dc) × List Tk => dcW p.1.2 + tw p.2 ≤ 1 + nm.length + lw size + lw lo + lw up + lw init + tw ts) (pDeclE z ty a nm size lo up init ts) := .want fun h => .ok (by simp only [dcW, lw]; omega)
theorem declN_W (ts : List Tk) : Al (fun p : (Bool × Dc) × List Tk => dcW p.1.2 + tw p.2 ≤ 1 + nm.length + lw size + lw lo + lw up + tw ts) (pDeclN z n first ty a o size lo up nm ts) := by
  unfold pDeclN
  split
  · rename_i hc
    have := isW_tw ((Bool.and_eq_true _ _).mp hc).2
    exact .andR (sum_W _ _) fun e r he => (declE_W r).mono fun p hp => by ((try simp only [wtF] at *); omega)
  · exact (declE_W ts).mono fun p hp => by ((try simp only [wtF] at *); omega)
theorem declV_W (ts : List Tk) : Al (fun p : (Bool × Dc) × List Tk => dcW p.1.2 + 1 + tw p.2 ≤ lw size + lw lo + lw up + tw ts) (pDeclV z n first ty a o size lo up ts) := .andR .nameX fun nm r hr => (declN_W r).mono fun p hp => by ((try simp only [wtF] at *); omega)
theorem declT_W (ts : List Tk) : Al (fun p : (Bool × Dc) × List Tk => dcW p.1.2 + 1 + tw p.2 ≤ lw size + tw ts) (pDeclT z n first ty a o size ts) := .andR (bounds_W ts) fun b r hb => by
  unfold pDeclU
  split
  · exact .andR (size_W r) fun s r2 hs => (declV_W r2).mono fun p hp => by ((try simp only [wtF] at *); omega)
  · exact (declV_W r).mono fun p hp => by ((try simp only [wtF] at *); omega)
theorem decl_W (ts : List Tk) : Al (fun p : (Bool × Dc) × List Tk => (p.1.1 = true → dcW p.1.2 + 1 + tw p.2 ≤ tw ts) ∧ tw p.2 ≤ tw ts) (pDecl z n first ts o) := by
  have go : ∀ {X : Rs (Bool × Dc)} {m : Nat}, m ≤ tw ts → Al (fun p : (Bool × Dc) × List Tk => dcW p.1.2 + 1 + tw p.2 ≤ m) X → Al (fun p : (Bool × Dc) × List Tk => (p.1.1 = true → dcW p.1.2 + 1 + tw p.2 ≤ tw ts) ∧ tw p.2 ≤ tw ts) X := fun hm h => h.mono fun p hp => ⟨fun _ => by omega, by omega⟩
  have e0 : lw [] = 0 := by simp [lw, exsW_nil]
  refine .ifW (fun h => go (by rw [e0]; omega) (declT_W _)) (.ifW (fun h => go (by rw [e0]; omega) (declT_W _)) (.ifW (fun h => go (by rw [e0]; omega) (declT_W _)) (.ifW (fun h => .andR (size_W _) fun s r hs => ?_) (.ok ⟨fun h => by (cases h), Nat.le_refl _⟩))))
  dsimp only at hs
  exact .ifW (fun h2 => go (by omega) (declT_W _)) (.want fun h2 => go (by omega) (declT_W _))
end
def dsW : List Dc → Nat
  | [] => 0
  | d :: l => dcW d + dsW l
theorem dsW_snoc (d : Dc) : ∀ l : List Dc, dsW (l ++ [d]) = dsW l + dcW d
  | [] => by simp [dsW]
  | u :: l => by rw [List.cons_append, dsW, dsW, dsW_snoc d l]; omega
theorem decls_W {z o : Nat} {first : Bool} : ∀ (n : Nat) (l : List Dc) (ts : List Tk), Al (fun p : List Dc × List Tk => p.1.length + dsW p.1 + tw p.2 ≤ l.length + dsW l + tw ts) (pDecls z n first l ts o)
  | 0, _, _ => by rw [pDecls]; exact .er
  | n + 1, l, ts => by
    rw [pDecls_eq]
    refine .andR (decl_W ts) fun d r hd => ?_
    dsimp only at hd
    split
    · rename_i h
      have := hd.1 h
      exact (decls_W n _ r).mono fun p hp => by rw [dsW_snoc, List.length_append, List.length_singleton] at hp; omega
    · exact .ok (by have := hd.2; dsimp only; omega)
theorem dsW_eq (l : List Dc) : dcsW l = dsW l := by
  induction l with
  | nil => rfl
  | cons d l ih => rw [dcsW, dsW, ih]
theorem fill_W {z n o i : Nat} (ts : List Tk) : Al (fun p : Bk × List Tk => bkW p.1 + tw p.2 ≤ tw ts) (pFill z n i ts o) := by
  refine .opn fun h => ?_
  unfold pFillD
  refine .andR (A := fun p : List Dc × List Tk => p.1.length + dsW p.1 + tw p.2 ≤ tw ts.tail) ?_ fun ds r hd => ?_
  · split
    · exact .ok (by simp [dsW])
    · exact (decls_W _ _ _).mono fun p hp => by simpa [dsW] using hp
  · dsimp only at hd
    unfold pFillS
    split
    · exact .want fun h2 => .ok (by simp only [bkW, dsW_eq, List.length_nil, smsW_nil]; omega)
    · exact .andR (stmts_W [] r _) fun ss r2 hs => .want fun h2 => .ok (by simp only [bkW, dsW_eq, List.length_nil, smsW_nil] at *; omega)
theorem head_W {z last : Nat} (ts : List Tk) : Al (fun p : (Nat × Bool) × List Tk => tw p.2 ≤ tw ts) (pHead z last ts) := by
  have h1 := tw_tail ts
  have h2 := tw_tail ts.tail
  unfold pHead
  repeat' split
  all_goals first
    | exact .ok (by dsimp only; omega)
    | exact .want fun h => .ok (by dsimp only; omega)
theorem prog_W {z M : Nat} (hM : 1 ≤ M) : ∀ (n last : Nat) (out : List Bk) (ts : List Tk), (∀ b ∈ out, bkW b ≤ M) → tw ts ≤ M → Al (fun p : List Bk × List Tk => ∀ b ∈ p.1, bkW b ≤ M) (pProg z n last out ts)
  | 0, _, _, _, _, _ => by rw [pProg]; exact .er
  | n + 1, last, out, ts, ho, ht => by
    rw [pProg_eq]
    refine .andR (head_W ts) fun i r hi => ?_
    dsimp only at hi
    split
    · refine .andR (fill_W r) fun b r2 hb => ?_
      dsimp only at hb
      refine prog_W hM n _ _ r2 (fun c hc => ?_) (by omega)
      rcases List.mem_or_eq_of_mem_set hc with hc | rfl
      · exact ho c hc
      · omega
    · exact .ok ho
end Go.Prs
end

section
/- The plain part of layer token: what lies between the tokens; a token alone before a blank. -/
namespace Go.Tok
theorem atP_take {p : UInt8 → Bool} {s : List UInt8} {j k : Nat} (h : k < j) : atP p (s.take j) k = atP p s k := by
  unfold atP; rw [List.getElem?_take_of_lt h]
theorem atP_take_out {p : UInt8 → Bool} {s : List UInt8} {j k : Nat} (h : j ≤ k) : atP p (s.take j) k = false := atP_out (by simp; omega)
/-- a run in a text cut off no sooner than the run ends -/
theorem runTo_take {p : UInt8 → Bool} {s : List UInt8} {j : Nat} : ∀ (m i : Nat), m = j - i → i ≤ j → runTo p s i ≤ j → runTo p (s.take j) i = runTo p s i := by
  intro m
  induction m with
  | zero =>
    intro i hm hi h
    have hg := runTo_ge p s i
    have : i = j := by omega
    subst this
    rw [runTo_stop (atP_take_out (Nat.le_refl _))]; omega
  | succ m ih =>
    intro i hm hi h
    cases ha : atP p s i with
    | true =>
      rw [runTo_step ha, runTo_step ((atP_take (by omega)).trans ha)]
      exact ih (i + 1) (by omega) (by omega) (by rw [← runTo_step ha]; exact h)
    | false => rw [runTo_stop ha, runTo_stop ((atP_take (by omega)).trans ha)]
theorem skip_take {s : List UInt8} {j : Nat} (hj : j ≤ s.length) : ∀ (m i : Nat), m = s.length - i → i ≤ j → skipTo s i = j → skipTo (s.take j) i = j := by
  intro m
  induction m using Nat.strongRecOn with
  | _ m ih =>
    intro i hm hi h
    have hlen : (s.take j).length = j := by simp; omega
    have hb := runTo_le (p := blankB) (s := s) (i := i) (by omega)
    have hb2 := runTo_ge blankB s i
    have hs := skipTo_eq (s := s) (i := i) (by omega)
    rw [hs] at h
    rw [skipTo_eq (s := s.take j) (i := i) (by omega)]
    split at h
    · rename_i hc
      have h1 := cmt_run hc
      have h2 := runTo_le (p := notNl) hb
      have h3 := skipTo_le h2
      have e1 : runTo blankB (s.take j) i = runTo blankB s i := runTo_take _ _ rfl hi (by omega)
      have e2 : cmt (s.take j) (runTo blankB s i) = true := by
        have hc' := hc
        simp only [cmt, Bool.and_eq_true] at hc' ⊢
        exact ⟨(atP_take (by omega)).trans hc'.1, (atP_take (by omega)).trans hc'.2⟩
      have e3 : runTo notNl (s.take j) (runTo blankB s i) = runTo notNl s (runTo blankB s i) := runTo_take _ _ rfl (by omega) (by omega)
      rw [e1, if_pos e2, e3]
      exact ih _ (by omega) _ rfl (by omega) h
    · have e1 : runTo blankB (s.take j) i = runTo blankB s i := runTo_take _ _ rfl hi (by omega)
      have e2 : cmt (s.take j) j = false := by rw [cmt, atP_take_out (Nat.le_refl _)]; rfl
      rw [e1, h, e2]; rfl
end Go.Tok
end

section
/- The plain part of layer token: the tokens of a text as a chain; tokens alone, blanks between them. -/
namespace Go.Tok
/-- the tokens of s from place i on -/
inductive Chain (s : List UInt8) : Nat → List Tk → Prop
  | nil (i : Nat) : Chain s i []
  | cons {i e kd : Nat} {ts : List Tk} : i ≤ s.length → skipTo s i < s.length → tokAt s (skipTo s i) = (kd, e, true) → Chain s e ts → Chain s i ((kd, tokTx s (skipTo s i), skipTo s i) :: ts)
theorem chain_lex {s : List UInt8} : ∀ (m i : Nat) (x : Rd), m = s.length - i → i ≤ s.length → x.2 = (0, 0) → (lexS readN s (skipTo s i) x).2.1 = 0 → ∃ ts, (lexS readN s (skipTo s i) x).1 = x.1 ++ ts ∧ Chain s i ts := by
  intro m
  induction m using Nat.strongRecOn with
  | _ m ih =>
    intro i x hm hi h0 hz
    have hk := skipTo_le hi
    rcases Nat.lt_or_ge (skipTo s i) s.length with hl | hl
    · cases hgo : (readN x (tokAt s (skipTo s i)).1 (tokTx s (skipTo s i)) (skipTo s i) (tokAt s (skipTo s i)).2.2).2 with
      | true =>
        have hN := readN_go hgo
        have h1 := tok_le hk.1
        have h2 := h1.2.2 hN.1
        rw [lexS_go readN readN_no hl hgo] at hz ⊢
        rw [hN.2] at hz ⊢
        obtain ⟨ts, e1, e2⟩ := ih _ (by omega) (tokAt s (skipTo s i)).2.1 _ rfl h1.2.1 (by exact h0) hz
        exact ⟨_ :: ts, by rw [e1]; simp, Chain.cons hi hl (Prod.ext rfl (Prod.ext rfl hN.1)) e2⟩
      | false => rw [lexS_end readN hl hgo] at hz; exact absurd hz (readN_end hgo)
    · rw [lexS_stop readN (by omega)]
      exact ⟨[], by simp, .nil _⟩
theorem chain_read {s : List UInt8} (h : (readS s).2.1 = 0) : Chain s 0 (readS s).1 := by
  obtain ⟨ts, e1, e2⟩ := chain_lex _ 0 ([], 0, 0) rfl (Nat.zero_le _) rfl h
  have : (readS s).1 = ts := by simpa [readS] using e1
  rw [this]; exact e2
/-! a token alone, before a blank or at the end -/
def Bl (R : List UInt8) : Prop := R = [] ∨ ∃ r, R = 32 :: r
end Go.Tok
end

section
/- The plain part of layer token: a token alone reads as it did. -/
namespace Go.Tok
end Go.Tok
end

section
/- The plain part of layer token: the tokens of a text with blanks between them. -/
namespace Go.Tok
end Go.Tok
end

section
/- The plain part of layer token: the tokens of a text with blanks between them. -/
namespace Go.Tok
def Jn (ts : List Tk) : List UInt8 := ts.flatMap fun t => 32 :: t.2.1
def kt (t : Tk) : Nat × List UInt8 := (t.1, t.2.1)
def Good (t : Tk) : Prop := ∃ s k e, k ≤ s.length ∧ tokAt s k = (t.1, e, true) ∧ t.2.1 = (s.drop k).take (e - k)
end Go.Tok
end

section
/- The plain part of layer token: a token alone, before a blank, a tab, a line's end, or at the end (TokW, with the tab). -/
namespace Go.Tok.B
open Go.Tok
/-! a token alone, before a blank or at the end -/
def Bl (R : List UInt8) : Prop := R = [] ∨ ∃ c r, (c = 32 ∨ c = 10 ∨ c = 9) ∧ R = c :: r
end Go.Tok.B
end
