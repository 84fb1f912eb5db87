/- Layer 13, ParseDeep: what the claim imports, merged. Part 13 of 13. -/
import Derived.Test.YtaniogadknakoaaGreatDoorD04
import Derived.Test.YtaniogadknakoaaGreatDoorD12
import Derived.Test.YtaniogadknakoaaGreatDoorD09
import Derived.HandedShaped
import Derived.Handed
import Derived.Test.YtaniogadknakoaaGreatDoorRows
import Derived.Deep.DeepHandedRow
import Derived.ProofKit
import Derived.LaidMore
import Derived.OpenShut
import Derived.Shelf.Vars
import Derived.Stop.Joined
import Derived.Test.YtaniogadknakoaaGreatDoorTie
import Derived.Test.YtaniogadknakoaaGreatDoorCards
import Derived.SevenTiedAt
section
namespace Go.Proofs.YtaniogadknakoaaGreatDoor
open Go.RowKit Go.Sx
open Go.Tok Go.Tree


def SameH (f : FuncId) (n : Nat) : Prop := ∀ (x z : Ex) (cs ds : List Value) (N : Nat → Prop) (w : World), exW x < n → exM w N x cs → exM w N z ds → Ret Tryz.prog f #[.agg cs.toArray, .agg ds.toArray] w fun v w' => v = .bool (exSame x z) ∧ Ext w w'

set_option maxRecDepth 100000 in
set_option maxHeartbeats 1000000 in
theorem eqE_spec (n : Nat) (ih : SameH 91 n) (l r : List Ex) (a b : Option Addr) (c d : Nat) (N : Nat → Prop) (w : World) (hl : ∀ x ∈ l, exW x < n) (hll : l.length ≤ 10000000) (hm : exsM w N l a 0) (hm2 : exsM w N r b 0) :
    Ret Tryz.prog 90 #[.slice a l.length c, .slice b r.length d, .func (.func 91) #[] #[]] w (fun v w' => v = .bool (pairOk exSame l r) ∧ Ext w w') := by
  refine enter (S := No) (l := [_, _, _]) (L := []) 32 Tryz.func90 rfl rfl rfl (St.start w No) ?_; refine yA ?_; refine aB rfl ?_; refine yB ?_; refine zq ?_; refine yA ?_; refine mS rfl ?_; refine w_r (fun _ => R_len sl37 rfl) rfl rfl ?_; refine mS rfl ?_; refine w_r (fun _ => R_len sl37 rfl) rfl rfl ?_; refine w_r (fun _ => R_ne rfl rfl) rfl rfl ?_; refine yB ?_; refine zD rfl (fun h1 => ?_) (fun h1 => ?_)
  · refine yA ?_; refine aB rfl ?_; refine yB ?_; refine ze ?_; refine zt (?_)
    refine zo (v := .bool _) rfl rfl rfl ?_; exact fun w' hw => ⟨by rw [pairOk_len (by omega)], hw.fr _ (.head _)⟩
  · have hlen : l.length = r.length := (by omega)
    refine zi ?_; refine zk ?_; refine zq ?_; refine yA ?_; refine mS rfl ?_; refine w_r (fun _ => R_len sl37 rfl) rfl rfl ?_; refine mI rfl ?_; refine yB ?_; refine zB ?_; refine c_loop (fun m e B L => ∃ (k : Nat), e 1 = .slice b r.length d ∧ e 2 = .func (.func 91) #[] #[] ∧ e 15 = .slice a l.length c ∧ e 16 = .int .i64 (l.length : Nat) ∧ e 17 = .int .i64 (k : Nat) ∧ B = [(w, No)] ∧ L = [] ∧ k ≤ l.length ∧ (∀ p ∈ (l.zip r).take k, (!exSame p.1 p.2) = false) ∧ m = l.length - k) _ ⟨0, rfl, rfl, rfl, rfl, rfl, rfl, rfl, Nat.zero_le _, (by simp), rfl⟩ ?_
    rintro m e B L ⟨k, e1_1, e2_1, e15_1, e16_1, e17_1, rfl, rfl, hk, hy, rfl⟩
    refine yA ?_; refine w_r (fun _ => R_lt e17_1 e16_1) rfl rfl ?_; refine yB ?_; refine zq ?_; refine zD rfl (fun h2 => ?_) (fun h2 => ?_)
    · have hlt : k < l.length := (by omega); obtain ⟨x, hxk⟩ : ∃ x, l[k]? = some x := ⟨_, List.getElem?_eq_getElem hlt⟩; obtain ⟨z, hzk⟩ : ∃ z, r[k]? = some z := ⟨_, List.getElem?_eq_getElem (by omega)⟩; obtain ⟨cs, hA, hE⟩ := hm.get0 hxk; obtain ⟨ds, hA2, hE2⟩ := hm2.get0 hzk; have hxn := hl x (List.mem_of_getElem? hxk); obtain ⟨b1, o1, rfl⟩ := hA.ptr; obtain ⟨b2, o2, rfl⟩ := hA2.ptr; have hxe := hxk; have hze := hzk; have hEx := hE; have hEz := hE2; obtain ⟨op, at_, nm, ks⟩ := x; obtain ⟨op2, at2, nm2, ks2⟩ := z; unfold exM at hEx hEz; obtain ⟨ka, kc, rfl, hkc, hks⟩ := hEx; obtain ⟨ka2, kc2, rfl, hkc2, hks2⟩ := hEz
      refine zi ?_; refine zk ?_; refine zq ?_; refine zB ?_; refine yA ?_; refine mI e17_1 ?_; refine w_r (fun _ => R_iaN (i := k) sl37 e15_1 e17_1 (by first | omega | decide)) rfl rfl ?_; refine w_loadC (l := [.int .u8 (op : Nat), .int .i64 at_, str nm, .slice ka ks.length kc]) z39 rfl rfl (fun w h j v hj => hA.cell (fun _ _ hh => hh) (.head _) h j v hj) ?_; refine w_alloc zr39 (fun t8b gt8b ut8b => ?_)
      refine aI rfl ?_; refine w_store 0 rfl z39 rfl rfl rfl rfl rfl rfl rfl ?_; refine yC ?_; refine mS e1_1 ?_; refine mI rfl ?_; refine w_r (fun _ => R_iaN (i := k) sl37 rfl rfl (by first | omega | decide)) rfl rfl ?_; refine w_loadC (l := [.int .u8 (op2 : Nat), .int .i64 at2, str nm2, .slice ka2 ks2.length kc2]) z39 rfl rfl (fun w h j v hj => hA2.cell (fun _ _ hh => hh) (.head _) h j v hj) ?_; refine w_alloc zr39 (fun t9b gt9b ut9b => ?_)
      refine w_store 0 rfl z39 rfl rfl rfl rfl rfl rfl rfl ?_; refine yC ?_; refine zm e2_1 ?_; refine w_loadA z39 rfl (fun _ h => h.at_ 1 rfl) rfl ?_; refine w_loadA z39 rfl (fun _ h => h.at_ 0 rfl) rfl ?_; refine zC (fun w => R_callv rfl Tryz.func91 rfl rfl) rfl rfl (fun w h => ih _ _ _ _ N w hxn (hE.now (fun _ _ hh => hh) (.head _) h) (hE2.now (fun _ _ hh => hh) (.head _) h)) ?_; refine w_r (fun _ => R_not rfl) rfl rfl ?_; refine yB ?_; refine c_condN rfl (fun h5 => ?_) (fun h5 => ?_)
      · refine yA ?_; refine aB rfl ?_; refine yB ?_; refine ze ?_; refine zb (zt (zt (zb (zt (?_)))))
        refine zo (v := .bool _) rfl rfl rfl ?_; exact fun w' hw => ⟨by first | (rw [pairOk_no hxk hzk h5]; done) | (rw [pairOk_yes hlen hy (by omega)]; done), hw.fr _ (.head _)⟩
      · refine zi ?_; refine b_on (zk ?_); refine zr ?_; refine w_r (fun _ => R_addi e17_1 rfl (by omega)) rfl rfl ?_; refine mI rfl ?_; refine zn ?_; refine k_st (B' := [(w, No)]) (L' := []) (fun w h => h.drop (List.nil_sublist _)) ?_; exact k_again _ (by omega) ⟨k + 1, e1_1, e2_1, e15_1, e16_1, rfl, rfl, rfl, by omega, pair_next hy hxk hzk h5, rfl⟩
    · refine c_exit ?_; refine zx (zx (b_here rfl (zk ?_))); refine yA ?_; refine aB rfl ?_; refine yB ?_; refine ze ?_; refine zo (v := .bool _) rfl rfl rfl ?_; exact fun w' hw => ⟨by first | (rw [pairOk_no hxk hzk h5]; done) | (rw [pairOk_yes hlen hy (by omega)]; done), hw.fr _ (.head _)⟩

set_option maxRecDepth 100000 in
set_option maxHeartbeats 1000000 in
theorem same_step (n : Nat) (ih : SameH 91 n) (hN : n ≤ 10000000) (x z : Ex) (cs ds : List Value) (N : Nat → Prop) (w : World) (hx : exW x < n + 1) (hm : exM w N x cs) (hm2 : exM w N z ds) :
    Ret Tryz.prog 91 #[.agg cs.toArray, .agg ds.toArray] w (fun v w' => v = .bool (exSame x z) ∧ Ext w w') := by
  obtain ⟨op, at_, nm, ks⟩ := x
  have hmx := hm
  unfold exM at hmx
  obtain ⟨ka, kc, rfl, hkc, hks⟩ := hmx
  obtain ⟨op2, at2, nm2, ks2⟩ := z
  have hmz := hm2
  unfold exM at hmz
  obtain ⟨ka2, kc2, rfl, hkc2, hks2⟩ := hmz
  have hx2 := hx
  unfold exW at hx2
  refine enter (S := No) (l := [_, _]) (L := []) 24 Tryz.func91 rfl rfl rfl (St.start w No) ?_; refine yA ?_; refine w_boxA rfl (fun t2b gt2b ut2b => ?_)
  refine w_boxA rfl (fun t3b gt3b ut3b => ?_)
  refine aB rfl ?_; refine yC ?_; refine zf fa39_0 rfl ?_; refine zl z5 rfl (fun _ h => zc 1 rfl rfl h) ?_; refine zf fa39_0 rfl ?_; refine zl z5 rfl (fun _ h => zc 0 rfl rfl h) ?_; refine w_r (fun _ => R_eq rfl rfl) rfl rfl ?_; refine mB rfl ?_; refine zd (t := 10) rfl (fun h3 => ?_) (fun h3 => ?_)
  · have hop : op = op2 := (by omega)
    refine zw rfl rfl (bT h3) ?_; refine zf fa39_2 rfl ?_; refine zw rfl rfl (bT h3) ?_; refine zl z9 rfl (fun _ h => zc 1 rfl rfl h) ?_; refine zw rfl rfl (bT h3) ?_; refine zf fa39_2 rfl ?_; refine zw rfl rfl (bT h3) ?_; refine zl z9 rfl (fun _ h => zc 0 rfl rfl h) ?_; refine zw rfl rfl (bT h3) ?_; refine w_r (fun _ => R_seq rfl rfl) rfl rfl ?_; refine w_r (v := .bool _) (fun _ => zT (bT h3) rfl) rfl rfl ?_; refine mB rfl ?_; refine zd (t := 17) rfl (fun h4 => ?_) (fun h4 => ?_)
    · refine zw rfl rfl (bT h4) ?_; refine zf fa39_3 rfl ?_; refine zw rfl rfl (bT h4) ?_; refine zl z37 rfl (fun _ h => zc 1 rfl rfl h) ?_; refine zw rfl rfl (bT h4) ?_; refine zf fa39_3 rfl ?_; refine zw rfl rfl (bT h4) ?_; refine zl z37 rfl (fun _ h => zc 0 rfl rfl h) ?_; refine zw rfl rfl (bT h4) ?_; refine zC (fun w => zR Tryz.func90 rfl rfl rfl) rfl rfl (fun w h => eqE_spec n ih ks ks2 ka ka2 kc kc2 N w (fun x hx => by have := exsW_mem hx; omega) (by omega) (hks.now (fun _ _ hh => hh) (.head _) h) (hks2.now (fun _ _ hh => hh) (.head _) h)) ?_; refine w_r (v := .bool _) (fun _ => zT (bT h4) rfl) rfl rfl ?_; refine aB rfl ?_; refine yB ?_; refine ze ?_; refine zo (v := .bool _) rfl rfl rfl ?_
      exact fun w' hw => ⟨by (try clear hm hm2 hks hks2 hw ih hx hx2 gt2b gt3b ut2b ut3b); simp only [exSame, exsSame_eq, Ex.op, Ex.nm, Ex.kids]; simp_all, hw.fr _ (.head _)⟩
    · refine zs rfl rfl (bF h4) ?_; refine zs rfl rfl (bF h4) ?_; refine zs rfl rfl (bF h4) ?_; refine zs rfl rfl (bF h4) ?_; refine zs rfl rfl (bF h4) ?_; refine w_r (v := .bool _) (fun _ => zF (bF h4) rfl) rfl rfl ?_; refine aB rfl ?_; refine yB ?_; refine ze ?_; refine zo (v := .bool _) rfl rfl rfl ?_; exact fun w' hw => ⟨by (try clear hm hm2 hks hks2 hw ih hx hx2 gt2b gt3b ut2b ut3b); simp only [exSame, exsSame_eq, Ex.op, Ex.nm, Ex.kids]; simp_all, hw.fr _ (.head _)⟩
  · have hop : ¬ op = op2 := (by omega)
    refine zs rfl rfl (bF h3) ?_; refine zs rfl rfl (bF h3) ?_; refine zs rfl rfl (bF h3) ?_; refine zs rfl rfl (bF h3) ?_; refine zs rfl rfl (bF h3) ?_; refine w_r (v := .bool _) (fun _ => zF (bF h3) rfl) rfl rfl ?_; refine mB rfl ?_; refine zs rfl rfl rfl ?_; refine zs rfl rfl rfl ?_; refine zs rfl rfl rfl ?_; refine zs rfl rfl rfl ?_; refine zs rfl rfl rfl ?_; refine w_r (v := .bool _) (fun _ => zF rfl rfl) rfl rfl ?_; refine aB rfl ?_; refine yB ?_; refine ze ?_; refine zo (v := .bool _) rfl rfl rfl ?_; exact fun w' hw => ⟨by (try clear hm hm2 hks hks2 hw ih hx hx2 gt2b gt3b ut2b ut3b); simp only [exSame, exsSame_eq, Ex.op, Ex.nm, Ex.kids]; simp_all, hw.fr _ (.head _)⟩


theorem same_all : ∀ n : Nat, n ≤ 10000000 → SameH 91 n
  | 0, _ => fun _ _ _ _ _ _ h => absurd h (Nat.not_lt_zero _)
  | n + 1, h => same_step n (same_all n (by omega)) (by omega)
theorem same_ok : SameH 91 10000000 := same_all _ (Nat.le_refl _)


def SameS (n : Nat) : Prop := ∀ (x z : Sm) (cs ds : List Value) (N : Nat → Prop) (w : World), smW x < n → smM w N x cs → smM w N z ds → Ret Tryz.prog 53 #[.agg cs.toArray, .agg ds.toArray] w fun v w' => v = .bool (smSame x z) ∧ Ext w w'

set_option maxRecDepth 100000 in
set_option maxHeartbeats 1000000 in
theorem eqS_spec (n : Nat) (ih : SameS n) (l r : List Sm) (a b : Option Addr) (c d : Nat) (N : Nat → Prop) (w : World) (hl : ∀ x ∈ l, smW x < n) (hll : l.length ≤ 10000000) (hm : smsM w N l a 0) (hm2 : smsM w N r b 0) :
    Ret Tryz.prog 52 #[.slice a l.length c, .slice b r.length d, .func (.func 53) #[] #[]] w (fun v w' => v = .bool (pairOk smSame l r) ∧ Ext w w') := by
  refine enter (S := No) (l := [_, _, _]) (L := []) 32 Tryz.func52 rfl rfl rfl (St.start w No) ?_; refine yA ?_; refine aB rfl ?_; refine yB ?_; refine zq ?_; refine yA ?_; refine mS rfl ?_; refine w_r (fun _ => R_len sl24 rfl) rfl rfl ?_; refine mS rfl ?_; refine w_r (fun _ => R_len sl24 rfl) rfl rfl ?_; refine w_r (fun _ => R_ne rfl rfl) rfl rfl ?_; refine yB ?_; refine zD rfl (fun h1 => ?_) (fun h1 => ?_)
  · refine yA ?_; refine aB rfl ?_; refine yB ?_; refine ze ?_; refine zt (?_)
    refine zo (v := .bool _) rfl rfl rfl ?_; exact fun w' hw => ⟨by rw [pairOk_len (by omega)], hw.fr _ (.head _)⟩
  · have hlen : l.length = r.length := (by omega)
    refine zi ?_; refine zk ?_; refine zq ?_; refine yA ?_; refine mS rfl ?_; refine w_r (fun _ => R_len sl24 rfl) rfl rfl ?_; refine mI rfl ?_; refine yB ?_; refine zB ?_; refine c_loop (fun m e B L => ∃ (k : Nat), e 1 = .slice b r.length d ∧ e 2 = .func (.func 53) #[] #[] ∧ e 15 = .slice a l.length c ∧ e 16 = .int .i64 (l.length : Nat) ∧ e 17 = .int .i64 (k : Nat) ∧ B = [(w, No)] ∧ L = [] ∧ k ≤ l.length ∧ (∀ p ∈ (l.zip r).take k, (!smSame p.1 p.2) = false) ∧ m = l.length - k) _ ⟨0, rfl, rfl, rfl, rfl, rfl, rfl, rfl, Nat.zero_le _, (by simp), rfl⟩ ?_
    rintro m e B L ⟨k, e1_1, e2_1, e15_1, e16_1, e17_1, rfl, rfl, hk, hy, rfl⟩
    refine yA ?_; refine w_r (fun _ => R_lt e17_1 e16_1) rfl rfl ?_; refine yB ?_; refine zq ?_; refine zD rfl (fun h2 => ?_) (fun h2 => ?_)
    · have hlt : k < l.length := (by omega); obtain ⟨x, hxk⟩ : ∃ x, l[k]? = some x := ⟨_, List.getElem?_eq_getElem hlt⟩; obtain ⟨z, hzk⟩ : ∃ z, r[k]? = some z := ⟨_, List.getElem?_eq_getElem (by omega)⟩; obtain ⟨cs, hA, hE⟩ := hm.get0 hxk; obtain ⟨ds, hA2, hE2⟩ := hm2.get0 hzk; have hxn := hl x (List.mem_of_getElem? hxk); obtain ⟨b1, o1, rfl⟩ := hA.ptr; obtain ⟨b2, o2, rfl⟩ := hA2.ptr; have hxe := hxk; have hze := hzk; have hEx := hE; have hEz := hE2; obtain ⟨op, at_, nm, ks, bo, el⟩ := x; obtain ⟨op2, at2, nm2, ks2, bo2, el2⟩ := z; unfold smM at hEx hEz; obtain ⟨ka, kc, ba, bc, ea, ec, rfl, hkc, hks, hbo, hel⟩ := hEx; obtain ⟨ka2, kc2, ba2, bc2, ea2, ec2, rfl, hkc2, hks2, hbo2, hel2⟩ := hEz
      refine zi ?_; refine zk ?_; refine zq ?_; refine zB ?_; refine yA ?_; refine mI e17_1 ?_; refine w_r (fun _ => R_iaN (i := k) sl24 e15_1 e17_1 (by first | omega | decide)) rfl rfl ?_; refine w_loadC (l := [.int .u8 (op : Nat), .int .i64 at_, str nm, .slice ka ks.length kc, .slice ba bo.length bc, .slice ea el.length ec]) z76 rfl rfl (fun w h j v hj => hA.cell (fun _ _ hh => hh) (.head _) h j v hj) ?_; refine w_alloc zr76 (fun t8b gt8b ut8b => ?_)
      refine aI rfl ?_; refine w_store 0 rfl z76 rfl rfl rfl rfl rfl rfl rfl ?_; refine yC ?_; refine mS e1_1 ?_; refine mI rfl ?_; refine w_r (fun _ => R_iaN (i := k) sl24 rfl rfl (by first | omega | decide)) rfl rfl ?_; refine w_loadC (l := [.int .u8 (op2 : Nat), .int .i64 at2, str nm2, .slice ka2 ks2.length kc2, .slice ba2 bo2.length bc2, .slice ea2 el2.length ec2]) z76 rfl rfl (fun w h j v hj => hA2.cell (fun _ _ hh => hh) (.head _) h j v hj) ?_; refine w_alloc zr76 (fun t9b gt9b ut9b => ?_)
      refine w_store 0 rfl z76 rfl rfl rfl rfl rfl rfl rfl ?_; refine yC ?_; refine zm e2_1 ?_; refine w_loadA z76 rfl (fun _ h => h.at_ 1 rfl) rfl ?_; refine w_loadA z76 rfl (fun _ h => h.at_ 0 rfl) rfl ?_; refine zC (fun w => R_callv rfl Tryz.func53 rfl rfl) rfl rfl (fun w h => ih _ _ _ _ N w hxn (hE.now (fun _ _ hh => hh) (.head _) h) (hE2.now (fun _ _ hh => hh) (.head _) h)) ?_; refine w_r (fun _ => R_not rfl) rfl rfl ?_; refine yB ?_; refine c_condN rfl (fun h5 => ?_) (fun h5 => ?_)
      · refine yA ?_; refine aB rfl ?_; refine yB ?_; refine ze ?_; refine zb (zt (zt (zb (zt (?_)))))
        refine zo (v := .bool _) rfl rfl rfl ?_; exact fun w' hw => ⟨by first | (rw [pairOk_no hxk hzk h5]; done) | (rw [pairOk_yes hlen hy (by omega)]; done), hw.fr _ (.head _)⟩
      · refine zi ?_; refine b_on (zk ?_); refine zr ?_; refine w_r (fun _ => R_addi e17_1 rfl (by omega)) rfl rfl ?_; refine mI rfl ?_; refine zn ?_; refine k_st (B' := [(w, No)]) (L' := []) (fun w h => h.drop (List.nil_sublist _)) ?_; exact k_again _ (by omega) ⟨k + 1, e1_1, e2_1, e15_1, e16_1, rfl, rfl, rfl, by omega, pair_next hy hxk hzk h5, rfl⟩
    · refine c_exit ?_; refine zx (zx (b_here rfl (zk ?_))); refine yA ?_; refine aB rfl ?_; refine yB ?_; refine ze ?_; refine zo (v := .bool _) rfl rfl rfl ?_; exact fun w' hw => ⟨by first | (rw [pairOk_no hxk hzk h5]; done) | (rw [pairOk_yes hlen hy (by omega)]; done), hw.fr _ (.head _)⟩

set_option maxRecDepth 100000 in
set_option maxHeartbeats 1000000 in
theorem sameS_step (n : Nat) (ih : SameS n) (hN : n ≤ 10000000) (x z : Sm) (cs ds : List Value) (N : Nat → Prop) (w : World) (hx : smW x < n + 1) (hm : smM w N x cs) (hm2 : smM w N z ds) :
    Ret Tryz.prog 53 #[.agg cs.toArray, .agg ds.toArray] w (fun v w' => v = .bool (smSame x z) ∧ Ext w w') := by
  have hEx := hm; have hEz := hm2; obtain ⟨op, at_, nm, ks, bo, el⟩ := x; obtain ⟨op2, at2, nm2, ks2, bo2, el2⟩ := z; unfold smM at hEx hEz; obtain ⟨ka, kc, ba, bc, ea, ec, rfl, hkc, hks, hbo, hel⟩ := hEx; obtain ⟨ka2, kc2, ba2, bc2, ea2, ec2, rfl, hkc2, hks2, hbo2, hel2⟩ := hEz
  have hx2 := hx
  unfold smW at hx2
  refine enter (S := No) (l := [_, _]) (L := []) 38 Tryz.func53 rfl rfl rfl (St.start w No) ?_; refine yA ?_; refine w_boxA rfl (fun t2b gt2b ut2b => ?_)
  refine w_boxA rfl (fun t3b gt3b ut3b => ?_)
  refine aB rfl ?_; refine yC ?_; refine zf fa76_0 rfl ?_; refine zl z5 rfl (fun _ h => zc 1 rfl rfl h) ?_; refine zf fa76_0 rfl ?_; refine zl z5 rfl (fun _ h => zc 0 rfl rfl h) ?_; refine w_r (fun _ => R_eq rfl rfl) rfl rfl ?_; refine mB rfl ?_; refine zd (t := 10) rfl (fun h3 => ?_) (fun h3 => ?_)
  · have hop : op = op2 := (by omega)
    refine zw rfl rfl (bT h3) ?_; refine zf fa76_2 rfl ?_; refine zw rfl rfl (bT h3) ?_; refine zl z9 rfl (fun _ h => zc 1 rfl rfl h) ?_; refine zw rfl rfl (bT h3) ?_; refine zf fa76_2 rfl ?_; refine zw rfl rfl (bT h3) ?_; refine zl z9 rfl (fun _ h => zc 0 rfl rfl h) ?_; refine zw rfl rfl (bT h3) ?_; refine w_r (fun _ => R_seq rfl rfl) rfl rfl ?_; refine w_r (v := .bool _) (fun _ => zT (bT h3) rfl) rfl rfl ?_; refine mB rfl ?_; refine zd (t := 17) rfl (fun h4 => ?_) (fun h4 => ?_)
    · refine zw rfl rfl (bT h4) ?_; refine zf fa76_3 rfl ?_; refine zw rfl rfl (bT h4) ?_; refine zl z37 rfl (fun _ h => zc 1 rfl rfl h) ?_; refine zw rfl rfl (bT h4) ?_; refine zf fa76_3 rfl ?_; refine zw rfl rfl (bT h4) ?_; refine zl z37 rfl (fun _ h => zc 0 rfl rfl h) ?_; refine zw rfl rfl (bT h4) ?_; refine zC (fun w => zR Tryz.func90 rfl rfl rfl) rfl rfl (fun w h => eqE_spec _ same_ok ks ks2 ka ka2 kc kc2 N w (fun x hx => by have := exsW_mem hx; omega) (by omega) (hks.now (fun _ _ hh => hh) (.head _) h) (hks2.now (fun _ _ hh => hh) (.head _) h)) ?_; refine w_r (v := .bool _) (fun _ => zT (bT h4) rfl) rfl rfl ?_; refine mB rfl ?_; refine zp (t := 24) rfl (fun h5 => ?_) (fun h5 => ?_)
      · refine zw rfl rfl (bV h5) ?_; refine zf fa76_4 rfl ?_; refine zw rfl rfl (bV h5) ?_; refine zl z24 rfl (fun _ h => zc 1 rfl rfl h) ?_; refine zw rfl rfl (bV h5) ?_; refine zf fa76_4 rfl ?_; refine zw rfl rfl (bV h5) ?_; refine zl z24 rfl (fun _ h => zc 0 rfl rfl h) ?_; refine zw rfl rfl (bV h5) ?_; refine zC (fun w => zR Tryz.func52 rfl rfl rfl) rfl rfl (fun w h => eqS_spec n ih bo bo2 ba ba2 bc bc2 N w (fun x hx => by have := smsW_mem hx; omega) (by omega) (hbo.now (fun _ _ hh => hh) (.head _) h) (hbo2.now (fun _ _ hh => hh) (.head _) h)) ?_; refine w_r (v := .bool _) (fun _ => zT (bV h5) rfl) rfl rfl ?_; refine mB rfl ?_; refine zp (t := 31) rfl (fun h6 => ?_) (fun h6 => ?_)
        · refine zw rfl rfl (bV h6) ?_; refine zf fa76_5 rfl ?_; refine zw rfl rfl (bV h6) ?_; refine zl z24 rfl (fun _ h => zc 1 rfl rfl h) ?_; refine zw rfl rfl (bV h6) ?_; refine zf fa76_5 rfl ?_; refine zw rfl rfl (bV h6) ?_; refine zl z24 rfl (fun _ h => zc 0 rfl rfl h) ?_; refine zw rfl rfl (bV h6) ?_; refine zC (fun w => zR Tryz.func52 rfl rfl rfl) rfl rfl (fun w h => eqS_spec n ih el el2 ea ea2 ec ec2 N w (fun x hx => by have := smsW_mem hx; omega) (by omega) (hel.now (fun _ _ hh => hh) (.head _) h) (hel2.now (fun _ _ hh => hh) (.head _) h)) ?_; refine w_r (v := .bool _) (fun _ => zT (bV h6) rfl) rfl rfl ?_; refine aB rfl ?_; refine yB ?_; refine ze ?_; refine zo (v := .bool _) rfl rfl rfl ?_
          exact fun w' hw => ⟨by (try clear hm hm2 hks hks2 hbo hbo2 hel hel2 hw ih hx hx2 gt2b gt3b ut2b ut3b); simp only [smSame, exsSame_eq, smsSame_eq, Sm.op, Sm.nm, Sm.kids, Sm.body, Sm.els]; simp_all, hw.fr _ (.head _)⟩
        · refine zs rfl rfl (bV h6) ?_; refine zs rfl rfl (bV h6) ?_; refine zs rfl rfl (bV h6) ?_; refine zs rfl rfl (bV h6) ?_; refine zs rfl rfl (bV h6) ?_; refine w_r (v := .bool _) (fun _ => zF (bV h6) rfl) rfl rfl ?_; refine aB rfl ?_; refine yB ?_; refine ze ?_; refine zo (v := .bool _) rfl rfl rfl ?_; exact fun w' hw => ⟨by (try clear hm hm2 hks hks2 hbo hbo2 hel hel2 hw ih hx hx2 gt2b gt3b ut2b ut3b); simp only [smSame, exsSame_eq, smsSame_eq, Sm.op, Sm.nm, Sm.kids, Sm.body, Sm.els]; simp_all, hw.fr _ (.head _)⟩
      · refine zs rfl rfl (bV h5) ?_; refine zs rfl rfl (bV h5) ?_; refine zs rfl rfl (bV h5) ?_; refine zs rfl rfl (bV h5) ?_; refine zs rfl rfl (bV h5) ?_; refine w_r (v := .bool _) (fun _ => zF (bV h5) rfl) rfl rfl ?_; refine mB rfl ?_; refine zs rfl rfl rfl ?_; refine zs rfl rfl rfl ?_; refine zs rfl rfl rfl ?_; refine zs rfl rfl rfl ?_; refine zs rfl rfl rfl ?_; refine w_r (v := .bool _) (fun _ => zF rfl rfl) rfl rfl ?_; refine aB rfl ?_; refine yB ?_; refine ze ?_; refine zo (v := .bool _) rfl rfl rfl ?_; exact fun w' hw => ⟨by (try clear hm hm2 hks hks2 hbo hbo2 hel hel2 hw ih hx hx2 gt2b gt3b ut2b ut3b); simp only [smSame, exsSame_eq, smsSame_eq, Sm.op, Sm.nm, Sm.kids, Sm.body, Sm.els]; simp_all, hw.fr _ (.head _)⟩
    · refine zs rfl rfl (bF h4) ?_; refine zs rfl rfl (bF h4) ?_; refine zs rfl rfl (bF h4) ?_; refine zs rfl rfl (bF h4) ?_; refine zs rfl rfl (bF h4) ?_; refine w_r (v := .bool _) (fun _ => zF (bF h4) rfl) rfl rfl ?_; refine mB rfl ?_; refine zs rfl rfl rfl ?_; refine zs rfl rfl rfl ?_; refine zs rfl rfl rfl ?_; refine zs rfl rfl rfl ?_; refine zs rfl rfl rfl ?_; refine w_r (v := .bool _) (fun _ => zF rfl rfl) rfl rfl ?_; refine mB rfl ?_; refine zs rfl rfl rfl ?_; refine zs rfl rfl rfl ?_; refine zs rfl rfl rfl ?_; refine zs rfl rfl rfl ?_; refine zs rfl rfl rfl ?_; refine w_r (v := .bool _) (fun _ => zF rfl rfl) rfl rfl ?_; refine aB rfl ?_; refine yB ?_; refine ze ?_; refine zo (v := .bool _) rfl rfl rfl ?_
      exact fun w' hw => ⟨by (try clear hm hm2 hks hks2 hbo hbo2 hel hel2 hw ih hx hx2 gt2b gt3b ut2b ut3b); simp only [smSame, exsSame_eq, smsSame_eq, Sm.op, Sm.nm, Sm.kids, Sm.body, Sm.els]; simp_all, hw.fr _ (.head _)⟩
  · have hop : ¬ op = op2 := (by omega)
    refine zs rfl rfl (bF h3) ?_; refine zs rfl rfl (bF h3) ?_; refine zs rfl rfl (bF h3) ?_; refine zs rfl rfl (bF h3) ?_; refine zs rfl rfl (bF h3) ?_; refine w_r (v := .bool _) (fun _ => zF (bF h3) rfl) rfl rfl ?_; refine mB rfl ?_; refine zs rfl rfl rfl ?_; refine zs rfl rfl rfl ?_; refine zs rfl rfl rfl ?_; refine zs rfl rfl rfl ?_; refine zs rfl rfl rfl ?_; refine w_r (v := .bool _) (fun _ => zF rfl rfl) rfl rfl ?_; refine mB rfl ?_; refine zs rfl rfl rfl ?_; refine zs rfl rfl rfl ?_; refine zs rfl rfl rfl ?_; refine zs rfl rfl rfl ?_; refine zs rfl rfl rfl ?_; refine w_r (v := .bool _) (fun _ => zF rfl rfl) rfl rfl ?_; refine mB rfl ?_
    refine zs rfl rfl rfl ?_; refine zs rfl rfl rfl ?_; refine zs rfl rfl rfl ?_; refine zs rfl rfl rfl ?_; refine zs rfl rfl rfl ?_; refine w_r (v := .bool _) (fun _ => zF rfl rfl) rfl rfl ?_; refine aB rfl ?_; refine yB ?_; refine ze ?_; refine zo (v := .bool _) rfl rfl rfl ?_; exact fun w' hw => ⟨by (try clear hm hm2 hks hks2 hbo hbo2 hel hel2 hw ih hx hx2 gt2b gt3b ut2b ut3b); simp only [smSame, exsSame_eq, smsSame_eq, Sm.op, Sm.nm, Sm.kids, Sm.body, Sm.els]; simp_all, hw.fr _ (.head _)⟩


theorem sameS_all : ∀ n : Nat, n ≤ 10000000 → SameS n
  | 0, _ => fun _ _ _ _ _ _ h => absurd h (Nat.not_lt_zero _)
  | n + 1, h => sameS_step n (sameS_all n (by omega)) (by omega)
theorem sameS_ok : SameS 10000000 := sameS_all _ (Nat.le_refl _)

set_option maxRecDepth 100000 in
set_option maxHeartbeats 400000 in
theorem sameD1_spec (l r : List Ex) (a b : Option Addr) (c d : Nat) (N : Nat → Prop) (w : World) (hl : ∀ x ∈ l, exW x < 10000000) (hll : l.length ≤ 10000000) (hm : exsM w N l a 0) (hm2 : exsM w N r b 0) :
    Ret Tryz.prog 89 #[.slice a l.length c, .slice b r.length d] w (fun v w' => v = .bool (pairOk exSame l r) ∧ Ext w w') := by
  refine enter (S := No) (l := [_, _]) (L := []) 8 Tryz.func89 rfl rfl rfl (St.start w No) ?_; refine yA ?_; refine aB rfl ?_; refine yC ?_; refine mS rfl ?_; refine mS rfl ?_; refine zC (fun w => zR Tryz.func90 rfl rfl rfl) rfl rfl (fun w h => eqE_spec _ same_ok l r a b c d N w hl hll (hm.now (fun _ _ hh => hh) (.head _) h) (hm2.now (fun _ _ hh => hh) (.head _) h)) ?_; refine aB rfl ?_; refine yB ?_; refine ze ?_; refine zo (v := .bool _) rfl rfl rfl ?_; exact fun w' hw => ⟨rfl, hw.fr _ (.head _)⟩

set_option maxRecDepth 100000 in
set_option maxHeartbeats 2000000 in
theorem sameDecl_spec (x z : Dc) (cs ds : List Value) (N : Nat → Prop) (w : World) (hx : dcW x < 10000000) (hm : dcM w N x cs) (hm2 : dcM w N z ds) :
    Ret Tryz.prog 51 #[.agg cs.toArray, .agg ds.toArray] w (fun v w' => v = .bool (dcSame x z) ∧ Ext w w') := by
  have hEx := hm; have hEz := hm2; obtain ⟨ty, at_, nm, sz, lo, up, ini⟩ := x; obtain ⟨ty2, at2, nm2, sz2, lo2, up2, ini2⟩ := z; unfold dcM at hEx hEz; obtain ⟨xa, xc, la, lc, ua, uc, ia, ic, hcs, hsz, hlo, hup, hini⟩ := hEx; obtain ⟨xa2, xc2, la2, lc2, ua2, uc2, ia2, ic2, hds, hsz2, hlo2, hup2, hini2⟩ := hEz; simp only [] at hcs hds; subst hcs; subst hds
  have hx2 := hx
  unfold dcW at hx2
  simp only [] at hx2
  refine enter (S := No) (l := [_, _]) (L := []) 50 Tryz.func51 rfl rfl rfl (St.start w No) ?_; refine yA ?_; refine w_boxA rfl (fun t2b gt2b ut2b => ?_)
  refine w_boxA rfl (fun t3b gt3b ut3b => ?_)
  refine aB rfl ?_; refine yC ?_; refine za rfl ?_; refine yC ?_; refine zf fa46_0 rfl ?_; refine zl z5 rfl (fun _ h => zc 1 rfl rfl h) ?_; refine zf fa46_0 rfl ?_; refine zl z5 rfl (fun _ h => zc 0 rfl rfl h) ?_; refine w_r (fun _ => R_eq rfl rfl) rfl rfl ?_; refine mB rfl ?_; refine zd (t := 11) rfl (fun h3 => ?_) (fun h3 => ?_)
  · have hop : ty = ty2 := (by omega)
    refine zw rfl rfl (bT h3) ?_; refine zf fa46_2 rfl ?_; refine zw rfl rfl (bT h3) ?_; refine zl z9 rfl (fun _ h => zc 1 rfl rfl h) ?_; refine zw rfl rfl (bT h3) ?_; refine zf fa46_2 rfl ?_; refine zw rfl rfl (bT h3) ?_; refine zl z9 rfl (fun _ h => zc 0 rfl rfl h) ?_; refine zw rfl rfl (bT h3) ?_; refine w_r (fun _ => R_seq rfl rfl) rfl rfl ?_; refine w_r (v := .bool _) (fun _ => zT (bT h3) rfl) rfl rfl ?_; refine mB rfl ?_; refine zd (t := 18) rfl (fun h4 => ?_) (fun h4 => ?_)
    · refine zw rfl rfl (bT h4) ?_; refine zm rfl ?_; refine zw rfl rfl (bT h4) ?_; refine zf fa46_3 rfl ?_; refine zw rfl rfl (bT h4) ?_; refine zl z37 rfl (fun _ h => zc 1 rfl rfl h) ?_; refine zw rfl rfl (bT h4) ?_; refine zf fa46_3 rfl ?_; refine zw rfl rfl (bT h4) ?_; refine zl z37 rfl (fun _ h => zc 0 rfl rfl h) ?_; refine zw rfl rfl (bT h4) ?_; refine zC (fun w => R_callv rfl Tryz.func89 rfl rfl) rfl rfl (fun w h => sameD1_spec sz sz2 xa xa2 xc xc2 N w (fun x hx => by have := exsW_mem hx; omega) (by omega) (hsz.now (fun _ _ hh => hh) (.head _) h) (hsz2.now (fun _ _ hh => hh) (.head _) h)) ?_; refine w_r (v := .bool _) (fun _ => zT (bT h4) rfl) rfl rfl ?_; refine mB rfl ?_; refine zp (t := 26) rfl (fun h5 => ?_) (fun h5 => ?_)
      · refine zw rfl rfl (bV h5) ?_; refine zm rfl ?_; refine zw rfl rfl (bV h5) ?_; refine zf fa46_4 rfl ?_; refine zw rfl rfl (bV h5) ?_; refine zl z37 rfl (fun _ h => zc 1 rfl rfl h) ?_; refine zw rfl rfl (bV h5) ?_; refine zf fa46_4 rfl ?_; refine zw rfl rfl (bV h5) ?_; refine zl z37 rfl (fun _ h => zc 0 rfl rfl h) ?_; refine zw rfl rfl (bV h5) ?_; refine zC (fun w => R_callv rfl Tryz.func89 rfl rfl) rfl rfl (fun w h => sameD1_spec lo lo2 la la2 lc lc2 N w (fun x hx => by have := exsW_mem hx; omega) (by omega) (hlo.now (fun _ _ hh => hh) (.head _) h) (hlo2.now (fun _ _ hh => hh) (.head _) h)) ?_; refine w_r (v := .bool _) (fun _ => zT (bV h5) rfl) rfl rfl ?_; refine mB rfl ?_; refine zp (t := 34) rfl (fun h6 => ?_) (fun h6 => ?_)
        · refine zw rfl rfl (bV h6) ?_; refine zm rfl ?_; refine zw rfl rfl (bV h6) ?_; refine zf fa46_5 rfl ?_; refine zw rfl rfl (bV h6) ?_; refine zl z37 rfl (fun _ h => zc 1 rfl rfl h) ?_; refine zw rfl rfl (bV h6) ?_; refine zf fa46_5 rfl ?_; refine zw rfl rfl (bV h6) ?_; refine zl z37 rfl (fun _ h => zc 0 rfl rfl h) ?_; refine zw rfl rfl (bV h6) ?_; refine zC (fun w => R_callv rfl Tryz.func89 rfl rfl) rfl rfl (fun w h => sameD1_spec up up2 ua ua2 uc uc2 N w (fun x hx => by have := exsW_mem hx; omega) (by omega) (hup.now (fun _ _ hh => hh) (.head _) h) (hup2.now (fun _ _ hh => hh) (.head _) h)) ?_; refine w_r (v := .bool _) (fun _ => zT (bV h6) rfl) rfl rfl ?_; refine mB rfl ?_; refine zp (t := 42) rfl (fun h7 => ?_) (fun h7 => ?_)
          · refine zw rfl rfl (bV h7) ?_; refine zm rfl ?_; refine zw rfl rfl (bV h7) ?_; refine zf fa46_6 rfl ?_; refine zw rfl rfl (bV h7) ?_; refine zl z37 rfl (fun _ h => zc 1 rfl rfl h) ?_; refine zw rfl rfl (bV h7) ?_; refine zf fa46_6 rfl ?_; refine zw rfl rfl (bV h7) ?_; refine zl z37 rfl (fun _ h => zc 0 rfl rfl h) ?_; refine zw rfl rfl (bV h7) ?_; refine zC (fun w => R_callv rfl Tryz.func89 rfl rfl) rfl rfl (fun w h => sameD1_spec ini ini2 ia ia2 ic ic2 N w (fun x hx => by have := exsW_mem hx; omega) (by omega) (hini.now (fun _ _ hh => hh) (.head _) h) (hini2.now (fun _ _ hh => hh) (.head _) h)) ?_; refine w_r (v := .bool _) (fun _ => zT (bV h7) rfl) rfl rfl ?_; refine aB rfl ?_; refine yB ?_; refine ze ?_; refine zo (v := .bool _) rfl rfl rfl ?_
            exact fun w' hw => ⟨by (try clear hm hm2 hw hsz hlo hup hini hsz2 hlo2 hup2 hini2 hx hx2 gt2b gt3b ut2b ut3b); simp only [dcSame, exsSame_eq]; simp_all, hw.fr _ (.head _)⟩
          · refine zs rfl rfl (bV h7) ?_; refine zs rfl rfl (bV h7) ?_; refine zs rfl rfl (bV h7) ?_; refine zs rfl rfl (bV h7) ?_; refine zs rfl rfl (bV h7) ?_; refine zs rfl rfl (bV h7) ?_; refine w_r (v := .bool _) (fun _ => zF (bV h7) rfl) rfl rfl ?_; refine aB rfl ?_; refine yB ?_; refine ze ?_; refine zo (v := .bool _) rfl rfl rfl ?_; exact fun w' hw => ⟨by (try clear hm hm2 hw hsz hlo hup hini hsz2 hlo2 hup2 hini2 hx hx2 gt2b gt3b ut2b ut3b); simp only [dcSame, exsSame_eq]; simp_all, hw.fr _ (.head _)⟩
        · refine zs rfl rfl (bV h6) ?_; refine zs rfl rfl (bV h6) ?_; refine zs rfl rfl (bV h6) ?_; refine zs rfl rfl (bV h6) ?_; refine zs rfl rfl (bV h6) ?_; refine zs rfl rfl (bV h6) ?_; refine w_r (v := .bool _) (fun _ => zF (bV h6) rfl) rfl rfl ?_; refine mB rfl ?_; refine zs rfl rfl rfl ?_; refine zs rfl rfl rfl ?_; refine zs rfl rfl rfl ?_; refine zs rfl rfl rfl ?_; refine zs rfl rfl rfl ?_; refine zs rfl rfl rfl ?_; refine w_r (v := .bool _) (fun _ => zF rfl rfl) rfl rfl ?_; refine aB rfl ?_; refine yB ?_; refine ze ?_; refine zo (v := .bool _) rfl rfl rfl ?_; exact fun w' hw => ⟨by (try clear hm hm2 hw hsz hlo hup hini hsz2 hlo2 hup2 hini2 hx hx2 gt2b gt3b ut2b ut3b); simp only [dcSame, exsSame_eq]; simp_all, hw.fr _ (.head _)⟩
      · refine zs rfl rfl (bV h5) ?_; refine zs rfl rfl (bV h5) ?_; refine zs rfl rfl (bV h5) ?_; refine zs rfl rfl (bV h5) ?_; refine zs rfl rfl (bV h5) ?_; refine zs rfl rfl (bV h5) ?_; refine w_r (v := .bool _) (fun _ => zF (bV h5) rfl) rfl rfl ?_; refine mB rfl ?_; refine zs rfl rfl rfl ?_; refine zs rfl rfl rfl ?_; refine zs rfl rfl rfl ?_; refine zs rfl rfl rfl ?_; refine zs rfl rfl rfl ?_; refine zs rfl rfl rfl ?_; refine w_r (v := .bool _) (fun _ => zF rfl rfl) rfl rfl ?_; refine mB rfl ?_; refine zs rfl rfl rfl ?_; refine zs rfl rfl rfl ?_; refine zs rfl rfl rfl ?_; refine zs rfl rfl rfl ?_; refine zs rfl rfl rfl ?_; refine zs rfl rfl rfl ?_; refine w_r (v := .bool _) (fun _ => zF rfl rfl) rfl rfl ?_
        refine aB rfl ?_; refine yB ?_; refine ze ?_; refine zo (v := .bool _) rfl rfl rfl ?_; exact fun w' hw => ⟨by (try clear hm hm2 hw hsz hlo hup hini hsz2 hlo2 hup2 hini2 hx hx2 gt2b gt3b ut2b ut3b); simp only [dcSame, exsSame_eq]; simp_all, hw.fr _ (.head _)⟩
    · refine zs rfl rfl (bF h4) ?_; refine zs rfl rfl (bF h4) ?_; refine zs rfl rfl (bF h4) ?_; refine zs rfl rfl (bF h4) ?_; refine zs rfl rfl (bF h4) ?_; refine zs rfl rfl (bF h4) ?_; refine w_r (v := .bool _) (fun _ => zF (bF h4) rfl) rfl rfl ?_; refine mB rfl ?_; refine zs rfl rfl rfl ?_; refine zs rfl rfl rfl ?_; refine zs rfl rfl rfl ?_; refine zs rfl rfl rfl ?_; refine zs rfl rfl rfl ?_; refine zs rfl rfl rfl ?_; refine w_r (v := .bool _) (fun _ => zF rfl rfl) rfl rfl ?_; refine mB rfl ?_; refine zs rfl rfl rfl ?_; refine zs rfl rfl rfl ?_; refine zs rfl rfl rfl ?_; refine zs rfl rfl rfl ?_; refine zs rfl rfl rfl ?_
      refine zs rfl rfl rfl ?_; refine w_r (v := .bool _) (fun _ => zF rfl rfl) rfl rfl ?_; refine mB rfl ?_; refine zs rfl rfl rfl ?_; refine zs rfl rfl rfl ?_; refine zs rfl rfl rfl ?_; refine zs rfl rfl rfl ?_; refine zs rfl rfl rfl ?_; refine zs rfl rfl rfl ?_; refine w_r (v := .bool _) (fun _ => zF rfl rfl) rfl rfl ?_; refine aB rfl ?_; refine yB ?_; refine ze ?_; refine zo (v := .bool _) rfl rfl rfl ?_; exact fun w' hw => ⟨by (try clear hm hm2 hw hsz hlo hup hini hsz2 hlo2 hup2 hini2 hx hx2 gt2b gt3b ut2b ut3b); simp only [dcSame, exsSame_eq]; simp_all, hw.fr _ (.head _)⟩
  · have hop : ¬ ty = ty2 := (by omega)
    refine zs rfl rfl (bF h3) ?_; refine zs rfl rfl (bF h3) ?_; refine zs rfl rfl (bF h3) ?_; refine zs rfl rfl (bF h3) ?_; refine zs rfl rfl (bF h3) ?_; refine w_r (v := .bool _) (fun _ => zF (bF h3) rfl) rfl rfl ?_; refine mB rfl ?_; refine zs rfl rfl rfl ?_; refine zs rfl rfl rfl ?_; refine zs rfl rfl rfl ?_; refine zs rfl rfl rfl ?_; refine zs rfl rfl rfl ?_; refine zs rfl rfl rfl ?_; refine w_r (v := .bool _) (fun _ => zF rfl rfl) rfl rfl ?_; refine mB rfl ?_; refine zs rfl rfl rfl ?_; refine zs rfl rfl rfl ?_; refine zs rfl rfl rfl ?_; refine zs rfl rfl rfl ?_; refine zs rfl rfl rfl ?_; refine zs rfl rfl rfl ?_; refine w_r (v := .bool _) (fun _ => zF rfl rfl) rfl rfl ?_
    refine mB rfl ?_; refine zs rfl rfl rfl ?_; refine zs rfl rfl rfl ?_; refine zs rfl rfl rfl ?_; refine zs rfl rfl rfl ?_; refine zs rfl rfl rfl ?_; refine zs rfl rfl rfl ?_; refine w_r (v := .bool _) (fun _ => zF rfl rfl) rfl rfl ?_; refine mB rfl ?_; refine zs rfl rfl rfl ?_; refine zs rfl rfl rfl ?_; refine zs rfl rfl rfl ?_; refine zs rfl rfl rfl ?_; refine zs rfl rfl rfl ?_; refine zs rfl rfl rfl ?_; refine w_r (v := .bool _) (fun _ => zF rfl rfl) rfl rfl ?_; refine aB rfl ?_; refine yB ?_; refine ze ?_; refine zo (v := .bool _) rfl rfl rfl ?_; exact fun w' hw => ⟨by (try clear hm hm2 hw hsz hlo hup hini hsz2 hlo2 hup2 hini2 hx hx2 gt2b gt3b ut2b ut3b); simp only [dcSame, exsSame_eq]; simp_all, hw.fr _ (.head _)⟩

set_option maxRecDepth 100000 in
set_option maxHeartbeats 1000000 in
theorem eqD_spec  (l r : List Dc) (a b : Option Addr) (c d : Nat) (N : Nat → Prop) (w : World) (hl : ∀ x ∈ l, dcW x < 10000000) (hll : l.length ≤ 10000000) (hm : dcsM w N l a) (hm2 : dcsM w N r b) :
    Ret Tryz.prog 50 #[.slice a l.length c, .slice b r.length d, .func (.func 51) #[] #[]] w (fun v w' => v = .bool (pairOk dcSame l r) ∧ Ext w w') := by
  refine enter (S := No) (l := [_, _, _]) (L := []) 32 Tryz.func50 rfl rfl rfl (St.start w No) ?_; refine yA ?_; refine aB rfl ?_; refine yB ?_; refine zq ?_; refine yA ?_; refine mS rfl ?_; refine w_r (fun _ => R_len sl23 rfl) rfl rfl ?_; refine mS rfl ?_; refine w_r (fun _ => R_len sl23 rfl) rfl rfl ?_; refine w_r (fun _ => R_ne rfl rfl) rfl rfl ?_; refine yB ?_; refine zD rfl (fun h1 => ?_) (fun h1 => ?_)
  · refine yA ?_; refine aB rfl ?_; refine yB ?_; refine ze ?_; refine zt (?_)
    refine zo (v := .bool _) rfl rfl rfl ?_; exact fun w' hw => ⟨by rw [pairOk_len (by omega)], hw.fr _ (.head _)⟩
  · have hlen : l.length = r.length := (by omega)
    refine zi ?_; refine zk ?_; refine zq ?_; refine yA ?_; refine mS rfl ?_; refine w_r (fun _ => R_len sl23 rfl) rfl rfl ?_; refine mI rfl ?_; refine yB ?_; refine zB ?_; refine c_loop (fun m e B L => ∃ (k : Nat), e 1 = .slice b r.length d ∧ e 2 = .func (.func 51) #[] #[] ∧ e 15 = .slice a l.length c ∧ e 16 = .int .i64 (l.length : Nat) ∧ e 17 = .int .i64 (k : Nat) ∧ B = [(w, No)] ∧ L = [] ∧ k ≤ l.length ∧ (∀ p ∈ (l.zip r).take k, (!dcSame p.1 p.2) = false) ∧ m = l.length - k) _ ⟨0, rfl, rfl, rfl, rfl, rfl, rfl, rfl, Nat.zero_le _, (by simp), rfl⟩ ?_
    rintro m e B L ⟨k, e1_1, e2_1, e15_1, e16_1, e17_1, rfl, rfl, hk, hy, rfl⟩
    refine yA ?_; refine w_r (fun _ => R_lt e17_1 e16_1) rfl rfl ?_; refine yB ?_; refine zq ?_; refine zD rfl (fun h2 => ?_) (fun h2 => ?_)
    · have hlt : k < l.length := (by omega); obtain ⟨x, hxk⟩ : ∃ x, l[k]? = some x := ⟨_, List.getElem?_eq_getElem hlt⟩; obtain ⟨z, hzk⟩ : ∃ z, r[k]? = some z := ⟨_, List.getElem?_eq_getElem (by omega)⟩; obtain ⟨cs, hA, hE⟩ := hm k x hxk; obtain ⟨ds, hA2, hE2⟩ := hm2 k z hzk; have hxn := hl x (List.mem_of_getElem? hxk); obtain ⟨b1, o1, rfl⟩ := hA.ptr; obtain ⟨b2, o2, rfl⟩ := hA2.ptr; have hxe := hxk; have hze := hzk; have hEx := hE; have hEz := hE2; obtain ⟨ty, at_, nm, sz, lo, up, ini⟩ := x; obtain ⟨ty2, at2, nm2, sz2, lo2, up2, ini2⟩ := z; unfold dcM at hEx hEz; obtain ⟨xa, xc, la, lc, ua, uc, ia, ic, hcs, hsz, hlo, hup, hini⟩ := hEx; obtain ⟨xa2, xc2, la2, lc2, ua2, uc2, ia2, ic2, hds, hsz2, hlo2, hup2, hini2⟩ := hEz; simp only [] at hcs hds; subst hcs; subst hds
      refine zi ?_; refine zk ?_; refine zq ?_; refine zB ?_; refine yA ?_; refine mI e17_1 ?_; refine w_r (fun _ => R_iaN (i := k) sl23 e15_1 e17_1 (by first | omega | decide)) rfl rfl ?_; refine w_loadC (l := [.int .u8 (ty : Nat), .int .i64 at_, str nm, .slice xa sz.length xc, .slice la lo.length lc, .slice ua up.length uc, .slice ia ini.length ic]) z46 rfl rfl (fun w h j v hj => hA.cell (fun _ _ hh => hh) (.head _) h j v hj) ?_; refine w_alloc zr46 (fun t8b gt8b ut8b => ?_)
      refine aI rfl ?_; refine w_store 0 rfl z46 rfl rfl rfl rfl rfl rfl rfl ?_; refine yC ?_; refine mS e1_1 ?_; refine mI rfl ?_; refine w_r (fun _ => R_iaN (i := k) sl23 rfl rfl (by first | omega | decide)) rfl rfl ?_; refine w_loadC (l := [.int .u8 (ty2 : Nat), .int .i64 at2, str nm2, .slice xa2 sz2.length xc2, .slice la2 lo2.length lc2, .slice ua2 up2.length uc2, .slice ia2 ini2.length ic2]) z46 rfl rfl (fun w h j v hj => hA2.cell (fun _ _ hh => hh) (.head _) h j v hj) ?_; refine w_alloc zr46 (fun t9b gt9b ut9b => ?_)
      refine w_store 0 rfl z46 rfl rfl rfl rfl rfl rfl rfl ?_; refine yC ?_; refine zm e2_1 ?_; refine w_loadA z46 rfl (fun _ h => h.at_ 1 rfl) rfl ?_; refine w_loadA z46 rfl (fun _ h => h.at_ 0 rfl) rfl ?_; refine zC (fun w => R_callv rfl Tryz.func51 rfl rfl) rfl rfl (fun w h => sameDecl_spec _ _ _ _ N w hxn (hE.now (fun _ _ hh => hh) (.head _) h) (hE2.now (fun _ _ hh => hh) (.head _) h)) ?_; refine w_r (fun _ => R_not rfl) rfl rfl ?_; refine yB ?_; refine c_condN rfl (fun h5 => ?_) (fun h5 => ?_)
      · refine yA ?_; refine aB rfl ?_; refine yB ?_; refine ze ?_; refine zb (zt (zt (zb (zt (?_)))))
        refine zo (v := .bool _) rfl rfl rfl ?_; exact fun w' hw => ⟨by first | (rw [pairOk_no hxk hzk h5]; done) | (rw [pairOk_yes hlen hy (by omega)]; done), hw.fr _ (.head _)⟩
      · refine zi ?_; refine b_on (zk ?_); refine zr ?_; refine w_r (fun _ => R_addi e17_1 rfl (by omega)) rfl rfl ?_; refine mI rfl ?_; refine zn ?_; refine k_st (B' := [(w, No)]) (L' := []) (fun w h => h.drop (List.nil_sublist _)) ?_; exact k_again _ (by omega) ⟨k + 1, e1_1, e2_1, e15_1, e16_1, rfl, rfl, rfl, by omega, pair_next hy hxk hzk h5, rfl⟩
    · refine c_exit ?_; refine zx (zx (b_here rfl (zk ?_))); refine yA ?_; refine aB rfl ?_; refine yB ?_; refine ze ?_; refine zo (v := .bool _) rfl rfl rfl ?_; exact fun w' hw => ⟨by first | (rw [pairOk_no hxk hzk h5]; done) | (rw [pairOk_yes hlen hy (by omega)]; done), hw.fr _ (.head _)⟩

set_option maxRecDepth 100000 in
set_option maxHeartbeats 4000000 in
theorem Same_spec (pg qg : List Bk) (cs ds : List Value) (N : Nat → Prop) (w : World) (hp : ∀ b ∈ pg, bkW b < 10000000) (hm : pgM w N pg cs) (hm2 : pgM w N qg ds) :
    Ret Tryz.prog 21 #[.agg cs.toArray, .agg ds.toArray] w (fun v w' => v = .bool (pgSame pg qg) ∧ Ext w w') := by
  refine enter (S := No) (l := [_, _]) (L := []) 40 Tryz.func21 rfl rfl rfl (St.start w No) ?_; refine yA ?_; refine w_boxA rfl (fun t2b gt2b ut2b => ?_)
  refine w_boxA rfl (fun t3b gt3b ut3b => ?_)
  refine aB rfl ?_; refine yB ?_; refine zq ?_; refine yA ?_; refine zf fa29_0 rfl ?_; refine w_loadW z27 rfl (fun _ h => h.at_ 1 rfl) hm.len ?_; refine mI rfl ?_; refine yB ?_; refine zB ?_; refine c_loop (fun m e B L => ∃ (i : Nat), e 3 = .pointer (some ⟨t3b, 0, none⟩) ∧ e 9 = .agg cs.toArray ∧ e 10 = .int .i64 (i : Nat) ∧ B = [(w, No)] ∧ L = [(t3b, cel ds 29), (t2b, cel cs 29)] ∧ i ≤ 6 ∧ (∀ p ∈ (pg.zip qg).take i, (!bkSame p.1 p.2) = false) ∧ m = 6 - i) _ ⟨0, rfl, rfl, rfl, rfl, rfl, Nat.zero_le _, (by simp), rfl⟩ ?_
  rintro m e B L ⟨i, e3_1, e9_1, e10_1, rfl, rfl, hi, hy, rfl⟩
  refine yA ?_; refine w_r (fun _ => R_lt e10_1 rfl) rfl rfl ?_; refine yB ?_; refine zq ?_; refine zD rfl (fun h3 => ?_) (fun h3 => ?_)
  · have hi6 : i < 6 := (by omega); obtain ⟨b, hb⟩ : ∃ b, pg[i]? = some b := ⟨_, List.getElem?_eq_getElem (by rw [hm.six]; exact hi6)⟩; have hbw := hp b (List.mem_of_getElem? hb); unfold bkW at hbw; obtain ⟨da, dc, sa, sc, hcb, hds, hss⟩ := hm.one i b hb; obtain ⟨b2, hb2⟩ : ∃ b, qg[i]? = some b := ⟨_, List.getElem?_eq_getElem (by rw [hm2.six]; exact hi6)⟩; obtain ⟨da2, dc2, sa2, sc2, hcb2, hds2, hss2⟩ := hm2.one i b2 hb2
    refine zi ?_; refine zk ?_; refine zq ?_; refine zB ?_; refine yA ?_; refine mI e10_1 ?_; refine w_r (v := .agg (List.toArray [.bool b.is, .slice da b.decls.length dc, .slice sa b.stmts.length sc])) (fun _ => R_aidxA (i := i) ara27 e9_1 e10_1 (by omega) hcb) rfl rfl ?_; refine w_alloc zr26 (fun t6b gt6b ut6b => ?_)
    refine aI rfl ?_; refine w_store 0 rfl z26 rfl rfl rfl rfl rfl rfl rfl ?_; refine yC ?_; refine mI rfl ?_; refine zf fa29_0 e3_1 ?_; refine w_r (fun _ => R_iaA (i := i) ara27 (by decide) rfl rfl (by first | omega | decide)) rfl rfl ?_; refine w_loadC (l := [.bool b2.is, .slice da2 b2.decls.length dc2, .slice sa2 b2.stmts.length sc2]) z26 rfl rfl (fun w h j v hj => zc 1 rfl (sub_get hcb2 hj) h) ?_; refine w_alloc zr26 (fun t7b gt7b ut7b => ?_)
    refine w_store 0 rfl z26 rfl rfl rfl rfl rfl rfl rfl ?_; refine yC ?_; refine zf fa26_0 rfl ?_; refine zl z4 rfl (fun _ h => zc 1 rfl rfl h) ?_; refine zf fa26_0 rfl ?_; refine zl z4 rfl (fun _ h => zc 0 rfl rfl h) ?_; refine w_r (fun _ => R_bne unb4 rfl rfl) rfl rfl ?_; refine mB rfl ?_; refine zp (t := 23) rfl (fun h6 => ?_) (fun h6 => ?_)
    · refine zs rfl rfl (bV h6) ?_; refine zs rfl rfl (bV h6) ?_; refine zs rfl rfl (bV h6) ?_; refine zs rfl rfl (bV h6) ?_; refine zs rfl rfl (bV h6) ?_; refine zs rfl rfl (bV h6) ?_; refine w_r (v := .bool _) (fun _ => zT (bV h6) rfl) rfl rfl ?_; refine mB rfl ?_; refine zs rfl rfl rfl ?_; refine zs rfl rfl rfl ?_; refine zs rfl rfl rfl ?_; refine zs rfl rfl rfl ?_; refine zs rfl rfl rfl ?_; refine zs rfl rfl rfl ?_; refine w_r (v := .bool _) (fun _ => zT rfl rfl) rfl rfl ?_; refine yB ?_; refine zE rfl ?_; refine yA ?_; refine aB rfl ?_; refine yB ?_; refine ze ?_; refine zb (zt (zt (zb (zt (?_)))))
      refine zo (v := .bool _) rfl rfl rfl ?_; exact fun w' hw => ⟨by unfold pgSame; first | (rw [pairOk_yes (hm.six.trans hm2.six.symm) hy (by have := hm.six; omega)]; done) | (rw [pairOk_no hb hb2 (by (try clear hm hm2 hw hp hcb hds hss hcb2 hds2 hss2 hbw hy e10_1 e3_1 e9_1 gt2b gt3b gt6b gt7b ut2b ut3b ut6b ut7b); simp only [bkSame, smsSame_eq]; simp_all)]; done), hw.fr _ (.head _)⟩
    · refine zw rfl rfl (bV h6) ?_; refine zf fa26_1 rfl ?_; refine zw rfl rfl (bV h6) ?_; refine zl z23 rfl (fun _ h => zc 1 rfl rfl h) ?_; refine zw rfl rfl (bV h6) ?_; refine zf fa26_1 rfl ?_; refine zw rfl rfl (bV h6) ?_; refine zl z23 rfl (fun _ h => zc 0 rfl rfl h) ?_; refine zw rfl rfl (bV h6) ?_; refine zC (fun w => zR Tryz.func50 rfl rfl rfl) rfl rfl (fun w h => eqD_spec b.decls b2.decls da da2 dc dc2 N w (fun x hx => by have := dcsW_mem hx; omega) (by omega) (hds.now (fun _ _ hh => hh) (.head _) h) (hds2.now (fun _ _ hh => hh) (.head _) h)) ?_; refine zw rfl rfl (bV h6) ?_; refine w_r (fun _ => R_not rfl) rfl rfl ?_; refine w_r (v := .bool _) (fun _ => zF (bV h6) rfl) rfl rfl ?_; refine mB rfl ?_; refine zp (t := 31) rfl (fun h7 => ?_) (fun h7 => ?_)
      · refine zs rfl rfl (bV h7) ?_; refine zs rfl rfl (bV h7) ?_; refine zs rfl rfl (bV h7) ?_; refine zs rfl rfl (bV h7) ?_; refine zs rfl rfl (bV h7) ?_; refine zs rfl rfl (bV h7) ?_; refine w_r (v := .bool _) (fun _ => zT (bV h7) rfl) rfl rfl ?_; refine yB ?_; refine zE rfl ?_; refine yA ?_; refine aB rfl ?_; refine yB ?_; refine ze ?_; refine zb (zt (zt (zb (zt (?_)))))
        refine zo (v := .bool _) rfl rfl rfl ?_; exact fun w' hw => ⟨by unfold pgSame; first | (rw [pairOk_yes (hm.six.trans hm2.six.symm) hy (by have := hm.six; omega)]; done) | (rw [pairOk_no hb hb2 (by (try clear hm hm2 hw hp hcb hds hss hcb2 hds2 hss2 hbw hy e10_1 e3_1 e9_1 gt2b gt3b gt6b gt7b ut2b ut3b ut6b ut7b); simp only [bkSame, smsSame_eq]; simp_all)]; done), hw.fr _ (.head _)⟩
      · refine zw rfl rfl (bV h7) ?_; refine zf fa26_2 rfl ?_; refine zw rfl rfl (bV h7) ?_; refine zl z24 rfl (fun _ h => zc 1 rfl rfl h) ?_; refine zw rfl rfl (bV h7) ?_; refine zf fa26_2 rfl ?_; refine zw rfl rfl (bV h7) ?_; refine zl z24 rfl (fun _ h => zc 0 rfl rfl h) ?_; refine zw rfl rfl (bV h7) ?_; refine zC (fun w => zR Tryz.func52 rfl rfl rfl) rfl rfl (fun w h => eqS_spec _ sameS_ok b.stmts b2.stmts sa sa2 sc sc2 N w (fun x hx => by have := smsW_mem hx; omega) (by omega) (hss.now (fun _ _ hh => hh) (.head _) h) (hss2.now (fun _ _ hh => hh) (.head _) h)) ?_; refine zw rfl rfl (bV h7) ?_; refine w_r (fun _ => R_not rfl) rfl rfl ?_; refine w_r (v := .bool _) (fun _ => zF (bV h7) rfl) rfl rfl ?_; refine yB ?_; refine c_condN rfl (fun h8 => ?_) (fun h8 => ?_)
        · refine yA ?_; refine aB rfl ?_; refine yB ?_; refine ze ?_; refine zb (zt (zt (zb (zt (?_)))))
          refine zo (v := .bool _) rfl rfl rfl ?_; exact fun w' hw => ⟨by unfold pgSame; first | (rw [pairOk_yes (hm.six.trans hm2.six.symm) hy (by have := hm.six; omega)]; done) | (rw [pairOk_no hb hb2 (by (try clear hm hm2 hw hp hcb hds hss hcb2 hds2 hss2 hbw hy e10_1 e3_1 e9_1 gt2b gt3b gt6b gt7b ut2b ut3b ut6b ut7b); simp only [bkSame, smsSame_eq]; simp_all)]; done), hw.fr _ (.head _)⟩
        · refine zi ?_; refine b_on (zk ?_); refine zr ?_; refine w_r (fun _ => R_addi e10_1 rfl (by omega)) rfl rfl ?_; refine mI rfl ?_; refine zn ?_; refine k_st (B' := [(w, No)]) (L' := _) (fun w h => h.drop (List.sublist_append_right [_, _] _)) ?_; exact k_again _ (by omega) ⟨i + 1, e3_1, e9_1, rfl, rfl, rfl, by omega, pair_next hy hb hb2 (by (try clear hm hm2 hp hcb hds hss hcb2 hds2 hss2 hbw hy e10_1 e3_1 e9_1 gt2b gt3b gt6b gt7b ut2b ut3b ut6b ut7b); simp only [bkSame, smsSame_eq]; simp_all), rfl⟩
  · refine c_exit ?_; refine zx (zx (b_here rfl (zk ?_))); refine yA ?_; refine aB rfl ?_; refine yB ?_; refine ze ?_; refine zo (v := .bool _) rfl rfl rfl ?_; exact fun w' hw => ⟨by unfold pgSame; first | (rw [pairOk_yes (hm.six.trans hm2.six.symm) hy (by have := hm.six; omega)]; done) | (rw [pairOk_no hb hb2 (by simp only [bkSame, smsSame_eq]; simp_all)]; done), hw.fr _ (.head _)⟩
end Go.Proofs.YtaniogadknakoaaGreatDoor
end

section
namespace Go.Proofs.YtaniogadknakoaaGreatDoor
open Go.RowKit Go.Sx
open Go.Tok Go.Tree Go.Prs

theorem Parse_at (s : Str) (hs : s.length ≤ 10000000) {p : List Bk} {fl : Fl} (h : resOf (List.replicate 6 noBk) (parseP s) = (p, fl)) (w : World) (hW : Wd w) (hng : 4 ≤ w.heap.size) :
  Ret Tryz.prog 10 #[str s] w fun v w' => ∃ cs, v = .tuple #[.agg cs.toArray, .agg #[.int .i64 (fl.1 : Nat), .int .i64 (fl.2 : Nat)]] ∧ pgM w' (Nn w w') p cs ∧ Ext w w' :=
 (Parse_ok s hs w hW hng).mono fun v w' ⟨cs, h1, h2, _, h4⟩ => ⟨cs, by rw [h1, h], by rw [h] at h2; exact h2, h4⟩
theorem Expr_at (s : Str) (hs : s.length ≤ 10000000) {p : Ex} {fl : Fl} (h : resOf noEx (exprP s) = (p, fl)) (w : World) (hW : Wd w) (hng : 4 ≤ w.heap.size) :
  Ret Tryz.prog 13 #[str s] w fun v w' => ∃ b, v = .tuple #[.agg (exE p b).toArray, .agg #[.int .i64 (fl.1 : Nat), .int .i64 (fl.2 : Nat)]] ∧ exT w' (Nn w w') p b ∧ Ext w w' :=
 (Expr_ok s hs w hW hng).mono fun v w' ⟨b, h1, h2, _, h4⟩ => ⟨b, by rw [h1, h], by rw [h] at h2; exact h2, h4⟩


def hP1 : List Bk := (resOf (List.replicate 6 noBk) (parseP [109, 111, 100, 101, 108, 32, 123, 32, 116, 97, 114, 103, 101, 116, 32, 43, 61, 32, 45, 40, 97, 32, 45, 32, 49, 41, 32, 42, 32, 50, 32, 59, 32, 125])).1
theorem parse1 (w : World) (hW : Wd w) (hng : 4 ≤ w.heap.size) : Ret Tryz.prog 10 #[str [109, 111, 100, 101, 108, 32, 123, 32, 116, 97, 114, 103, 101, 116, 32, 43, 61, 32, 45, 40, 97, 32, 45, 32, 49, 41, 32, 42, 32, 50, 32, 59, 32, 125]] w fun v w' => ∃ cs, v = .tuple #[.agg cs.toArray, .agg #[.int .i64 0, .int .i64 0]] ∧ pgM w' (Nn w w') hP1 cs ∧ Ext w w' :=
 Parse_at _ (by decide) (fl := (0, 0)) (Prod.ext rfl (by kernel_rfl)) w hW hng

def hP3 : List Bk := (resOf (List.replicate 6 noBk) (parseP [109, 111, 100, 101, 108, 32, 123, 32, 125, 32, 100, 97, 116, 97, 32, 123, 32, 125])).1
theorem parse3 (w : World) (hW : Wd w) (hng : 4 ≤ w.heap.size) : Ret Tryz.prog 10 #[str [109, 111, 100, 101, 108, 32, 123, 32, 125, 32, 100, 97, 116, 97, 32, 123, 32, 125]] w fun v w' => ∃ cs, v = .tuple #[.agg cs.toArray, .agg #[.int .i64 130, .int .i64 10]] ∧ pgM w' (Nn w w') hP3 cs ∧ Ext w w' :=
 Parse_at _ (by decide) (fl := (130, 10)) (Prod.ext rfl (by kernel_rfl)) w hW hng

def hP4 : List Bk := (resOf (List.replicate 6 noBk) (parseP [109, 111, 100, 101, 108, 32, 123, 32, 40, 97, 41, 32, 61, 32, 49, 59, 32, 125])).1
theorem parse4 (w : World) (hW : Wd w) (hng : 4 ≤ w.heap.size) : Ret Tryz.prog 10 #[str [109, 111, 100, 101, 108, 32, 123, 32, 40, 97, 41, 32, 61, 32, 49, 59, 32, 125]] w fun v w' => ∃ cs, v = .tuple #[.agg cs.toArray, .agg #[.int .i64 130, .int .i64 12]] ∧ pgM w' (Nn w w') hP4 cs ∧ Ext w w' :=
 Parse_at _ (by decide) (fl := (130, 12)) (Prod.ext rfl (by kernel_rfl)) w hW hng

def hP5 : List Bk := (resOf (List.replicate 6 noBk) (parseP [])).1
theorem parse5 (w : World) (hW : Wd w) (hng : 4 ≤ w.heap.size) : Ret Tryz.prog 10 #[str []] w fun v w' => ∃ cs, v = .tuple #[.agg cs.toArray, .agg #[.int .i64 0, .int .i64 0]] ∧ pgM w' (Nn w w') hP5 cs ∧ Ext w w' :=
 Parse_at _ (by decide) (fl := (0, 0)) (Prod.ext rfl (by kernel_rfl)) w hW hng

def hX6 : Ex := (resOf noEx (exprP [97, 43, 98, 42, 45, 99])).1
theorem expr6 (w : World) (hW : Wd w) (hng : 4 ≤ w.heap.size) : Ret Tryz.prog 13 #[str [97, 43, 98, 42, 45, 99]] w fun v w' => ∃ b, v = .tuple #[.agg (exE hX6 b).toArray, .agg #[.int .i64 0, .int .i64 0]] ∧ exT w' (Nn w w') hX6 b ∧ Ext w w' :=
 Expr_at _ (by decide) (fl := (0, 0)) (Prod.ext rfl (by kernel_rfl)) w hW hng
theorem write1 {cs : List Value} {N : Nat → Prop} {w : World} (hm : pgM w N hP1 cs) (hW : Wd w) : Ret Tryz.prog 19 #[.agg cs.toArray] w fun v w' => v = .tuple #[str [109, 111, 100, 101, 108, 32, 123, 10, 116, 97, 114, 103, 101, 116, 32, 43, 61, 32, 45, 32, 40, 32, 97, 32, 45, 32, 49, 32, 41, 32, 42, 32, 50, 32, 59, 10, 125, 10], .int .i64 0] ∧ Ext w w' := by
 have h1 : pgOk hP1 = true := by decide +kernel
 have h2 : textT (pgT hP1) = [109, 111, 100, 101, 108, 32, 123, 10, 116, 97, 114, 103, 101, 116, 32, 43, 61, 32, 45, 32, 40, 32, 97, 32, 45, 32, 49, 32, 41, 32, 42, 32, 50, 32, 59, 10, 125, 10] := by kernel_rfl
 have h3 : (pgT hP1).length ≤ 1000000000 := by decide +kernel
 have h := Write_spec hP1 cs N w (by decide +kernel) hm hW h3 (by rw [h2]; decide)
 rw [h1, h2] at h
 exact h
theorem writeX {b : Option Addr × Nat} {N : Nat → Prop} {w : World} (hm : exT w N hX6 b) (hW : Wd w) : Ret Tryz.prog 22 #[.agg (exE hX6 b).toArray] w fun v w' => v = .tuple #[str [97, 32, 43, 32, 98, 32, 42, 32, 45, 32, 99], .int .i64 0] ∧ Ext w w' := by
 have h1 : exOk hX6 = true := by decide +kernel
 have h2 : textT (exT hX6) = [97, 32, 43, 32, 98, 32, 42, 32, 45, 32, 99] := by kernel_rfl
 have h3 : (_root_.Go.Tree.exT hX6).length ≤ 1000000000 := by decide +kernel
 have h := WriteExpr_spec hX6 _ N w (by decide +kernel) hm.M hW h3 (by rw [h2]; decide)
 rw [h1, h2] at h
 exact h
theorem same0 {cs : List Value} {N : Nat → Prop} {w : World} (hm : pgM w N hP5 cs) : Ret Tryz.prog 21 #[.agg cs.toArray, .agg [.bool false, .slice none 0 0, .slice none 0 0, .bool false, .slice none 0 0, .slice none 0 0, .bool false, .slice none 0 0, .slice none 0 0, .bool false, .slice none 0 0, .slice none 0 0, .bool false, .slice none 0 0, .slice none 0 0, .bool false, .slice none 0 0, .slice none 0 0].toArray] w fun v w' => v = .bool true ∧ Ext w w' := by
 have h1 : pgSame hP5 (List.replicate 6 noBk) = true := by decide +kernel
 have h := Same_spec hP5 (List.replicate 6 noBk) cs _ N w (by decide +kernel) hm pgM.zero
 rw [h1] at h
 exact h


set_option maxRecDepth 100000 in
set_option maxHeartbeats 8000000 in
theorem head13_ok (w : World) (hW : Wd w) (hng : 4 ≤ w.heap.size) :
  Ret Tryz.prog 9 #[] w (fun v w' => v = .bool true ∧ Ext w w') := by
 refine enter (S := No) (l := []) (L := []) 89 Tryz.func9 rfl rfl rfl (St.start w No) ?_; refine yA ?_; refine aB rfl ?_; refine yC ?_; refine w_callR (fun w => zR Tryz.func10 rfl rfl rfl) rfl rfl (fun w h => parse1 w (hW.now (.head _) h) (Nat.le_trans hng (h.fr _ (.head _)).size)) ?_
 rintro wa hwa v x1 ⟨cs1, rfl, hM, hx⟩
 refine ⟨_, _, (hwa.ext hx).base1, ?_⟩
 have hK1 : Kt (x1, inL []) w.heap.size pgM _ cs1 := Kt.new hM TL.pg hwa (hwa.fr _ (.head _)).size; clear hM hx hwa
 have hcl1 : cs1.length = 18 := hK1.len
 refine zm rfl ?_; refine w_r (fun _ => R_extract rfl rfl) rfl rfl ?_; refine w_r (fun _ => R_extract rfl rfl) rfl rfl ?_; refine w_alloc zr29 (fun p1b gp1b up1b => ?_)
 refine w_alloc zr32 (fun f1b gf1b uf1b => ?_)
 refine w_storeW cs1 1 rfl z29 rfl rfl rfl hcl1 (pg_one hK1) rfl ?_; refine w_store 0 rfl z32 rfl rfl rfl rfl rfl rfl rfl ?_; refine yC ?_; refine w_loadW z29 rfl (fun w h => h.at_ 1 rfl) hcl1 ?_; refine zC (fun w => zR Tryz.func19 rfl rfl rfl) rfl rfl (fun w h => write1 (hK1.now TL.pg (.head _) h) (hW.now (.tail _ (.head _)) h)) ?_; refine zm rfl ?_; refine w_r (fun _ => R_extract rfl rfl) rfl rfl ?_; refine w_r (fun _ => R_extract rfl rfl) rfl rfl ?_; refine za (v := str _) rfl ?_; refine aI rfl ?_; refine yC ?_; refine w_callR (fun w => zR Tryz.func10 rfl rfl rfl) rfl rfl (fun w h => parse3 w (hW.now (.tail _ (.head _)) h) (Nat.le_trans hng (h.fr _ (.tail _ (.head _))).size)) ?_
 rintro wa hwa v x3 ⟨cs3, rfl, hM, hx⟩
 refine ⟨_, _, (hwa.ext hx).base1, ?_⟩
 have hK3 : Kt (x3, inL [_, _]) w.heap.size pgM _ cs3 := Kt.new hM TL.pg hwa (hwa.fr _ (.tail _ (.head _))).size; clear hM hx hwa
 have hcl3 : cs3.length = 18 := hK3.len
 refine zm rfl ?_; refine w_r (fun _ => R_extract rfl rfl) rfl rfl ?_; refine w_r (fun _ => R_extract rfl rfl) rfl rfl ?_; refine w_alloc zr29 (fun p3b gp3b up3b => ?_)
 refine w_alloc zr32 (fun f3b gf3b uf3b => ?_)
 refine w_storeW cs3 1 rfl z29 rfl rfl rfl hcl3 (pg_one hK3) rfl ?_; refine w_store 0 rfl z32 rfl rfl rfl rfl rfl rfl rfl ?_; refine yC ?_; refine w_callR (fun w => zR Tryz.func10 rfl rfl rfl) rfl rfl (fun w h => parse4 w (hW.now (.tail _ (.tail _ (.head _))) h) (Nat.le_trans hng (h.fr _ (.tail _ (.tail _ (.head _)))).size)) ?_
 rintro wa hwa v x4 ⟨cs4, rfl, hM, hx⟩
 refine ⟨_, _, (hwa.ext hx).base1, ?_⟩
 have hK4 : Kt (x4, inL [_, _, _, _]) w.heap.size pgM _ cs4 := Kt.new hM TL.pg hwa (hwa.fr _ (.tail _ (.tail _ (.head _)))).size; clear hM hx hwa
 have hcl4 : cs4.length = 18 := hK4.len
 refine zm rfl ?_; refine w_r (fun _ => R_extract rfl rfl) rfl rfl ?_; refine w_r (fun _ => R_extract rfl rfl) rfl rfl ?_; refine w_alloc zr29 (fun p4b gp4b up4b => ?_)
 refine w_alloc zr32 (fun f4b gf4b uf4b => ?_)
 refine w_storeW cs4 1 rfl z29 rfl rfl rfl hcl4 (pg_one hK4) rfl ?_; refine w_store 0 rfl z32 rfl rfl rfl rfl rfl rfl rfl ?_; refine yC ?_; refine w_callR (fun w => zR Tryz.func10 rfl rfl rfl) rfl rfl (fun w h => parse5 w (hW.now (.tail _ (.tail _ (.tail _ (.head _)))) h) (Nat.le_trans hng (h.fr _ (.tail _ (.tail _ (.tail _ (.head _))))).size)) ?_
 rintro wa hwa v x5 ⟨cs5, rfl, hM, hx⟩
 refine ⟨_, _, (hwa.ext hx).base1, ?_⟩
 have hK5 : Kt (x5, inL [_, _, _, _, _, _]) w.heap.size pgM _ cs5 := Kt.new hM TL.pg hwa (hwa.fr _ (.tail _ (.tail _ (.tail _ (.head _))))).size; clear hM hx hwa
 have hcl5 : cs5.length = 18 := hK5.len
 refine zm rfl ?_; refine w_r (fun _ => R_extract rfl rfl) rfl rfl ?_; refine w_r (fun _ => R_extract rfl rfl) rfl rfl ?_; refine w_alloc zr29 (fun p5b gp5b up5b => ?_)
 refine w_alloc zr32 (fun f5b gf5b uf5b => ?_)
 refine w_storeW cs5 1 rfl z29 rfl rfl rfl hcl5 (pg_one hK5) rfl ?_; refine w_store 0 rfl z32 rfl rfl rfl rfl rfl rfl rfl ?_; refine yC ?_; refine w_callR (fun w => zR Tryz.func13 rfl rfl rfl) rfl rfl (fun w h => expr6 w (hW.now (.tail _ (.tail _ (.tail _ (.tail _ (.head _))))) h) (Nat.le_trans hng (h.fr _ (.tail _ (.tail _ (.tail _ (.tail _ (.head _)))))).size)) ?_
 rintro wa hwa v x6 ⟨cs6, rfl, hM, hx⟩
 refine ⟨_, _, (hwa.ext hx).base1, ?_⟩
 have hK6 : Kt (x6, inL [_, _, _, _, _, _, _, _]) w.heap.size exT _ cs6 := Kt.new hM TL.ext hwa (hwa.fr _ (.tail _ (.tail _ (.tail _ (.tail _ (.head _)))))).size; clear hM hx hwa
 refine zm rfl ?_; refine w_r (fun _ => R_extract rfl rfl) rfl rfl ?_; refine w_r (fun _ => R_extract rfl rfl) rfl rfl ?_; refine w_alloc zr39 (fun e6b ge6b ue6b => ?_)
 refine w_alloc zr32 (fun f6b gf6b uf6b => ?_)
 refine w_store 1 rfl z39 rfl rfl rfl rfl rfl rfl rfl ?_; refine w_store 0 rfl z32 rfl rfl rfl rfl rfl rfl rfl ?_; refine yC ?_; refine w_loadA z39 rfl (fun _ h => h.at_ 1 rfl) rfl ?_; refine zC (fun w => zR Tryz.func22 rfl rfl rfl) rfl rfl (fun w h => writeX (hK6.now TL.ext (.head _) h) (hW.now (.tail _ (.tail _ (.tail _ (.tail _ (.tail _ (.head _)))))) h)) ?_; refine zm rfl ?_; refine w_r (fun _ => R_extract rfl rfl) rfl rfl ?_; refine w_r (fun _ => R_extract rfl rfl) rfl rfl ?_; refine za (v := str _) rfl ?_; refine aI rfl ?_; refine yC ?_; refine zf fa32_0 rfl ?_; refine zl z30 rfl (fun _ h => zc 8 rfl rfl h) ?_; refine w_r (fun _ => R_eq rfl rfl) rfl rfl ?_; refine mB rfl ?_
 refine zd (t := 48) rfl (fun h11 => ?_) (fun h11 => ?_)
 ·refine zw rfl rfl (bT h11) ?_; refine mI rfl ?_; refine zw rfl rfl (bT h11) ?_; refine w_r (fun _ => R_eq rfl rfl) rfl rfl ?_; refine w_r (v := .bool _) (fun _ => zT (bT h11) rfl) rfl rfl ?_; refine mB rfl ?_; refine zd (t := 52) rfl (fun h12 => ?_) (fun h12 => ?_)
  ·refine zw rfl rfl (bT h12) ?_; refine zm (v := str _) rfl ?_; refine zw rfl rfl (bT h12) ?_; refine w_r (fun _ => R_seq rfl rfl) rfl rfl ?_; refine w_r (v := .bool _) (fun _ => zT (bT h12) rfl) rfl rfl ?_; refine mB rfl ?_; refine zd (t := 56) rfl (fun h13 => ?_) (fun h13 => ?_)
   ·refine zw rfl rfl (bT h13) ?_; refine w_loadA z32 rfl (fun _ h => h.at_ 6 rfl) rfl ?_; refine zw rfl rfl (bT h13) ?_; refine w_r (fun _ => R_build bt32 rfl) rfl rfl ?_; refine zw rfl rfl (bT h13) ?_; refine w_r (fun _ => R_eqS fl32 rfl rfl (eq2_run (n := 9998) fl32 z30 z3 un30 un3)) rfl rfl ?_; refine w_r (v := .bool _) (fun _ => zT (bT h13) rfl) rfl rfl ?_; refine mB rfl ?_; refine zp (t := 61) rfl (fun h14 => ?_) (fun h14 => ?_)
    ·refine zw rfl rfl (bV h14) ?_; refine w_loadA z32 rfl (fun _ h => h.at_ 4 rfl) rfl ?_; refine zw rfl rfl (bV h14) ?_; refine w_r (fun _ => R_build bt32 rfl) rfl rfl ?_; refine zw rfl rfl (bV h14) ?_; refine w_r (fun _ => R_eqS fl32 rfl rfl (eq2_run (n := 9998) fl32 z30 z3 un30 un3)) rfl rfl ?_; refine w_r (v := .bool _) (fun _ => zT (bV h14) rfl) rfl rfl ?_; refine mB rfl ?_; refine zp (t := 66) rfl (fun h15 => ?_) (fun h15 => ?_)
     ·refine zw rfl rfl (bV h15) ?_; refine zf fa32_0 rfl ?_; refine zw rfl rfl (bV h15) ?_; refine zl z30 rfl (fun _ h => zc 2 rfl rfl h) ?_; refine zw rfl rfl (bV h15) ?_; refine w_r (fun _ => R_eq rfl rfl) rfl rfl ?_; refine w_r (v := .bool _) (fun _ => zT (bV h15) rfl) rfl rfl ?_; refine mB rfl ?_; refine zd (t := 71) rfl (fun h16 => ?_) (fun h16 => ?_)
      ·refine zw rfl rfl (bT h16) ?_; refine w_loadW z29 rfl (fun w h => h.at_ 3 rfl) hcl5 ?_; refine zw rfl rfl (bT h16) ?_; refine w_r (fun _ => R_build bt29 rfl) rfl rfl ?_; refine zw rfl rfl (bT h16) ?_; refine zC (fun w => zR Tryz.func21 rfl rfl rfl) rfl rfl (fun w h => same0 (hK5.now TL.pg (.tail _ (.head _)) h)) ?_; refine w_r (v := .bool _) (fun _ => zT (bT h16) rfl) rfl rfl ?_; refine mB rfl ?_; refine zw rfl rfl rfl ?_; refine zf fa32_0 rfl ?_; refine zw rfl rfl rfl ?_; refine zl z30 rfl (fun _ h => zc 0 rfl rfl h) ?_; refine zw rfl rfl rfl ?_; refine w_r (fun _ => R_eq rfl rfl) rfl rfl ?_; refine w_r (v := .bool _) (fun _ => zT rfl rfl) rfl rfl ?_; refine mB rfl ?_; refine zd (t := 81) rfl (fun h17 => ?_) (fun h17 => ?_)
       ·refine zw rfl rfl (bT h17) ?_; refine mI rfl ?_; refine zw rfl rfl (bT h17) ?_; refine w_r (fun _ => R_eq rfl rfl) rfl rfl ?_; refine w_r (v := .bool _) (fun _ => zT (bT h17) rfl) rfl rfl ?_; refine mB rfl ?_; refine zd (t := 85) rfl (fun h18 => ?_) (fun h18 => ?_)
        ·refine zw rfl rfl (bT h18) ?_; refine zm (v := str _) rfl ?_; refine zw rfl rfl (bT h18) ?_; refine w_r (fun _ => R_seq rfl rfl) rfl rfl ?_; refine w_r (v := .bool _) (fun _ => zT (bT h18) rfl) rfl rfl ?_; refine aB rfl ?_; refine yB ?_; refine ze ?_; refine zo (v := .bool _) rfl rfl rfl ?_; exact fun w' hw => ⟨rfl, hw.fr _ (.tail _ (.tail _ (.tail _ (.tail _ (.tail _ (.head _))))))⟩
        ·first | exact absurd (by first | rfl | decide) h18 | exact absurd h18 (by decide) | (simp at h18)
       ·first | exact absurd (by first | rfl | decide) h17 | exact absurd h17 (by decide) | (simp at h17)
      ·first | exact absurd (by first | rfl | decide) h16 | exact absurd h16 (by decide) | (simp at h16)
     ·first | exact absurd (by first | rfl | decide) h15 | exact absurd h15 (by decide) | (simp at h15)
    ·first | exact absurd (by first | rfl | decide) h14 | exact absurd h14 (by decide) | (simp at h14)
   ·first | exact absurd (by first | rfl | decide) h13 | exact absurd h13 (by decide) | (simp at h13)
  ·first | exact absurd (by first | rfl | decide) h12 | exact absurd h12 (by decide) | (simp at h12)
 ·first | exact absurd (by first | rfl | decide) h11 | exact absurd h11 (by decide) | (simp at h11)
end Go.Proofs.YtaniogadknakoaaGreatDoor
end

section
namespace Go.Proofs.YtaniogadknakoaaGreatDoor
open Go.RowKit Go.Sx
open Go.Tok Go.Tree Go.Prs

def dC (mn : Bool) : UInt8 := if mn = true then 45 else 40
def dN (mn : Bool) (q : Nat) : Nat := if mn = true then 0 else q
def dSrc (mn : Bool) (q : Nat) : Str := List.replicate q (dC mn) ++ [97] ++ List.replicate (dN mn q) 41
theorem dSrc_len (mn : Bool) (q : Nat) (h : q ≤ 66) : (dSrc mn q).length ≤ 10000000 := by
 unfold dSrc dN; simp only [List.length_append, List.length_replicate, List.length_cons, List.length_nil]; split <;> omega
theorem deep_62_true : (resOf noEx (exprP (dSrc true 62))).2 = (0, 0) := by kernel_rfl
theorem deep_62_false : (resOf noEx (exprP (dSrc false 62))).2 = (0, 0) := by kernel_rfl
theorem deep_63_true : (resOf noEx (exprP (dSrc true 63))).2 = (0, 0) := by kernel_rfl
theorem deep_63_false : (resOf noEx (exprP (dSrc false 63))).2 = (0, 0) := by kernel_rfl
theorem deep_64_true : (resOf noEx (exprP (dSrc true 64))).2 = (0, 0) := by kernel_rfl
theorem deep_64_false : (resOf noEx (exprP (dSrc false 64))).2 = (0, 0) := by kernel_rfl
theorem deep_65_true : (resOf noEx (exprP (dSrc true 65))).2 = (131, 64) := by kernel_rfl
theorem deep_65_false : (resOf noEx (exprP (dSrc false 65))).2 = (131, 64) := by kernel_rfl
theorem deep_66_true : (resOf noEx (exprP (dSrc true 66))).2 = (131, 64) := by kernel_rfl
theorem deep_66_false : (resOf noEx (exprP (dSrc false 66))).2 = (131, 64) := by kernel_rfl
theorem deep_bad (mn : Bool) (q : Nat) (h1 : 64 < q) (h2 : q ≤ 66) : (resOf noEx (exprP (dSrc mn q))).2 = (131, 64) := by
 have : q = 65 ∨ q = 66 := by omega
 rcases this with rfl | rfl <;> cases mn
 ·exact deep_65_false
 ·exact deep_65_true
 ·exact deep_66_false
 ·exact deep_66_true
theorem deep_fine (mn : Bool) (q : Nat) (h1 : 62 ≤ q) (h2 : q ≤ 64) : (resOf noEx (exprP (dSrc mn q))).2 = (0, 0) := by
 have : q = 62 ∨ q = 63 ∨ q = 64 := by omega
 rcases this with rfl | rfl | rfl <;> cases mn
 ·exact deep_62_false
 ·exact deep_62_true
 ·exact deep_63_false
 ·exact deep_63_true
 ·exact deep_64_false
 ·exact deep_64_true

set_option maxRecDepth 100000 in
set_option maxHeartbeats 8000000 in
theorem deep_law (mi : Int) (hm1 : -128 ≤ mi) (hm2 : mi ≤ 127) (mn : Bool) (w : World) (hW : Wd w) (hng : 4 ≤ w.heap.size) :
  Ret Tryz.prog 7 #[.int .i8 mi, .bool mn] w (fun v w' => v = .bool true ∧ Ext w w') := by
 refine enter (S := No) (l := [_, _]) (L := []) 57 Tryz.func7 rfl rfl rfl (St.start w No) ?_; refine yA ?_; refine aB rfl ?_; refine yC ?_; refine mI rfl ?_; refine w_r (fun _ => R_convI un53 un3 rfl) rfl rfl ?_
 rw [wrap_i64 (by omega) (by omega)]
 refine aI rfl ?_; refine yB ?_; refine zq ?_; refine yA ?_; refine mI rfl ?_; refine w_r (fun _ => R_lt rfl rfl) rfl rfl ?_; refine mB rfl ?_; refine zd (t := 16) rfl (fun h1 => ?_) (fun h1 => ?_)
 ·refine zs rfl rfl (bT h1) ?_; refine zs rfl rfl (bT h1) ?_; refine w_r (v := .bool _) (fun _ => zT (bT h1) rfl) rfl rfl ?_; refine yB ?_; refine zE rfl ?_; refine yA ?_; refine zC (fun w => zR Tryz.func9 rfl rfl rfl) rfl rfl (fun w h => head13_ok w (hW.now (.head _) h) (Nat.le_trans hng (h.fr _ (.head _)).size)) ?_; refine aB rfl ?_; refine yB ?_; refine ze ?_; refine zt (?_)
  refine zo (v := .bool _) rfl rfl rfl ?_; exact fun w' hw => ⟨rfl, hw.fr _ (.head _)⟩
 ·refine zw rfl rfl (bF h1) ?_; refine mI rfl ?_; refine zw rfl rfl (bF h1) ?_; refine w_r (fun _ => R_gt rfl rfl) rfl rfl ?_; refine w_r (v := .bool _) (fun _ => zF (bF h1) rfl) rfl rfl ?_; refine yB ?_; refine zD rfl (fun h2 => ?_) (fun h2 => ?_)
  ·refine yA ?_; refine zC (fun w => zR Tryz.func9 rfl rfl rfl) rfl rfl (fun w h => head13_ok w (hW.now (.head _) h) (Nat.le_trans hng (h.fr _ (.head _)).size)) ?_; refine aB rfl ?_; refine yB ?_; refine ze ?_; refine zt (?_)
   refine zo (v := .bool _) rfl rfl rfl ?_; exact fun w' hw => ⟨rfl, hw.fr _ (.head _)⟩
  ·refine zi ?_; refine zk ?_; refine yA ?_; refine mI rfl ?_
   obtain ⟨q, hq⟩ : ∃ q : Nat, (64 : Int) + mi = q := ⟨(64 + mi).toNat, by omega⟩
   refine w_r (fun _ => R_addi rfl rfl (by omega)) rfl rfl ?_
   rw [hq]
   refine aI rfl ?_; refine yC ?_; refine za (v := str _) rfl ?_; refine za (v := str _) rfl ?_; refine yB ?_; refine zq ?_; refine yA ?_; refine aI rfl ?_; refine yB ?_; refine zB ?_; refine c_loop (fun m e B L => ∃ (i : Nat), e 1 = .bool mn ∧ e 5 = .int .i64 mi ∧ e 6 = .int .i64 (q : Nat) ∧ e 7 = str (List.replicate i (dC mn)) ∧ e 8 = str (List.replicate (dN mn i) 41) ∧ e 9 = .int .i64 (i : Nat) ∧ B = [(w, No)] ∧ L = [] ∧ i ≤ q ∧ m = q - i) _ ⟨0, rfl, rfl, rfl, rfl, (by unfold dN; split <;> rfl), rfl, rfl, rfl, Nat.zero_le _, rfl⟩ ?_
   rintro m e B L ⟨i, e1_1, e5_1, e6_1, e7_1, e8_1, e9_1, rfl, rfl, hi, rfl⟩
   refine zq ?_; refine yA ?_; refine mI e9_1 ?_; refine mI e6_1 ?_; refine w_r (fun _ => R_lt rfl rfl) rfl rfl ?_; refine yB ?_; refine zD rfl (fun h3 => ?_) (fun h3 => ?_)
   ·refine zi ?_; refine zk ?_; refine zq ?_; refine zB ?_; refine yA ?_; refine mB e1_1 ?_; refine yB ?_; refine c_cond rfl (fun h4 => ?_) (fun h4 => ?_)
    ·refine zr ?_; refine zm (v := str _) e7_1 ?_; refine w_r (fun _ => R_cat rfl rfl (by simp only [List.length_append, List.length_replicate, List.length_cons, List.length_nil, dN]; (try split) <;> omega)) rfl rfl ?_; refine za (v := str _) rfl ?_; refine zn ?_; refine b_on (zk ?_); refine zr ?_; refine mI e9_1 ?_; refine w_r (fun _ => R_addi rfl rfl (by omega)) rfl rfl ?_; refine aI rfl ?_; refine zn ?_; exact k_again _ (by omega) ⟨i + 1, e1_1, e5_1, e6_1, (congrArg str (by unfold dC; rw [h4, if_pos rfl, List.replicate_succ'])), (e8_1.trans (congrArg str (by unfold dN; rw [h4, if_pos rfl, if_pos rfl]))), rfl, rfl, rfl, by omega, rfl⟩
    ·refine yA ?_; refine zm (v := str _) e7_1 ?_; refine w_r (fun _ => R_cat rfl rfl (by simp only [List.length_append, List.length_replicate, List.length_cons, List.length_nil, dN]; (try split) <;> omega)) rfl rfl ?_; refine za (v := str _) rfl ?_; refine yB ?_; refine zr ?_; refine zm (v := str _) e8_1 ?_; refine w_r (fun _ => R_cat rfl rfl (by simp only [List.length_append, List.length_replicate, List.length_cons, List.length_nil, dN]; (try split) <;> omega)) rfl rfl ?_; refine za (v := str _) rfl ?_; refine zn ?_; refine b_on (zk ?_); refine zr ?_; refine mI e9_1 ?_; refine w_r (fun _ => R_addi rfl rfl (by omega)) rfl rfl ?_; refine aI rfl ?_; refine zn ?_
     exact k_again _ (by omega) ⟨i + 1, e1_1, e5_1, e6_1, (congrArg str (by unfold dC; rw [h4, if_neg Bool.false_ne_true, List.replicate_succ'])), (congrArg str (by unfold dN; rw [h4, if_neg Bool.false_ne_true, if_neg Bool.false_ne_true, List.replicate_succ'])), rfl, rfl, rfl, by omega, rfl⟩
   ·obtain rfl : q = i := (by omega)
    refine c_exit ?_; refine zx (zx (b_here rfl (zk ?_))); refine yA ?_
    rcases Nat.lt_or_ge 64 q with hb | hb
    ·refine zm (v := str _) e7_1 ?_; refine w_r (fun _ => R_cat rfl rfl (by simp only [List.length_append, List.length_replicate, List.length_cons, List.length_nil, dN]; (try split) <;> omega)) rfl rfl ?_; refine zm (v := str _) e8_1 ?_; refine w_r (fun _ => R_cat rfl rfl (by simp only [List.length_append, List.length_replicate, List.length_cons, List.length_nil, dN]; (try split) <;> omega)) rfl rfl ?_; refine w_callR (fun w => zR Tryz.func13 rfl rfl rfl) rfl rfl (fun w h => Expr_at (dSrc mn q) (dSrc_len mn q (by omega)) (fl := (131, 64)) (Prod.ext rfl (deep_bad mn q hb (by omega))) w (hW.now (.head _) h) (Nat.le_trans hng (h.fr _ (.head _)).size)) ?_
     rintro wa hwa v x1 ⟨cs1, rfl, hM, hx⟩
     refine ⟨_, _, (hwa.ext hx).base1, ?_⟩
     have hK1 : Kt (x1, inL []) w.heap.size exT _ cs1 := Kt.new hM TL.ext hwa (hwa.fr _ (.head _)).size; clear hM hx hwa
     refine zm rfl ?_; refine w_r (fun _ => R_extract rfl rfl) rfl rfl ?_; refine w_r (fun _ => R_extract rfl rfl) rfl rfl ?_; refine w_alloc zr39 (fun eb geb ueb => ?_)
     refine w_alloc zr32 (fun fb gfb ufb => ?_)
     refine w_store 1 rfl z39 rfl rfl rfl rfl rfl rfl rfl ?_; refine w_store 0 rfl z32 rfl rfl rfl rfl rfl rfl rfl ?_; refine yB ?_; refine zq ?_; refine yA ?_; refine mI e5_1 ?_; refine w_r (fun _ => R_gt rfl rfl) rfl rfl ?_; refine yB ?_; refine zD rfl (fun h7 => ?_) (fun h7 => ?_)
     ·refine yA ?_; refine w_loadA z32 rfl (fun _ h => h.at_ 0 rfl) rfl ?_; refine w_r (fun _ => R_build bt32 rfl) rfl rfl ?_; refine w_r (fun _ => R_eqS fl32 rfl rfl (eq2_run (n := 9998) fl32 z30 z3 un30 un3)) rfl rfl ?_; refine mB rfl ?_; refine zp (t := 48) rfl (fun h8 => ?_) (fun h8 => ?_)
      ·refine zw rfl rfl (bV h8) ?_; refine zC (fun w => zR Tryz.func9 rfl rfl rfl) rfl rfl (fun w h => head13_ok w (hW.now (.tail _ (.head _)) h) (Nat.le_trans hng (h.fr _ (.tail _ (.head _))).size)) ?_; refine w_r (v := .bool _) (fun _ => zT (bV h8) rfl) rfl rfl ?_; refine aB rfl ?_; refine yB ?_; refine ze ?_; refine zt (?_)
       refine zo (v := .bool _) rfl rfl rfl ?_; exact fun w' hw => ⟨rfl, hw.fr _ (.tail _ (.head _))⟩
      ·first | exact absurd (by first | rfl | decide) h8 | (simp at h8)
     ·exfalso; omega
    ·refine zm (v := str _) e7_1 ?_; refine w_r (fun _ => R_cat rfl rfl (by simp only [List.length_append, List.length_replicate, List.length_cons, List.length_nil, dN]; (try split) <;> omega)) rfl rfl ?_; refine zm (v := str _) e8_1 ?_; refine w_r (fun _ => R_cat rfl rfl (by simp only [List.length_append, List.length_replicate, List.length_cons, List.length_nil, dN]; (try split) <;> omega)) rfl rfl ?_; refine w_callR (fun w => zR Tryz.func13 rfl rfl rfl) rfl rfl (fun w h => Expr_at (dSrc mn q) (dSrc_len mn q (by omega)) (fl := (0, 0)) (Prod.ext rfl (deep_fine mn q (by omega) hb)) w (hW.now (.head _) h) (Nat.le_trans hng (h.fr _ (.head _)).size)) ?_
     rintro wa hwa v x1 ⟨cs1, rfl, hM, hx⟩
     refine ⟨_, _, (hwa.ext hx).base1, ?_⟩
     have hK1 : Kt (x1, inL []) w.heap.size exT _ cs1 := Kt.new hM TL.ext hwa (hwa.fr _ (.head _)).size; clear hM hx hwa
     refine zm rfl ?_; refine w_r (fun _ => R_extract rfl rfl) rfl rfl ?_; refine w_r (fun _ => R_extract rfl rfl) rfl rfl ?_; refine w_alloc zr39 (fun eb geb ueb => ?_)
     refine w_alloc zr32 (fun fb gfb ufb => ?_)
     refine w_store 1 rfl z39 rfl rfl rfl rfl rfl rfl rfl ?_; refine w_store 0 rfl z32 rfl rfl rfl rfl rfl rfl rfl ?_; refine yB ?_; refine zq ?_; refine yA ?_; refine mI e5_1 ?_; refine w_r (fun _ => R_gt rfl rfl) rfl rfl ?_; refine yB ?_; refine zD rfl (fun h11 => ?_) (fun h11 => ?_)
     ·exfalso; omega
     ·refine zi ?_; refine zk ?_; refine yA ?_; refine w_loadA z32 rfl (fun _ h => h.at_ 0 rfl) rfl ?_; refine w_r (fun _ => R_build bt32 rfl) rfl rfl ?_; refine w_r (fun _ => R_eqS fl32 rfl rfl (eq2_run (n := 9998) fl32 z30 z3 un30 un3)) rfl rfl ?_; refine mB rfl ?_; refine zp (t := 54) rfl (fun h12 => ?_) (fun h12 => ?_)
      ·refine zw rfl rfl (bV h12) ?_; refine zC (fun w => zR Tryz.func9 rfl rfl rfl) rfl rfl (fun w h => head13_ok w (hW.now (.tail _ (.head _)) h) (Nat.le_trans hng (h.fr _ (.tail _ (.head _))).size)) ?_; refine w_r (v := .bool _) (fun _ => zT (bV h12) rfl) rfl rfl ?_; refine aB rfl ?_; refine yB ?_; refine ze ?_; refine zo (v := .bool _) rfl rfl rfl ?_; exact fun w' hw => ⟨rfl, hw.fr _ (.tail _ (.head _))⟩
      ·first | exact absurd (by first | rfl | decide) h12 | (simp at h12)
end Go.Proofs.YtaniogadknakoaaGreatDoor
end

section
/- A row's lifting with what is laid and the world's shape. -/
namespace Go.Sx
theorem handed_and_shaped {H : Type} {enc : TypeId × Value → H} {a : Assume} {C : Checked} {os : Os} {f : FuncId} {fn : Func} {s : ChangeSpec} {conds : List PathCond} {apart fresh handsOn again : Bool} {X : World → Array Value → Prop}
    (hX : ∀ (w w' : World) (args : Array Value), w.heap = w'.heap → X w args → X w' args)
    (own : ownKnob C.prog.godebug = none) (started : os.Started) (noInit : C.prog.inits.idxOf? f = none) (hfn : C.prog.funcs[f]? = some fn)
    (witness : ∃ (w : World) (tape : Tape) (i : Input), w.os = os ∧ (w.forCall tape i).Shaped C.prog ∧ i.vars = [] ∧ Input.okWide C.prog (w.forCall tape i) .any w.heap.size f i ∧
      ((s.pre enc C.prog fn conds apart (w.forCall tape i).memory i.args ∧ X (w.forCall tape i).memory i.args) ∧ sizedMet enc C.prog fn (OpenSpec.ofChange s) apart (w.forCall tape i).memory i.args) ∧ a.holds C.prog (lone (Frame.enter C.prog f i.args .normal) [] (w.forCall tape i)))
    (contract : ∀ (W : World) (base : Nat) (args : Array Value) (ds gs : List (DataW H)) (before : List MemPlace),
      (∀ (j : Nat) t v, fn.params[j]? = some t → args[j]? = some v → Value.okWide C.prog W .any base t v) →
      DataW.Whole enc C.prog fn.params.toList s.vars apart W args.toList ds gs before →
      X W args → W.ShapedOpen C.prog →
      Calls C.prog f args W fun e W' => ∃ v, e = .returned v ∧ s.post enc C.prog fn apart fresh handsOn again W args v W') :
    ReturnsInHanded a C os f .any (fun w args => (s.pre enc C.prog fn conds apart w args ∧ X w args) ∧ sizedMet enc C.prog fn (OpenSpec.ofChange s) apart w args) (s.post enc C.prog fn apart fresh handsOn again) := by
  refine returnsInHanded_of_calls own started noInit witness ?_
  intro w tape i _ hsh _ hok hpre hholds
  obtain ⟨_, _, _, fn', hfn', _, _, _, _, hval⟩ := hok
  have e : fn' = fn := Option.some.inj (hfn'.symm.trans hfn)
  subst e
  obtain ⟨⟨⟨ds, gs, before, hw, hc⟩, hx⟩, hz⟩ := hpre
  have hw' := DataW.Whole.of_heap (w' := w.forCall tape i) (by rfl) hw
  refine (contract (w.forCall tape i) w.heap.size i.args ds gs before hval hw' (hX _ _ _ (by rfl) hx) hsh).mono fun e W' ⟨v, he, hp⟩ => ?_
  subst he
  exact ChangeSpec.post_blind hp
end Go.Sx
end

section
namespace Go.Proofs.YtaniogadknakoaaGreatDoor
open Go.ChangeShapes Go.WideShapes Go.ChangeAt Go.RowKit Go.Sx
open Go.ChangeMaps (open_string)
theorem own : ownKnob Tryz.prog.godebug = none := by kernel_rfl
theorem below_ext {w w' : World} (h : Ext w w') : Below w.heap.size w w' := ⟨h.os, h.tape, h.output, h.size, fun k hk => h.blk k hk (fun x => x)⟩
section
variable {H : Type} {enc : TypeId × Value → H} {P : Program}
theorem post_ext {f : Func} {s : ChangeSpec} {apart fresh handsOn : Bool} {W W' : World} {args : Array Value} {v : Value} {ds gs : List (DataW H)} {before pa pv : List MemPlace}
    (hW : DataW.Whole enc P f.params.toList s.vars apart W args.toList ds gs before)
    (hres : ∀ (b : Nat) (sp : Nat → Bool) (hd : Bool), DataW.TrodAll enc P W' b sp hd f.resultTypes.toList (v.resultList f.resultTypes.size) (s.fn H (ds ++ gs)).results [])
    (hargs : ∀ sp : Nat → Bool, (∀ p ∈ before, sp p.block = true) → DataW.TrodAll enc P W' 0 sp true f.params.toList args.toList (s.fn H (ds ++ gs)).args pa)
    (hvars : ∀ sp : Nat → Bool, (∀ p ∈ before, sp p.block = true) → DataW.TrodVars enc P W' sp s.vars (s.fn H (ds ++ gs)).vars pv)
    (hps : before = pa ++ pv) (hb : Below W.heap.size W W') : s.post enc P f apart fresh handsOn false W args v W' := by
  have hold : ∀ p ∈ before, (fun b => decide (b < W.heap.size)) p.block = true := fun p hp => by simpa using hW.lt p hp
  exact ⟨ds, gs, before, [], pa, pv, hW, hres _ _ _, hargs _ hold, hvars _ hold, hb.frame _, fun h => by cases h⟩
end
theorem door_met (os : Os) (args : Array Value) : laidMetH Tryz.prog Rows.parseDeepRow.laid ((World.doorLaid Tryz.prog 400 os).forCall (fun _ _ => 0) ⟨#[], args, []⟩).memory :=
  laidMetH_of_parts3 (fuel := 8) (laidMet_of_run' 8 (by kernel_rfl) (by kernel_rfl)) (by kernel_rfl) (by kernel_rfl)
set_option maxRecDepth 100000 in
theorem tb_of_laid {W : World} (h : laidMetH Tryz.prog Rows.parseDeepRow.laid W) : Tb W := by
  rw [MakeChecks.laidMetH_plain _ _ _ (by kernel_rfl)] at h
  obtain ⟨ps, ⟨g0, t0, cs0, f0, p0, q0, hg0, ht0, hv0, hd0, ⟨g1, t1, cs1, f1, p1, q1, hg1, ht1, hv1, hd1, hr1, hq0⟩, hps⟩, hn, hm⟩ := h
  refine Tb.of (Lib.tabIs_of_head (g := 0) (t := 115) (e := 5) (n := 256) (rest := []) (by kernel_rfl) (by kernel_rfl) Tryz.underlying115 Tryz.underlying5 (by kernel_rfl) (by kernel_rfl) (W := W) ⟨q0, ⟨g1, t1, cs1, f1, p1, q1, hg1, ht1, hv1, hd1, hr1, hq0⟩, ?_, ?_⟩)
  · rw [hps] at hn; exact (List.nodup_append.1 hn).2.1
  · exact fun b off hx => hm b off (by rw [hps]; exact List.mem_append.2 (.inr hx))
theorem size_of_shaped {P : Program} {w : World} {g : Nat} (h : w.ShapedOpen P) (hg : g < P.globals.size) (h0 : (((begin P (fun _ _ => 0) default).world.heap[g]?).bind Obj.row?).isSome = true) : g < w.heap.size := by
  obtain ⟨⟨zero, t⟩, h1⟩ := Option.isSome_iff_exists.1 h0
  obtain ⟨cs, hh, _⟩ := h.1 g zero t hg h1
  exact (Array.getElem?_eq_some_iff.1 hh).1

set_option maxRecDepth 100000 in
theorem parseDeep_lifted (os : Os) (started : os.Started) (H : Type) (enc : TypeId × Value → H) :
    ReturnsInHanded {} Tryz.checked os 7 .any (fun w args => (Rows.parseDeepSpec.pre enc Tryz.prog Tryz.f7 [] false w args ∧ laidMetH Tryz.prog Rows.parseDeepRow.laid w) ∧ sizedMet enc Tryz.prog Tryz.f7 (OpenSpec.ofChange Rows.parseDeepSpec) false w args)
      (Rows.parseDeepSpec.post enc Tryz.prog Tryz.f7 false true false false) := by
  refine handed_and_shaped (C := Tryz.checked) (X := fun w _ => laidMetH Tryz.prog Rows.parseDeepRow.laid w) (fun _ _ _ hh h => h.of_heap hh) own started (by kernel_rfl) Tryz.func7
    (ChangeSpec.witness_shaped (enc := enc) (C := Tryz.checked) (os := os) (X := fun w _ => laidMetH Tryz.prog Rows.parseDeepRow.laid w) false (World.doorLaid Tryz.prog 400 os) #[.int .i8 0, .bool false] 8 rfl (World.shaped_of_RefB (by kernel_rfl) (by kernel_rfl)) (by kernel_rfl) (by kernel_rfl) (by kernel_rfl) (door_met os _)) ?_
  intro W base args ds gs before hval0 hW hL hsh
  have hval : ∀ (j : Nat) t v, Tryz.f7.params[j]? = some t → args[j]? = some v → Value.okWide Tryz.prog W .any base t v := hval0
  have hW' := hW
  obtain ⟨p, q, hA0, hV, rfl, _, _⟩ := hW
  have hA : DataW.TrodAll enc Tryz.prog W 0 (fun _ => true) true Tryz.f7.params.toList args.toList ds p := hA0
  rw [Tryz.params7] at hA hval
  obtain ⟨v0, v1, d0, d1, p0, p1, rfl, rfl, rfl, h0, h1⟩ := trodAll_two hA
  obtain ⟨rfl, rfl⟩ := trodVars_none hV
  obtain ⟨x0, rfl, rfl, rfl, wx0⟩ := open_int Tryz.underlying53 (hval 0 53 v0 rfl rfl) h0
  obtain ⟨x1, rfl, rfl, rfl⟩ := open_bool Tryz.underlying4 (hval 1 4 v1 rfl rfl) h1
  have ht := tb_of_laid hL
  clear hA0 hval0
  simp only [List.append_nil] at hW'
  refine Calls.mono (deep_law x0 (by have h := wx0; simp only [Lit.wf, Bool.and_eq_true, decide_eq_true_eq] at h; have e1 : IntKind.i8.min = -128 := (by decide); omega) (by have h := wx0; simp only [Lit.wf, Bool.and_eq_true, decide_eq_true_eq] at h; have e2 : IntKind.i8.max = 127 := (by decide); omega) x1 W ⟨ht, ht.lt, cell_of_shapedOpen_int hsh (zero := #[.int .i64 0]) (g := 2) (t := 3) (by decide) (by kernel_rfl) rfl (by kernel_rfl) (by kernel_rfl) Tryz.underlying3⟩ (size_of_shaped hsh (g := 3) (by decide) (by kernel_rfl))) fun e W' ⟨v, he, hv, hx⟩ => ?_
  subst he; subst hv
  exact ⟨_, rfl, post_ext (pa := []) (pv := []) hW' (fun _ _ _ => trodAll_mk1 (shut_bool Tryz.underlying4 _)) (fun sp _ => trodAll_mk2 (shut_int Tryz.underlying53 wx0) (shut_bool Tryz.underlying4 x1)) (fun _ _ => rfl) rfl (below_ext hx)⟩
theorem parseDeep_holds : Rows.ParseDeepSaid :=
  OpenClaim.holds_of_wide 7 Tryz.f7 rfl rfl rfl rfl rfl rfl rfl ⟨rfl, rfl, rfl, rfl, rfl⟩ rfl rfl rfl rfl rfl (by kernel_rfl) Tryz.func7 (by kernel_rfl)
    (of_decide_eq_true (by kernel_rfl)) (by unfold Func.isWrapper; first | (rw [if_pos (by decide +kernel)]; kernel_rfl) | (rw [if_neg (by decide +kernel)]; exact ⟨rfl, rfl⟩))
    (fun os started H enc _ => parseDeep_lifted os started H enc)
end Go.Proofs.YtaniogadknakoaaGreatDoor
end

section
namespace Go.Proofs.YtaniogadknakoaaGreatDoor
open Go
theorem parseDeep_card : Rows.ParseDeepCardSaid :=
  Claim7.holds_tied_plain_at .later [] [.listed, .data] true (true, "a9064e2a442c3b536780d827cf246cb9ffd59ece4e9a70045f3d8d8099ffcaba") true
    parseDeep_holds (fun _ h => by cases h) (by kernel_rfl) (fun _ h => by cases h) parseDeep_row_tie rfl ⟨rfl, rfl⟩ (by kernel_rfl) rfl
    (fun f fn hf hfn => by
      obtain rfl : f = 7 := Option.some.inj ((show Tryz.prog.funcNamed "stepstone/stepstonelaw13.ParseDeep" = some 7 by kernel_rfl).symm.trans hf) |>.symm
      obtain rfl : fn = Tryz.f7 := (Option.some.inj (Tryz.func7.symm.trans hfn)).symm
      exact ⟨by kernel_rfl, fun j t ht => by
        rw [Tryz.params7] at ht
        rcases j with _ | _ | j
        · obtain rfl : t = 53 := by simpa using ht.symm
          exact (show Tryz.prog.wantsStandIn 53 = false by kernel_rfl)
        · obtain rfl : t = 4 := by simpa using ht.symm
          exact (show Tryz.prog.wantsStandIn 4 = false by kernel_rfl)
        · simp at ht⟩)
    (by kernel_rfl)
end Go.Proofs.YtaniogadknakoaaGreatDoor
end
