/- Layer 13, ParseReads. Part 16 of 16. -/
import Derived.Test.YtaniogadknakoaaGreatDoorR15
import Derived.HandedShaped
import Derived.Handed
import Derived.Test.YtaniogadknakoaaGreatDoorRows
import Derived.Deep.DeepHandedRow
import Derived.ProofKit
import Derived.LaidMore
import Derived.OpenShut
import Derived.Shelf.Vars
import Derived.Stop.Joined
import Derived.Test.YtaniogadknakoaaGreatDoorTie
import Derived.Test.YtaniogadknakoaaGreatDoorCards
import Derived.SevenTiedAt
set_option maxRecDepth 100000
set_option maxHeartbeats 16000000
section
namespace Go.Proofs.YtaniogadknakoaaGreatDoor
open Go.RowKit Go.Sx
open Go.Tok Go.Tree

def SameAtH (n : Nat) : Prop := ∀ (l : List Ex) (a b : Option Addr) (c d : Nat) (N : Nat → Prop) (w : World), exsW l < n → l.length ≤ 10000000 → exsM w N l a 0 → exsM w N l b 0 → Ret Tryz.prog 15 #[.slice a l.length c, .slice b l.length d] w fun v w' => v = .bool true ∧ Ext w w'
def SameStH (n : Nat) : Prop := ∀ (l : List Sm) (a b : Option Addr) (c d : Nat) (N : Nat → Prop) (w : World), smsW l < n → l.length ≤ 10000000 → smsM w N l a 0 → smsM w N l b 0 → Ret Tryz.prog 32 #[.slice a l.length c, .slice b l.length d] w fun v w' => v = .bool true ∧ Ext w w'

theorem sameAt_step (n : Nat) (ih : SameAtH n) (hN : n ≤ 10000000) (l : List Ex) (a b : Option Addr) (c d : Nat) (N : Nat → Prop) (w : World) (hl : exsW l < n + 1) (hll : l.length ≤ 10000000) (hm : exsM w N l a 0) (hm2 : exsM w N l b 0) :
    Ret Tryz.prog 15 #[.slice a l.length c, .slice b l.length d] w (fun v w' => v = .bool true ∧ Ext w w') := by
  refine enter (S := No) (l := [_, _]) (L := []) 68 Tryz.func15 rfl rfl rfl (St.start w No) (yA (aB rfl (yB (zq (yA (mS rfl (zg (fun _ => R_len sl37 rfl) (mS rfl (zg (fun _ => R_len sl37 rfl) (zg (fun _ => R_ne rfl rfl) (yB ?_))))))))))); refine zD rfl (fun h1 => ?_) (fun h1 => ?_)
  · exact absurd rfl h1
  · refine zi (zk (zq (yA (aI rfl (yB (zB (c_loop (fun m e B L => ∃ (k : Nat), e 0 = .slice a l.length c ∧ e 1 = .slice b l.length d ∧ e 5 = .int .i64 (k : Nat) ∧ B = [(w, No)] ∧ L = [] ∧ k ≤ l.length ∧ m = l.length - k) _ ⟨0, rfl, rfl, rfl, rfl, rfl, Nat.zero_le _, rfl⟩ ?_)))))))
    rintro m e B L ⟨k, e0_1, e1_1, e5_1, rfl, rfl, hk, rfl⟩
    refine zq (yA (mI e5_1 (mS e0_1 (zg (fun _ => R_len sl37 rfl) (zg (fun _ => R_lt rfl rfl) (yB ?_)))))); refine zD rfl (fun h2 => ?_) (fun h2 => ?_)
    · have hlt : k < l.length := (by omega); obtain ⟨x, hxk⟩ : ∃ x, l[k]? = some x := ⟨_, List.getElem?_eq_getElem hlt⟩; obtain ⟨cs, hA, hE⟩ := hm.get0 hxk; obtain ⟨ds, hA2, hE2⟩ := hm2.get0 hxk; obtain ⟨b1, o1, rfl⟩ := hA.ptr; obtain ⟨b3, o3, rfl⟩ := hA2.ptr; have hEx := hE; have hEz := hE2; have hxn := exsW_mem (List.mem_of_getElem? hxk); obtain ⟨op, at_, nm, ks⟩ := x; unfold exM at hEx hEz; obtain ⟨ka, kc, rfl, hkc, hks⟩ := hEx; obtain ⟨ka2, kc2, rfl, hkc2, hks2⟩ := hEz; unfold exW at hxn
      refine zi (zk (zq (zB (zq (c_draw mixed (by kernel_rfl) (mS e0_1 (mI e5_1 (zg (fun _ => R_iaN (i := k) sl37 rfl rfl (by omega)) (zf fa39_0 rfl (zl z5 rfl (fun _ h => hA.cell (fun _ _ hh => hh) zm0 h 0 _ rfl) (mS e1_1 (mI e5_1 (zg (fun _ => R_iaN (i := k) sl37 rfl rfl (by omega)) (zf fa39_0 rfl (zl z5 rfl (fun _ h => hA2.cell (fun _ _ hh => hh) zm0 h 0 _ rfl) (zg (fun _ => R_ne rfl rfl) (mB rfl ?_))))))))))))))))); refine zd (t := 28) rfl (fun h3 => ?_) (fun h3 => ?_)
      · exact absurd rfl h3
      · refine zw rfl rfl (bF h3) (mS e0_1 (zw rfl rfl (bF h3) (mI e5_1 (zw rfl rfl (bF h3) (zg (fun _ => R_iaN (i := k) sl37 rfl rfl (by omega)) (zw rfl rfl (bF h3) (zf fa39_1 rfl (zw rfl rfl (bF h3) (zl z3 rfl (fun _ h => hA.cell (fun _ _ hh => hh) zm0 h 1 _ rfl) (zw rfl rfl (bF h3) (mS e1_1 (zw rfl rfl (bF h3) (mI e5_1 (zw rfl rfl (bF h3) (zg (fun _ => R_iaN (i := k) sl37 rfl rfl (by omega)) (zw rfl rfl (bF h3) (zf fa39_1 rfl (zw rfl rfl (bF h3) (zl z3 rfl (fun _ h => hA2.cell (fun _ _ hh => hh) zm0 h 1 _ rfl) (zw rfl rfl (bF h3) (zg (fun _ => R_ne rfl rfl) (zg (v := .bool _) (fun _ => zF (bF h3) rfl) (mB rfl ?_))))))))))))))))))))))); refine zd (t := 41) rfl (fun h4 => ?_) (fun h4 => ?_)
        · exact absurd rfl h4
        · refine zw rfl rfl (bF h4) (mS e0_1 (zw rfl rfl (bF h4) (mI e5_1 (zw rfl rfl (bF h4) (zg (fun _ => R_iaN (i := k) sl37 rfl rfl (by omega)) (zw rfl rfl (bF h4) (zf fa39_2 rfl (zw rfl rfl (bF h4) (zl z9 rfl (fun _ h => hA.cell (fun _ _ hh => hh) zm0 h 2 _ rfl) (zw rfl rfl (bF h4) (mS e1_1 (zw rfl rfl (bF h4) (mI e5_1 (zw rfl rfl (bF h4) (zg (fun _ => R_iaN (i := k) sl37 rfl rfl (by omega)) (zw rfl rfl (bF h4) (zf fa39_2 rfl (zw rfl rfl (bF h4) (zl z9 rfl (fun _ h => hA2.cell (fun _ _ hh => hh) zm0 h 2 _ rfl) (zw rfl rfl (bF h4) (zg (fun _ => R_sne rfl rfl) (zg (v := .bool _) (fun _ => zF (bF h4) rfl) (mB rfl ?_))))))))))))))))))))))); refine zd (t := 54) rfl (fun h5 => ?_) (fun h5 => ?_)
          · exact absurd rfl h5
          · refine zw rfl rfl (bF h5) (mS e0_1 (zw rfl rfl (bF h5) (mI e5_1 (zw rfl rfl (bF h5) (zg (fun _ => R_iaN (i := k) sl37 rfl rfl (by omega)) (zw rfl rfl (bF h5) (zf fa39_3 rfl (zw rfl rfl (bF h5) (zl z37 rfl (fun _ h => hA.cell (fun _ _ hh => hh) zm0 h 3 _ rfl) (zw rfl rfl (bF h5) (mS e1_1 (zw rfl rfl (bF h5) (mI e5_1 (zw rfl rfl (bF h5) (zg (fun _ => R_iaN (i := k) sl37 rfl rfl (by omega)) (zw rfl rfl (bF h5) (zf fa39_3 rfl (zw rfl rfl (bF h5) (zl z37 rfl (fun _ h => hA2.cell (fun _ _ hh => hh) zm0 h 3 _ rfl) (zw rfl rfl (bF h5) (zC (fun w => zR Tryz.func15 rfl rfl rfl) rfl rfl (fun w h => ih ks ka ka2 kc kc2 N w (by omega) (by omega) (hks.now (fun _ _ hh => hh) zm0 h) (hks2.now (fun _ _ hh => hh) zm0 h)) (zw rfl rfl (bF h5) (zg (fun _ => R_not rfl) (zg (v := .bool _) (fun _ => zF (bF h5) rfl) (yB (zG rfl (zi (zO (zk (zr (mI e5_1 (zg (fun _ => R_addi rfl rfl (by omega)) (aI rfl (zn ?_)))))))))))))))))))))))))))))))))); exact k_again _ (by omega) ⟨k + 1, e0_1, e1_1, rfl, rfl, rfl, by omega, rfl⟩
    · refine zX (zx (zx (b_here rfl (zk (yA (aB rfl (yB (ze (zo (v := .bool _) rfl rfl rfl ?_))))))))); exact fun w' hw => ⟨rfl, hw.fr _ zm0⟩

theorem sameAt_all : ∀ n : Nat, n ≤ 10000000 → SameAtH n
  | 0, _ => fun _ _ _ _ _ _ _ h => absurd h (Nat.not_lt_zero _)
  | n + 1, h => sameAt_step n (sameAt_all n (by omega)) (by omega)
theorem sameAt_ok : SameAtH 10000000 := sameAt_all _ (Nat.le_refl _)

theorem sameSt_step (n : Nat) (ih : SameStH n) (hN : n ≤ 10000000) (l : List Sm) (a b : Option Addr) (c d : Nat) (N : Nat → Prop) (w : World) (hl : smsW l < n + 1) (hll : l.length ≤ 10000000) (hm : smsM w N l a 0) (hm2 : smsM w N l b 0) :
    Ret Tryz.prog 32 #[.slice a l.length c, .slice b l.length d] w (fun v w' => v = .bool true ∧ Ext w w') := by
  refine enter (S := No) (l := [_, _]) (L := []) 96 Tryz.func32 rfl rfl rfl (St.start w No) (yA (aB rfl (yB (zq (yA (mS rfl (zg (fun _ => R_len sl24 rfl) (mS rfl (zg (fun _ => R_len sl24 rfl) (zg (fun _ => R_ne rfl rfl) (yB ?_))))))))))); refine zD rfl (fun h1 => ?_) (fun h1 => ?_)
  · exact absurd rfl h1
  · refine zi (zk (zq (yA (aI rfl (yB (zB (c_loop (fun m e B L => ∃ (k : Nat), e 0 = .slice a l.length c ∧ e 1 = .slice b l.length d ∧ e 5 = .int .i64 (k : Nat) ∧ B = [(w, No)] ∧ L = [] ∧ k ≤ l.length ∧ m = l.length - k) _ ⟨0, rfl, rfl, rfl, rfl, rfl, Nat.zero_le _, rfl⟩ ?_)))))))
    rintro m e B L ⟨k, e0_1, e1_1, e5_1, rfl, rfl, hk, rfl⟩
    refine zq (yA (mI e5_1 (mS e0_1 (zg (fun _ => R_len sl24 rfl) (zg (fun _ => R_lt rfl rfl) (yB ?_)))))); refine zD rfl (fun h2 => ?_) (fun h2 => ?_)
    · have hlt : k < l.length := (by omega); obtain ⟨x, hxk⟩ : ∃ x, l[k]? = some x := ⟨_, List.getElem?_eq_getElem hlt⟩; obtain ⟨cs, hA, hE⟩ := hm.get0 hxk; obtain ⟨ds, hA2, hE2⟩ := hm2.get0 hxk; obtain ⟨b1, o1, rfl⟩ := hA.ptr; obtain ⟨b3, o3, rfl⟩ := hA2.ptr; have hEx := hE; have hEz := hE2; have hxn := smsW_mem (List.mem_of_getElem? hxk); obtain ⟨op, at_, nm, ks, bo, el⟩ := x; unfold smM at hEx hEz; obtain ⟨ka, kc, ba, bc, ea, ec, rfl, hkc, hks, hbo, hel⟩ := hEx; obtain ⟨ka2, kc2, ba2, bc2, ea2, ec2, rfl, hkc2, hks2, hbo2, hel2⟩ := hEz; unfold smW at hxn
      refine zi (zk (zq (zB (zq (c_draw mixed (by kernel_rfl) (mS e0_1 (mI e5_1 (zg (fun _ => R_iaN (i := k) sl24 rfl rfl (by omega)) (zf fa76_0 rfl (zl z5 rfl (fun _ h => hA.cell (fun _ _ hh => hh) zm0 h 0 _ rfl) (mS e1_1 (mI e5_1 (zg (fun _ => R_iaN (i := k) sl24 rfl rfl (by omega)) (zf fa76_0 rfl (zl z5 rfl (fun _ h => hA2.cell (fun _ _ hh => hh) zm0 h 0 _ rfl) (zg (fun _ => R_ne rfl rfl) (mB rfl ?_))))))))))))))))); refine zd (t := 28) rfl (fun h3 => ?_) (fun h3 => ?_)
      · exact absurd rfl h3
      · refine zw rfl rfl (bF h3) (mS e0_1 (zw rfl rfl (bF h3) (mI e5_1 (zw rfl rfl (bF h3) (zg (fun _ => R_iaN (i := k) sl24 rfl rfl (by omega)) (zw rfl rfl (bF h3) (zf fa76_1 rfl (zw rfl rfl (bF h3) (zl z3 rfl (fun _ h => hA.cell (fun _ _ hh => hh) zm0 h 1 _ rfl) (zw rfl rfl (bF h3) (mS e1_1 (zw rfl rfl (bF h3) (mI e5_1 (zw rfl rfl (bF h3) (zg (fun _ => R_iaN (i := k) sl24 rfl rfl (by omega)) (zw rfl rfl (bF h3) (zf fa76_1 rfl (zw rfl rfl (bF h3) (zl z3 rfl (fun _ h => hA2.cell (fun _ _ hh => hh) zm0 h 1 _ rfl) (zw rfl rfl (bF h3) (zg (fun _ => R_ne rfl rfl) (zg (v := .bool _) (fun _ => zF (bF h3) rfl) (mB rfl ?_))))))))))))))))))))))); refine zd (t := 41) rfl (fun h4 => ?_) (fun h4 => ?_)
        · exact absurd rfl h4
        · refine zw rfl rfl (bF h4) (mS e0_1 (zw rfl rfl (bF h4) (mI e5_1 (zw rfl rfl (bF h4) (zg (fun _ => R_iaN (i := k) sl24 rfl rfl (by omega)) (zw rfl rfl (bF h4) (zf fa76_2 rfl (zw rfl rfl (bF h4) (zl z9 rfl (fun _ h => hA.cell (fun _ _ hh => hh) zm0 h 2 _ rfl) (zw rfl rfl (bF h4) (mS e1_1 (zw rfl rfl (bF h4) (mI e5_1 (zw rfl rfl (bF h4) (zg (fun _ => R_iaN (i := k) sl24 rfl rfl (by omega)) (zw rfl rfl (bF h4) (zf fa76_2 rfl (zw rfl rfl (bF h4) (zl z9 rfl (fun _ h => hA2.cell (fun _ _ hh => hh) zm0 h 2 _ rfl) (zw rfl rfl (bF h4) (zg (fun _ => R_sne rfl rfl) (zg (v := .bool _) (fun _ => zF (bF h4) rfl) (mB rfl ?_))))))))))))))))))))))); refine zd (t := 54) rfl (fun h5 => ?_) (fun h5 => ?_)
          · exact absurd rfl h5
          · refine zw rfl rfl (bF h5) (mS e0_1 (zw rfl rfl (bF h5) (mI e5_1 (zw rfl rfl (bF h5) (zg (fun _ => R_iaN (i := k) sl24 rfl rfl (by omega)) (zw rfl rfl (bF h5) (zf fa76_3 rfl (zw rfl rfl (bF h5) (zl z37 rfl (fun _ h => hA.cell (fun _ _ hh => hh) zm0 h 3 _ rfl) (zw rfl rfl (bF h5) (mS e1_1 (zw rfl rfl (bF h5) (mI e5_1 (zw rfl rfl (bF h5) (zg (fun _ => R_iaN (i := k) sl24 rfl rfl (by omega)) (zw rfl rfl (bF h5) (zf fa76_3 rfl (zw rfl rfl (bF h5) (zl z37 rfl (fun _ h => hA2.cell (fun _ _ hh => hh) zm0 h 3 _ rfl) (zw rfl rfl (bF h5) (zC (fun w => zR Tryz.func15 rfl rfl rfl) rfl rfl (fun w h => sameAt_ok ks ka ka2 kc kc2 N w (by omega) (by omega) (hks.now (fun _ _ hh => hh) zm0 h) (hks2.now (fun _ _ hh => hh) zm0 h)) (zw rfl rfl (bF h5) (zg (fun _ => R_not rfl) (zg (v := .bool _) (fun _ => zF (bF h5) rfl) (mB rfl (zw rfl rfl rfl (mS e0_1 (zw rfl rfl rfl (mI e5_1 (zw rfl rfl rfl (zg (fun _ => R_iaN (i := k) sl24 rfl rfl (by omega)) (zw rfl rfl rfl (zf fa76_4 rfl (zw rfl rfl rfl (zl z24 rfl (fun _ h => hA.cell (fun _ _ hh => hh) zm0 h 4 _ rfl) (zw rfl rfl rfl (mS e1_1 (zw rfl rfl rfl (mI e5_1 (zw rfl rfl rfl (zg (fun _ => R_iaN (i := k) sl24 rfl rfl (by omega)) (zw rfl rfl rfl (zf fa76_4 rfl (zw rfl rfl rfl (zl z24 rfl (fun _ h => hA2.cell (fun _ _ hh => hh) zm0 h 4 _ rfl) (zw rfl rfl rfl (zC (fun w => zR Tryz.func32 rfl rfl rfl) rfl rfl (fun w h => ih bo ba ba2 bc bc2 N w (by omega) (by omega) (hbo.now (fun _ _ hh => hh) zm0 h) (hbo2.now (fun _ _ hh => hh) zm0 h)) (zw rfl rfl rfl (zg (fun _ => R_not rfl) (zg (v := .bool _) (fun _ => zF rfl rfl) (mB rfl (zw rfl rfl rfl (mS e0_1 (zw rfl rfl rfl (mI e5_1 (zw rfl rfl rfl (zg (fun _ => R_iaN (i := k) sl24 rfl rfl (by omega)) (zw rfl rfl rfl (zf fa76_5 rfl ?_)))))))))))))))))))))))))))))))))))))))))))))))))))))))))))
            refine zw rfl rfl rfl (zl z24 rfl (fun _ h => hA.cell (fun _ _ hh => hh) zm0 h 5 _ rfl) (zw rfl rfl rfl (mS e1_1 (zw rfl rfl rfl (mI e5_1 (zw rfl rfl rfl (zg (fun _ => R_iaN (i := k) sl24 rfl rfl (by omega)) (zw rfl rfl rfl (zf fa76_5 rfl (zw rfl rfl rfl (zl z24 rfl (fun _ h => hA2.cell (fun _ _ hh => hh) zm0 h 5 _ rfl) (zw rfl rfl rfl (zC (fun w => zR Tryz.func32 rfl rfl rfl) rfl rfl (fun w h => ih el ea ea2 ec ec2 N w (by omega) (by omega) (hel.now (fun _ _ hh => hh) zm0 h) (hel2.now (fun _ _ hh => hh) zm0 h)) (zw rfl rfl rfl (zg (fun _ => R_not rfl) (zg (v := .bool _) (fun _ => zF rfl rfl) (yB (zG rfl (zi (zO (zk (zr (mI e5_1 (zg (fun _ => R_addi rfl rfl (by omega)) (aI rfl (zn ?_)))))))))))))))))))))))))); exact k_again _ (by omega) ⟨k + 1, e0_1, e1_1, rfl, rfl, rfl, by omega, rfl⟩
    · refine zX (zx (zx (b_here rfl (zk (yA (aB rfl (yB (ze (zo (v := .bool _) rfl rfl rfl ?_))))))))); exact fun w' hw => ⟨rfl, hw.fr _ zm0⟩

theorem sameSt_all : ∀ n : Nat, n ≤ 10000000 → SameStH n
  | 0, _ => fun _ _ _ _ _ _ _ h => absurd h (Nat.not_lt_zero _)
  | n + 1, h => sameSt_step n (sameSt_all n (by omega)) (by omega)
theorem sameSt_ok : SameStH 10000000 := sameSt_all _ (Nat.le_refl _)

theorem sameR_spec (pg : List Bk) (cs ds : List Value) (N : Nat → Prop) (w : World) (hp : ∀ b ∈ pg, bkW b < 10000000) (hm : pgM w N pg cs) (hm2 : pgM w N pg ds) :
    Ret Tryz.prog 12 #[.agg cs.toArray, .agg ds.toArray] w (fun v w' => v = .bool true ∧ Ext w w') := by
  refine enter (S := No) (l := [_, _]) (L := []) 113 Tryz.func12 rfl rfl rfl (St.start w No) (yA (w_boxA rfl (fun t2b gt2b ut2b => w_boxA rfl (fun t3b gt3b ut3b => aB rfl (yB (zq (yA (aI rfl (yB (zB (c_loop (fun m e B L => ∃ (i : Nat), e 2 = .pointer (some ⟨t2b, 0, none⟩) ∧ e 3 = .pointer (some ⟨t3b, 0, none⟩) ∧ e 5 = .int .i64 (i : Nat) ∧ B = [(w, No)] ∧ L = [(t3b, cel ds 29), (t2b, cel cs 29)] ∧ i ≤ 6 ∧ m = 6 - i) _ ⟨0, rfl, rfl, rfl, rfl, rfl, Nat.zero_le _, rfl⟩ ?_)))))))))))
  rintro m e B L ⟨i, e2_1, e3_1, e5_1, rfl, rfl, hi, rfl⟩
  refine zq (yA (mI e5_1 (zg (fun _ => R_lt rfl rfl) (yB ?_)))); refine zD rfl (fun h3 => ?_) (fun h3 => ?_)
  · have hi6 : i < 6 := (by omega); obtain ⟨b, hb⟩ : ∃ b, pg[i]? = some b := ⟨_, List.getElem?_eq_getElem (by rw [hm.six]; exact hi6)⟩; obtain ⟨da, dc, sa, sc, hcb, hds, hss⟩ := hm.one i b hb; obtain ⟨da2, dc2, sa2, sc2, hcb2, hds2, hss2⟩ := hm2.one i b hb; have hbw := hp b (List.mem_of_getElem? hb); have hsw := hbw; unfold bkW at hbw
    refine zi (zk (zq (zB ?_))); refine c_cut (fun e B L => ∃ (t6b t7b : Nat), e 2 = .pointer (some ⟨t2b, 0, none⟩) ∧ e 3 = .pointer (some ⟨t3b, 0, none⟩) ∧ e 5 = .int .i64 (i : Nat) ∧ e 6 = .pointer (some ⟨t6b, 0, none⟩) ∧ e 7 = .pointer (some ⟨t7b, 0, none⟩) ∧ B = [(w, No)] ∧ L = (t7b, cel [.bool b.is, .slice da2 b.decls.length dc2, .slice sa2 b.stmts.length sc2] 26) :: (t6b, cel [.bool b.is, .slice da b.decls.length dc, .slice sa b.stmts.length sc] 26) :: [(t3b, cel ds 29), (t2b, cel cs 29)]) ?_ ?_
    · refine c_held (St [(w, No)] [(t3b, cel ds 29), (t2b, cel cs 29)]) mixed (zh2 0 rfl rfl (fun w h => h.drop ((List.Sublist.refl _))) (fun w h => R_move e5_1) (zh2 1 rfl rfl (fun w h => h.drop ((List.Sublist.refl _))) (fun w h => R_fa fa29_0 e2_1) (zh2 2 rfl rfl (fun w h => h.drop ((List.Sublist.refl _))) (fun w h => R_iaA (i := i) ara27 (by decide) rfl rfl (by omega)) (zh2 3 rfl rfl (fun w h => h.drop ((List.Sublist.refl _))) (fun w h => R_ldA (l := [.bool b.is, .slice da b.decls.length dc, .slice sa b.stmts.length sc]) z26 rfl rfl (fun j v hj => zc 1 rfl (sub_get hcb hj) h)) (zh2 4 rfl rfl (fun w h => h.drop ((List.Sublist.refl _))) (fun w h => R_move e5_1) (zh2 5 rfl rfl (fun w h => h.drop ((List.Sublist.refl _))) (fun w h => R_fa fa29_0 e3_1) (zh2 6 rfl rfl (fun w h => h.drop ((List.Sublist.refl _))) (fun w h => R_iaA (i := i) ara27 (by decide) rfl rfl (by omega)) (zh2 7 rfl rfl (fun w h => h.drop ((List.Sublist.refl _))) (fun w h => R_ldA (l := [.bool b.is, .slice da2 b.decls.length dc2, .slice sa2 b.stmts.length sc2]) z26 rfl rfl (fun j v hj => zc 0 rfl (sub_get hcb2 hj) h)) ?_)))))))); refine h_two 8 9 (by kernel_rfl) (fun w h => h.drop ((List.Sublist.refl _))) ?_ ?_
      · refine o_alloc rfl zr26 (fun t6b gt6b ut6b => zH2 9 (fun w h => h.drop (.cons _ ((List.Sublist.refl _)))) (o_alloc rfl zr26 (fun t7b gt7b ut7b => zH2 10 (fun w h => h.drop (.cons _ (.cons _ ((List.Sublist.refl _))))) (zJ 1 rfl rfl z26 rfl rfl rfl rfl rfl rfl rfl (zH2 11 (fun w h => h.drop (.cons _ (.cons _ ((List.Sublist.refl _))))) (zJ 0 rfl rfl z26 rfl rfl rfl rfl rfl rfl rfl (zN2 (fun w h => h.drop (.cons _ (.cons _ ((List.Sublist.refl _))))) ?_))))))); exact k_mid ⟨t6b, t7b, e2_1, e3_1, e5_1, rfl, rfl, rfl, rfl⟩
      · refine o_alloc rfl zr26 (fun t7b gt7b ut7b => zH2 8 (fun w h => h.drop (.cons _ ((List.Sublist.refl _)))) (o_alloc rfl zr26 (fun t6b gt6b ut6b => zH2 10 (fun w h => h.drop (.cons _ (.cons _ ((List.Sublist.refl _))))) (zJ 0 rfl rfl z26 rfl rfl rfl rfl rfl rfl rfl (zH2 11 (fun w h => h.drop (.cons _ (.cons _ ((List.Sublist.refl _))))) (zJ 1 rfl rfl z26 rfl rfl rfl rfl rfl rfl rfl (zN2 (fun w h => h.drop (.cons _ (.cons _ ((List.Sublist.refl _))))) (zK (B' := [(w, No)]) (L' := (t7b, cel [.bool b.is, .slice da2 b.decls.length dc2, .slice sa2 b.stmts.length sc2] 26) :: (t6b, cel [.bool b.is, .slice da b.decls.length dc, .slice sa b.stmts.length sc] 26) :: [(t3b, cel ds 29), (t2b, cel cs 29)]) (fun w h => h.perm (List.Perm.swap _ _ _)) ?_)))))))); exact k_mid ⟨t6b, t7b, e2_1, e3_1, e5_1, rfl, rfl, rfl, rfl⟩
    rintro e B L ⟨t6b, t7b, e2_2, e3_2, e5_2, e6_2, e7_2, rfl, rfl⟩
    refine zq (yA (zf fa26_0 e6_2 (zL 1 z4 rfl rfl rfl (zf fa26_0 e7_2 (zL 0 z4 rfl rfl rfl (zg (fun _ => R_bne unb4 rfl rfl) (mB rfl ?_))))))); refine zp (t := 28) rfl (fun h4 => ?_) (fun h4 => ?_)
    · (simp at h4)
    · refine zw rfl rfl (bV h4) (zf fa26_1 e6_2 (zw rfl rfl (bV h4) (zL 1 z23 rfl rfl rfl (zw rfl rfl (bV h4) (zg (fun _ => R_len sl23 rfl) (zw rfl rfl (bV h4) (zf fa26_1 e7_2 (zw rfl rfl (bV h4) (zL 0 z23 rfl rfl rfl (zw rfl rfl (bV h4) (zg (fun _ => R_len sl23 rfl) (zw rfl rfl (bV h4) (zg (fun _ => R_ne rfl rfl) (zg (v := .bool _) (fun _ => zF (bV h4) rfl) (mB rfl ?_))))))))))))))); refine zd (t := 37) rfl (fun h5 => ?_) (fun h5 => ?_)
      · exact absurd rfl h5
      · refine zw rfl rfl (bF h5) (zf fa26_2 e6_2 (zw rfl rfl (bF h5) (zL 1 z24 rfl rfl rfl (zw rfl rfl (bF h5) (zf fa26_2 e7_2 (zw rfl rfl (bF h5) (zL 0 z24 rfl rfl rfl (zw rfl rfl (bF h5) (zC (fun w => zR Tryz.func32 rfl rfl rfl) rfl rfl (fun w h => sameSt_ok b.stmts sa sa2 sc sc2 N w (by omega) (by omega) (hss.now (fun _ _ hh => hh) zm0 h) (hss2.now (fun _ _ hh => hh) zm0 h)) (zw rfl rfl (bF h5) (zg (fun _ => R_not rfl) (zg (v := .bool _) (fun _ => zF (bF h5) rfl) (yB (zG rfl (zi (zk (yA (aI rfl (zn (zk (zB (c_loop (fun m e B L => ∃ (k : Nat), e 2 = .pointer (some ⟨t2b, 0, none⟩) ∧ e 3 = .pointer (some ⟨t3b, 0, none⟩) ∧ e 5 = .int .i64 (i : Nat) ∧ e 6 = .pointer (some ⟨t6b, 0, none⟩) ∧ e 7 = .pointer (some ⟨t7b, 0, none⟩) ∧ e 8 = .int .i64 (k : Nat) ∧ B = [(w, No)] ∧ L = [(t7b, cel [.bool b.is, .slice da2 b.decls.length dc2, .slice sa2 b.stmts.length sc2] 26), (t6b, cel [.bool b.is, .slice da b.decls.length dc, .slice sa b.stmts.length sc] 26), (t3b, cel ds 29), (t2b, cel cs 29)] ∧ k ≤ b.decls.length ∧ m = b.decls.length - k) _ ⟨0, e2_2, e3_2, e5_2, e6_2, e7_2, rfl, rfl, rfl, Nat.zero_le _, rfl⟩ ?_))))))))))))))))))))))
        rintro m e B L ⟨k, e2_3, e3_3, e5_3, e6_3, e7_3, e8_3, rfl, rfl, hk, rfl⟩
        refine zq (yA (mI e8_3 (zf fa26_1 e6_3 (zL 1 z23 rfl rfl rfl (zg (fun _ => R_len sl23 rfl) (zg (fun _ => R_lt rfl rfl) (yB ?_))))))); refine zD rfl (fun h6 => ?_) (fun h6 => ?_)
        · have hlt : k < b.decls.length := (by omega); obtain ⟨x, hxk⟩ : ∃ x, b.decls[k]? = some x := ⟨_, List.getElem?_eq_getElem hlt⟩; obtain ⟨es, hA, hE⟩ := hds k x hxk; obtain ⟨fs, hA2, hE2⟩ := hds2 k x hxk; have hxn := dcsW_mem (List.mem_of_getElem? hxk); obtain ⟨b1, o1, rfl⟩ := hA.ptr; obtain ⟨b3, o3, rfl⟩ := hA2.ptr; have hEx := hE; have hEz := hE2; obtain ⟨ty, at_, nm, sz, lo, up, ini⟩ := x; unfold dcM at hEx hEz; obtain ⟨xa, xc, la, lc, ua, uc, ia, ic, hes, hsz, hlo, hup, hini⟩ := hEx; obtain ⟨xa2, xc2, la2, lc2, ua2, uc2, ia2, ic2, hfs, hsz2, hlo2, hup2, hini2⟩ := hEz; simp only [] at hes hfs; subst hes; subst hfs; have hdw := hxn; unfold dcW at hdw; simp only [] at hdw
          refine zi (zk (zq (zB ?_)))
          refine c_cut (fun e B L => ∃ (t9b t10b : Nat), e 2 = .pointer (some ⟨t2b, 0, none⟩) ∧ e 3 = .pointer (some ⟨t3b, 0, none⟩) ∧ e 5 = .int .i64 (i : Nat) ∧ e 6 = .pointer (some ⟨t6b, 0, none⟩) ∧ e 7 = .pointer (some ⟨t7b, 0, none⟩) ∧ e 8 = .int .i64 (k : Nat) ∧ e 9 = .pointer (some ⟨t9b, 0, none⟩) ∧ e 10 = .pointer (some ⟨t10b, 0, none⟩) ∧ B = [(w, No)] ∧ L = (t10b, cel [.int .u8 (ty : Nat), .int .i64 at_, str nm, .slice xa2 sz.length xc2, .slice la2 lo.length lc2, .slice ua2 up.length uc2, .slice ia2 ini.length ic2] 46) :: (t9b, cel [.int .u8 (ty : Nat), .int .i64 at_, str nm, .slice xa sz.length xc, .slice la lo.length lc, .slice ua up.length uc, .slice ia ini.length ic] 46) :: [(t7b, cel [.bool b.is, .slice (some ⟨b3, o3, none⟩) b.decls.length dc2, .slice sa2 b.stmts.length sc2] 26), (t6b, cel [.bool b.is, .slice (some ⟨b1, o1, none⟩) b.decls.length dc, .slice sa b.stmts.length sc] 26), (t3b, cel ds 29), (t2b, cel cs 29)]) ?_ ?_
          · refine c_held (St [(w, No)] [(t7b, cel [.bool b.is, .slice (some ⟨b3, o3, none⟩) b.decls.length dc2, .slice sa2 b.stmts.length sc2] 26), (t6b, cel [.bool b.is, .slice (some ⟨b1, o1, none⟩) b.decls.length dc, .slice sa b.stmts.length sc] 26), (t3b, cel ds 29), (t2b, cel cs 29)]) mixed (zh2 0 rfl rfl (fun w h => h.drop ((List.Sublist.refl _))) (fun w h => R_fa fa26_1 e6_3) (zh2 1 rfl rfl (fun w h => h.drop ((List.Sublist.refl _))) (fun w h => R_ld1 z23 rfl (by exact zc 1 rfl rfl h)) (zh2 2 rfl rfl (fun w h => h.drop ((List.Sublist.refl _))) (fun w h => R_move e8_3) (zh2 3 rfl rfl (fun w h => h.drop ((List.Sublist.refl _))) (fun w h => R_iaN (i := k) sl23 rfl rfl (by omega)) (zh2 4 rfl rfl (fun w h => h.drop ((List.Sublist.refl _))) (fun w h => R_ldA (l := [.int .u8 (ty : Nat), .int .i64 at_, str nm, .slice xa sz.length xc, .slice la lo.length lc, .slice ua up.length uc, .slice ia ini.length ic]) z46 rfl rfl (fun j v hj => hA.cell (fun _ _ hh => hh) zm0 h j v hj)) (zh2 5 rfl rfl (fun w h => h.drop ((List.Sublist.refl _))) (fun w h => R_fa fa26_1 e7_3) (zh2 6 rfl rfl (fun w h => h.drop ((List.Sublist.refl _))) (fun w h => R_ld1 z23 rfl (by exact zc 0 rfl rfl h)) (zh2 7 rfl rfl (fun w h => h.drop ((List.Sublist.refl _))) (fun w h => R_move e8_3) (zh2 8 rfl rfl (fun w h => h.drop ((List.Sublist.refl _))) (fun w h => R_iaN (i := k) sl23 rfl rfl (by omega)) (zh2 9 rfl rfl (fun w h => h.drop ((List.Sublist.refl _))) (fun w h => R_ldA (l := [.int .u8 (ty : Nat), .int .i64 at_, str nm, .slice xa2 sz.length xc2, .slice la2 lo.length lc2, .slice ua2 up.length uc2, .slice ia2 ini.length ic2]) z46 rfl rfl (fun j v hj => hA2.cell (fun _ _ hh => hh) zm0 h j v hj)) ?_)))))))))); refine h_two 10 11 (by kernel_rfl) (fun w h => h.drop ((List.Sublist.refl _))) ?_ ?_
            · refine o_alloc rfl zr46 (fun t9b gt9b ut9b => zH2 11 (fun w h => h.drop (.cons _ ((List.Sublist.refl _)))) (o_alloc rfl zr46 (fun t10b gt10b ut10b => zH2 12 (fun w h => h.drop (.cons _ (.cons _ ((List.Sublist.refl _))))) (zJ 1 rfl rfl z46 rfl rfl rfl rfl rfl rfl rfl (zH2 13 (fun w h => h.drop (.cons _ (.cons _ ((List.Sublist.refl _))))) (zJ 0 rfl rfl z46 rfl rfl rfl rfl rfl rfl rfl (zN2 (fun w h => h.drop (.cons _ (.cons _ ((List.Sublist.refl _))))) ?_))))))); exact k_mid ⟨t9b, t10b, e2_3, e3_3, e5_3, e6_3, e7_3, e8_3, rfl, rfl, rfl, rfl⟩
            · refine o_alloc rfl zr46 (fun t10b gt10b ut10b => zH2 10 (fun w h => h.drop (.cons _ ((List.Sublist.refl _)))) (o_alloc rfl zr46 (fun t9b gt9b ut9b => zH2 12 (fun w h => h.drop (.cons _ (.cons _ ((List.Sublist.refl _))))) (zJ 0 rfl rfl z46 rfl rfl rfl rfl rfl rfl rfl (zH2 13 (fun w h => h.drop (.cons _ (.cons _ ((List.Sublist.refl _))))) (zJ 1 rfl rfl z46 rfl rfl rfl rfl rfl rfl rfl (zN2 (fun w h => h.drop (.cons _ (.cons _ ((List.Sublist.refl _))))) (zK (B' := [(w, No)]) (L' := (t10b, cel [.int .u8 (ty : Nat), .int .i64 at_, str nm, .slice xa2 sz.length xc2, .slice la2 lo.length lc2, .slice ua2 up.length uc2, .slice ia2 ini.length ic2] 46) :: (t9b, cel [.int .u8 (ty : Nat), .int .i64 at_, str nm, .slice xa sz.length xc, .slice la lo.length lc, .slice ua up.length uc, .slice ia ini.length ic] 46) :: [(t7b, cel [.bool b.is, .slice (some ⟨b3, o3, none⟩) b.decls.length dc2, .slice sa2 b.stmts.length sc2] 26), (t6b, cel [.bool b.is, .slice (some ⟨b1, o1, none⟩) b.decls.length dc, .slice sa b.stmts.length sc] 26), (t3b, cel ds 29), (t2b, cel cs 29)]) (fun w h => h.perm (List.Perm.swap _ _ _)) ?_)))))))); exact k_mid ⟨t9b, t10b, e2_3, e3_3, e5_3, e6_3, e7_3, e8_3, rfl, rfl, rfl, rfl⟩
          rintro e B L ⟨t9b, t10b, e2_4, e3_4, e5_4, e6_4, e7_4, e8_4, e9_4, e10_4, rfl, rfl⟩
          refine yA (zf fa46_0 e9_4 (zL 1 z5 rfl rfl rfl (zf fa46_0 e10_4 (zL 0 z5 rfl rfl rfl (zg (fun _ => R_ne rfl rfl) (mB rfl ?_)))))); refine zd (t := 67) rfl (fun h7 => ?_) (fun h7 => ?_)
          · exact absurd rfl h7
          · refine zw rfl rfl (bF h7) (zf fa46_1 e9_4 (zw rfl rfl (bF h7) (zL 1 z3 rfl rfl rfl (zw rfl rfl (bF h7) (zf fa46_1 e10_4 (zw rfl rfl (bF h7) (zL 0 z3 rfl rfl rfl (zw rfl rfl (bF h7) (zg (fun _ => R_ne rfl rfl) (zg (v := .bool _) (fun _ => zF (bF h7) rfl) (mB rfl ?_))))))))))); refine zd (t := 74) rfl (fun h8 => ?_) (fun h8 => ?_)
            · exact absurd rfl h8
            · refine zw rfl rfl (bF h8) (zf fa46_2 e9_4 (zw rfl rfl (bF h8) (zL 1 z9 rfl rfl rfl (zw rfl rfl (bF h8) (zf fa46_2 e10_4 (zw rfl rfl (bF h8) (zL 0 z9 rfl rfl rfl (zw rfl rfl (bF h8) (zg (fun _ => R_sne rfl rfl) (zg (v := .bool _) (fun _ => zF (bF h8) rfl) (mB rfl ?_))))))))))); refine zd (t := 81) rfl (fun h9 => ?_) (fun h9 => ?_)
              · exact absurd rfl h9
              · refine zw rfl rfl (bF h9) (zf fa46_3 e9_4 (zw rfl rfl (bF h9) (zL 1 z37 rfl rfl rfl (zw rfl rfl (bF h9) (zf fa46_3 e10_4 (zw rfl rfl (bF h9) (zL 0 z37 rfl rfl rfl (zw rfl rfl (bF h9) (zC (fun w => zR Tryz.func15 rfl rfl rfl) rfl rfl (fun w h => sameAt_ok sz xa xa2 xc xc2 N w (by omega) (by omega) (hsz.now (fun _ _ hh => hh) zm0 h) (hsz2.now (fun _ _ hh => hh) zm0 h)) (zw rfl rfl (bF h9) (zg (fun _ => R_not rfl) (zg (v := .bool _) (fun _ => zF (bF h9) rfl) (mB rfl (zw rfl rfl rfl (zf fa46_4 e9_4 (zw rfl rfl rfl (zL 1 z37 rfl rfl rfl (zw rfl rfl rfl (zf fa46_4 e10_4 (zw rfl rfl rfl (zL 0 z37 rfl rfl rfl (zw rfl rfl rfl (zC (fun w => zR Tryz.func15 rfl rfl rfl) rfl rfl (fun w h => sameAt_ok lo la la2 lc lc2 N w (by omega) (by omega) (hlo.now (fun _ _ hh => hh) zm0 h) (hlo2.now (fun _ _ hh => hh) zm0 h)) (zw rfl rfl rfl (zg (fun _ => R_not rfl) (zg (v := .bool _) (fun _ => zF rfl rfl) (mB rfl (zw rfl rfl rfl (zf fa46_5 e9_4 (zw rfl rfl rfl (zL 1 z37 rfl rfl rfl (zw rfl rfl rfl (zf fa46_5 e10_4 (zw rfl rfl rfl (zL 0 z37 rfl rfl rfl (zw rfl rfl rfl (zC (fun w => zR Tryz.func15 rfl rfl rfl) rfl rfl (fun w h => sameAt_ok up ua ua2 uc uc2 N w (by omega) (by omega) (hup.now (fun _ _ hh => hh) zm0 h) (hup2.now (fun _ _ hh => hh) zm0 h)) (zw rfl rfl rfl (zg (fun _ => R_not rfl) (zg (v := .bool _) (fun _ => zF rfl rfl) (mB rfl (zw rfl rfl rfl (zf fa46_6 e9_4 (zw rfl rfl rfl (zL 1 z37 rfl rfl rfl (zw rfl rfl rfl (zf fa46_6 e10_4 (zw rfl rfl rfl (zL 0 z37 rfl rfl rfl (zw rfl rfl rfl (zC (fun w => zR Tryz.func15 rfl rfl rfl) rfl rfl (fun w h => sameAt_ok ini ia ia2 ic ic2 N w (by omega) (by omega) (hini.now (fun _ _ hh => hh) zm0 h) (hini2.now (fun _ _ hh => hh) zm0 h)) (zw rfl rfl rfl (zg (fun _ => R_not rfl) (zg (v := .bool _) (fun _ => zF rfl rfl) (yB (zG rfl (zi (zO (zk (zr ?_))))))))))))))))))))))))))))))))))))))))))))))))))))))))))))
                refine mI e8_4 (zg (fun _ => R_addi rfl rfl (by omega)) (aI rfl (zn (zK (B' := [(w, No)]) (L' := _) (fun w h => h.drop (List.sublist_append_right [_, _] _)) ?_)))); exact k_again _ (by omega) ⟨k + 1, e2_4, e3_4, e5_4, e6_4, e7_4, rfl, rfl, rfl, by omega, rfl⟩
        · refine zX (zx (zx (b_here rfl (zO (zk (zr (mI e5_3 (zg (fun _ => R_addi rfl rfl (by omega)) (aI rfl (zn (zK (B' := [(w, No)]) (L' := _) (fun w h => h.drop (List.sublist_append_right [_, _] _)) ?_))))))))))); exact k_again _ (by omega) ⟨i + 1, e2_3, e3_3, rfl, rfl, rfl, by omega, rfl⟩
  · refine zX (zx (zx (b_here rfl (zk (yA (aB rfl (yB (ze (zo (v := .bool _) rfl rfl rfl ?_))))))))); exact fun w' hw => ⟨rfl, hw.fr _ zm0⟩
end Go.Proofs.YtaniogadknakoaaGreatDoor
end

section
namespace Go.Proofs.YtaniogadknakoaaGreatDoor
open Go.RowKit Go.Sx
open Go.Tok Go.Tree Go.Prs

theorem reads13_walk (s : Str) (hs : s.length ≤ 9223372036854775807) (w : World) (hW : Wd w) (hng : 4 ≤ w.heap.size) :
  Ret Tryz.prog 3 #[str s] w (fun v w' => v = .bool true ∧ Ext w w') := by
 have htw := readP_tw s
 refine enter (S := No) (l := [_]) (L := []) 32 Tryz.func3 rfl rfl rfl (St.start w No) (yA (aB rfl (yB (zq (yA (zm (v := str _) rfl (zg (fun _ => R_slen st9 rfl (by omega)) (zg (fun _ => R_gt rfl rfl) (yB ?_))))))))); refine zD rfl (fun h1 => ?_) (fun h1 => ?_)
 ·refine yA (zC (fun w => zR Tryz.func9 rfl rfl rfl) rfl rfl (fun w h => head13_ok w (hW.now zm0 h) (Nat.le_trans hng (h.fr _ zm0).size)) (aB rfl (yB (ze (zt ((zo (v := .bool _) rfl rfl rfl ?_))))))); exact fun w' hw => ⟨rfl, hw.fr _ zm0⟩
 ·refine zi (zk (yA (zm (v := str _) rfl (zP (fun w => zR Tryz.func10 rfl rfl rfl) rfl rfl (fun w h => Parse_ok s (by omega) w (hW.now zm0 h) (Nat.le_trans hng (h.fr _ zm0).size)) ?_))))
  rintro wa hwa v x1 ⟨cs1, rfl, hM, hne, hx⟩
  refine ⟨_, _, (hwa.ext hx).base1, ?_⟩
  have hK1 : Kt (x1, inL _) w.heap.size pgM _ cs1 := Kt.new hM TL.pg hwa (hwa.fr _ zm0).size; clear hM hx hwa
  have hcl1 : cs1.length = 18 := hK1.len
  refine zm rfl (zg (fun _ => R_extract rfl rfl) (zg (fun _ => R_extract rfl rfl) (zA zr29 (fun p1b gp1b up1b => zA zr32 (fun f1b gf1b uf1b => w_storeW cs1 1 rfl z29 rfl rfl rfl hcl1 (pg_one hK1) rfl (zV 0 rfl z32 rfl rfl rfl rfl rfl rfl rfl (yC (zm (v := str _) rfl (zP (fun w => zR Tryz.func11 rfl rfl rfl) rfl rfl (fun w h => rParse_ok s (by omega) hne _ rfl w (hW.now zm1 h) (Nat.le_trans hng (h.fr _ zm1).size)) ?_)))))))))
  rintro wa hwa v x2 ⟨cs2, rfl, hM, hx⟩
  refine ⟨_, _, (hwa.ext hx).base1, ?_⟩
  have hK2 : Kt (x2, inL _) w.heap.size pgM _ cs2 := Kt.new hM TL.pg hwa (hwa.fr _ zm1).size; clear hM hx hwa
  have hcl2 : cs2.length = 18 := hK2.len
  refine zm rfl (zg (fun _ => R_extract rfl rfl) (zg (fun _ => R_extract rfl rfl) (zA zr29 (fun p2b gp2b up2b => zA zr32 (fun f2b gf2b uf2b => w_storeW cs2 1 rfl z29 rfl rfl rfl hcl2 (pg_one hK2) rfl (zV 0 rfl z32 rfl rfl rfl rfl rfl rfl rfl (yC (w_loadW z29 rfl (fun w h => h.at_ 3 rfl) hcl1 (w_loadW z29 rfl (fun w h => h.at_ 1 rfl) hcl2 (zC (fun w => zR Tryz.func12 rfl rfl rfl) rfl rfl (fun w h => sameR_spec (resOf (List.replicate 6 noBk) (parseP s)).1 _ _ (fun _ => True) w (fun b hb => Nat.lt_of_le_of_lt (res_W (s := s) (M := 12001) (by omega) (by omega) b hb) (by omega)) (TL.pg.mono (hK1.at TL.pg zm1 h) (fun _ _ => trivial)) (TL.pg.mono (hK2.at TL.pg zm0 h) (fun _ _ => trivial))) (mB rfl (zw rfl rfl rfl (zY z32 rfl (fun _ h => h.at_ 2 rfl) rfl (zw rfl rfl rfl (zY z32 rfl (fun _ h => h.at_ 0 rfl) rfl (zw rfl rfl rfl (zg (fun _ => R_eqS fl32 rfl rfl (eq2_run (n := 9998) fl32 z30 z3 un30 un3)) (zg (v := .bool _) (fun _ => zT rfl rfl) (mB rfl ?_))))))))))))))))))); refine zp (t := 29) rfl (fun h6 => ?_) (fun h6 => ?_)
  ·refine zw rfl rfl (bV h6) (zC (fun w => zR Tryz.func9 rfl rfl rfl) rfl rfl (fun w h => head13_ok w (hW.now zm2 h) (Nat.le_trans hng (h.fr _ zm2).size)) (zg (v := .bool _) (fun _ => zT (bV h6) rfl) (aB rfl (yB (ze (zo (v := .bool _) rfl rfl rfl ?_)))))); exact fun w' hw => ⟨rfl, hw.fr _ zm2⟩
  ·(simp at h6)
end Go.Proofs.YtaniogadknakoaaGreatDoor
end

section
namespace Go.Sx
theorem handed_and_shaped {H : Type} {enc : TypeId × Value → H} {a : Assume} {C : Checked} {os : Os} {f : FuncId} {fn : Func} {s : ChangeSpec} {conds : List PathCond} {apart fresh handsOn again : Bool} {X : World → Array Value → Prop}
    (hX : ∀ (w w' : World) (args : Array Value), w.heap = w'.heap → X w args → X w' args)
    (own : ownKnob C.prog.godebug = none) (started : os.Started) (noInit : C.prog.inits.idxOf? f = none) (hfn : C.prog.funcs[f]? = some fn)
    (witness : ∃ (w : World) (tape : Tape) (i : Input), w.os = os ∧ (w.forCall tape i).Shaped C.prog ∧ i.vars = [] ∧ Input.okWide C.prog (w.forCall tape i) .any w.heap.size f i ∧
      ((s.pre enc C.prog fn conds apart (w.forCall tape i).memory i.args ∧ X (w.forCall tape i).memory i.args) ∧ sizedMet enc C.prog fn (OpenSpec.ofChange s) apart (w.forCall tape i).memory i.args) ∧ a.holds C.prog (lone (Frame.enter C.prog f i.args .normal) [] (w.forCall tape i)))
    (contract : ∀ (W : World) (base : Nat) (args : Array Value) (ds gs : List (DataW H)) (before : List MemPlace),
      (∀ (j : Nat) t v, fn.params[j]? = some t → args[j]? = some v → Value.okWide C.prog W .any base t v) →
      DataW.Whole enc C.prog fn.params.toList s.vars apart W args.toList ds gs before →
      X W args → W.ShapedOpen C.prog →
      Calls C.prog f args W fun e W' => ∃ v, e = .returned v ∧ s.post enc C.prog fn apart fresh handsOn again W args v W') :
    ReturnsInHanded a C os f .any (fun w args => (s.pre enc C.prog fn conds apart w args ∧ X w args) ∧ sizedMet enc C.prog fn (OpenSpec.ofChange s) apart w args) (s.post enc C.prog fn apart fresh handsOn again) := by
  refine returnsInHanded_of_calls own started noInit witness ?_
  intro w tape i _ hsh _ hok hpre hholds
  obtain ⟨_, _, _, fn', hfn', _, _, _, _, hval⟩ := hok
  have e : fn' = fn := Option.some.inj (hfn'.symm.trans hfn)
  subst e
  obtain ⟨⟨⟨ds, gs, before, hw, hc⟩, hx⟩, hz⟩ := hpre
  have hw' := DataW.Whole.of_heap (w' := w.forCall tape i) (by rfl) hw
  refine (contract (w.forCall tape i) w.heap.size i.args ds gs before hval hw' (hX _ _ _ (by rfl) hx) hsh).mono fun e W' ⟨v, he, hp⟩ => ?_
  subst he
  exact ChangeSpec.post_blind hp
end Go.Sx
end

section
namespace Go.Proofs.YtaniogadknakoaaGreatDoor
open Go.ChangeShapes Go.WideShapes Go.ChangeAt Go.RowKit Go.Sx
open Go.ChangeMaps (open_string)
theorem own : ownKnob Tryz.prog.godebug = none := by kernel_rfl
theorem below_ext {w w' : World} (h : Ext w w') : Below w.heap.size w w' := ⟨h.os, h.tape, h.output, h.size, fun k hk => h.blk k hk (fun x => x)⟩
section
variable {H : Type} {enc : TypeId × Value → H} {P : Program}
theorem post_ext {f : Func} {s : ChangeSpec} {apart fresh handsOn : Bool} {W W' : World} {args : Array Value} {v : Value} {ds gs : List (DataW H)} {before pa pv : List MemPlace}
    (hW : DataW.Whole enc P f.params.toList s.vars apart W args.toList ds gs before)
    (hres : ∀ (b : Nat) (sp : Nat → Bool) (hd : Bool), DataW.TrodAll enc P W' b sp hd f.resultTypes.toList (v.resultList f.resultTypes.size) (s.fn H (ds ++ gs)).results [])
    (hargs : ∀ sp : Nat → Bool, (∀ p ∈ before, sp p.block = true) → DataW.TrodAll enc P W' 0 sp true f.params.toList args.toList (s.fn H (ds ++ gs)).args pa)
    (hvars : ∀ sp : Nat → Bool, (∀ p ∈ before, sp p.block = true) → DataW.TrodVars enc P W' sp s.vars (s.fn H (ds ++ gs)).vars pv)
    (hps : before = pa ++ pv) (hb : Below W.heap.size W W') : s.post enc P f apart fresh handsOn false W args v W' := by
  have hold : ∀ p ∈ before, (fun b => decide (b < W.heap.size)) p.block = true := fun p hp => by simpa using hW.lt p hp
  exact ⟨ds, gs, before, [], pa, pv, hW, hres _ _ _, hargs _ hold, hvars _ hold, hb.frame _, fun h => by cases h⟩
end
theorem door_met (os : Os) (args : Array Value) : laidMetH Tryz.prog Rows.parseReadsRow.laid ((World.doorLaid Tryz.prog 400 os).forCall (fun _ _ => 0) ⟨#[], args, []⟩).memory :=
  laidMetH_of_parts3 (fuel := 8) (laidMet_of_run' 8 (by kernel_rfl) (by kernel_rfl)) (by kernel_rfl) (by kernel_rfl)
theorem tb_of_laid {W : World} (h : laidMetH Tryz.prog Rows.parseReadsRow.laid W) : Tb W := by
  rw [MakeChecks.laidMetH_plain _ _ _ (by kernel_rfl)] at h
  obtain ⟨ps, ⟨g0, t0, cs0, f0, p0, q0, hg0, ht0, hv0, hd0, ⟨g1, t1, cs1, f1, p1, q1, hg1, ht1, hv1, hd1, hr1, hq0⟩, hps⟩, hn, hm⟩ := h
  refine Tb.of (Lib.tabIs_of_head (g := 0) (t := 115) (e := 5) (n := 256) (rest := []) (by kernel_rfl) (by kernel_rfl) Tryz.underlying115 Tryz.underlying5 (by kernel_rfl) (by kernel_rfl) (W := W) ⟨q0, ⟨g1, t1, cs1, f1, p1, q1, hg1, ht1, hv1, hd1, hr1, hq0⟩, ?_, ?_⟩)
  · rw [hps] at hn; exact (List.nodup_append.1 hn).2.1
  · exact fun b off hx => hm b off (by rw [hps]; exact List.mem_append.2 (.inr hx))
theorem size_of_shaped {P : Program} {w : World} {g : Nat} (h : w.ShapedOpen P) (hg : g < P.globals.size) (h0 : (((begin P (fun _ _ => 0) default).world.heap[g]?).bind Obj.row?).isSome = true) : g < w.heap.size := by
  obtain ⟨⟨zero, t⟩, h1⟩ := Option.isSome_iff_exists.1 h0
  obtain ⟨cs, hh, _⟩ := h.1 g zero t hg h1
  exact (Array.getElem?_eq_some_iff.1 hh).1

theorem parseReads_lifted (os : Os) (started : os.Started) (H : Type) (enc : TypeId × Value → H) :
    ReturnsInHanded {} Tryz.checked os 3 .any (fun w args => (Rows.parseReadsSpec.pre enc Tryz.prog Tryz.f3 [] false w args ∧ laidMetH Tryz.prog Rows.parseReadsRow.laid w) ∧ sizedMet enc Tryz.prog Tryz.f3 (OpenSpec.ofChange Rows.parseReadsSpec) false w args)
      (Rows.parseReadsSpec.post enc Tryz.prog Tryz.f3 false true false false) := by
  refine handed_and_shaped (C := Tryz.checked) (X := fun w _ => laidMetH Tryz.prog Rows.parseReadsRow.laid w) (fun _ _ _ hh h => h.of_heap hh) own started (by kernel_rfl) Tryz.func3
    (ChangeSpec.witness_shaped (enc := enc) (C := Tryz.checked) (os := os) (X := fun w _ => laidMetH Tryz.prog Rows.parseReadsRow.laid w) false (World.doorLaid Tryz.prog 400 os) #[.string ⟨#[]⟩] 8 rfl (World.shaped_of_RefB (by kernel_rfl) (by kernel_rfl)) (by kernel_rfl) (by kernel_rfl) (by kernel_rfl) (door_met os _)) ?_
  intro W base args ds gs before hval0 hW hL hsh
  have hval : ∀ (j : Nat) t v, Tryz.f3.params[j]? = some t → args[j]? = some v → Value.okWide Tryz.prog W .any base t v := hval0
  have hW' := hW
  obtain ⟨p, q, hA0, hV, rfl, _, _⟩ := hW
  have hA : DataW.TrodAll enc Tryz.prog W 0 (fun _ => true) true Tryz.f3.params.toList args.toList ds p := hA0
  rw [Tryz.params3] at hA hval
  obtain ⟨v0, d0, rfl, rfl, h0⟩ := trodAll_one hA
  obtain ⟨rfl, rfl⟩ := trodVars_none hV
  obtain ⟨x0, rfl, rfl, rfl, wx0⟩ := open_string Tryz.underlying9 (hval 0 9 v0 rfl rfl) h0
  have ht := tb_of_laid hL
  clear hA0 hval0
  simp only [List.append_nil] at hW'
  refine Calls.mono (reads13_walk x0.data.toList (by have := wx0; unfold maxLen at this; simp; omega) W ⟨ht, ht.lt, cell_of_shapedOpen_int hsh (zero := #[.int .i64 0]) (g := 2) (t := 3) (by decide) (by kernel_rfl) rfl (by kernel_rfl) (by kernel_rfl) Tryz.underlying3⟩ (size_of_shaped hsh (g := 3) (by decide) (by kernel_rfl))) fun e W' ⟨v, he, hv, hx⟩ => ?_
  subst he; subst hv
  exact ⟨_, rfl, post_ext (pa := []) (pv := []) hW' (fun _ _ _ => trodAll_mk1 (shut_bool Tryz.underlying4 _)) (fun sp _ => trodAll_mk1 (ChangeMaps.shut_string Tryz.underlying9 wx0)) (fun _ _ => rfl) rfl (below_ext hx)⟩
theorem parseReads_holds : Rows.ParseReadsSaid :=
  OpenClaim.holds_of_wide 3 Tryz.f3 rfl rfl rfl rfl rfl rfl rfl ⟨rfl, rfl, rfl, rfl, rfl⟩ rfl rfl rfl rfl rfl (by kernel_rfl) Tryz.func3 (by kernel_rfl)
    (of_decide_eq_true (by kernel_rfl)) (by unfold Func.isWrapper; first | (rw [if_pos (by decide +kernel)]; kernel_rfl) | (rw [if_neg (by decide +kernel)]; exact ⟨rfl, rfl⟩))
    (fun os started H enc _ => parseReads_lifted os started H enc)
end Go.Proofs.YtaniogadknakoaaGreatDoor
end

section
namespace Go.Proofs.YtaniogadknakoaaGreatDoor
open Go
theorem parseReads_card : Rows.ParseReadsCardSaid :=
  Claim7.holds_tied_plain_at .later [] [.listed, .data] true (true, "a9064e2a442c3b536780d827cf246cb9ffd59ece4e9a70045f3d8d8099ffcaba") true
    parseReads_holds (fun _ h => by cases h) (by kernel_rfl) (fun _ h => by cases h) parseReads_row_tie rfl ⟨rfl, rfl⟩ (by kernel_rfl) rfl
    (fun f fn hf hfn => by
      obtain rfl : f = 3 := Option.some.inj ((show Tryz.prog.funcNamed "stepstone/stepstonelaw13.ParseReads" = some 3 by kernel_rfl).symm.trans hf) |>.symm
      obtain rfl : fn = Tryz.f3 := (Option.some.inj (Tryz.func3.symm.trans hfn)).symm
      exact ⟨by kernel_rfl, fun j t ht => by
        rw [Tryz.params3] at ht
        have ht3 : t = 9 := by
          rcases j with _ | j
          · simpa using ht.symm
          · simp at ht
        subst ht3
        exact (show Tryz.prog.wantsStandIn 9 = false by kernel_rfl)⟩)
    (by kernel_rfl)
end Go.Proofs.YtaniogadknakoaaGreatDoor
end
