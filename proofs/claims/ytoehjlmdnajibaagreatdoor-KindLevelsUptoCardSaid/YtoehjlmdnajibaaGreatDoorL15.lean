/- Layer 15, KindLevels: a program that may be has nothing in it that hangs on parameters, where something is chosen, counted or sized. Part 15 of 15. -/
import Derived.Test.YtoehjlmdnajibaaGreatDoorL14
import Derived.ChangeArms
import Derived.OpenShut
import Derived.Test.YtoehjlmdnajibaaGreatDoorRows
import Derived.Deep.DeepHandedRow
import Derived.ProofKit
import Derived.LaidMore
import Derived.Shelf.Vars
import Derived.Carry
import Derived.JoinedCond
import Derived.Deep.DeepWitnessRowRef
import Derived.Stop.Joined
import Derived.Test.YtoehjlmdnajibaaGreatDoorTie
import Derived.Test.YtoehjlmdnajibaaGreatDoorCards
import Derived.SevenTiedAt
set_option maxRecDepth 100000
set_option maxHeartbeats 16000000
section
namespace Go.Proofs.YtoehjlmdnajibaaGreatDoor
open Go.RowKit Go.Sx
open Go.Tok Go.Tree Go.Knd Go.Prs

def HgH (n : Nat) : Prop := ∀ (x : Ex) (cs : List Value) (vs : List Vr) (va : Option Addr) (vc : Nat) (w : World), exW x < n → hangsK vs x = false → exM w (fun _ => True) x cs → vrsV w (fun _ => True) vs (va, vc) → vs.length ≤ 90000000 →
    Ret Tryz.prog 17 #[.agg cs.toArray, .slice va vs.length vc] w fun v w' => v = .bool false ∧ Ext w w'
def PlH (n : Nat) : Prop := ∀ (x : Ex) (cs : List Value) (vs : List Vr) (va : Option Addr) (vc : Nat) (w : World), exW x < n → placesK vs x = true → exM w (fun _ => True) x cs → vrsV w (fun _ => True) vs (va, vc) → vs.length ≤ 90000000 →
    Ret Tryz.prog 36 #[.agg cs.toArray, .slice va vs.length vc] w fun v w' => v = .bool true ∧ Ext w w'
def ChH (n : Nat) : Prop := ∀ (l : List Sm) (a : Option Addr) (c : Nat) (vs : List Vr) (va : Option Addr) (vc : Nat) (w : World), smsW l < n → chosenK vs l = true → l.length ≤ 10000000 → smsM w (fun _ => True) l a 0 → vrsV w (fun _ => True) vs (va, vc) → vs.length ≤ 90000000 →
    Ret Tryz.prog 18 #[.slice a l.length c, .slice va vs.length vc] w fun v w' => v = .bool true ∧ Ext w w'

theorem hangs_step (n : Nat) (ih : HgH n) (hn : n ≤ 10000000) (x : Ex) (cs : List Value) (vs : List Vr) (va : Option Addr) (vc : Nat) (w : World) (hx : exW x < n + 1) (hh : hangsK vs x = false) (hm : exM w (fun _ => True) x cs) (hv : vrsV w (fun _ => True) vs (va, vc)) (hvl : vs.length ≤ 90000000) :
    Ret Tryz.prog 17 #[.agg cs.toArray, .slice va vs.length vc] w (fun v w' => v = .bool false ∧ Ext w w') := by
  obtain ⟨op, at_, nm, ks⟩ := x
  have hm2 := hm
  unfold exM at hm2
  obtain ⟨ka, kc, rfl, hkc, hks⟩ := hm2
  have hx2 := hx
  unfold exW at hx2
  obtain ⟨hp1, hp2⟩ := hangs_parts hh
  refine enter (S := No) (l := [_, _]) (L := []) 58 Tryz.func17 rfl rfl rfl (St.start w No) (yA (w_boxA rfl (fun t2b gt2b ut2b => aB rfl (yB ?_)))); refine c_cut (fun e B L => e 1 = .slice va vs.length vc ∧ e 2 = .pointer (some ⟨t2b, 0, none⟩) ∧ B = [(w, No)] ∧ L = [(t2b, cel [.int .u8 (op : Nat), .int .i64 at_, str nm, .slice ka ks.length kc] 52)]) ?_ ?_
  · refine yA (zf fa52_0 rfl (zL 0 z5 rfl rfl rfl (zg (fun _ => R_eq rfl rfl) (mB rfl ?_)))); refine zd (t := 10) rfl (fun h2 => ?_) (fun h2 => ?_)
    · refine zs rfl rfl (bT h2) (zs rfl rfl (bT h2) (zs rfl rfl (bT h2) (zg (v := .bool _) (fun _ => zT (bT h2) rfl) (yB (zE rfl (yA (aI rfl (yB (zB (c_loop (fun m e B L => ∃ (k : Nat), e 1 = .slice va vs.length vc ∧ e 2 = .pointer (some ⟨t2b, 0, none⟩) ∧ e 5 = .int .i64 (k : Nat) ∧ B = [(w, No)] ∧ L = [(t2b, cel [.int .u8 (op : Nat), .int .i64 at_, str nm, .slice ka ks.length kc] 52)] ∧ k ≤ vs.length ∧ m = vs.length - k) _ ⟨0, rfl, rfl, rfl, rfl, rfl, Nat.zero_le _, rfl⟩ ?_))))))))))
      rintro m e B L ⟨k, e1_2, e2_2, e5_2, rfl, rfl, hk, rfl⟩
      refine zq (yA (mI e5_2 (mS e1_2 (zg (fun _ => R_len sl34 rfl) (zg (fun _ => R_lt rfl rfl) (yB ?_)))))); refine zD rfl (fun h3 => ?_) (fun h3 => ?_)
      · have hlt : k < vs.length := (by omega); obtain ⟨v, hxk⟩ : ∃ x, vs[k]? = some x := ⟨_, List.getElem?_eq_getElem hlt⟩; have hA := hv.2 k v hxk; have hvp := hp1 (by omega) v (List.mem_of_getElem? hxk); have hA1 : ∃ b1 o1, va = some ⟨b1, o1, none⟩ := hA.ptr; obtain ⟨b1, o1, rfl⟩ := hA1
        refine zi (zk (zq (zB (zq (c_heldS mixed (zh (v := .slice _ _ _) 0 rfl (by kernel_rfl) rfl rfl (fun w h => h) (fun w h => R_move e1_2) (zh (v := .int _ _) 1 rfl (by kernel_rfl) rfl rfl (fun w h => h) (fun w h => R_move e5_2) (zh2 2 rfl rfl (fun w h => h) (fun w h => R_iaN (i := k) sl34 rfl rfl (by omega)) (zh2 3 rfl rfl (fun w h => h) (fun w h => R_fa fa54_0 rfl) (zh (v := str v.nm) 4 rfl (by kernel_rfl) rfl rfl (fun w h => h) (fun w h => R_ld1 z9 rfl (hA.cell (x := (_, No)) (fun _ _ h => h) zm0 h 0 (str v.nm) rfl)) (zh2 5 rfl rfl (fun w h => h) (fun w h => R_fa fa52_2 e2_2) (zh (v := str _) 6 rfl (by kernel_rfl) rfl rfl (fun w h => h) (fun w h => R_ld1 z9 rfl ((fun _ h => zc 0 rfl rfl h) w h)) (zh2 7 rfl rfl (fun w h => h) (fun w h => R_seq rfl rfl) (zh (v := .bool _) 8 rfl (by kernel_rfl) rfl rfl (fun w h => h) (fun w h => R_move rfl) ?_)))))))))))))); refine h_splitD (t := 29) rfl (fun h4 => ?_) (fun h4 => ?_)
        · refine h_takeG (v := .slice _ _ _) 9 rfl (by kernel_rfl) rfl rfl rfl (bT h4) rfl (fun w h => h) (fun w h => R_move e1_2) (h_takeG (v := .int _ _) 10 rfl (by kernel_rfl) rfl rfl rfl (bT h4) rfl (fun w h => h) (fun w h => R_move e5_2) (h_takeG 11 rfl (by kernel_rfl) rfl rfl rfl (bT h4) rfl (fun w h => h) (fun w h => R_iaN (i := k) sl34 rfl rfl (by omega)) (h_takeG 12 rfl (by kernel_rfl) rfl rfl rfl (bT h4) rfl (fun w h => h) (fun w h => R_fa fa54_3 rfl) (h_takeG (v := .bool v.par) 13 rfl (by kernel_rfl) rfl rfl rfl (bT h4) rfl (fun w h => h) (fun w h => R_ld1 z4 rfl (hA.cell (x := (_, No)) (fun _ _ h => h) zm0 h 3 (.bool v.par) rfl)) (zh (v := .bool _) 14 rfl (by kernel_rfl) rfl rfl (fun w h => h) (fun w h => zT (bT h4) rfl) (zN2 (fun w h => h) (zk ?_)))))))
          refine c_cond rfl (fun h5 => ?_) (fun h5 => ?_)
          · exact absurd h5 (by rw [hvp (by assumption)]; decide)
          · refine zi (zO (zk (zr (mI e5_2 (zg (fun _ => R_addi rfl rfl (by omega)) (aI rfl (zn ?_))))))); exact k_again _ (by omega) ⟨k + 1, e1_2, e2_2, rfl, rfl, rfl, by omega, rfl⟩
        · refine h_skip 9 rfl (by kernel_rfl) rfl rfl rfl (bF h4) rfl (fun w h => h) (h_skip 10 rfl (by kernel_rfl) rfl rfl rfl (bF h4) rfl (fun w h => h) (h_skip 11 rfl (by kernel_rfl) rfl rfl rfl (bF h4) rfl (fun w h => h) (h_skip 12 rfl (by kernel_rfl) rfl rfl rfl (bF h4) rfl (fun w h => h) (h_skip 13 rfl (by kernel_rfl) rfl rfl rfl (bF h4) rfl (fun w h => h) (zh (v := .bool _) 14 rfl (by kernel_rfl) rfl rfl (fun w h => h) (fun w h => zF (bF h4) rfl) (zN2 (fun w h => h) (zk (zG rfl (zi (zO (zk (zr (mI e5_2 (zg (fun _ => R_addi rfl rfl (by omega)) (aI rfl (zn ?_)))))))))))))))); exact k_again _ (by omega) ⟨k + 1, e1_2, e2_2, rfl, rfl, rfl, by omega, rfl⟩
      · refine zX (zx (zx (b_here rfl (?_))))
        exact k_mid ⟨e1_2, e2_2, rfl, rfl⟩
    · refine zw rfl rfl (bF h2) (zf fa52_0 rfl (zw rfl rfl (bF h2) (zL 0 z5 rfl rfl rfl (zw rfl rfl (bF h2) (zg (fun _ => R_eq rfl rfl) (zg (v := .bool _) (fun _ => zF (bF h2) rfl) (yB ?_))))))); refine zD rfl (fun h6 => ?_) (fun h6 => ?_)
      · refine yA (aI rfl (yB (zB (c_loop (fun m e B L => ∃ (k : Nat), e 1 = .slice va vs.length vc ∧ e 2 = .pointer (some ⟨t2b, 0, none⟩) ∧ e 5 = .int .i64 (k : Nat) ∧ B = [(w, No)] ∧ L = [(t2b, cel [.int .u8 (op : Nat), .int .i64 at_, str nm, .slice ka ks.length kc] 52)] ∧ k ≤ vs.length ∧ m = vs.length - k) _ ⟨0, rfl, rfl, rfl, rfl, rfl, Nat.zero_le _, rfl⟩ ?_))))
        rintro m e B L ⟨k, e1_3, e2_3, e5_3, rfl, rfl, hk, rfl⟩
        refine zq (yA (mI e5_3 (mS e1_3 (zg (fun _ => R_len sl34 rfl) (zg (fun _ => R_lt rfl rfl) (yB ?_)))))); refine zD rfl (fun h7 => ?_) (fun h7 => ?_)
        · have hlt : k < vs.length := (by omega); obtain ⟨v, hxk⟩ : ∃ x, vs[k]? = some x := ⟨_, List.getElem?_eq_getElem hlt⟩; have hA := hv.2 k v hxk; have hvp := hp1 (by omega) v (List.mem_of_getElem? hxk); have hA1 : ∃ b1 o1, va = some ⟨b1, o1, none⟩ := hA.ptr; obtain ⟨b1, o1, rfl⟩ := hA1
          refine zi (zk (zq (zB (zq (c_heldS mixed (zh (v := .slice _ _ _) 0 rfl (by kernel_rfl) rfl rfl (fun w h => h) (fun w h => R_move e1_3) (zh (v := .int _ _) 1 rfl (by kernel_rfl) rfl rfl (fun w h => h) (fun w h => R_move e5_3) (zh2 2 rfl rfl (fun w h => h) (fun w h => R_iaN (i := k) sl34 rfl rfl (by omega)) (zh2 3 rfl rfl (fun w h => h) (fun w h => R_fa fa54_0 rfl) (zh (v := str v.nm) 4 rfl (by kernel_rfl) rfl rfl (fun w h => h) (fun w h => R_ld1 z9 rfl (hA.cell (x := (_, No)) (fun _ _ h => h) zm0 h 0 (str v.nm) rfl)) (zh2 5 rfl rfl (fun w h => h) (fun w h => R_fa fa52_2 e2_3) (zh (v := str _) 6 rfl (by kernel_rfl) rfl rfl (fun w h => h) (fun w h => R_ld1 z9 rfl ((fun _ h => zc 0 rfl rfl h) w h)) (zh2 7 rfl rfl (fun w h => h) (fun w h => R_seq rfl rfl) (zh (v := .bool _) 8 rfl (by kernel_rfl) rfl rfl (fun w h => h) (fun w h => R_move rfl) ?_)))))))))))))); refine h_splitD (t := 29) rfl (fun h8 => ?_) (fun h8 => ?_)
          · refine h_takeG (v := .slice _ _ _) 9 rfl (by kernel_rfl) rfl rfl rfl (bT h8) rfl (fun w h => h) (fun w h => R_move e1_3) (h_takeG (v := .int _ _) 10 rfl (by kernel_rfl) rfl rfl rfl (bT h8) rfl (fun w h => h) (fun w h => R_move e5_3) (h_takeG 11 rfl (by kernel_rfl) rfl rfl rfl (bT h8) rfl (fun w h => h) (fun w h => R_iaN (i := k) sl34 rfl rfl (by omega)) (h_takeG 12 rfl (by kernel_rfl) rfl rfl rfl (bT h8) rfl (fun w h => h) (fun w h => R_fa fa54_3 rfl) (h_takeG (v := .bool v.par) 13 rfl (by kernel_rfl) rfl rfl rfl (bT h8) rfl (fun w h => h) (fun w h => R_ld1 z4 rfl (hA.cell (x := (_, No)) (fun _ _ h => h) zm0 h 3 (.bool v.par) rfl)) (zh (v := .bool _) 14 rfl (by kernel_rfl) rfl rfl (fun w h => h) (fun w h => zT (bT h8) rfl) (zN2 (fun w h => h) (zk ?_)))))))
            refine c_cond rfl (fun h9 => ?_) (fun h9 => ?_)
            · exact absurd h9 (by rw [hvp (by assumption)]; decide)
            · refine zi (zO (zk (zr (mI e5_3 (zg (fun _ => R_addi rfl rfl (by omega)) (aI rfl (zn ?_))))))); exact k_again _ (by omega) ⟨k + 1, e1_3, e2_3, rfl, rfl, rfl, by omega, rfl⟩
          · refine h_skip 9 rfl (by kernel_rfl) rfl rfl rfl (bF h8) rfl (fun w h => h) (h_skip 10 rfl (by kernel_rfl) rfl rfl rfl (bF h8) rfl (fun w h => h) (h_skip 11 rfl (by kernel_rfl) rfl rfl rfl (bF h8) rfl (fun w h => h) (h_skip 12 rfl (by kernel_rfl) rfl rfl rfl (bF h8) rfl (fun w h => h) (h_skip 13 rfl (by kernel_rfl) rfl rfl rfl (bF h8) rfl (fun w h => h) (zh (v := .bool _) 14 rfl (by kernel_rfl) rfl rfl (fun w h => h) (fun w h => zF (bF h8) rfl) (zN2 (fun w h => h) (zk (zG rfl (zi (zO (zk (zr (mI e5_3 (zg (fun _ => R_addi rfl rfl (by omega)) (aI rfl (zn ?_)))))))))))))))); exact k_again _ (by omega) ⟨k + 1, e1_3, e2_3, rfl, rfl, rfl, by omega, rfl⟩
        · refine zX (zx (zx (b_here rfl (?_))))
          exact k_mid ⟨e1_3, e2_3, rfl, rfl⟩
      · refine zi ?_; exact k_mid ⟨rfl, rfl, rfl, rfl⟩
  rintro e B L ⟨e1_1, e2_1, rfl, rfl⟩
  refine c_cut (fun e B L => e 1 = .slice va vs.length vc ∧ e 2 = .pointer (some ⟨t2b, 0, none⟩) ∧ B = [(w, No)] ∧ L = [(t2b, cel [.int .u8 (op : Nat), .int .i64 at_, str nm, .slice ka ks.length kc] 52)] ∧ (∀ x ∈ ks, hangsK vs x = false)) ?_ ?_
  · refine yA (zf fa52_0 e2_1 (zL 0 z5 rfl rfl rfl (zg (fun _ => R_eq rfl rfl) (mB rfl ?_)))); refine zd (t := 39) rfl (fun h10 => ?_) (fun h10 => ?_)
    · refine zw rfl rfl (bT h10) (zf fa52_2 e2_1 (zw rfl rfl (bT h10) (zL 0 z9 rfl rfl rfl (zw rfl rfl (bT h10) (zg (fun _ => R_seq rfl rfl) (zg (v := .bool _) (fun _ => zT (bT h10) rfl) (yB ?_))))))); refine zD rfl (fun h11 => ?_) (fun h11 => ?_)
      · refine yA (aB rfl (yB (ze (zt ((zo (v := .bool _) rfl rfl rfl ?_)))))); exact fun w' hw => ⟨rfl, hw.fr _ zm0⟩
      · refine zi ?_; exact k_mid ⟨e1_1, e2_1, rfl, rfl, hp2 (by rintro ⟨q1, q2⟩; exact absurd q2 (by assumption))⟩
    · refine zs rfl rfl (bF h10) (zs rfl rfl (bF h10) (zs rfl rfl (bF h10) (zg (v := .bool _) (fun _ => zF (bF h10) rfl) (yB (zG rfl (zi ?_)))))); exact k_mid ⟨e1_1, e2_1, rfl, rfl, hp2 (by rintro ⟨q1, q2⟩; omega)⟩
  rintro e B L ⟨e1_4, e2_4, rfl, rfl, hkk⟩
  refine zq (yA (aI rfl (yB (zB (c_loop (fun m e B L => ∃ (k : Nat), e 1 = .slice va vs.length vc ∧ e 2 = .pointer (some ⟨t2b, 0, none⟩) ∧ e 6 = .int .i64 (k : Nat) ∧ B = [(w, No)] ∧ L = [(t2b, cel [.int .u8 (op : Nat), .int .i64 at_, str nm, .slice ka ks.length kc] 52)] ∧ k ≤ ks.length ∧ m = ks.length - k) _ ⟨0, e1_4, e2_4, rfl, rfl, rfl, Nat.zero_le _, rfl⟩ ?_)))))
  rintro m e B L ⟨k, e1_5, e2_5, e6_5, rfl, rfl, hk, rfl⟩
  refine zq (yA (mI e6_5 (zf fa52_3 e2_5 (zL 0 z47 rfl rfl rfl (zg (fun _ => R_len sl47 rfl) (zg (fun _ => R_lt rfl rfl) (yB ?_))))))); refine zD rfl (fun h12 => ?_) (fun h12 => ?_)
  · have hlt : k < ks.length := (by omega); obtain ⟨x, hxk⟩ : ∃ x, ks[k]? = some x := ⟨_, List.getElem?_eq_getElem hlt⟩; obtain ⟨cs, hA, hE⟩ := hks.get0 hxk; have hxn := exsW_mem (List.mem_of_getElem? hxk); obtain ⟨b1, o1, rfl⟩ := hA.ptr; obtain ⟨op2, at2, nm2, ks2⟩ := x; have hE2 := hE; unfold exM at hE2; obtain ⟨ka2, kc2, rfl, hkc2, hks2⟩ := hE2
    refine zi (zk (zq (zB (yA (zf fa52_3 e2_5 (zL 0 z47 rfl rfl rfl (mI e6_5 (zg (fun _ => R_iaN (i := k) sl47 rfl rfl (by omega)) (w_loadC (l := [.int .u8 (op2 : Nat), .int .i64 at2, str nm2, .slice ka2 ks2.length kc2]) z52 rfl rfl (fun w h j v hj => hA.cell (fun _ _ hh => hh) zm0 h j v hj) (mS e1_5 (zC (fun w => zR Tryz.func17 rfl rfl rfl) rfl rfl (fun w h => ih _ _ vs va vc w (by omega) (hkk _ (List.mem_of_getElem? hxk)) (hE.nowT zm0 h) (hv.nowT zm0 h) hvl) (yB (zG rfl (zi (zO (zk (zr (mI e6_5 (zg (fun _ => R_addi rfl rfl (by omega)) (aI rfl (zn ?_))))))))))))))))))))); exact k_again _ (by omega) ⟨k + 1, e1_5, e2_5, rfl, rfl, rfl, by omega, rfl⟩
  · refine zX (zx (zx (b_here rfl (zk (yA (aB rfl (yB (ze (zo (v := .bool _) rfl rfl rfl ?_))))))))); exact fun w' hw => ⟨rfl, hw.fr _ zm0⟩

theorem hangs_all : ∀ n : Nat, n ≤ 10000000 → HgH n
  | 0, _ => fun _ _ _ _ _ _ h => absurd h (Nat.not_lt_zero _)
  | n + 1, h => hangs_step n (hangs_all n (by omega)) (by omega)
theorem hangs_ok : HgH 10000000 := hangs_all _ (Nat.le_refl _)

theorem places_step (n : Nat) (ih : PlH n) (hn : n ≤ 10000000) (x : Ex) (cs : List Value) (vs : List Vr) (va : Option Addr) (vc : Nat) (w : World) (hx : exW x < n + 1) (hh : placesK vs x = true) (hm : exM w (fun _ => True) x cs) (hv : vrsV w (fun _ => True) vs (va, vc)) (hvl : vs.length ≤ 90000000) :
    Ret Tryz.prog 36 #[.agg cs.toArray, .slice va vs.length vc] w (fun v w' => v = .bool true ∧ Ext w w') := by
  obtain ⟨op, at_, nm, ks⟩ := x
  have hm2 := hm
  unfold exM at hm2
  obtain ⟨ka, kc, rfl, hkc, hks⟩ := hm2
  have hx2 := hx
  unfold exW at hx2
  obtain ⟨hp1, hp2⟩ := places_parts hh
  refine enter (S := No) (l := [_, _]) (L := []) 35 Tryz.func36 rfl rfl rfl (St.start w No) (yA (w_boxA rfl (fun t2b gt2b ut2b => aB rfl (yB (zq (yA (aI rfl (yB (zB (c_loop (fun m e B L => ∃ (k : Nat), e 1 = .slice va vs.length vc ∧ e 2 = .pointer (some ⟨t2b, 0, none⟩) ∧ e 5 = .int .i64 (k : Nat) ∧ B = [(w, No)] ∧ L = [(t2b, cel [.int .u8 (op : Nat), .int .i64 at_, str nm, .slice ka ks.length kc] 52)] ∧ k ≤ ks.length ∧ m = ks.length - k) _ ⟨0, rfl, rfl, rfl, rfl, rfl, Nat.zero_le _, rfl⟩ ?_))))))))))
  rintro m e B L ⟨k, e1_1, e2_1, e5_1, rfl, rfl, hk, rfl⟩
  refine zq (yA (mI e5_1 (zf fa52_3 e2_1 (zL 0 z47 rfl rfl rfl (zg (fun _ => R_len sl47 rfl) (zg (fun _ => R_lt rfl rfl) (yB ?_))))))); refine zD rfl (fun h2 => ?_) (fun h2 => ?_)
  · have hlt : k < ks.length := (by omega); obtain ⟨x, hxk⟩ : ∃ x, ks[k]? = some x := ⟨_, List.getElem?_eq_getElem hlt⟩; obtain ⟨cs, hA, hE⟩ := hks.get0 hxk; have hxn := exsW_mem (List.mem_of_getElem? hxk); obtain ⟨b1, o1, rfl⟩ := hA.ptr; obtain ⟨op2, at2, nm2, ks2⟩ := x; have hE2 := hE; unfold exM at hE2; obtain ⟨ka2, kc2, rfl, hkc2, hks2⟩ := hE2
    refine zi (zk (zq (zB (yA (zf fa52_0 e2_1 (zL 0 z5 rfl rfl rfl (zg (fun _ => R_eq rfl rfl) (mB rfl ?_)))))))); refine zd (t := 16) rfl (fun h3 => ?_) (fun h3 => ?_)
    · refine zw rfl rfl (bT h3) (zf fa52_3 e2_1 (zw rfl rfl (bT h3) (zL 0 z47 rfl rfl rfl (zw rfl rfl (bT h3) (mI e5_1 (zw rfl rfl (bT h3) (zg (fun _ => R_iaN (i := k) sl47 rfl rfl (by omega)) (zw rfl rfl (bT h3) (w_loadC (l := [.int .u8 (op2 : Nat), .int .i64 at2, str nm2, .slice ka2 ks2.length kc2]) z52 rfl rfl (fun w h j v hj => hA.cell (fun _ _ hh => hh) zm0 h j v hj) (zw rfl rfl (bT h3) (mS e1_1 (zw rfl rfl (bT h3) (zC (fun w => zR Tryz.func17 rfl rfl rfl) rfl rfl (fun w h => hangs_ok _ _ vs va vc w (by omega) (hp1 (by omega) _ (List.mem_of_getElem? hxk)) (hE.nowT zm0 h) (hv.nowT zm0 h) hvl) (zg (v := .bool _) (fun _ => zT (bT h3) rfl) (mB rfl (zw rfl rfl rfl (zf fa52_3 e2_1 (zw rfl rfl rfl (zL 0 z47 rfl rfl rfl (zw rfl rfl rfl (mI e5_1 (zw rfl rfl rfl (zg (fun _ => R_iaN (i := k) sl47 rfl rfl (by omega)) (zw rfl rfl rfl (w_loadC (l := [.int .u8 (op2 : Nat), .int .i64 at2, str nm2, .slice ka2 ks2.length kc2]) z52 rfl rfl (fun w h j v hj => hA.cell (fun _ _ hh => hh) zm0 h j v hj) (zw rfl rfl rfl (mS e1_1 (zw rfl rfl rfl (zC (fun w => zR Tryz.func36 rfl rfl rfl) rfl rfl (fun w h => ih _ _ vs va vc w (by omega) (hp2 _ (List.mem_of_getElem? hxk)) (hE.nowT zm0 h) (hv.nowT zm0 h) hvl) (zw rfl rfl rfl (zg (fun _ => R_not rfl) (zg (v := .bool _) (fun _ => zF rfl rfl) (yB (zG rfl (zi (zO (zk (zr (mI e5_1 (zg (fun _ => R_addi rfl rfl (by omega)) (aI rfl (zn ?_)))))))))))))))))))))))))))))))))))))))))); exact k_again _ (by omega) ⟨k + 1, e1_1, e2_1, rfl, rfl, rfl, by omega, rfl⟩
    · refine zs rfl rfl (bF h3) (zs rfl rfl (bF h3) (zs rfl rfl (bF h3) (zs rfl rfl (bF h3) (zs rfl rfl (bF h3) (zs rfl rfl (bF h3) (zs rfl rfl (bF h3) (zg (v := .bool _) (fun _ => zF (bF h3) rfl) (mB rfl (zw rfl rfl rfl (zf fa52_3 e2_1 (zw rfl rfl rfl (zL 0 z47 rfl rfl rfl (zw rfl rfl rfl (mI e5_1 (zw rfl rfl rfl (zg (fun _ => R_iaN (i := k) sl47 rfl rfl (by omega)) (zw rfl rfl rfl (w_loadC (l := [.int .u8 (op2 : Nat), .int .i64 at2, str nm2, .slice ka2 ks2.length kc2]) z52 rfl rfl (fun w h j v hj => hA.cell (fun _ _ hh => hh) zm0 h j v hj) (zw rfl rfl rfl (mS e1_1 (zw rfl rfl rfl (zC (fun w => zR Tryz.func36 rfl rfl rfl) rfl rfl (fun w h => ih _ _ vs va vc w (by omega) (hp2 _ (List.mem_of_getElem? hxk)) (hE.nowT zm0 h) (hv.nowT zm0 h) hvl) (zw rfl rfl rfl (zg (fun _ => R_not rfl) (zg (v := .bool _) (fun _ => zF rfl rfl) (yB (zG rfl (zi (zO (zk (zr (mI e5_1 (zg (fun _ => R_addi rfl rfl (by omega)) (aI rfl (zn ?_))))))))))))))))))))))))))))))))))); exact k_again _ (by omega) ⟨k + 1, e1_1, e2_1, rfl, rfl, rfl, by omega, rfl⟩
  · refine zX (zx (zx (b_here rfl (zk (yA (aB rfl (yB (ze (zo (v := .bool _) rfl rfl rfl ?_))))))))); exact fun w' hw => ⟨rfl, hw.fr _ zm0⟩

theorem places_all : ∀ n : Nat, n ≤ 10000000 → PlH n
  | 0, _ => fun _ _ _ _ _ _ h => absurd h (Nat.not_lt_zero _)
  | n + 1, h => places_step n (places_all n (by omega)) (by omega)
theorem places_ok : PlH 10000000 := places_all _ (Nat.le_refl _)

theorem cnt_of {op k n : Nat} (h : (decide (op = 4) || decide (op = 5) || (decide (op = 1) && decide (k = 0) && decide (n = 2))) = true) : op = 4 ∨ op = 5 ∨ (op = 1 ∧ k = 0 ∧ n = 2) := by
  simp only [Bool.or_eq_true, Bool.and_eq_true, decide_eq_true_eq] at h; omega

theorem chosen_step (n : Nat) (ih : ChH n) (hn : n ≤ 10000000) (l : List Sm) (a : Option Addr) (c : Nat) (vs : List Vr) (va : Option Addr) (vc : Nat) (w : World) (hl : smsW l < n + 1) (hok : chosenK vs l = true) (hll : l.length ≤ 10000000) (hm : smsM w (fun _ => True) l a 0) (hv : vrsV w (fun _ => True) vs (va, vc)) (hvl : vs.length ≤ 90000000) :
    Ret Tryz.prog 18 #[.slice a l.length c, .slice va vs.length vc] w (fun v w' => v = .bool true ∧ Ext w w') := by
  refine enter (S := No) (l := [_, _]) (L := []) 103 Tryz.func18 rfl rfl rfl (St.start w No) (yA (aB rfl (yB (zq (yA (aI rfl (yB (zB (c_loop (fun m e B L => ∃ (i : Nat), e 0 = .slice a l.length c ∧ e 1 = .slice va vs.length vc ∧ e 5 = .int .i64 (i : Nat) ∧ B = [(w, No)] ∧ L = [] ∧ i ≤ l.length ∧ m = l.length - i) _ ⟨0, rfl, rfl, rfl, rfl, rfl, Nat.zero_le _, rfl⟩ ?_)))))))))
  rintro m e B L ⟨i, e0_1, e1_1, e5_1, rfl, rfl, hi, rfl⟩
  refine zq (yA (mI e5_1 (mS e0_1 (zg (fun _ => R_len sl27 rfl) (zg (fun _ => R_lt rfl rfl) (yB ?_)))))); refine zD rfl (fun h1 => ?_) (fun h1 => ?_)
  · have hlt : i < l.length := (by omega); obtain ⟨x, hxi⟩ : ∃ x, l[i]? = some x := ⟨_, List.getElem?_eq_getElem hlt⟩; obtain ⟨cs, hA, hE⟩ := hm.get0 hxi; have hxn := smsW_mem (List.mem_of_getElem? hxi); have hxo := chosenK_mem hok _ (List.mem_of_getElem? hxi); obtain ⟨b1, o1, rfl⟩ := hA.ptr; obtain ⟨op, at_, nm, ks, bo, el⟩ := x; obtain ⟨hp1, hp2, hp3⟩ := chosen_parts hxo; have hE2 := hE; unfold smM at hE2; obtain ⟨ka, kc, ba, bc, ea, ec, rfl, hkc, hks, hbo, hel⟩ := hE2; have hxw := hxn; unfold smW at hxw
    refine zi (zk (zq (zB (zq (yA (aI rfl (yB (zB (c_loop (fun m e B L => ∃ (k : Nat), e 0 = .slice (some ⟨b1, o1, none⟩) l.length c ∧ e 1 = .slice va vs.length vc ∧ e 5 = .int .i64 (i : Nat) ∧ e 6 = .int .i64 (k : Nat) ∧ B = [(w, No)] ∧ L = [] ∧ k ≤ ks.length ∧ m = ks.length - k) _ ⟨0, e0_1, e1_1, e5_1, rfl, rfl, rfl, Nat.zero_le _, rfl⟩ ?_)))))))))
    rintro m e B L ⟨k, e0_2, e1_2, e5_2, e6_2, rfl, rfl, hk, rfl⟩
    refine zq (yA (mI e6_2 (mS e0_2 (mI e5_2 (zg (fun _ => R_iaN (i := i) sl27 rfl rfl (by omega)) (zf fa79_3 rfl (zl (v := .slice ka ks.length kc) z47 rfl (fun w h => hA.cell (x := (_, No)) (fun _ _ h => h) zm0 h 3 _ rfl) (zg (fun _ => R_len sl47 rfl) (zg (fun _ => R_lt rfl rfl) (yB ?_)))))))))); refine zD rfl (fun h2 => ?_) (fun h2 => ?_)
    · have hlt : k < ks.length := (by omega); obtain ⟨x, hxk⟩ : ∃ x, ks[k]? = some x := ⟨_, List.getElem?_eq_getElem hlt⟩; obtain ⟨cs3, hA3, hE3⟩ := hks.get0 hxk; have hxn := exsW_mem (List.mem_of_getElem? hxk); obtain ⟨b3, o3, rfl⟩ := hA3.ptr; obtain ⟨op2, at2, nm2, ks2⟩ := x; have hE2 := hE3; unfold exM at hE2; obtain ⟨ka2, kc2, rfl, hkc2, hks2⟩ := hE2; have hpk := hp1 k _ hxk
      refine zi (zk (zq (zB ?_))); refine c_cut (fun e B L => e 0 = .slice (some ⟨b1, o1, none⟩) l.length c ∧ e 1 = .slice va vs.length vc ∧ e 5 = .int .i64 (i : Nat) ∧ e 6 = .int .i64 (k : Nat) ∧ e 7 = .bool (decide (op = 4) || decide (op = 5) || (decide (op = 1) && decide (k = 0) && decide (ks.length = 2))) ∧ B = [(w, No)] ∧ L = []) ?_ ?_
      · refine zr (mS e0_2 (mI e5_2 (zg (fun _ => R_iaN (i := i) sl27 rfl rfl (by omega)) (zf fa79_0 rfl (zl (v := .int .u8 (op : Nat)) z5 rfl (fun w h => hA.cell (x := (_, No)) (fun _ _ h => h) zm0 h 0 _ rfl) (zg (fun _ => R_eq rfl rfl) (mB rfl ?_))))))); refine zd (t := 30) rfl (fun h3 => ?_) (fun h3 => ?_)
        · refine zs rfl rfl (bT h3) (zs rfl rfl (bT h3) (zs rfl rfl (bT h3) (zs rfl rfl (bT h3) (zs rfl rfl (bT h3) (zs rfl rfl (bT h3) (zg (v := .bool _) (fun _ => zT (bT h3) rfl) (mB rfl ?_))))))); (iterate 7 refine zs rfl rfl rfl ?_); refine zU rfl rfl rfl (zU rfl rfl rfl ?_); (iterate 2 refine zs rfl rfl rfl ?_); refine zU rfl rfl rfl (zU rfl rfl rfl (zU rfl rfl rfl (zU rfl rfl rfl (zU rfl rfl rfl (zU rfl rfl rfl (zU rfl rfl rfl (zs rfl rfl rfl ?_)))))))
          refine zg (v := .bool _) (fun _ => zT rfl rfl) (aB rfl (zn ?_)); exact k_mid ⟨e0_2, e1_2, e5_2, e6_2, (by first | (refine (congrArg Value.bool ?_); clear hv hm hE hE3 hA hA3; grind) ), rfl, rfl⟩
        · refine zw rfl rfl (bF h3) (mS e0_2 (zw rfl rfl (bF h3) (mI e5_2 (zw rfl rfl (bF h3) (zg (fun _ => R_iaN (i := i) sl27 rfl rfl (by omega)) (zw rfl rfl (bF h3) (zf fa79_0 rfl (zw rfl rfl (bF h3) (zl (v := .int .u8 (op : Nat)) z5 rfl (fun w h => hA.cell (x := (_, No)) (fun _ _ h => h) zm0 h 0 _ rfl) (zw rfl rfl (bF h3) (zg (fun _ => R_eq rfl rfl) (zg (v := .bool _) (fun _ => zF (bF h3) rfl) (mB rfl ?_))))))))))))); refine zd (t := 38) rfl (fun h4 => ?_) (fun h4 => ?_)
          · refine zs rfl rfl (bT h4) (zs rfl rfl (bT h4) (zs rfl rfl (bT h4) (zs rfl rfl (bT h4) (zs rfl rfl (bT h4) (zs rfl rfl (bT h4) (zs rfl rfl (bT h4) (zU rfl rfl rfl (zU rfl rfl rfl (zs rfl rfl (bT h4) (zs rfl rfl (bT h4) (zU rfl rfl rfl (zU rfl rfl rfl (zU rfl rfl rfl (zU rfl rfl rfl (zU rfl rfl rfl (zU rfl rfl rfl (zU rfl rfl rfl (zs rfl rfl (bT h4) (zg (v := .bool _) (fun _ => zT (bT h4) rfl) (aB rfl (zn ?_))))))))))))))))))))); exact k_mid ⟨e0_2, e1_2, e5_2, e6_2, (by first | (refine (congrArg Value.bool ?_); clear hv hm hE hE3 hA hA3; grind) ), rfl, rfl⟩
          · refine zw rfl rfl (bF h4) (mS e0_2 (zw rfl rfl (bF h4) (mI e5_2 (zw rfl rfl (bF h4) (zg (fun _ => R_iaN (i := i) sl27 rfl rfl (by omega)) (zw rfl rfl (bF h4) (zf fa79_0 rfl (zw rfl rfl (bF h4) (zl (v := .int .u8 (op : Nat)) z5 rfl (fun w h => hA.cell (x := (_, No)) (fun _ _ h => h) zm0 h 0 _ rfl) (zw rfl rfl (bF h4) (zg (fun _ => R_eq rfl rfl) (zw rfl rfl (bF h4) (mB rfl ?_))))))))))))); refine zd (t := 45) rfl (fun h5 => ?_) (fun h5 => ?_)
            · refine zw rfl rfl (bT h5) (mI e6_2 (zw rfl rfl (bT h5) (zg (fun _ => R_eq rfl rfl) (zw rfl rfl (bF h4) (zg (v := .bool _) (fun _ => zT (bT h5) rfl) (zw rfl rfl (bF h4) (mB rfl ?_))))))); refine zd (t := 49) rfl (fun h6 => ?_) (fun h6 => ?_)
              · refine zw rfl rfl (bT h6) (mS e0_2 (zw rfl rfl (bT h6) (mI e5_2 (zw rfl rfl (bT h6) (zg (fun _ => R_iaN (i := i) sl27 rfl rfl (by omega)) (zw rfl rfl (bT h6) (zf fa79_3 rfl (zw rfl rfl (bT h6) (zl (v := .slice (some ⟨b3, o3, none⟩) ks.length kc) z47 rfl (fun w h => hA.cell (x := (_, No)) (fun _ _ h => h) zm0 h 3 _ rfl) (zw rfl rfl (bT h6) (zg (fun _ => R_len sl47 rfl) (zw rfl rfl (bT h6) (zg (fun _ => R_eq rfl rfl) (zw rfl rfl (bF h4) (zg (v := .bool _) (fun _ => zT (bT h6) rfl) (zg (v := .bool _) (fun _ => zF (bF h4) rfl) (aB rfl (zn ?_)))))))))))))))))); exact k_mid ⟨e0_2, e1_2, e5_2, e6_2, (by first | (refine (congrArg Value.bool ?_); clear hv hm hE hE3 hA hA3; grind) ), rfl, rfl⟩
              · refine zs rfl rfl (bF h6) (zs rfl rfl (bF h6) (zs rfl rfl (bF h6) (zs rfl rfl (bF h6) (zs rfl rfl (bF h6) (zs rfl rfl (bF h6) (zs rfl rfl (bF h6) (zw rfl rfl (bF h4) (zg (v := .bool _) (fun _ => zF (bF h6) rfl) (zg (v := .bool _) (fun _ => zF (bF h4) rfl) (aB rfl (zn ?_))))))))))); exact k_mid ⟨e0_2, e1_2, e5_2, e6_2, (by first | (refine (congrArg Value.bool ?_); clear hv hm hE hE3 hA hA3; grind) ), rfl, rfl⟩
            · refine zs rfl rfl (bF h5) (zs rfl rfl (bF h5) (zw rfl rfl (bF h4) (zg (v := .bool _) (fun _ => zF (bF h5) rfl) (zw rfl rfl (bF h4) (mB rfl ?_))))); (iterate 7 refine zs rfl rfl rfl ?_); refine zw rfl rfl (bF h4) (zg (v := .bool _) (fun _ => zF rfl rfl) (zg (v := .bool _) (fun _ => zF (bF h4) rfl) (aB rfl (zn ?_)))); exact k_mid ⟨e0_2, e1_2, e5_2, e6_2, (by first | (refine (congrArg Value.bool ?_); clear hv hm hE hE3 hA hA3; grind) ), rfl, rfl⟩
      rintro e B L ⟨e0_3, e1_3, e5_3, e6_3, e7_3, rfl, rfl⟩
      refine yA (mB e7_3 (mB rfl ?_)); refine zp (t := 60) rfl (fun h7 => ?_) (fun h7 => ?_)
      · refine zw rfl rfl (bV h7) (mS e0_3 (zw rfl rfl (bV h7) (mI e5_3 (zw rfl rfl (bV h7) (zg (fun _ => R_iaN (i := i) sl27 rfl rfl (by omega)) (zw rfl rfl (bV h7) (zf fa79_3 rfl (zw rfl rfl (bV h7) (zl (v := .slice (some ⟨b3, o3, none⟩) ks.length kc) z47 rfl (fun w h => hA.cell (x := (_, No)) (fun _ _ h => h) zm0 h 3 _ rfl) (zw rfl rfl (bV h7) (mI e6_3 (zw rfl rfl (bV h7) (zg (fun _ => R_iaN (i := k) sl47 rfl rfl (by omega)) (zw rfl rfl (bV h7) (w_loadC (l := [.int .u8 (op2 : Nat), .int .i64 at2, str nm2, .slice ka2 ks2.length kc2]) z52 rfl rfl (fun w h j v hj => hA3.cell (fun _ _ hh => hh) zm0 h j v hj) (zw rfl rfl (bV h7) (mS e1_3 (zw rfl rfl (bV h7) (zC (fun w => zR Tryz.func17 rfl rfl rfl) rfl rfl (fun w h => hangs_ok _ _ vs va vc w (by omega) (hpk.1 (cnt_of (by assumption))) (hE3.nowT zm0 h) (hv.nowT zm0 h) hvl) (zg (v := .bool _) (fun _ => zT (bV h7) rfl) (mB rfl (zw rfl rfl rfl (mS e0_3 (zw rfl rfl rfl (mI e5_3 (zw rfl rfl rfl (zg (fun _ => R_iaN (i := i) sl27 rfl rfl (by omega)) (zw rfl rfl rfl (zf fa79_3 rfl (zw rfl rfl rfl (zl (v := .slice (some ⟨b3, o3, none⟩) ks.length kc) z47 rfl (fun w h => hA.cell (x := (_, No)) (fun _ _ h => h) zm0 h 3 _ rfl) (zw rfl rfl rfl (mI e6_3 (zw rfl rfl rfl (zg (fun _ => R_iaN (i := k) sl47 rfl rfl (by omega)) (zw rfl rfl rfl (w_loadC (l := [.int .u8 (op2 : Nat), .int .i64 at2, str nm2, .slice ka2 ks2.length kc2]) z52 rfl rfl (fun w h j v hj => hA3.cell (fun _ _ hh => hh) zm0 h j v hj) (zw rfl rfl rfl (mS e1_3 (zw rfl rfl rfl (zC (fun w => zR Tryz.func36 rfl rfl rfl) rfl rfl (fun w h => places_ok _ _ vs va vc w (by omega) hpk.2 (hE3.nowT zm0 h) (hv.nowT zm0 h) hvl) (zw rfl rfl rfl (zg (fun _ => R_not rfl) (zg (v := .bool _) (fun _ => zF rfl rfl) (yB (zG rfl (zi (zO (zk (zr (mI e6_3 (zg (fun _ => R_addi rfl rfl (by omega)) (aI rfl (zn ?_)))))))))))))))))))))))))))))))))))))))))))))))))))))); exact k_again _ (by omega) ⟨k + 1, e0_3, e1_3, e5_3, rfl, rfl, rfl, by omega, rfl⟩
      · refine zs rfl rfl (bV h7) (zs rfl rfl (bV h7) (zs rfl rfl (bV h7) (zs rfl rfl (bV h7) (zs rfl rfl (bV h7) (zs rfl rfl (bV h7) (zs rfl rfl (bV h7) (zs rfl rfl (bV h7) (zs rfl rfl (bV h7) (zs rfl rfl (bV h7) (zg (v := .bool _) (fun _ => zF (bV h7) rfl) (mB rfl (zw rfl rfl rfl (mS e0_3 (zw rfl rfl rfl (mI e5_3 (zw rfl rfl rfl (zg (fun _ => R_iaN (i := i) sl27 rfl rfl (by omega)) (zw rfl rfl rfl (zf fa79_3 rfl (zw rfl rfl rfl (zl (v := .slice (some ⟨b3, o3, none⟩) ks.length kc) z47 rfl (fun w h => hA.cell (x := (_, No)) (fun _ _ h => h) zm0 h 3 _ rfl) (zw rfl rfl rfl (mI e6_3 (zw rfl rfl rfl (zg (fun _ => R_iaN (i := k) sl47 rfl rfl (by omega)) (zw rfl rfl rfl (w_loadC (l := [.int .u8 (op2 : Nat), .int .i64 at2, str nm2, .slice ka2 ks2.length kc2]) z52 rfl rfl (fun w h j v hj => hA3.cell (fun _ _ hh => hh) zm0 h j v hj) (zw rfl rfl rfl (mS e1_3 (zw rfl rfl rfl (zC (fun w => zR Tryz.func36 rfl rfl rfl) rfl rfl (fun w h => places_ok _ _ vs va vc w (by omega) hpk.2 (hE3.nowT zm0 h) (hv.nowT zm0 h) hvl) (zw rfl rfl rfl (zg (fun _ => R_not rfl) (zg (v := .bool _) (fun _ => zF rfl rfl) (yB (zG rfl (zi (zO (zk (zr (mI e6_3 (zg (fun _ => R_addi rfl rfl (by omega)) (aI rfl (zn ?_)))))))))))))))))))))))))))))))))))))))))))); exact k_again _ (by omega) ⟨k + 1, e0_3, e1_3, e5_3, rfl, rfl, rfl, by omega, rfl⟩
    · refine zX (zx (zx (b_here rfl (zk (yA (mS e0_2 (mI e5_2 (zg (fun _ => R_iaN (i := i) sl27 rfl rfl (by omega)) (zf fa79_4 rfl (zl (v := .slice ba bo.length bc) z27 rfl (fun w h => hA.cell (x := (_, No)) (fun _ _ h => h) zm0 h 4 _ rfl) (mS e1_2 (zC (fun w => zR Tryz.func18 rfl rfl rfl) rfl rfl (fun w h => ih bo ba bc vs va vc w (by omega) hp2 (by omega) (hbo.nowT zm0 h) (hv.nowT zm0 h) hvl) (zg (fun _ => R_not rfl) (mB rfl (zw rfl rfl rfl (mS e0_2 (zw rfl rfl rfl (mI e5_2 (zw rfl rfl rfl (zg (fun _ => R_iaN (i := i) sl27 rfl rfl (by omega)) (zw rfl rfl rfl (zf fa79_5 rfl (zw rfl rfl rfl (zl (v := .slice ea el.length ec) z27 rfl (fun w h => hA.cell (x := (_, No)) (fun _ _ h => h) zm0 h 5 _ rfl) (zw rfl rfl rfl (mS e1_2 (zw rfl rfl rfl (zC (fun w => zR Tryz.func18 rfl rfl rfl) rfl rfl (fun w h => ih el ea ec vs va vc w (by omega) hp3 (by omega) (hel.nowT zm0 h) (hv.nowT zm0 h) hvl) (zw rfl rfl rfl (zg (fun _ => R_not rfl) (zg (v := .bool _) (fun _ => zF rfl rfl) (yB (zG rfl (zi (zO (zk (zr (mI e5_2 (zg (fun _ => R_addi rfl rfl (by omega)) (aI rfl (zn ?_))))))))))))))))))))))))))))))))))))))))); exact k_again _ (by omega) ⟨i + 1, e0_2, e1_2, rfl, rfl, rfl, by omega, rfl⟩
  · refine zX (zx (zx (b_here rfl (zk (yA (aB rfl (yB (ze (zo (v := .bool _) rfl rfl rfl ?_))))))))); exact fun w' hw => ⟨rfl, hw.fr _ zm0⟩

theorem chosen_all : ∀ n : Nat, n ≤ 10000000 → ChH n
  | 0, _ => fun _ _ _ _ _ _ _ h => absurd h (Nat.not_lt_zero _)
  | n + 1, h => chosen_step n (chosen_all n (by omega)) (by omega)
theorem chosen_ok : ChH 10000000 := chosen_all _ (Nat.le_refl _)
end Go.Proofs.YtoehjlmdnajibaaGreatDoor
end

section
namespace Go.Proofs.YtoehjlmdnajibaaGreatDoor
open Go.RowKit Go.Sx
open Go.Tok Go.Tree Go.Knd Go.Prs

theorem own_vr {w : World} {T : TypeId} {l : List Vr} {a : Option Addr} {c : Nat} {W : Heap} (h : Own T 4 (.slice a l.length c) (vrsC l) l.length W) (hW : ∀ p ∈ W, w.heap[p.1]? = some p.2) : vrsV w (fun _ => True) l (a, c) := by
 obtain ⟨⟨a1, c1⟩, he, hv⟩ := own_vrs (N := fun _ => True) h hW (fun _ _ => trivial)
 cases he; exact hv
theorem own_more {T : TypeId} {l : List Vr} {v : Vr} {r : Value} {W : Heap} (h : Own T 4 r (vrsC l ++ vrC v) (l.length + 1) W) : ∃ (a : Option Addr) (c : Nat), r = .slice a (l ++ [v]).length c ∧ Own T 4 (.slice a (l ++ [v]).length c) (vrsC (l ++ [v])) (l ++ [v]).length W := by
 rw [← vrsC_snoc, show l.length + 1 = (l ++ [v]).length by simp] at h
 obtain ⟨a, c, rfl⟩ := h.slice
 exact ⟨a, c, rfl, h⟩
theorem vrs_cell {w : World} {l : List Vr} {b o c k : Nat} {v : Vr} (h : vrsV w (fun _ => True) l (some ⟨b, o, none⟩, c)) (hk : l[k]? = some v) (j : Nat) (u : Value) (hu : (vrC v)[j]? = some u) : w.cell? ⟨b, o + k * 4 + j, none⟩ = some u := by
 obtain ⟨b', o', ha, _, hc⟩ := h.2 k v hk
 cases ha
 exact hc j u hu
theorem sub_len {n a : Nat} {cs l : List Value} (h : (cs.drop (a * n)).take n = l) {j : Nat} {v : Value} (hj : l[j]? = some v) : cs[a * n + j]? = some v := by
 subst h
 rw [List.getElem?_take] at hj
 split at hj
 ·rwa [List.getElem?_drop] at hj
 ·cases hj

theorem pg_bk {p : List Bk} {i : Nat} {b : Bk} (hok : pgOk p = true) (hi : i < 6) (hb : p[i]? = some b) : bkOk i b = true := by
 unfold pgOk at hok
 rw [List.all_eq_true] at hok
 have h1 := hok i (List.mem_range.2 hi)
 rw [hb] at h1; exact h1
theorem drop_cons {α : Type} {l : List α} {i : Nat} {x : α} (h : l[i]? = some x) : l.drop i = x :: l.drop (i + 1) := by
 obtain ⟨hi, hx⟩ := List.getElem?_eq_some_iff.1 h
 rw [List.drop_eq_getElem_cons hi, hx]
theorem all_ok {p : List Bk} {l : List Vr} (h : allK p = .ok l) : pgOk p = true ∧ blocksK 0 [] p = .ok l := by
 unfold allK at h
 split at h
 ·rename_i h1; exact ⟨h1, h⟩
 ·cases h
theorem pre_get {l l0 : List Vr} (h : l <+: l0) {k : Nat} {v : Vr} (hk : l[k]? = some v) : l0[k]? = some v := by
 obtain ⟨r, rfl⟩ := h
 rw [List.getElem?_append_left (List.getElem?_eq_some_iff.1 hk).1]; exact hk
theorem decls_end {i k : Nat} {l l2 : List Vr} {ds : List Dc} (h : declsK i l (ds.drop k) = .ok l2) (hk : ds.length ≤ k) : l = l2 := by
 rw [List.drop_of_length_le hk, declsK] at h; cases h; rfl
theorem bk_dc {i : Nat} {b : Bk} (h : bkOk i b = true) {d : Dc} (hd : d ∈ b.decls) : dcOk d = true := (bk_facts h).1 d hd

theorem cell_run {xs : List Value} {j : Nat} {l : List Value} (h : (xs.drop (j * 4)).take 4 = l) (q : Nat) (u : Value) (hq : l[q]? = some u) : xs[j * 4 + q]? = some u := by
 rw [← h, List.getElem?_take] at hq
 split at hq
 ·rwa [List.getElem?_drop] at hq
 ·cases hq

theorem levels15_walk (p : List Bk) (cs : List Value) (w : World) (hW : Wd w) (hng : 4 ≤ w.heap.size) (hp : ∀ b ∈ p, bkW b ≤ 1048576) (hm : pgM w (fun _ => True) p cs) :
  Ret Tryz.prog 6 #[.agg cs.toArray] w (fun v w' => v = .bool true ∧ Ext w w') := by
 refine enter (S := No) (l := [_]) (L := []) 84 Tryz.func6 rfl rfl rfl (St.start w No) (yA (w_boxA rfl (fun t1b gt1b ut1b => aB rfl (yB (zq (yA (w_loadW z32 rfl (fun w h => h.at_ 0 rfl) hm.len (zC (fun w => zR Tryz.func12 rfl rfl rfl) rfl rfl (fun w h => Small_spec p cs (fun _ => True) w (fun b hb => Nat.lt_of_le_of_lt (hp b hb) (by decide)) (hm.now (x := (_, No)) (fun _ _ h => h) zm0 h)) (zg (fun _ => R_not rfl) (mB rfl ?_)))))))))); refine zp (t := 14) rfl (fun h2 => ?_) (fun h2 => ?_)
 ·refine zs rfl rfl (bV h2) (zs rfl rfl (bV h2) (zs rfl rfl (bV h2) (zs rfl rfl (bV h2) (zg (v := .bool _) (fun _ => zT (bV h2) rfl) (yB (zE rfl (yA (zC (v := .bool true) (fun w => zR Tryz.func9 rfl rfl rfl) rfl rfl (fun w h => head15_ok w (hW.now zm0 h) (Nat.le_trans hng (h.fr _ zm0).size)) (aB rfl (yB (ze (zt ((zo (v := .bool _) rfl rfl rfl ?_)))))))))))))); exact fun w' hw => ⟨rfl, hw.fr _ zm0⟩
 ·refine zw rfl rfl (bV h2) (w_loadW z32 rfl (fun w h => h.at_ 0 rfl) hm.len (zw rfl rfl (bV h2) ?_))
  rcases hX : allK p with f | l0
  ·have hbad := bad_all p f hX; refine zC (fun w => zR Tryz.func14 rfl rfl rfl) rfl rfl (fun w h => kCheck_er p cs w (fun b hb => Nat.lt_of_le_of_lt (hp b hb) (by decide)) (hm.now (x := (_, No)) (fun _ _ h => h) zm0 h) (hW.now zm0 h) hX) ?_
   refine zw rfl rfl (bV h2) (zg (fun _ => R_fieldA fd37_0 z35 rfl rfl) (zw rfl rfl (bV h2) (zg (fun _ => R_ne rfl rfl) (zg (v := .bool _) (fun _ => zF (bV h2) rfl) (yB ?_))))); refine zD rfl (fun h3 => ?_) (fun h3 => ?_)
   ·refine yA (zC (v := .bool true) (fun w => zR Tryz.func9 rfl rfl rfl) rfl rfl (fun w h => head15_ok w (hW.now zm0 h) (Nat.le_trans hng (h.fr _ zm0).size)) (aB rfl (yB (ze (zt ((zo (v := .bool _) rfl rfl rfl ?_))))))); exact fun w' hw => ⟨rfl, hw.fr _ zm0⟩
   ·exfalso; omega
  ·refine zC (fun w => zR Tryz.func14 rfl rfl rfl) rfl rfl (fun w h => kCheck_at p cs w (fun b hb => Nat.lt_of_le_of_lt (hp b hb) (by decide)) (hm.now (x := (_, No)) (fun _ _ h => h) zm0 h) (hW.now zm0 h) hX) (zw rfl rfl (bV h2) (zg (fun _ => R_fieldA fd37_0 z35 rfl rfl) (zw rfl rfl (bV h2) (zg (fun _ => R_ne rfl rfl) (zg (v := .bool _) (fun _ => zF (bV h2) rfl) (yB (zG (congrArg Value.bool (decide_eq_false (by decide))) (zi (zk (yA (w_loadW z32 rfl (fun w h => h.at_ 0 rfl) hm.len (zP (fun w => zR Tryz.func16 rfl rfl rfl) rfl rfl (fun w h => kVars_at p cs w (fun b hb => Nat.lt_of_le_of_lt (hp b hb) (by decide)) (hm.now (x := (_, No)) (fun _ _ h => h) zm0 h) (hW.now zm0 h) hX) ?_))))))))))))
   rintro w1 hw1 v w2 ⟨⟨a0, c0⟩, rfl, hM, hxx⟩; refine ⟨_, _, (hw1.ext hxx).base1, ?_⟩; have hK0 : Kt (w2, inL [_]) w.heap.size vrsW l0 (a0, c0) := Kt.new hM TL.vrw hw1 (hw1.fr _ zm0).size; have hcl : l0.length ≤ c0 := hM.1.1; have hl0 := allK_len (m := 1048576) hm.six (fun b hb => by have := hp b hb; unfold bkW at this; omega) hX; clear hM; obtain ⟨hok, hG0⟩ := all_ok hX
   refine za (v := .slice _ _ _) rfl (yC (za (v := .slice _ _ _) rfl (yB (zq (yA (aI rfl (yB (zB (c_loop (fun m e B L => ∃ (i : Nat) (vs : List Vr) (va : Option Addr) (vc : Nat) (W : Heap), e 1 = .pointer (some ⟨t1b, 0, none⟩) ∧ e 3 = .slice a0 l0.length c0 ∧ e 4 = .slice va vs.length vc ∧ e 5 = .int .i64 (i : Nat) ∧ B = [(w2, inL [(t1b, cel cs 32)]), (w, No)] ∧ L = (t1b, cel cs 32) :: (W ++ []) ∧ i ≤ 6 ∧ Own 54 4 (.slice va vs.length vc) (vrsC vs) vs.length W ∧ uniq vs ∧ blocksK i vs (p.drop i) = .ok l0 ∧ vs.length ≤ l0.length ∧ m = 6 - i) _ ⟨0, [], none, 0, [], rfl, rfl, rfl, rfl, rfl, rfl, Nat.zero_le _, (Own.nil _ 4), uniq_nil, hG0, Nat.zero_le _, rfl⟩ ?_)))))))))
   rintro m e B L ⟨i, vs, va, vc, W, e1_1, e3_1, e4_1, e5_1, rfl, rfl, hi, hO, hu, hG, hvl, rfl⟩
   refine zq (yA (mI e5_1 (zg (fun _ => R_lt rfl rfl) (yB ?_)))); refine zD rfl (fun h4 => ?_) (fun h4 => ?_)
   ·have hi6 : i < 6 := (by omega); obtain ⟨b, hb⟩ : ∃ b, p[i]? = some b := ⟨_, List.getElem?_eq_getElem (by rw [hm.six]; exact hi6)⟩; have hbw := hp b (List.mem_of_getElem? hb); unfold bkW at hbw; obtain ⟨da, dc, sa, sc, hcb, hds, hss⟩ := hm.one i b hb; have hbk := pg_bk hok hi6 hb; have hG2 := hG; rw [drop_cons hb] at hG2; obtain ⟨l3, hD0, hu3, hp3, hch, hG3⟩ := blocksK_step hu hbk hG2; have hl3 := hp3.length_le
    refine zi (zk (zq (zB (yA (mI e5_1 (zf fa32_0 e1_1 (zg (fun _ => R_iaA (i := i) ara30 (by decide) rfl rfl (by omega)) (w_loadC (l := [.bool b.is, .slice da b.decls.length dc, .slice sa b.stmts.length sc]) z29 rfl rfl (fun w h j v hj => zc 0 rfl (by rw [show 0 + 0 + i * 3 + j = i * 3 + j by omega]; exact sub_len hcb hj) h) (zA zr29 (fun t6b gt6b ut6b => zV 0 rfl z29 rfl rfl rfl rfl rfl rfl rfl (yB (zq (yA (aI rfl (yB (zB (c_loop (fun m e B L => ∃ (k : Nat) (vs : List Vr) (va : Option Addr) (vc : Nat) (W : Heap), e 1 = .pointer (some ⟨t1b, 0, none⟩) ∧ e 3 = .slice a0 l0.length c0 ∧ e 4 = .slice va vs.length vc ∧ e 5 = .int .i64 (i : Nat) ∧ e 6 = .pointer (some ⟨t6b, 0, none⟩) ∧ e 7 = .int .i64 (k : Nat) ∧ B = [(w2, inL [(t1b, cel cs 32)]), (w, No)] ∧ L = (t6b, cel [.bool b.is, .slice da b.decls.length dc, .slice sa b.stmts.length sc] 29) :: (t1b, cel cs 32) :: (W ++ []) ∧ k ≤ b.decls.length ∧ Own 54 4 (.slice va vs.length vc) (vrsC vs) vs.length W ∧ uniq vs ∧ declsK i vs (b.decls.drop k) = .ok l3 ∧ m = b.decls.length - k) _ ⟨0, vs, va, vc, W, e1_1, e3_1, e4_1, e5_1, rfl, rfl, rfl, rfl, Nat.zero_le _, hO, hu, hD0, rfl⟩ ?_)))))))))))))))))
    rintro m e B L ⟨k, vs, va, vc, W, e1_2, e3_2, e4_2, e5_2, e6_2, e7_2, rfl, rfl, hk, hO, hu2, hD, rfl⟩
    refine zq (yA (mI e7_2 (zf fa29_1 e6_2 (zL 0 z26 rfl rfl rfl (zg (fun _ => R_len sl26 rfl) (zg (fun _ => R_lt rfl rfl) (yB ?_))))))); refine zD rfl (fun h6 => ?_) (fun h6 => ?_)
    ·have hlt : k < b.decls.length := (by omega); obtain ⟨x, hxk⟩ : ∃ x, b.decls[k]? = some x := ⟨_, List.getElem?_eq_getElem hlt⟩; have hdk := bk_dc hbk (List.mem_of_getElem? hxk); have hD2 := hD; rw [drop_cons hxk] at hD2; obtain ⟨hhg, hlt3, hvk, hu4, hD3⟩ := declsK_step hu2 hdk hD2; have hv0 := pre_get hp3 hvk; obtain ⟨cs2, hA, hE⟩ := hds k x hxk; have hxn := dcsW_mem (List.mem_of_getElem? hxk); obtain ⟨b1, o1, rfl⟩ := hA.ptr; have hE2 := hE; obtain ⟨ty, at_, nm, sz, lo, up, ini⟩ := x; unfold dcM at hE2; obtain ⟨xa, xc, la, lc, ua, uc, ia, ic, hcs, hsz, hlo, hup, hini⟩ := hE2; simp only [] at hcs hhg; subst hcs; have hdw := hxn; unfold dcW at hdw; simp only [] at hdw; obtain ⟨q9, o9, rfl⟩ : ∃ q o, a0 = some ⟨q, o, none⟩ := (hK0.1.2 _ _ hv0).ptr; obtain ⟨v9, hv9⟩ : ∃ v, v = Vr.mk nm ty (i : Int) (decide (2 ≤ i)) := ⟨_, rfl⟩; simp only [] at hv0 hvk hu4 hD3; rw [← hv9] at hv0 hvk hu4 hD3
     refine zi (zk (zq (zB (yA (zf fa29_1 e6_2 (zL 0 z26 rfl rfl rfl (mI e7_2 (zg (fun _ => R_iaN (i := k) sl26 rfl rfl (by omega)) (w_loadC (l := [.int .u8 (ty : Nat), .int .i64 at_, str nm, .slice xa sz.length xc, .slice la lo.length lc, .slice ua up.length uc, .slice ia ini.length ic]) z49 rfl rfl (fun w h j v hj => hA.cell (fun _ _ hh => hh) zm1 h j v hj) (zA zr49 (fun t8b gt8b ut8b => zV 0 rfl z49 rfl rfl rfl rfl rfl rfl rfl (yB (zq (yA (mS e4_2 (zg (fun _ => R_len sl34 rfl) (mS e3_2 (zg (fun _ => R_len sl34 rfl) (zg (fun _ => R_ge rfl rfl) (yB (zG (congrArg Value.bool (decide_eq_false (by omega))) (zi (zk (zq (c_held (fun w => w.heap[t8b]? = some (cel [.int .u8 (ty : Nat), .int .i64 at_, str nm, .slice xa sz.length xc, .slice la lo.length lc, .slice ua up.length uc, .slice ia ini.length ic] 49)) mixed (zh2 1 rfl rfl (fun w h => h.at_ 0 rfl) (fun w h => R_fa fa49_3 rfl) (zh2 2 rfl rfl (fun w h => h.at_ 0 rfl) (fun w h => R_ld1 z47 rfl (cell_of h rfl)) (zh2 4 rfl rfl (fun w h => h.at_ 0 rfl) (fun w h => R_fa fa49_4 rfl) (zh2 5 rfl rfl (fun w h => h.at_ 0 rfl) (fun w h => R_ld1 z47 rfl (cell_of h rfl)) (zh2 7 rfl rfl (fun w h => h.at_ 0 rfl) (fun w h => R_fa fa49_5 rfl) (zh2 8 rfl rfl (fun w h => h.at_ 0 rfl) (fun w h => R_ld1 z47 rfl (cell_of h rfl)) (zH2 0 (fun w h => h.at_ 0 rfl) (o_bslice0 rfl slt47 (fun lb glb ulb => zH2 3 (fun w h => h.at_ 1 rfl) (o_st (B' := _) (L' := [(lb, cel [] 52)] ++ ((t8b, cel [.int .u8 (ty : Nat), .int .i64 at_, str nm, .slice xa sz.length xc, .slice la lo.length lc, .slice ua up.length uc, .slice ia ini.length ic] 49) :: (t6b, cel [.bool b.is, .slice (some ⟨b1, o1, none⟩) b.decls.length dc, .slice sa b.stmts.length sc] 29) :: (t1b, cel cs 32) :: (W ++ []))) (fun w h => h) (o_exsM (X := (w, No)) (s0 := 0) rfl slt47 rfl own_lit0 rfl (exsM.nb _ _ _ hsz) zm1 (by omega) (by decide) (fun n1 v1 W1 hK1 hn1 hO1 => ?_)))))))))))))))))))))))))))))))))))))
     obtain ⟨aa1, cc1, rfl⟩ := hO1.slice
     refine zH2 6 (fun w h => h.at_ 0 rfl) (o_st (fun w h => h.perm List.perm_append_comm) (o_exsM (X := (w, No)) (s0 := 0) rfl slt47 rfl hO1 rfl (exsM.nb _ _ _ hlo) zm1 (by omega) (by decide) (fun n2 v2 W2 hK2 hn2 hO2 => ?_)))
     obtain ⟨aa2, cc2, rfl⟩ := hO2.slice
     refine zH2 9 (fun w h => h.at_ 0 rfl) (o_st (fun w h => h.perm List.perm_append_comm) (o_exsM (X := (w, No)) (s0 := 0) rfl slt47 rfl hO2 rfl (exsM.nb _ _ _ hup) zm1 (by omega) (by decide) (fun n3 v3 W3 hK3 hn3 hO3 => ?_)))
     obtain ⟨aa3, cc3, rfl⟩ := hO3.slice
     have hKa : Mc 4 exM w (Nb 0 (w, No)) ((sz ++ lo) ++ up) ((([] ++ n1) ++ n2) ++ n3) := Mc.app (Mc.app hK1 hn1 hK2) (by simp only [List.length_append, List.length_nil]; omega) hK3
     refine zh2 10 rfl rfl (fun w h => h.at_ 0 rfl) (fun w h => R_assign rfl) (zN2 (fun w h => h.at_ 0 rfl) (zk (zq (yA (aI rfl (yB (zB (c_loop (fun m e B L => ∃ (j : Nat), e 1 = .pointer (some ⟨t1b, 0, none⟩) ∧ e 3 = .slice (some ⟨q9, o9, none⟩) l0.length c0 ∧ e 4 = .slice va vs.length vc ∧ e 5 = .int .i64 (i : Nat) ∧ e 6 = .pointer (some ⟨t6b, 0, none⟩) ∧ e 7 = .int .i64 (k : Nat) ∧ e 8 = .pointer (some ⟨t8b, 0, none⟩) ∧ e 9 = .slice aa3 (0 + sz.length + lo.length + up.length) cc3 ∧ e 10 = .int .i64 (j : Nat) ∧ B = [(w2, inL [(t1b, cel cs 32)]), (w, No)] ∧ L = ((t8b, cel [.int .u8 (ty : Nat), .int .i64 at_, str nm, .slice xa sz.length xc, .slice la lo.length lc, .slice ua up.length uc, .slice ia ini.length ic] 49) :: (t6b, cel [.bool b.is, .slice (some ⟨b1, o1, none⟩) b.decls.length dc, .slice sa b.stmts.length sc] 29) :: (t1b, cel cs 32) :: (W ++ [])) ++ W3 ∧ j ≤ 0 + sz.length + lo.length + up.length ∧ m = 0 + sz.length + lo.length + up.length - j) _ ⟨0, e1_2, e3_2, e4_2, e5_2, e6_2, e7_2, rfl, rfl, rfl, rfl, rfl, Nat.zero_le _, rfl⟩ ?_))))))))
     rintro m e B L ⟨j, e1_3, e3_3, e4_3, e5_3, e6_3, e7_3, e8_3, e9_3, e10_3, rfl, rfl, hj, rfl⟩
     refine zq (yA (mI e10_3 (mS e9_3 (zg (fun _ => R_len sl47 rfl) (zg (fun _ => R_lt rfl rfl) (yB ?_)))))); refine zD rfl (fun h8 => ?_) (fun h8 => ?_)
     ·have hjl : j < ((sz ++ lo) ++ up).length := (by simp only [List.length_append]; omega); obtain ⟨y, hyj⟩ : ∃ y, ((sz ++ lo) ++ up)[j]? = some y := ⟨_, List.getElem?_eq_getElem hjl⟩; have hY := hKa j y hyj; obtain ⟨b5, rfl, hc5⟩ := hO3.cell (i := j) (by omega); have hyW : exW y ≤ 1048576 := (by have hmy := List.mem_of_getElem? hyj; simp only [List.mem_append] at hmy; rcases hmy with (h | h) | h <;> have := exsW_mem h <;> omega); have hyg := hhg y (List.mem_of_getElem? hyj); obtain ⟨op2, at2, nm2, ks2⟩ := y; have hY2 := hY; unfold exM at hY2; obtain ⟨ka2, kc2, heq, hkc2, hks2⟩ := hY2; rw [heq] at hY; have hcl := cell_run heq
      refine zi (zk (zq (zB (yA (mS e9_3 (mI e10_3 (zg (fun _ => R_iaN (i := j) sl47 rfl rfl (by omega)) ?_))))))); refine w_loadC (l := [.int .u8 (op2 : Nat), .int .i64 at2, str nm2, .slice ka2 ks2.length kc2]) z52 rfl rfl (fun w h q u hq => by rw [show 0 + j * 4 + q = j * 4 + q by omega]; exact hc5 _ _ w (fun p hp => List.mem_append_right _ hp) h _ u (hcl q u hq)) ?_; refine mS e4_3 (zC (fun w => zR Tryz.func17 rfl rfl rfl) rfl rfl (fun w h => hangs_ok _ _ vs va vc w (by omega) hyg ((exM.mono (fun _ _ => trivial) _ _ hY).nowT zm1 h) (own_vr hO (fun p hp => h.own p (by simp [hp]))) (by omega)) ?_)
      refine yB (zG rfl (zi (zO (zk (zr (mI e10_3 (zg (fun _ => R_addi rfl rfl (by omega)) (aI rfl (zn ?_))))))))); exact k_again _ (by omega) ⟨j + 1, e1_3, e3_3, e4_3, e5_3, e6_3, e7_3, e8_3, e9_3, rfl, rfl, rfl, by omega, rfl⟩
     ·refine zX (zx (zx (b_here rfl (zk (zr (w_st (B' := _) (L' := (t8b, cel [.int .u8 (ty : Nat), .int .i64 at_, str nm, .slice xa sz.length xc, .slice la lo.length lc, .slice ua up.length uc, .slice ia ini.length ic] 49) :: (t6b, cel [.bool b.is, .slice (some ⟨b1, o1, none⟩) b.decls.length dc, .slice sa b.stmts.length sc] 29) :: (t1b, cel cs 32) :: (W ++ [])) (fun w h => h.drop (List.sublist_append_left _ _)) (mS e4_3 (mS e3_3 (mS e4_3 (zg (fun _ => R_len sl34 rfl) (zg (fun _ => R_iaN (i := vs.length) sl34 rfl rfl (by omega)) (w_loadC (l := vrC v9) z54 rfl rfl (fun w h j v hj => vrs_cell (hK0.T TL.vrw zm0 h).1 hv0 j v hj) (zS slt34 (by decide) rfl rfl (fun b9 gb9 ub9 => w_app (L := []) (W := W) (news := vrC v9) [_, _, _, _] slt34 (by decide) rfl hO rfl rfl (row_own 0 rfl (fun j u h => h)) rfl (by decide) (by omega) (by omega) (fun v2 W2 hO2 => ?_)))))))))))))))
      obtain ⟨a9, c9, rfl, hO9⟩ := own_more hO2
      refine za (v := .slice _ _ _) rfl (zn (zO (zk (zr (mI e7_3 (zg (fun _ => R_addi rfl rfl (by omega)) (aI rfl (zn (zK (B' := _) (L' := (t6b, cel [.bool b.is, .slice (some ⟨b1, o1, none⟩) b.decls.length dc, .slice sa b.stmts.length sc] 29) :: (t1b, cel cs 32) :: (W2 ++ [])) (fun w h => h.drop (.cons _ (.cons _ (List.Sublist.refl _)))) ?_))))))))); exact k_again _ (by omega) ⟨k + 1, vs ++ [v9], a9, c9, W2, e1_3, e3_3, rfl, e5_3, e6_3, rfl, rfl, rfl, by omega, hO9, hu4, hD3, rfl⟩
    ·obtain rfl := decls_end hD (by omega)
     refine zX (zx (zx (b_here rfl (zk (yA (zf fa29_2 e6_2 (zL 0 z27 rfl rfl rfl (mS e4_2 (zC (fun w => zR Tryz.func18 rfl rfl rfl) rfl rfl (fun w h => chosen_ok b.stmts sa sc vs va vc w (by omega) hch (by omega) (hss.now (x := (_, No)) (fun _ _ h => h) zm1 h) (own_vr hO (fun p hp => h.own p (by simp [hp]))) (by omega)) (zg (fun _ => R_not rfl) (yB (zG rfl (zi (zO (zk (zr (mI e5_2 (zg (fun _ => R_addi rfl rfl (by omega)) (aI rfl (zn (zK (B' := _) (L' := (t1b, cel cs 32) :: (W ++ [])) (fun w h => h.drop (List.sublist_cons_self _ _)) ?_))))))))))))))))))))); exact k_again _ (by omega) ⟨i + 1, vs, va, vc, W, e1_2, e3_2, e4_2, rfl, rfl, rfl, by omega, hO, hu3, hG3, by omega, rfl⟩
   ·refine zX (zx (zx (b_here rfl (zk (yA (zC (v := .bool true) (fun w => zR Tryz.func9 rfl rfl rfl) rfl rfl (fun w h => head15_ok w (hW.now zm1 h) (Nat.le_trans hng (h.fr _ zm1).size)) (aB rfl (yB (ze (zo (v := .bool _) rfl rfl rfl ?_)))))))))); exact fun w' hw => ⟨rfl, hw.fr _ zm1⟩
end Go.Proofs.YtoehjlmdnajibaaGreatDoor
end

section
namespace Go.Sx
open Go.RowKit Go.Tree
theorem at_of {w : World} {base b o n k : Nat} {cs : List Value} (h : w.cells? base ((⟨b, o, none⟩ : Addr).add n) k = some cs) : At w (fun _ => True) (some ⟨b, o, none⟩) n cs := by
  obtain ⟨_, hl, hc⟩ := World.cells?_some h
  refine ⟨b, o, rfl, trivial, fun j v hj => ?_⟩
  have hj2 := (List.getElem?_eq_some_iff.1 hj).1
  have := hc j (by omega)
  rw [hj] at this
  rw [← this]
  congr 1
  unfold Addr.add
  by_cases h1 : n = 0 <;> by_cases h2 : j = 0 <;> simp [h1, h2, Nat.add_assoc]
theorem spot_of {w : World} {base k : Nat} {a : Addr} {cs : List Value} (hk : 0 < k) (h : w.cells? base (a.add 0) k = some cs) : a.spot = none := by
  obtain ⟨_, hl, hc⟩ := World.cells?_some h
  have h0 := hc 0 hk
  rw [List.getElem?_eq_getElem (by omega)] at h0
  simpa [Addr.add] using World.cell?_spot h0
theorem list_of {α : Type} {Q : Nat → α → Prop} : ∀ {n : Nat}, (∀ i, i < n → ∃ z, Q i z) → ∃ l : List α, l.length = n ∧ ∀ i z, l[i]? = some z → Q i z
  | 0, _ => ⟨[], rfl, fun i z h => by simp at h⟩
  | n + 1, h => by
    obtain ⟨l, hl, hq⟩ := list_of (n := n) (fun i hi => h i (by omega))
    obtain ⟨z, hz⟩ := h n (by omega)
    refine ⟨l ++ [z], by simp [hl], fun i y hy => ?_⟩
    by_cases hi : i < l.length
    · rw [List.getElem?_append_left hi] at hy
      exact hq i y hy
    · rw [List.getElem?_append_right (by omega)] at hy
      have h1 := (List.getElem?_eq_some_iff.1 hy).1
      have h2 : i = n := by simp at h1; omega
      subst h2
      rw [hl, Nat.sub_self] at hy
      obtain rfl : z = y := by simpa using hy
      exact hz
theorem sum_le {α β : Type} {f : α → Nat} {g : β → Nat} : ∀ (l : List α) (m : List β), l.length = m.length → (∀ (i : Nat) (z : α) (y : β), l[i]? = some z → m[i]? = some y → f z + 1 ≤ g y) → l.length + (l.map f).sum ≤ (m.map g).sum
  | [], [], _, _ => Nat.zero_le _
  | [], _ :: _, h, _ => by simp at h
  | _ :: _, [], h, _ => by simp at h
  | x :: l, y :: m, h, hq => by
    have h1 := hq 0 x y rfl rfl
    have h2 := sum_le l m (by simpa using h) (fun i z u hz hu => hq (i + 1) z u (by simpa using hz) (by simpa using hu))
    simp only [List.length_cons, List.map_cons, List.sum_cons]; omega
section
variable {H : Type} {enc : TypeId × Value → H} {P : Program} {w : World} {sp : Nat → Bool} {hd : Bool}
theorem open_list {α : Type} {R : α → List Value → Prop} {wt : α → Nat} {bk : DataW H → Nat} (hbs : ∀ es rs, (es.map bk).sum ≤ bk (.slice es rs)) {t e k fuel : Nat} {cs : List Value} {x : DataW H × List MemPlace}
    (ht : P.underlying t = some (.slice e)) (hk : P.cellsOf e = k) (hk0 : 0 < k) (h : DataW.trod enc P w 0 sp hd fuel t cs = some x)
    (ih : ∀ n cs y, n < fuel → DataW.trod enc P w 0 sp hd n e cs = some y → ∃ z, R z cs ∧ wt z + 1 ≤ bk y.1) :
    ∃ (l : List α) (a : Option Addr) (c : Nat), cs = [.slice a l.length c] ∧ l.length ≤ c ∧ l.length + (l.map wt).sum ≤ bk x.1 ∧ ∀ i z, l[i]? = some z → ∃ cs', At w (fun _ => True) a (i * k) cs' ∧ R z cs' := by
  rcases DataW.trod_slice ht h with ⟨rfl, rfl⟩ | ⟨a, len, cap, elems, rest, n, rfl, rfl, rfl, hb, hl, hm, hlen, hel, _, _⟩
  · exact ⟨[], none, 0, rfl, Nat.zero_le _, by simp, fun i z hz => by simp at hz⟩
  rw [hk] at hel
  obtain ⟨l, hll, hq⟩ := list_of (n := len) (Q := fun i z => ∃ cs' y, w.cells? 0 (a.add (i * k)) k = some cs' ∧ elems[i]? = some y ∧ R z cs' ∧ wt z + 1 ≤ bk y.1) (fun i hi => by
    have h1 := hel i hi
    rw [List.getElem?_eq_getElem (by omega)] at h1
    obtain ⟨cs', h2, h3⟩ := Option.bind_eq_some_iff.1 h1
    obtain ⟨z, h4, h5⟩ := ih n cs' _ (Nat.lt_succ_self n) h3
    exact ⟨z, cs', _, h2, List.getElem?_eq_getElem (by omega), h4, h5⟩)
  refine ⟨l, some a, cap, by rw [hll], by omega, ?_, fun i z hz => ?_⟩
  · refine Nat.le_trans ?_ (hbs _ _)
    rw [List.map_map]
    refine sum_le l elems (by omega) (fun i z y hz hy => ?_)
    obtain ⟨_, y', _, h2, _, h4⟩ := hq i z hz
    rw [hy] at h2
    obtain rfl := Option.some.inj h2
    exact h4
  · have hi := (List.getElem?_eq_some_iff.1 hz).1
    have hs : a.spot = none := by
      obtain ⟨z0, hz0⟩ : ∃ z, l[0]? = some z := ⟨_, List.getElem?_eq_getElem (by omega)⟩
      obtain ⟨cs', _, h1, _⟩ := hq 0 z0 hz0
      rw [Nat.zero_mul] at h1
      exact spot_of hk0 h1
    obtain ⟨b, o, s⟩ := a
    simp only at hs
    subst hs
    obtain ⟨cs', _, h1, _, h3, _⟩ := hq i z hz
    exact ⟨cs', at_of h1, h3⟩
end
theorem len3 {α : Type} {l : List α} (h : l.length = 3) : ∃ a b c, l = [a, b, c] := by
  match l, h with
  | [a, b, c], _ => exact ⟨a, b, c, rfl⟩
theorem len4 {α : Type} {l : List α} (h : l.length = 4) : ∃ a b c d, l = [a, b, c, d] := by
  match l, h with
  | [a, b, c, d], _ => exact ⟨a, b, c, d, rfl⟩
theorem len6 {α : Type} {l : List α} (h : l.length = 6) : ∃ a b c d e f, l = [a, b, c, d, e, f] := by
  match l, h with
  | [a, b, c, d, e, f], _ => exact ⟨a, b, c, d, e, f, rfl⟩
theorem len7 {α : Type} {l : List α} (h : l.length = 7) : ∃ a b c d e f g, l = [a, b, c, d, e, f, g] := by
  match l, h with
  | [a, b, c, d, e, f, g], _ => exact ⟨a, b, c, d, e, f, g, rfl⟩
theorem exsM_of {w : World} {N : Nat → Prop} {a : Option Addr} : ∀ (l : List Ex) (i0 : Nat), (∀ i z, l[i]? = some z → ∃ cs, At w N a (i0 + i * 4) cs ∧ exM w N z cs) → exsM w N l a i0
  | [], _, _ => by unfold exsM; trivial
  | x :: l, i0, h => by
    unfold exsM
    refine ⟨by simpa using h 0 x rfl, exsM_of l (i0 + 4) (fun i z hz => ?_)⟩
    have := h (i + 1) z (by simpa using hz)
    rwa [show i0 + (i + 1) * 4 = i0 + 4 + i * 4 by omega] at this
theorem smsM_of {w : World} {N : Nat → Prop} {a : Option Addr} : ∀ (l : List Sm) (i0 : Nat), (∀ i z, l[i]? = some z → ∃ cs, At w N a (i0 + i * 6) cs ∧ smM w N z cs) → smsM w N l a i0
  | [], _, _ => by unfold smsM; trivial
  | x :: l, i0, h => by
    unfold smsM
    refine ⟨by simpa using h 0 x rfl, smsM_of l (i0 + 6) (fun i z hz => ?_)⟩
    have := h (i + 1) z (by simpa using hz)
    rwa [show i0 + (i + 1) * 6 = i0 + 6 + i * 6 by omega] at this
theorem exsW_sum : ∀ l : List Ex, exsW l = (l.map exW).sum
  | [] => rfl
  | x :: l => by rw [exsW, exsW_sum l]; rfl
theorem smsW_sum : ∀ l : List Sm, smsW l = (l.map smW).sum
  | [] => rfl
  | x :: l => by rw [smsW, smsW_sum l]; rfl
theorem dcsW_sum : ∀ l : List Dc, dcsW l = (l.map dcW).sum
  | [] => rfl
  | x :: l => by rw [dcsW, dcsW_sum l]; rfl
end Go.Sx
end

section
namespace Go.Proofs.YtoehjlmdnajibaaGreatDoor
open Go.RowKit Go.Sx
open Go.Tok Go.Tree

theorem cel5 : Tryz.prog.cellsOf 5 = 1 := by kernel_rfl
theorem cel3 : Tryz.prog.cellsOf 3 = 1 := by kernel_rfl
theorem cel9 : Tryz.prog.cellsOf 9 = 1 := by kernel_rfl
theorem cel4 : Tryz.prog.cellsOf 4 = 1 := by kernel_rfl
theorem cel47 : Tryz.prog.cellsOf 47 = 1 := by kernel_rfl
theorem cel27 : Tryz.prog.cellsOf 27 = 1 := by kernel_rfl
theorem cel26 : Tryz.prog.cellsOf 26 = 1 := by kernel_rfl
theorem cel52 : Tryz.prog.cellsOf 52 = 4 := by kernel_rfl
theorem cel79 : Tryz.prog.cellsOf 79 = 6 := by kernel_rfl
theorem cel49 : Tryz.prog.cellsOf 49 = 7 := by kernel_rfl
theorem cel29 : Tryz.prog.cellsOf 29 = 3 := by kernel_rfl
theorem cel30 : Tryz.prog.cellsOf 30 = 18 := by kernel_rfl
theorem cel32 : Tryz.prog.cellsOf 32 = 18 := by kernel_rfl

section
variable {H : Type} {enc : TypeId × Value → H} {W : World} {sp : Nat → Bool} {hd : Bool}

theorem le_sum_mem {a : Nat} : ∀ {l : List Nat}, a ∈ l → a ≤ l.sum
  | x :: l, h => by
    rw [List.sum_cons]
    rcases List.mem_cons.1 h with rfl | h
    · omega
    · have := le_sum_mem h; omega
theorem bulkAll_sum : ∀ l : List (DataW H), Rows.uptoBulkAll l = (l.map Rows.uptoBulk).sum
  | [] => by simp [Rows.uptoBulkAll]
  | d :: l => by rw [Rows.uptoBulkAll, bulkAll_sum l]; simp
theorem bulk_slice (es rs : List (DataW H)) : (es.map Rows.uptoBulk).sum ≤ Rows.uptoBulk (.slice es rs) := by rw [Rows.uptoBulk, bulkAll_sum]; omega
theorem open_ex : ∀ (fuel : Nat) (cs : List Value) (x : DataW H × List MemPlace), DataW.trod enc Tryz.prog W 0 sp hd fuel 52 cs = some x → ∃ z : Ex, exM W (fun _ => True) z cs ∧ exW z + 1 ≤ Rows.uptoBulk x.1 := by
  intro fuel
  induction fuel using Nat.strongRecOn with | _ fuel ih => ?_
  intro cs x h
  obtain ⟨xs, n, rfl, rfl, hl, hxl, hf⟩ := DataW.trod_struct Tryz.underlying52 h
  have hl := hl.trans cel52
  obtain ⟨c0, c1, c2, c3, rfl⟩ := len4 hl
  obtain ⟨y0, y1, y2, y3, rfl⟩ := len4 (hxl.trans rfl)
  have h0 : DataW.trod enc Tryz.prog W 0 sp hd n 5 (([c0, c1, c2, c3].drop 0).take (Tryz.prog.cellsOf 5)) = some y0 := hf 0 _ rfl
  rw [cel5] at h0
  obtain ⟨n0, e0, rfl, wf0⟩ := DataW.trod_int Tryz.underlying5 h0; obtain rfl : _ = _ := (List.cons.inj e0).1
  have h1 : DataW.trod enc Tryz.prog W 0 sp hd n 3 (([_, c1, c2, c3].drop 1).take (Tryz.prog.cellsOf 3)) = some y1 := hf 1 _ rfl
  rw [cel3] at h1
  obtain ⟨n1, e1, rfl, wf1⟩ := DataW.trod_int Tryz.underlying3 h1; obtain rfl : _ = _ := (List.cons.inj e1).1
  have h2 : DataW.trod enc Tryz.prog W 0 sp hd n 9 (([_, _, c2, c3].drop 2).take (Tryz.prog.cellsOf 9)) = some y2 := hf 2 _ rfl
  rw [cel9] at h2
  obtain ⟨s2, e2, rfl, wf2⟩ := DataW.trod_string Tryz.underlying9 h2; obtain rfl : _ = _ := (List.cons.inj e2).1
  have h3 : DataW.trod enc Tryz.prog W 0 sp hd n 47 (([_, _, _, c3].drop 3).take (Tryz.prog.cellsOf 47)) = some y3 := hf 3 _ rfl
  rw [cel47] at h3
  obtain ⟨l3, a3, k3, e3, hk3, hb3, hl3⟩ := open_list (R := exM W (fun _ => True)) (wt := exW) bulk_slice Tryz.underlying47 cel52 (by decide) h3 (fun m cs y hm hy => ih m (by omega) cs y hy); obtain rfl : _ = _ := (List.cons.inj e3).1
  have w0 := bounds_u8 wf0; obtain ⟨m0, rfl⟩ : ∃ m : Nat, n0 = m := ⟨n0.toNat, by omega⟩
  refine ⟨.mk m0 n1 s2.data.toList l3, ?_, ?_⟩
  · unfold exM; exact ⟨a3, k3, by simp [str], hk3, exsM_of _ 0 (fun i z hz => by rw [Nat.zero_add]; exact hl3 i z hz)⟩
  · unfold exW; rw [exsW_sum]
    simp only [List.map_cons, List.map_nil, Rows.uptoBulk, Rows.uptoBulkAll]
    omega

theorem open_exs (fuel : Nat) {cs : List Value} {x : DataW H × List MemPlace} (h : DataW.trod enc Tryz.prog W 0 sp hd fuel 47 cs = some x) : ∃ (l : List Ex) (a : Option Addr) (c : Nat), cs = [.slice a l.length c] ∧ l.length ≤ c ∧ l.length + (l.map exW).sum ≤ Rows.uptoBulk x.1 ∧ ∀ i z, l[i]? = some z → ∃ cs', At W (fun _ => True) a (i * 4) cs' ∧ exM W (fun _ => True) z cs' :=
  open_list bulk_slice Tryz.underlying47 cel52 (by decide) h (fun m cs y _ hy => open_ex m cs y hy)

theorem open_sm : ∀ (fuel : Nat) (cs : List Value) (x : DataW H × List MemPlace), DataW.trod enc Tryz.prog W 0 sp hd fuel 79 cs = some x → ∃ z : Sm, smM W (fun _ => True) z cs ∧ smW z + 1 ≤ Rows.uptoBulk x.1 := by
  intro fuel
  induction fuel using Nat.strongRecOn with | _ fuel ih => ?_
  intro cs x h
  obtain ⟨xs, n, rfl, rfl, hl, hxl, hf⟩ := DataW.trod_struct Tryz.underlying79 h
  have hl := hl.trans cel79
  obtain ⟨c0, c1, c2, c3, c4, c5, rfl⟩ := len6 hl
  obtain ⟨y0, y1, y2, y3, y4, y5, rfl⟩ := len6 (hxl.trans rfl)
  have h0 : DataW.trod enc Tryz.prog W 0 sp hd n 5 (([c0, c1, c2, c3, c4, c5].drop 0).take (Tryz.prog.cellsOf 5)) = some y0 := hf 0 _ rfl
  rw [cel5] at h0
  obtain ⟨n0, e0, rfl, wf0⟩ := DataW.trod_int Tryz.underlying5 h0; obtain rfl : _ = _ := (List.cons.inj e0).1
  have h1 : DataW.trod enc Tryz.prog W 0 sp hd n 3 (([_, c1, c2, c3, c4, c5].drop 1).take (Tryz.prog.cellsOf 3)) = some y1 := hf 1 _ rfl
  rw [cel3] at h1
  obtain ⟨n1, e1, rfl, wf1⟩ := DataW.trod_int Tryz.underlying3 h1; obtain rfl : _ = _ := (List.cons.inj e1).1
  have h2 : DataW.trod enc Tryz.prog W 0 sp hd n 9 (([_, _, c2, c3, c4, c5].drop 2).take (Tryz.prog.cellsOf 9)) = some y2 := hf 2 _ rfl
  rw [cel9] at h2
  obtain ⟨s2, e2, rfl, wf2⟩ := DataW.trod_string Tryz.underlying9 h2; obtain rfl : _ = _ := (List.cons.inj e2).1
  have h3 : DataW.trod enc Tryz.prog W 0 sp hd n 47 (([_, _, _, c3, c4, c5].drop 3).take (Tryz.prog.cellsOf 47)) = some y3 := hf 3 _ rfl
  rw [cel47] at h3
  obtain ⟨l3, a3, k3, e3, hk3, hb3, hl3⟩ := open_exs n h3; obtain rfl : _ = _ := (List.cons.inj e3).1
  have h4 : DataW.trod enc Tryz.prog W 0 sp hd n 27 (([_, _, _, _, c4, c5].drop 4).take (Tryz.prog.cellsOf 27)) = some y4 := hf 4 _ rfl
  rw [cel27] at h4
  obtain ⟨l4, a4, k4, e4, hk4, hb4, hl4⟩ := open_list (R := smM W (fun _ => True)) (wt := smW) bulk_slice Tryz.underlying27 cel79 (by decide) h4 (fun m cs y hm hy => ih m (by omega) cs y hy); obtain rfl : _ = _ := (List.cons.inj e4).1
  have h5 : DataW.trod enc Tryz.prog W 0 sp hd n 27 (([_, _, _, _, _, c5].drop 5).take (Tryz.prog.cellsOf 27)) = some y5 := hf 5 _ rfl
  rw [cel27] at h5
  obtain ⟨l5, a5, k5, e5, hk5, hb5, hl5⟩ := open_list (R := smM W (fun _ => True)) (wt := smW) bulk_slice Tryz.underlying27 cel79 (by decide) h5 (fun m cs y hm hy => ih m (by omega) cs y hy); obtain rfl : _ = _ := (List.cons.inj e5).1
  have w0 := bounds_u8 wf0; obtain ⟨m0, rfl⟩ : ∃ m : Nat, n0 = m := ⟨n0.toNat, by omega⟩
  refine ⟨.mk m0 n1 s2.data.toList l3 l4 l5, ?_, ?_⟩
  · unfold smM; exact ⟨a3, k3, a4, k4, a5, k5, by simp [str], hk3, exsM_of _ 0 (fun i z hz => by rw [Nat.zero_add]; exact hl3 i z hz), smsM_of _ 0 (fun i z hz => by rw [Nat.zero_add]; exact hl4 i z hz), smsM_of _ 0 (fun i z hz => by rw [Nat.zero_add]; exact hl5 i z hz)⟩
  · unfold smW; rw [exsW_sum, smsW_sum, smsW_sum]
    simp only [List.map_cons, List.map_nil, Rows.uptoBulk, Rows.uptoBulkAll]
    omega

theorem open_sms (fuel : Nat) {cs : List Value} {x : DataW H × List MemPlace} (h : DataW.trod enc Tryz.prog W 0 sp hd fuel 27 cs = some x) : ∃ (l : List Sm) (a : Option Addr) (c : Nat), cs = [.slice a l.length c] ∧ l.length ≤ c ∧ l.length + (l.map smW).sum ≤ Rows.uptoBulk x.1 ∧ ∀ i z, l[i]? = some z → ∃ cs', At W (fun _ => True) a (i * 6) cs' ∧ smM W (fun _ => True) z cs' :=
  open_list bulk_slice Tryz.underlying27 cel79 (by decide) h (fun m cs y _ hy => open_sm m cs y hy)

theorem open_dc : ∀ (fuel : Nat) (cs : List Value) (x : DataW H × List MemPlace), DataW.trod enc Tryz.prog W 0 sp hd fuel 49 cs = some x → ∃ z : Dc, dcM W (fun _ => True) z cs ∧ dcW z + 1 ≤ Rows.uptoBulk x.1 := by
  intro fuel
  induction fuel using Nat.strongRecOn with | _ fuel ih => ?_
  intro cs x h
  obtain ⟨xs, n, rfl, rfl, hl, hxl, hf⟩ := DataW.trod_struct Tryz.underlying49 h
  have hl := hl.trans cel49
  obtain ⟨c0, c1, c2, c3, c4, c5, c6, rfl⟩ := len7 hl
  obtain ⟨y0, y1, y2, y3, y4, y5, y6, rfl⟩ := len7 (hxl.trans rfl)
  have h0 : DataW.trod enc Tryz.prog W 0 sp hd n 5 (([c0, c1, c2, c3, c4, c5, c6].drop 0).take (Tryz.prog.cellsOf 5)) = some y0 := hf 0 _ rfl
  rw [cel5] at h0
  obtain ⟨n0, e0, rfl, wf0⟩ := DataW.trod_int Tryz.underlying5 h0; obtain rfl : _ = _ := (List.cons.inj e0).1
  have h1 : DataW.trod enc Tryz.prog W 0 sp hd n 3 (([_, c1, c2, c3, c4, c5, c6].drop 1).take (Tryz.prog.cellsOf 3)) = some y1 := hf 1 _ rfl
  rw [cel3] at h1
  obtain ⟨n1, e1, rfl, wf1⟩ := DataW.trod_int Tryz.underlying3 h1; obtain rfl : _ = _ := (List.cons.inj e1).1
  have h2 : DataW.trod enc Tryz.prog W 0 sp hd n 9 (([_, _, c2, c3, c4, c5, c6].drop 2).take (Tryz.prog.cellsOf 9)) = some y2 := hf 2 _ rfl
  rw [cel9] at h2
  obtain ⟨s2, e2, rfl, wf2⟩ := DataW.trod_string Tryz.underlying9 h2; obtain rfl : _ = _ := (List.cons.inj e2).1
  have h3 : DataW.trod enc Tryz.prog W 0 sp hd n 47 (([_, _, _, c3, c4, c5, c6].drop 3).take (Tryz.prog.cellsOf 47)) = some y3 := hf 3 _ rfl
  rw [cel47] at h3
  obtain ⟨l3, a3, k3, e3, hk3, hb3, hl3⟩ := open_exs n h3; obtain rfl : _ = _ := (List.cons.inj e3).1
  have h4 : DataW.trod enc Tryz.prog W 0 sp hd n 47 (([_, _, _, _, c4, c5, c6].drop 4).take (Tryz.prog.cellsOf 47)) = some y4 := hf 4 _ rfl
  rw [cel47] at h4
  obtain ⟨l4, a4, k4, e4, hk4, hb4, hl4⟩ := open_exs n h4; obtain rfl : _ = _ := (List.cons.inj e4).1
  have h5 : DataW.trod enc Tryz.prog W 0 sp hd n 47 (([_, _, _, _, _, c5, c6].drop 5).take (Tryz.prog.cellsOf 47)) = some y5 := hf 5 _ rfl
  rw [cel47] at h5
  obtain ⟨l5, a5, k5, e5, hk5, hb5, hl5⟩ := open_exs n h5; obtain rfl : _ = _ := (List.cons.inj e5).1
  have h6 : DataW.trod enc Tryz.prog W 0 sp hd n 47 (([_, _, _, _, _, _, c6].drop 6).take (Tryz.prog.cellsOf 47)) = some y6 := hf 6 _ rfl
  rw [cel47] at h6
  obtain ⟨l6, a6, k6, e6, hk6, hb6, hl6⟩ := open_exs n h6; obtain rfl : _ = _ := (List.cons.inj e6).1
  have w0 := bounds_u8 wf0; obtain ⟨m0, rfl⟩ : ∃ m : Nat, n0 = m := ⟨n0.toNat, by omega⟩
  refine ⟨⟨m0, n1, s2.data.toList, l3, l4, l5, l6⟩, ?_, ?_⟩
  · unfold dcM; exact ⟨a3, k3, a4, k4, a5, k5, a6, k6, by simp [str], exsM_of _ 0 (fun i z hz => by rw [Nat.zero_add]; exact hl3 i z hz), exsM_of _ 0 (fun i z hz => by rw [Nat.zero_add]; exact hl4 i z hz), exsM_of _ 0 (fun i z hz => by rw [Nat.zero_add]; exact hl5 i z hz), exsM_of _ 0 (fun i z hz => by rw [Nat.zero_add]; exact hl6 i z hz)⟩
  · unfold dcW; rw [exsW_sum, exsW_sum, exsW_sum, exsW_sum]
    simp only [List.map_cons, List.map_nil, Rows.uptoBulk, Rows.uptoBulkAll]
    omega

theorem open_dcs (fuel : Nat) {cs : List Value} {x : DataW H × List MemPlace} (h : DataW.trod enc Tryz.prog W 0 sp hd fuel 26 cs = some x) : ∃ (l : List Dc) (a : Option Addr) (c : Nat), cs = [.slice a l.length c] ∧ l.length ≤ c ∧ l.length + (l.map dcW).sum ≤ Rows.uptoBulk x.1 ∧ ∀ i z, l[i]? = some z → ∃ cs', At W (fun _ => True) a (i * 7) cs' ∧ dcM W (fun _ => True) z cs' :=
  open_list bulk_slice Tryz.underlying26 cel49 (by decide) h (fun m cs y _ hy => open_dc m cs y hy)

theorem open_bk : ∀ (fuel : Nat) (cs : List Value) (x : DataW H × List MemPlace), DataW.trod enc Tryz.prog W 0 sp hd fuel 29 cs = some x → ∃ z : Bk, bkM W (fun _ => True) z cs ∧ bkW z + 1 ≤ Rows.uptoBulk x.1 := by
  intro fuel
  induction fuel using Nat.strongRecOn with | _ fuel ih => ?_
  intro cs x h
  obtain ⟨xs, n, rfl, rfl, hl, hxl, hf⟩ := DataW.trod_struct Tryz.underlying29 h
  have hl := hl.trans cel29
  obtain ⟨c0, c1, c2, rfl⟩ := len3 hl
  obtain ⟨y0, y1, y2, rfl⟩ := len3 (hxl.trans rfl)
  have h0 : DataW.trod enc Tryz.prog W 0 sp hd n 4 (([c0, c1, c2].drop 0).take (Tryz.prog.cellsOf 4)) = some y0 := hf 0 _ rfl
  rw [cel4] at h0
  obtain ⟨q0, e0, rfl⟩ := DataW.trod_bool Tryz.underlying4 h0; obtain rfl : _ = _ := (List.cons.inj e0).1
  have h1 : DataW.trod enc Tryz.prog W 0 sp hd n 26 (([_, c1, c2].drop 1).take (Tryz.prog.cellsOf 26)) = some y1 := hf 1 _ rfl
  rw [cel26] at h1
  obtain ⟨l1, a1, k1, e1, hk1, hb1, hl1⟩ := open_dcs n h1; obtain rfl : _ = _ := (List.cons.inj e1).1
  have h2 : DataW.trod enc Tryz.prog W 0 sp hd n 27 (([_, _, c2].drop 2).take (Tryz.prog.cellsOf 27)) = some y2 := hf 2 _ rfl
  rw [cel27] at h2
  obtain ⟨l2, a2, k2, e2, hk2, hb2, hl2⟩ := open_sms n h2; obtain rfl : _ = _ := (List.cons.inj e2).1
  skip
  refine ⟨⟨q0, l1, l2⟩, ?_, ?_⟩
  · unfold bkM; exact ⟨a1, k1, a2, k2, rfl, hl1, smsM_of _ 0 (fun i z hz => by rw [Nat.zero_add]; exact hl2 i z hz)⟩
  · unfold bkW; rw [dcsW_sum, smsW_sum]
    simp only [List.map_cons, List.map_nil, Rows.uptoBulk, Rows.uptoBulkAll]
    omega

theorem open_pg (fuel : Nat) (cs : List Value) (x : DataW H × List MemPlace) (h : DataW.trod enc Tryz.prog W 0 sp hd fuel 32 cs = some x) : ∃ p : List Bk, pgM W (fun _ => True) p cs ∧ ∀ b ∈ p, bkW b ≤ Rows.uptoBulk x.1 := by
  obtain ⟨xs, n, rfl, rfl, hl, hxl, hf⟩ := DataW.trod_struct Tryz.underlying32 h
  have hl := hl.trans cel32
  obtain ⟨y, rfl⟩ := List.length_eq_one_iff.1 (hxl.trans rfl)
  have h0 : DataW.trod enc Tryz.prog W 0 sp hd n 30 ((cs.drop 0).take (Tryz.prog.cellsOf 30)) = some y := hf 0 _ rfl
  rw [cel30, List.drop_zero] at h0
  rw [show cs.take 18 = cs from List.take_of_length_le (by omega)] at h0
  obtain ⟨zs, m, rfl, hy, hl2, hzl, hg⟩ := DataW.trod_array Tryz.underlying30 h0
  obtain rfl : y = _ := hy
  obtain ⟨l, hll, hq⟩ := list_of (n := 6) (Q := fun i z => bkM W (fun _ => True) z ((cs.drop (i * 3)).take 3) ∧ ∃ y, zs[i]? = some y ∧ bkW z + 1 ≤ Rows.uptoBulk y.1) (fun i hi => by
    have h1 := hg i hi
    rw [cel29] at h1
    rw [List.getElem?_eq_getElem (by omega)] at h1
    obtain ⟨z, h4, h5⟩ := open_bk m _ _ h1
    exact ⟨z, h4, _, List.getElem?_eq_getElem (by omega), h5⟩)
  refine ⟨l, ⟨hll, hl, fun i b hb => (hq i b hb).1⟩, fun b hb => ?_⟩
  obtain ⟨i, hi⟩ := List.getElem?_of_mem hb
  obtain ⟨_, y, h1, h2⟩ := hq i b hi
  have h3 : Rows.uptoBulk y.1 ≤ ((zs.map (·.1)).map Rows.uptoBulk).sum := le_sum_mem (List.mem_map_of_mem (List.mem_map_of_mem (List.mem_of_getElem? h1)))
  simp only [List.map_cons, List.map_nil, Rows.uptoBulk, Rows.uptoBulkAll, bulkAll_sum, List.sum_cons, List.sum_nil]
  omega
end
end Go.Proofs.YtoehjlmdnajibaaGreatDoor
end

section
namespace Go.Proofs.YtoehjlmdnajibaaGreatDoor
open Go.ChangeShapes Go.WideShapes Go.ChangeAt Go.RowKit Go.Sx
open Go.ChangeMaps (open_string)
theorem own : ownKnob Tryz.prog.godebug = none := by kernel_rfl
theorem below_ext {w w' : World} (h : Ext w w') : Below w.heap.size w w' := ⟨h.os, h.tape, h.output, h.size, fun k hk => h.blk k hk (fun x => x)⟩
section
variable {H : Type} {enc : TypeId × Value → H} {P : Program}
theorem post_ext2 {f : Func} {s : ChangeSpec} {apart fresh handsOn : Bool} {W W' : World} {args : Array Value} {v : Value} {ds gs : List (DataW H)} {before pa pv : List MemPlace}
    (hW : DataW.Whole enc P f.params.toList s.vars apart W args.toList ds gs before)
    (hres : ∀ (b : Nat) (sp : Nat → Bool) (hd : Bool), DataW.TrodAll enc P W' b sp hd f.resultTypes.toList (v.resultList f.resultTypes.size) (s.fn H (ds ++ gs)).results [])
    (hargs : DataW.TrodAll enc P W' 0 (fun b => decide (b < W.heap.size)) true f.params.toList args.toList (s.fn H (ds ++ gs)).args pa)
    (hvars : ∀ sp : Nat → Bool, (∀ p ∈ before, sp p.block = true) → DataW.TrodVars enc P W' sp s.vars (s.fn H (ds ++ gs)).vars pv)
    (hps : before = pa ++ pv) (hb : Below W.heap.size W W') : s.post enc P f apart fresh handsOn false W args v W' := by
  have hold : ∀ p ∈ before, (fun b => decide (b < W.heap.size)) p.block = true := fun p hp => by simpa using hW.lt p hp
  exact ⟨ds, gs, before, [], pa, pv, hW, hres _ _ _, hargs, hvars _ hold, hb.frame _, fun h => by cases h⟩
end
theorem agg_of {v : Value} {n : Nat} (h : v.cells.toList.length = n + 2) : v = .agg v.cells.toList.toArray := by
  cases v <;> first | rfl | (simp [Value.cells] at h)
theorem laidB : laidOutB Tryz.prog = true := by kernel_rfl
theorem door_met (os : Os) (args : Array Value) : laidMetH Tryz.prog Rows.kindLevelsUptoRow.laid ((World.doorLaid Tryz.prog 400 os).forCall (fun _ _ => 0) ⟨#[], args, []⟩).memory :=
  laidMetH_of_parts3 (fuel := 8) (laidMet_of_run' 8 (by kernel_rfl) (by kernel_rfl)) (by kernel_rfl) (by kernel_rfl)
theorem tb_of_laid {W : World} (h : laidMetH Tryz.prog Rows.kindLevelsUptoRow.laid W) : Tb W := by
  rw [MakeChecks.laidMetH_plain _ _ _ (by kernel_rfl)] at h
  obtain ⟨ps, ⟨g0, t0, cs0, f0, p0, q0, hg0, ht0, hv0, hd0, ⟨g1, t1, cs1, f1, p1, q1, hg1, ht1, hv1, hd1, hr1, hq0⟩, hps⟩, hn, hm⟩ := h
  refine Tb.of (Lib.tabIs_of_head (g := 1) (t := 195) (e := 5) (n := 256) (rest := []) (by kernel_rfl) (by kernel_rfl) Tryz.underlying195 Tryz.underlying5 (by kernel_rfl) (by kernel_rfl) (W := W) ⟨q0, ⟨g1, t1, cs1, f1, p1, q1, hg1, ht1, hv1, hd1, hr1, hq0⟩, ?_, ?_⟩)
  · rw [hps] at hn; exact (List.nodup_append.1 hn).2.1
  · exact fun b off hx => hm b off (by rw [hps]; exact List.mem_append.2 (.inr hx))
theorem size_of_shaped {P : Program} {w : World} {g : Nat} (h : w.ShapedOpen P) (hg : g < P.globals.size) (h0 : (((begin P (fun _ _ => 0) default).world.heap[g]?).bind Obj.row?).isSome = true) : g < w.heap.size := by
  obtain ⟨⟨zero, t⟩, h1⟩ := Option.isSome_iff_exists.1 h0
  obtain ⟨cs, hh, _⟩ := h.1 g zero t hg h1
  exact (Array.getElem?_eq_some_iff.1 hh).1

theorem kindLevels_reads (os : Os) {H : Type} (enc : TypeId × Value → H) : DataW.whole enc Tryz.prog ((World.doorLaid Tryz.prog 400 os).forCall (fun _ _ => 0) ⟨#[], #[(.agg #[.bool false, .slice none 0 0, .slice none 0 0, .bool false, .slice none 0 0, .slice none 0 0, .bool false, .slice none 0 0, .slice none 0 0, .bool false, .slice none 0 0, .slice none 0 0, .bool false, .slice none 0 0, .slice none 0 0, .bool false, .slice none 0 0, .slice none 0 0])], []⟩).memory Tryz.f6.params.toList Rows.kindLevelsSpec.vars false #[(.agg #[.bool false, .slice none 0 0, .slice none 0 0, .bool false, .slice none 0 0, .slice none 0 0, .bool false, .slice none 0 0, .slice none 0 0, .bool false, .slice none 0 0, .slice none 0 0, .bool false, .slice none 0 0, .slice none 0 0, .bool false, .slice none 0 0, .slice none 0 0])].toList 8 = some ([.agg [.agg [.agg [.lit (.bool false), .nil, .nil], .agg [.lit (.bool false), .nil, .nil], .agg [.lit (.bool false), .nil, .nil], .agg [.lit (.bool false), .nil, .nil], .agg [.lit (.bool false), .nil, .nil], .agg [.lit (.bool false), .nil, .nil]]]], [], []) := by kernel_rfl
theorem kindLevels_lifted (os : Os) (started : os.Started) (H : Type) (enc : TypeId × Value → H) (F : Stop.Interp) :
    ReturnsInHanded {} Tryz.checked os 6 .any ((Rows.OpenSpec.upto Rows.kindLevelsSpec).preRow enc Tryz.prog Tryz.f6 Rows.kindLevelsUptoRow.domain false Rows.kindLevelsUptoRow.laid) (((Rows.OpenSpec.upto Rows.kindLevelsSpec).at F).post enc Tryz.prog Tryz.f6 false true false false) := by
  refine returnsInHanded_of_row (C := Tryz.checked) (s := Rows.OpenSpec.upto Rows.kindLevelsSpec) own started (by kernel_rfl) Tryz.func6
    (witness_row_atRef (enc := enc) (C := Tryz.checked) false (World.doorLaid Tryz.prog 400 os) #[(.agg #[.bool false, .slice none 0 0, .slice none 0 0, .bool false, .slice none 0 0, .slice none 0 0, .bool false, .slice none 0 0, .slice none 0 0, .bool false, .slice none 0 0, .slice none 0 0, .bool false, .slice none 0 0, .slice none 0 0, .bool false, .slice none 0 0, .slice none 0 0])] rfl (by kernel_rfl) (by kernel_rfl) (by kernel_rfl)
      (OpenSpec.preRow_of_cond 8 (kindLevels_reads os enc) (by rfl) (fun k hkk => by cases hkk; kernel_rfl) (by kernel_rfl) (door_met os _))) ?_
  intro W base args ds gs before hval0 hW _ hcond _ hL hsh _
  have hval : ∀ (j : Nat) t v, Tryz.f6.params[j]? = some t → args[j]? = some v → Value.okWide Tryz.prog W .any base t v := hval0
  have hW' := hW
  have hlt : ∀ y ∈ before, y.block < W.heap.size := fun y hy => by simpa using hW'.lt y hy
  obtain ⟨p, q, hA0, hV, rfl, _, _⟩ := hW
  have hA : DataW.TrodAll enc Tryz.prog W 0 (fun _ => true) true Tryz.f6.params.toList args.toList ds p := hA0
  rw [Tryz.params6] at hA hval
  obtain ⟨v0, d0, rfl, rfl, h0⟩ := trodAll_one hA
  obtain ⟨rfl, rfl⟩ := trodVars_none hV
  have hk0 := h0
  obtain ⟨f0, ht0⟩ := h0
  obtain ⟨x0, hm0, hb0⟩ := open_pg f0 _ _ ht0
  have ha0 := agg_of (n := 16) (hm0.len)
  obtain ⟨cs0, hcs0⟩ : ∃ cs, cs = v0.cells.toList := ⟨_, rfl⟩
  rw [← hcs0] at ha0 hm0
  dsimp only at hb0
  have hbk := of_decide_eq_true (hcond _ rfl)
  simp only [Rows.uptoBulkAll, List.cons_append, List.nil_append] at hbk
  have ht := tb_of_laid hL
  have hml := cell_of_shapedOpen_int hsh (zero := #[.int .i64 0]) (g := 0) (t := 3) (by decide) (by kernel_rfl) rfl (by kernel_rfl) (by kernel_rfl) Tryz.underlying3
  clear hA0 hval0
  simp only [List.append_nil] at hW' hlt
  subst ha0
  refine Calls.mono (levels15_walk x0 cs0 W ⟨ht, ht.lt, hml⟩ (size_of_shaped hsh (g := 3) (by decide) (by kernel_rfl)) (fun b hb => by have := hb0 b hb; omega) hm0) fun e W' ⟨v, he, hv, hx⟩ => ?_
  subst he; subst hv
  exact ⟨_, rfl, post_ext2 (pv := []) hW' (fun _ _ _ => trodAll_mk1 (shut_bool Tryz.underlying4 _)) (trodAll_mk1 (Below.trod laidB (by kernel_rfl) (of_decide_eq_true (by kernel_rfl)) hk0 (below_ext hx) (fun y hy => hlt y (by simp [hy])))) (fun _ _ => rfl) (by simp) (below_ext hx)⟩
theorem kindLevelsUpto_holds : Rows.KindLevelsUptoSaid :=
  OpenClaim.holds_of_cond 6 Tryz.f6 rfl rfl rfl rfl rfl rfl rfl ⟨rfl, rfl, rfl, rfl, rfl⟩ rfl rfl rfl rfl rfl (by kernel_rfl) Tryz.func6 (by kernel_rfl)
    (of_decide_eq_true (by kernel_rfl)) (by unfold Func.isWrapper; (rw [if_neg (by decide +kernel)]; exact ⟨rfl, rfl⟩))
    (fun os started H enc _ F => by rw [OpenClaim.pre_eq_preRow]; exact kindLevels_lifted os started H enc F)
end Go.Proofs.YtoehjlmdnajibaaGreatDoor
end

section
namespace Go.Proofs.YtoehjlmdnajibaaGreatDoor
open Go
theorem kindLevelsUpto_card : Rows.KindLevelsUptoCardSaid :=
  Claim7.holds_tied_plain_at .later [] [.listed, .data] true (true, "65e2bdec9cfab438602a072c417bd6688cb10ffb3f463ce8d6a4e5789ff575b6") true
    kindLevelsUpto_holds (fun _ h => by cases h) (by kernel_rfl) (fun _ h => by cases h) kindLevelsUpto_row_tie rfl ⟨rfl, rfl⟩ (by kernel_rfl) rfl
    (fun f fn hf hfn => by
      obtain rfl : f = 6 := Option.some.inj ((show Tryz.prog.funcNamed "stepstone/stepstonelaw15.KindLevels" = some 6 by kernel_rfl).symm.trans hf) |>.symm
      obtain rfl : fn = Tryz.f6 := (Option.some.inj (Tryz.func6.symm.trans hfn)).symm
      exact ⟨by kernel_rfl, fun j t ht => by
        rw [Tryz.params6] at ht
        have ht3 : t = 32 := by
          rcases j with _ | j
          · simpa using ht.symm
          · simp at ht
        subst ht3
        exact (show Tryz.prog.wantsStandIn 32 = false by kernel_rfl)⟩)
    (by kernel_rfl)
end Go.Proofs.YtoehjlmdnajibaaGreatDoor
end
