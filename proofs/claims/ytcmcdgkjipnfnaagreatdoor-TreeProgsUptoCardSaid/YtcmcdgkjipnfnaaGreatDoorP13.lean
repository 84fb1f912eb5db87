/- For every two programs, of a bulk of at most 1048576, the law TreeProgs holds of the given program. Part 13 of 18. -/
import Derived.Test.YtcmcdgkjipnfnaaGreatDoorP02
import Derived.Test.YtcmcdgkjipnfnaaGreatDoorP11
import Derived.Test.YtcmcdgkjipnfnaaGreatDoorP12
import Derived.Test.YtcmcdgkjipnfnaaGreatDoorP07
import Derived.Deep.Upon
import Derived.Test.YtcmcdgkjipnfnaaGreatDoorP10
import Derived.Test.YtcmcdgkjipnfnaaGreatDoorP09
section
namespace Go.Proofs.YtcmcdgkjipnfnaaGreatDoor
open Go.RowKit Go.Sx
open Go.Tok Go.Tree


def RExprH (n : Nat) : Prop := ∀ (x : Ex) (cs : List Value) (N : Nat → Prop) (w : World), exW x < n → exM w N x cs → Ret Tryz.prog 28 #[.agg cs.toArray] w fun v w' => v = .bool (exOk x) ∧ Ext w w'

set_option maxRecDepth 100000 in
set_option maxHeartbeats 400000 in
theorem rexprs_spec (n : Nat) (ih : RExprH n) (l : List Ex) (a : Option Addr) (c : Nat) (N : Nat → Prop) (w : World) (hl : ∀ x ∈ l, exW x < n) (hll : l.length ≤ 10000000) (hm : exsM w N l a 0) :
    Ret Tryz.prog 69 #[.slice a l.length c] w (fun v w' => v = .bool (exsOk l) ∧ Ext w w') := by
  refine enter (S := No) (l := [_]) (L := []) 16 Tryz.func69 rfl rfl rfl (St.start w No) ?_; refine yA ?_; refine aB rfl ?_; refine yB ?_; refine zq ?_; refine yA ?_; refine aI rfl ?_; refine yB ?_; refine zB ?_; refine c_loop (fun m e B L => ∃ (k : Nat), e 0 = .slice a l.length c ∧ e 3 = .int .i64 (k : Nat) ∧ B = [(w, No)] ∧ L = [] ∧ k ≤ l.length ∧ (∀ y ∈ l.take k, (!exOk y) = false) ∧ m = l.length - k) _ ⟨0, rfl, rfl, rfl, rfl, Nat.zero_le _, (by simp), rfl⟩ ?_
  rintro m e B L ⟨k, e0_1, e3_1, rfl, rfl, hk, hy, rfl⟩
  refine zq ?_; refine yA ?_; refine mI e3_1 ?_; refine mS e0_1 ?_; refine w_r (fun _ => R_len sl22 rfl) rfl rfl ?_; refine w_r (fun _ => R_lt rfl rfl) rfl rfl ?_; refine yB ?_; refine zD rfl (fun h1 => ?_) (fun h1 => ?_)
  · have hlt : k < l.length := (by omega); obtain ⟨x, hxk⟩ : ∃ x, l[k]? = some x := ⟨_, List.getElem?_eq_getElem hlt⟩; obtain ⟨cs, hA, hE⟩ := hm.get0 hxk; have hxn := hl x (List.mem_of_getElem? hxk); obtain ⟨b1, o1, rfl⟩ := hA.ptr; have hEx := hE; obtain ⟨op, at_, nm, ks⟩ := x; unfold exM at hEx; obtain ⟨ka, kc, rfl, hkc, hks⟩ := hEx
    refine zi ?_; refine zk ?_; refine zq ?_; refine zB ?_; refine yA ?_; refine mS e0_1 ?_; refine mI e3_1 ?_; refine w_r (fun _ => R_iaN (i := k) sl22 rfl rfl (by first | omega | decide)) rfl rfl ?_; refine w_loadC (l := [.int .u8 (op : Nat), .int .i64 at_, str nm, .slice ka ks.length kc]) z24 rfl rfl (fun w h j v hj => hA.cell (fun _ _ hh => hh) (.head _) h j v hj) ?_; refine zC (fun w => zR Tryz.func28 rfl rfl rfl) rfl rfl (fun w h => ih _ _ N w hxn (hE.now (fun _ _ hh => hh) (.head _) h)) ?_; refine w_r (fun _ => R_not rfl) rfl rfl ?_; refine yB ?_; refine c_condN rfl (fun h2 => ?_) (fun h2 => ?_)
    · refine yA ?_; refine aB rfl ?_; refine yB ?_; refine ze ?_; refine zb (zt (zt (zb (zt (?_)))))
      refine zo (v := .bool _) rfl rfl rfl ?_; exact fun w' hw => ⟨by rw [exsOk_all]; first | (rw [all_of_take hy (by omega)]; done) | (rw [all_no hxk h2]; done), hw.fr _ (.head _)⟩
    · refine zi ?_; refine b_on (zk ?_); refine zr ?_; refine mI e3_1 ?_; refine w_r (fun _ => R_addi rfl rfl (by omega)) rfl rfl ?_; refine aI rfl ?_; refine zn ?_; exact k_again _ (by omega) ⟨k + 1, e0_1, rfl, rfl, rfl, by omega, take_all hy hxk (by rw [h2]; rfl), rfl⟩
  · refine c_exit ?_; refine zx (zx (b_here rfl (zk ?_))); refine yA ?_; refine aB rfl ?_; refine yB ?_; refine ze ?_; refine zo (v := .bool _) rfl rfl rfl ?_; exact fun w' hw => ⟨by rw [exsOk_all]; first | (rw [all_of_take hy (by omega)]; done) | (rw [all_no hxk h2]; done), hw.fr _ (.head _)⟩

set_option maxRecDepth 100000 in
set_option maxHeartbeats 4000000 in
theorem rexpr_step (n : Nat) (ih : RExprH n) (hn : n ≤ 10000000) (x : Ex) (cs : List Value) (N : Nat → Prop) (w : World) (hx : exW x < n + 1) (hm : exM w N x cs) :
    Ret Tryz.prog 28 #[.agg cs.toArray] w (fun v w' => v = .bool (exOk x) ∧ Ext w w') := by
  obtain ⟨op, at_, nm, ks⟩ := x
  have hm2 := hm
  unfold exM at hm2
  obtain ⟨ka, kc, rfl, hkc, hks⟩ := hm2
  have hx2 := hx
  unfold exW at hx2
  have hkl : ∀ x ∈ ks, exW x < n := fun x hx => by have := exsW_mem hx; omega
  refine enter (S := No) (l := [_]) (L := []) 69 Tryz.func28 rfl rfl rfl (St.start w No) ?_; refine yA ?_; refine w_boxA rfl (fun t1b gt1b ut1b => ?_)
  refine aB rfl ?_; refine yC ?_; refine zf fa24_3 rfl ?_; refine zl z22 rfl (fun _ h => zc 0 rfl rfl h) ?_; refine w_r (fun _ => R_len sl22 rfl) rfl rfl ?_; refine aI rfl ?_; refine yC ?_; refine aB rfl ?_; refine yB ?_; refine c_cut (fun e B L => e 1 = .pointer (some ⟨t1b, 0, none⟩) ∧ e 4 = .bool (ruleOk op nm ks.length) ∧ B = [(w, No)] ∧ L = [(t1b, cel [.int .u8 (op : Nat), .int .i64 at_, str nm, .slice ka ks.length kc] 24)]) ?_ ?_
  · refine yA ?_; refine zf fa24_0 rfl ?_; refine zl z5 rfl (fun _ h => zc 0 rfl rfl h) ?_; refine yB ?_; refine zB ?_; refine yA ?_; refine w_r (fun _ => R_eq rfl rfl) rfl rfl ?_; refine aB rfl ?_; refine yB ?_; refine zD rfl (fun h2 => ?_) (fun h2 => ?_)
    · refine zr ?_; refine mI rfl ?_; refine w_r (fun _ => R_eq rfl rfl) rfl rfl ?_; refine mB rfl ?_; refine zd (t := 14) rfl (fun h3 => ?_) (fun h3 => ?_)
      · refine zw rfl rfl (bT h3) ?_; refine zf fa24_2 rfl ?_; refine zw rfl rfl (bT h3) ?_; refine zl z9 rfl (fun _ h => zc 0 rfl rfl h) ?_; refine zw rfl rfl (bT h3) ?_; refine zC (fun w => zR Tryz.func67 rfl rfl rfl) rfl rfl (fun w h => rone_spec _ 2 (by omega) w) ?_; refine w_r (v := .bool _) (fun _ => zT (bT h3) rfl) rfl rfl ?_; refine aB rfl ?_; refine zn ?_; refine b_on (?_)
        exact k_mid ⟨rfl, (congrArg Value.bool (by (try clear hm hks ih hx hx2 hkl gt1b ut1b); (try simp only [ncs] at *); rcases op_cases9 op with rfl | rfl | rfl | rfl | rfl | rfl | rfl | rfl | rfl | hop <;> first | omega | (simp_all [ruleOk]; done) | (rw [rule_miss hop]))), rfl, rfl⟩
      · refine zs rfl rfl (bF h3) ?_; refine zs rfl rfl (bF h3) ?_; refine zs rfl rfl (bF h3) ?_; refine w_r (v := .bool _) (fun _ => zF (bF h3) rfl) rfl rfl ?_; refine aB rfl ?_; refine zn ?_; refine b_on (?_)
        exact k_mid ⟨rfl, (congrArg Value.bool (by (try clear hm hks ih hx hx2 hkl gt1b ut1b); (try simp only [ncs] at *); rcases op_cases9 op with rfl | rfl | rfl | rfl | rfl | rfl | rfl | rfl | rfl | hop <;> first | omega | (simp_all [ruleOk]; done) | (rw [rule_miss hop]))), rfl, rfl⟩
    · refine yA ?_; refine w_r (fun _ => R_eq rfl rfl) rfl rfl ?_; refine aB rfl ?_; refine yB ?_; refine zD rfl (fun h4 => ?_) (fun h4 => ?_)
      · refine zr ?_; refine mI rfl ?_; refine w_r (fun _ => R_eq rfl rfl) rfl rfl ?_; refine mB rfl ?_; refine zd (t := 23) rfl (fun h5 => ?_) (fun h5 => ?_)
        · refine zw rfl rfl (bT h5) ?_; refine zf fa24_2 rfl ?_; refine zw rfl rfl (bT h5) ?_; refine zl z9 rfl (fun _ h => zc 0 rfl rfl h) ?_; refine zw rfl rfl (bT h5) ?_; refine zC (fun w => zR Tryz.func68 rfl rfl rfl) rfl rfl (fun w h => rName_spec _ (by omega) w) ?_; refine w_r (v := .bool _) (fun _ => zT (bT h5) rfl) rfl rfl ?_; refine aB rfl ?_; refine zn ?_; refine b_on (?_)
          exact k_mid ⟨rfl, (congrArg Value.bool (by (try clear hm hks ih hx hx2 hkl gt1b ut1b); (try simp only [ncs] at *); rcases op_cases9 op with rfl | rfl | rfl | rfl | rfl | rfl | rfl | rfl | rfl | hop <;> first | omega | (simp_all [ruleOk]; done) | (rw [rule_miss hop]))), rfl, rfl⟩
        · refine zs rfl rfl (bF h5) ?_; refine zs rfl rfl (bF h5) ?_; refine zs rfl rfl (bF h5) ?_; refine w_r (v := .bool _) (fun _ => zF (bF h5) rfl) rfl rfl ?_; refine aB rfl ?_; refine zn ?_; refine b_on (?_)
          exact k_mid ⟨rfl, (congrArg Value.bool (by (try clear hm hks ih hx hx2 hkl gt1b ut1b); (try simp only [ncs] at *); rcases op_cases9 op with rfl | rfl | rfl | rfl | rfl | rfl | rfl | rfl | rfl | hop <;> first | omega | (simp_all [ruleOk]; done) | (rw [rule_miss hop]))), rfl, rfl⟩
      · refine yA ?_; refine w_r (fun _ => R_eq rfl rfl) rfl rfl ?_; refine aB rfl ?_; refine yB ?_; refine zD rfl (fun h6 => ?_) (fun h6 => ?_)
        · refine zr ?_; refine mI rfl ?_; refine w_r (fun _ => R_eq rfl rfl) rfl rfl ?_; refine mB rfl ?_; refine zd (t := 32) rfl (fun h7 => ?_) (fun h7 => ?_)
          · refine zw rfl rfl (bT h7) ?_; refine zf fa24_2 rfl ?_; refine zw rfl rfl (bT h7) ?_; refine zl z9 rfl (fun _ h => zc 0 rfl rfl h) ?_; refine zw rfl rfl (bT h7) ?_; refine zC (fun w => zR Tryz.func68 rfl rfl rfl) rfl rfl (fun w h => rName_spec _ (by omega) w) ?_; refine w_r (v := .bool _) (fun _ => zT (bT h7) rfl) rfl rfl ?_; refine aB rfl ?_; refine zn ?_; refine b_on (?_)
            exact k_mid ⟨rfl, (congrArg Value.bool (by (try clear hm hks ih hx hx2 hkl gt1b ut1b); (try simp only [ncs] at *); rcases op_cases9 op with rfl | rfl | rfl | rfl | rfl | rfl | rfl | rfl | rfl | hop <;> first | omega | (simp_all [ruleOk]; done) | (rw [rule_miss hop]))), rfl, rfl⟩
          · refine zs rfl rfl (bF h7) ?_; refine zs rfl rfl (bF h7) ?_; refine zs rfl rfl (bF h7) ?_; refine w_r (v := .bool _) (fun _ => zF (bF h7) rfl) rfl rfl ?_; refine aB rfl ?_; refine zn ?_; refine b_on (?_)
            exact k_mid ⟨rfl, (congrArg Value.bool (by (try clear hm hks ih hx hx2 hkl gt1b ut1b); (try simp only [ncs] at *); rcases op_cases9 op with rfl | rfl | rfl | rfl | rfl | rfl | rfl | rfl | rfl | hop <;> first | omega | (simp_all [ruleOk]; done) | (rw [rule_miss hop]))), rfl, rfl⟩
        · refine yA ?_; refine w_r (fun _ => R_eq rfl rfl) rfl rfl ?_; refine aB rfl ?_; refine yB ?_; refine zD rfl (fun h8 => ?_) (fun h8 => ?_)
          · refine zr ?_; refine zf fa24_2 rfl ?_; refine zl z9 rfl (fun _ h => zc 0 rfl rfl h) ?_; refine zC (fun w => zR Tryz.func68 rfl rfl rfl) rfl rfl (fun w h => rName_spec _ (by omega) w) ?_; refine aB rfl ?_; refine zn ?_; refine b_on (?_)
            exact k_mid ⟨rfl, (congrArg Value.bool (by (try clear hm hks ih hx hx2 hkl gt1b ut1b); (try simp only [ncs] at *); rcases op_cases9 op with rfl | rfl | rfl | rfl | rfl | rfl | rfl | rfl | rfl | hop <;> first | omega | (simp_all [ruleOk]; done) | (rw [rule_miss hop]))), rfl, rfl⟩
          · refine yA ?_; refine w_r (fun _ => R_eq rfl rfl) rfl rfl ?_; refine aB rfl ?_; refine yB ?_; refine zD rfl (fun h9 => ?_) (fun h9 => ?_)
            · refine zr ?_; refine mI rfl ?_; refine w_r (fun _ => R_eq rfl rfl) rfl rfl ?_; refine mB rfl ?_; refine zd (t := 46) rfl (fun h10 => ?_) (fun h10 => ?_)
              · refine zw rfl rfl (bT h10) ?_; refine zf fa24_2 rfl ?_; refine zw rfl rfl (bT h10) ?_; refine zl z9 rfl (fun _ h => zc 0 rfl rfl h) ?_; refine zw rfl rfl (bT h10) ?_; refine w_r (fun _ => R_seq rfl rfl) rfl rfl ?_; refine w_r (v := .bool _) (fun _ => zT (bT h10) rfl) rfl rfl ?_; refine aB rfl ?_; refine zn ?_; refine b_on (?_)
                exact k_mid ⟨rfl, (congrArg Value.bool (by (try clear hm hks ih hx hx2 hkl gt1b ut1b); (try simp only [ncs] at *); rcases op_cases9 op with rfl | rfl | rfl | rfl | rfl | rfl | rfl | rfl | rfl | hop <;> first | omega | (simp_all [ruleOk]; done) | (rw [rule_miss hop]))), rfl, rfl⟩
              · refine zs rfl rfl (bF h10) ?_; refine zs rfl rfl (bF h10) ?_; refine zs rfl rfl (bF h10) ?_; refine w_r (v := .bool _) (fun _ => zF (bF h10) rfl) rfl rfl ?_; refine aB rfl ?_; refine zn ?_; refine b_on (?_)
                exact k_mid ⟨rfl, (congrArg Value.bool (by (try clear hm hks ih hx hx2 hkl gt1b ut1b); (try simp only [ncs] at *); rcases op_cases9 op with rfl | rfl | rfl | rfl | rfl | rfl | rfl | rfl | rfl | hop <;> first | omega | (simp_all [ruleOk]; done) | (rw [rule_miss hop]))), rfl, rfl⟩
            · refine zq ?_; refine yA ?_; refine w_r (fun _ => R_eq rfl rfl) rfl rfl ?_; refine aB rfl ?_; refine yB ?_; refine zD rfl (fun h11 => ?_) (fun h11 => ?_)
              · refine zi ?_; refine zk ?_; refine zE (bT h11) ?_; refine zr ?_; refine mI rfl ?_; refine w_r (fun _ => R_eq rfl rfl) rfl rfl ?_; refine mB rfl ?_; refine zd (t := 58) rfl (fun h12 => ?_) (fun h12 => ?_)
                · refine zw rfl rfl (bT h12) ?_; refine zf fa24_2 rfl ?_; refine zw rfl rfl (bT h12) ?_; refine zl z9 rfl (fun _ h => zc 0 rfl rfl h) ?_; refine zw rfl rfl (bT h12) ?_; refine w_r (fun _ => R_seq rfl rfl) rfl rfl ?_; refine w_r (v := .bool _) (fun _ => zT (bT h12) rfl) rfl rfl ?_; refine aB rfl ?_; refine zn ?_; refine b_on (?_)
                  exact k_mid ⟨rfl, (congrArg Value.bool (by (try clear hm hks ih hx hx2 hkl gt1b ut1b); (try simp only [ncs] at *); rcases op_cases9 op with rfl | rfl | rfl | rfl | rfl | rfl | rfl | rfl | rfl | hop <;> first | omega | (simp_all [ruleOk]; done) | (rw [rule_miss hop]))), rfl, rfl⟩
                · refine zs rfl rfl (bF h12) ?_; refine zs rfl rfl (bF h12) ?_; refine zs rfl rfl (bF h12) ?_; refine w_r (v := .bool _) (fun _ => zF (bF h12) rfl) rfl rfl ?_; refine aB rfl ?_; refine zn ?_; refine b_on (?_)
                  exact k_mid ⟨rfl, (congrArg Value.bool (by (try clear hm hks ih hx hx2 hkl gt1b ut1b); (try simp only [ncs] at *); rcases op_cases9 op with rfl | rfl | rfl | rfl | rfl | rfl | rfl | rfl | rfl | hop <;> first | omega | (simp_all [ruleOk]; done) | (rw [rule_miss hop]))), rfl, rfl⟩
              · refine yA ?_; refine w_r (fun _ => R_eq rfl rfl) rfl rfl ?_; refine aB rfl ?_; refine yB ?_; refine zD rfl (fun h13 => ?_) (fun h13 => ?_)
                · refine zi ?_; refine zk ?_; refine zE (bT h13) ?_; refine zr ?_; refine mI rfl ?_; refine w_r (fun _ => R_eq rfl rfl) rfl rfl ?_; refine mB rfl ?_; refine zd (t := 58) rfl (fun h14 => ?_) (fun h14 => ?_)
                  · refine zw rfl rfl (bT h14) ?_; refine zf fa24_2 rfl ?_; refine zw rfl rfl (bT h14) ?_; refine zl z9 rfl (fun _ h => zc 0 rfl rfl h) ?_; refine zw rfl rfl (bT h14) ?_; refine w_r (fun _ => R_seq rfl rfl) rfl rfl ?_; refine w_r (v := .bool _) (fun _ => zT (bT h14) rfl) rfl rfl ?_; refine aB rfl ?_; refine zn ?_; refine b_on (?_)
                    exact k_mid ⟨rfl, (congrArg Value.bool (by (try clear hm hks ih hx hx2 hkl gt1b ut1b); (try simp only [ncs] at *); rcases op_cases9 op with rfl | rfl | rfl | rfl | rfl | rfl | rfl | rfl | rfl | hop <;> first | omega | (simp_all [ruleOk]; done) | (rw [rule_miss hop]))), rfl, rfl⟩
                  · refine zs rfl rfl (bF h14) ?_; refine zs rfl rfl (bF h14) ?_; refine zs rfl rfl (bF h14) ?_; refine w_r (v := .bool _) (fun _ => zF (bF h14) rfl) rfl rfl ?_; refine aB rfl ?_; refine zn ?_; refine b_on (?_)
                    exact k_mid ⟨rfl, (congrArg Value.bool (by (try clear hm hks ih hx hx2 hkl gt1b ut1b); (try simp only [ncs] at *); rcases op_cases9 op with rfl | rfl | rfl | rfl | rfl | rfl | rfl | rfl | rfl | hop <;> first | omega | (simp_all [ruleOk]; done) | (rw [rule_miss hop]))), rfl, rfl⟩
                · refine yA ?_; refine w_r (fun _ => R_eq rfl rfl) rfl rfl ?_; refine aB rfl ?_; refine yB ?_; refine zD rfl (fun h15 => ?_) (fun h15 => ?_)
                  · refine zi ?_; refine zk ?_; refine zE (bT h15) ?_; refine zr ?_; refine mI rfl ?_; refine w_r (fun _ => R_eq rfl rfl) rfl rfl ?_; refine mB rfl ?_; refine zd (t := 58) rfl (fun h16 => ?_) (fun h16 => ?_)
                    · refine zw rfl rfl (bT h16) ?_; refine zf fa24_2 rfl ?_; refine zw rfl rfl (bT h16) ?_; refine zl z9 rfl (fun _ h => zc 0 rfl rfl h) ?_; refine zw rfl rfl (bT h16) ?_; refine w_r (fun _ => R_seq rfl rfl) rfl rfl ?_; refine w_r (v := .bool _) (fun _ => zT (bT h16) rfl) rfl rfl ?_; refine aB rfl ?_; refine zn ?_; refine b_on (?_)
                      exact k_mid ⟨rfl, (congrArg Value.bool (by (try clear hm hks ih hx hx2 hkl gt1b ut1b); (try simp only [ncs] at *); rcases op_cases9 op with rfl | rfl | rfl | rfl | rfl | rfl | rfl | rfl | rfl | hop <;> first | omega | (simp_all [ruleOk]; done) | (rw [rule_miss hop]))), rfl, rfl⟩
                    · refine zs rfl rfl (bF h16) ?_; refine zs rfl rfl (bF h16) ?_; refine zs rfl rfl (bF h16) ?_; refine w_r (v := .bool _) (fun _ => zF (bF h16) rfl) rfl rfl ?_; refine aB rfl ?_; refine zn ?_; refine b_on (?_)
                      exact k_mid ⟨rfl, (congrArg Value.bool (by (try clear hm hks ih hx hx2 hkl gt1b ut1b); (try simp only [ncs] at *); rcases op_cases9 op with rfl | rfl | rfl | rfl | rfl | rfl | rfl | rfl | rfl | hop <;> first | omega | (simp_all [ruleOk]; done) | (rw [rule_miss hop]))), rfl, rfl⟩
                  · refine zr ?_; refine w_r (fun _ => R_eq rfl rfl) rfl rfl ?_; refine aB rfl ?_; refine yB ?_; refine zD rfl (fun h17 => ?_) (fun h17 => ?_)
                    · refine zr ?_; refine mI rfl ?_; refine w_r (fun _ => R_eq rfl rfl) rfl rfl ?_; refine mB rfl ?_; refine zd (t := 58) rfl (fun h18 => ?_) (fun h18 => ?_)
                      · refine zw rfl rfl (bT h18) ?_; refine zf fa24_2 rfl ?_; refine zw rfl rfl (bT h18) ?_; refine zl z9 rfl (fun _ h => zc 0 rfl rfl h) ?_; refine zw rfl rfl (bT h18) ?_; refine w_r (fun _ => R_seq rfl rfl) rfl rfl ?_; refine w_r (v := .bool _) (fun _ => zT (bT h18) rfl) rfl rfl ?_; refine aB rfl ?_; refine zn ?_; refine b_on (?_)
                        exact k_mid ⟨rfl, (congrArg Value.bool (by (try clear hm hks ih hx hx2 hkl gt1b ut1b); (try simp only [ncs] at *); rcases op_cases9 op with rfl | rfl | rfl | rfl | rfl | rfl | rfl | rfl | rfl | hop <;> first | omega | (simp_all [ruleOk]; done) | (rw [rule_miss hop]))), rfl, rfl⟩
                      · refine zs rfl rfl (bF h18) ?_; refine zs rfl rfl (bF h18) ?_; refine zs rfl rfl (bF h18) ?_; refine w_r (v := .bool _) (fun _ => zF (bF h18) rfl) rfl rfl ?_; refine aB rfl ?_; refine zn ?_; refine b_on (?_)
                        exact k_mid ⟨rfl, (congrArg Value.bool (by (try clear hm hks ih hx hx2 hkl gt1b ut1b); (try simp only [ncs] at *); rcases op_cases9 op with rfl | rfl | rfl | rfl | rfl | rfl | rfl | rfl | rfl | hop <;> first | omega | (simp_all [ruleOk]; done) | (rw [rule_miss hop]))), rfl, rfl⟩
                    · refine zi ?_; refine b_on (?_)
                      exact k_mid ⟨rfl, (congrArg Value.bool (by (try clear hm hks ih hx hx2 hkl gt1b ut1b); (try simp only [ncs] at *); rcases op_cases9 op with rfl | rfl | rfl | rfl | rfl | rfl | rfl | rfl | rfl | hop <;> first | omega | (simp_all [ruleOk]; done) | (rw [rule_miss hop]))), rfl, rfl⟩
  rintro e B L ⟨e1_1, e4_1, rfl, rfl⟩
  refine yA ?_; refine mB e4_1 ?_; refine mB rfl ?_; refine zp (t := 64) rfl (fun h19 => ?_) (fun h19 => ?_)
  · refine zw rfl rfl (bV h19) ?_; refine zf fa24_3 e1_1 ?_; refine zw rfl rfl (bV h19) ?_; refine zl z22 rfl (fun _ h => zc 0 rfl rfl h) ?_; refine zw rfl rfl (bV h19) ?_; refine zC (fun w => zR Tryz.func69 rfl rfl rfl) rfl rfl (fun w h => rexprs_spec n ih ks ka kc N w hkl (by omega) (hks.now (fun _ _ hh => hh) (.head _) h)) ?_; refine w_r (v := .bool _) (fun _ => zT (bV h19) rfl) rfl rfl ?_; refine aB rfl ?_; refine yB ?_; refine ze ?_; refine zo (v := .bool _) rfl rfl rfl ?_; exact fun w' hw => ⟨by (try clear hm hks hw ih hx hx2 hkl e1_1 e4_1 gt1b ut1b); simp only [exOk]; simp_all, hw.fr _ (.head _)⟩
  · refine zs rfl rfl (bV h19) ?_; refine zs rfl rfl (bV h19) ?_; refine zs rfl rfl (bV h19) ?_; refine w_r (v := .bool _) (fun _ => zF (bV h19) rfl) rfl rfl ?_; refine aB rfl ?_; refine yB ?_; refine ze ?_; refine zo (v := .bool _) rfl rfl rfl ?_; exact fun w' hw => ⟨by (try clear hm hks hw ih hx hx2 hkl e1_1 e4_1 gt1b ut1b); simp only [exOk]; simp_all, hw.fr _ (.head _)⟩


theorem rexpr_all : ∀ n : Nat, n ≤ 10000000 → RExprH n
  | 0, _ => fun _ _ _ _ h => absurd h (Nat.not_lt_zero _)
  | n + 1, h => rexpr_step n (rexpr_all n (by omega)) (by omega)
theorem rexpr_ok : RExprH 10000000 := rexpr_all _ (Nat.le_refl _)
theorem rexprs_ok (l : List Ex) (a : Option Addr) (c : Nat) (N : Nat → Prop) (w : World) (hl : exsW l < 10000000) (hll : l.length ≤ 10000000) (hm : exsM w N l a 0) : Ret Tryz.prog 69 #[.slice a l.length c] w fun v w' => v = .bool (exsOk l) ∧ Ext w w' :=
  rexprs_spec _ rexpr_ok l a c N w (fun _ hx => Nat.lt_of_le_of_lt (exsW_mem hx) hl) hll hm

set_option maxRecDepth 100000 in
set_option maxHeartbeats 400000 in
theorem rcompare_spec (x : Ex) (cs : List Value) (N : Nat → Prop) (w : World) (hx : exW x < 10000000) (hm : exM w N x cs) :
    Ret Tryz.prog 117 #[.agg cs.toArray] w (fun v w' => v = .bool (cmpOk x) ∧ Ext w w') := by
  obtain ⟨op, at_, nm, ks⟩ := x
  have hm2 := hm
  unfold exM at hm2
  obtain ⟨ka, kc, rfl, hkc, hks⟩ := hm2
  have hx2 := hx
  unfold exW at hx2
  refine enter (S := No) (l := [_]) (L := []) 27 Tryz.func117 rfl rfl rfl (St.start w No) ?_; refine yA ?_; refine w_boxA rfl (fun t1b gt1b ut1b => ?_)
  refine aB rfl ?_; refine yC ?_; refine zf fa24_0 rfl ?_; refine zl z5 rfl (fun _ h => zc 0 rfl rfl h) ?_; refine w_r (fun _ => R_ge rfl rfl) rfl rfl ?_; refine mB rfl ?_; refine zd (t := 6) rfl (fun h2 => ?_) (fun h2 => ?_)
  · refine zw rfl rfl (bT h2) ?_; refine zf fa24_0 rfl ?_; refine zw rfl rfl (bT h2) ?_; refine zl z5 rfl (fun _ h => zc 0 rfl rfl h) ?_; refine zw rfl rfl (bT h2) ?_; refine w_r (fun _ => R_le rfl rfl) rfl rfl ?_; refine w_r (v := .bool _) (fun _ => zT (bT h2) rfl) rfl rfl ?_; refine mB rfl ?_; refine zd (t := 11) rfl (fun h3 => ?_) (fun h3 => ?_)
    · refine zw rfl rfl (bT h3) ?_; refine zf fa24_2 rfl ?_; refine zw rfl rfl (bT h3) ?_; refine zl z9 rfl (fun _ h => zc 0 rfl rfl h) ?_; refine zw rfl rfl (bT h3) ?_; refine w_r (fun _ => R_seq rfl rfl) rfl rfl ?_; refine w_r (v := .bool _) (fun _ => zT (bT h3) rfl) rfl rfl ?_; refine mB rfl ?_; refine zd (t := 16) rfl (fun h4 => ?_) (fun h4 => ?_)
      · refine zw rfl rfl (bT h4) ?_; refine zf fa24_3 rfl ?_; refine zw rfl rfl (bT h4) ?_; refine zl z22 rfl (fun _ h => zc 0 rfl rfl h) ?_; refine zw rfl rfl (bT h4) ?_; refine w_r (fun _ => R_len sl22 rfl) rfl rfl ?_; refine zw rfl rfl (bT h4) ?_; refine w_r (fun _ => R_eq rfl rfl) rfl rfl ?_; refine w_r (v := .bool _) (fun _ => zT (bT h4) rfl) rfl rfl ?_; refine mB rfl ?_; refine zd (t := 22) rfl (fun h5 => ?_) (fun h5 => ?_)
        · refine zw rfl rfl (bT h5) ?_; refine zf fa24_3 rfl ?_; refine zw rfl rfl (bT h5) ?_; refine zl z22 rfl (fun _ h => zc 0 rfl rfl h) ?_; refine zw rfl rfl (bT h5) ?_; refine zC (fun w => zR Tryz.func69 rfl rfl rfl) rfl rfl (fun w h => rexprs_ok ks ka kc N w (by omega) (by omega) (hks.now (fun _ _ hh => hh) (.head _) h)) ?_; refine w_r (v := .bool _) (fun _ => zT (bT h5) rfl) rfl rfl ?_; refine aB rfl ?_; refine yB ?_; refine ze ?_; refine zo (v := .bool _) rfl rfl rfl ?_; exact fun w' hw => ⟨by (try clear hm hks hw hx hx2 gt1b ut1b); simp only [cmpOk, cmpOp, Ex.op, Ex.nm, Ex.kids]; (try simp only [ncs] at *); first | (simp_all; done) | grind | (simp_all <;> omega), hw.fr _ (.head _)⟩
        · refine zs rfl rfl (bF h5) ?_; refine zs rfl rfl (bF h5) ?_; refine zs rfl rfl (bF h5) ?_; refine w_r (v := .bool _) (fun _ => zF (bF h5) rfl) rfl rfl ?_; refine aB rfl ?_; refine yB ?_; refine ze ?_; refine zo (v := .bool _) rfl rfl rfl ?_; exact fun w' hw => ⟨by (try clear hm hks hw hx hx2 gt1b ut1b); simp only [cmpOk, cmpOp, Ex.op, Ex.nm, Ex.kids]; (try simp only [ncs] at *); first | (simp_all; done) | grind | (simp_all <;> omega), hw.fr _ (.head _)⟩
      · refine zs rfl rfl (bF h4) ?_; refine zs rfl rfl (bF h4) ?_; refine zs rfl rfl (bF h4) ?_; refine zs rfl rfl (bF h4) ?_; refine w_r (v := .bool _) (fun _ => zF (bF h4) rfl) rfl rfl ?_; refine mB rfl ?_; refine zs rfl rfl rfl ?_; refine zs rfl rfl rfl ?_; refine zs rfl rfl rfl ?_; refine w_r (v := .bool _) (fun _ => zF rfl rfl) rfl rfl ?_; refine aB rfl ?_; refine yB ?_; refine ze ?_; refine zo (v := .bool _) rfl rfl rfl ?_; exact fun w' hw => ⟨by (try clear hm hks hw hx hx2 gt1b ut1b); simp only [cmpOk, cmpOp, Ex.op, Ex.nm, Ex.kids]; (try simp only [ncs] at *); first | (simp_all; done) | grind | (simp_all <;> omega), hw.fr _ (.head _)⟩
    · refine zs rfl rfl (bF h3) ?_; refine zs rfl rfl (bF h3) ?_; refine zs rfl rfl (bF h3) ?_; refine w_r (v := .bool _) (fun _ => zF (bF h3) rfl) rfl rfl ?_; refine mB rfl ?_; refine zs rfl rfl rfl ?_; refine zs rfl rfl rfl ?_; refine zs rfl rfl rfl ?_; refine zs rfl rfl rfl ?_; refine w_r (v := .bool _) (fun _ => zF rfl rfl) rfl rfl ?_; refine mB rfl ?_; refine zs rfl rfl rfl ?_; refine zs rfl rfl rfl ?_; refine zs rfl rfl rfl ?_; refine w_r (v := .bool _) (fun _ => zF rfl rfl) rfl rfl ?_; refine aB rfl ?_; refine yB ?_; refine ze ?_; refine zo (v := .bool _) rfl rfl rfl ?_
      exact fun w' hw => ⟨by (try clear hm hks hw hx hx2 gt1b ut1b); simp only [cmpOk, cmpOp, Ex.op, Ex.nm, Ex.kids]; (try simp only [ncs] at *); first | (simp_all; done) | grind | (simp_all <;> omega), hw.fr _ (.head _)⟩
  · refine zs rfl rfl (bF h2) ?_; refine zs rfl rfl (bF h2) ?_; refine zs rfl rfl (bF h2) ?_; refine w_r (v := .bool _) (fun _ => zF (bF h2) rfl) rfl rfl ?_; refine mB rfl ?_; refine zs rfl rfl rfl ?_; refine zs rfl rfl rfl ?_; refine zs rfl rfl rfl ?_; refine w_r (v := .bool _) (fun _ => zF rfl rfl) rfl rfl ?_; refine mB rfl ?_; refine zs rfl rfl rfl ?_; refine zs rfl rfl rfl ?_; refine zs rfl rfl rfl ?_; refine zs rfl rfl rfl ?_; refine w_r (v := .bool _) (fun _ => zF rfl rfl) rfl rfl ?_; refine mB rfl ?_; refine zs rfl rfl rfl ?_; refine zs rfl rfl rfl ?_; refine zs rfl rfl rfl ?_; refine w_r (v := .bool _) (fun _ => zF rfl rfl) rfl rfl ?_; refine aB rfl ?_; refine yB ?_; refine ze ?_
    refine zo (v := .bool _) rfl rfl rfl ?_; exact fun w' hw => ⟨by (try clear hm hks hw hx hx2 gt1b ut1b); simp only [cmpOk, cmpOp, Ex.op, Ex.nm, Ex.kids]; (try simp only [ncs] at *); first | (simp_all; done) | grind | (simp_all <;> omega), hw.fr _ (.head _)⟩


def RStmtH (n : Nat) : Prop := ∀ (x : Sm) (cs : List Value) (N : Nat → Prop) (w : World), smW x < n → smM w N x cs → Ret Tryz.prog 95 #[.agg cs.toArray] w fun v w' => v = .bool (smOk x) ∧ Ext w w'
def midOk (op : Nat) (nm : Str) (ks : List Ex) (b e : Nat) : Bool := sruleOk op nm ks && (decide (op = 5) || exsOk ks) && !(decide (op < 4) && decide (0 < b)) && !(decide (op ≠ 5) && decide (0 < e))
theorem smOk_mid (op : Nat) (at_ : Int) (nm : Str) (ks : List Ex) (b e : List Sm) : smOk (.mk op at_ nm ks b e) = (midOk op nm ks b.length e.length && (smsOk b && smsOk e)) := by rw [smOk]; rfl
theorem mid_miss {op : Nat} (h : op = 0 ∨ 7 ≤ op) (nm : Str) (ks : List Ex) (b e : Nat) : midOk op nm ks b e = false := by unfold midOk; rw [srule_miss h]; rfl
set_option maxRecDepth 100000 in
set_option maxHeartbeats 400000 in
theorem rstmts_spec (n : Nat) (ih : RStmtH n) (l : List Sm) (a : Option Addr) (c : Nat) (N : Nat → Prop) (w : World) (hl : ∀ x ∈ l, smW x < n) (hll : l.length ≤ 10000000) (hm : smsM w N l a 0) :
    Ret Tryz.prog 78 #[.slice a l.length c] w (fun v w' => v = .bool (smsOk l) ∧ Ext w w') := by
  refine enter (S := No) (l := [_]) (L := []) 16 Tryz.func78 rfl rfl rfl (St.start w No) ?_; refine yA ?_; refine aB rfl ?_; refine yB ?_; refine zq ?_; refine yA ?_; refine aI rfl ?_; refine yB ?_; refine zB ?_; refine c_loop (fun m e B L => ∃ (k : Nat), e 0 = .slice a l.length c ∧ e 3 = .int .i64 (k : Nat) ∧ B = [(w, No)] ∧ L = [] ∧ k ≤ l.length ∧ (∀ y ∈ l.take k, (!smOk y) = false) ∧ m = l.length - k) _ ⟨0, rfl, rfl, rfl, rfl, Nat.zero_le _, (by simp), rfl⟩ ?_
  rintro m e B L ⟨k, e0_1, e3_1, rfl, rfl, hk, hy, rfl⟩
  refine zq ?_; refine yA ?_; refine mI e3_1 ?_; refine mS e0_1 ?_; refine w_r (fun _ => R_len sl35 rfl) rfl rfl ?_; refine w_r (fun _ => R_lt rfl rfl) rfl rfl ?_; refine yB ?_; refine zD rfl (fun h1 => ?_) (fun h1 => ?_)
  · have hlt : k < l.length := (by omega); obtain ⟨x, hxk⟩ : ∃ x, l[k]? = some x := ⟨_, List.getElem?_eq_getElem hlt⟩; obtain ⟨cs, hA, hE⟩ := hm.get0 hxk; have hxn := hl x (List.mem_of_getElem? hxk); obtain ⟨b1, o1, rfl⟩ := hA.ptr; have hEx := hE; obtain ⟨op, at_, nm, ks, bo, el⟩ := x; unfold smM at hEx; obtain ⟨ka, kc, ba, bc, ea, ec, rfl, hkc, hks, hbo, hel⟩ := hEx
    refine zi ?_; refine zk ?_; refine zq ?_; refine zB ?_; refine yA ?_; refine mS e0_1 ?_; refine mI e3_1 ?_; refine w_r (fun _ => R_iaN (i := k) sl35 rfl rfl (by first | omega | decide)) rfl rfl ?_; refine w_loadC (l := [.int .u8 (op : Nat), .int .i64 at_, str nm, .slice ka ks.length kc, .slice ba bo.length bc, .slice ea el.length ec]) z70 rfl rfl (fun w h j v hj => hA.cell (fun _ _ hh => hh) (.head _) h j v hj) ?_; refine zC (fun w => zR Tryz.func95 rfl rfl rfl) rfl rfl (fun w h => ih _ _ N w hxn (hE.now (fun _ _ hh => hh) (.head _) h)) ?_; refine w_r (fun _ => R_not rfl) rfl rfl ?_; refine yB ?_; refine c_condN rfl (fun h2 => ?_) (fun h2 => ?_)
    · refine yA ?_; refine aB rfl ?_; refine yB ?_; refine ze ?_; refine zb (zt (zt (zb (zt (?_)))))
      refine zo (v := .bool _) rfl rfl rfl ?_; exact fun w' hw => ⟨by rw [smsOk_all]; first | (rw [all_of_take hy (by omega)]; done) | (rw [all_no hxk h2]; done), hw.fr _ (.head _)⟩
    · refine zi ?_; refine b_on (zk ?_); refine zr ?_; refine mI e3_1 ?_; refine w_r (fun _ => R_addi rfl rfl (by omega)) rfl rfl ?_; refine aI rfl ?_; refine zn ?_; exact k_again _ (by omega) ⟨k + 1, e0_1, rfl, rfl, rfl, by omega, take_all hy hxk (by rw [h2]; rfl), rfl⟩
  · refine c_exit ?_; refine zx (zx (b_here rfl (zk ?_))); refine yA ?_; refine aB rfl ?_; refine yB ?_; refine ze ?_; refine zo (v := .bool _) rfl rfl rfl ?_; exact fun w' hw => ⟨by rw [smsOk_all]; first | (rw [all_of_take hy (by omega)]; done) | (rw [all_no hxk h2]; done), hw.fr _ (.head _)⟩

set_option maxRecDepth 100000 in
set_option maxHeartbeats 8000000 in
theorem rstmt_step (n : Nat) (ih : RStmtH n) (hn : n ≤ 10000000) (x : Sm) (cs : List Value) (N : Nat → Prop) (w : World) (hx : smW x < n + 1) (hm : smM w N x cs) :
    Ret Tryz.prog 95 #[.agg cs.toArray] w (fun v w' => v = .bool (smOk x) ∧ Ext w w') := by
  have hEx := hm; obtain ⟨op, at_, nm, ks, bo, el⟩ := x; unfold smM at hEx; obtain ⟨ka, kc, ba, bc, ea, ec, rfl, hkc, hks, hbo, hel⟩ := hEx
  have hx2 := hx
  unfold smW at hx2
  refine enter (S := No) (l := [_]) (L := []) 148 Tryz.func95 rfl rfl rfl (St.start w No) ?_; refine yA ?_; refine w_boxA rfl (fun t1b gt1b ut1b => ?_)
  refine aB rfl ?_; refine yC ?_; refine zf fa70_3 rfl ?_; refine zl z22 rfl (fun _ h => zc 0 rfl rfl h) ?_; refine w_r (fun _ => R_len sl22 rfl) rfl rfl ?_; refine aI rfl ?_; refine yC ?_; refine aB rfl ?_; refine yB ?_; refine c_cut (fun e B L => e 1 = .pointer (some ⟨t1b, 0, none⟩) ∧ e 4 = .bool (midOk op nm ks bo.length el.length) ∧ B = [(w, No)] ∧ L = [(t1b, cel [.int .u8 (op : Nat), .int .i64 at_, str nm, .slice ka ks.length kc, .slice ba bo.length bc, .slice ea el.length ec] 70)]) ?_ ?_
  · refine yA ?_; refine zf fa70_0 rfl ?_; refine zl z5 rfl (fun _ h => zc 0 rfl rfl h) ?_; refine yB ?_; refine zB ?_; refine yA ?_; refine w_r (fun _ => R_eq rfl rfl) rfl rfl ?_; refine aB rfl ?_; refine yB ?_; refine zD rfl (fun h2 => ?_) (fun h2 => ?_)
    · refine zr ?_; refine zf fa70_2 rfl ?_; refine zl z9 rfl (fun _ h => zc 0 rfl rfl h) ?_; refine zC (fun w => zR Tryz.func68 rfl rfl rfl) rfl rfl (fun w h => rName_spec _ (by omega) w) ?_; refine mB rfl ?_; refine zp (t := 15) rfl (fun h3 => ?_) (fun h3 => ?_)
      · refine zw rfl rfl (bV h3) ?_; refine mI rfl ?_; refine zw rfl rfl (bV h3) ?_; refine w_r (fun _ => R_eq rfl rfl) rfl rfl ?_; refine zw rfl rfl (bV h3) ?_; refine mB rfl ?_; refine zd (t := 18) rfl (fun h4 => ?_) (fun h4 => ?_)
        · refine zs rfl rfl (bT h4) ?_; refine zs rfl rfl (bT h4) ?_; refine zw rfl rfl (bV h3) ?_; refine w_r (v := .bool _) (fun _ => zT (bT h4) rfl) rfl rfl ?_; refine w_r (v := .bool _) (fun _ => zT (bV h3) rfl) rfl rfl ?_; refine mB rfl ?_; refine zw rfl rfl rfl ?_; refine zf fa70_3 rfl ?_; refine zw rfl rfl rfl ?_; refine zl z22 rfl (fun _ h => zc 0 rfl rfl h) ?_; refine zw rfl rfl rfl ?_; refine zC (fun w => zR Tryz.func69 rfl rfl rfl) rfl rfl (fun w h => rexprs_ok ks ka kc N w (by omega) (by omega) (hks.now (fun _ _ hh => hh) (.head _) h)) ?_; refine w_r (v := .bool _) (fun _ => zT rfl rfl) rfl rfl ?_; refine mB rfl ?_; refine zp (t := 28) rfl (fun h5 => ?_) (fun h5 => ?_)
          · refine zw rfl rfl (bV h5) ?_; refine zf fa70_4 rfl ?_; refine zw rfl rfl (bV h5) ?_; refine zl z35 rfl (fun _ h => zc 0 rfl rfl h) ?_; refine zw rfl rfl (bV h5) ?_; refine w_r (fun _ => R_len sl35 rfl) rfl rfl ?_; refine zw rfl rfl (bV h5) ?_; refine zf fa70_5 rfl ?_; refine zw rfl rfl (bV h5) ?_; refine zl z35 rfl (fun _ h => zc 0 rfl rfl h) ?_; refine zw rfl rfl (bV h5) ?_; refine w_r (fun _ => R_len sl35 rfl) rfl rfl ?_; refine zw rfl rfl (bV h5) ?_; refine w_r (fun _ => R_addi rfl rfl (by omega)) rfl rfl ?_; refine zw rfl rfl (bV h5) ?_; refine w_r (fun _ => R_eq rfl rfl) rfl rfl ?_; refine w_r (v := .bool _) (fun _ => zT (bV h5) rfl) rfl rfl ?_; refine aB rfl ?_; refine zn ?_; refine b_on (?_)
            exact k_mid ⟨rfl, (congrArg Value.bool (by (try clear hm hks hbo hel ih hx hx2 gt1b ut1b); (try simp only [ncs] at *); rcases op_cases6 op with rfl | rfl | rfl | rfl | rfl | rfl | hop <;> first | omega | (simp_all [midOk, sruleOk]; done) | (simp_all [midOk, sruleOk, exsOk]; done) | (cases el <;> simp_all [midOk, sruleOk, exsOk]; done) | (cases ks <;> cases el <;> simp_all [midOk, sruleOk, exsOk]; done) | (simp_all [midOk, sruleOk]; omega) | grind [midOk, sruleOk] | (rw [mid_miss hop]))), rfl, rfl⟩
          · refine zs rfl rfl (bV h5) ?_; refine zs rfl rfl (bV h5) ?_; refine zs rfl rfl (bV h5) ?_; refine zs rfl rfl (bV h5) ?_; refine zs rfl rfl (bV h5) ?_; refine zs rfl rfl (bV h5) ?_; refine zs rfl rfl (bV h5) ?_; refine zs rfl rfl (bV h5) ?_; refine w_r (v := .bool _) (fun _ => zF (bV h5) rfl) rfl rfl ?_; refine aB rfl ?_; refine zn ?_; refine b_on (?_)
            exact k_mid ⟨rfl, (congrArg Value.bool (by (try clear hm hks hbo hel ih hx hx2 gt1b ut1b); (try simp only [ncs] at *); rcases op_cases6 op with rfl | rfl | rfl | rfl | rfl | rfl | hop <;> first | omega | (simp_all [midOk, sruleOk]; done) | (simp_all [midOk, sruleOk, exsOk]; done) | (cases el <;> simp_all [midOk, sruleOk, exsOk]; done) | (cases ks <;> cases el <;> simp_all [midOk, sruleOk, exsOk]; done) | (simp_all [midOk, sruleOk]; omega) | grind [midOk, sruleOk] | (rw [mid_miss hop]))), rfl, rfl⟩
        · refine zw rfl rfl (bF h4) ?_; refine mI rfl ?_; refine zw rfl rfl (bF h4) ?_; refine w_r (fun _ => R_eq rfl rfl) rfl rfl ?_; refine zw rfl rfl (bV h3) ?_; refine w_r (v := .bool _) (fun _ => zF (bF h4) rfl) rfl rfl ?_; refine w_r (v := .bool _) (fun _ => zT (bV h3) rfl) rfl rfl ?_; refine mB rfl ?_; refine zd (t := 23) rfl (fun h6 => ?_) (fun h6 => ?_)
          · refine zw rfl rfl (bT h6) ?_; refine zf fa70_3 rfl ?_; refine zw rfl rfl (bT h6) ?_; refine zl z22 rfl (fun _ h => zc 0 rfl rfl h) ?_; refine zw rfl rfl (bT h6) ?_; refine zC (fun w => zR Tryz.func69 rfl rfl rfl) rfl rfl (fun w h => rexprs_ok ks ka kc N w (by omega) (by omega) (hks.now (fun _ _ hh => hh) (.head _) h)) ?_; refine w_r (v := .bool _) (fun _ => zT (bT h6) rfl) rfl rfl ?_; refine mB rfl ?_; refine zp (t := 28) rfl (fun h7 => ?_) (fun h7 => ?_)
            · refine zw rfl rfl (bV h7) ?_; refine zf fa70_4 rfl ?_; refine zw rfl rfl (bV h7) ?_; refine zl z35 rfl (fun _ h => zc 0 rfl rfl h) ?_; refine zw rfl rfl (bV h7) ?_; refine w_r (fun _ => R_len sl35 rfl) rfl rfl ?_; refine zw rfl rfl (bV h7) ?_; refine zf fa70_5 rfl ?_; refine zw rfl rfl (bV h7) ?_; refine zl z35 rfl (fun _ h => zc 0 rfl rfl h) ?_; refine zw rfl rfl (bV h7) ?_; refine w_r (fun _ => R_len sl35 rfl) rfl rfl ?_; refine zw rfl rfl (bV h7) ?_; refine w_r (fun _ => R_addi rfl rfl (by omega)) rfl rfl ?_; refine zw rfl rfl (bV h7) ?_; refine w_r (fun _ => R_eq rfl rfl) rfl rfl ?_; refine w_r (v := .bool _) (fun _ => zT (bV h7) rfl) rfl rfl ?_; refine aB rfl ?_; refine zn ?_; refine b_on (?_)
              exact k_mid ⟨rfl, (congrArg Value.bool (by (try clear hm hks hbo hel ih hx hx2 gt1b ut1b); (try simp only [ncs] at *); rcases op_cases6 op with rfl | rfl | rfl | rfl | rfl | rfl | hop <;> first | omega | (simp_all [midOk, sruleOk]; done) | (simp_all [midOk, sruleOk, exsOk]; done) | (cases el <;> simp_all [midOk, sruleOk, exsOk]; done) | (cases ks <;> cases el <;> simp_all [midOk, sruleOk, exsOk]; done) | (simp_all [midOk, sruleOk]; omega) | grind [midOk, sruleOk] | (rw [mid_miss hop]))), rfl, rfl⟩
            · refine zs rfl rfl (bV h7) ?_; refine zs rfl rfl (bV h7) ?_; refine zs rfl rfl (bV h7) ?_; refine zs rfl rfl (bV h7) ?_; refine zs rfl rfl (bV h7) ?_; refine zs rfl rfl (bV h7) ?_; refine zs rfl rfl (bV h7) ?_; refine zs rfl rfl (bV h7) ?_; refine w_r (v := .bool _) (fun _ => zF (bV h7) rfl) rfl rfl ?_; refine aB rfl ?_; refine zn ?_; refine b_on (?_)
              exact k_mid ⟨rfl, (congrArg Value.bool (by (try clear hm hks hbo hel ih hx hx2 gt1b ut1b); (try simp only [ncs] at *); rcases op_cases6 op with rfl | rfl | rfl | rfl | rfl | rfl | hop <;> first | omega | (simp_all [midOk, sruleOk]; done) | (simp_all [midOk, sruleOk, exsOk]; done) | (cases el <;> simp_all [midOk, sruleOk, exsOk]; done) | (cases ks <;> cases el <;> simp_all [midOk, sruleOk, exsOk]; done) | (simp_all [midOk, sruleOk]; omega) | grind [midOk, sruleOk] | (rw [mid_miss hop]))), rfl, rfl⟩
          · refine zs rfl rfl (bF h6) ?_; refine zs rfl rfl (bF h6) ?_; refine zs rfl rfl (bF h6) ?_; refine w_r (v := .bool _) (fun _ => zF (bF h6) rfl) rfl rfl ?_; refine mB rfl ?_; refine zs rfl rfl rfl ?_; refine zs rfl rfl rfl ?_; refine zs rfl rfl rfl ?_; refine zs rfl rfl rfl ?_; refine zs rfl rfl rfl ?_; refine zs rfl rfl rfl ?_; refine zs rfl rfl rfl ?_; refine zs rfl rfl rfl ?_; refine w_r (v := .bool _) (fun _ => zF rfl rfl) rfl rfl ?_; refine aB rfl ?_; refine zn ?_; refine b_on (?_)
            exact k_mid ⟨rfl, (congrArg Value.bool (by (try clear hm hks hbo hel ih hx hx2 gt1b ut1b); (try simp only [ncs] at *); rcases op_cases6 op with rfl | rfl | rfl | rfl | rfl | rfl | hop <;> first | omega | (simp_all [midOk, sruleOk]; done) | (simp_all [midOk, sruleOk, exsOk]; done) | (cases el <;> simp_all [midOk, sruleOk, exsOk]; done) | (cases ks <;> cases el <;> simp_all [midOk, sruleOk, exsOk]; done) | (simp_all [midOk, sruleOk]; omega) | grind [midOk, sruleOk] | (rw [mid_miss hop]))), rfl, rfl⟩
      · refine zs rfl rfl (bV h3) ?_; refine zs rfl rfl (bV h3) ?_; refine zs rfl rfl (bV h3) ?_; refine zU rfl rfl rfl ?_; refine zU rfl rfl rfl ?_; refine zs rfl rfl (bV h3) ?_; refine w_r (v := .bool _) (fun _ => zF (bV h3) rfl) rfl rfl ?_; refine mB rfl ?_; refine zs rfl rfl rfl ?_; refine zs rfl rfl rfl ?_; refine zs rfl rfl rfl ?_; refine w_r (v := .bool _) (fun _ => zF rfl rfl) rfl rfl ?_; refine mB rfl ?_; refine zs rfl rfl rfl ?_; refine zs rfl rfl rfl ?_; refine zs rfl rfl rfl ?_; refine zs rfl rfl rfl ?_; refine zs rfl rfl rfl ?_; refine zs rfl rfl rfl ?_; refine zs rfl rfl rfl ?_; refine zs rfl rfl rfl ?_; refine w_r (v := .bool _) (fun _ => zF rfl rfl) rfl rfl ?_; refine aB rfl ?_; refine zn ?_; refine b_on (?_)
        exact k_mid ⟨rfl, (congrArg Value.bool (by (try clear hm hks hbo hel ih hx hx2 gt1b ut1b); (try simp only [ncs] at *); rcases op_cases6 op with rfl | rfl | rfl | rfl | rfl | rfl | hop <;> first | omega | (simp_all [midOk, sruleOk]; done) | (simp_all [midOk, sruleOk, exsOk]; done) | (cases el <;> simp_all [midOk, sruleOk, exsOk]; done) | (cases ks <;> cases el <;> simp_all [midOk, sruleOk, exsOk]; done) | (simp_all [midOk, sruleOk]; omega) | grind [midOk, sruleOk] | (rw [mid_miss hop]))), rfl, rfl⟩
    · refine yA ?_; refine w_r (fun _ => R_eq rfl rfl) rfl rfl ?_; refine aB rfl ?_; refine yB ?_; refine zD rfl (fun h8 => ?_) (fun h8 => ?_)
      · refine zr ?_; refine zf fa70_2 rfl ?_; refine zl z9 rfl (fun _ h => zc 0 rfl rfl h) ?_; refine w_r (fun _ => R_seq rfl rfl) rfl rfl ?_; refine mB rfl ?_; refine zd (t := 43) rfl (fun h9 => ?_) (fun h9 => ?_)
        · refine zw rfl rfl (bT h9) ?_; refine mI rfl ?_; refine zw rfl rfl (bT h9) ?_; refine w_r (fun _ => R_eq rfl rfl) rfl rfl ?_; refine w_r (v := .bool _) (fun _ => zT (bT h9) rfl) rfl rfl ?_; refine mB rfl ?_; refine zd (t := 47) rfl (fun h10 => ?_) (fun h10 => ?_)
          · refine zw rfl rfl (bT h10) ?_; refine zf fa70_3 rfl ?_; refine zw rfl rfl (bT h10) ?_; refine zl z22 rfl (fun _ h => zc 0 rfl rfl h) ?_; refine zw rfl rfl (bT h10) ?_; refine zC (fun w => zR Tryz.func69 rfl rfl rfl) rfl rfl (fun w h => rexprs_ok ks ka kc N w (by omega) (by omega) (hks.now (fun _ _ hh => hh) (.head _) h)) ?_; refine w_r (v := .bool _) (fun _ => zT (bT h10) rfl) rfl rfl ?_; refine mB rfl ?_; refine zp (t := 52) rfl (fun h11 => ?_) (fun h11 => ?_)
            · refine zw rfl rfl (bV h11) ?_; refine zf fa70_4 rfl ?_; refine zw rfl rfl (bV h11) ?_; refine zl z35 rfl (fun _ h => zc 0 rfl rfl h) ?_; refine zw rfl rfl (bV h11) ?_; refine w_r (fun _ => R_len sl35 rfl) rfl rfl ?_; refine zw rfl rfl (bV h11) ?_; refine zf fa70_5 rfl ?_; refine zw rfl rfl (bV h11) ?_; refine zl z35 rfl (fun _ h => zc 0 rfl rfl h) ?_; refine zw rfl rfl (bV h11) ?_; refine w_r (fun _ => R_len sl35 rfl) rfl rfl ?_; refine zw rfl rfl (bV h11) ?_; refine w_r (fun _ => R_addi rfl rfl (by omega)) rfl rfl ?_; refine zw rfl rfl (bV h11) ?_; refine w_r (fun _ => R_eq rfl rfl) rfl rfl ?_; refine w_r (v := .bool _) (fun _ => zT (bV h11) rfl) rfl rfl ?_; refine aB rfl ?_; refine zn ?_; refine b_on (?_)
              exact k_mid ⟨rfl, (congrArg Value.bool (by (try clear hm hks hbo hel ih hx hx2 gt1b ut1b); (try simp only [ncs] at *); rcases op_cases6 op with rfl | rfl | rfl | rfl | rfl | rfl | hop <;> first | omega | (simp_all [midOk, sruleOk]; done) | (simp_all [midOk, sruleOk, exsOk]; done) | (cases el <;> simp_all [midOk, sruleOk, exsOk]; done) | (cases ks <;> cases el <;> simp_all [midOk, sruleOk, exsOk]; done) | (simp_all [midOk, sruleOk]; omega) | grind [midOk, sruleOk] | (rw [mid_miss hop]))), rfl, rfl⟩
            · refine zs rfl rfl (bV h11) ?_; refine zs rfl rfl (bV h11) ?_; refine zs rfl rfl (bV h11) ?_; refine zs rfl rfl (bV h11) ?_; refine zs rfl rfl (bV h11) ?_; refine zs rfl rfl (bV h11) ?_; refine zs rfl rfl (bV h11) ?_; refine zs rfl rfl (bV h11) ?_; refine w_r (v := .bool _) (fun _ => zF (bV h11) rfl) rfl rfl ?_; refine aB rfl ?_; refine zn ?_; refine b_on (?_)
              exact k_mid ⟨rfl, (congrArg Value.bool (by (try clear hm hks hbo hel ih hx hx2 gt1b ut1b); (try simp only [ncs] at *); rcases op_cases6 op with rfl | rfl | rfl | rfl | rfl | rfl | hop <;> first | omega | (simp_all [midOk, sruleOk]; done) | (simp_all [midOk, sruleOk, exsOk]; done) | (cases el <;> simp_all [midOk, sruleOk, exsOk]; done) | (cases ks <;> cases el <;> simp_all [midOk, sruleOk, exsOk]; done) | (simp_all [midOk, sruleOk]; omega) | grind [midOk, sruleOk] | (rw [mid_miss hop]))), rfl, rfl⟩
          · refine zs rfl rfl (bF h10) ?_; refine zs rfl rfl (bF h10) ?_; refine zs rfl rfl (bF h10) ?_; refine w_r (v := .bool _) (fun _ => zF (bF h10) rfl) rfl rfl ?_; refine mB rfl ?_; refine zs rfl rfl rfl ?_; refine zs rfl rfl rfl ?_; refine zs rfl rfl rfl ?_; refine zs rfl rfl rfl ?_; refine zs rfl rfl rfl ?_; refine zs rfl rfl rfl ?_; refine zs rfl rfl rfl ?_; refine zs rfl rfl rfl ?_; refine w_r (v := .bool _) (fun _ => zF rfl rfl) rfl rfl ?_; refine aB rfl ?_; refine zn ?_; refine b_on (?_)
            exact k_mid ⟨rfl, (congrArg Value.bool (by (try clear hm hks hbo hel ih hx hx2 gt1b ut1b); (try simp only [ncs] at *); rcases op_cases6 op with rfl | rfl | rfl | rfl | rfl | rfl | hop <;> first | omega | (simp_all [midOk, sruleOk]; done) | (simp_all [midOk, sruleOk, exsOk]; done) | (cases el <;> simp_all [midOk, sruleOk, exsOk]; done) | (cases ks <;> cases el <;> simp_all [midOk, sruleOk, exsOk]; done) | (simp_all [midOk, sruleOk]; omega) | grind [midOk, sruleOk] | (rw [mid_miss hop]))), rfl, rfl⟩
        · refine zs rfl rfl (bF h9) ?_; refine zs rfl rfl (bF h9) ?_; refine w_r (v := .bool _) (fun _ => zF (bF h9) rfl) rfl rfl ?_; refine mB rfl ?_; refine zs rfl rfl rfl ?_; refine zs rfl rfl rfl ?_; refine zs rfl rfl rfl ?_; refine w_r (v := .bool _) (fun _ => zF rfl rfl) rfl rfl ?_; refine mB rfl ?_; refine zs rfl rfl rfl ?_; refine zs rfl rfl rfl ?_; refine zs rfl rfl rfl ?_; refine zs rfl rfl rfl ?_; refine zs rfl rfl rfl ?_; refine zs rfl rfl rfl ?_; refine zs rfl rfl rfl ?_; refine zs rfl rfl rfl ?_; refine w_r (v := .bool _) (fun _ => zF rfl rfl) rfl rfl ?_; refine aB rfl ?_; refine zn ?_; refine b_on (?_)
          exact k_mid ⟨rfl, (congrArg Value.bool (by (try clear hm hks hbo hel ih hx hx2 gt1b ut1b); (try simp only [ncs] at *); rcases op_cases6 op with rfl | rfl | rfl | rfl | rfl | rfl | hop <;> first | omega | (simp_all [midOk, sruleOk]; done) | (simp_all [midOk, sruleOk, exsOk]; done) | (cases el <;> simp_all [midOk, sruleOk, exsOk]; done) | (cases ks <;> cases el <;> simp_all [midOk, sruleOk, exsOk]; done) | (simp_all [midOk, sruleOk]; omega) | grind [midOk, sruleOk] | (rw [mid_miss hop]))), rfl, rfl⟩
      · refine yA ?_; refine w_r (fun _ => R_eq rfl rfl) rfl rfl ?_; refine aB rfl ?_; refine yB ?_; refine zD rfl (fun h12 => ?_) (fun h12 => ?_)
        · refine zr ?_; refine zf fa70_2 rfl ?_; refine zl z9 rfl (fun _ h => zc 0 rfl rfl h) ?_; refine zC (fun w => zR Tryz.func68 rfl rfl rfl) rfl rfl (fun w h => rName_spec _ (by omega) w) ?_; refine mB rfl ?_; refine zp (t := 67) rfl (fun h13 => ?_) (fun h13 => ?_)
          · refine zw rfl rfl (bV h13) ?_; refine mI rfl ?_; refine zw rfl rfl (bV h13) ?_; refine w_r (fun _ => R_ge rfl rfl) rfl rfl ?_; refine w_r (v := .bool _) (fun _ => zT (bV h13) rfl) rfl rfl ?_; refine mB rfl ?_; refine zd (t := 71) rfl (fun h14 => ?_) (fun h14 => ?_)
            · refine zw rfl rfl (bT h14) ?_; refine zf fa70_3 rfl ?_; refine zw rfl rfl (bT h14) ?_; refine zl z22 rfl (fun _ h => zc 0 rfl rfl h) ?_; refine zw rfl rfl (bT h14) ?_; refine zC (fun w => zR Tryz.func69 rfl rfl rfl) rfl rfl (fun w h => rexprs_ok ks ka kc N w (by omega) (by omega) (hks.now (fun _ _ hh => hh) (.head _) h)) ?_; refine w_r (v := .bool _) (fun _ => zT (bT h14) rfl) rfl rfl ?_; refine mB rfl ?_; refine zp (t := 76) rfl (fun h15 => ?_) (fun h15 => ?_)
              · refine zw rfl rfl (bV h15) ?_; refine zf fa70_4 rfl ?_; refine zw rfl rfl (bV h15) ?_; refine zl z35 rfl (fun _ h => zc 0 rfl rfl h) ?_; refine zw rfl rfl (bV h15) ?_; refine w_r (fun _ => R_len sl35 rfl) rfl rfl ?_; refine zw rfl rfl (bV h15) ?_; refine zf fa70_5 rfl ?_; refine zw rfl rfl (bV h15) ?_; refine zl z35 rfl (fun _ h => zc 0 rfl rfl h) ?_; refine zw rfl rfl (bV h15) ?_; refine w_r (fun _ => R_len sl35 rfl) rfl rfl ?_; refine zw rfl rfl (bV h15) ?_; refine w_r (fun _ => R_addi rfl rfl (by omega)) rfl rfl ?_; refine zw rfl rfl (bV h15) ?_; refine w_r (fun _ => R_eq rfl rfl) rfl rfl ?_; refine w_r (v := .bool _) (fun _ => zT (bV h15) rfl) rfl rfl ?_; refine aB rfl ?_; refine zn ?_; refine b_on (?_)
                exact k_mid ⟨rfl, (congrArg Value.bool (by (try clear hm hks hbo hel ih hx hx2 gt1b ut1b); (try simp only [ncs] at *); rcases op_cases6 op with rfl | rfl | rfl | rfl | rfl | rfl | hop <;> first | omega | (simp_all [midOk, sruleOk]; done) | (simp_all [midOk, sruleOk, exsOk]; done) | (cases el <;> simp_all [midOk, sruleOk, exsOk]; done) | (cases ks <;> cases el <;> simp_all [midOk, sruleOk, exsOk]; done) | (simp_all [midOk, sruleOk]; omega) | grind [midOk, sruleOk] | (rw [mid_miss hop]))), rfl, rfl⟩
              · refine zs rfl rfl (bV h15) ?_; refine zs rfl rfl (bV h15) ?_; refine zs rfl rfl (bV h15) ?_; refine zs rfl rfl (bV h15) ?_; refine zs rfl rfl (bV h15) ?_; refine zs rfl rfl (bV h15) ?_; refine zs rfl rfl (bV h15) ?_; refine zs rfl rfl (bV h15) ?_; refine w_r (v := .bool _) (fun _ => zF (bV h15) rfl) rfl rfl ?_; refine aB rfl ?_; refine zn ?_; refine b_on (?_)
                exact k_mid ⟨rfl, (congrArg Value.bool (by (try clear hm hks hbo hel ih hx hx2 gt1b ut1b); (try simp only [ncs] at *); rcases op_cases6 op with rfl | rfl | rfl | rfl | rfl | rfl | hop <;> first | omega | (simp_all [midOk, sruleOk]; done) | (simp_all [midOk, sruleOk, exsOk]; done) | (cases el <;> simp_all [midOk, sruleOk, exsOk]; done) | (cases ks <;> cases el <;> simp_all [midOk, sruleOk, exsOk]; done) | (simp_all [midOk, sruleOk]; omega) | grind [midOk, sruleOk] | (rw [mid_miss hop]))), rfl, rfl⟩
            · refine zs rfl rfl (bF h14) ?_; refine zs rfl rfl (bF h14) ?_; refine zs rfl rfl (bF h14) ?_; refine w_r (v := .bool _) (fun _ => zF (bF h14) rfl) rfl rfl ?_; refine mB rfl ?_; refine zs rfl rfl rfl ?_; refine zs rfl rfl rfl ?_; refine zs rfl rfl rfl ?_; refine zs rfl rfl rfl ?_; refine zs rfl rfl rfl ?_; refine zs rfl rfl rfl ?_; refine zs rfl rfl rfl ?_; refine zs rfl rfl rfl ?_; refine w_r (v := .bool _) (fun _ => zF rfl rfl) rfl rfl ?_; refine aB rfl ?_; refine zn ?_; refine b_on (?_)
              exact k_mid ⟨rfl, (congrArg Value.bool (by (try clear hm hks hbo hel ih hx hx2 gt1b ut1b); (try simp only [ncs] at *); rcases op_cases6 op with rfl | rfl | rfl | rfl | rfl | rfl | hop <;> first | omega | (simp_all [midOk, sruleOk]; done) | (simp_all [midOk, sruleOk, exsOk]; done) | (cases el <;> simp_all [midOk, sruleOk, exsOk]; done) | (cases ks <;> cases el <;> simp_all [midOk, sruleOk, exsOk]; done) | (simp_all [midOk, sruleOk]; omega) | grind [midOk, sruleOk] | (rw [mid_miss hop]))), rfl, rfl⟩
          · refine zs rfl rfl (bV h13) ?_; refine zs rfl rfl (bV h13) ?_; refine w_r (v := .bool _) (fun _ => zF (bV h13) rfl) rfl rfl ?_; refine mB rfl ?_; refine zs rfl rfl rfl ?_; refine zs rfl rfl rfl ?_; refine zs rfl rfl rfl ?_; refine w_r (v := .bool _) (fun _ => zF rfl rfl) rfl rfl ?_; refine mB rfl ?_; refine zs rfl rfl rfl ?_; refine zs rfl rfl rfl ?_; refine zs rfl rfl rfl ?_; refine zs rfl rfl rfl ?_; refine zs rfl rfl rfl ?_; refine zs rfl rfl rfl ?_; refine zs rfl rfl rfl ?_; refine zs rfl rfl rfl ?_; refine w_r (v := .bool _) (fun _ => zF rfl rfl) rfl rfl ?_; refine aB rfl ?_; refine zn ?_; refine b_on (?_)
            exact k_mid ⟨rfl, (congrArg Value.bool (by (try clear hm hks hbo hel ih hx hx2 gt1b ut1b); (try simp only [ncs] at *); rcases op_cases6 op with rfl | rfl | rfl | rfl | rfl | rfl | hop <;> first | omega | (simp_all [midOk, sruleOk]; done) | (simp_all [midOk, sruleOk, exsOk]; done) | (cases el <;> simp_all [midOk, sruleOk, exsOk]; done) | (cases ks <;> cases el <;> simp_all [midOk, sruleOk, exsOk]; done) | (simp_all [midOk, sruleOk]; omega) | grind [midOk, sruleOk] | (rw [mid_miss hop]))), rfl, rfl⟩
        · refine yA ?_; refine w_r (fun _ => R_eq rfl rfl) rfl rfl ?_; refine aB rfl ?_; refine yB ?_; refine zD rfl (fun h16 => ?_) (fun h16 => ?_)
          · refine zr ?_; refine zf fa70_2 rfl ?_; refine zl z9 rfl (fun _ h => zc 0 rfl rfl h) ?_; refine zC (fun w => zR Tryz.func68 rfl rfl rfl) rfl rfl (fun w h => rName_spec _ (by omega) w) ?_; refine mB rfl ?_; refine zp (t := 91) rfl (fun h17 => ?_) (fun h17 => ?_)
            · refine zw rfl rfl (bV h17) ?_; refine mI rfl ?_; refine zw rfl rfl (bV h17) ?_; refine w_r (fun _ => R_eq rfl rfl) rfl rfl ?_; refine w_r (v := .bool _) (fun _ => zT (bV h17) rfl) rfl rfl ?_; refine mB rfl ?_; refine zd (t := 95) rfl (fun h18 => ?_) (fun h18 => ?_)
              · refine zw rfl rfl (bT h18) ?_; refine zf fa70_3 rfl ?_; refine zw rfl rfl (bT h18) ?_; refine zl z22 rfl (fun _ h => zc 0 rfl rfl h) ?_; refine zw rfl rfl (bT h18) ?_; refine zC (fun w => zR Tryz.func69 rfl rfl rfl) rfl rfl (fun w h => rexprs_ok ks ka kc N w (by omega) (by omega) (hks.now (fun _ _ hh => hh) (.head _) h)) ?_; refine w_r (v := .bool _) (fun _ => zT (bT h18) rfl) rfl rfl ?_; refine mB rfl ?_; refine zp (t := 100) rfl (fun h19 => ?_) (fun h19 => ?_)
                · refine zw rfl rfl (bV h19) ?_; refine zf fa70_5 rfl ?_; refine zw rfl rfl (bV h19) ?_; refine zl z35 rfl (fun _ h => zc 0 rfl rfl h) ?_; refine zw rfl rfl (bV h19) ?_; refine w_r (fun _ => R_len sl35 rfl) rfl rfl ?_; refine zw rfl rfl (bV h19) ?_; refine w_r (fun _ => R_eq rfl rfl) rfl rfl ?_; refine w_r (v := .bool _) (fun _ => zT (bV h19) rfl) rfl rfl ?_; refine aB rfl ?_; refine zn ?_; refine b_on (?_)
                  exact k_mid ⟨rfl, (congrArg Value.bool (by (try clear hm hks hbo hel ih hx hx2 gt1b ut1b); (try simp only [ncs] at *); rcases op_cases6 op with rfl | rfl | rfl | rfl | rfl | rfl | hop <;> first | omega | (simp_all [midOk, sruleOk]; done) | (simp_all [midOk, sruleOk, exsOk]; done) | (cases el <;> simp_all [midOk, sruleOk, exsOk]; done) | (cases ks <;> cases el <;> simp_all [midOk, sruleOk, exsOk]; done) | (simp_all [midOk, sruleOk]; omega) | grind [midOk, sruleOk] | (rw [mid_miss hop]))), rfl, rfl⟩
                · refine zs rfl rfl (bV h19) ?_; refine zs rfl rfl (bV h19) ?_; refine zs rfl rfl (bV h19) ?_; refine zs rfl rfl (bV h19) ?_; refine w_r (v := .bool _) (fun _ => zF (bV h19) rfl) rfl rfl ?_; refine aB rfl ?_; refine zn ?_; refine b_on (?_)
                  exact k_mid ⟨rfl, (congrArg Value.bool (by (try clear hm hks hbo hel ih hx hx2 gt1b ut1b); (try simp only [ncs] at *); rcases op_cases6 op with rfl | rfl | rfl | rfl | rfl | rfl | hop <;> first | omega | (simp_all [midOk, sruleOk]; done) | (simp_all [midOk, sruleOk, exsOk]; done) | (cases el <;> simp_all [midOk, sruleOk, exsOk]; done) | (cases ks <;> cases el <;> simp_all [midOk, sruleOk, exsOk]; done) | (simp_all [midOk, sruleOk]; omega) | grind [midOk, sruleOk] | (rw [mid_miss hop]))), rfl, rfl⟩
              · refine zs rfl rfl (bF h18) ?_; refine zs rfl rfl (bF h18) ?_; refine zs rfl rfl (bF h18) ?_; refine w_r (v := .bool _) (fun _ => zF (bF h18) rfl) rfl rfl ?_; refine mB rfl ?_; refine zs rfl rfl rfl ?_; refine zs rfl rfl rfl ?_; refine zs rfl rfl rfl ?_; refine zs rfl rfl rfl ?_; refine w_r (v := .bool _) (fun _ => zF rfl rfl) rfl rfl ?_; refine aB rfl ?_; refine zn ?_; refine b_on (?_)
                exact k_mid ⟨rfl, (congrArg Value.bool (by (try clear hm hks hbo hel ih hx hx2 gt1b ut1b); (try simp only [ncs] at *); rcases op_cases6 op with rfl | rfl | rfl | rfl | rfl | rfl | hop <;> first | omega | (simp_all [midOk, sruleOk]; done) | (simp_all [midOk, sruleOk, exsOk]; done) | (cases el <;> simp_all [midOk, sruleOk, exsOk]; done) | (cases ks <;> cases el <;> simp_all [midOk, sruleOk, exsOk]; done) | (simp_all [midOk, sruleOk]; omega) | grind [midOk, sruleOk] | (rw [mid_miss hop]))), rfl, rfl⟩
            · refine zs rfl rfl (bV h17) ?_; refine zs rfl rfl (bV h17) ?_; refine w_r (v := .bool _) (fun _ => zF (bV h17) rfl) rfl rfl ?_; refine mB rfl ?_; refine zs rfl rfl rfl ?_; refine zs rfl rfl rfl ?_; refine zs rfl rfl rfl ?_; refine w_r (v := .bool _) (fun _ => zF rfl rfl) rfl rfl ?_; refine mB rfl ?_; refine zs rfl rfl rfl ?_; refine zs rfl rfl rfl ?_; refine zs rfl rfl rfl ?_; refine zs rfl rfl rfl ?_; refine w_r (v := .bool _) (fun _ => zF rfl rfl) rfl rfl ?_; refine aB rfl ?_; refine zn ?_; refine b_on (?_)
              exact k_mid ⟨rfl, (congrArg Value.bool (by (try clear hm hks hbo hel ih hx hx2 gt1b ut1b); (try simp only [ncs] at *); rcases op_cases6 op with rfl | rfl | rfl | rfl | rfl | rfl | hop <;> first | omega | (simp_all [midOk, sruleOk]; done) | (simp_all [midOk, sruleOk, exsOk]; done) | (cases el <;> simp_all [midOk, sruleOk, exsOk]; done) | (cases ks <;> cases el <;> simp_all [midOk, sruleOk, exsOk]; done) | (simp_all [midOk, sruleOk]; omega) | grind [midOk, sruleOk] | (rw [mid_miss hop]))), rfl, rfl⟩
          · refine yA ?_; refine w_r (fun _ => R_eq rfl rfl) rfl rfl ?_; refine aB rfl ?_; refine yB ?_; refine zD rfl (fun h20 => ?_) (fun h20 => ?_)
            · refine zr ?_; refine zf fa70_2 rfl ?_; refine zl z9 rfl (fun _ h => zc 0 rfl rfl h) ?_; refine w_r (fun _ => R_seq rfl rfl) rfl rfl ?_; refine mB rfl ?_; refine zd (t := 111) rfl (fun h21 => ?_) (fun h21 => ?_)
              · refine zw rfl rfl (bT h21) ?_; refine mI rfl ?_; refine zw rfl rfl (bT h21) ?_; refine w_r (fun _ => R_eq rfl rfl) rfl rfl ?_; refine w_r (v := .bool _) (fun _ => zT (bT h21) rfl) rfl rfl ?_; refine mB rfl ?_; refine zd (t := 115) rfl (fun h22 => ?_) (fun h22 => ?_)
                · refine zw rfl rfl (bT h22) ?_; refine zf fa70_3 rfl ?_; refine zw rfl rfl (bT h22) ?_; refine zl z22 rfl (fun _ h => zc 0 rfl rfl h) ?_; refine zw rfl rfl (bT h22) ?_
                  obtain ⟨x0, hx0⟩ : ∃ x, ks[0]? = some x := ⟨_, List.getElem?_eq_getElem (by omega)⟩; obtain ⟨cs0, hA, hE⟩ := hks.get0 hx0; have hw0 := exsW_mem (List.mem_of_getElem? hx0); obtain ⟨b1, o1, rfl⟩ := hA.ptr; have hcl := exM_len hE; have hh : headOk ks = cmpOk x0 := (by cases ks with | nil => simp at hx0 | cons y l => simp at hx0; subst hx0; rfl)
                  refine w_r (fun _ => R_iaN (i := 0) sl22 rfl rfl (by first | omega | decide)) rfl rfl ?_; refine zw rfl rfl (bT h22) ?_; refine w_loadC (l := cs0) z24 rfl hcl (fun w h j v hj => hA.cell (fun _ _ hh => hh) (.head _) h j v hj) ?_; refine zw rfl rfl (bT h22) ?_; refine zC (fun w => zR Tryz.func117 rfl rfl rfl) rfl rfl (fun w h => rcompare_spec _ cs0 N w (by omega) (hE.now (fun _ _ hh => hh) (.head _) h)) ?_; refine w_r (v := .bool _) (fun _ => zT (bT h22) rfl) rfl rfl ?_; refine aB rfl ?_; refine zn ?_; refine b_on (?_)
                  exact k_mid ⟨rfl, (congrArg Value.bool (by (try clear hm hA hE hks hbo hel ih hx hx2 gt1b ut1b); (try simp only [ncs] at *); rcases op_cases6 op with rfl | rfl | rfl | rfl | rfl | rfl | hop <;> first | omega | (simp_all [midOk, sruleOk]; done) | (simp_all [midOk, sruleOk, exsOk]; done) | (cases el <;> simp_all [midOk, sruleOk, exsOk]; done) | (cases ks <;> cases el <;> simp_all [midOk, sruleOk, exsOk]; done) | (simp_all [midOk, sruleOk]; omega) | grind [midOk, sruleOk] | (rw [mid_miss hop]))), rfl, rfl⟩
                · refine zs rfl rfl (bF h22) ?_; refine zs rfl rfl (bF h22) ?_; refine zs rfl rfl (bF h22) ?_; refine zs rfl rfl (bF h22) ?_; refine zs rfl rfl (bF h22) ?_; refine w_r (v := .bool _) (fun _ => zF (bF h22) rfl) rfl rfl ?_; refine aB rfl ?_; refine zn ?_; refine b_on (?_)
                  exact k_mid ⟨rfl, (congrArg Value.bool (by (try clear hm hks hbo hel ih hx hx2 gt1b ut1b); (try simp only [ncs] at *); rcases op_cases6 op with rfl | rfl | rfl | rfl | rfl | rfl | hop <;> first | omega | (simp_all [midOk, sruleOk]; done) | (simp_all [midOk, sruleOk, exsOk]; done) | (cases el <;> simp_all [midOk, sruleOk, exsOk]; done) | (cases ks <;> cases el <;> simp_all [midOk, sruleOk, exsOk]; done) | (simp_all [midOk, sruleOk]; omega) | grind [midOk, sruleOk] | (rw [mid_miss hop]))), rfl, rfl⟩
              · refine zs rfl rfl (bF h21) ?_; refine zs rfl rfl (bF h21) ?_; refine w_r (v := .bool _) (fun _ => zF (bF h21) rfl) rfl rfl ?_; refine mB rfl ?_; refine zs rfl rfl rfl ?_; refine zs rfl rfl rfl ?_; refine zs rfl rfl rfl ?_; refine zs rfl rfl rfl ?_; refine zs rfl rfl rfl ?_; refine w_r (v := .bool _) (fun _ => zF rfl rfl) rfl rfl ?_; refine aB rfl ?_; refine zn ?_; refine b_on (?_)
                exact k_mid ⟨rfl, (congrArg Value.bool (by (try clear hm hks hbo hel ih hx hx2 gt1b ut1b); (try simp only [ncs] at *); rcases op_cases6 op with rfl | rfl | rfl | rfl | rfl | rfl | hop <;> first | omega | (simp_all [midOk, sruleOk]; done) | (simp_all [midOk, sruleOk, exsOk]; done) | (cases el <;> simp_all [midOk, sruleOk, exsOk]; done) | (cases ks <;> cases el <;> simp_all [midOk, sruleOk, exsOk]; done) | (simp_all [midOk, sruleOk]; omega) | grind [midOk, sruleOk] | (rw [mid_miss hop]))), rfl, rfl⟩
            · refine yA ?_; refine w_r (fun _ => R_eq rfl rfl) rfl rfl ?_; refine aB rfl ?_; refine yB ?_; refine zD rfl (fun h23 => ?_) (fun h23 => ?_)
              · refine zr ?_; refine zf fa70_2 rfl ?_; refine zl z9 rfl (fun _ h => zc 0 rfl rfl h) ?_; refine w_r (fun _ => R_seq rfl rfl) rfl rfl ?_; refine mB rfl ?_; refine zd (t := 127) rfl (fun h24 => ?_) (fun h24 => ?_)
                · refine zw rfl rfl (bT h24) ?_; refine mI rfl ?_; refine zw rfl rfl (bT h24) ?_; refine w_r (fun _ => R_eq rfl rfl) rfl rfl ?_; refine w_r (v := .bool _) (fun _ => zT (bT h24) rfl) rfl rfl ?_; refine mB rfl ?_; refine zd (t := 131) rfl (fun h25 => ?_) (fun h25 => ?_)
                  · refine zw rfl rfl (bT h25) ?_; refine zf fa70_5 rfl ?_; refine zw rfl rfl (bT h25) ?_; refine zl z35 rfl (fun _ h => zc 0 rfl rfl h) ?_; refine zw rfl rfl (bT h25) ?_; refine w_r (fun _ => R_len sl35 rfl) rfl rfl ?_; refine zw rfl rfl (bT h25) ?_; refine w_r (fun _ => R_eq rfl rfl) rfl rfl ?_; refine w_r (v := .bool _) (fun _ => zT (bT h25) rfl) rfl rfl ?_; refine aB rfl ?_; refine zn ?_; refine b_on (?_)
                    exact k_mid ⟨rfl, (congrArg Value.bool (by (try clear hm hks hbo hel ih hx hx2 gt1b ut1b); (try simp only [ncs] at *); rcases op_cases6 op with rfl | rfl | rfl | rfl | rfl | rfl | hop <;> first | omega | (simp_all [midOk, sruleOk]; done) | (simp_all [midOk, sruleOk, exsOk]; done) | (cases el <;> simp_all [midOk, sruleOk, exsOk]; done) | (cases ks <;> cases el <;> simp_all [midOk, sruleOk, exsOk]; done) | (simp_all [midOk, sruleOk]; omega) | grind [midOk, sruleOk] | (rw [mid_miss hop]))), rfl, rfl⟩
                  · refine zs rfl rfl (bF h25) ?_; refine zs rfl rfl (bF h25) ?_; refine zs rfl rfl (bF h25) ?_; refine zs rfl rfl (bF h25) ?_; refine w_r (v := .bool _) (fun _ => zF (bF h25) rfl) rfl rfl ?_; refine aB rfl ?_; refine zn ?_; refine b_on (?_)
                    exact k_mid ⟨rfl, (congrArg Value.bool (by (try clear hm hks hbo hel ih hx hx2 gt1b ut1b); (try simp only [ncs] at *); rcases op_cases6 op with rfl | rfl | rfl | rfl | rfl | rfl | hop <;> first | omega | (simp_all [midOk, sruleOk]; done) | (simp_all [midOk, sruleOk, exsOk]; done) | (cases el <;> simp_all [midOk, sruleOk, exsOk]; done) | (cases ks <;> cases el <;> simp_all [midOk, sruleOk, exsOk]; done) | (simp_all [midOk, sruleOk]; omega) | grind [midOk, sruleOk] | (rw [mid_miss hop]))), rfl, rfl⟩
                · refine zs rfl rfl (bF h24) ?_; refine zs rfl rfl (bF h24) ?_; refine w_r (v := .bool _) (fun _ => zF (bF h24) rfl) rfl rfl ?_; refine mB rfl ?_; refine zs rfl rfl rfl ?_; refine zs rfl rfl rfl ?_; refine zs rfl rfl rfl ?_; refine zs rfl rfl rfl ?_; refine w_r (v := .bool _) (fun _ => zF rfl rfl) rfl rfl ?_; refine aB rfl ?_; refine zn ?_; refine b_on (?_)
                  exact k_mid ⟨rfl, (congrArg Value.bool (by (try clear hm hks hbo hel ih hx hx2 gt1b ut1b); (try simp only [ncs] at *); rcases op_cases6 op with rfl | rfl | rfl | rfl | rfl | rfl | hop <;> first | omega | (simp_all [midOk, sruleOk]; done) | (simp_all [midOk, sruleOk, exsOk]; done) | (cases el <;> simp_all [midOk, sruleOk, exsOk]; done) | (cases ks <;> cases el <;> simp_all [midOk, sruleOk, exsOk]; done) | (simp_all [midOk, sruleOk]; omega) | grind [midOk, sruleOk] | (rw [mid_miss hop]))), rfl, rfl⟩
              · refine zi ?_; refine b_on (?_)
                exact k_mid ⟨rfl, (congrArg Value.bool (by (try clear hm hks hbo hel ih hx hx2 gt1b ut1b); (try simp only [ncs] at *); rcases op_cases6 op with rfl | rfl | rfl | rfl | rfl | rfl | hop <;> first | omega | (simp_all [midOk, sruleOk]; done) | (simp_all [midOk, sruleOk, exsOk]; done) | (cases el <;> simp_all [midOk, sruleOk, exsOk]; done) | (cases ks <;> cases el <;> simp_all [midOk, sruleOk, exsOk]; done) | (simp_all [midOk, sruleOk]; omega) | grind [midOk, sruleOk] | (rw [mid_miss hop]))), rfl, rfl⟩
  rintro e B L ⟨e1_1, e4_1, rfl, rfl⟩
  refine yA ?_; refine mB e4_1 ?_; refine mB rfl ?_; refine zp (t := 138) rfl (fun h26 => ?_) (fun h26 => ?_)
  · refine zw rfl rfl (bV h26) ?_; refine zf fa70_4 e1_1 ?_; refine zw rfl rfl (bV h26) ?_; refine zl z35 rfl (fun _ h => zc 0 rfl rfl h) ?_; refine zw rfl rfl (bV h26) ?_; refine zC (fun w => zR Tryz.func78 rfl rfl rfl) rfl rfl (fun w h => rstmts_spec n ih bo ba bc N w (fun x hx => by have := smsW_mem hx; omega) (by omega) (hbo.now (fun _ _ hh => hh) (.head _) h)) ?_; refine w_r (v := .bool _) (fun _ => zT (bV h26) rfl) rfl rfl ?_; refine mB rfl ?_; refine zp (t := 143) rfl (fun h27 => ?_) (fun h27 => ?_)
    · refine zw rfl rfl (bV h27) ?_; refine zf fa70_5 e1_1 ?_; refine zw rfl rfl (bV h27) ?_; refine zl z35 rfl (fun _ h => zc 0 rfl rfl h) ?_; refine zw rfl rfl (bV h27) ?_; refine zC (fun w => zR Tryz.func78 rfl rfl rfl) rfl rfl (fun w h => rstmts_spec n ih el ea ec N w (fun x hx => by have := smsW_mem hx; omega) (by omega) (hel.now (fun _ _ hh => hh) (.head _) h)) ?_; refine w_r (v := .bool _) (fun _ => zT (bV h27) rfl) rfl rfl ?_; refine aB rfl ?_; refine yB ?_; refine ze ?_; refine zo (v := .bool _) rfl rfl rfl ?_; exact fun w' hw => ⟨by (try clear hm hks hbo hel hw ih hx hx2 e1_1 e4_1 gt1b ut1b); rw [smOk_mid]; simp_all, hw.fr _ (.head _)⟩
    · refine zs rfl rfl (bV h27) ?_; refine zs rfl rfl (bV h27) ?_; refine zs rfl rfl (bV h27) ?_; refine w_r (v := .bool _) (fun _ => zF (bV h27) rfl) rfl rfl ?_; refine aB rfl ?_; refine yB ?_; refine ze ?_; refine zo (v := .bool _) rfl rfl rfl ?_; exact fun w' hw => ⟨by (try clear hm hks hbo hel hw ih hx hx2 e1_1 e4_1 gt1b ut1b); rw [smOk_mid]; simp_all, hw.fr _ (.head _)⟩
  · refine zs rfl rfl (bV h26) ?_; refine zs rfl rfl (bV h26) ?_; refine zs rfl rfl (bV h26) ?_; refine w_r (v := .bool _) (fun _ => zF (bV h26) rfl) rfl rfl ?_; refine mB rfl ?_; refine zs rfl rfl rfl ?_; refine zs rfl rfl rfl ?_; refine zs rfl rfl rfl ?_; refine w_r (v := .bool _) (fun _ => zF rfl rfl) rfl rfl ?_; refine aB rfl ?_; refine yB ?_; refine ze ?_; refine zo (v := .bool _) rfl rfl rfl ?_; exact fun w' hw => ⟨by (try clear hm hks hbo hel hw ih hx hx2 e1_1 e4_1 gt1b ut1b); rw [smOk_mid]; simp_all, hw.fr _ (.head _)⟩


theorem rstmt_all : ∀ n : Nat, n ≤ 10000000 → RStmtH n
  | 0, _ => fun _ _ _ _ h => absurd h (Nat.not_lt_zero _)
  | n + 1, h => rstmt_step n (rstmt_all n (by omega)) (by omega)
theorem rstmts_ok (l : List Sm) (a : Option Addr) (c : Nat) (N : Nat → Prop) (w : World) (hl : smsW l < 10000000) (hll : l.length ≤ 10000000) (hm : smsM w N l a 0) : Ret Tryz.prog 78 #[.slice a l.length c] w fun v w' => v = .bool (smsOk l) ∧ Ext w w' :=
  rstmts_spec _ (rstmt_all _ (Nat.le_refl _)) l a c N w (fun _ hx => Nat.lt_of_le_of_lt (smsW_mem hx) hl) hll hm
end Go.Proofs.YtcmcdgkjipnfnaaGreatDoor
end

section
/- Texts of one's own, put together: append. -/
namespace Go.Sx
open Go.RowKit Go.Tree
section
variable {P : Program} {ops : Array Oper} {Q : Exit → Act → World → Prop} {c : Cf} {e : Env} {B : Base} {L L1 A : Heap} {rest : List Oper} {d : Nat}
theorem app_run {ρ : Operand → Value} {D : Option Tmp} {g : Option (Nat × Bool)} {x y : Operand} {T : TypeId} {p : String} {ed : Array Edge} {t el k bytes : Nat} {z v : Value} {xs news : List Value} {n m b2 o2 c2 : Nat} (hT : slT P t el k bytes z) (hk : 0 < k) (hx : ρ x = v) (hown : OwnR el k v xs n A L L1) (hy : ρ y = .slice (some ⟨b2, o2, none⟩) m c2)
    (hl : news.length = m * k) (hnews : ∀ w, St B L1 w → ∀ j u, news[j]? = some u → w.cell? ⟨b2, o2 + j, none⟩ = some u) (h1 : news.all Value.oneCell' = true) (hm : 0 < m) (h63 : n + m ≤ 9223372036854775807) (hbytes : (n + m) * bytes ≤ 140737488355328) {w : World} (hw : St B L1 w) :
    ∃ v' w' L2, Run P ⟨D, .call ⟨.builtin .append, #[x, y], #[t, t]⟩, T, p, ed, g⟩ ρ w v' w' ∧ OwnR el k v' (xs ++ news) (n + m) A L L2 ∧ St B L2 w' := by
  obtain ⟨i, ht, hi, hsz, hby, hz, hzs⟩ := slT_spec hT
  subst hsz; subst hby
  obtain ⟨hxl, hown⟩ := hown
  have hn2 : ∀ w, St B L1 w → ∀ j u, news[j]? = some u → w.cell? ((⟨b2, o2, none⟩ : Addr).add j) = some u := fun w hw j u hu => by
    have := hnews w hw j u hu
    simp only [Addr.add]; split <;> simp_all
  have hlen : (xs ++ news).length = (n + m) * i.size := by rw [List.length_append, hxl, hl, Nat.add_mul]
  rcases hown with ⟨rfl, rfl, rfl⟩ | ⟨b, cp, sp, rfl, hc, hs', rfl⟩
  · rw [Nat.zero_add] at *
    have hr := run_append_nil (P := P) w t T el i z ht hi hz ⟨b2, o2, none⟩ m c2 news hl (hn2 w hw) hm (by omega) (by omega)
    have hx0 : xs = [] := by simpa using hxl
    subst hx0
    have hge := grownCap_ge w m 0 el
    have hs := (hw.drawn (w.drawn + 1)).new (o := cel ([] ++ news ++ (Builtin.zeroCells z.cells (grownCap w m 0 el - m)).toList) el)
    refine ⟨_, _, (A ++ (w.heap.size, cel ([] ++ news ++ (Builtin.zeroCells z.cells (grownCap w m 0 el - m)).toList) el) :: L), R_append hx hy hr, ⟨hlen, .inr ⟨w.heap.size, grownCap w m 0 el, _, rfl, hge, ?_, rfl⟩⟩, ?_⟩
    · rw [Array.length_toList, size_zeroCells, hzs]
    · have := hs.perm (List.perm_middle.symm)
      have e1 : (news.toArray ++ Builtin.zeroCells z.cells (grownCap w m 0 el - m) : Array Value) = ([] ++ news ++ (Builtin.zeroCells z.cells (grownCap w m 0 el - m)).toList).toArray := by simp
      rw [e1]
      exact this
  · have hb := hw.own (b, cel (xs ++ sp) el) (by simp)
    by_cases hroom : n + m ≤ cp
    · have hmk : (cp - n) * i.size = m * i.size + (cp - (n + m)) * i.size := by rw [← Nat.add_mul]; congr 1; omega
      have hr := run_append_room (P := P) w t T el i ht hi b n cp (xs ++ sp).toArray hb ⟨b2, o2, none⟩ m c2 news hl (hn2 w hw) (all_mem h1) hroom (by simp; omega)
      have hs := hw.put A.length (l' := xs ++ news ++ sp.drop news.length) (b := b) (l := xs ++ sp) (T := el) (by simp)
      rw [set_mid] at hs
      have e1 : ((xs ++ sp).toArray.toList.take (n * i.size) ++ news ++ (xs ++ sp).toArray.toList.drop (n * i.size + news.length)) = xs ++ news ++ sp.drop news.length := by
        simp only []
        rw [← hxl, List.take_left', List.drop_append]
        · simp [List.drop_eq_nil_of_le]
        · rfl
      rw [e1] at hr
      refine ⟨_, _, _, R_append hx hy hr, ⟨hlen, .inr ⟨b, cp, sp.drop news.length, rfl, hroom, ?_, rfl⟩⟩, hs⟩
      rw [List.length_drop, hs', hl] <;> omega
    · have hge := grownCap_ge w (n + m) cp el
      have hr := run_append_grow (P := P) w t T el i z ht hi hz ⟨b, 0, none⟩ n cp xs hxl (fun j u hu => by
          have hj := (List.getElem?_eq_some_iff.1 hu).1
          have : w.cell? ⟨b, 0 + j, none⟩ = some u := by
            simp only [World.cell?, hb]
            simp [List.getElem?_append_left hj, hu]
          simp only [Addr.add]; split <;> simp_all) ⟨b2, o2, none⟩ m c2 news hl (hn2 w hw) (by omega) (by omega) (growslice_fits (by omega) hbytes)
      have hs := (hw.drawn (w.drawn + 1)).new (o := cel (xs ++ news ++ (Builtin.zeroCells z.cells (grownCap w (n + m) cp el - (n + m))).toList) el)
      refine ⟨_, _, (A ++ (w.heap.size, cel (xs ++ news ++ (Builtin.zeroCells z.cells (grownCap w (n + m) cp el - (n + m))).toList) el) :: L), R_append hx hy hr, ⟨hlen, .inr ⟨w.heap.size, grownCap w (n + m) cp el, _, rfl, hge, ?_, rfl⟩⟩, ?_⟩
      · rw [Array.length_toList, size_zeroCells, hzs]
      · have h2 := hs.drop (L' := (w.heap.size, cel (xs ++ news ++ (Builtin.zeroCells z.cells (grownCap w (n + m) cp el - (n + m))).toList) el) :: (A ++ L)) (by
          refine List.Sublist.cons_cons _ ?_
          exact List.Sublist.append (List.Sublist.refl _) (List.sublist_cons_self _ _))
        have := h2.perm (List.perm_middle.symm)
        have e1 : (xs.toArray ++ news.toArray ++ Builtin.zeroCells z.cells (grownCap w (n + m) cp el - (n + m)) : Array Value) = (xs ++ news ++ (Builtin.zeroCells z.cells (grownCap w (n + m) cp el - (n + m))).toList).toArray := by simp
        rw [e1]
        exact this

theorem Own.le {T : TypeId} {k : Nat} {a : Option Addr} {n c : Nat} {xs : List Value} {W : Heap} (h : Own T k (.slice a n c) xs n W) : n ≤ c := by
  rcases h.2 with ⟨h1, h2, _⟩ | ⟨b, c', sp, h1, h2, _⟩
  · omega
  · simp only [Value.slice.injEq] at h1; omega
theorem OwnS.litT {te : TypeId} (b : Nat) (ts : List (List UInt8)) : OwnS te (.slice (some ⟨b, 0, none⟩) ts.length ts.length) ts [(b, cel (ts.map str) te)] := by
  refine ⟨by simp, .inr ⟨b, ts.length, [], rfl, Nat.le_refl _, by simp, by simp⟩⟩
theorem OwnS.nilT {te : TypeId} : OwnS te (.slice none 0 0) [] [] := Own.nil te 1
/-- one's own, behind it what stands in a slice -/
theorem app_txts {ρ : Operand → Value} {D : Option Tmp} {g : Option (Nat × Bool)} {x y : Operand} {T : TypeId} {p : String} {ed : Array Edge} {t te bytes : Nat} {z v u : Value} {xs ys : List (List UInt8)} {W W2 : Heap} (hT : slT P t te 1 bytes z) (hx : ρ x = v) (hv : OwnS te v xs W) (hy : ρ y = u) (hu : OwnS te u ys W2)
    (hb : xs.length + ys.length ≤ 1000000000) (hby : bytes ≤ 16) {w : World} (hw : St B (W2 ++ (W ++ L)) w) :
    ∃ v' w' W', Run P ⟨D, .call ⟨.builtin .append, #[x, y], #[t, t]⟩, T, p, ed, g⟩ ρ w v' w' ∧ OwnS te v' (xs ++ ys) W' ∧ St B (W' ++ L) w' := by
  obtain ⟨a, cp, rfl⟩ := hu.slice
  by_cases h0 : ys = []
  · subst h0
    obtain ⟨i, ht, hi, hsz, _, _, _⟩ := slT_spec hT
    obtain ⟨a1, c1, rfl⟩ := hv.slice
    have hs : Src P i.size t (.slice a 0 cp) 0 [] w := ⟨.inl ⟨te, ht⟩, fun _ => rfl, by cases a <;> simp [Builtin.firstCells, go_sem], by cases a <;> simp [Builtin.firstCells, go_sem], by simp, by simp⟩
    have hr := _root_.Go.run_append_nothing (P := P) w t t T te i ht hi a1 xs.length c1 (Own.le hv) _ hs
    exact ⟨_, _, W, R_append hx hy hr, by simpa using hv, hw.drop (List.sublist_append_right _ _)⟩
  · have hl : 0 < ys.length := List.length_pos_iff.2 h0
    obtain ⟨b2, rfl, hc⟩ := Own.cell (i := 0) hu hl
    obtain ⟨v', w', L2, h1, h2, h3⟩ := app_run (ρ := ρ) (D := D) (g := g) (x := x) (y := y) (T := T) (p := p) (ed := ed) (A := W2) (L := L) (news := ys.map str) hT (by decide) hx (hv.toR W2 L) hy (by simp) (fun w hw j u hj => by rw [Nat.zero_add]; exact hc _ _ w (fun q hq => List.mem_append_left _ hq) hw j u hj) (strs_one ys) hl (by omega)
      (Nat.le_trans (Nat.mul_le_mul hb hby) (by decide)) hw
    obtain ⟨W', h4, rfl⟩ := h2.own
    exact ⟨v', w', W', h1, OwnS.more h4, h3.drop (List.sublist_append_right _ _)⟩
theorem w_appT {x y : Operand} {T : TypeId} {p : String} {ed : Array Edge} {t te bytes : Nat} {z v u : Value} {xs ys : List (List UInt8)} {W W2 : Heap} (hT : slT P t te 1 bytes z) (hx : ev c.n e x = v) (hv : OwnS te v xs W) (hy : ev c.n e y = u) (hu : OwnS te u ys W2)
    (hb : xs.length + ys.length ≤ 1000000000) (hby : bytes ≤ 16)
    (h : ∀ v' W', OwnS te v' (xs ++ ys) W' → WX .sq P ops c Q rest (upd e d v') B (W' ++ L)) : WX .sq P ops c Q (⟨some d, .call ⟨.builtin .append, #[x, y], #[t, t]⟩, T, p, ed, none⟩ :: rest) e B (W2 ++ (W ++ L)) := by
  unfold WX at *
  intro w hw
  obtain ⟨v', w', W', h1, h2, h3⟩ := app_txts (D := some d) (T := T) (p := p) (ed := ed) (g := none) hT hx hv hy hu hb hby hw
  exact s_run h1 rfl rfl (h v' W' h2 w' h3)
theorem o_appT {i fuel : Nat} {S : World → Prop} {listed : Array Bool} {x y : Operand} {T : TypeId} {p : String} {ed : Array Edge} {t te bytes : Nat} {z v u : Value} {xs ys : List (List UInt8)} {W W2 : Heap} (hi : ops[i]? = some ⟨some d, .call ⟨.builtin .append, #[x, y], #[t, t]⟩, T, p, ed, none⟩) (hT : slT P t te 1 bytes z) (hx : ev c.n e x = v) (hv : OwnS te v xs W) (hy : ev c.n e y = u) (hu : OwnS te u ys W2)
    (hb : xs.length + ys.length ≤ 1000000000) (hby : bytes ≤ 16)
    (h : ∀ v' W', OwnS te v' (xs ++ ys) W' → WH P ops c Q S fuel (listed.setIfInBounds i true) (upd e d v') B (W' ++ L)) : WO P ops c Q S fuel listed i e B (W2 ++ (W ++ L)) :=
  o_val hi rfl rfl fun w hw => by
    obtain ⟨v', w', W', h1, h2, h3⟩ := app_txts (D := some d) (T := T) (p := p) (ed := ed) (g := none) hT hx hv hy hu hb hby hw
    exact ⟨v', w', B, W' ++ L, h1, h3, h v' W' h2⟩
/-- a call that lays blocks of its own, in a region that draws -/
theorem o_callW {o : Oper} {i fuel : Nat} {S : World → Prop} {listed : Array Bool} {f : FuncId} {args : Array Value} {R : Value → Heap → Prop} (hi : ops[i]? = some o) (hg : plainB o = true) (hd : o.dst = some d)
    (hr : ∀ w, RunE P o (ev c.n e) w f args) (hc : ∀ w, St B L w → Ret P f args w fun u w' => ∃ W, R u W ∧ New w w' W)
    (h : ∀ u W, R u W → WH P ops c Q S fuel (listed.setIfInBounds i true) (upd e d u) B (W ++ L)) : WO P ops c Q S fuel listed i e B L := by
  unfold WO
  intro w hw
  unfold wpOp
  simp only [hi, Region.wanted, (plainB_spec hg).1, if_true]
  refine .inl ?_
  unfold Oper.wp
  have h1 := hr w
  unfold RunE at h1
  rw [act_eval, h1]
  simp only [Oper.upon]
  refine Calls.mono (hc w hw) ?_
  rintro x w' ⟨v, rfl, W, hR, hn⟩
  have h2 := hw.newW hn
  have h3 := h v W hR
  show S w' ∧ _
  rw [hd, act_put]
  exact ⟨h3.s w' h2, h3.h w' h2⟩
theorem o_bslice {T : TypeId} {pp : String} {ed : Array Edge} {t el k bytes len i fuel : Nat} {z : Value} {parts : List (Nat × Operand)} {S : World → Prop} {listed : Array Bool} (hi : ops[i]? = some ⟨some d, .buildSlice t len parts.toArray, T, pp, ed, none⟩) (hT : slT P t el k bytes z) (hk : 0 < len * k) (hs : Nat.ble (len * k) 16777216 = true) (hf : fillB (plA len k) (parts.map fun p => (p.1, ev c.n e p.2)) (len * k) = true)
    (h : ∀ b, (∀ x ∈ L, x.1 < b) → (∀ x ∈ B, x.1.heap.size ≤ b) → WH P ops c Q S fuel (listed.setIfInBounds i true) (upd e d (.slice (some ⟨b, 0, none⟩) len len)) B ((b, cel (fillL (plA len k) (parts.map fun p => (p.1, ev c.n e p.2)) (zsL z (len * k))) el) :: L)) :
    WO P ops c Q S fuel listed i e B L := by
  obtain ⟨ti, ht, hti, hsize, hby, hz, hzs⟩ := slT_spec hT
  subst hsize
  have hlen : (zsL z (len * ti.size)).length = len * ti.size := by simp [zsL]
  have hf' := hf
  rw [← hlen] at hf'
  have hfe := fill_eq (plA len ti.size) (parts.map fun p => (p.1, ev c.n e p.2)) _ hf'
  rw [← fill_arr len ti.size _ _ hf'] at hfe
  refine o_val hi rfl rfl (fun w hw => ⟨_, _, B, _, ?_, hw.new, h w.heap.size (fun p hp => lt_of_blk (hw.own p hp)) (fun x hx => (hw.fr x hx).size)⟩)
  have e1 : ((Array.range (len * ti.size)).map (fun j => z.cells[j % z.cells.size]!)) = (zsL z (len * ti.size)).toArray := by simp [zsL, Array.toList_range, ← List.toArray_range]
  have h0 : ¬ len * ti.size = 0 := by omega
  have h1 : ¬ 16777216 < len * ti.size := by have := Nat.le_of_ble_eq_true hs; omega
  unfold Run
  simp only [execOp, Instr.buildSlice, Sem.run_bind, run_underlying ht, Result.andThen_ok, sizeOf, typeInfo, run_program, hti, Sem.run_pure, zeroValue, hz, h0, if_false, List.map_toArray]
  rw [if_neg (by simpa using h1)]
  simp only [Sem.run_bind, run_program, Result.andThen_ok, hti, Sem.run_pure, hz, e1, hfe, newRow, run_newObj]
  rfl
end
end Go.Sx
namespace Go.Sx
open Go.RowKit Go.Tree
section
variable {P : Program} {ops : Array Oper} {Q : Exit → Act → World → Prop} {c : Cf} {e : Env} {B B' : Base} {L L' : Heap} {fuel : Nat} {S : World → Prop} {listed : Array Bool}
theorem h_st (hc : ∀ w, St B L w → St B' L' w) (h : WH P ops c Q S fuel listed e B' L') : WH P ops c Q S fuel listed e B L := ⟨fun w hw => h.s w (hc w hw), fun w hw => h.h w (hc w hw)⟩
theorem o_pure {o : Oper} {i d : Nat} {u : Value} {f : FuncId} {args : Array Value} (hi : ops[i]? = some o) (hg : plainB o = true) (hd : o.dst = some d) (hr : ∀ w, RunE P o (ev c.n e) w f args)
    (hc : ∀ w, St B L w → Ret P f args w fun v w' => v = u ∧ Ext w w') (h : WH P ops c Q S fuel (listed.setIfInBounds i true) (upd e d u) B L) : WO P ops c Q S fuel listed i e B L := by
  unfold WO
  intro w hw
  unfold wpOp
  simp only [hi, Region.wanted, (plainB_spec hg).1, if_true]
  refine .inl ?_
  unfold Oper.wp
  have h1 := hr w
  unfold RunE at h1
  rw [act_eval, h1]
  simp only [Oper.upon]
  refine Calls.mono (hc w hw) ?_
  rintro x w' ⟨v, rfl, rfl, hx⟩
  have h2 := hw.ext hx
  show S w' ∧ _
  rw [hd, act_put]
  exact ⟨h.s w' h2, h.h w' h2⟩
end
theorem sub_right {α : Type} {l m W : List α} (h : l.Sublist m) : l.Sublist (W ++ m) := h.trans (List.sublist_append_right _ _)
end Go.Sx
namespace Go.Sx
open Go.RowKit
theorem R_sub8 {P : Program} {ρ : Operand → Value} {w : World} {D : Option Tmp} {ty t yt : TypeId} {pos : String} {aft : Array Edge} {g : Option (Nat × Bool)} {x y : Operand} {n m : Nat} (hm : m ≤ n) (hn : n < 256) (hx : ρ x = .int .u8 (n : Nat)) (hy : ρ y = .int .u8 (m : Nat)) : Run P ⟨D, .binOp .sub t x y yt, ty, pos, aft, g⟩ ρ w (.int .u8 ((n - m : Nat) : Int)) w := by
  have h := R_sub (P := P) (w := w) (D := D) (t := t) (yt := yt) (ty := ty) (pos := pos) (aft := aft) (g := g) hx hy
  have e : IntKind.u8.wrap ((n : Int) - (m : Int)) = ((n - m : Nat) : Int) := by
    have h1 : ((n : Int) - (m : Int)) = ((n - m : Nat) : Int) := by omega
    rw [h1]
    simp [IntKind.wrap, IntKind.min, IntKind.max, IntKind.signed, IntKind.bits]
    omega
  rwa [e] at h
end Go.Sx
namespace Go.Sx
theorem celEqH {B : Base} {L : Heap} {w : World} {b : Nat} {cs cs' : List Value} {T : TypeId} (h : St B ((b, cel cs T) :: L) w) (he : cs = cs') : St B ((b, cel cs' T) :: L) w := he ▸ h
end Go.Sx
end

section
/- Trees: how long what is written is; the same tree is the same; a block more. -/
namespace Go.Tree
/-! how many bytes, with a blank behind each token -/
def tb (ts : List Str) : Nat := (ts.map fun s => s.length + 1).sum
theorem tb_nil : tb [] = 0 := rfl
theorem tb_cons (s : Str) (l : List Str) : tb (s :: l) = s.length + 1 + tb l := by simp [tb]
theorem tb_append (a b : List Str) : tb (a ++ b) = tb a + tb b := by simp [tb]
theorem tb_flatten : ∀ l : List (List Str), tb l.flatten = (l.map tb).sum
  | [] => rfl
  | x :: l => by rw [List.flatten_cons, tb_append, tb_flatten l, List.map_cons, List.sum_cons]
theorem tb_len : ∀ l : List Str, l.length ≤ tb l
  | [] => Nat.zero_le _
  | s :: l => by rw [tb_cons, List.length_cons]; have := tb_len l; omega
theorem endT_le (n k : Nat) (s : Str) : (endT n k s).length ≤ 1 := by unfold endT; split <;> (try split) <;> simp
theorem textTo_tb (xs : List Str) : ∀ k, k ≤ xs.length → (textTo xs k).length ≤ tb (xs.take k)
  | 0, _ => by rw [textTo_zero]; exact Nat.zero_le _
  | k + 1, h => by
    have hk : xs[k]? = some xs[k] := List.getElem?_eq_getElem (by omega)
    have ih := textTo_tb xs k (by omega)
    have he := endT_le xs.length k xs[k]
    rw [textTo_next hk, List.take_succ_eq_append_getElem (by omega), tb_append, tb_cons, tb_nil, List.length_append, List.length_append]
    omega
theorem textT_tb (xs : List Str) : (textT xs).length ≤ tb xs := by
  have := textTo_tb xs xs.length (Nat.le_refl _)
  rwa [List.take_length] at this
theorem rowT_tb : ∀ l : List (List Str), tb (rowT l) ≤ (l.map tb).sum + 2 * l.length
  | [] => Nat.zero_le _
  | t :: l => by
    have h : ∀ m : List (List Str), tb (m.flatMap (fun x => [44] :: x)) = (m.map tb).sum + 2 * m.length := by
      intro m
      induction m with
      | nil => rfl
      | cons x m ih => rw [List.flatMap_cons, tb_append, ih, tb_cons]; simp only [List.map_cons, List.sum_cons, List.length_cons, List.length_nil]; omega
    rw [rowT, tb_append, h]; simp only [List.map_cons, List.sum_cons, List.length_cons]; omega
theorem kidT_tb (op : Nat) (t : List Str) (n : Nat) : tb (kidT op t n) ≤ tb t + 4 := by
  unfold kidT; split
  · simp only [tb_append, tb_cons, tb_nil, List.length_cons, List.length_nil]; omega
  · omega
theorem getD_tb (l : List (List Str)) (i : Nat) : tb (l.getD i []) ≤ (l.map tb).sum := by
  induction l generalizing i with
  | nil => simp [tb_nil]
  | cons x l ih =>
    cases i with
    | zero => simp
    | succ i => have := ih i; simp only [List.getD_cons_succ, List.map_cons, List.sum_cons]; omega
theorem getD2_tb (l : List (List Str)) : tb (l.getD 0 []) + tb (l.getD 1 []) ≤ (l.map tb).sum := by
  cases l with
  | nil => simp [tb_nil]
  | cons x l =>
    have := getD_tb l 0
    simp only [List.getD_cons_zero, List.getD_cons_succ, List.map_cons, List.sum_cons]; omega
theorem signs_len (op : Nat) : (signs op).length ≤ 2 := by unfold signs; split <;> simp
theorem exTok_tb (op : Nat) (nm : Str) (ops : List Nat) (ts : List (List Str)) : tb (exTok op nm ops ts) ≤ nm.length + 11 + (ts.map tb).sum + 2 * ts.length := by
  have h1 := rowT_tb ts
  have h2 := getD2_tb ts
  unfold exTok
  split
  · simp only [tb_cons, tb_nil]; omega
  split
  · simp only [tb_append, tb_cons, tb_nil, List.length_cons, List.length_nil]; omega
  split
  · simp only [tb_append, tb_cons, tb_nil, List.length_cons, List.length_nil]; omega
  split
  · have := kidT_tb (ops.getD 0 0) (ts.getD 0 []) 3
    simp only [tb_append, tb_cons, tb_nil, List.length_cons, List.length_nil]; omega
  · have h3 := kidT_tb (ops.getD 0 0) (ts.getD 0 []) (low op)
    have h4 := kidT_tb (ops.getD 1 0) (ts.getD 1 []) (min (low op + 1) (low op * 9))
    have h5 := signs_len op
    simp only [tb_append, tb_cons, tb_nil]; omega
mutual
theorem exT_tb : ∀ x : Ex, tb (exT x) ≤ 16 * exW x
  | .mk op at_ nm ks => by
    have h := exTok_tb op nm (ks.map Ex.op) (exsT ks)
    have h2 := exsT_tb ks
    have h3 : (exsT ks).length = ks.length := by rw [exsT_map, List.length_map]
    rw [exT, exW]; omega
theorem exsT_tb : ∀ l : List Ex, ((exsT l).map tb).sum ≤ 16 * exsW l
  | [] => Nat.zero_le _
  | e :: l => by
    have h := exT_tb e
    have h2 := exsT_tb l
    rw [exsT, exsW, List.map_cons, List.sum_cons]; omega
end
theorem bodyT_tb (b : List (List Str)) : tb (bodyT b) = (b.map tb).sum + 4 := by
  unfold bodyT; simp only [tb_append, tb_cons, tb_nil, tb_flatten, List.length_cons, List.length_nil]; omega
theorem smTok_tb (op : Nat) (nm : Str) (ks b e : List (List Str)) : tb (smTok op nm ks b e) ≤ nm.length + 32 + (ks.map tb).sum * 2 + 2 * ks.length + (b.map tb).sum + (e.map tb).sum := by
  have h1 := rowT_tb (ks.drop 1)
  have hd : ((ks.drop 1).map tb).sum ≤ (ks.map tb).sum := by cases ks <;> simp
  have hl : (ks.drop 1).length ≤ ks.length := by rw [List.length_drop]; omega
  have h2 := getD2_tb ks
  have h3 := getD_tb ks (ks.length - 1)
  have hb := bodyT_tb b
  have he := bodyT_tb e
  unfold smTok
  split
  · simp only [tb_append, tb_cons, tb_nil, List.length_cons, List.length_nil]; split <;> simp only [tb_append, tb_cons, tb_nil, List.length_cons, List.length_nil] <;> omega
  split
  · simp only [tb_append, tb_cons, tb_nil, List.length_cons, List.length_nil]; omega
  split
  · simp only [tb_append, tb_cons, tb_nil, List.length_cons, List.length_nil]; omega
  split
  · simp only [tb_append, tb_cons, tb_nil, List.length_cons, List.length_nil]; omega
  split
  · simp only [tb_append, tb_cons, tb_nil, List.length_cons, List.length_nil]; split <;> simp only [tb_append, tb_cons, tb_nil, List.length_cons, List.length_nil] <;> omega
  · omega
mutual
theorem smT_tb : ∀ x : Sm, tb (smT x) ≤ 32 * smW x
  | .mk op at_ nm ks b e => by
    have h := smTok_tb op nm (exsT ks) (smsT b) (smsT e)
    have h2 := exsT_tb ks
    have h3 : (exsT ks).length = ks.length := by rw [exsT_map, List.length_map]
    have h4 := smsT_tb b
    have h5 := smsT_tb e
    rw [smT, smW]; omega
theorem smsT_tb : ∀ l : List Sm, ((smsT l).map tb).sum ≤ 32 * smsW l
  | [] => Nat.zero_le _
  | e :: l => by
    have h := smT_tb e
    have h2 := smsT_tb l
    rw [smsT, smsW, List.map_cons, List.sum_cons]; omega
end
theorem ldT_tb (pre : List Str) : ∀ l : List Ex, tb (ldT pre l) ≤ tb pre * l.length + 16 * exsW l
  | [] => Nat.zero_le _
  | x :: l => by
    have h := ldT_tb pre l
    have h2 := exT_tb x
    have h3 : ldT pre (x :: l) = pre ++ exT x ++ ldT pre l := by simp [ldT]
    rw [h3, exsW, List.length_cons, Nat.mul_add]; simp only [tb_append]; omega
theorem sizeT_tb (d : Dc) : tb (sizeT d) ≤ 4 + 2 * d.size.length + 16 * exsW d.size := by
  have h := rowT_tb (exsT d.size)
  have h2 := exsT_tb d.size
  have h3 : (exsT d.size).length = d.size.length := by rw [exsT_map, List.length_map]
  unfold sizeT; simp only [tb_append, tb_cons, tb_nil, List.length_cons, List.length_nil]; omega
theorem boundsT_tb (d : Dc) : tb (boundsT d) ≤ 6 + 8 * d.lower.length + 8 * d.upper.length + 16 * exsW d.lower + 16 * exsW d.upper := by
  have h := ldT_tb lowW d.lower
  have h2 := ldT_tb upW d.upper
  have h3 : tb lowW = 8 := by decide
  have h4 : tb upW = 8 := by decide
  rw [h3] at h; rw [h4] at h2
  unfold boundsT; split
  · exact Nat.zero_le _
  · simp only [tb_append, tb_cons, tb_nil, List.length_cons, List.length_nil]; split <;> simp only [tb_cons, tb_nil, List.length_cons, List.length_nil] <;> omega
theorem tyT_len (n : Nat) : (tyT n).length ≤ 6 := by unfold tyT; split <;> simp
theorem dcT_tb (d : Dc) : tb (dcT d) ≤ 32 * dcW d := by
  have h1 := sizeT_tb d
  have h2 := boundsT_tb d
  have h3 := ldT_tb [[61]] d.init
  have h5 : tb [[61]] = 2 := by decide
  rw [h5] at h3
  have h4 := tyT_len d.ty
  unfold dcT dcW; simp only [tb_append, tb_cons, tb_nil, List.length_cons, List.length_nil]
  split <;> split <;> simp only [tb_append, tb_cons, tb_nil, List.length_cons, List.length_nil] <;> omega
theorem dcsT_tb : ∀ l : List Dc, tb (dcsT l) ≤ 32 * dcsW l
  | [] => Nat.zero_le _
  | d :: l => by
    have h := dcsT_tb l
    have h2 := dcT_tb d
    have h3 : dcsT (d :: l) = dcT d ++ dcsT l := by simp [dcsT]
    rw [h3, tb_append, dcsW]; omega
theorem headW_tb (i : Nat) : tb (headW i) ≤ 28 := by unfold headW; split <;> decide
theorem bkT_tb (i : Nat) (b : Bk) : tb (bkT i b) ≤ 32 * bkW b := by
  have h1 := headW_tb i
  have h2 := dcsT_tb b.decls
  have h3 := smsT_tb b.stmts
  unfold bkT bkW; split
  · simp only [tb_append, tb_cons, tb_nil, tb_flatten, List.length_cons, List.length_nil]; omega
  · rw [tb_nil]; exact Nat.zero_le _
def pgW (p : List Bk) : Nat := (p.map bkW).sum
theorem pgTo_tb {p : List Bk} {m : Nat} (hm : ∀ b ∈ p, bkW b ≤ m) : ∀ i, tb (pgTo p i) ≤ i * (32 * m)
  | 0 => by rw [pgTo_zero, tb_nil]; exact Nat.zero_le _
  | i + 1 => by
    have ih := pgTo_tb hm i
    rw [Nat.succ_mul]
    cases hb : p[i]? with
    | some b =>
      have h := bkT_tb i b
      have h2 := hm b (List.mem_of_getElem? hb)
      rw [pgTo_next hb, tb_append]; omega
    | none =>
      have : pgTo p (i + 1) = pgTo p i := by unfold pgTo; rw [List.range_succ, List.flatMap_append]; simp [hb]
      rw [this]; omega
theorem pgT_tb {p : List Bk} {m : Nat} (hm : ∀ b ∈ p, bkW b ≤ m) : tb (pgT p) ≤ 6 * (32 * m) := pgTo_tb hm 6
theorem pgT_len {p : List Bk} (hm : ∀ b ∈ p, bkW b ≤ 1048576) : (pgT p).length ≤ 1000000000 ∧ (textT (pgT p)).length ≤ 1000000000 := by
  have h1 := pgT_tb hm
  have h2 := tb_len (pgT p)
  have h3 := textT_tb (pgT p)
  omega
/-! the same as itself -/
/-! a block more -/
def sp (s : Str) : Str := s ++ (if brk s then [10] else [32])
def setIs (p : List Bk) (i : Nat) (b : Bk) : List Bk := p.set i { b with is := true }
end Go.Tree
end
