/- Layer 15, KindOf: Of of kind tells the kind, or the fault, of the document, for expressions of at most 400 nodes, names of at most 200 bytes and at most 20 variables; in the Upto form. Part 16 of 17. -/
import Derived.Test.YtoehjlmdnajibaaGreatDoorH15
set_option maxRecDepth 100000
set_option maxHeartbeats 16000000
section
namespace Go.Proofs.YtoehjlmdnajibaaGreatDoor
open Go.RowKit Go.Sx
open Go.Tok Go.Tree Go.Knd

def ROfH (n : Nat) : Prop := ∀ (x : Ex) (cs : List Value) (vs : List Vr) (va : Option Addr) (vc : Nat) (w : World), exW x < n → exOk x = true → exM w (fun _ => True) x cs → vrsV w (fun _ => True) vs (va, vc) → vs.length ≤ 90000000 →
    Ret Tryz.prog 43 #[.agg cs.toArray, .slice va vs.length vc] w fun v w' => v = (.tuple #[kdV (outK (ofK vs x)).1, .agg (ftC (outK (ofK vs x)).2).toArray]) ∧ Ext w w'

theorem op5_len {nm : Str} {n : Nat} (h : ruleOk 5 nm n = true) : n = 1 := by
  simp only [ruleOk, Bool.and_eq_true, decide_eq_true_eq] at h; exact h.2
theorem op6_len {op : Nat} {nm : Str} {n : Nat} (ho : op = 6 ∨ op = 7 ∨ op = 8 ∨ op = 9) (h : ruleOk op nm n = true) : n = 2 := by
  rcases ho with rfl | rfl | rfl | rfl <;> (simp only [ruleOk, Bool.and_eq_true, decide_eq_true_eq] at h; exact h.2)

theorem rof_step (n : Nat) (ih : ROfH n) (hn : n ≤ 10000000) (x : Ex) (cs : List Value) (vs : List Vr) (va : Option Addr) (vc : Nat) (w : World) (hx : exW x < n + 1) (hok : exOk x = true) (hm : exM w (fun _ => True) x cs) (hv : vrsV w (fun _ => True) vs (va, vc)) (hvl : vs.length ≤ 90000000) :
    Ret Tryz.prog 43 #[.agg cs.toArray, .slice va vs.length vc] w (fun v w' => v = (.tuple #[kdV (outK (ofK vs x)).1, .agg (ftC (outK (ofK vs x)).2).toArray]) ∧ Ext w w') := by
  obtain ⟨op, at_, nm, ks⟩ := x
  have hm2 := hm
  unfold exM at hm2
  obtain ⟨ka, kc, rfl, hkc, hks⟩ := hm2
  have hx2 := hx
  unfold exW at hx2
  have ho := hok
  unfold exOk at ho
  rw [Bool.and_eq_true] at ho
  obtain ⟨ho1, ho2⟩ := ho
  refine enter (S := No) (l := [_, _]) (L := []) 167 Tryz.func43 rfl rfl rfl (St.start w No) (yA (w_boxA rfl (fun t2b gt2b ut2b => zA zr58 (fun t4b gt4b ut4b => zA zr37 (fun t5b gt5b ut5b => yC (za (v := .slice _ _ _) rfl (yC (aB rfl (yB (zq (yA (aI rfl (yB (zB ?_))))))))))))))
  refine c_loop (fun m e B L => ∃ (k : Nat) (ts : List Nat) (a : Option Addr) (c : Nat) (p : Bool) (W : Heap), e 1 = .slice va vs.length vc ∧ e 2 = .pointer (some ⟨t2b, 0, none⟩) ∧ e 4 = .pointer (some ⟨t4b, 0, none⟩) ∧ e 5 = .pointer (some ⟨t5b, 0, none⟩) ∧ e 6 = .slice a ts.length c ∧ e 7 = .bool p ∧ e 8 = .int .i64 (k : Nat) ∧ B = [(w, No)] ∧ L = (t5b, cel [.int .i64 0, .int .i64 0] 37) :: (t4b, cel [.int .u8 0, .bool false] 58) :: (t2b, cel [.int .u8 (op : Nat), .int .i64 at_, str nm, .slice ka ks.length kc] 52) :: (W ++ []) ∧ k ≤ ks.length ∧ ts.length = k ∧ OwnU 5 (.slice a ts.length c) ts W ∧ ofK vs (Ex.mk op at_ nm ks) = andK (kidsG vs ts p (ks.drop k)) (fun r => ruleK vs op at_ nm ks (r.1.getD 0 0) (r.1.getD 1 0) r.2) ∧ m = ks.length - k) _ ⟨0, [], none, 0, false, [], rfl, rfl, rfl, rfl, rfl, rfl, rfl, rfl, rfl, Nat.zero_le _, rfl, (Own.nil _ 1), ofK_go vs op at_ nm ks, rfl⟩ ?_
  rintro m e B L ⟨k, ts, a, c, p, W, e1_1, e2_1, e4_1, e5_1, e6_1, e7_1, e8_1, rfl, rfl, hk, htl, hO, hG1, rfl⟩
  refine zq (yA (mI e8_1 (zf fa52_3 e2_1 (zL 2 z47 rfl rfl rfl (zg (fun _ => R_len sl47 rfl) (zg (fun _ => R_lt rfl rfl) (yB ?_))))))); refine zD rfl (fun h4 => ?_) (fun h4 => ?_)
  · have hlt : k < ks.length := (by omega); obtain ⟨x, hxk⟩ : ∃ x, ks[k]? = some x := ⟨_, List.getElem?_eq_getElem hlt⟩; obtain ⟨cs, hA, hE⟩ := hks.get0 hxk; have hxn := exsW_mem (List.mem_of_getElem? hxk); have hxo := exsOk_mem ho2 (List.mem_of_getElem? hxk); obtain ⟨b1, o1, rfl⟩ := hA.ptr; have hG2 := hG1.trans (kidsG_step hxk ts p _); obtain ⟨op2, at2, nm2, ks2⟩ := x; have hE2 := hE; unfold exM at hE2; obtain ⟨ka2, kc2, rfl, hkc2, hks2⟩ := hE2
    refine zi (zk (zq (zB (yA (zf fa52_3 e2_1 (zL 2 z47 rfl rfl rfl (mI e8_1 (zg (fun _ => R_iaN (i := k) sl47 rfl rfl (by omega)) (w_loadC (l := [.int .u8 (op2 : Nat), .int .i64 at2, str nm2, .slice ka2 ks2.length kc2]) z52 rfl rfl (fun w h j v hj => hA.cell (fun _ _ hh => hh) zm0 h j v hj) (mS e1_1 ?_))))))))))
    rcases hX : ofK vs (Ex.mk op2 at2 nm2 ks2) with f | ⟨q1, q2⟩
    · refine zC (v := .tuple #[.agg #[.int .u8 0, .bool false], .agg #[.int .i64 (f.1 : Nat), .int .i64 f.2]]) (fun w => zR Tryz.func43 rfl rfl rfl) rfl rfl (fun w h => by have := ih _ _ vs va vc w (by omega) hxo (hE.nowT zm0 h) (hv.nowT zm0 h) hvl; rw [hX] at this; exact this) ?_
      have hfc := of_code _ f hX; have hG3 := hG2.trans (andK_er hX)
      refine zm rfl (zg (fun _ => R_extract rfl rfl) (zg (fun _ => R_extract rfl rfl) (zA zr58 (fun t9b gt9b ut9b => zA zr37 (fun t10b gt10b ut10b => zV 1 rfl z58 rfl rfl rfl rfl rfl rfl rfl (zV 0 rfl z37 rfl rfl rfl rfl rfl rfl rfl (yB (zq (yA (zY z37 rfl (fun _ h => h.at_ 0 rfl) rfl (zC (fun w => zR Tryz.func32 rfl rfl rfl) rfl rfl (fun w h => bad_t f.1 f.2 (by omega) w) (yB (zE rfl (zq ?_)))))))))))))); refine c_heldI [0, 1, 4] mixed ?_; refine zh2 0 rfl rfl (fun w h => (h).pick [0, 1, 4] (by decide)) (fun w h => R_build bt58 rfl) ?_; refine h_loadA 1 rfl (by kernel_rfl) (fun w h => (h).pick [0, 1, 4] (by decide)) z37 rfl (fun _ h => h.at_ 0 rfl) rfl ?_; refine zH2 2 (fun w h => (h).pick [0, 1, 4] (by decide)) ?_; refine zJ 3 rfl rfl z58 e4_1 rfl rfl rfl rfl rfl rfl ?_
      refine zH2 3 (fun w h => (h).pick [0, 1, 4] (by decide)) ?_; refine zJ 2 rfl rfl z37 e5_1 rfl rfl rfl rfl rfl rfl ?_; refine zN2 (fun w h => (h).pick [0, 1, 4] (by decide)) ?_; refine zk (ze (zt (zb (zt (zt (zb (zt (?_))))))))
      refine r_fin (.inl rfl) rfl (.agg rfl e4_1 z58 (fun _ h => h.at_ 3 rfl) rfl (.agg rfl e5_1 z37 (fun _ h => h.at_ 2 rfl) rfl .nil)) ?_; exact fun w' hw => ⟨by clear hw; (rw [outK_er hG3]; rfl), hw.fr _ zm0⟩
    · refine zC (v := .tuple #[.agg #[.int .u8 (q1 : Nat), .bool q2], .agg #[.int .i64 0, .int .i64 0]]) (fun w => zR Tryz.func43 rfl rfl rfl) rfl rfl (fun w h => by have := ih _ _ vs va vc w (by omega) hxo (hE.nowT zm0 h) (hv.nowT zm0 h) hvl; rw [hX] at this; exact this) ?_
      have hG3 := hG2.trans (andK_of hX)
      refine zm rfl (zg (fun _ => R_extract rfl rfl) (zg (fun _ => R_extract rfl rfl) (zA zr58 (fun t9b gt9b ut9b => zA zr37 (fun t10b gt10b ut10b => zV 1 rfl z58 rfl rfl rfl rfl rfl rfl rfl (zV 0 rfl z37 rfl rfl rfl rfl rfl rfl rfl (yB (zq (yA (zY z37 rfl (fun _ h => h.at_ 0 rfl) rfl (zC (fun w => zR Tryz.func32 rfl rfl rfl) rfl rfl (fun w h => bad_f 0 w) (yB (zG rfl (zi (zk (yA (mS e6_1 (zf fa58_0 rfl (zL 1 z5 rfl rfl rfl (zS slt115 (by decide) rfl rfl (fun sb gsb usb => w_app (L := []) (W := W) (news := [.int .u8 (q1 : Nat)]) [_, _, _, _, _, _] slt115 (by decide) rfl hO rfl rfl (row_own 0 rfl (fun j u h => h)) rfl (by decide) (by omega) (by omega) (fun v2 W2 hO2 => ?_))))))))))))))))))))))
      obtain ⟨a9, c9, hv2, hO9⟩ : ∃ (a : Option Addr) (c : Nat), v2 = .slice a (ts ++ [q1]).length c ∧ OwnU 5 (.slice a (ts ++ [q1]).length c) (ts ++ [q1]) W2 := (by obtain ⟨a, c, rfl⟩ := hO2.slice; exact ⟨a, c, by simp, OwnU.more hO2⟩); subst hv2
      refine za (v := .slice _ _ _) rfl (yB (zr (mB e7_1 (mB rfl ?_)))); refine zp (t := 43) rfl (fun h9 => ?_) (fun h9 => ?_)
      · refine zs rfl rfl (bV h9) (zs rfl rfl (bV h9) (zg (v := .bool _) (fun _ => zT (bV h9) rfl) (aB rfl (zn (zO (zk (zr (mI e8_1 (zg (fun _ => R_addi rfl rfl (by omega)) (aI rfl (zn (zK (B' := [(w, No)]) (L' := (t5b, cel [.int .i64 0, .int .i64 0] 37) :: (t4b, cel [.int .u8 0, .bool false] 58) :: (t2b, cel [.int .u8 (op : Nat), .int .i64 at_, str nm, .slice (some ⟨b1, o1, none⟩) ks.length kc] 52) :: (W2 ++ [])) (fun w h => h.drop (.cons _ (.cons _ (.cons _ (List.Sublist.refl _))))) ?_))))))))))))
        exact k_again _ (by omega) ⟨k + 1, ts ++ [q1], a9, c9, p || q2, W2, e1_1, e2_1, e4_1, e5_1, rfl, (by exact congrArg Value.bool (show true = (p || q2) by simp_all)), rfl, rfl, rfl, by omega, (by rw [List.length_append, List.length_singleton]; omega), hO9, hG3, rfl⟩
      · refine zw rfl rfl (bV h9) (zf fa58_1 rfl (zw rfl rfl (bV h9) (zL 2 z4 rfl rfl rfl (zg (v := .bool _) (fun _ => zF (bV h9) rfl) (aB rfl (zn (zO (zk (zr (mI e8_1 (zg (fun _ => R_addi rfl rfl (by omega)) (aI rfl (zn (zK (B' := [(w, No)]) (L' := (t5b, cel [.int .i64 0, .int .i64 0] 37) :: (t4b, cel [.int .u8 0, .bool false] 58) :: (t2b, cel [.int .u8 (op : Nat), .int .i64 at_, str nm, .slice (some ⟨b1, o1, none⟩) ks.length kc] 52) :: (W2 ++ [])) (fun w h => h.drop (.cons _ (.cons _ (.cons _ (List.Sublist.refl _))))) ?_)))))))))))))); exact k_again _ (by omega) ⟨k + 1, ts ++ [q1], a9, c9, p || q2, W2, e1_1, e2_1, e4_1, e5_1, rfl, (by exact congrArg Value.bool (show q2 = (p || q2) by simp_all)), rfl, rfl, rfl, by omega, (by rw [List.length_append, List.length_singleton]; omega), hO9, hG3, rfl⟩
  · have hG4 : ofK vs (Ex.mk op at_ nm ks) = ruleK vs op at_ nm ks (ts.getD 0 0) (ts.getD 1 0) p := hG1.trans (kidsG_end (by omega) ts p _); clear hG1; have htk : ts.length = ks.length := (by omega)
    refine zX (zx (zx (b_here rfl (zk (yA (aI rfl (yB (zq (yA ?_)))))))))
    rcases op_ok9 ho1 with rfl | rfl | rfl | rfl | rfl | hop
    · refine zf fa52_0 e2_1 (zL 2 z5 rfl rfl rfl (yB (zB (yA (zg (fun _ => R_eq rfl rfl) (aB rfl (yB (zE (congrArg Value.bool (decide_eq_true (by decide))) (yA (aI rfl (yC (zf fa52_2 e2_1 (zL 2 z9 rfl rfl rfl (zC (fun w => zR Tryz.func72 rfl rfl rfl) rfl rfl (fun w h => rint_ok nm (by omega) w) (yB ?_))))))))))))))); refine c_cond rfl (fun h10 => ?_) (fun h10 => ?_)
      · refine zr (aI rfl (zn (zO (zk (zq (yA (mI rfl (zg (fun _ => R_eq rfl rfl) (yB (zG (congrArg Value.bool (decide_eq_false (by decide))) (zi (zk (yA (mI rfl (mB e7_1 (zg (fun _ => R_build bt58 rfl) (zC (fun w => zR Tryz.func34 rfl rfl rfl) rfl rfl (fun w h => rnone_ok w) (zV 1 rfl z58 e4_1 rfl rfl rfl rfl rfl rfl (zV 0 rfl z37 e5_1 rfl rfl rfl rfl rfl rfl (yB (ze (r_fin (.inl rfl) rfl (.agg rfl e4_1 z58 (fun _ h => h.at_ 1 rfl) rfl (.agg rfl e5_1 z37 (fun _ h => h.at_ 0 rfl) rfl .nil)) ?_)))))))))))))))))))))); exact fun w' hw => ⟨by clear hw; (rw [outK_ok (hG4.trans (rule_1'.trans (needT_1 (by (rw [if_pos (by omega)]; omega)))))]; (rw [if_pos (by assumption)]; rfl)), hw.fr _ zm0⟩
      · refine zi (zO (zk (zq (yA (mI rfl (zg (fun _ => R_eq rfl rfl) (yB (zG (congrArg Value.bool (decide_eq_false (by decide))) (zi (zk (yA (mI rfl (mB e7_1 (zg (fun _ => R_build bt58 rfl) (zC (fun w => zR Tryz.func34 rfl rfl rfl) rfl rfl (fun w h => rnone_ok w) (zV 1 rfl z58 e4_1 rfl rfl rfl rfl rfl rfl (zV 0 rfl z37 e5_1 rfl rfl rfl rfl rfl rfl (yB (ze (r_fin (.inl rfl) rfl (.agg rfl e4_1 z58 (fun _ h => h.at_ 1 rfl) rfl (.agg rfl e5_1 z37 (fun _ h => h.at_ 0 rfl) rfl .nil)) ?_))))))))))))))))))))
        exact fun w' hw => ⟨by clear hw; (rw [outK_ok (hG4.trans (rule_1'.trans (needT_1 (by (split <;> decide)))))]; (rw [if_neg (by rw [h10]; exact Bool.false_ne_true)]; rfl)), hw.fr _ zm0⟩
    · refine zf fa52_0 e2_1 (zL 2 z5 rfl rfl rfl (yB (zB (yA (zg (fun _ => R_eq rfl rfl) (aB rfl (yB (zG (congrArg Value.bool (decide_eq_false (by decide))) (zq (yA (zg (fun _ => R_eq rfl rfl) (aB rfl (yB (zE (congrArg Value.bool (decide_eq_true (by decide))) (zi (zk (zE (congrArg Value.bool (decide_eq_true (by decide))) (yA (mS e1_1 (zf fa52_2 e2_1 (zL 2 z9 rfl rfl rfl (zC (fun w => zR Tryz.func48 rfl rfl rfl) rfl rfl (fun w h => rFind_ok vs va vc nm w (hv.nowT zm0 h) hvl) ?_))))))))))))))))))))))
      rcases hq11 : findV vs nm with _ | v11
      · have hG5 := hG4.trans (rule_2n hq11)
        refine zm rfl (zg (fun _ => R_extract rfl rfl) (zg (fun _ => R_extract rfl rfl) (zA zr54 (fun t12b gt12b ut12b => zV 0 rfl z54 rfl rfl rfl rfl rfl rfl rfl (aB rfl (yB (zq (yA (mB rfl (zg (fun _ => R_not rfl) (yB (zE rfl (zq ?_))))))))))))); refine c_heldI [0, 3] mixed ?_; refine zh2 0 rfl rfl (fun w h => (h).pick [0, 3] (by decide)) (fun w h => R_build bt58 rfl) ?_; refine zh2 1 rfl rfl (fun w h => (h).pick [0, 3] (by decide)) (fun w h => R_fa fa52_1 e2_1) ?_; refine zh (v := .int _ _) 2 rfl (by kernel_rfl) rfl rfl (fun w h => (h).pick [0, 3] (by decide)) (fun w h => R_ld1 z3 rfl ((fun _ h => zc 1 rfl rfl h) w h)) ?_; refine zh2 3 rfl rfl (fun w h => (h).pick [0, 3] (by decide)) (fun w h => R_build bt37 rfl) ?_
        refine zH2 4 (fun w h => (h).pick [0, 3] (by decide)) ?_; refine zJ 2 rfl rfl z58 e4_1 rfl rfl rfl rfl rfl rfl ?_; refine zH2 5 (fun w h => (h).pick [0, 3] (by decide)) ?_; refine zJ 1 rfl rfl z37 e5_1 rfl rfl rfl rfl rfl rfl ?_; refine zN2 (fun w h => (h).pick [0, 3] (by decide)) ?_; refine zk (ze (zt (zb (zt (?_)))))
        refine r_fin (.inl rfl) rfl (.agg rfl e4_1 z58 (fun _ h => h.at_ 2 rfl) rfl (.agg rfl e5_1 z37 (fun _ h => h.at_ 1 rfl) rfl .nil)) ?_; exact fun w' hw => ⟨by clear hw; (rw [outK_er hG5]; rfl), hw.fr _ zm0⟩
      · have hG5 := hG4.trans (rule_2s hq11)
        refine zm rfl (zg (fun _ => R_extract rfl rfl) (zg (fun _ => R_extract rfl rfl) (zA zr54 (fun t12b gt12b ut12b => zV 0 rfl z54 rfl rfl rfl rfl rfl rfl rfl (aB rfl (yB (zq (yA (mB rfl (zg (fun _ => R_not rfl) (yB (zG rfl (zi (zk (zq (yA (zf fa52_0 e2_1 (zL 3 z5 rfl rfl rfl (zg (fun _ => R_eq rfl rfl) (yB (zE (congrArg Value.bool (decide_eq_true (by decide))) (zq ?_)))))))))))))))))))))); refine c_heldI [0, 3] mixed ?_; refine zh2 0 rfl rfl (fun w h => (h).pick [0, 3] (by decide)) (fun w h => R_fa fa54_1 rfl) ?_
        refine zh (v := .int _ _) 1 rfl (by kernel_rfl) rfl rfl (fun w h => (h).pick [0, 3] (by decide)) (fun w h => R_ld1 z5 rfl ((fun _ h => zc 0 rfl rfl h) w h)) ?_; refine zh2 2 rfl rfl (fun w h => (h).pick [0, 3] (by decide)) (fun w h => R_fa fa54_3 rfl) ?_; refine zh (v := .bool _) 3 rfl (by kernel_rfl) rfl rfl (fun w h => (h).pick [0, 3] (by decide)) (fun w h => R_ld1 z4 rfl ((fun _ h => zc 0 rfl rfl h) w h)) ?_; refine zh2 4 rfl rfl (fun w h => (h).pick [0, 3] (by decide)) (fun w h => R_build bt58 rfl) ?_; refine zH2 5 (fun w h => (h).pick [0, 3] (by decide)) ?_; refine o_pureW rfl (wn_none rfl) rfl (fun w => zR Tryz.func34 rfl rfl rfl) (fun w h => rnone_ok w) ?_; refine zH2 6 (fun w h => (h).pick [0, 3] (by decide)) ?_
        refine zJ 2 rfl rfl z58 e4_1 rfl rfl rfl rfl rfl rfl ?_; refine zH2 7 (fun w h => (h).pick [0, 3] (by decide)) ?_; refine zJ 1 rfl rfl z37 e5_1 rfl rfl rfl rfl rfl rfl ?_; refine zN2 (fun w h => (h).pick [0, 3] (by decide)) ?_; refine zk (ze (zt (zb (zt (?_)))))
        refine r_fin (.inl rfl) rfl (.agg rfl e4_1 z58 (fun _ h => h.at_ 2 rfl) rfl (.agg rfl e5_1 z37 (fun _ h => h.at_ 1 rfl) rfl .nil)) ?_; exact fun w' hw => ⟨by clear hw; (rw [outK_ok hG5]; rfl), hw.fr _ zm0⟩
    · refine zf fa52_0 e2_1 (zL 2 z5 rfl rfl rfl (yB (zB (yA (zg (fun _ => R_eq rfl rfl) (aB rfl (yB (zG (congrArg Value.bool (decide_eq_false (by decide))) (zq (yA (zg (fun _ => R_eq rfl rfl) (aB rfl (yB (zG (congrArg Value.bool (decide_eq_false (by decide))) (zr (zg (fun _ => R_eq rfl rfl) (aB rfl (yB (zE (congrArg Value.bool (decide_eq_true (by decide))) (yA (mS e1_1 (zf fa52_2 e2_1 (zL 2 z9 rfl rfl rfl (zC (fun w => zR Tryz.func48 rfl rfl rfl) rfl rfl (fun w h => rFind_ok vs va vc nm w (hv.nowT zm0 h) hvl) ?_))))))))))))))))))))))))
      rcases hq14 : findV vs nm with _ | v14
      · have hG5 := hG4.trans (rule_3n hq14)
        refine zm rfl (zg (fun _ => R_extract rfl rfl) (zg (fun _ => R_extract rfl rfl) (zA zr54 (fun t12b gt12b ut12b => zV 0 rfl z54 rfl rfl rfl rfl rfl rfl rfl (aB rfl (yB (zq (yA (mB rfl (zg (fun _ => R_not rfl) (yB (zE rfl (zq ?_))))))))))))); refine c_heldI [0, 3] mixed ?_; refine zh2 0 rfl rfl (fun w h => (h).pick [0, 3] (by decide)) (fun w h => R_build bt58 rfl) ?_; refine zh2 1 rfl rfl (fun w h => (h).pick [0, 3] (by decide)) (fun w h => R_fa fa52_1 e2_1) ?_; refine zh (v := .int _ _) 2 rfl (by kernel_rfl) rfl rfl (fun w h => (h).pick [0, 3] (by decide)) (fun w h => R_ld1 z3 rfl ((fun _ h => zc 1 rfl rfl h) w h)) ?_; refine zh2 3 rfl rfl (fun w h => (h).pick [0, 3] (by decide)) (fun w h => R_build bt37 rfl) ?_
        refine zH2 4 (fun w h => (h).pick [0, 3] (by decide)) ?_; refine zJ 2 rfl rfl z58 e4_1 rfl rfl rfl rfl rfl rfl ?_; refine zH2 5 (fun w h => (h).pick [0, 3] (by decide)) ?_; refine zJ 1 rfl rfl z37 e5_1 rfl rfl rfl rfl rfl rfl ?_; refine zN2 (fun w h => (h).pick [0, 3] (by decide)) ?_; refine zk (ze (zt (zb (zt (?_)))))
        refine r_fin (.inl rfl) rfl (.agg rfl e4_1 z58 (fun _ h => h.at_ 2 rfl) rfl (.agg rfl e5_1 z37 (fun _ h => h.at_ 1 rfl) rfl .nil)) ?_; exact fun w' hw => ⟨by clear hw; (rw [outK_er hG5]; rfl), hw.fr _ zm0⟩
      · obtain ⟨k0, rfl⟩ : ∃ k, ks = [k] := List.length_eq_one_iff.1 (rule3_len ho1)
        obtain ⟨cs, hA, hE⟩ := hks.get0 (k := 0) (e := k0) rfl; obtain ⟨b1, o1, rfl⟩ := hA.ptr; obtain ⟨op2, at2, nm2, ks2⟩ := k0; have hE2 := hE; unfold exM at hE2; obtain ⟨ka2, kc2, rfl, hkc2, hks2⟩ := hE2; have htk1 : ts.length = 1 := htk; obtain ⟨tb, rfl, hct⟩ := hO.cell (i := 0) (by omega)
        refine zm rfl (zg (fun _ => R_extract rfl rfl) (zg (fun _ => R_extract rfl rfl) (zA zr54 (fun t12b gt12b ut12b => zV 0 rfl z54 rfl rfl rfl rfl rfl rfl rfl (aB rfl (yB (zq (yA (mB rfl (zg (fun _ => R_not rfl) (yB (zG rfl (zi (zk (zq (yA (zf fa52_0 e2_1 (zL 3 z5 rfl rfl rfl (zg (fun _ => R_eq rfl rfl) (yB (zG (congrArg Value.bool (decide_eq_false (by decide))) (zi (zk (zq (zq (zr (zf fa54_1 rfl (zL 0 z5 rfl rfl rfl (zC (fun w => zR Tryz.func50 rfl rfl rfl) rfl rfl (fun w h => rscalar_ok _ w) (mB rfl ?_)))))))))))))))))))))))))))))); refine zp (t := 91) rfl (fun h17 => ?_) (fun h17 => ?_)
        · refine zs rfl rfl (bV h17) (zs rfl rfl (bV h17) (zs rfl rfl (bV h17) (zg (v := .bool _) (fun _ => zT (bV h17) rfl) (mB rfl ?_)))); (iterate 3 refine zs rfl rfl rfl ?_); refine zg (v := .bool _) (fun _ => zT rfl rfl) (yB (zE rfl (zq ?_))); refine c_heldI [0, 3] mixed ?_; refine zh2 0 rfl rfl (fun w h => (h).pick [0, 3] (by decide)) (fun w h => R_build bt58 rfl) ?_; refine zh2 1 rfl rfl (fun w h => (h).pick [0, 3] (by decide)) (fun w h => R_fa fa52_1 e2_1) ?_; refine zh (v := .int _ _) 2 rfl (by kernel_rfl) rfl rfl (fun w h => (h).pick [0, 3] (by decide)) (fun w h => R_ld1 z3 rfl ((fun _ h => zc 1 rfl rfl h) w h)) ?_
          refine zh2 3 rfl rfl (fun w h => (h).pick [0, 3] (by decide)) (fun w h => R_build bt37 rfl) ?_; refine zH2 4 (fun w h => (h).pick [0, 3] (by decide)) ?_; refine zJ 2 rfl rfl z58 e4_1 rfl rfl rfl rfl rfl rfl ?_; refine zH2 5 (fun w h => (h).pick [0, 3] (by decide)) ?_; refine zJ 1 rfl rfl z37 e5_1 rfl rfl rfl rfl rfl rfl ?_; refine zN2 (fun w h => (h).pick [0, 3] (by decide)) ?_; refine zk (ze (zt (zb (zt (?_)))))
          refine r_fin (.inl rfl) rfl (.agg rfl e4_1 z58 (fun _ h => h.at_ 2 rfl) rfl (.agg rfl e5_1 z37 (fun _ h => h.at_ 1 rfl) rfl .nil)) ?_; exact fun w' hw => ⟨by clear hw; first | (rw [outK_er (hG4.trans (rule_3a hq14 (by (have hsc : scal v14.ty = true := (by assumption); simp only [scal, Bool.or_eq_true, decide_eq_true_eq] at hsc; omega))))]; rfl), hw.fr _ zm0⟩
        · refine zw rfl rfl (bV h17) (zf fa54_1 rfl (zw rfl rfl (bV h17) (zL 0 z5 rfl rfl rfl (zw rfl rfl (bV h17) (zg (fun _ => R_eq rfl rfl) (zg (v := .bool _) (fun _ => zF (bV h17) rfl) (mB rfl ?_))))))); refine zd (t := 96) rfl (fun h18 => ?_) (fun h18 => ?_)
          · refine zs rfl rfl (bT h18) (zs rfl rfl (bT h18) (zs rfl rfl (bT h18) (zg (v := .bool _) (fun _ => zT (bT h18) rfl) (yB (zE rfl (zq ?_)))))); refine c_heldI [0, 3] mixed ?_; refine zh2 0 rfl rfl (fun w h => (h).pick [0, 3] (by decide)) (fun w h => R_build bt58 rfl) ?_; refine zh2 1 rfl rfl (fun w h => (h).pick [0, 3] (by decide)) (fun w h => R_fa fa52_1 e2_1) ?_; refine zh (v := .int _ _) 2 rfl (by kernel_rfl) rfl rfl (fun w h => (h).pick [0, 3] (by decide)) (fun w h => R_ld1 z3 rfl ((fun _ h => zc 1 rfl rfl h) w h)) ?_; refine zh2 3 rfl rfl (fun w h => (h).pick [0, 3] (by decide)) (fun w h => R_build bt37 rfl) ?_; refine zH2 4 (fun w h => (h).pick [0, 3] (by decide)) ?_
            refine zJ 2 rfl rfl z58 e4_1 rfl rfl rfl rfl rfl rfl ?_; refine zH2 5 (fun w h => (h).pick [0, 3] (by decide)) ?_; refine zJ 1 rfl rfl z37 e5_1 rfl rfl rfl rfl rfl rfl ?_; refine zN2 (fun w h => (h).pick [0, 3] (by decide)) ?_; refine zk (ze (zt (zb (zt (?_)))))
            refine r_fin (.inl rfl) rfl (.agg rfl e4_1 z58 (fun _ h => h.at_ 2 rfl) rfl (.agg rfl e5_1 z37 (fun _ h => h.at_ 1 rfl) rfl .nil)) ?_; exact fun w' hw => ⟨by clear hw; first | (rw [outK_er (hG4.trans (rule_3a hq14 (by omega)))]; rfl), hw.fr _ zm0⟩
          · refine zw rfl rfl (bF h18) (zf fa54_1 rfl (zw rfl rfl (bF h18) (zL 0 z5 rfl rfl rfl (zw rfl rfl (bF h18) (zg (fun _ => R_gt rfl rfl) (zg (v := .bool _) (fun _ => zF (bF h18) rfl) (yB ?_))))))); refine zD rfl (fun h19 => ?_) (fun h19 => ?_)
            · refine zq ?_; refine c_heldI [0, 3] mixed ?_; refine zh2 0 rfl rfl (fun w h => (h).pick [0, 3] (by decide)) (fun w h => R_build bt58 rfl) ?_; refine zh2 1 rfl rfl (fun w h => (h).pick [0, 3] (by decide)) (fun w h => R_fa fa52_1 e2_1) ?_; refine zh (v := .int _ _) 2 rfl (by kernel_rfl) rfl rfl (fun w h => (h).pick [0, 3] (by decide)) (fun w h => R_ld1 z3 rfl ((fun _ h => zc 1 rfl rfl h) w h)) ?_; refine zh2 3 rfl rfl (fun w h => (h).pick [0, 3] (by decide)) (fun w h => R_build bt37 rfl) ?_; refine zH2 4 (fun w h => (h).pick [0, 3] (by decide)) ?_; refine zJ 2 rfl rfl z58 e4_1 rfl rfl rfl rfl rfl rfl ?_; refine zH2 5 (fun w h => (h).pick [0, 3] (by decide)) ?_; refine zJ 1 rfl rfl z37 e5_1 rfl rfl rfl rfl rfl rfl ?_
              refine zN2 (fun w h => (h).pick [0, 3] (by decide)) ?_; refine zk (ze (zt (zb (zt (?_)))))
              refine r_fin (.inl rfl) rfl (.agg rfl e4_1 z58 (fun _ h => h.at_ 2 rfl) rfl (.agg rfl e5_1 z37 (fun _ h => h.at_ 1 rfl) rfl .nil)) ?_; exact fun w' hw => ⟨by clear hw; first | (rw [outK_er (hG4.trans (rule_3a hq14 (by omega)))]; rfl), hw.fr _ zm0⟩
            · have h345 : v14.ty = 3 ∨ v14.ty = 4 ∨ v14.ty = 5 := (by have hsc : scal v14.ty = false := (by assumption); simp only [scal, Bool.or_eq_false_iff, decide_eq_false_iff_not] at hsc; omega)
              refine zi (zk (zq (yA (mS e6_1 (zg (fun _ => R_iaN (i := 0) sl115 rfl rfl (by omega)) ?_))))); refine zl (v := .int .u8 (ts.getD 0 0 : Nat)) z5 rfl (fun w h => (by have := hct _ _ w (fun p hp => by simp [hp]) h 0 _ (at_get (by omega)); rw [show 0 + 0 * 1 = 0 from rfl]; exact this)) ?_; refine zg (fun _ => R_ne rfl rfl) (yB ?_); refine zD rfl (fun h20 => ?_) (fun h20 => ?_)
              · have hG5 := hG4.trans (rule_3b hq14 h345 (by omega))
                refine zq ?_; refine c_heldI [0, 3] mixed ?_; refine zh2 0 rfl rfl (fun w h => (h).pick [0, 3] (by decide)) (fun w h => R_build bt58 rfl) ?_; refine zh2 1 rfl rfl (fun w h => (h).pick [0, 3] (by decide)) (fun w h => R_fa fa52_3 e2_1) ?_; refine zh (v := .slice _ _ _) 2 rfl (by kernel_rfl) rfl rfl (fun w h => (h).pick [0, 3] (by decide)) (fun w h => R_ld1 z47 rfl ((fun _ h => zc 1 rfl rfl h) w h)) ?_; refine zh2 3 rfl rfl (fun w h => (h).pick [0, 3] (by decide)) (fun w h => R_iaN (i := 0) sl47 rfl rfl (by omega)) ?_; refine zh2 4 rfl rfl (fun w h => (h).pick [0, 3] (by decide)) (fun w h => R_fa fa52_1 rfl) ?_
                refine zh (v := .int .i64 at2) 5 rfl (by kernel_rfl) rfl rfl (fun w h => (h).pick [0, 3] (by decide)) (fun w h => R_ld1 z3 rfl (hA.cell (x := (_, No)) (fun _ _ h => h) zm0 h 1 (.int .i64 at2) rfl)) ?_; refine zh2 6 rfl rfl (fun w h => (h).pick [0, 3] (by decide)) (fun w h => R_build bt37 rfl) ?_; refine zH2 7 (fun w h => (h).pick [0, 3] (by decide)) ?_; refine zJ 2 rfl rfl z58 e4_1 rfl rfl rfl rfl rfl rfl ?_; refine zH2 8 (fun w h => (h).pick [0, 3] (by decide)) ?_; refine zJ 1 rfl rfl z37 e5_1 rfl rfl rfl rfl rfl rfl ?_; refine zN2 (fun w h => (h).pick [0, 3] (by decide)) ?_; refine zk (ze (zt (zb (zt (?_)))))
                refine r_fin (.inl rfl) rfl (.agg rfl e4_1 z58 (fun _ h => h.at_ 2 rfl) rfl (.agg rfl e5_1 z37 (fun _ h => h.at_ 1 rfl) rfl .nil)) ?_; exact fun w' hw => ⟨by clear hw; (rw [outK_er hG5]; rfl), hw.fr _ zm0⟩
              · have ha1 : ts.getD 0 0 = 1 := (by omega)
                refine zi (zk (zq (yA (mB e7_1 (yB ?_))))); refine c_cond rfl (fun h21 => ?_) (fun h21 => ?_)
                · have hG5 := hG4.trans (rule_3c hq14 h345 ha1 (by assumption))
                  refine zq ?_; refine c_heldI [0, 3] mixed ?_; refine zh2 0 rfl rfl (fun w h => (h).pick [0, 3] (by decide)) (fun w h => R_build bt58 rfl) ?_; refine zh2 1 rfl rfl (fun w h => (h).pick [0, 3] (by decide)) (fun w h => R_fa fa52_3 e2_1) ?_; refine zh (v := .slice _ _ _) 2 rfl (by kernel_rfl) rfl rfl (fun w h => (h).pick [0, 3] (by decide)) (fun w h => R_ld1 z47 rfl ((fun _ h => zc 1 rfl rfl h) w h)) ?_; refine zh2 3 rfl rfl (fun w h => (h).pick [0, 3] (by decide)) (fun w h => R_iaN (i := 0) sl47 rfl rfl (by omega)) ?_; refine zh2 4 rfl rfl (fun w h => (h).pick [0, 3] (by decide)) (fun w h => R_fa fa52_1 rfl) ?_
                  refine zh (v := .int .i64 at2) 5 rfl (by kernel_rfl) rfl rfl (fun w h => (h).pick [0, 3] (by decide)) (fun w h => R_ld1 z3 rfl (hA.cell (x := (_, No)) (fun _ _ h => h) zm0 h 1 (.int .i64 at2) rfl)) ?_; refine zh2 6 rfl rfl (fun w h => (h).pick [0, 3] (by decide)) (fun w h => R_build bt37 rfl) ?_; refine zH2 7 (fun w h => (h).pick [0, 3] (by decide)) ?_; refine zJ 2 rfl rfl z58 e4_1 rfl rfl rfl rfl rfl rfl ?_; refine zH2 8 (fun w h => (h).pick [0, 3] (by decide)) ?_; refine zJ 1 rfl rfl z37 e5_1 rfl rfl rfl rfl rfl rfl ?_; refine zN2 (fun w h => (h).pick [0, 3] (by decide)) ?_; refine zk (ze (zt (zb (zt (?_)))))
                  refine r_fin (.inl rfl) rfl (.agg rfl e4_1 z58 (fun _ h => h.at_ 2 rfl) rfl (.agg rfl e5_1 z37 (fun _ h => h.at_ 1 rfl) rfl .nil)) ?_; exact fun w' hw => ⟨by clear hw; (rw [outK_er hG5]; rfl), hw.fr _ zm0⟩
                · have hG5 := hG4.trans (rule_3d hq14 h345 ha1 (by assumption))
                  refine zi (zk (yA (aI rfl (yB (zq (yA (zf fa54_1 rfl (zL 0 z5 rfl rfl rfl (zg (fun _ => R_eq rfl rfl) (yB ?_)))))))))); refine zD rfl (fun h22 => ?_) (fun h22 => ?_)
                  · refine zr (aI rfl (yB (zr (zf fa54_3 rfl (zL 0 z4 rfl rfl rfl (aB rfl (zn (zO (zk (zq (yA (mI rfl (zg (fun _ => R_eq rfl rfl) (yB (zG (congrArg Value.bool (decide_eq_false (by decide))) (zi (zk (yA (mI rfl (mB rfl (zg (fun _ => R_build bt58 rfl) (zC (fun w => zR Tryz.func34 rfl rfl rfl) rfl rfl (fun w h => rnone_ok w) (zV 2 rfl z58 e4_1 rfl rfl rfl rfl rfl rfl (zV 1 rfl z37 e5_1 rfl rfl rfl rfl rfl rfl (yB (ze (r_fin (.inl rfl) rfl (.agg rfl e4_1 z58 (fun _ h => h.at_ 2 rfl) rfl (.agg rfl e5_1 z37 (fun _ h => h.at_ 1 rfl) rfl .nil)) ?_))))))))))))))))))))))))))); exact fun w' hw => ⟨by clear hw; (rw [outK_ok hG5]; (rw [if_pos (by omega)]; rfl)), hw.fr _ zm0⟩
                  · refine zi (zk (zr (zf fa54_3 rfl (zL 0 z4 rfl rfl rfl (aB rfl (zn (zO (zk (zq (yA (mI rfl (zg (fun _ => R_eq rfl rfl) (yB (zG (congrArg Value.bool (decide_eq_false (by decide))) (zi (zk (yA (mI rfl (mB rfl (zg (fun _ => R_build bt58 rfl) (zC (fun w => zR Tryz.func34 rfl rfl rfl) rfl rfl (fun w h => rnone_ok w) (zV 2 rfl z58 e4_1 rfl rfl rfl rfl rfl rfl (zV 1 rfl z37 e5_1 rfl rfl rfl rfl rfl rfl (yB (ze (r_fin (.inl rfl) rfl (.agg rfl e4_1 z58 (fun _ h => h.at_ 2 rfl) rfl (.agg rfl e5_1 z37 (fun _ h => h.at_ 1 rfl) rfl .nil)) ?_)))))))))))))))))))))))))); exact fun w' hw => ⟨by clear hw; (rw [outK_ok hG5]; (rw [if_neg (by omega)]; rfl)), hw.fr _ zm0⟩
    · refine zf fa52_0 e2_1 (zL 2 z5 rfl rfl rfl (yB (zB (yA (zg (fun _ => R_eq rfl rfl) (aB rfl (yB (zG (congrArg Value.bool (decide_eq_false (by decide))) (zq (yA (zg (fun _ => R_eq rfl rfl) (aB rfl (yB (zG (congrArg Value.bool (decide_eq_false (by decide))) (zr (zg (fun _ => R_eq rfl rfl) (aB rfl (yB (zG (congrArg Value.bool (decide_eq_false (by decide))) (yA (zg (fun _ => R_eq rfl rfl) (aB rfl (yB (zE (congrArg Value.bool (decide_eq_true (by decide))) (yA (zf fa52_2 e2_1 (zL 2 z9 rfl rfl rfl (mS e6_1 ?_))))))))))))))))))))))))))))
      rcases hc : rcall nm ts with _ | ct
      · refine zC (v := .tuple #[.int .u8 0, .bool false]) (fun w => zR Tryz.func73 rfl rfl rfl) rfl rfl (fun w h => by have := rcall_ok nm ts a c w (by omega) (fun j t ht => by obtain ⟨b, h1, h2⟩ := hO.cell (List.getElem?_eq_some_iff.1 ht).1; exact ⟨b, h1, h2 _ _ w (fun p hp => by simp [hp]) h j t ht⟩); rw [hc] at this; exact this) ?_
        have hG5 := hG4.trans (rcall_n hc)
        refine zm rfl (zg (fun _ => R_extract rfl rfl) (zg (fun _ => R_extract rfl rfl) (aI rfl (aB rfl (yB (zq (yA (mB rfl (zg (fun _ => R_not rfl) (yB (zE rfl (zq ?_)))))))))))); refine c_heldI [2] mixed ?_; refine zh2 0 rfl rfl (fun w h => (h).pick [2] (by decide)) (fun w h => R_build bt58 rfl) ?_; refine zh2 1 rfl rfl (fun w h => (h).pick [2] (by decide)) (fun w h => R_fa fa52_1 e2_1) ?_; refine zh (v := .int _ _) 2 rfl (by kernel_rfl) rfl rfl (fun w h => (h).pick [2] (by decide)) (fun w h => R_ld1 z3 rfl ((fun _ h => zc 0 rfl rfl h) w h)) ?_
        refine zh2 3 rfl rfl (fun w h => (h).pick [2] (by decide)) (fun w h => R_build bt37 rfl) ?_; refine zH2 4 (fun w h => (h).pick [2] (by decide)) ?_; refine zJ 1 rfl rfl z58 e4_1 rfl rfl rfl rfl rfl rfl ?_; refine zH2 5 (fun w h => (h).pick [2] (by decide)) ?_; refine zJ 0 rfl rfl z37 e5_1 rfl rfl rfl rfl rfl rfl ?_; refine zN2 (fun w h => (h).pick [2] (by decide)) ?_; refine zk (ze (zt (zb (zt (?_)))))
        refine r_fin (.inl rfl) rfl (.agg rfl e4_1 z58 (fun _ h => h.at_ 1 rfl) rfl (.agg rfl e5_1 z37 (fun _ h => h.at_ 0 rfl) rfl .nil)) ?_; exact fun w' hw => ⟨by clear hw; (rw [outK_er hG5]; rfl), hw.fr _ zm0⟩
      · refine zC (v := .tuple #[.int .u8 (ct : Nat), .bool true]) (fun w => zR Tryz.func73 rfl rfl rfl) rfl rfl (fun w h => by have := rcall_ok nm ts a c w (by omega) (fun j t ht => by obtain ⟨b, h1, h2⟩ := hO.cell (List.getElem?_eq_some_iff.1 ht).1; exact ⟨b, h1, h2 _ _ w (fun p hp => by simp [hp]) h j t ht⟩); rw [hc] at this; exact this) ?_
        have hG5 := hG4.trans (rcall_s htk hc)
        refine zm rfl (zg (fun _ => R_extract rfl rfl) (zg (fun _ => R_extract rfl rfl) (aI rfl (aB rfl (yB (zq (yA (mB rfl (zg (fun _ => R_not rfl) (yB (zG rfl (zi (zk (yA (mI rfl (aI rfl (yC (zf fa52_2 e2_1 (zL 2 z9 rfl rfl rfl (zg (fun _ => R_seq rfl rfl) (yB ?_))))))))))))))))))))); refine zD rfl (fun h23 => ?_) (fun h23 => ?_)
        · refine zr (aB rfl (zn (zO (zk (zq (yA (mI rfl (zg (fun _ => R_eq rfl rfl) (yB ?_))))))))); refine zD rfl (fun h24 => ?_) (fun h24 => ?_)
          · refine zq ?_; refine c_heldI [2] mixed ?_; refine zh2 0 rfl rfl (fun w h => (h).pick [2] (by decide)) (fun w h => R_build bt58 rfl) ?_; refine zh2 1 rfl rfl (fun w h => (h).pick [2] (by decide)) (fun w h => R_fa fa52_1 e2_1) ?_; refine zh (v := .int _ _) 2 rfl (by kernel_rfl) rfl rfl (fun w h => (h).pick [2] (by decide)) (fun w h => R_ld1 z3 rfl ((fun _ h => zc 0 rfl rfl h) w h)) ?_; refine zh2 3 rfl rfl (fun w h => (h).pick [2] (by decide)) (fun w h => R_build bt37 rfl) ?_; refine zH2 4 (fun w h => (h).pick [2] (by decide)) ?_; refine zJ 1 rfl rfl z58 e4_1 rfl rfl rfl rfl rfl rfl ?_; refine zH2 5 (fun w h => (h).pick [2] (by decide)) ?_; refine zJ 0 rfl rfl z37 e5_1 rfl rfl rfl rfl rfl rfl ?_
            refine zN2 (fun w h => (h).pick [2] (by decide)) ?_; refine zk (ze (zt (?_)))
            refine r_fin (.inl rfl) rfl (.agg rfl e4_1 z58 (fun _ h => h.at_ 1 rfl) rfl (.agg rfl e5_1 z37 (fun _ h => h.at_ 0 rfl) rfl .nil)) ?_; exact fun w' hw => ⟨by clear hw; (rw [outK_er (hG5.trans (needT_0 (by omega)))]; rfl), hw.fr _ zm0⟩
          · refine zi (zk (yA (mI rfl (mB rfl (zg (fun _ => R_build bt58 rfl) (zC (fun w => zR Tryz.func34 rfl rfl rfl) rfl rfl (fun w h => rnone_ok w) (zV 1 rfl z58 e4_1 rfl rfl rfl rfl rfl rfl (zV 0 rfl z37 e5_1 rfl rfl rfl rfl rfl rfl (yB (ze (r_fin (.inl rfl) rfl (.agg rfl e4_1 z58 (fun _ h => h.at_ 1 rfl) rfl (.agg rfl e5_1 z37 (fun _ h => h.at_ 0 rfl) rfl .nil)) ?_))))))))))); exact fun w' hw => ⟨by clear hw; (rw [outK_ok (hG5.trans (needT_1 (by omega)))]; (rw [if_pos (by assumption)]; rfl)), hw.fr _ zm0⟩
        · refine zi (zO (zk (zq (yA (mI rfl (zg (fun _ => R_eq rfl rfl) (yB ?_))))))); refine zD rfl (fun h25 => ?_) (fun h25 => ?_)
          · refine zq ?_; refine c_heldI [2] mixed ?_; refine zh2 0 rfl rfl (fun w h => (h).pick [2] (by decide)) (fun w h => R_build bt58 rfl) ?_; refine zh2 1 rfl rfl (fun w h => (h).pick [2] (by decide)) (fun w h => R_fa fa52_1 e2_1) ?_; refine zh (v := .int _ _) 2 rfl (by kernel_rfl) rfl rfl (fun w h => (h).pick [2] (by decide)) (fun w h => R_ld1 z3 rfl ((fun _ h => zc 0 rfl rfl h) w h)) ?_; refine zh2 3 rfl rfl (fun w h => (h).pick [2] (by decide)) (fun w h => R_build bt37 rfl) ?_; refine zH2 4 (fun w h => (h).pick [2] (by decide)) ?_; refine zJ 1 rfl rfl z58 e4_1 rfl rfl rfl rfl rfl rfl ?_; refine zH2 5 (fun w h => (h).pick [2] (by decide)) ?_; refine zJ 0 rfl rfl z37 e5_1 rfl rfl rfl rfl rfl rfl ?_
            refine zN2 (fun w h => (h).pick [2] (by decide)) ?_; refine zk (ze (zt (?_)))
            refine r_fin (.inl rfl) rfl (.agg rfl e4_1 z58 (fun _ h => h.at_ 1 rfl) rfl (.agg rfl e5_1 z37 (fun _ h => h.at_ 0 rfl) rfl .nil)) ?_; exact fun w' hw => ⟨by clear hw; (rw [outK_er (hG5.trans (needT_0 (by omega)))]; rfl), hw.fr _ zm0⟩
          · refine zi (zk (yA (mI rfl (mB e7_1 (zg (fun _ => R_build bt58 rfl) (zC (fun w => zR Tryz.func34 rfl rfl rfl) rfl rfl (fun w h => rnone_ok w) (zV 1 rfl z58 e4_1 rfl rfl rfl rfl rfl rfl (zV 0 rfl z37 e5_1 rfl rfl rfl rfl rfl rfl (yB (ze (r_fin (.inl rfl) rfl (.agg rfl e4_1 z58 (fun _ h => h.at_ 1 rfl) rfl (.agg rfl e5_1 z37 (fun _ h => h.at_ 0 rfl) rfl .nil)) ?_))))))))))); exact fun w' hw => ⟨by clear hw; (rw [outK_ok (hG5.trans (needT_1 (by omega)))]; (rw [if_neg (by assumption)]; rfl)), hw.fr _ zm0⟩
    · have htk2 : ks.length = 1 := op5_len ho1; obtain ⟨tb, rfl, hct⟩ := hO.cell (i := 0) (by have := op5_len ho1; omega)
      refine zf fa52_0 e2_1 (zL 2 z5 rfl rfl rfl (yB (zB (yA (zg (fun _ => R_eq rfl rfl) (aB rfl (yB (zG (congrArg Value.bool (decide_eq_false (by decide))) (zq (yA (zg (fun _ => R_eq rfl rfl) (aB rfl (yB (zG (congrArg Value.bool (decide_eq_false (by decide))) (zr (zg (fun _ => R_eq rfl rfl) (aB rfl (yB (zG (congrArg Value.bool (decide_eq_false (by decide))) (yA (zg (fun _ => R_eq rfl rfl) (aB rfl (yB (zG (congrArg Value.bool (decide_eq_false (by decide))) (yA (zg (fun _ => R_eq rfl rfl) (aB rfl (yB (zE (congrArg Value.bool (decide_eq_true (by decide))) (yA (mS e6_1 (zg (fun _ => R_iaN (i := 0) sl115 rfl rfl (by omega)) ?_)))))))))))))))))))))))))))))))); refine zl (v := .int .u8 (ts.getD 0 0 : Nat)) z5 rfl (fun w h => (by have := hct _ _ w (fun p hp => by simp [hp]) h 0 _ (at_get (by omega)); rw [show 0 + 0 * 1 = 0 from rfl]; exact this)) ?_; refine zg (fun _ => R_le rfl rfl) (yB ?_); refine zD rfl (fun h26 => ?_) (fun h26 => ?_)
      · refine zr (mS e6_1 (zg (fun _ => R_iaN (i := 0) sl115 rfl rfl (by omega)) ?_)); refine zl (v := .int .u8 (ts.getD 0 0 : Nat)) z5 rfl (fun w h => (by have := hct _ _ w (fun p hp => by simp [hp]) h 0 _ (at_get (by omega)); rw [show 0 + 0 * 1 = 0 from rfl]; exact this)) ?_; refine aI rfl (zn (zO (zk (zq (yA (mI rfl (zg (fun _ => R_eq rfl rfl) (yB ?_)))))))); refine zD rfl (fun h27 => ?_) (fun h27 => ?_)
        · refine zq ?_; refine c_heldI [2] mixed ?_; refine zh2 0 rfl rfl (fun w h => (h).pick [2] (by decide)) (fun w h => R_build bt58 rfl) ?_; refine zh2 1 rfl rfl (fun w h => (h).pick [2] (by decide)) (fun w h => R_fa fa52_1 e2_1) ?_; refine zh (v := .int _ _) 2 rfl (by kernel_rfl) rfl rfl (fun w h => (h).pick [2] (by decide)) (fun w h => R_ld1 z3 rfl ((fun _ h => zc 0 rfl rfl h) w h)) ?_; refine zh2 3 rfl rfl (fun w h => (h).pick [2] (by decide)) (fun w h => R_build bt37 rfl) ?_; refine zH2 4 (fun w h => (h).pick [2] (by decide)) ?_; refine zJ 1 rfl rfl z58 e4_1 rfl rfl rfl rfl rfl rfl ?_; refine zH2 5 (fun w h => (h).pick [2] (by decide)) ?_; refine zJ 0 rfl rfl z37 e5_1 rfl rfl rfl rfl rfl rfl ?_
          refine zN2 (fun w h => (h).pick [2] (by decide)) ?_; refine zk (ze (zt (?_)))
          refine r_fin (.inl rfl) rfl (.agg rfl e4_1 z58 (fun _ h => h.at_ 1 rfl) rfl (.agg rfl e5_1 z37 (fun _ h => h.at_ 0 rfl) rfl .nil)) ?_; exact fun w' hw => ⟨by clear hw; (rw [outK_er (hG4.trans (rule_5'.trans (needT_0 (by (rw [if_pos (by omega)]; omega)))))]; rfl), hw.fr _ zm0⟩
        · refine zi (zk (yA (mI rfl (mB e7_1 (zg (fun _ => R_build bt58 rfl) (zC (fun w => zR Tryz.func34 rfl rfl rfl) rfl rfl (fun w h => rnone_ok w) (zV 1 rfl z58 e4_1 rfl rfl rfl rfl rfl rfl (zV 0 rfl z37 e5_1 rfl rfl rfl rfl rfl rfl (yB (ze (r_fin (.inl rfl) rfl (.agg rfl e4_1 z58 (fun _ h => h.at_ 1 rfl) rfl (.agg rfl e5_1 z37 (fun _ h => h.at_ 0 rfl) rfl .nil)) ?_))))))))))); exact fun w' hw => ⟨by clear hw; (rw [outK_ok (hG4.trans (rule_5'.trans (needT_1 (by (rw [if_pos (by omega)]; omega)))))]; (rw [if_pos (by omega)]; rfl)), hw.fr _ zm0⟩
      · refine zi (zO (zk (zq (yA (mI rfl (zg (fun _ => R_eq rfl rfl) (yB (zE (congrArg Value.bool (decide_eq_true (by decide))) (zq ?_))))))))); refine c_heldI [2] mixed ?_; refine zh2 0 rfl rfl (fun w h => (h).pick [2] (by decide)) (fun w h => R_build bt58 rfl) ?_; refine zh2 1 rfl rfl (fun w h => (h).pick [2] (by decide)) (fun w h => R_fa fa52_1 e2_1) ?_; refine zh (v := .int _ _) 2 rfl (by kernel_rfl) rfl rfl (fun w h => (h).pick [2] (by decide)) (fun w h => R_ld1 z3 rfl ((fun _ h => zc 0 rfl rfl h) w h)) ?_; refine zh2 3 rfl rfl (fun w h => (h).pick [2] (by decide)) (fun w h => R_build bt37 rfl) ?_
        refine zH2 4 (fun w h => (h).pick [2] (by decide)) ?_; refine zJ 1 rfl rfl z58 e4_1 rfl rfl rfl rfl rfl rfl ?_; refine zH2 5 (fun w h => (h).pick [2] (by decide)) ?_; refine zJ 0 rfl rfl z37 e5_1 rfl rfl rfl rfl rfl rfl ?_; refine zN2 (fun w h => (h).pick [2] (by decide)) ?_; refine zk (ze (zt (?_)))
        refine r_fin (.inl rfl) rfl (.agg rfl e4_1 z58 (fun _ h => h.at_ 1 rfl) rfl (.agg rfl e5_1 z37 (fun _ h => h.at_ 0 rfl) rfl .nil)) ?_; exact fun w' hw => ⟨by clear hw; (rw [outK_er (hG4.trans (rule_5'.trans (needT_0 (by (rw [if_neg (by omega)])))))]; rfl), hw.fr _ zm0⟩
    · have htk2 : ks.length = 2 := op6_len hop ho1; obtain ⟨tb, rfl, hct⟩ := hO.cell (i := 0) (by omega)
      refine zf fa52_0 e2_1 (zL 2 z5 rfl rfl rfl (yB (zB (yA (zg (fun _ => R_eq rfl rfl) (aB rfl (yB ?_))))))); refine zD rfl (fun h28 => ?_) (fun h28 => ?_)
      · exfalso; omega
      · refine zq (yA (zg (fun _ => R_eq rfl rfl) (aB rfl (yB ?_)))); refine zD rfl (fun h29 => ?_) (fun h29 => ?_)
        · exfalso; omega
        · refine zr (zg (fun _ => R_eq rfl rfl) (aB rfl (yB ?_))); refine zD rfl (fun h30 => ?_) (fun h30 => ?_)
          · exfalso; omega
          · refine yA (zg (fun _ => R_eq rfl rfl) (aB rfl (yB ?_))); refine zD rfl (fun h31 => ?_) (fun h31 => ?_)
            · exfalso; omega
            · refine yA (zg (fun _ => R_eq rfl rfl) (aB rfl (yB ?_))); refine zD rfl (fun h32 => ?_) (fun h32 => ?_)
              · exfalso; omega
              · refine c_heldS mixed ?_; refine zh2 0 rfl rfl (fun w h => h) (fun w h => R_fa fa52_0 e2_1) ?_; refine zh (v := .int _ _) 1 rfl (by kernel_rfl) rfl rfl (fun w h => h) (fun w h => R_ld1 z5 rfl ((fun _ h => zc 2 rfl rfl h) w h)) ?_; refine zh (v := .slice _ _ _) 2 rfl (by kernel_rfl) rfl rfl (fun w h => h) (fun w h => R_move e6_1) ?_; refine zh2 3 rfl rfl (fun w h => h) (fun w h => R_iaN (i := 0) sl115 rfl rfl (by omega)) ?_; refine zh (v := .int .u8 (ts.getD 0 0 : Nat)) 4 rfl (by kernel_rfl) rfl rfl (fun w h => h) (fun w h => R_ld1 z5 rfl (by have := hct _ _ w (fun p hp => by simp [hp]) h 0 _ (at_get (by omega)); rw [show 0 + 0 * 1 = 0 from rfl]; exact this)) ?_; refine zh (v := .slice _ _ _) 5 rfl (by kernel_rfl) rfl rfl (fun w h => h) (fun w h => R_move e6_1) ?_
                refine zh2 6 rfl rfl (fun w h => h) (fun w h => R_iaN (i := 1) sl115 rfl rfl (by omega)) ?_; refine zh (v := .int .u8 (ts.getD 1 0 : Nat)) 7 rfl (by kernel_rfl) rfl rfl (fun w h => h) (fun w h => R_ld1 z5 rfl (by have := hct _ _ w (fun p hp => by simp [hp]) h 1 _ (at_get (by omega)); rw [show 0 + 1 * 1 = 1 from rfl]; exact this)) ?_; refine zH2 8 (fun w h => h) ?_; refine o_pureW rfl (wn_none rfl) rfl (fun w => zR Tryz.func74 rfl rfl rfl) (fun w h => rtwo_ok op (ts.getD 0 0) (ts.getD 1 0) hop w) ?_; refine zh (v := .int _ _) 9 rfl (by kernel_rfl) rfl rfl (fun w h => h) (fun w h => R_assign rfl) ?_; refine zN2 (fun w h => h) ?_; refine zO (zk (zq (yA (mI rfl (zg (fun _ => R_eq rfl rfl) (zn ?_))))))
                refine zk ?_; refine zD rfl (fun h33 => ?_) (fun h33 => ?_)
                · refine zq ?_; refine c_heldI [2] mixed ?_; refine zh2 0 rfl rfl (fun w h => (h).pick [2] (by decide)) (fun w h => R_build bt58 rfl) ?_; refine zh2 1 rfl rfl (fun w h => (h).pick [2] (by decide)) (fun w h => R_fa fa52_1 e2_1) ?_; refine zh (v := .int _ _) 2 rfl (by kernel_rfl) rfl rfl (fun w h => (h).pick [2] (by decide)) (fun w h => R_ld1 z3 rfl ((fun _ h => zc 0 rfl rfl h) w h)) ?_; refine zh2 3 rfl rfl (fun w h => (h).pick [2] (by decide)) (fun w h => R_build bt37 rfl) ?_; refine zH2 4 (fun w h => (h).pick [2] (by decide)) ?_; refine zJ 1 rfl rfl z58 e4_1 rfl rfl rfl rfl rfl rfl ?_; refine zH2 5 (fun w h => (h).pick [2] (by decide)) ?_; refine zJ 0 rfl rfl z37 e5_1 rfl rfl rfl rfl rfl rfl ?_
                  refine zN2 (fun w h => (h).pick [2] (by decide)) ?_; refine zk (ze (zt (?_)))
                  refine r_fin (.inl rfl) rfl (.agg rfl e4_1 z58 (fun _ h => h.at_ 1 rfl) rfl (.agg rfl e5_1 z37 (fun _ h => h.at_ 0 rfl) rfl .nil)) ?_; exact fun w' hw => ⟨by clear hw; (rw [outK_er (hG4.trans ((rule_6' hop).trans (needT_0 (by omega))))]; rfl), hw.fr _ zm0⟩
                · refine zi (zk (yA (mI rfl (mB e7_1 (zg (fun _ => R_build bt58 rfl) (zC (fun w => zR Tryz.func34 rfl rfl rfl) rfl rfl (fun w h => rnone_ok w) (zV 1 rfl z58 e4_1 rfl rfl rfl rfl rfl rfl (zV 0 rfl z37 e5_1 rfl rfl rfl rfl rfl rfl (yB (ze (r_fin (.inl rfl) rfl (.agg rfl e4_1 z58 (fun _ h => h.at_ 1 rfl) rfl (.agg rfl e5_1 z37 (fun _ h => h.at_ 0 rfl) rfl .nil)) ?_))))))))))); exact fun w' hw => ⟨by clear hw; (rw [outK_ok (hG4.trans ((rule_6' hop).trans (needT_1 (by omega))))]; rfl), hw.fr _ zm0⟩

theorem rof_all : ∀ n : Nat, n ≤ 10000000 → ROfH n
  | 0, _ => fun _ _ _ _ _ _ h => absurd h (Nat.not_lt_zero _)
  | n + 1, h => rof_step n (rof_all n (by omega)) (by omega)
theorem rof_ok : ROfH 10000000 := rof_all _ (Nat.le_refl _)
end Go.Proofs.YtoehjlmdnajibaaGreatDoor
end

section
namespace Go.Knd
open Go.Tok Go.Tree
def szS : Str := [115, 105, 122, 101]
def parS (l : List Vr) (nm : Str) : Bool := l.any fun v => decide (v.nm = nm) && v.par
mutual
def hangsK (l : List Vr) : Ex → Bool
  | .mk op _ nm ks => ((decide (op = 2) || decide (op = 3)) && parS l nm) || (!(decide (op = 4) && decide (nm = szS)) && hangsS l ks)
def hangsS (l : List Vr) : List Ex → Bool
  | [] => false
  | e :: r => hangsK l e || hangsS l r
end
mutual
def placesK (l : List Vr) : Ex → Bool
  | .mk op _ _ ks => !(decide (op = 3) && hangsS l ks) && placesS l ks
def placesS (l : List Vr) : List Ex → Bool
  | [] => true
  | e :: r => placesK l e && placesS l r
end
def uniq (l : List Vr) : Prop := ∀ v ∈ l, ∀ u ∈ l, v.nm = u.nm → v = u
theorem need_ok {t : Nat} {a : Int} {p : Bool} {k : Nat × Bool} (h : needT t a p = .ok k) : k.2 = p := by
  unfold needT at h
  split at h
  · cases h
  · cases h; rfl
section
variable {l s : List Vr}
end
end Go.Knd
end

section
namespace Go.Tree
def tb (ts : List Str) : Nat := (ts.map fun s => s.length + 1).sum
def pgW (p : List Bk) : Nat := (p.map bkW).sum
def sp (s : Str) : Str := s ++ (if brk s then [10] else [32])
def setIs (p : List Bk) (i : Nat) (b : Bk) : List Bk := p.set i { b with is := true }
end Go.Tree
end

section
namespace Go.Tree
open Go.Tok
mutual
def exZ : Ex → Ex
  | .mk o _ n k => .mk o 0 n (exsZ k)
def exsZ : List Ex → List Ex
  | [] => []
  | e :: l => exZ e :: exsZ l
end
abbrev PR := Option (Ex × List Str)
mutual
def pSum : Nat → List Str → PR
  | 0, _ => none
  | f + 1, ts => match pProd f ts with | some (e, r) => sumL f e r | none => none
def sumL : Nat → Ex → List Str → PR
  | 0, _, _ => none
  | f + 1, e, ts =>
    if ts.head? = some [43] then (match pProd f ts.tail with | some (k, r) => sumL f (.mk 6 0 [] [e, k]) r | none => none)
    else if ts.head? = some [45] then (match pProd f ts.tail with | some (k, r) => sumL f (.mk 7 0 [] [e, k]) r | none => none)
    else some (e, ts)
def pProd : Nat → List Str → PR
  | 0, _ => none
  | f + 1, ts => match pSign f ts with | some (e, r) => prodL f e r | none => none
def prodL : Nat → Ex → List Str → PR
  | 0, _, _ => none
  | f + 1, e, ts =>
    if ts.head? = some [42] then (match pSign f ts.tail with | some (k, r) => prodL f (.mk 8 0 [] [e, k]) r | none => none)
    else if ts.head? = some [47] then (match pSign f ts.tail with | some (k, r) => prodL f (.mk 9 0 [] [e, k]) r | none => none)
    else some (e, ts)
def pSign : Nat → List Str → PR
  | 0, _ => none
  | f + 1, ts => match ts with
    | [] => none
    | t :: r =>
      if t = [45] then (match pSign f r with | some (k, r) => some (.mk 5 0 [] [k], r) | none => none)
      else if t = [40] then (match pSum f r with | some (e, r) => if r.head? = some [41] then some (e, r.tail) else none | none => none)
      else if oneB 2 t then some (.mk 1 0 t [], r)
      else if r.head? = some [91] then (match pSum f r.tail with | some (e, r) => if r.head? = some [93] then some (.mk 3 0 t [e], r.tail) else none | none => none)
      else if r.head? = some [40] then (if r.tail.head? = some [41] then some (.mk 4 0 t [], r.tail.tail) else match pSum f r.tail with | some (e, r) => argL f t [e] r | none => none)
      else some (.mk 2 0 t [], r)
def argL : Nat → Str → List Ex → List Str → PR
  | 0, _, _, _ => none
  | f + 1, t, l, ts =>
    if ts.head? = some [44] then (match pSum f ts.tail with | some (e, r) => argL f t (l ++ [e]) r | none => none)
    else if ts.head? = some [41] then some (.mk 4 0 t l, ts.tail)
    else none
end
def nb (r : List Str) : Prop := r.head? ≠ some [91] ∧ r.head? ≠ some [40]
def nm8 (r : List Str) : Prop := nb r ∧ r.head? ≠ some [42] ∧ r.head? ≠ some [47]
def nm6 (r : List Str) : Prop := nm8 r ∧ r.head? ≠ some [43] ∧ r.head? ≠ some [45]
def K (e : Ex) : Nat := 8 * exW e
def SgP (e : Ex) : Prop := ∀ f r, K e ≤ f + 4 → nb r → pSign f (exT e ++ r) = some (exZ e, r)
def PdP (e : Ex) : Prop := ∀ f r, K e ≤ f + 2 → nb r → ∃ g, f + 4 ≤ g + K e ∧ pProd f (exT e ++ r) = prodL g (exZ e) r
def SuP (e : Ex) : Prop := ∀ f r, K e ≤ f → nm8 r → ∃ g, f + 2 ≤ g + K e ∧ pSum f (exT e ++ r) = sumL g (exZ e) r
end Go.Tree
namespace Go.Tree
open Go.Tok
end Go.Tree
end

section
namespace Go.Tok
end Go.Tok
end

section
namespace Go.Tok
inductive Chain (s : List UInt8) : Nat → List Tk → Prop
  | nil (i : Nat) : Chain s i []
  | cons {i e kd : Nat} {ts : List Tk} : i ≤ s.length → skipTo s i < s.length → tokAt s (skipTo s i) = (kd, e, true) → Chain s e ts → Chain s i ((kd, tokTx s (skipTo s i), skipTo s i) :: ts)
def Bl (R : List UInt8) : Prop := R = [] ∨ ∃ r, R = 32 :: r
end Go.Tok
end

section
namespace Go.Tok
end Go.Tok
end

section
namespace Go.Tok
end Go.Tok
end

section
namespace Go.Tok
def Jn (ts : List Tk) : List UInt8 := ts.flatMap fun t => 32 :: t.2.1
def kt (t : Tk) : Nat × List UInt8 := (t.1, t.2.1)
def Good (t : Tk) : Prop := ∃ s k e, k ≤ s.length ∧ tokAt s k = (t.1, e, true) ∧ t.2.1 = (s.drop k).take (e - k)
end Go.Tok
end

section
namespace Go.Tok.W
open Go.Tok
def Bl (R : List UInt8) : Prop := R = [] ∨ ∃ c r, (c = 32 ∨ c = 10) ∧ R = c :: r
def Sp (xs : List (Tk × UInt8)) : List UInt8 := xs.flatMap fun t => t.1.2.1 ++ [t.2]
def isSp (c : UInt8) : Prop := c = 32 ∨ c = 10
end Go.Tok.W
end

section
namespace Go.Tree
open Go.Tok Go.Tok.W
def Tk1 (s : Str) : Prop := ∃ kd, Go.Tok.Good (kd, s, 0)
def Tks (l : List Str) : Prop := ∀ s ∈ l, Tk1 s
end Go.Tree
end

section
namespace Go.Tree
open Go.Tok Go.Tok.W
def exHd (h : Str) : Bool := decide (h = [45]) || (decide (h = [40]) || (oneB 2 h || nameOk h))
def hdK (h : Str) : Nat :=
  if h = [116, 97, 114, 103, 101, 116] then 2 else if h = [102, 111, 114] then 4 else if h = [105, 102] then 5 else if h = [123] then 6
  else if h = [125] then 7 else if h = [101, 108, 115, 101] then 8 else if h = [97, 114, 114, 97, 121] then 9 else if h = [105, 110, 116] then 10
  else if h = [114, 101, 97, 108] then 11 else if h = [118, 101, 99, 116, 111, 114] then 12 else if h = [60] then 13 else if h = [91] then 14 else 0
def hk : List Str → Nat
  | [] => 99
  | h :: _ => hdK h
end Go.Tree
namespace Go.Tree
open Go.Tok Go.Tok.W
def kS (op : Nat) : Nat := if op = 1 ∨ op = 3 then 0 else op
def elT (e : List Sm) : List Str := if 0 < e.length then [101, 108, 115, 101] :: [123] :: ((smsT e).flatten ++ [[125]]) else []
section
variable (a : Int) (nm : Str) (x y : Ex) (l : List Ex) (b e : List Sm) (r : List Str)
end
end Go.Tree
end

section
namespace Go.Tree
open Go.Tok Go.Tok.W
def bT (lo up : List Ex) : List Str := if lo.length + up.length = 0 then [] else [[60]] ++ ldT lowW lo ++ (if lo.length + up.length = 2 then [[44]] else []) ++ ldT upW up ++ [[62]]
section
variable (x y : Ex) (X : List Str)
end
def iT (i : List Ex) (r : List Str) : List Str := ldT [[61]] i ++ [59] :: r
def scT (d : Dc) (r : List Str) : List Str := bT d.lower d.upper ++ d.nm :: iT d.init r
end Go.Tree
end

section
namespace Go.Tree
open Go.Tok Go.Tok.W
def nhd (i : Nat) (r : List Str) : Prop := r.take 2 ≠ (headW i ++ [[123]]).take 2
theorem six {p : List Bk} (h : p.length = 6) : ∃ a b c d e f, p = [a, b, c, d, e, f] := by
  match p, h with
  | [a, b, c, d, e, f], _ => exact ⟨a, b, c, d, e, f, rfl⟩
def moveS (at_ : Int) : Sm → Sm
  | .mk o _ n k b e => .mk o at_ n k b e
def moveB (at_ : Int) (b : Bk) : Bk := { b with stmts := b.stmts.map (moveS at_) }
end Go.Tree
end

section
namespace Go.Knd
open Go.Tok Go.Tree
def countB (op n k : Nat) : Bool := decide (op = 4) || decide (op = 5) || (decide (op = 1) && decide (k = 0) && decide (n = 2))
def kidsC (s : List Vr) (op n : Nat) : Nat → List Ex → Bool
  | _, [] => true
  | k, x :: r => !(countB op n k && hangsK s x) && placesK s x && kidsC s op n (k + 1) r
mutual
def chosenS (s : List Vr) : Sm → Bool
  | .mk op _ _ ks b e => kidsC s op ks.length 0 ks && (chosenK s b && chosenK s e)
def chosenK (s : List Vr) : List Sm → Bool
  | [] => true
  | x :: r => chosenS s x && chosenK s r
end
section
variable {l s : List Vr}
end
end Go.Knd
end

section
namespace Go.Knd
open Go.Tok Go.Tree
def noB : Bk := ⟨false, [], []⟩
def cutB (d s : Nat) (b : Bk) : Bk := ⟨b.is, b.decls.take d, b.stmts.take s⟩
def cutP (n d s : Nat) : List Bk → List Bk
  | [] => []
  | b :: r => match n with
    | 0 => cutB d s b :: List.replicate r.length noB
    | n + 1 => b :: cutP n d s r
end Go.Knd
end

section
namespace Go.Knd
open Go.Tok Go.Tree
def Bad {α : Type} (X : Except Ft α) : Prop := ∀ f, X = .error f → f.1 ≠ 0
end Go.Knd
end

section
namespace Go.Proofs.YtoehjlmdnajibaaGreatDoor
open Go.RowKit Go.Sx
open Go.Tok Go.Tree Go.Knd

def ftU (X : Except Ft Unit) : Ft := match X with | .ok _ => (0, 0) | .error f => f
def RghH (n : Nat) : Prop := ∀ (x : Ex) (cs : List Value) (w : World), exW x < n → exM w (fun _ => True) x cs → Ret Tryz.prog 51 #[.agg cs.toArray] w fun v w' => v = .agg (ftC (ftU (smoothK x))).toArray ∧ Ext w w'
end Go.Proofs.YtoehjlmdnajibaaGreatDoor
end

section
namespace Go.Proofs.YtoehjlmdnajibaaGreatDoor
open Go.RowKit Go.Sx
open Go.Tok Go.Tree Go.Knd

end Go.Proofs.YtoehjlmdnajibaaGreatDoor
end

section
namespace Go.Knd
open Go.Tok Go.Tree
section
variable {block : Nat} {l : List Vr} {at_ : Int} {nm : Str} {ks : List Ex} {b e : List Sm} {x y : Ex}
end
end Go.Knd
end

section
namespace Go.Knd
open Go.Tok Go.Tree
def tyOk (l : List Vr) : Prop := ∀ v ∈ l, 1 ≤ v.ty ∧ v.ty ≤ 5
theorem tyOk.nil : tyOk [] := fun _ h => by simp at h
theorem tyOk.snoc {l : List Vr} {v : Vr} (h : tyOk l) (h1 : 1 ≤ v.ty) (h2 : v.ty ≤ 5) : tyOk (l ++ [v]) := fun x hx => by
  rcases List.mem_append.1 hx with hx | hx
  · exact h x hx
  · obtain rfl := List.mem_singleton.1 hx; exact ⟨h1, h2⟩
end Go.Knd
end

section
namespace Go.Sx
open Go.RowKit Go.Tree Go.Tok Go.Knd
section
variable {P : Program} {c : Cf} {e : Env} {B : Base} {L : Heap} {rest : List Oper} {d : Nat} {ρ : Operand → Value} {D : Option Tmp} {g : Option (Nat × Bool)} {x y : Operand} {T : TypeId} {p : String} {ed : Array Edge} {t : Nat} {w : World}
end
section
variable {P : Program} {t : TypeId} {w : World}
theorem eq_bool_run {d : Nat} {a b : Bool} (h : P.underlying t = some .bool) : (Op.equalIn (d + 1) t (.bool a) (.bool b)).run P w = .ok (decide (a = b)) w := by
  rw [run_equalIn_bool' w d t a b h]; by_cases hx : a = b <;> simp [hx]
theorem eqK_run {t1 t2 : TypeId} {a c : Nat} {b d : Bool} {n : Nat} (hS : flatS P t [(t1, 0), (t2, 1)]) (z1 : szB P t1 1 false = true) (z2 : szB P t2 1 false = true) (u1 : P.underlying t1 = some (.int .u8)) (u2 : P.underlying t2 = some .bool) :
    (Op.equalIn (n + 2) t (.agg #[.int .u8 (a : Nat), .bool b]) (.agg #[.int .u8 (c : Nat), .bool d])).run P w = .ok (decide ((a, b) = (c, d))) w := by
  rw [run_equalIn_agg w (n + 1) t _ _ hS.u hS.s]
  have hf := hS.f
  generalize (P.fieldsOf t).toList = fs at hf
  obtain ⟨f1, fs1, rfl, h1, hf⟩ := List.map_eq_cons_iff.1 hf
  obtain ⟨f2, fs2, rfl, h2, hf⟩ := List.map_eq_cons_iff.1 hf
  obtain rfl := List.map_eq_nil_iff.1 hf
  have e : decide ((a, b) = (c, d)) = (decide ((a : Int) = (c : Int)) && (decide (b = d) && true)) := by rw [Bool.eq_iff_iff]; simp [Int.natCast_inj]
  rw [e]
  exact eqF_cons (xs := [.int .u8 (a : Nat), .bool b]) (ys := [.int .u8 (c : Nat), .bool d]) h1 z1 rfl rfl (eq_int_run u1) (eqF_cons h2 z2 rfl rfl (eq_bool_run u2) eqF_nil)
end
section
variable {P : Program} {ops : Array Oper} {Q : Exit → Act → World → Prop} {c : Cf} {e : Env} {B : Base} {L : Heap} {fuel d : Nat} {S : World → Prop} {listed : Array Bool} {v : Value}
end
theorem vrsV.take {w : World} {N : Nat → Prop} {l : List Vr} {b : Option Addr × Nat} (h : vrsV w N l b) (k : Nat) : vrsV w N (l.take k) b := by
  refine ⟨Nat.le_trans (by rw [List.length_take]; omega) h.1, fun j v hj => h.2 j v ?_⟩
  rw [List.getElem?_take] at hj
  split at hj
  · exact hj
  · cases hj
theorem smsM.take {w : World} {N : Nat → Prop} {a : Option Addr} : ∀ (l : List Sm) (i k : Nat), smsM w N l a i → smsM w N (l.take k) a i
  | _, i, 0, _ => by rw [List.take_zero]; unfold smsM; trivial
  | [], i, k + 1, _ => by rw [List.take_nil]; unfold smsM; trivial
  | x :: l, i, k + 1, h => by
    unfold smsM at h
    rw [List.take_succ_cons]
    unfold smsM
    exact ⟨h.1, smsM.take l _ k h.2⟩
theorem dcsM.take {w : World} {N : Nat → Prop} {a : Option Addr} {l : List Dc} (h : dcsM w N l a) (k : Nat) : dcsM w N (l.take k) a := fun j d hj => by
  rw [List.getElem?_take] at hj
  split at hj
  · exact h j d hj
  · cases hj
theorem put_ne {α : Type} {cs c : List α} {i j : Nat} (hl : cs.length = 18) (hc : c.length = 3) (hi : i < 6) (hj : j ≠ i) : ((cs.take (i * 3) ++ c ++ cs.drop (i * 3 + 3)).drop (j * 3)).take 3 = (cs.drop (j * 3)).take 3 := by
  have l1 : (cs.take (i * 3)).length = i * 3 := by rw [List.length_take]; omega
  refine List.ext_getElem? fun k => ?_
  rw [List.getElem?_take, List.getElem?_take, List.getElem?_drop, List.getElem?_drop]
  split
  · rename_i hk
    rw [List.append_assoc]
    by_cases h2 : j < i
    · rw [List.getElem?_append_left (by omega), List.getElem?_take, if_pos (by omega)]
    · rw [List.getElem?_append_right (by omega), List.getElem?_append_right (by omega), List.getElem?_drop, l1, hc]
      congr 1; omega
  · rfl
theorem pgM.put {w : World} {N : Nat → Prop} {p : List Bk} {cs c : List Value} {i : Nat} {b : Bk} (h : pgM w N p cs) (hi : i < 6) (hc : c.length = 3) (hb : bkM w N b c) : pgM w N (p.set i b) (cs.take (i * 3) ++ c ++ cs.drop (i * 3 + 3)) := by
  have h6 := h.six
  have hl := h.len
  have l1 : (cs.take (i * 3)).length = i * 3 := by rw [List.length_take]; omega
  refine ⟨by rw [List.length_set]; exact h6, by simp only [List.length_append, List.length_drop, l1, hc]; omega, fun j x hx => ?_⟩
  by_cases hj : j = i
  · subst hj
    rw [List.getElem?_set_self (by omega)] at hx
    obtain rfl := Option.some.inj hx
    rw [List.append_assoc, List.drop_append_of_le_length (by omega), List.drop_of_length_le (by omega), List.nil_append, List.take_append_of_le_length (by omega), List.take_of_length_le (by omega)]
    exact hb
  · rw [List.getElem?_set_ne (by omega)] at hx
    have h1 := h.one j x hx
    rw [put_ne hl hc hi hj]; exact h1
theorem pgM.cells {w : World} {N : Nat → Prop} {p : List Bk} {cs c : List Value} {i j : Nat} (_ : pgM w N p cs) (h : (cs.drop (i * 3)).take 3 = c) {v : Value} (hv : c[j]? = some v) : cs[i * 3 + j]? = some v := by
  subst h
  rw [List.getElem?_take] at hv
  split at hv
  · rwa [List.getElem?_drop] at hv
  · cases hv
end Go.Sx
end

section
namespace Go.Sx
open Go.RowKit Go.Tree Go.Tok Go.Knd
section
variable {P : Program} {ops : Array Oper} {Q : Exit → Act → World → Prop} {c : Cf} {e : Env} {B : Base} {L : Heap} {d : Nat} {x y : Operand} {T : TypeId} {p : String} {ed : Array Edge} {t te bytes : Nat} {z v : Value} {xs : List Value} {W : Heap} {q fuel : Nat} {S : World → Prop} {listed : Array Bool} {w0 : World}
end
section
variable {P : Program} {ops : Array Oper} {c : Cf} {Q : Exit → Act → World → Prop} {S : World → Prop} {fuel : Nat} {listed : Array Bool} {e : Env} {B B' : Base} {L L' : Heap}
end
end Go.Sx
end

section
namespace Go.Proofs.YtoehjlmdnajibaaGreatDoor
open Go.RowKit Go.Sx
open Go.Tok Go.Tree Go.Knd

def RStH (n : Nat) : Prop := ∀ (x : Sm) (cs : List Value) (vs : List Vr) (va : Option Addr) (vc block : Nat) (w : World), block ≤ 1000 → smW x < n → smOk x = true → smM w (fun _ => True) x cs → vrsV w (fun _ => True) vs (va, vc) → vs.length + smW x ≤ 79000000 → tyOk vs →
  Ret Tryz.prog 53 #[.agg cs.toArray, .int .i64 (block : Nat), .slice va vs.length vc] w fun v w' => v = .agg (ftC (ftU (stmtK block vs x))).toArray ∧ Ext w w'
def RSsH (n : Nat) : Prop := ∀ (l : List Sm) (a : Option Addr) (c : Nat) (vs : List Vr) (va : Option Addr) (vc block : Nat) (w : World), block ≤ 1000 → smsW l < n → smsOk l = true → l.length ≤ 10000000 → smsM w (fun _ => True) l a 0 → vrsV w (fun _ => True) vs (va, vc) → vs.length + smsW l ≤ 79000000 → tyOk vs →
  Ret Tryz.prog 33 #[.slice a l.length c, .int .i64 (block : Nat), .slice va vs.length vc] w fun v w' => v = .agg (ftC (ftU (stmtsK block vs l))).toArray ∧ Ext w w'

end Go.Proofs.YtoehjlmdnajibaaGreatDoor
end

section
namespace Go.Proofs.YtoehjlmdnajibaaGreatDoor
open Go.RowKit Go.Sx
open Go.Tok Go.Tree


def RNodesP (n : Nat) : Prop := ∀ (l : List Ex) (a : Option Addr) (c : Nat) (N : Nat → Prop) (w : World), exsW l < n → l.length ≤ 10000000 → exsM w N l a 0 →
    Ret Tryz.prog 37 #[.slice a l.length c] w fun v w' => v = .int .i64 (exsN l : Nat) ∧ Ext w w'
def RLongP (n : Nat) : Prop := ∀ (l : List Ex) (a : Option Addr) (c : Nat) (N : Nat → Prop) (w : World), exsW l < n → l.length ≤ 10000000 → exsM w N l a 0 →
    Ret Tryz.prog 29 #[.slice a l.length c] w fun v w' => v = .bool (exsLong l) ∧ Ext w w'

theorem rnodes_step (n : Nat) (ih : RNodesP n) (hN : n ≤ 10000000) (l : List Ex) (a : Option Addr) (c : Nat) (N : Nat → Prop) (w : World) (hl : exsW l < n + 1) (hll : l.length ≤ 10000000) (hm : exsM w N l a 0) :
    Ret Tryz.prog 37 #[.slice a l.length c] w (fun v w' => v = .int .i64 (exsN l : Nat) ∧ Ext w w') := by
  refine enter (S := No) (l := [_]) (L := []) 21 Tryz.func37 rfl rfl rfl (St.start w No) (yA (aI rfl (yC (aI rfl (yB (zq (yA (aI rfl (yB (zB (c_loop (fun m e B L => ∃ (k : Nat), e 0 = .slice a l.length c ∧ e 3 = .int .i64 (exsN (l.take k) : Nat) ∧ e 4 = .int .i64 (k : Nat) ∧ B = [(w, No)] ∧ L = [] ∧ k ≤ l.length ∧ m = l.length - k) _ ⟨0, rfl, rfl, rfl, rfl, rfl, Nat.zero_le _, rfl⟩ ?_)))))))))))
  rintro m e B L ⟨k, e0_1, e3_1, e4_1, rfl, rfl, hk, rfl⟩
  refine zq (yA (mI e4_1 (mS e0_1 (zg (fun _ => R_len sl47 rfl) (zg (fun _ => R_lt rfl rfl) (yB ?_)))))); refine zD rfl (fun h1 => ?_) (fun h1 => ?_)
  · have hlt : k < l.length := (by omega); obtain ⟨x, hxk⟩ : ∃ x, l[k]? = some x := ⟨_, List.getElem?_eq_getElem hlt⟩; obtain ⟨cs, hA, hE⟩ := hm.get0 hxk; have hxn := exsW_mem (List.mem_of_getElem? hxk); have hle := exsN_take l (k + 1); have hnx := exsN_next hxk; have hlN := exsN_le l; obtain ⟨b1, o1, rfl⟩ := hA.ptr; obtain ⟨op, at_, nm, ks⟩ := x; have hE2 := hE; unfold exM at hE2; obtain ⟨ka, kc, rfl, hkc, hks⟩ := hE2; have hxw := hxn; unfold exW at hxw; have hxN := hnx; unfold exN at hxN; have hkN := exsN_le ks
    refine zi (zk (zq (zB (zr (mI e3_1 (zg (fun _ => R_addi rfl rfl (by omega)) (mS e0_1 (mI e4_1 (zg (fun _ => R_iaN (i := k) sl47 rfl rfl (by omega)) (zf fa52_3 rfl (zl z47 rfl (fun _ h => hA.cell (fun _ _ hh => hh) zm0 h 3 _ rfl) (zC (fun w => zR Tryz.func37 rfl rfl rfl) rfl rfl (fun w h => ih ks ka kc N w (by omega) (by omega) (hks.now (fun _ _ hh => hh) zm0 h)) (zg (fun _ => R_addi rfl rfl (by omega)) (aI rfl (zn (zO (zk (zr (mI e4_1 (zg (fun _ => R_addi rfl rfl (by omega)) (aI rfl (zn ?_))))))))))))))))))))))
    have hfin : ((exsN (l.take k) : Nat) : Int) + 1 + ((exsN ks : Nat) : Int) = ((exsN (l.take (k + 1)) : Nat) : Int) := by omega
    exact k_again _ (by omega) ⟨k + 1, e0_1, (congrArg (Value.int .i64) hfin), rfl, rfl, rfl, by omega, rfl⟩
  · refine zX (zx (zx (b_here rfl (zk (yA (mI e3_1 (aI rfl (yB (ze (zo (v := .int _ _) rfl rfl rfl ?_)))))))))); exact fun w' hw => ⟨by rw [List.take_of_length_le (by omega)], hw.fr _ zm0⟩


theorem rnodes_all : ∀ n : Nat, n ≤ 10000000 → RNodesP n
  | 0, _ => fun _ _ _ _ _ h => absurd h (Nat.not_lt_zero _)
  | n + 1, h => rnodes_step n (rnodes_all n (by omega)) (by omega)
theorem rnodes_ok : RNodesP 10000000 := rnodes_all _ (Nat.le_refl _)

theorem rlong_step (n : Nat) (ih : RLongP n) (hN : n ≤ 10000000) (l : List Ex) (a : Option Addr) (c : Nat) (N : Nat → Prop) (w : World) (hl : exsW l < n + 1) (hll : l.length ≤ 10000000) (hm : exsM w N l a 0) :
    Ret Tryz.prog 29 #[.slice a l.length c] w (fun v w' => v = .bool (exsLong l) ∧ Ext w w') := by
  refine enter (S := No) (l := [_]) (L := []) 25 Tryz.func29 rfl rfl rfl (St.start w No) (yA (aB rfl (yB (zq (yA (aI rfl (yB (zB (c_loop (fun m e B L => ∃ (k : Nat), e 0 = .slice a l.length c ∧ e 3 = .int .i64 (k : Nat) ∧ B = [(w, No)] ∧ L = [] ∧ k ≤ l.length ∧ (∀ y ∈ l.take k, exLong y = false) ∧ m = l.length - k) _ ⟨0, rfl, rfl, rfl, rfl, Nat.zero_le _, (by simp), rfl⟩ ?_)))))))))
  rintro m e B L ⟨k, e0_1, e3_1, rfl, rfl, hk, hy, rfl⟩
  refine zq (yA (mI e3_1 (mS e0_1 (zg (fun _ => R_len sl47 rfl) (zg (fun _ => R_lt rfl rfl) (yB ?_)))))); refine zD rfl (fun h1 => ?_) (fun h1 => ?_)
  · have hlt : k < l.length := (by omega); obtain ⟨x, hxk⟩ : ∃ x, l[k]? = some x := ⟨_, List.getElem?_eq_getElem hlt⟩; obtain ⟨cs, hA, hE⟩ := hm.get0 hxk; have hxn := exsW_mem (List.mem_of_getElem? hxk); have hle := exsN_take l (k + 1); have hnx := exsN_next hxk; have hlN := exsN_le l; obtain ⟨b1, o1, rfl⟩ := hA.ptr; obtain ⟨op, at_, nm, ks⟩ := x; have hE2 := hE; unfold exM at hE2; obtain ⟨ka, kc, rfl, hkc, hks⟩ := hE2; have hxw := hxn; unfold exW at hxw; have hxN := hnx; unfold exN at hxN; have hkN := exsN_le ks
    refine zi (zk (zq (zB (yA (mS e0_1 (mI e3_1 (zg (fun _ => R_iaN (i := k) sl47 rfl rfl (by omega)) (zf fa52_2 rfl ?_)))))))); refine zl z9 rfl (fun _ h => by exact hA.cell (fun _ _ hh => hh) zm0 h 2 _ rfl) ?_; refine zg (fun _ => R_slen st9 rfl (by omega)) (zg (fun _ => R_gt rfl rfl) (mB rfl ?_)); refine zd (t := 17) rfl (fun h2 => ?_) (fun h2 => ?_)
    · refine zs rfl rfl (bT h2) (zs rfl rfl (bT h2) (zs rfl rfl (bT h2) (zs rfl rfl (bT h2) (zs rfl rfl (bT h2) (zs rfl rfl (bT h2) (zg (v := .bool _) (fun _ => zT (bT h2) rfl) (yB (zE rfl (yA (aB rfl (yB (ze (zb (zt (zt (zb (zt ((zo (v := .bool _) rfl rfl rfl ?_))))))))))))))))))); exact fun w' hw => ⟨by rw [exsLong_any]; (rw [any_yes hxk (by (try clear ih hm hA hE hks hw hl hxn hle hnx hxN hxw hy hlN hkN e0_1 e3_1); simp only [exLong]; grind)]; done), hw.fr _ zm0⟩
    · refine zw rfl rfl (bF h2) (mS e0_1 (zw rfl rfl (bF h2) (mI e3_1 (zw rfl rfl (bF h2) (zg (fun _ => R_iaN (i := k) sl47 rfl rfl (by omega)) (zw rfl rfl (bF h2) (zf fa52_3 rfl (zw rfl rfl (bF h2) ?_)))))))); refine zl z47 rfl (fun _ h => by exact hA.cell (fun _ _ hh => hh) zm0 h 3 _ rfl) ?_; refine zw rfl rfl (bF h2) (zC (fun w => zR Tryz.func29 rfl rfl rfl) rfl rfl (fun w h => ih ks ka kc N w (by omega) (by omega) (hks.now (fun _ _ hh => hh) zm0 h)) (zg (v := .bool _) (fun _ => zF (bF h2) rfl) (yB ?_))); refine c_cond rfl (fun h3 => ?_) (fun h3 => ?_)
      · refine yA (aB rfl (yB (ze (zb (zt (zt (zb (zt ((zo (v := .bool _) rfl rfl rfl ?_)))))))))); exact fun w' hw => ⟨by rw [exsLong_any]; (rw [any_yes hxk (by (try clear ih hm hA hE hks hw hl hxn hle hnx hxN hxw hy hlN hkN e0_1 e3_1); simp only [exLong]; grind)]; done), hw.fr _ zm0⟩
      · refine zi (zO (zk (zr (mI e3_1 (zg (fun _ => R_addi rfl rfl (by omega)) (aI rfl (zn ?_))))))); exact k_again _ (by omega) ⟨k + 1, e0_1, rfl, rfl, rfl, by omega, take_all hy hxk (by (try clear ih hm hA hE hks hl hxn hle hnx hxN hxw hy hlN hkN e0_1 e3_1); simp only [exLong]; grind), rfl⟩
  · refine zX (zx (zx (b_here rfl (zk (yA (aB rfl (yB (ze (zo (v := .bool _) rfl rfl rfl ?_))))))))); exact fun w' hw => ⟨by rw [exsLong_any]; (rw [any_of_take hy (by omega)]; done), hw.fr _ zm0⟩


theorem rlong_all : ∀ n : Nat, n ≤ 10000000 → RLongP n
  | 0, _ => fun _ _ _ _ _ h => absurd h (Nat.not_lt_zero _)
  | n + 1, h => rlong_step n (rlong_all n (by omega)) (by omega)
theorem rlong_ok : RLongP 10000000 := rlong_all _ (Nat.le_refl _)
def RNodesOfP (n : Nat) : Prop := ∀ (l : List Sm) (a : Option Addr) (c : Nat) (N : Nat → Prop) (w : World), smsW l < n → l.length ≤ 10000000 → smsM w N l a 0 →
    Ret Tryz.prog 45 #[.slice a l.length c] w fun v w' => v = .int .i64 (smsN l : Nat) ∧ Ext w w'
def RLongOfP (n : Nat) : Prop := ∀ (l : List Sm) (a : Option Addr) (c : Nat) (N : Nat → Prop) (w : World), smsW l < n → l.length ≤ 10000000 → smsM w N l a 0 →
    Ret Tryz.prog 28 #[.slice a l.length c] w fun v w' => v = .bool (smsLong l) ∧ Ext w w'

end Go.Proofs.YtoehjlmdnajibaaGreatDoor
end

section
namespace Go.Proofs.YtoehjlmdnajibaaGreatDoor
open Go.RowKit Go.Sx
open Go.Tok Go.Tree
theorem exsM_one {w : World} {N : Nat → Prop} {b : Nat} {x : Ex} {cx : List Value} (hN : N b) (h : w.heap[b]? = some (cel cx 52)) (hx : exM w N x cx) : exsM w N [x] (some ⟨b, 0, none⟩) 0 := by
  unfold exsM
  refine ⟨⟨cx, ⟨b, 0, rfl, hN, fun j v hj => ?_⟩, hx⟩, by unfold exsM; trivial⟩
  simp only [World.cell?, h]
  simp [cel, hj]


mutual
theorem exM.any {w : World} {N : Nat → Prop} : ∀ (e : Ex) (cs : List Value), exM w N e cs → exM w (fun _ => True) e cs
  | .mk op at_ nm ks, cs, h => by
    unfold exM at h ⊢
    obtain ⟨a, c, h1, h2, h3⟩ := h
    exact ⟨a, c, h1, h2, exsM.any ks a 0 h3⟩
theorem exsM.any {w : World} {N : Nat → Prop} : ∀ (l : List Ex) (a : Option Addr) (i : Nat), exsM w N l a i → exsM w (fun _ => True) l a i
  | [], _, _, _ => by unfold exsM; trivial
  | e :: l, a, i, h => by
    unfold exsM at h ⊢
    obtain ⟨⟨cs, ⟨b, o, ha, hb, hc⟩, h2⟩, h3⟩ := h
    exact ⟨⟨cs, ⟨b, o, ha, trivial, hc⟩, exM.any e cs h2⟩, exsM.any l a (i + 4) h3⟩
end

theorem exsN_one (x : Ex) : exsN [x] = exN x := by unfold exsN exsN; omega
theorem exsLong_one (x : Ex) : exsLong [x] = exLong x := by unfold exsLong exsLong; rw [Bool.or_false]

theorem exsW_one (x : Ex) : exsW [x] = exW x := by unfold exsW exsW; omega
theorem rnodes_one {op : Nat} {at_ : Int} {nm : Str} {ks : List Ex} {ka : Option Addr} {kc : Nat} {N : Nat → Prop} (b : Nat) (w : World) (hx : exW (Ex.mk op at_ nm ks) < 10000000) (hb : w.heap[b]? = some (cel [.int .u8 (op : Nat), .int .i64 at_, str nm, .slice ka ks.length kc] 52)) (hm : exM w N (Ex.mk op at_ nm ks) [.int .u8 (op : Nat), .int .i64 at_, str nm, .slice ka ks.length kc]) :
    Ret Tryz.prog 37 #[.slice (some ⟨b, 0, none⟩) 1 1] w fun v w' => v = .int .i64 (exN (Ex.mk op at_ nm ks) : Nat) ∧ Ext w w' :=
by rw [← exsN_one]; exact rnodes_ok [(Ex.mk op at_ nm ks)] (some ⟨b, 0, none⟩) 1 _ w (by rw [exsW_one]; exact hx) (show (1 : Nat) ≤ 10000000 by decide) (exsM_one (N := fun _ => True) trivial hb (exM.any _ _ hm))
theorem rlong_one {op : Nat} {at_ : Int} {nm : Str} {ks : List Ex} {ka : Option Addr} {kc : Nat} {N : Nat → Prop} (b : Nat) (w : World) (hx : exW (Ex.mk op at_ nm ks) < 10000000) (hb : w.heap[b]? = some (cel [.int .u8 (op : Nat), .int .i64 at_, str nm, .slice ka ks.length kc] 52)) (hm : exM w N (Ex.mk op at_ nm ks) [.int .u8 (op : Nat), .int .i64 at_, str nm, .slice ka ks.length kc]) :
    Ret Tryz.prog 29 #[.slice (some ⟨b, 0, none⟩) 1 1] w fun v w' => v = .bool (exLong (Ex.mk op at_ nm ks)) ∧ Ext w w' :=
by rw [← exsLong_one]; exact rlong_ok [(Ex.mk op at_ nm ks)] (some ⟨b, 0, none⟩) 1 _ w (by rw [exsW_one]; exact hx) (show (1 : Nat) ≤ 10000000 by decide) (exsM_one (N := fun _ => True) trivial hb (exM.any _ _ hm))

theorem SmallExpr_spec (x : Ex) (cs : List Value) (N : Nat → Prop) (w : World) (hx : exW x < 10000000) (hm : exM w N x cs) :
    Ret Tryz.prog 19 #[.agg cs.toArray] w (fun v w' => v = .bool (exSmall x) ∧ Ext w w') := by
  obtain ⟨op, at_, nm, ks⟩ := x
  have hm2 := hm
  unfold exM at hm2
  obtain ⟨ka, kc, rfl, hkc, hks⟩ := hm2
  have hx2 := hx
  unfold exW at hx2
  refine enter (S := No) (l := [_]) (L := []) 13 Tryz.func19 rfl rfl rfl (St.start w No) (yA (w_boxA rfl (fun t1b gt1b ut1b => aB rfl (yC (zY z52 rfl (fun _ h => h.at_ 0 rfl) rfl (zS slt47 (by decide) rfl rfl (fun b2 gb2 ub2 => zC (fun w => zR Tryz.func37 rfl rfl rfl) rfl rfl (fun w h => rnodes_one _ w hx (h.at_ 0 rfl) (hm.now (fun _ _ hh => hh) zm0 h)) (zg (fun _ => R_le rfl rfl) (mB rfl ?_))))))))); refine zd (t := 7) rfl (fun h3 => ?_) (fun h3 => ?_)
  · refine zw rfl rfl (bT h3) (zY z52 rfl (fun _ h => h.at_ 1 rfl) rfl (zw rfl rfl (bT h3) (zS slt47 (by decide) rfl rfl (fun b4 gb4 ub4 => zw rfl rfl (bT h3) (zC (fun w => zR Tryz.func29 rfl rfl rfl) rfl rfl (fun w h => rlong_one _ w hx (h.at_ 0 rfl) (hm.now (fun _ _ hh => hh) zm0 h)) (zw rfl rfl (bT h3) (zg (fun _ => R_not rfl) (zg (v := .bool _) (fun _ => zT (bT h3) rfl) (aB rfl (yB (ze (zo (v := .bool _) rfl rfl rfl ?_)))))))))))); exact fun w' hw => ⟨by (try clear hm hks hw gb2 gb4 gt1b ub2 ub4 ut1b); simp only [exSmall]; grind, hw.fr _ zm0⟩
  · refine zs rfl rfl (bF h3) (zs rfl rfl (bF h3) (zs rfl rfl (bF h3) (zs rfl rfl (bF h3) (zg (v := .bool _) (fun _ => zF (bF h3) rfl) (aB rfl (yB (ze (zo (v := .bool _) rfl rfl rfl ?_)))))))); exact fun w' hw => ⟨by (try clear hm hks hw gb2 gt1b ub2 ut1b); simp only [exSmall]; grind, hw.fr _ zm0⟩

end Go.Proofs.YtoehjlmdnajibaaGreatDoor
end

section
namespace Go.Proofs.YtoehjlmdnajibaaGreatDoor
open Go.RowKit Go.Sx
open Go.Tok Go.Tree
theorem celEq {B : Base} {b : Nat} {l l' : List Value} {T : TypeId} {L : Heap} {w : World} (h : St B ((b, cel l T) :: L) w) (e : l = l') : St B ((b, cel l' T) :: L) w := e ▸ h
theorem words_next {s x : Str} {k : Nat} (h : ∀ y ∈ wordsL.take k, ¬ y = s) (hx : wordsL[k]? = some x) (hs : ¬ x = s) : ∀ y ∈ wordsL.take (k + 1), ¬ y = s := by
  obtain ⟨hk, rfl⟩ := List.getElem?_eq_some_iff.1 hx
  intro y hy
  rw [List.take_succ_eq_append_getElem hk, List.mem_append] at hy
  rcases hy with hy | hy
  · exact h y hy
  · obtain rfl : y = wordsL[k] := by simpa using hy
    exact hs
theorem words_no {s : Str} (h : ∀ y ∈ wordsL.take 17, ¬ y = s) : wordsL.contains s = false := by
  have h17 : wordsL.take 17 = wordsL := rfl
  rw [h17] at h
  cases hc : wordsL.contains s with
  | false => rfl
  | true => exact absurd rfl (h s (List.contains_iff_mem.1 hc))
theorem words_yes {s x : Str} {k : Nat} (hx : wordsL[k]? = some x) (hs : x = s) : wordsL.contains s = true := by
  subst hs
  exact List.contains_iff_mem.2 (List.mem_of_getElem? hx)

theorem rone_spec (s : Str) (k : Nat) (hs : s.length ≤ 10000000) (w : World) :
    Ret Tryz.prog 69 #[str s, .int .u8 (k : Nat)] w (fun v w' => v = .bool (oneB k s) ∧ Ext w w') := by
  refine enter (S := No) (l := [_, _]) (L := []) 36 Tryz.func69 rfl rfl rfl (St.start w No) (yA (aB rfl (yC (zm (v := str _) rfl (w_callW (R := RdV (readP s)) (fun w => zR Tryz.func104 rfl rfl rfl) rfl rfl (fun w h => rRead_spec s (by omega) w) (fun u W1 hR1 => w_st (fun w h => h.perm List.perm_append_comm) ?_))))))
  obtain ⟨a1, c1, rfl, hT1⟩ := hR1
  refine zm rfl (zg (fun _ => R_extract rfl rfl) (zg (fun _ => R_extract rfl rfl) (zA zr37 (fun t6b gt6b ut6b => za (v := .slice _ _ _) rfl (zV 0 rfl z37 rfl rfl rfl rfl rfl rfl rfl (yC (zf fa37_0 rfl (zL 0 z35 rfl rfl rfl (zg (fun _ => R_eq rfl rfl) (mB rfl ?_)))))))))); refine zd (t := 15) rfl (fun h2 => ?_) (fun h2 => ?_)
  · refine zw rfl rfl (bT h2) (mS rfl (zw rfl rfl (bT h2) (zg (fun _ => R_len sl137 rfl) (zw rfl rfl (bT h2) (zg (fun _ => R_eq rfl rfl) (zg (v := .bool _) (fun _ => zT (bT h2) rfl) (mB rfl ?_))))))); refine zd (t := 20) rfl (fun h3 => ?_) (fun h3 => ?_)
    · obtain ⟨b1, rfl, hc1⟩ := hT1.cellS (k := 0) (by omega); obtain ⟨t, q1⟩ : ∃ t, (readP s).1[0]? = some t := ⟨_, List.getElem?_eq_getElem (by omega)⟩; have e1 := oneB_at (k := k) (by omega) q1 (by omega)
      refine zw rfl rfl (bT h3) (mS rfl (zw rfl rfl (bT h3) (zg (fun _ => R_iaN (i := 0) sl137 rfl rfl (by omega)) (zw rfl rfl (bT h3) (zf fa141_0 rfl (zw rfl rfl (bT h3) ?_)))))); refine zl z5 rfl (fun _ h => by exact hc1 _ _ _ (fun p hp => by simp [hp]) h _ q1 _ _ rfl) ?_; refine zw rfl rfl (bT h3) (mI rfl (zw rfl rfl (bT h3) (zg (fun _ => R_eq rfl rfl) (zg (v := .bool _) (fun _ => zT (bT h3) rfl) (mB rfl ?_))))); refine zd (t := 28) rfl (fun h4 => ?_) (fun h4 => ?_)
      · refine zw rfl rfl (bT h4) (mS rfl (zw rfl rfl (bT h4) (zg (fun _ => R_iaN (i := 0) sl137 rfl rfl (by omega)) (zw rfl rfl (bT h4) (zf fa141_1 rfl (zw rfl rfl (bT h4) ?_)))))); refine zl z9 rfl (fun _ h => by exact hc1 _ _ _ (fun p hp => by simp [hp]) h _ q1 _ _ rfl) ?_; refine zw rfl rfl (bT h4) (zm (v := str _) rfl (zw rfl rfl (bT h4) (zg (fun _ => R_seq rfl rfl) (zg (v := .bool _) (fun _ => zT (bT h4) rfl) (aB rfl (yB (ze (zo (v := .bool _) rfl rfl rfl ?_)))))))); exact fun w' hw => ⟨by rw [e1, decide_eq_true h4]; rfl, hw.fr _ zm0⟩
      · refine zs rfl rfl (bF h4) (zs rfl rfl (bF h4) (zs rfl rfl (bF h4) (zs rfl rfl (bF h4) (zs rfl rfl (bF h4) (zs rfl rfl (bF h4) (zg (v := .bool _) (fun _ => zF (bF h4) rfl) (aB rfl (yB (ze (zo (v := .bool _) rfl rfl rfl ?_)))))))))); exact fun w' hw => ⟨by rw [e1, decide_eq_false h4]; rfl, hw.fr _ zm0⟩
    · refine zs rfl rfl (bF h3) (zs rfl rfl (bF h3) (zs rfl rfl (bF h3) (zs rfl rfl (bF h3) (zs rfl rfl (bF h3) (zs rfl rfl (bF h3) (zg (v := .bool _) (fun _ => zF (bF h3) rfl) (mB rfl ?_))))))); (iterate 6 refine zs rfl rfl rfl ?_); refine zg (v := .bool _) (fun _ => zF rfl rfl) (aB rfl (yB (ze (zo (v := .bool _) rfl rfl rfl ?_)))); exact fun w' hw => ⟨by rw [oneB_len (by omega)], hw.fr _ zm0⟩
  · refine zs rfl rfl (bF h2) (zs rfl rfl (bF h2) (zs rfl rfl (bF h2) (zg (v := .bool _) (fun _ => zF (bF h2) rfl) (mB rfl ?_)))); (iterate 6 refine zs rfl rfl rfl ?_); refine zg (v := .bool _) (fun _ => zF rfl rfl) (mB rfl ?_); (iterate 6 refine zs rfl rfl rfl ?_); refine zg (v := .bool _) (fun _ => zF rfl rfl) (aB rfl (yB (ze (zo (v := .bool _) rfl rfl rfl ?_))))
    exact fun w' hw => ⟨by rw [oneB_E (by omega)], hw.fr _ zm0⟩

theorem rWord_spec (s : Str) (w : World) :
    Ret Tryz.prog 105 #[str s] w (fun v w' => v = .bool (wordsL.contains s) ∧ Ext w w') := by
  refine enter (S := No) (l := [_]) (L := []) 18 Tryz.func105 rfl rfl rfl (St.start w No) (yA (aB rfl (yC (zS slt153 (by decide) rfl rfl (fun bw gbw ubw => za (v := .slice _ _ _) rfl (yB (zq (yA (aI rfl (yB (zB (c_st (B' := _) (L' := [(bw, cel (wordsL.map str) 9)]) (fun w h => celEq h (by kernel_rfl)) (c_loop (fun m e B L => ∃ (k : Nat), e 0 = str s ∧ e 3 = .slice (some ⟨bw, 0, none⟩) 17 17 ∧ e 4 = .int .i64 (k : Nat) ∧ B = [(w, No)] ∧ L = [(bw, cel (wordsL.map str) 9)] ∧ k ≤ 17 ∧ (∀ x ∈ wordsL.take k, ¬ x = s) ∧ m = 17 - k) _ ⟨0, rfl, rfl, rfl, rfl, rfl, Nat.zero_le _, (by simp), rfl⟩ ?_)))))))))))))
  rintro m e B L ⟨k, e0_1, e3_1, e4_1, rfl, rfl, hk, hn, rfl⟩
  refine zq (yA (mI e4_1 (mS e3_1 (zg (fun _ => R_len sl153 rfl) (zg (fun _ => R_lt rfl rfl) (yB ?_)))))); refine zD rfl (fun h1 => ?_) (fun h1 => ?_)
  · have hlt : k < 17 := (by omega); obtain ⟨x, hx⟩ : ∃ x, wordsL[k]? = some x := ⟨_, List.getElem?_eq_getElem hlt⟩
    refine zi (zk (zq (zB (yA (mS e3_1 (mI e4_1 (zg (fun _ => R_iaN (i := k) sl153 rfl rfl (by omega)) ?_))))))); refine zl (v := str x) z9 rfl (fun w h => zc 0 (cs := wordsL.map str) rfl (by rw [Nat.zero_add, Nat.mul_one, List.getElem?_map, hx]; rfl) h) ?_; refine zm (v := str _) e0_1 (zg (fun _ => R_seq rfl rfl) (yB ?_)); refine zD rfl (fun h2 => ?_) (fun h2 => ?_)
    · refine yA (aB rfl (yB (ze (zb (zt (zt (zb (zt ((zo (v := .bool _) rfl rfl rfl ?_)))))))))); exact fun w' hw => ⟨by rw [words_yes hx h2], hw.fr _ zm0⟩
    · refine zi (zO (zk (zr (mI e4_1 (zg (fun _ => R_addi rfl rfl (by omega)) (aI rfl (zn ?_))))))); exact k_again _ (by omega) ⟨k + 1, e0_1, e3_1, rfl, rfl, rfl, by omega, words_next hn hx h2, rfl⟩
  · refine zX (zx (zx (b_here rfl (zk (yA (aB rfl (yB (ze (zo (v := .bool _) rfl rfl rfl ?_))))))))); exact fun w' hw => ⟨by rw [words_no (by rw [show 17 = k by omega]; exact hn)], hw.fr _ zm0⟩

theorem rName_spec (s : Str) (hs : s.length ≤ 10000000) (w : World) :
    Ret Tryz.prog 70 #[str s] w (fun v w' => v = .bool (nameOk s) ∧ Ext w w') := by
  refine enter (S := No) (l := [_]) (L := []) 10 Tryz.func70 rfl rfl rfl (St.start w No) (yA (aB rfl (yC (zm (v := str _) rfl (zC (fun w => zR Tryz.func69 rfl rfl rfl) rfl rfl (fun w h => rone_spec _ 1 (by omega) w) (mB rfl ?_)))))); refine zp (t := 5) rfl (fun h1 => ?_) (fun h1 => ?_)
  · refine zw rfl rfl (bV h1) (zm (v := str _) rfl (zw rfl rfl (bV h1) (zC (fun w => zR Tryz.func105 rfl rfl rfl) rfl rfl (fun w h => rWord_spec s w) (zw rfl rfl (bV h1) (zg (fun _ => R_not rfl) (zg (v := .bool _) (fun _ => zT (bV h1) rfl) (aB rfl (yB (ze (zo (v := .bool _) rfl rfl rfl ?_)))))))))); exact fun w' hw => ⟨by unfold nameOk; simp_all, hw.fr _ zm0⟩
  · refine zs rfl rfl (bV h1) (zs rfl rfl (bV h1) (zs rfl rfl (bV h1) (zg (v := .bool _) (fun _ => zF (bV h1) rfl) (aB rfl (yB (ze (zo (v := .bool _) rfl rfl rfl ?_))))))); exact fun w' hw => ⟨by unfold nameOk; simp_all, hw.fr _ zm0⟩
end Go.Proofs.YtoehjlmdnajibaaGreatDoor
end

section
namespace Go.Proofs.YtoehjlmdnajibaaGreatDoor
open Go.RowKit Go.Sx
open Go.Tok Go.Tree


def RExprH (n : Nat) : Prop := ∀ (x : Ex) (cs : List Value) (N : Nat → Prop) (w : World), exW x < n → exM w N x cs → Ret Tryz.prog 42 #[.agg cs.toArray] w fun v w' => v = .bool (exOk x) ∧ Ext w w'

theorem rexprs_spec (n : Nat) (ih : RExprH n) (l : List Ex) (a : Option Addr) (c : Nat) (N : Nat → Prop) (w : World) (hl : ∀ x ∈ l, exW x < n) (hll : l.length ≤ 10000000) (hm : exsM w N l a 0) :
    Ret Tryz.prog 71 #[.slice a l.length c] w (fun v w' => v = .bool (exsOk l) ∧ Ext w w') := by
  refine enter (S := No) (l := [_]) (L := []) 16 Tryz.func71 rfl rfl rfl (St.start w No) (yA (aB rfl (yB (zq (yA (aI rfl (yB (zB (c_loop (fun m e B L => ∃ (k : Nat), e 0 = .slice a l.length c ∧ e 3 = .int .i64 (k : Nat) ∧ B = [(w, No)] ∧ L = [] ∧ k ≤ l.length ∧ (∀ y ∈ l.take k, (!exOk y) = false) ∧ m = l.length - k) _ ⟨0, rfl, rfl, rfl, rfl, Nat.zero_le _, (by simp), rfl⟩ ?_)))))))))
  rintro m e B L ⟨k, e0_1, e3_1, rfl, rfl, hk, hy, rfl⟩
  refine zq (yA (mI e3_1 (mS e0_1 (zg (fun _ => R_len sl47 rfl) (zg (fun _ => R_lt rfl rfl) (yB ?_)))))); refine zD rfl (fun h1 => ?_) (fun h1 => ?_)
  · have hlt : k < l.length := (by omega); obtain ⟨x, hxk⟩ : ∃ x, l[k]? = some x := ⟨_, List.getElem?_eq_getElem hlt⟩; obtain ⟨cs, hA, hE⟩ := hm.get0 hxk; have hxn := hl x (List.mem_of_getElem? hxk); obtain ⟨b1, o1, rfl⟩ := hA.ptr; have hEx := hE; obtain ⟨op, at_, nm, ks⟩ := x; unfold exM at hEx; obtain ⟨ka, kc, rfl, hkc, hks⟩ := hEx
    refine zi (zk (zq (zB (yA (mS e0_1 (mI e3_1 (zg (fun _ => R_iaN (i := k) sl47 rfl rfl (by omega)) (w_loadC (l := [.int .u8 (op : Nat), .int .i64 at_, str nm, .slice ka ks.length kc]) z52 rfl rfl (fun w h j v hj => hA.cell (fun _ _ hh => hh) zm0 h j v hj) (zC (fun w => zR Tryz.func42 rfl rfl rfl) rfl rfl (fun w h => ih _ _ N w hxn (hE.now (fun _ _ hh => hh) zm0 h)) (zg (fun _ => R_not rfl) (yB ?_))))))))))); refine c_condN rfl (fun h2 => ?_) (fun h2 => ?_)
    · refine yA (aB rfl (yB (ze (zb (zt (zt (zb (zt ((zo (v := .bool _) rfl rfl rfl ?_)))))))))); exact fun w' hw => ⟨by rw [exsOk_all]; (rw [all_no hxk h2]; done), hw.fr _ zm0⟩
    · refine zi (zO (zk (zr (mI e3_1 (zg (fun _ => R_addi rfl rfl (by omega)) (aI rfl (zn ?_))))))); exact k_again _ (by omega) ⟨k + 1, e0_1, rfl, rfl, rfl, by omega, take_all hy hxk (by rw [h2]; rfl), rfl⟩
  · refine zX (zx (zx (b_here rfl (zk (yA (aB rfl (yB (ze (zo (v := .bool _) rfl rfl rfl ?_))))))))); exact fun w' hw => ⟨by rw [exsOk_all]; (rw [all_of_take hy (by omega)]; done), hw.fr _ zm0⟩

theorem rexpr_step (n : Nat) (ih : RExprH n) (hn : n ≤ 10000000) (x : Ex) (cs : List Value) (N : Nat → Prop) (w : World) (hx : exW x < n + 1) (hm : exM w N x cs) :
    Ret Tryz.prog 42 #[.agg cs.toArray] w (fun v w' => v = .bool (exOk x) ∧ Ext w w') := by
  obtain ⟨op, at_, nm, ks⟩ := x
  have hm2 := hm
  unfold exM at hm2
  obtain ⟨ka, kc, rfl, hkc, hks⟩ := hm2
  have hx2 := hx
  unfold exW at hx2
  have hkl : ∀ x ∈ ks, exW x < n := fun x hx => by have := exsW_mem hx; omega
  refine enter (S := No) (l := [_]) (L := []) 69 Tryz.func42 rfl rfl rfl (St.start w No) (yA (w_boxA rfl (fun t1b gt1b ut1b => aB rfl (yC (zf fa52_3 rfl (zL 0 z47 rfl rfl rfl (zg (fun _ => R_len sl47 rfl) (aI rfl (yC (aB rfl (yB ?_))))))))))); refine c_cut (fun e B L => e 1 = .pointer (some ⟨t1b, 0, none⟩) ∧ e 4 = .bool (ruleOk op nm ks.length) ∧ B = [(w, No)] ∧ L = [(t1b, cel [.int .u8 (op : Nat), .int .i64 at_, str nm, .slice ka ks.length kc] 52)]) ?_ ?_
  · refine yA (zf fa52_0 rfl (zL 0 z5 rfl rfl rfl (yB (zB (yA (zg (fun _ => R_eq rfl rfl) (aB rfl (yB ?_)))))))); refine zD rfl (fun h2 => ?_) (fun h2 => ?_)
    · refine zr (mI rfl (zg (fun _ => R_eq rfl rfl) (mB rfl ?_))); refine zd (t := 14) rfl (fun h3 => ?_) (fun h3 => ?_)
      · refine zw rfl rfl (bT h3) (zf fa52_2 rfl (zw rfl rfl (bT h3) (zL 0 z9 rfl rfl rfl (zw rfl rfl (bT h3) (zC (fun w => zR Tryz.func69 rfl rfl rfl) rfl rfl (fun w h => rone_spec _ 2 (by omega) w) (zg (v := .bool _) (fun _ => zT (bT h3) rfl) (aB rfl (zn (zO (?_))))))))))
        exact k_mid ⟨rfl, (congrArg Value.bool (by (try clear hm hks ih hx hx2 hkl gt1b ut1b); (try simp only [ncs] at *); rcases op_cases9 op with rfl | rfl | rfl | rfl | rfl | rfl | rfl | rfl | rfl | hop <;> first | omega | (simp_all [ruleOk]; done) | (rw [rule_miss hop]))), rfl, rfl⟩
      · refine zs rfl rfl (bF h3) (zs rfl rfl (bF h3) (zs rfl rfl (bF h3) (zg (v := .bool _) (fun _ => zF (bF h3) rfl) (aB rfl (zn (zO (?_)))))))
        exact k_mid ⟨rfl, (congrArg Value.bool (by (try clear hm hks ih hx hx2 hkl gt1b ut1b); (try simp only [ncs] at *); rcases op_cases9 op with rfl | rfl | rfl | rfl | rfl | rfl | rfl | rfl | rfl | hop <;> first | omega | (simp_all [ruleOk]; done) | (rw [rule_miss hop]))), rfl, rfl⟩
    · refine yA (zg (fun _ => R_eq rfl rfl) (aB rfl (yB ?_))); refine zD rfl (fun h4 => ?_) (fun h4 => ?_)
      · refine zr (mI rfl (zg (fun _ => R_eq rfl rfl) (mB rfl ?_))); refine zd (t := 23) rfl (fun h5 => ?_) (fun h5 => ?_)
        · refine zw rfl rfl (bT h5) (zf fa52_2 rfl (zw rfl rfl (bT h5) (zL 0 z9 rfl rfl rfl (zw rfl rfl (bT h5) (zC (fun w => zR Tryz.func70 rfl rfl rfl) rfl rfl (fun w h => rName_spec _ (by omega) w) (zg (v := .bool _) (fun _ => zT (bT h5) rfl) (aB rfl (zn (zO (?_))))))))))
          exact k_mid ⟨rfl, (congrArg Value.bool (by (try clear hm hks ih hx hx2 hkl gt1b ut1b); (try simp only [ncs] at *); rcases op_cases9 op with rfl | rfl | rfl | rfl | rfl | rfl | rfl | rfl | rfl | hop <;> first | omega | (simp_all [ruleOk]; done) | (rw [rule_miss hop]))), rfl, rfl⟩
        · refine zs rfl rfl (bF h5) (zs rfl rfl (bF h5) (zs rfl rfl (bF h5) (zg (v := .bool _) (fun _ => zF (bF h5) rfl) (aB rfl (zn (zO (?_)))))))
          exact k_mid ⟨rfl, (congrArg Value.bool (by (try clear hm hks ih hx hx2 hkl gt1b ut1b); (try simp only [ncs] at *); rcases op_cases9 op with rfl | rfl | rfl | rfl | rfl | rfl | rfl | rfl | rfl | hop <;> first | omega | (simp_all [ruleOk]; done) | (rw [rule_miss hop]))), rfl, rfl⟩
      · refine yA (zg (fun _ => R_eq rfl rfl) (aB rfl (yB ?_))); refine zD rfl (fun h6 => ?_) (fun h6 => ?_)
        · refine zr (mI rfl (zg (fun _ => R_eq rfl rfl) (mB rfl ?_))); refine zd (t := 32) rfl (fun h7 => ?_) (fun h7 => ?_)
          · refine zw rfl rfl (bT h7) (zf fa52_2 rfl (zw rfl rfl (bT h7) (zL 0 z9 rfl rfl rfl (zw rfl rfl (bT h7) (zC (fun w => zR Tryz.func70 rfl rfl rfl) rfl rfl (fun w h => rName_spec _ (by omega) w) (zg (v := .bool _) (fun _ => zT (bT h7) rfl) (aB rfl (zn (zO (?_))))))))))
            exact k_mid ⟨rfl, (congrArg Value.bool (by (try clear hm hks ih hx hx2 hkl gt1b ut1b); (try simp only [ncs] at *); rcases op_cases9 op with rfl | rfl | rfl | rfl | rfl | rfl | rfl | rfl | rfl | hop <;> first | omega | (simp_all [ruleOk]; done) | (rw [rule_miss hop]))), rfl, rfl⟩
          · refine zs rfl rfl (bF h7) (zs rfl rfl (bF h7) (zs rfl rfl (bF h7) (zg (v := .bool _) (fun _ => zF (bF h7) rfl) (aB rfl (zn (zO (?_)))))))
            exact k_mid ⟨rfl, (congrArg Value.bool (by (try clear hm hks ih hx hx2 hkl gt1b ut1b); (try simp only [ncs] at *); rcases op_cases9 op with rfl | rfl | rfl | rfl | rfl | rfl | rfl | rfl | rfl | hop <;> first | omega | (simp_all [ruleOk]; done) | (rw [rule_miss hop]))), rfl, rfl⟩
        · refine yA (zg (fun _ => R_eq rfl rfl) (aB rfl (yB ?_))); refine zD rfl (fun h8 => ?_) (fun h8 => ?_)
          · refine zr (zf fa52_2 rfl (zL 0 z9 rfl rfl rfl (zC (fun w => zR Tryz.func70 rfl rfl rfl) rfl rfl (fun w h => rName_spec _ (by omega) w) (aB rfl (zn (zO (?_)))))))
            exact k_mid ⟨rfl, (congrArg Value.bool (by (try clear hm hks ih hx hx2 hkl gt1b ut1b); (try simp only [ncs] at *); rcases op_cases9 op with rfl | rfl | rfl | rfl | rfl | rfl | rfl | rfl | rfl | hop <;> first | omega | (simp_all [ruleOk]; done) | (rw [rule_miss hop]))), rfl, rfl⟩
          · refine yA (zg (fun _ => R_eq rfl rfl) (aB rfl (yB ?_))); refine zD rfl (fun h9 => ?_) (fun h9 => ?_)
            · refine zr (mI rfl (zg (fun _ => R_eq rfl rfl) (mB rfl ?_))); refine zd (t := 46) rfl (fun h10 => ?_) (fun h10 => ?_)
              · refine zw rfl rfl (bT h10) (zf fa52_2 rfl (zw rfl rfl (bT h10) (zL 0 z9 rfl rfl rfl (zw rfl rfl (bT h10) (zg (fun _ => R_seq rfl rfl) (zg (v := .bool _) (fun _ => zT (bT h10) rfl) (aB rfl (zn (zO (?_))))))))))
                exact k_mid ⟨rfl, (congrArg Value.bool (by (try clear hm hks ih hx hx2 hkl gt1b ut1b); (try simp only [ncs] at *); rcases op_cases9 op with rfl | rfl | rfl | rfl | rfl | rfl | rfl | rfl | rfl | hop <;> first | omega | (simp_all [ruleOk]; done) | (rw [rule_miss hop]))), rfl, rfl⟩
              · refine zs rfl rfl (bF h10) (zs rfl rfl (bF h10) (zs rfl rfl (bF h10) (zg (v := .bool _) (fun _ => zF (bF h10) rfl) (aB rfl (zn (zO (?_)))))))
                exact k_mid ⟨rfl, (congrArg Value.bool (by (try clear hm hks ih hx hx2 hkl gt1b ut1b); (try simp only [ncs] at *); rcases op_cases9 op with rfl | rfl | rfl | rfl | rfl | rfl | rfl | rfl | rfl | hop <;> first | omega | (simp_all [ruleOk]; done) | (rw [rule_miss hop]))), rfl, rfl⟩
            · refine zq (yA (zg (fun _ => R_eq rfl rfl) (aB rfl (yB ?_)))); refine zD rfl (fun h11 => ?_) (fun h11 => ?_)
              · refine zi (zk (zE (bT h11) (zr (mI rfl (zg (fun _ => R_eq rfl rfl) (mB rfl ?_)))))); refine zd (t := 58) rfl (fun h12 => ?_) (fun h12 => ?_)
                · refine zw rfl rfl (bT h12) (zf fa52_2 rfl (zw rfl rfl (bT h12) (zL 0 z9 rfl rfl rfl (zw rfl rfl (bT h12) (zg (fun _ => R_seq rfl rfl) (zg (v := .bool _) (fun _ => zT (bT h12) rfl) (aB rfl (zn (zO (?_))))))))))
                  exact k_mid ⟨rfl, (congrArg Value.bool (by (try clear hm hks ih hx hx2 hkl gt1b ut1b); (try simp only [ncs] at *); rcases op_cases9 op with rfl | rfl | rfl | rfl | rfl | rfl | rfl | rfl | rfl | hop <;> first | omega | (simp_all [ruleOk]; done) | (rw [rule_miss hop]))), rfl, rfl⟩
                · refine zs rfl rfl (bF h12) (zs rfl rfl (bF h12) (zs rfl rfl (bF h12) (zg (v := .bool _) (fun _ => zF (bF h12) rfl) (aB rfl (zn (zO (?_)))))))
                  exact k_mid ⟨rfl, (congrArg Value.bool (by (try clear hm hks ih hx hx2 hkl gt1b ut1b); (try simp only [ncs] at *); rcases op_cases9 op with rfl | rfl | rfl | rfl | rfl | rfl | rfl | rfl | rfl | hop <;> first | omega | (simp_all [ruleOk]; done) | (rw [rule_miss hop]))), rfl, rfl⟩
              · refine yA (zg (fun _ => R_eq rfl rfl) (aB rfl (yB ?_))); refine zD rfl (fun h13 => ?_) (fun h13 => ?_)
                · refine zi (zk (zE (bT h13) (zr (mI rfl (zg (fun _ => R_eq rfl rfl) (mB rfl ?_)))))); refine zd (t := 58) rfl (fun h14 => ?_) (fun h14 => ?_)
                  · refine zw rfl rfl (bT h14) (zf fa52_2 rfl (zw rfl rfl (bT h14) (zL 0 z9 rfl rfl rfl (zw rfl rfl (bT h14) (zg (fun _ => R_seq rfl rfl) (zg (v := .bool _) (fun _ => zT (bT h14) rfl) (aB rfl (zn (zO (?_))))))))))
                    exact k_mid ⟨rfl, (congrArg Value.bool (by (try clear hm hks ih hx hx2 hkl gt1b ut1b); (try simp only [ncs] at *); rcases op_cases9 op with rfl | rfl | rfl | rfl | rfl | rfl | rfl | rfl | rfl | hop <;> first | omega | (simp_all [ruleOk]; done) | (rw [rule_miss hop]))), rfl, rfl⟩
                  · refine zs rfl rfl (bF h14) (zs rfl rfl (bF h14) (zs rfl rfl (bF h14) (zg (v := .bool _) (fun _ => zF (bF h14) rfl) (aB rfl (zn (zO (?_)))))))
                    exact k_mid ⟨rfl, (congrArg Value.bool (by (try clear hm hks ih hx hx2 hkl gt1b ut1b); (try simp only [ncs] at *); rcases op_cases9 op with rfl | rfl | rfl | rfl | rfl | rfl | rfl | rfl | rfl | hop <;> first | omega | (simp_all [ruleOk]; done) | (rw [rule_miss hop]))), rfl, rfl⟩
                · refine yA (zg (fun _ => R_eq rfl rfl) (aB rfl (yB ?_))); refine zD rfl (fun h15 => ?_) (fun h15 => ?_)
                  · refine zi (zk (zE (bT h15) (zr (mI rfl (zg (fun _ => R_eq rfl rfl) (mB rfl ?_)))))); refine zd (t := 58) rfl (fun h16 => ?_) (fun h16 => ?_)
                    · refine zw rfl rfl (bT h16) (zf fa52_2 rfl (zw rfl rfl (bT h16) (zL 0 z9 rfl rfl rfl (zw rfl rfl (bT h16) (zg (fun _ => R_seq rfl rfl) (zg (v := .bool _) (fun _ => zT (bT h16) rfl) (aB rfl (zn (zO (?_))))))))))
                      exact k_mid ⟨rfl, (congrArg Value.bool (by (try clear hm hks ih hx hx2 hkl gt1b ut1b); (try simp only [ncs] at *); rcases op_cases9 op with rfl | rfl | rfl | rfl | rfl | rfl | rfl | rfl | rfl | hop <;> first | omega | (simp_all [ruleOk]; done) | (rw [rule_miss hop]))), rfl, rfl⟩
                    · refine zs rfl rfl (bF h16) (zs rfl rfl (bF h16) (zs rfl rfl (bF h16) (zg (v := .bool _) (fun _ => zF (bF h16) rfl) (aB rfl (zn (zO (?_)))))))
                      exact k_mid ⟨rfl, (congrArg Value.bool (by (try clear hm hks ih hx hx2 hkl gt1b ut1b); (try simp only [ncs] at *); rcases op_cases9 op with rfl | rfl | rfl | rfl | rfl | rfl | rfl | rfl | rfl | hop <;> first | omega | (simp_all [ruleOk]; done) | (rw [rule_miss hop]))), rfl, rfl⟩
                  · refine zr (zg (fun _ => R_eq rfl rfl) (aB rfl (yB ?_))); refine zD rfl (fun h17 => ?_) (fun h17 => ?_)
                    · refine zr (mI rfl (zg (fun _ => R_eq rfl rfl) (mB rfl ?_))); refine zd (t := 58) rfl (fun h18 => ?_) (fun h18 => ?_)
                      · refine zw rfl rfl (bT h18) (zf fa52_2 rfl (zw rfl rfl (bT h18) (zL 0 z9 rfl rfl rfl (zw rfl rfl (bT h18) (zg (fun _ => R_seq rfl rfl) (zg (v := .bool _) (fun _ => zT (bT h18) rfl) (aB rfl (zn (zO (?_))))))))))
                        exact k_mid ⟨rfl, (congrArg Value.bool (by (try clear hm hks ih hx hx2 hkl gt1b ut1b); (try simp only [ncs] at *); rcases op_cases9 op with rfl | rfl | rfl | rfl | rfl | rfl | rfl | rfl | rfl | hop <;> first | omega | (simp_all [ruleOk]; done) | (rw [rule_miss hop]))), rfl, rfl⟩
                      · refine zs rfl rfl (bF h18) (zs rfl rfl (bF h18) (zs rfl rfl (bF h18) (zg (v := .bool _) (fun _ => zF (bF h18) rfl) (aB rfl (zn (zO (?_)))))))
                        exact k_mid ⟨rfl, (congrArg Value.bool (by (try clear hm hks ih hx hx2 hkl gt1b ut1b); (try simp only [ncs] at *); rcases op_cases9 op with rfl | rfl | rfl | rfl | rfl | rfl | rfl | rfl | rfl | hop <;> first | omega | (simp_all [ruleOk]; done) | (rw [rule_miss hop]))), rfl, rfl⟩
                    · refine zi (zO (?_))
                      exact k_mid ⟨rfl, (congrArg Value.bool (by (try clear hm hks ih hx hx2 hkl gt1b ut1b); (try simp only [ncs] at *); rcases op_cases9 op with rfl | rfl | rfl | rfl | rfl | rfl | rfl | rfl | rfl | hop <;> first | omega | (simp_all [ruleOk]; done) | (rw [rule_miss hop]))), rfl, rfl⟩
  rintro e B L ⟨e1_1, e4_1, rfl, rfl⟩
  refine yA (mB e4_1 (mB rfl ?_)); refine zp (t := 64) rfl (fun h19 => ?_) (fun h19 => ?_)
  · refine zw rfl rfl (bV h19) (zf fa52_3 e1_1 (zw rfl rfl (bV h19) (zL 0 z47 rfl rfl rfl (zw rfl rfl (bV h19) (zC (fun w => zR Tryz.func71 rfl rfl rfl) rfl rfl (fun w h => rexprs_spec n ih ks ka kc N w hkl (by omega) (hks.now (fun _ _ hh => hh) zm0 h)) (zg (v := .bool _) (fun _ => zT (bV h19) rfl) (aB rfl (yB (ze (zo (v := .bool _) rfl rfl rfl ?_)))))))))); exact fun w' hw => ⟨by (try clear hm hks hw ih hx hx2 hkl e1_1 e4_1 gt1b ut1b); simp only [exOk]; simp_all, hw.fr _ zm0⟩
  · refine zs rfl rfl (bV h19) (zs rfl rfl (bV h19) (zs rfl rfl (bV h19) (zg (v := .bool _) (fun _ => zF (bV h19) rfl) (aB rfl (yB (ze (zo (v := .bool _) rfl rfl rfl ?_))))))); exact fun w' hw => ⟨by (try clear hm hks hw ih hx hx2 hkl e1_1 e4_1 gt1b ut1b); simp only [exOk]; simp_all, hw.fr _ zm0⟩


theorem rexpr_all : ∀ n : Nat, n ≤ 10000000 → RExprH n
  | 0, _ => fun _ _ _ _ h => absurd h (Nat.not_lt_zero _)
  | n + 1, h => rexpr_step n (rexpr_all n (by omega)) (by omega)
theorem rexpr_ok : RExprH 10000000 := rexpr_all _ (Nat.le_refl _)
def RStmtH (n : Nat) : Prop := ∀ (x : Sm) (cs : List Value) (N : Nat → Prop) (w : World), smW x < n → smM w N x cs → Ret Tryz.prog 77 #[.agg cs.toArray] w fun v w' => v = .bool (smOk x) ∧ Ext w w'
def midOk (op : Nat) (nm : Str) (ks : List Ex) (b e : Nat) : Bool := sruleOk op nm ks && (decide (op = 5) || exsOk ks) && !(decide (op < 4) && decide (0 < b)) && !(decide (op ≠ 5) && decide (0 < e))
end Go.Proofs.YtoehjlmdnajibaaGreatDoor
end

section
namespace Go.Proofs.YtoehjlmdnajibaaGreatDoor
open Go.RowKit Go.Sx
open Go.Tok Go.Tree

end Go.Proofs.YtoehjlmdnajibaaGreatDoor
end

section
namespace Go.Proofs.YtoehjlmdnajibaaGreatDoor
open Go.RowKit Go.Sx
open Go.Tok Go.Tree Go.Knd Go.Prs

def capB (b : Bk) (c : List Value) : Prop := ∃ da dc sa sc, c = [.bool b.is, .slice da b.decls.length dc, .slice sa b.stmts.length sc] ∧ b.decls.length ≤ dc ∧ b.stmts.length ≤ sc
end Go.Proofs.YtoehjlmdnajibaaGreatDoor
end
