/- Layer 15, KindMore: an expression's kind does not hang on a variable whose name does not stand in it, nor on the places, but for that of a fault; in the Upto form. Part 10 of 16. -/
import Derived.Test.YtoehjlmdnajibaaGreatDoorM09
import Derived.Lib.AppendZerosOnto
set_option maxRecDepth 100000
set_option maxHeartbeats 16000000
section
namespace Go.Proofs.YtoehjlmdnajibaaGreatDoor
open Go.RowKit Go.Sx
open Go.Tok Go.Tree Go.Knd

def OfH (n : Nat) : Prop := ∀ (x : Ex) (cs : List Value) (vs : List Vr) (va : Option Addr) (vc : Nat) (w : World), exW x < n → exOk x = true → exM w (fun _ => True) x cs → vrsV w (fun _ => True) vs (va, vc) → vs.length ≤ 90000000 →
    RetP Tryz.prog 41 #[.slice va vs.length vc, .agg cs.toArray] w (RK kdV (ofK vs x) w) (EK panK (ofK vs x) w)
theorem exsOk_mem {x : Ex} {l : List Ex} (h : exsOk l = true) (hx : x ∈ l) : exOk x = true := by rw [exsOk_all, List.all_eq_true] at h; exact h x hx

theorem idx_look (t : Nat) : ((([(4, .int .u8 1), (3, .int .u8 2), (5, .int .u8 2)] : List (Int × Value)).lookup (t : Int)).getD (.int .u8 0)) = .int .u8 (idxT t : Nat) := by
  by_cases h1 : t = 4
  · subst h1; rfl
  by_cases h2 : t = 3
  · subst h2; rfl
  by_cases h3 : t = 5
  · subst h3; rfl
  have q : ∀ k : Nat, ¬ t = k → (((t : Nat) : Int) == ((k : Nat) : Int)) = false := fun k h => by simp; omega
  have e : idxT t = 0 := by unfold idxT; rw [if_neg h1, if_neg (by omega)]
  have q1 := q 4 h1; have q2 := q 3 h2; have q3 := q 5 h3
  rw [e]
  show (match ((t : Nat) : Int) == ((4 : Nat) : Int) with | true => _ | false => _ : Option Value).getD _ = _
  rw [q1]
  show (match ((t : Nat) : Int) == ((3 : Nat) : Int) with | true => _ | false => _ : Option Value).getD _ = _
  rw [q2]
  show (match ((t : Nat) : Int) == ((5 : Nat) : Int) with | true => _ | false => _ : Option Value).getD _ = _
  rw [q3]
  rfl

theorem of_step (n : Nat) (ih : OfH n) (hn : n ≤ 10000000) (x : Ex) (cs : List Value) (vs : List Vr) (va : Option Addr) (vc : Nat) (w : World) (hx : exW x < n + 1) (hok : exOk x = true) (hm : exM w (fun _ => True) x cs) (hv : vrsV w (fun _ => True) vs (va, vc)) (hvl : vs.length ≤ 90000000) :
    RetP Tryz.prog 41 #[.slice va vs.length vc, .agg cs.toArray] w (RK kdV (ofK vs x) w) (EK panK (ofK vs x) w) := by
  obtain ⟨op, at_, nm, ks⟩ := x
  have hm2 := hm
  unfold exM at hm2
  obtain ⟨ka, kc, rfl, hkc, hks⟩ := hm2
  have hx2 := hx
  unfold exW at hx2
  have ho := hok
  unfold exOk at ho
  rw [Bool.and_eq_true] at ho
  obtain ⟨ho1, ho2⟩ := ho
  have hG : ofK vs (Ex.mk op at_ nm ks) = _ := ofK_go vs op at_ nm ks
  refine enterP (S := No) (l := [_, _]) (L := []) 149 Tryz.func41 rfl rfl rfl (St.start w No) (yA (w_boxA rfl (fun t3b gt3b ut3b => zA zr58 (fun t4b gt4b ut4b => yC (zA zr58 (fun t5b gt5b ut5b => yC (zA zr104 (fun t6b gt6b ut6b => yB (zq (yA (zf fa52_3 rfl (zL 3 z47 rfl rfl rfl (zg (fun _ => R_len sl47 rfl) (mI rfl (yB (zB (c_loop (fun m e B L => ∃ (k : Nat) (ts : List Nat) (p : Bool), e 0 = .slice va vs.length vc ∧ e 3 = .pointer (some ⟨t3b, 0, none⟩) ∧ e 4 = .pointer (some ⟨t4b, 0, none⟩) ∧ e 5 = .pointer (some ⟨t5b, 0, none⟩) ∧ e 6 = .pointer (some ⟨t6b, 0, none⟩) ∧ e 15 = .slice ka ks.length kc ∧ e 16 = .int .i64 (ks.length : Nat) ∧ e 17 = .int .i64 (k : Nat) ∧ B = [(w, No)] ∧ L = [(t6b, cel [.int .u8 (ts.getD 0 0 : Nat), .int .u8 (ts.getD 1 0 : Nat)] 104), (t5b, cel [.int .u8 0, .bool p] 58), (t4b, cel [.int .u8 0, .bool false] 58), (t3b, cel [.int .u8 (op : Nat), .int .i64 at_, str nm, .slice ka ks.length kc] 52)] ∧ k ≤ ks.length ∧ ts.length = k ∧ ofK vs (Ex.mk op at_ nm ks) = andK (kidsG vs ts p (ks.drop k)) (fun r => ruleK vs op at_ nm ks (r.1.getD 0 0) (r.1.getD 1 0) r.2) ∧ m = ks.length - k) _ ⟨0, [], false, rfl, rfl, rfl, rfl, rfl, rfl, rfl, rfl, rfl, rfl, Nat.zero_le _, rfl, hG, rfl⟩ ?_)))))))))))))))))
  rintro m e B L ⟨k, ts, p, e0_1, e3_1, e4_1, e5_1, e6_1, e15_1, e16_1, e17_1, rfl, rfl, hk, htl, hG1, rfl⟩
  refine yA (zg (fun _ => R_lt e17_1 e16_1) (yB (zq ?_))); refine zD rfl (fun h5 => ?_) (fun h5 => ?_)
  · have hlt : k < ks.length := (by omega); obtain ⟨x, hxk⟩ : ∃ x, ks[k]? = some x := ⟨_, List.getElem?_eq_getElem hlt⟩; obtain ⟨cs, hA, hE⟩ := hks.get0 hxk; have hxn := exsW_mem (List.mem_of_getElem? hxk); have hxo := exsOk_mem ho2 (List.mem_of_getElem? hxk); obtain ⟨b1, o1, rfl⟩ := hA.ptr; have hG2 := hG1.trans (kidsG_step hxk ts p _); obtain ⟨op2, at2, nm2, ks2⟩ := x; have hE2 := hE; unfold exM at hE2; obtain ⟨ka2, kc2, rfl, hkc2, hks2⟩ := hE2
    refine zi (zk (zq (zB (yA (mI e17_1 (zg (fun _ => R_iaN (i := k) sl47 e15_1 e17_1 (by omega)) (w_loadC (l := [.int .u8 (op2 : Nat), .int .i64 at2, str nm2, .slice ka2 ks2.length kc2]) z52 rfl rfl (fun w h j v hj => hA.cell (fun _ _ hh => hh) zm0 h j v hj) (zA zr52 (fun t8b gt8b ut8b => aI rfl (zV 0 rfl z52 rfl rfl rfl rfl rfl rfl rfl (yC (mS e0_1 (zY z52 rfl (fun _ h => h.at_ 0 rfl) rfl (w_kc (V := kdV) (pan := panK) zm0 hG2 (fun w => zR Tryz.func41 rfl rfl rfl) rfl rfl (fun w h => ih _ _ vs va vc w (by omega) hxo (hE.nowT zm0 h) (hv.nowT zm0 h) hvl) (fun fl w' hx1 hx2 a ha => p_out ha ⟨fl, hx1, rfl, hx2⟩) (fun q7 hX7 hG7 => ?_)))))))))))))))
    obtain ⟨q1, q2⟩ := q7
    refine zA zr58 (fun t9b gt9b ut9b => zV 0 rfl z58 rfl rfl rfl rfl rfl rfl rfl (yC (zf fa58_1 e5_1 (zL 3 z4 rfl rfl rfl (mB rfl ?_))))); refine zp (t := 27) rfl (fun h9 => ?_) (fun h9 => ?_)
    · refine zs rfl rfl (bV h9) (zs rfl rfl (bV h9) (zg (v := .bool _) (fun _ => zT (bV h9) rfl) (zf fa58_1 e5_1 (zV 3 rfl z4 rfl rfl rfl rfl rfl rfl rfl (yC (mI rfl (zg (fun _ => R_lt rfl rfl) (yB ?_)))))))); refine zD rfl (fun h10 => ?_) (fun h10 => ?_)
      · refine zr ?_
        rcases two_of htl (by omega) with ⟨rfl, rfl⟩ | ⟨rfl, t0, rfl⟩
        · refine mI rfl (zf fa58_0 rfl (zL 0 z5 rfl rfl rfl (zg (fun _ => R_iaA ar104 (by decide) e6_1 rfl (by omega)) (zV 2 rfl z5 rfl rfl rfl rfl rfl rfl rfl (zn (zO (zk (zr (zg (fun _ => R_addi e17_1 rfl (by omega)) (mI rfl (zn (zK (B' := [(w, No)]) (L' := _) (fun w h => h.drop (.cons _ (.cons _ (List.Sublist.refl _)))) ?_)))))))))))); exact k_again _ (by omega) ⟨0 + 1, [] ++ [q1], p || q2, e0_1, e3_1, e4_1, e5_1, e6_1, e15_1, e16_1, rfl, rfl, (by subst h9; rfl), by omega, (by simp; try omega), hG7, rfl⟩
        · refine mI rfl (zf fa58_0 rfl (zL 0 z5 rfl rfl rfl (zg (fun _ => R_iaA (i := 1) ar104 (by decide) e6_1 rfl (by omega)) (zV 2 rfl z5 rfl rfl rfl rfl rfl rfl rfl (zn (zO (zk (zr (zg (fun _ => R_addi e17_1 rfl (by omega)) (mI rfl (zn (zK (B' := [(w, No)]) (L' := _) (fun w h => h.drop (.cons _ (.cons _ (List.Sublist.refl _)))) ?_)))))))))))); exact k_again _ (by omega) ⟨1 + 1, [t0] ++ [q1], p || q2, e0_1, e3_1, e4_1, e5_1, e6_1, e15_1, e16_1, rfl, rfl, (by subst h9; rfl), by omega, (by simp; try omega), hG7, rfl⟩
      · refine zi (zO (zk (zr (zg (fun _ => R_addi e17_1 rfl (by omega)) (mI rfl (zn (zK (B' := [(w, No)]) (L' := _) (fun w h => h.drop (.cons _ (.cons _ (List.Sublist.refl _)))) ?_))))))); exact k_again _ (by omega) ⟨k + 1, ts ++ [q1], p || q2, e0_1, e3_1, e4_1, e5_1, e6_1, e15_1, e16_1, rfl, rfl, (by subst h9; rw [snoc0 (by omega), snoc1 (by omega)]; rfl), by omega, (by simp; try omega), hG7, rfl⟩
    · refine zw rfl rfl (bV h9) (zf fa58_1 rfl (zw rfl rfl (bV h9) (zL 0 z4 rfl rfl rfl (zg (v := .bool _) (fun _ => zF (bV h9) rfl) (zf fa58_1 e5_1 (zV 3 rfl z4 rfl rfl rfl rfl rfl rfl rfl (yC (mI rfl (zg (fun _ => R_lt rfl rfl) (yB ?_)))))))))); refine zD rfl (fun h11 => ?_) (fun h11 => ?_)
      · refine zr ?_
        rcases two_of htl (by omega) with ⟨rfl, rfl⟩ | ⟨rfl, t0, rfl⟩
        · refine mI rfl (zf fa58_0 rfl (zL 0 z5 rfl rfl rfl (zg (fun _ => R_iaA ar104 (by decide) e6_1 rfl (by omega)) (zV 2 rfl z5 rfl rfl rfl rfl rfl rfl rfl (zn (zO (zk (zr (zg (fun _ => R_addi e17_1 rfl (by omega)) (mI rfl (zn (zK (B' := [(w, No)]) (L' := _) (fun w h => h.drop (.cons _ (.cons _ (List.Sublist.refl _)))) ?_)))))))))))); exact k_again _ (by omega) ⟨0 + 1, [] ++ [q1], p || q2, e0_1, e3_1, e4_1, e5_1, e6_1, e15_1, e16_1, rfl, rfl, (by subst h9; rfl), by omega, (by simp; try omega), hG7, rfl⟩
        · refine mI rfl (zf fa58_0 rfl (zL 0 z5 rfl rfl rfl (zg (fun _ => R_iaA (i := 1) ar104 (by decide) e6_1 rfl (by omega)) (zV 2 rfl z5 rfl rfl rfl rfl rfl rfl rfl (zn (zO (zk (zr (zg (fun _ => R_addi e17_1 rfl (by omega)) (mI rfl (zn (zK (B' := [(w, No)]) (L' := _) (fun w h => h.drop (.cons _ (.cons _ (List.Sublist.refl _)))) ?_)))))))))))); exact k_again _ (by omega) ⟨1 + 1, [t0] ++ [q1], p || q2, e0_1, e3_1, e4_1, e5_1, e6_1, e15_1, e16_1, rfl, rfl, (by subst h9; rfl), by omega, (by simp; try omega), hG7, rfl⟩
      · refine zi (zO (zk (zr (zg (fun _ => R_addi e17_1 rfl (by omega)) (mI rfl (zn (zK (B' := [(w, No)]) (L' := _) (fun w h => h.drop (.cons _ (.cons _ (List.Sublist.refl _)))) ?_))))))); exact k_again _ (by omega) ⟨k + 1, ts ++ [q1], p || q2, e0_1, e3_1, e4_1, e5_1, e6_1, e15_1, e16_1, rfl, rfl, (by subst h9; rw [snoc0 (by omega), snoc1 (by omega)]; rfl), by omega, (by simp; try omega), hG7, rfl⟩
  · have hG4 : ofK vs (Ex.mk op at_ nm ks) = ruleK vs op at_ nm ks (ts.getD 0 0) (ts.getD 1 0) p := hG1.trans (kidsG_end (by omega) ts p _); clear hG1; generalize ts.getD 0 0 = a, ts.getD 1 0 = b at hG4 ⊢
    refine zX (zx (zx (b_here rfl (zk (zq (yA (zf fa52_0 e3_1 (zL 3 z5 rfl rfl rfl (yB (zB (yA ?_)))))))))))
    rcases op_ok9 ho1 with rfl | rfl | rfl | rfl | rfl | hop
    · have hG5 := hG4.trans rule_1
      refine zg (fun _ => R_eq rfl rfl) (aB rfl (yB (zE (congrArg Value.bool (decide_eq_true (by decide))) (yA (zf fa58_0 e5_1 (zV 1 rfl z5 rfl rfl rfl rfl rfl rfl rfl (yC (zf fa52_2 e3_1 (zL 3 z9 rfl rfl rfl (zC (fun w => zR Tryz.func61 rfl rfl rfl) rfl rfl (fun w h => digits_ok nm (by omega) w) (yB ?_))))))))))); refine c_cond rfl (fun h12 => ?_) (fun h12 => ?_)
      · refine zr (zf fa58_0 e5_1 (zV 1 rfl z5 rfl rfl rfl rfl rfl rfl rfl (zn (zO (zk (yA (zf fa58_0 e5_1 (zL 1 z5 rfl rfl rfl (zg (fun _ => R_ne rfl rfl) (zf fa52_1 e3_1 (zL 3 z3 rfl rfl rfl ?_))))))))))); refine w_need (pan := panK) (at_ := _) zm0 (fun w => zR Tryz.func65 rfl rfl rfl) rfl rfl (fun w h => need_ok _ _ w) (fun hb w' hx2 a ha => p_out ha ⟨_, hG5.trans (andK_er (needK_no (by (rw [Bool.eq_iff_iff]; simp only [decide_eq_true_eq, Bool.or_eq_true, Bool.and_eq_true, Bool.not_eq_true', decide_eq_false_iff_not]; grind)) hb)), rfl, hx2⟩) (fun hb13 => ?_)
        have hG13 := hG5.trans (andK_of (needK_yes (by (rw [Bool.eq_iff_iff]; simp only [decide_eq_true_eq, Bool.or_eq_true, Bool.and_eq_true, Bool.not_eq_true', decide_eq_false_iff_not]; grind)) hb13))
        refine yC (zY z58 e5_1 (fun _ h => h.at_ 1 rfl) rfl (zV 2 rfl z58 e4_1 rfl rfl rfl rfl rfl rfl (yB (ze (k_p (.inl rfl) (r_fin (.inl rfl) rfl (.agg rfl e4_1 z58 (fun _ h => h.at_ 2 rfl) rfl .nil) ?_)))))); exact fun w' hw => ⟨(_, _), hG13, (by (rw [if_pos h12]; rfl)), hw.fr _ zm0⟩
      · refine zi (zO (zk (yA (zf fa58_0 e5_1 (zL 1 z5 rfl rfl rfl (zg (fun _ => R_ne rfl rfl) (zf fa52_1 e3_1 (zL 3 z3 rfl rfl rfl ?_)))))))); refine w_need (pan := panK) (at_ := _) zm0 (fun w => zR Tryz.func65 rfl rfl rfl) rfl rfl (fun w h => need_ok _ _ w) (fun hb w' hx2 a ha => p_out ha ⟨_, hG5.trans (andK_er (needK_no (by (rw [Bool.eq_iff_iff]; simp only [decide_eq_true_eq, Bool.or_eq_true, Bool.and_eq_true, Bool.not_eq_true', decide_eq_false_iff_not]; grind)) hb)), rfl, hx2⟩) (fun hb14 => ?_)
        have hG14 := hG5.trans (andK_of (needK_yes (by (rw [Bool.eq_iff_iff]; simp only [decide_eq_true_eq, Bool.or_eq_true, Bool.and_eq_true, Bool.not_eq_true', decide_eq_false_iff_not]; grind)) hb14))
        refine yC (zY z58 e5_1 (fun _ h => h.at_ 1 rfl) rfl (zV 2 rfl z58 e4_1 rfl rfl rfl rfl rfl rfl (yB (ze (k_p (.inl rfl) (r_fin (.inl rfl) rfl (.agg rfl e4_1 z58 (fun _ h => h.at_ 2 rfl) rfl .nil) ?_)))))); exact fun w' hw => ⟨(_, _), hG14, (by (rw [if_neg (by rw [h12]; exact Bool.false_ne_true)]; rfl)), hw.fr _ zm0⟩
    · refine zg (fun _ => R_eq rfl rfl) (aB rfl (yB (zG (congrArg Value.bool (decide_eq_false (by decide))) (zq (yA (zg (fun _ => R_eq rfl rfl) (aB rfl (yB (zE (congrArg Value.bool (decide_eq_true (by decide))) (zi (zk (zE (congrArg Value.bool (decide_eq_true (by decide))) (yA (mS e0_1 (zf fa52_2 e3_1 (zL 3 z9 rfl rfl rfl (zC (fun w => zR Tryz.func62 rfl rfl rfl) rfl rfl (fun w h => find_ok vs va vc nm w (hv.nowT zm0 h) hvl) ?_)))))))))))))))))
      rcases hq15 : findV vs nm with _ | v15
      · have hG5 := hG4.trans (rule_2n hq15)
        refine zm rfl (zg (fun _ => R_extract rfl rfl) (zg (fun _ => R_extract rfl rfl) (zA zr54 (fun b16 gb16 ub16 => zV 0 rfl z54 rfl rfl rfl rfl rfl rfl rfl (aB rfl (yB (zq (yA (mB rfl (zg (fun _ => R_not rfl) (yB (zE rfl (zr (zf fa52_1 e3_1 (zL 4 z3 rfl rfl rfl ?_))))))))))))))); refine w_fail (pan := panK) (fl := (150, _)) zm0 (fun w => zR Tryz.func63 rfl rfl rfl) rfl rfl (fun w h => failK_ok 150 _ w) (fun w' hx2 a ha => p_out ha ⟨_, hG5, rfl, hx2⟩)
      · have hG5 := hG4.trans (rule_2s hq15)
        refine zm rfl (zg (fun _ => R_extract rfl rfl) (zg (fun _ => R_extract rfl rfl) (zA zr54 (fun b17 gb17 ub17 => zV 0 rfl z54 rfl rfl rfl rfl rfl rfl rfl (aB rfl (yB (zq (yA (mB rfl (zg (fun _ => R_not rfl) (yB (zG rfl (zi (zk (zq (yA (zf fa52_0 e3_1 (zL 4 z5 rfl rfl rfl (zg (fun _ => R_eq rfl rfl) (yB (zE (congrArg Value.bool (decide_eq_true (by decide))) (yA (zf fa54_1 rfl (zL 0 z5 rfl rfl rfl (zf fa54_3 rfl (zL 0 z4 rfl rfl rfl (zg (fun _ => R_build bt58 rfl) (zV 3 rfl z58 e4_1 rfl rfl rfl rfl rfl rfl (yB (ze (zt (zb (zt ((k_p (.inl rfl) (r_fin (.inl rfl) rfl (.agg rfl e4_1 z58 (fun _ h => h.at_ 3 rfl) rfl .nil) ?_)))))))))))))))))))))))))))))))))))); exact fun w' hw => ⟨(_, _), hG5, (by rfl), hw.fr _ zm0⟩
    · refine zg (fun _ => R_eq rfl rfl) (aB rfl (yB (zG (congrArg Value.bool (decide_eq_false (by decide))) (zq (yA (zg (fun _ => R_eq rfl rfl) (aB rfl (yB (zG (congrArg Value.bool (decide_eq_false (by decide))) (zr (zg (fun _ => R_eq rfl rfl) (aB rfl (yB (zE (congrArg Value.bool (decide_eq_true (by decide))) (yA (mS e0_1 (zf fa52_2 e3_1 (zL 3 z9 rfl rfl rfl (zC (fun w => zR Tryz.func62 rfl rfl rfl) rfl rfl (fun w h => find_ok vs va vc nm w (hv.nowT zm0 h) hvl) ?_)))))))))))))))))))
      rcases hq18 : findV vs nm with _ | v18
      · have hG5 := hG4.trans (rule_3n hq18)
        refine zm rfl (zg (fun _ => R_extract rfl rfl) (zg (fun _ => R_extract rfl rfl) (zA zr54 (fun b19 gb19 ub19 => zV 0 rfl z54 rfl rfl rfl rfl rfl rfl rfl (aB rfl (yB (zq (yA (mB rfl (zg (fun _ => R_not rfl) (yB (zE rfl (zr (zf fa52_1 e3_1 (zL 4 z3 rfl rfl rfl ?_))))))))))))))); refine w_fail (pan := panK) (fl := (150, _)) zm0 (fun w => zR Tryz.func63 rfl rfl rfl) rfl rfl (fun w h => failK_ok 150 _ w) (fun w' hx2 a ha => p_out ha ⟨_, hG5, rfl, hx2⟩)
      · obtain ⟨k0, rfl⟩ : ∃ k, ks = [k] := List.length_eq_one_iff.1 (rule3_len ho1)
        have hG5 := hG4.trans (rule_3s hq18)
        obtain ⟨cs, hA, hE⟩ := hks.get0 (k := 0) (e := k0) rfl; obtain ⟨b1, o1, rfl⟩ := hA.ptr; obtain ⟨op2, at2, nm2, ks2⟩ := k0; have hE2 := hE; unfold exM at hE2; obtain ⟨ka2, kc2, rfl, hkc2, hks2⟩ := hE2
        refine zm rfl (zg (fun _ => R_extract rfl rfl) (zg (fun _ => R_extract rfl rfl) (zA zr54 (fun b20 gb20 ub20 => zV 0 rfl z54 rfl rfl rfl rfl rfl rfl rfl (aB rfl (yB (zq (yA (mB rfl (zg (fun _ => R_not rfl) (yB (zG rfl (zi (zk (zq (yA (zf fa52_0 e3_1 (zL 4 z5 rfl rfl rfl (zg (fun _ => R_eq rfl rfl) (yB (zG (congrArg Value.bool (decide_eq_false (by decide))) (zi (zk (yA (w_makeMap (k := .u8) (fun mb gmb umb => w_insI 0 rfl unm108 unk5 rfl rfl rfl rfl (w_insI 0 rfl unm108 unk5 rfl rfl rfl rfl (w_insI 0 rfl unm108 unk5 rfl rfl rfl rfl (zm rfl (zf fa54_1 rfl (zL 1 z5 rfl rfl rfl (zC (fun w => zR Tryz.func64 rfl rfl rfl) rfl rfl (fun w h => lookB_ok v18.ty mb [(4, .int .u8 1), (3, .int .u8 2), (5, .int .u8 2)] (.int .u8 (idxT v18.ty : Nat)) w (h.at_ 0 rfl) (idx_look _)) (zf fa58_0 e5_1 (zV 3 rfl z5 rfl rfl rfl rfl rfl rfl rfl (yC (zf fa58_0 e5_1 (zL 3 z5 rfl rfl rfl (zg (fun _ => R_ne rfl rfl) (zf fa52_1 e3_1 (zL 5 z3 rfl rfl rfl ?_))))))))))))))))))))))))))))))))))))))))
        refine w_need (pan := panK) (at_ := _) zm0 (fun w => zR Tryz.func65 rfl rfl rfl) rfl rfl (fun w h => need_ok _ _ w) (fun hb w' hx2 a ha => p_out ha ⟨_, hG5.trans (andK_er (needK_no (by (rw [Bool.eq_iff_iff]; simp only [decide_eq_true_eq, Bool.or_eq_true, Bool.and_eq_true, Bool.not_eq_true', decide_eq_false_iff_not]; omega)) hb)), rfl, hx2⟩) (fun hb21 => ?_)
        have hG21 := hG5.trans (andK_of (needK_yes (by (rw [Bool.eq_iff_iff]; simp only [decide_eq_true_eq, Bool.or_eq_true, Bool.and_eq_true, Bool.not_eq_true', decide_eq_false_iff_not]; omega)) hb21))
        refine yB (zq (c_heldS mixed (zh (v := .slice _ _ _) 0 rfl (by kernel_rfl) rfl rfl (fun w h => h) (fun w h => R_move e0_1) (zh2 1 rfl rfl (fun w h => h) (fun w h => R_fa fa52_3 e3_1) (zh (v := .slice _ _ _) 2 rfl (by kernel_rfl) rfl rfl (fun w h => h) (fun w h => R_ld1 z47 rfl ((fun _ h => zc 5 rfl rfl h) w h)) (zh2 3 rfl rfl (fun w h => h) (fun w h => R_iaN (i := 0) sl47 rfl rfl (by exact Nat.succ_pos _)) (h_loadC 4 (l := [.int .u8 (op2 : Nat), .int .i64 at2, str nm2, .slice ka2 ks2.length kc2]) rfl (by kernel_rfl) (fun w h => h) z52 rfl rfl (fun w h j v hj => hA.cell (fun _ _ hh => hh) zm0 h j v hj) (h_loadA 5 rfl (by kernel_rfl) (fun w h => h) z58 e5_1 (fun _ h => h.at_ 3 rfl) rfl (zh2 6 rfl rfl (fun w h => h) (fun w h => R_iaA ar104 (by decide) e6_1 rfl (by decide)) (zh (v := .int _ _) 7 rfl (by kernel_rfl) rfl rfl (fun w h => h) (fun w h => R_ld1 z5 rfl ((fun _ h => zc 2 rfl rfl h) w h)) (zH2 8 (fun w h => h) (o_kc (V := (fun _ => .tuple #[])) (pan := panK) zm0 hG21 rfl (wn_none rfl) rfl (fun w => zR Tryz.func66 rfl rfl rfl) (fun w h => counted_ok _ _ _ _ _ _ p a w) (fun fl w' hx1 hx2 a ha => p_out ha ⟨fl, hx1, rfl, hx2⟩) (fun q22 hX22 hG22 => zN2 (fun w h => h) (zk (zr (zf fa54_3 rfl (zL 1 z4 rfl rfl rfl (zf fa58_1 e5_1 (zV 3 rfl z4 rfl rfl rfl rfl rfl rfl rfl (zn (zO (zk (yA (zf fa58_0 e5_1 (zL 3 z5 rfl rfl rfl (zg (fun _ => R_ne rfl rfl) (zf fa52_1 e3_1 (zL 5 z3 rfl rfl rfl ?_))))))))))))))))))))))))))))
        refine w_need (pan := panK) (at_ := _) zm0 (fun w => zR Tryz.func65 rfl rfl rfl) rfl rfl (fun w h => need_ok _ _ w) (fun hb w' hx2 a ha => p_out ha ⟨_, hG22.trans (andK_er (needK_no (by (rw [Bool.eq_iff_iff]; simp only [decide_eq_true_eq, Bool.or_eq_true, Bool.and_eq_true, Bool.not_eq_true', decide_eq_false_iff_not]; omega)) hb)), rfl, hx2⟩) (fun hb23 => ?_)
        have hG23 := hG22.trans (andK_of (needK_yes (by (rw [Bool.eq_iff_iff]; simp only [decide_eq_true_eq, Bool.or_eq_true, Bool.and_eq_true, Bool.not_eq_true', decide_eq_false_iff_not]; omega)) hb23))
        refine yC (zY z58 e5_1 (fun _ h => h.at_ 3 rfl) rfl (zV 4 rfl z58 e4_1 rfl rfl rfl rfl rfl rfl (yB (ze (k_p (.inl rfl) (r_fin (.inl rfl) rfl (.agg rfl e4_1 z58 (fun _ h => h.at_ 4 rfl) rfl .nil) ?_)))))); exact fun w' hw => ⟨(_, _), hG23, (by rfl), hw.fr _ zm0⟩
    · refine zg (fun _ => R_eq rfl rfl) (aB rfl (yB (zG (congrArg Value.bool (decide_eq_false (by decide))) (zq (yA (zg (fun _ => R_eq rfl rfl) (aB rfl (yB (zG (congrArg Value.bool (decide_eq_false (by decide))) (zr (zg (fun _ => R_eq rfl rfl) (aB rfl (yB (zG (congrArg Value.bool (decide_eq_false (by decide))) (yA (zg (fun _ => R_eq rfl rfl) (aB rfl (yB (zE (congrArg Value.bool (decide_eq_true (by decide))) (yA (aB rfl (yB (zq (yA (zf fa52_2 e3_1 (zL 3 z9 rfl rfl rfl (zY z104 e6_1 (fun _ h => h.at_ 0 rfl) rfl ?_)))))))))))))))))))))))))))
      rcases hc : callK nm a b with _ | ct
      · refine zC (v := .tuple #[.int .u8 0, .bool false]) (fun w => zR Tryz.func67 rfl rfl rfl) rfl rfl (fun w h => by have := calls_ok nm a b w; rw [hc] at this; exact this) ?_
        have hG5 := hG4.trans (rule_4n hc)
        refine zm rfl (zg (fun _ => R_extract rfl rfl) (zg (fun _ => R_extract rfl rfl) (zf fa58_0 e5_1 (zV 1 rfl z5 rfl rfl rfl rfl rfl rfl rfl (aB rfl (yC (mB rfl (zg (fun _ => R_not rfl) (yB (zE rfl (zr (zf fa52_1 e3_1 (zL 3 z3 rfl rfl rfl ?_))))))))))))); refine w_fail (pan := panK) (fl := (150, _)) zm0 (fun w => zR Tryz.func63 rfl rfl rfl) rfl rfl (fun w h => failK_ok 150 _ w) (fun w' hx2 a ha => p_out ha ⟨_, hG5, rfl, hx2⟩)
      · refine zC (v := .tuple #[.int .u8 (ct : Nat), .bool true]) (fun w => zR Tryz.func67 rfl rfl rfl) rfl rfl (fun w h => by have := calls_ok nm a b w; rw [hc] at this; exact this) ?_
        have hG5 := hG4.trans (rule_4s hc)
        refine zm rfl (zg (fun _ => R_extract rfl rfl) (zg (fun _ => R_extract rfl rfl) (zf fa58_0 e5_1 (zV 1 rfl z5 rfl rfl rfl rfl rfl rfl rfl (aB rfl (yC (mB rfl (zg (fun _ => R_not rfl) (yB (zG rfl (zi (zk (yA (aI rfl (yB (zq (yA (zf fa52_2 e3_1 (zL 3 z9 rfl rfl rfl (zg (fun _ => R_seq rfl rfl) (yB ?_))))))))))))))))))))); refine zD rfl (fun h24 => ?_) (fun h24 => ?_)
        · refine zr (aI rfl (yC (zf fa52_3 e3_1 (zL 3 z47 rfl rfl rfl (zg (fun _ => R_len sl47 rfl) (mI rfl (zg (fun _ => R_eq rfl rfl) (zf fa52_1 e3_1 (zL 3 z3 rfl rfl rfl ?_))))))))); refine w_need (pan := panK) (at_ := _) zm0 (fun w => zR Tryz.func65 rfl rfl rfl) rfl rfl (fun w h => need_ok _ _ w) (fun hb w' hx2 a ha => p_out ha ⟨_, hG5.trans (andK_er (needK_no (by (rw [Bool.eq_iff_iff]; simp only [decide_eq_true_eq, Bool.or_eq_true, Bool.and_eq_true, Bool.not_eq_true', decide_eq_false_iff_not]; grind)) hb)), rfl, hx2⟩) (fun hb25 => ?_)
          have hG25 := hG5.trans (andK_of (needK_yes (by (rw [Bool.eq_iff_iff]; simp only [decide_eq_true_eq, Bool.or_eq_true, Bool.and_eq_true, Bool.not_eq_true', decide_eq_false_iff_not]; grind)) hb25))
          refine yB (zr (zf fa58_1 e5_1 (zL 1 z4 rfl rfl rfl (mB rfl ?_)))); refine zp (t := 128) rfl (fun h26 => ?_) (fun h26 => ?_)
          · refine zw rfl rfl (bV h26) (zf fa52_2 e3_1 (zw rfl rfl (bV h26) (zL 3 z9 rfl rfl rfl (zw rfl rfl (bV h26) (zg (fun _ => R_sne rfl rfl) (zg (v := .bool _) (fun _ => zT (bV h26) rfl) (zf fa58_1 e5_1 (zV 1 rfl z4 rfl rfl rfl rfl rfl rfl rfl (zn (zO (zk (yA (zf fa58_0 e5_1 (zL 1 z5 rfl rfl rfl (zg (fun _ => R_ne rfl rfl) (zf fa52_1 e3_1 (zL 3 z3 rfl rfl rfl ?_)))))))))))))))))
            refine w_need (pan := panK) (at_ := _) zm0 (fun w => zR Tryz.func65 rfl rfl rfl) rfl rfl (fun w h => need_ok _ _ w) (fun hb w' hx2 a ha => p_out ha ⟨_, hG25.trans (andK_er (needK_no (by (rw [Bool.eq_iff_iff]; simp only [decide_eq_true_eq, Bool.or_eq_true, Bool.and_eq_true, Bool.not_eq_true', decide_eq_false_iff_not]; omega)) hb)), rfl, hx2⟩) (fun hb27 => ?_)
            have hG27 := hG25.trans (andK_of (needK_yes (by (rw [Bool.eq_iff_iff]; simp only [decide_eq_true_eq, Bool.or_eq_true, Bool.and_eq_true, Bool.not_eq_true', decide_eq_false_iff_not]; omega)) hb27))
            refine yC (zY z58 e5_1 (fun _ h => h.at_ 1 rfl) rfl (zV 2 rfl z58 e4_1 rfl rfl rfl rfl rfl rfl (yB (ze (k_p (.inl rfl) (r_fin (.inl rfl) rfl (.agg rfl e4_1 z58 (fun _ h => h.at_ 2 rfl) rfl .nil) ?_)))))); exact fun w' hw => ⟨(_, _), hG27, (by (rw [h26, Bool.true_and, decide_not]; rfl)), hw.fr _ zm0⟩
          · refine zs rfl rfl (bV h26) (zs rfl rfl (bV h26) (zs rfl rfl (bV h26) (zg (v := .bool _) (fun _ => zF (bV h26) rfl) (zf fa58_1 e5_1 (zV 1 rfl z4 rfl rfl rfl rfl rfl rfl rfl (zn (zO (zk (yA (zf fa58_0 e5_1 (zL 1 z5 rfl rfl rfl (zg (fun _ => R_ne rfl rfl) (zf fa52_1 e3_1 (zL 3 z3 rfl rfl rfl ?_))))))))))))))
            refine w_need (pan := panK) (at_ := _) zm0 (fun w => zR Tryz.func65 rfl rfl rfl) rfl rfl (fun w h => need_ok _ _ w) (fun hb w' hx2 a ha => p_out ha ⟨_, hG25.trans (andK_er (needK_no (by (rw [Bool.eq_iff_iff]; simp only [decide_eq_true_eq, Bool.or_eq_true, Bool.and_eq_true, Bool.not_eq_true', decide_eq_false_iff_not]; omega)) hb)), rfl, hx2⟩) (fun hb28 => ?_)
            have hG28 := hG25.trans (andK_of (needK_yes (by (rw [Bool.eq_iff_iff]; simp only [decide_eq_true_eq, Bool.or_eq_true, Bool.and_eq_true, Bool.not_eq_true', decide_eq_false_iff_not]; omega)) hb28))
            refine yC (zY z58 e5_1 (fun _ h => h.at_ 1 rfl) rfl (zV 2 rfl z58 e4_1 rfl rfl rfl rfl rfl rfl (yB (ze (k_p (.inl rfl) (r_fin (.inl rfl) rfl (.agg rfl e4_1 z58 (fun _ h => h.at_ 2 rfl) rfl .nil) ?_)))))); exact fun w' hw => ⟨(_, _), hG28, (by (rw [h26]; rfl)), hw.fr _ zm0⟩
        · refine zi (zk (yA (zf fa52_3 e3_1 (zL 3 z47 rfl rfl rfl (zg (fun _ => R_len sl47 rfl) (mI rfl (zg (fun _ => R_eq rfl rfl) (zf fa52_1 e3_1 (zL 3 z3 rfl rfl rfl ?_))))))))); refine w_need (pan := panK) (at_ := _) zm0 (fun w => zR Tryz.func65 rfl rfl rfl) rfl rfl (fun w h => need_ok _ _ w) (fun hb w' hx2 a ha => p_out ha ⟨_, hG5.trans (andK_er (needK_no (by (rw [Bool.eq_iff_iff]; simp only [decide_eq_true_eq, Bool.or_eq_true, Bool.and_eq_true, Bool.not_eq_true', decide_eq_false_iff_not]; grind)) hb)), rfl, hx2⟩) (fun hb29 => ?_)
          have hG29 := hG5.trans (andK_of (needK_yes (by (rw [Bool.eq_iff_iff]; simp only [decide_eq_true_eq, Bool.or_eq_true, Bool.and_eq_true, Bool.not_eq_true', decide_eq_false_iff_not]; grind)) hb29))
          refine yB (zr (zf fa58_1 e5_1 (zL 1 z4 rfl rfl rfl (mB rfl ?_)))); refine zp (t := 128) rfl (fun h30 => ?_) (fun h30 => ?_)
          · refine zw rfl rfl (bV h30) (zf fa52_2 e3_1 (zw rfl rfl (bV h30) (zL 3 z9 rfl rfl rfl (zw rfl rfl (bV h30) (zg (fun _ => R_sne rfl rfl) (zg (v := .bool _) (fun _ => zT (bV h30) rfl) (zf fa58_1 e5_1 (zV 1 rfl z4 rfl rfl rfl rfl rfl rfl rfl (zn (zO (zk (yA (zf fa58_0 e5_1 (zL 1 z5 rfl rfl rfl (zg (fun _ => R_ne rfl rfl) (zf fa52_1 e3_1 (zL 3 z3 rfl rfl rfl ?_)))))))))))))))))
            refine w_need (pan := panK) (at_ := _) zm0 (fun w => zR Tryz.func65 rfl rfl rfl) rfl rfl (fun w h => need_ok _ _ w) (fun hb w' hx2 a ha => p_out ha ⟨_, hG29.trans (andK_er (needK_no (by (rw [Bool.eq_iff_iff]; simp only [decide_eq_true_eq, Bool.or_eq_true, Bool.and_eq_true, Bool.not_eq_true', decide_eq_false_iff_not]; omega)) hb)), rfl, hx2⟩) (fun hb31 => ?_)
            have hG31 := hG29.trans (andK_of (needK_yes (by (rw [Bool.eq_iff_iff]; simp only [decide_eq_true_eq, Bool.or_eq_true, Bool.and_eq_true, Bool.not_eq_true', decide_eq_false_iff_not]; omega)) hb31))
            refine yC (zY z58 e5_1 (fun _ h => h.at_ 1 rfl) rfl (zV 2 rfl z58 e4_1 rfl rfl rfl rfl rfl rfl (yB (ze (k_p (.inl rfl) (r_fin (.inl rfl) rfl (.agg rfl e4_1 z58 (fun _ h => h.at_ 2 rfl) rfl .nil) ?_)))))); exact fun w' hw => ⟨(_, _), hG31, (by (rw [h30, Bool.true_and, decide_not]; rfl)), hw.fr _ zm0⟩
          · refine zs rfl rfl (bV h30) (zs rfl rfl (bV h30) (zs rfl rfl (bV h30) (zg (v := .bool _) (fun _ => zF (bV h30) rfl) (zf fa58_1 e5_1 (zV 1 rfl z4 rfl rfl rfl rfl rfl rfl rfl (zn (zO (zk (yA (zf fa58_0 e5_1 (zL 1 z5 rfl rfl rfl (zg (fun _ => R_ne rfl rfl) (zf fa52_1 e3_1 (zL 3 z3 rfl rfl rfl ?_))))))))))))))
            refine w_need (pan := panK) (at_ := _) zm0 (fun w => zR Tryz.func65 rfl rfl rfl) rfl rfl (fun w h => need_ok _ _ w) (fun hb w' hx2 a ha => p_out ha ⟨_, hG29.trans (andK_er (needK_no (by (rw [Bool.eq_iff_iff]; simp only [decide_eq_true_eq, Bool.or_eq_true, Bool.and_eq_true, Bool.not_eq_true', decide_eq_false_iff_not]; omega)) hb)), rfl, hx2⟩) (fun hb32 => ?_)
            have hG32 := hG29.trans (andK_of (needK_yes (by (rw [Bool.eq_iff_iff]; simp only [decide_eq_true_eq, Bool.or_eq_true, Bool.and_eq_true, Bool.not_eq_true', decide_eq_false_iff_not]; omega)) hb32))
            refine yC (zY z58 e5_1 (fun _ h => h.at_ 1 rfl) rfl (zV 2 rfl z58 e4_1 rfl rfl rfl rfl rfl rfl (yB (ze (k_p (.inl rfl) (r_fin (.inl rfl) rfl (.agg rfl e4_1 z58 (fun _ h => h.at_ 2 rfl) rfl .nil) ?_)))))); exact fun w' hw => ⟨(_, _), hG32, (by (rw [h30]; rfl)), hw.fr _ zm0⟩
    · have hG5 := hG4.trans rule_5
      refine zg (fun _ => R_eq rfl rfl) (aB rfl (yB (zG (congrArg Value.bool (decide_eq_false (by decide))) (zq (yA (zg (fun _ => R_eq rfl rfl) (aB rfl (yB (zG (congrArg Value.bool (decide_eq_false (by decide))) (zr (zg (fun _ => R_eq rfl rfl) (aB rfl (yB (zG (congrArg Value.bool (decide_eq_false (by decide))) (yA (zg (fun _ => R_eq rfl rfl) (aB rfl (yB (zG (congrArg Value.bool (decide_eq_false (by decide))) (yA (zg (fun _ => R_eq rfl rfl) (aB rfl (yB (zE (congrArg Value.bool (decide_eq_true (by decide))) (yA (zg (fun _ => R_iaA ar104 (by decide) e6_1 rfl (by decide)) (zL 0 z5 rfl rfl rfl (zg (fun _ => R_le rfl rfl) (yB ?_))))))))))))))))))))))))))))); refine zD rfl (fun h33 => ?_) (fun h33 => ?_)
      · refine zr (zg (fun _ => R_iaA ar104 (by decide) e6_1 rfl (by decide)) (zL 0 z5 rfl rfl rfl (zf fa58_0 e5_1 (zV 1 rfl z5 rfl rfl rfl rfl rfl rfl rfl (zn (zO (zk (yA (zf fa58_0 e5_1 (zL 1 z5 rfl rfl rfl (zg (fun _ => R_ne rfl rfl) (zf fa52_1 e3_1 (zL 3 z3 rfl rfl rfl ?_)))))))))))))
        refine w_need (pan := panK) (at_ := _) zm0 (fun w => zR Tryz.func65 rfl rfl rfl) rfl rfl (fun w h => need_ok _ _ w) (fun hb w' hx2 a ha => p_out ha ⟨_, hG5.trans (andK_er (needK_no (by (rw [Bool.eq_iff_iff]; simp only [decide_eq_true_eq, Bool.or_eq_true, Bool.and_eq_true, Bool.not_eq_true', decide_eq_false_iff_not]; grind)) hb)), rfl, hx2⟩) (fun hb34 => ?_)
        have hG34 := hG5.trans (andK_of (needK_yes (by (rw [Bool.eq_iff_iff]; simp only [decide_eq_true_eq, Bool.or_eq_true, Bool.and_eq_true, Bool.not_eq_true', decide_eq_false_iff_not]; grind)) hb34))
        refine yC (zY z58 e5_1 (fun _ h => h.at_ 1 rfl) rfl (zV 2 rfl z58 e4_1 rfl rfl rfl rfl rfl rfl (yB (ze (k_p (.inl rfl) (r_fin (.inl rfl) rfl (.agg rfl e4_1 z58 (fun _ h => h.at_ 2 rfl) rfl .nil) ?_)))))); exact fun w' hw => ⟨(_, _), hG34, (by (rw [if_pos (by omega)]; rfl)), hw.fr _ zm0⟩
      · refine zi (zO (zk (yA (zf fa58_0 e5_1 (zL 1 z5 rfl rfl rfl (zg (fun _ => R_ne rfl rfl) (zf fa52_1 e3_1 (zL 3 z3 rfl rfl rfl ?_)))))))); refine w_need (pan := panK) (at_ := _) zm0 (fun w => zR Tryz.func65 rfl rfl rfl) rfl rfl (fun w h => need_ok _ _ w) (fun hb w' hx2 a ha => p_out ha ⟨_, hG5.trans (andK_er (needK_no (by (rw [Bool.eq_iff_iff]; simp only [decide_eq_true_eq, Bool.or_eq_true, Bool.and_eq_true, Bool.not_eq_true', decide_eq_false_iff_not]; grind)) hb)), rfl, hx2⟩) (fun hb35 => ?_)
        have hG35 := hG5.trans (andK_of (needK_yes (by (rw [Bool.eq_iff_iff]; simp only [decide_eq_true_eq, Bool.or_eq_true, Bool.and_eq_true, Bool.not_eq_true', decide_eq_false_iff_not]; grind)) hb35))
        refine yC (zY z58 e5_1 (fun _ h => h.at_ 1 rfl) rfl (zV 2 rfl z58 e4_1 rfl rfl rfl rfl rfl rfl (yB (ze (k_p (.inl rfl) (r_fin (.inl rfl) rfl (.agg rfl e4_1 z58 (fun _ h => h.at_ 2 rfl) rfl .nil) ?_)))))); exact fun w' hw => ⟨(_, _), hG35, (by (rw [if_neg (by omega)]; rfl)), hw.fr _ zm0⟩
    · have hG5 := hG4.trans (rule_6 hop)
      refine zg (fun _ => R_eq rfl rfl) (aB rfl (yB ?_)); refine zD rfl (fun h36 => ?_) (fun h36 => ?_)
      · exfalso; omega
      · refine zq (yA (zg (fun _ => R_eq rfl rfl) (aB rfl (yB ?_)))); refine zD rfl (fun h37 => ?_) (fun h37 => ?_)
        · exfalso; omega
        · refine zr (zg (fun _ => R_eq rfl rfl) (aB rfl (yB ?_))); refine zD rfl (fun h38 => ?_) (fun h38 => ?_)
          · exfalso; omega
          · refine yA (zg (fun _ => R_eq rfl rfl) (aB rfl (yB ?_))); refine zD rfl (fun h39 => ?_) (fun h39 => ?_)
            · exfalso; omega
            · refine yA (zg (fun _ => R_eq rfl rfl) (aB rfl (yB ?_))); refine zD rfl (fun h40 => ?_) (fun h40 => ?_)
              · exfalso; omega
              · refine zr (zf fa52_0 e3_1 (zL 3 z5 rfl rfl rfl (zY z104 e6_1 (fun _ h => h.at_ 0 rfl) rfl (zC (fun w => zR Tryz.func68 rfl rfl rfl) rfl rfl (fun w h => joined_ok op a b w) (zf fa58_0 e5_1 (zV 1 rfl z5 rfl rfl rfl rfl rfl rfl rfl (zn (zO (zk (yA (zf fa58_0 e5_1 (zL 1 z5 rfl rfl rfl (zg (fun _ => R_ne rfl rfl) (zf fa52_1 e3_1 (zL 3 z3 rfl rfl rfl ?_)))))))))))))))
                refine w_need (pan := panK) (at_ := _) zm0 (fun w => zR Tryz.func65 rfl rfl rfl) rfl rfl (fun w h => need_ok _ _ w) (fun hb w' hx2 a ha => p_out ha ⟨_, hG5.trans (andK_er (needK_no (by (rw [Bool.eq_iff_iff]; simp only [decide_eq_true_eq, Bool.or_eq_true, Bool.and_eq_true, Bool.not_eq_true', decide_eq_false_iff_not]; omega)) hb)), rfl, hx2⟩) (fun hb41 => ?_)
                have hG41 := hG5.trans (andK_of (needK_yes (by (rw [Bool.eq_iff_iff]; simp only [decide_eq_true_eq, Bool.or_eq_true, Bool.and_eq_true, Bool.not_eq_true', decide_eq_false_iff_not]; omega)) hb41))
                refine yC (zY z58 e5_1 (fun _ h => h.at_ 1 rfl) rfl (zV 2 rfl z58 e4_1 rfl rfl rfl rfl rfl rfl (yB (ze (k_p (.inl rfl) (r_fin (.inl rfl) rfl (.agg rfl e4_1 z58 (fun _ h => h.at_ 2 rfl) rfl .nil) ?_)))))); exact fun w' hw => ⟨(_, _), hG41, (by rfl), hw.fr _ zm0⟩

theorem of_all : ∀ n : Nat, n ≤ 10000000 → OfH n
  | 0, _ => fun _ _ _ _ _ _ h => absurd h (Nat.not_lt_zero _)
  | n + 1, h => fun x cs vs va vc w hx hok hm hv hvl => of_step n (of_all n (by omega)) (by omega) x cs vs va vc w hx hok hm hv hvl
theorem of_ok : OfH 10000000 := of_all _ (Nat.le_refl _)

theorem count_ok (x : Ex) (cs : List Value) (vs : List Vr) (va : Option Addr) (vc : Nat) (w : World) (hx : exW x < 10000000) (hok : exOk x = true) (hm : exM w (fun _ => True) x cs) (hv : vrsV w (fun _ => True) vs (va, vc)) (hvl : vs.length ≤ 90000000) :
    RetP Tryz.prog 82 #[.slice va vs.length vc, .agg cs.toArray] w (RK (fun _ => .tuple #[]) (countK vs x) w) (EK panK (countK vs x) w) := by
  obtain ⟨op, at_, nm, ks⟩ := x
  have hm2 := hm
  unfold exM at hm2
  obtain ⟨ka, kc, rfl, hkc, hks⟩ := hm2
  have hx2 := hx
  unfold exW at hx2
  have hG : countK vs (Ex.mk op at_ nm ks) = andK (ofK vs (Ex.mk op at_ nm ks)) (fun k => countedK (Ex.mk op at_ nm ks) k) := rfl
  refine enterP (S := No) (l := [_, _]) (L := []) 14 Tryz.func82 rfl rfl rfl (St.start w No) (yA (w_boxA rfl (fun t3b gt3b ut3b => yC (mS rfl (zY z52 rfl (fun _ h => h.at_ 0 rfl) rfl (w_kc (V := kdV) (pan := panK) zm0 hG (fun w => zR Tryz.func41 rfl rfl rfl) rfl rfl (fun w h => of_ok _ _ vs va vc w hx hok (hm.nowT zm0 h) (hv.nowT zm0 h) hvl) (fun fl w' hx1 hx2 a ha => p_out ha ⟨fl, hx1, rfl, hx2⟩) (fun q2 hX2 hG2 => ?_)))))))
  obtain ⟨q1, q2⟩ := q2
  refine zA zr58 (fun t4b gt4b ut4b => zV 0 rfl z58 rfl rfl rfl rfl rfl rfl rfl (yB (zr (mS rfl (zY z52 rfl (fun _ h => h.at_ 1 rfl) rfl (zY z58 rfl (fun _ h => h.at_ 0 rfl) rfl (zf fa58_0 rfl (zL 0 z5 rfl rfl rfl (w_kc (V := (fun _ => .tuple #[])) (pan := panK) zm0 (hG2.trans (andK_unit _).symm) (fun w => zR Tryz.func66 rfl rfl rfl) rfl rfl (fun w h => counted_ok _ _ _ _ _ _ q2 q1 w) (fun fl w' hx1 hx2 a ha => p_out ha ⟨fl, hx1, rfl, hx2⟩) (fun q4 hX4 hG4 => zn (k_p (.inr rfl) (r_none (.inr rfl) rfl ?_)))))))))))); exact fun w' hw => ⟨_, hG4, rfl, hw.fr _ zm0⟩

def SmoothH (n : Nat) : Prop := ∀ (x : Ex) (cs : List Value) (w : World), exW x < n → exM w (fun _ => True) x cs → RetP Tryz.prog 85 #[.agg cs.toArray] w (RK (fun _ => .tuple #[]) (smoothK x) w) (EK panK (smoothK x) w)

theorem smooth_step (n : Nat) (ih : SmoothH n) (hn : n ≤ 10000000) (x : Ex) (cs : List Value) (w : World) (hx : exW x < n + 1) (hm : exM w (fun _ => True) x cs) :
    RetP Tryz.prog 85 #[.agg cs.toArray] w (RK (fun _ => .tuple #[]) (smoothK x) w) (EK panK (smoothK x) w) := by
  obtain ⟨op, at_, nm, ks⟩ := x
  have hm2 := hm
  unfold exM at hm2
  obtain ⟨ka, kc, rfl, hkc, hks⟩ := hm2
  have hx2 := hx
  unfold exW at hx2
  have hG : smoothK (Ex.mk op at_ nm ks) = andK (smoothsK ks) (fun _ => needK (!decide (op = 4) || !decide (nm ∈ roughS)) at_) := by rw [smoothK]
  refine enterP (S := No) (l := [_]) (L := []) 27 Tryz.func85 rfl rfl rfl (St.start w No) (yA (w_boxA rfl (fun t1b gt1b ut1b => yB (zq (yA (zf fa52_3 rfl (zL 0 z47 rfl rfl rfl (zg (fun _ => R_len sl47 rfl) (mI rfl (yB (zB (c_loop (fun m e B L => ∃ (k : Nat), e 1 = .pointer (some ⟨t1b, 0, none⟩) ∧ e 5 = .slice ka ks.length kc ∧ e 6 = .int .i64 (ks.length : Nat) ∧ e 7 = .int .i64 (k : Nat) ∧ B = [(w, No)] ∧ L = [(t1b, cel [.int .u8 (op : Nat), .int .i64 at_, str nm, .slice ka ks.length kc] 52)] ∧ k ≤ ks.length ∧ smoothK (Ex.mk op at_ nm ks) = andK (smoothsK (ks.drop k)) (fun _ => needK (!decide (op = 4) || !decide (nm ∈ roughS)) at_) ∧ m = ks.length - k) _ ⟨0, rfl, rfl, rfl, rfl, rfl, rfl, Nat.zero_le _, hG, rfl⟩ ?_))))))))))))
  rintro m e B L ⟨k, e1_1, e5_1, e6_1, e7_1, rfl, rfl, hk, hG1, rfl⟩
  refine yA (zg (fun _ => R_lt e7_1 e6_1) (yB (zq ?_))); refine zD rfl (fun h2 => ?_) (fun h2 => ?_)
  · have hlt : k < ks.length := (by omega); obtain ⟨x, hxk⟩ : ∃ x, ks[k]? = some x := ⟨_, List.getElem?_eq_getElem hlt⟩; obtain ⟨cs, hA, hE⟩ := hks.get0 hxk; have hxn := exsW_mem (List.mem_of_getElem? hxk); obtain ⟨b1, o1, rfl⟩ := hA.ptr; have hG2 := hG1.trans (smoothsK_step hxk _); obtain ⟨op2, at2, nm2, ks2⟩ := x; have hE2 := hE; unfold exM at hE2; obtain ⟨ka2, kc2, rfl, hkc2, hks2⟩ := hE2
    refine zi (zk (zq (zB (yA (zg (fun _ => R_iaN (i := k) sl47 e5_1 e7_1 (by omega)) (w_loadC (l := [.int .u8 (op2 : Nat), .int .i64 at2, str nm2, .slice ka2 ks2.length kc2]) z52 rfl rfl (fun w h j v hj => hA.cell (fun _ _ hh => hh) zm0 h j v hj) (zA zr52 (fun t3b gt3b ut3b => zV 0 rfl z52 rfl rfl rfl rfl rfl rfl rfl (yB (zr (zY z52 rfl (fun _ h => h.at_ 0 rfl) rfl (w_kc (V := (fun _ => .tuple #[])) (pan := panK) zm0 hG2 (fun w => zR Tryz.func85 rfl rfl rfl) rfl rfl (fun w h => ih _ _ w (by omega) (hE.nowT zm0 h)) (fun fl w' hx1 hx2 a ha => p_out ha ⟨fl, hx1, rfl, hx2⟩) (fun q4 hX4 hG4 => zn (zO (zk (zr (zg (fun _ => R_addi e7_1 rfl (by omega)) (mI rfl (zn (zK (B' := [(w, No)]) (L' := _) (fun w h => h.drop (List.sublist_cons_self _ _)) ?_)))))))))))))))))))); exact k_again _ (by omega) ⟨k + 1, e1_1, e5_1, e6_1, rfl, rfl, rfl, by omega, hG4, rfl⟩
  · have hG4 : smoothK (Ex.mk op at_ nm ks) = needK (!decide (op = 4) || !decide (nm ∈ roughS)) at_ := hG1.trans (smoothsK_end (by omega) _)
    refine zX (zx (zx (b_here rfl (zk (c_heldS mixed (zh2 0 rfl rfl (fun w h => h) (fun w h => R_fa fa52_0 e1_1) (zh (v := .int _ _) 1 rfl (by kernel_rfl) rfl rfl (fun w h => h) (fun w h => R_ld1 z5 rfl ((fun _ h => zc 0 rfl rfl h) w h)) (zh2 2 rfl rfl (fun w h => h) (fun w h => R_ne rfl rfl) (zh (v := .bool _) 3 rfl (by kernel_rfl) rfl rfl (fun w h => h) (fun w h => R_move rfl) ?_))))))))); refine h_splitD (t := 17) rfl (fun h5 => ?_) (fun h5 => ?_)
    · refine h_skip 4 rfl (by kernel_rfl) rfl rfl rfl (bT h5) rfl (fun w h => h) (h_skip 5 rfl (by kernel_rfl) rfl rfl rfl (bT h5) rfl (fun w h => h) (h_skip 6 rfl (by kernel_rfl) rfl rfl rfl (bT h5) rfl (fun w h => h) (h_skip 7 rfl (by kernel_rfl) rfl rfl rfl (bT h5) rfl (fun w h => h) (h_skip 8 rfl (by kernel_rfl) rfl rfl rfl (bT h5) rfl (fun w h => h) (zh (v := .bool _) 9 rfl (by kernel_rfl) rfl rfl (fun w h => h) (fun w h => zT (bT h5) rfl) (zh2 10 rfl rfl (fun w h => h) (fun w h => R_fa fa52_1 e1_1) (zh (v := .int _ _) 11 rfl (by kernel_rfl) rfl rfl (fun w h => h) (fun w h => R_ld1 z3 rfl ((fun _ h => zc 0 rfl rfl h) w h)) (zH2 12 (fun w h => h) ?_))))))))
      refine o_need (pan := panK) (at_ := _) zm0 rfl (wn_none rfl) rfl (fun w => zR Tryz.func65 rfl rfl rfl) (fun w h => need_ok _ _ w) (fun hb w' hx2 a ha => p_out ha ⟨_, (hG4.trans (andK_unit _).symm).trans (andK_er (needK_no (by (rw [Bool.eq_iff_iff]; simp only [decide_eq_true_eq, Bool.or_eq_true, Bool.and_eq_true, Bool.not_eq_true', decide_eq_false_iff_not]; grind)) hb)), rfl, hx2⟩) (fun hb6 => ?_)
      have hG6 := (hG4.trans (andK_unit _).symm).trans (andK_of (needK_yes (by (rw [Bool.eq_iff_iff]; simp only [decide_eq_true_eq, Bool.or_eq_true, Bool.and_eq_true, Bool.not_eq_true', decide_eq_false_iff_not]; grind)) hb6))
      refine zN2 (fun w h => h) (k_p (.inr rfl) (r_none (.inr rfl) rfl ?_)); exact fun w' hw => ⟨_, hG6, rfl, hw.fr _ zm0⟩
    · refine h_takeG 5 rfl (by kernel_rfl) rfl rfl rfl (bF h5) rfl (fun w h => h) (fun w h => R_fa fa52_2 e1_1) (h_takeG (v := str _) 6 rfl (by kernel_rfl) rfl rfl rfl (bF h5) rfl (fun w h => h) (fun w h => R_ld1 z9 rfl ((fun _ h => zc 0 rfl rfl h) w h)) (zh2 10 rfl rfl (fun w h => h) (fun w h => R_fa fa52_1 e1_1) (zh (v := .int _ _) 11 rfl (by kernel_rfl) rfl rfl (fun w h => h) (fun w h => R_ld1 z3 rfl ((fun _ h => zc 0 rfl rfl h) w h)) (zH2 4 (fun w h => h) (o_bsliceV rfl (wn_yes rfl rfl rfl (bF h5)) slt153 (by decide) rfl rfl (fun sb gsb usb => zH2 7 (fun w h => (h.drop (.cons _ (List.Sublist.refl _)))) (o_pureW rfl (wn_yes rfl rfl rfl (bF h5)) rfl (fun w => zR Tryz.func116 rfl rfl rfl) (fun w h => hasW_ok roughS nm sb w (by decide) (h.at_ 0 rfl)) (h_takeG 8 rfl (by kernel_rfl) rfl rfl rfl (bF h5) rfl (fun w h => (h.drop (.cons _ (List.Sublist.refl _)))) (fun w h => R_not rfl) (zh (v := .bool _) 9 rfl (by kernel_rfl) rfl rfl (fun w h => (h.drop (.cons _ (List.Sublist.refl _)))) (fun w h => zF (bF h5) rfl) (zH2 12 (fun w h => (h.drop (.cons _ (List.Sublist.refl _)))) ?_))))))))))
      refine o_need (pan := panK) (at_ := _) zm0 rfl (wn_none rfl) rfl (fun w => zR Tryz.func65 rfl rfl rfl) (fun w h => need_ok _ _ w) (fun hb w' hx2 a ha => p_out ha ⟨_, (hG4.trans (andK_unit _).symm).trans (andK_er (needK_no (by (rw [Bool.eq_iff_iff]; simp only [decide_eq_true_eq, Bool.or_eq_true, Bool.and_eq_true, Bool.not_eq_true', decide_eq_false_iff_not]; grind)) hb)), rfl, hx2⟩) (fun hb7 => ?_)
      have hG7 := (hG4.trans (andK_unit _).symm).trans (andK_of (needK_yes (by (rw [Bool.eq_iff_iff]; simp only [decide_eq_true_eq, Bool.or_eq_true, Bool.and_eq_true, Bool.not_eq_true', decide_eq_false_iff_not]; grind)) hb7))
      refine zN2 (fun w h => (h.drop (.cons _ (List.Sublist.refl _)))) (k_p (.inr rfl) (r_none (.inr rfl) rfl ?_)); exact fun w' hw => ⟨_, hG7, rfl, hw.fr _ zm0⟩

theorem smooth_all : ∀ n : Nat, n ≤ 10000000 → SmoothH n
  | 0, _ => fun _ _ _ h => absurd h (Nat.not_lt_zero _)
  | n + 1, h => smooth_step n (smooth_all n (by omega)) (by omega)
theorem smooth_ok : SmoothH 10000000 := smooth_all _ (Nat.le_refl _)
end Go.Proofs.YtoehjlmdnajibaaGreatDoor
end

section
namespace Go.Sx
open Go.RowKit Go.Tree
theorem own_lit0 {T : TypeId} {k : Nat} {q : Nat} : Own T k (.slice (some ⟨q, 0, none⟩) 0 0) [] 0 [(q, cel [] T)] := ⟨by simp, .inr ⟨q, 0, [], rfl, Nat.le_refl _, by simp, by simp⟩⟩
section
variable {P : Program} {ops : Array Oper} {Q : Exit → Act → World → Prop} {c : Cf} {e : Env} {B : Base} {L : Heap} {d : Nat} {x y : Operand} {T : TypeId} {p : String} {ed : Array Edge} {t te bytes : Nat} {z v : Value} {xs : List Value} {W : Heap} {q fuel : Nat} {S : World → Prop} {listed : Array Bool}
theorem o_bslice0 {T : TypeId} {pp : String} {ed : Array Edge} {t el k bytes i : Nat} {z : Value} (hi : ops[i]? = some ⟨some d, .buildSlice t 0 #[], T, pp, ed, none⟩) (hT : slT P t el k bytes z)
    (h : ∀ b, (∀ x ∈ L, x.1 < b) → (∀ x ∈ B, x.1.heap.size ≤ b) → WH P ops c Q S fuel (listed.setIfInBounds i true) (upd e d (.slice (some ⟨b, 0, none⟩) 0 0)) B ((b, cel [] el) :: L)) : WO P ops c Q S fuel listed i e B L := by
  obtain ⟨ti, ht, hti, hsize, hby, hz, hzs⟩ := slT_spec hT
  refine o_val hi rfl rfl (fun w hw => ⟨_, _, B, _, ?_, hw.new, h w.heap.size (fun p hp => lt_of_blk (hw.own p hp)) (fun x hx => (hw.fr x hx).size)⟩)
  unfold Run
  simp only [execOp, Instr.buildSlice, Sem.run_bind, run_underlying ht, Result.andThen_ok, sizeOf, typeInfo, run_program, hti, Sem.run_pure, Nat.zero_mul]
  have h0 : Array.range 0 = (#[] : Array Nat) := Array.eq_empty_of_size_eq_zero (by simp)
  simp [newRow, run_newObj, Result.andThen, Instr.fill, cel]
  rw [h0]; simp
end
theorem cell_lt {w : World} {b o : Nat} {v : Value} (h : w.cell? ⟨b, o, none⟩ = some v) : b < w.heap.size := by
  cases hq : w.heap[b]? with
  | none => simp [World.cell?, hq] at h
  | some o => exact lt_of_blk hq
mutual
theorem exM.nb {w : World} {N : Nat → Prop} : ∀ (e : Ex) (cs : List Value), exM w N e cs → exM w (Nb 0 (w, No)) e cs
  | .mk op at_ nm ks, cs, h => by
    unfold exM at h ⊢
    obtain ⟨a, c, h1, h2, h3⟩ := h
    exact ⟨a, c, h1, h2, exsM.nb ks a 0 h3⟩
theorem exsM.nb {w : World} {N : Nat → Prop} : ∀ (l : List Ex) (a : Option Addr) (i : Nat), exsM w N l a i → exsM w (Nb 0 (w, No)) l a i
  | [], _, _, _ => by unfold exsM; trivial
  | e :: l, a, i, h => by
    unfold exsM at h ⊢
    obtain ⟨⟨cs, ⟨b, o, ha, hb, hc⟩, h2⟩, h3⟩ := h
    have hlt : b < w.heap.size := by
      obtain ⟨op, at_, nm, ks⟩ := e
      have h4 := h2
      unfold exM at h4
      obtain ⟨a1, c1, rfl, _⟩ := h4
      exact cell_lt (hc 0 _ rfl)
    exact ⟨⟨cs, ⟨b, o, ha, ⟨Nat.zero_le _, hlt, fun h => h⟩, hc⟩, exM.nb e cs h2⟩, exsM.nb l a (i + 4) h3⟩
end
end Go.Sx
end

section
namespace Go.Sx
open Go.RowKit Go.Tree Go.Tok Go.Knd
section
variable {P : Program} {ops : Array Oper} {Q : Exit → Act → World → Prop} {c : Cf} {e : Env} {B : Base} {L : Heap} {rest : List Oper} {d : Nat} {ρ : Operand → Value} {D : Option Tmp} {g : Option (Nat × Bool)} {x y : Operand} {T : TypeId} {p : String} {ed : Array Edge} {t te bytes : Nat} {z v : Value} {xs : List Value} {W : Heap} {w : World}
theorem R_cap {k : Nat} {a : Option Addr} {n m : Nat} (hu : slB P t k = true) (hx : ρ x = .slice a n m) : Run P ⟨D, .call ⟨.builtin .cap, #[x], #[t]⟩, T, p, ed, g⟩ ρ w (.int .i64 (m : Nat)) w := by
  obtain ⟨e, ti, h3, h4, h5⟩ := slB_spec hu
  simp [Run, execOp, hx, go_sem, Builtin.cap_, run_underlying h3, goInt]
theorem R_slNil {k : IntKind} {q : Nat} {hi : Operand} (hu : slB P t q = true) (hx : ρ x = .slice none 0 0) (hh : ρ hi = .int k 0) : Run P ⟨D, .slice t x none (some hi) none, T, p, ed, g⟩ ρ w (.slice none 0 0) w := by
  obtain ⟨e, ti, h3, h4, h5⟩ := slB_spec hu
  simp [Run, execOp, hx, hh, go_sem, Instr.sliceAt, Instr.slice, run_underlying h3, Instr.sliceBounds, Instr.sliceBound, asIntOf, sizeOf, typeInfo, h4, h5]
theorem R_slHi {k : IntKind} {q b n m l : Nat} {hi : Operand} (hu : slB P t q = true) (hx : ρ x = .slice (some ⟨b, 0, none⟩) n m) (hh : ρ hi = .int k (l : Nat)) (hl : l ≤ m) : Run P ⟨D, .slice t x none (some hi) none, T, p, ed, g⟩ ρ w (.slice (some ⟨b, 0, none⟩) l m) w := by
  obtain ⟨e, ti, h3, h4, h5⟩ := slB_spec hu
  simp [Run, execOp, hx, hh, go_sem, Instr.sliceAt, Instr.slice, run_underlying h3, Instr.sliceBounds, Instr.sliceBound, asIntOf, hl, sizeOf, typeInfo, h4, h5, Addr.add]
theorem w_room {k n tn : Nat} {kn : IntKind} (hT : slT P t te k bytes z) (hk : 0 < k) (htn : P.underlying tn = some (.int kn)) (hx : ev c.n e x = .slice none 0 0) (hy : ev c.n e y = .int .i64 (n : Nat)) (h0 : 0 < n) (hn : n ≤ 20000000) (hby : bytes ≤ 1000)
    (h : ∀ b cap zs, n ≤ cap → zs.length = cap * k → WX .sq P ops c Q rest (upd e d (.slice (some ⟨b, 0, none⟩) n cap)) B ((b, cel zs te) :: L)) : WX .sq P ops c Q (⟨some d, .call ⟨.builtin .append, #[x, y], #[t, tn]⟩, T, p, ed, none⟩ :: rest) e B L := by
  obtain ⟨i, ht, hi, hsz, hb, hz, hzs⟩ := slT_spec hT
  subst hb; subst hsz
  unfold WX at *
  intro w hw
  have hge := grownCap_ge w (0 + n) 0 te
  have hr := Lib.run_append_grow_zeros (P := P) w t tn T te i z .i64 kn ht htn hi hz none 0 0 [] (run_firstCells_none w.drew i.size 0 0 0) n h0 hk (by omega) (by omega) (Nat.le_trans (Nat.mul_le_mul hn hby) (by decide)) (Nat.le_trans (growslice_fits (by omega) (Nat.le_trans (Nat.mul_le_mul (show 0 + n ≤ 20000000 by omega) hby) (by decide))) (by decide))
  have hs := (hw.drawn (w.drawn + 1)).new (o := cel ((#[] : Array Value) ++ Builtin.zeroCells z.cells n ++ Builtin.zeroCells z.cells (grownCap w (0 + n) 0 te - (0 + n))).toList te)
  rw [Nat.zero_add] at hr hge hs
  refine s_run ?_ rfl rfl (h w.heap.size (grownCap w n 0 te) _ hge ?_ _ hs)
  · unfold Run
    simp only [execOp, resolve, Sem.run_bind, pure_run, Result.andThen_ok, invoke, builtin, List.map_toArray, List.map_cons, List.map_nil, hx, hy, hr]
    rfl
  · rw [Array.length_toList, Array.size_append, Array.size_append, size_zeroCells, size_zeroCells, hzs, List.size_toArray, List.length_nil, Nat.zero_add, ← Nat.add_mul, show n + (grownCap w n 0 te - n) = grownCap w n 0 te by omega]
theorem w_exsK {X : Bw} {s0 : Nat} {ys : List Ex} {a : Option Addr} {cp n : Nat} (hT : slT P t te 4 bytes z) (hx : ev c.n e x = v) (hv : Own te 4 v xs n W) (hy : ev c.n e y = .slice a ys.length cp) (hK : exsM X.1 (Nb s0 X) ys a 0) (hX : X ∈ B) (hn : n + ys.length ≤ 20000000) (hby : bytes ≤ 1000)
    (h : ∀ news v' W', Kt X s0 (Mc 4 exM) ys news → news.length = ys.length * 4 → Own te 4 v' (xs ++ news) (n + ys.length) W' → WX .sq P ops c Q rest (upd e d v') B (W' ++ L)) : WX .sq P ops c Q (⟨some d, .call ⟨.builtin .append, #[x, y], #[t, t]⟩, T, p, ed, none⟩ :: rest) e B (W ++ L) := by
  by_cases h0 : ys = []
  · subst h0
    obtain ⟨i, ht, hi, hsz, _, _, _⟩ := slT_spec hT
    obtain ⟨a1, c1, rfl⟩ := hv.slice
    have h4 := h [] _ W Mc.nil rfl (by simpa using hv)
    unfold WX at *
    intro w hw
    have hs : Src P i.size t (.slice a 0 cp) 0 [] w := ⟨.inl ⟨te, ht⟩, fun _ => rfl, by cases a <;> simp [Builtin.firstCells, go_sem], by cases a <;> simp [Builtin.firstCells, go_sem], by simp, by simp⟩
    have hr := _root_.Go.run_append_nothing (P := P) w t t T te i ht hi a1 n c1 (Own.le hv) _ hs
    exact s_run (R_append hx hy hr) rfl rfl (h4 w hw)
  · have hl : 0 < ys.length := List.length_pos_iff.2 h0
    obtain ⟨y0, l, rfl⟩ := List.exists_cons_of_ne_nil h0
    have h3 := hK
    unfold exsM at h3
    obtain ⟨⟨_, ⟨q2, o, ha, _, _⟩, _⟩, _⟩ := h3
    subst ha
    obtain ⟨news, g1, g2, g3, g4, g5⟩ := exs_row _ _ hK
    have hq2 := g5 h0
    have h4 := fun v' W' => h news v' W' g4 g1
    unfold WX at *
    intro w hw
    obtain ⟨v', w', L2, k1, k2, k3⟩ := app_run (ρ := ev c.n e) (D := some d) (g := none) (x := x) (y := y) (T := T) (p := p) (ed := ed) (A := []) (L := L) (news := news) hT (by decide) hx (hv.toR [] L) hy g1 (fun w hw j u hj => cel_old hX (g3 j u hj) hq2.2.2 hw) g2 hl (by omega)
      (Nat.le_trans (Nat.mul_le_mul hn hby) (by decide)) hw
    obtain ⟨W', k5, rfl⟩ := k2.own
    exact s_run k1 rfl rfl (h4 v' W' k5 w' k3)
end
theorem Mc.app2 {α : Type} {k : Nat} {M : World → (Nat → Prop) → α → List Value → Prop} {W : World} {N : Nat → Prop} {l l2 : List α} {xs ys : List Value} (h : Mc k M W N l xs) (hx : xs.length = l.length * k) (h2 : Mc k M W N l2 ys) (hy : ys.length = l2.length * k) : Mc k M W N (l ++ l2) (xs ++ ys) := by
  intro j u hu
  rcases Nat.lt_or_ge j l.length with h3 | h3
  · rw [List.getElem?_append_left h3] at hu
    have := h j u hu
    have h4 : j * k + k ≤ xs.length := by
      have : (j + 1) * k ≤ l.length * k := Nat.mul_le_mul_right k h3
      rw [Nat.add_mul, Nat.one_mul] at this; omega
    rwa [List.drop_append_of_le_length (by omega), List.take_append_of_le_length (by rw [List.length_drop]; omega)]
  · rw [List.getElem?_append_right h3] at hu
    have := h2 (j - l.length) u hu
    have h4 : l.length * k ≤ j * k := Nat.mul_le_mul_right k h3
    rw [List.drop_append, List.drop_eq_nil_of_le (by omega), List.nil_append, hx]
    rwa [Nat.sub_mul] at this
end Go.Sx
namespace Go.Sx
open Go.RowKit Go.Tree Go.Tok Go.Knd
mutual
theorem exM.lt {w : World} {N : Nat → Prop} : ∀ (e : Ex) (cs : List Value), exM w N e cs → exM w (fun j => N j ∧ j < w.heap.size) e cs
  | .mk op at_ nm ks, cs, h => by
    unfold exM at h ⊢
    obtain ⟨a, c, h1, h2, h3⟩ := h
    exact ⟨a, c, h1, h2, exsM.lt ks a 0 h3⟩
theorem exsM.lt {w : World} {N : Nat → Prop} : ∀ (l : List Ex) (a : Option Addr) (i : Nat), exsM w N l a i → exsM w (fun j => N j ∧ j < w.heap.size) l a i
  | [], _, _, _ => by unfold exsM; trivial
  | e :: l, a, i, h => by
    unfold exsM at h ⊢
    obtain ⟨⟨cs, ⟨b, o, ha, hb, hc⟩, h2⟩, h3⟩ := h
    have hlt : b < w.heap.size := by
      obtain ⟨op, at_, nm, ks⟩ := e
      have h4 := h2
      unfold exM at h4
      obtain ⟨a1, c1, rfl, _⟩ := h4
      exact cell_lt (hc 0 _ rfl)
    exact ⟨⟨cs, ⟨b, o, ha, ⟨hb, hlt⟩, hc⟩, exM.lt e cs h2⟩, exsM.lt l a (i + 4) h3⟩
end
theorem exsM.ktN {w : World} {N : Nat → Prop} {l : List Ex} {a : Option Addr} (h : exsM w N l a 0) : exsM w (Nb 0 (w, fun j => ¬ N j)) l a 0 :=
  exsM.mono (fun j hj => ⟨Nat.zero_le _, hj.2, fun h2 => h2 hj.1⟩) l a 0 (exsM.lt l a 0 h)
theorem exsM.ltT {w w' : World} {l : List Ex} {a : Option Addr} {B : Base} {L : Heap} (h : exsM w (fun _ => True) l a 0) (hx : (w, No) ∈ B) (hw : St B L w') : exsM w' (fun j => j < w.heap.size) l a 0 :=
  exsM.fr (hw.fr _ hx) (fun _ _ h => h) l a 0 (exsM.mono (fun _ hj => hj.2) l a 0 (exsM.lt l a 0 h))
theorem St.also {w w' : World} {B : Base} {L : Heap} (S : Nat → Prop) (h : St ((w, No) :: B) L w') : St ((w, No) :: (w, S) :: B) L w' := by
  refine ⟨?_, h.own, h.nd, ?_⟩
  · intro x hx
    rcases List.mem_cons.1 hx with rfl | hx
    · exact h.fr _ zm0
    · rcases List.mem_cons.1 hx with rfl | hx
      · exact (h.fr (w, No) zm0).mono (fun _ _ h => h.elim)
      · exact h.fr _ (.tail _ hx)
  · intro p hp x hx
    rcases List.mem_cons.1 hx with rfl | hx
    · exact h.ok p hp _ zm0
    · rcases List.mem_cons.1 hx with rfl | hx
      · exact .inr ((h.ok p hp (w, No) zm0).resolve_left (fun h => h))
      · exact h.ok p hp _ (.tail _ hx)
theorem exs_finN {w w' : World} {N : Nat → Prop} {B : Base} {T : TypeId} {l : List Ex} {v : Value} {xs : List Value} {W L : Heap} (h : Own T 4 v xs l.length W) (hw : St ((w, No) :: B) (W ++ L) w') (hm : Mc 4 exM w' N l xs) : ∃ b : Option Addr × Nat, v = .slice b.1 l.length b.2 ∧ exsV w' (fun j => N j ∨ Nn w w' j) l b :=
  own_exs h (fun p hp => hw.own p (List.mem_append.2 (.inl hp))) (fun p hp => by
    refine .inr ⟨?_, lt_of_blk (hw.own p (List.mem_append.2 (.inl hp)))⟩
    rcases hw.ok p (List.mem_append.2 (.inl hp)) (w, No) zm0 with h | h
    · exact h.elim
    · exact h) (fun j x hx => (TL.ex.mono (hm j x hx) (fun _ h => .inl h)))
theorem Mc.ofN {w w' : World} {N : Nat → Prop} {B : Base} {L : Heap} {l : List Ex} {xs : List Value} (h : Kt (w, fun j => ¬ N j) 0 (Mc 4 exM) l xs) (hx : (w, fun j => ¬ N j) ∈ B) (hw : St B L w') : Mc 4 exM w' N l xs :=
  TL.exc4.mono (h.at TL.exc4 hx hw) (fun j hj => Classical.not_not.1 hj.2.2)
section
variable {P : Program} {ops : Array Oper} {Q : Exit → Act → World → Prop} {c : Cf} {e : Env} {rest : List Oper} {o : Oper} {d : Nat} {B : Base} {L : Heap} {f : FuncId} {args : Array Value} {w0 : World}
theorem w_kx {l : List Ex} (hx : (w0, No) ∈ B) (hr : ∀ w, RunE P o (ev c.n e) w f args) (hg : plainB o = true) (hd : o.dst = some d)
    (hc : ∀ w, St B L w → Ret P f args w fun v w' => ∃ b : Option Addr × Nat, v = .slice b.1 l.length b.2 ∧ exsV w' (fun j => j < w0.heap.size ∨ Nn w w' j) l b ∧ Ext w w')
    (h : ∀ (a1 : Option Addr) (c1 : Nat) (x : Bw), Kt x 0 exsV l (a1, c1) → WX .sq P ops c Q rest (upd e d (.slice a1 l.length c1)) (x :: B) L) : WX .sq P ops c Q (o :: rest) e B L := by
  refine zP (R := fun w v w' => ∃ b : Option Addr × Nat, v = .slice b.1 l.length b.2 ∧ exsV w' (fun j => j < w0.heap.size ∨ Nn w w' j) l b ∧ Ext w w') hr hg hd hc ?_
  rintro w hw v w' ⟨⟨a1, c1⟩, rfl, h3, h4⟩
  have hw' := hw.ext h4
  refine ⟨_, _, hw'.base1, h a1 c1 (w', inL L) (TL.exs.mono h3 fun j hj => ?_)⟩
  refine ⟨Nat.zero_le _, ?_, fun hL => ?_⟩
  · rcases hj with hj | hj
    · exact Nat.lt_of_lt_of_le hj (hw'.fr _ hx).size
    · exact hj.2
  · obtain ⟨p, hp, rfl⟩ := List.mem_map.1 hL
    rcases hj with hj | hj
    · rcases hw.ok p hp _ hx with h5 | h5
      · exact h5
      · dsimp only at h5; omega
    · have := lt_of_blk (hw.own p hp); exact absurd hj.1 (by omega)
end
end Go.Sx
namespace Go.Sx
open Go.RowKit Go.Tree Go.Tok Go.Knd
theorem St.twice {x : Bw} {B : Base} {L : Heap} {w : World} (h : St (x :: B) L w) : St (x :: x :: B) L w := by
  refine ⟨?_, h.own, h.nd, ?_⟩
  · intro y hy
    rcases List.mem_cons.1 hy with rfl | hy
    · exact h.fr _ zm0
    · exact h.fr _ hy
  · intro p hp y hy
    rcases List.mem_cons.1 hy with rfl | hy
    · exact h.ok p hp _ zm0
    · exact h.ok p hp _ hy
theorem vrsW.kt {w : World} {l : List Vr} {b : Option Addr × Nat} (h : vrsW w (fun _ => True) l b) : Kt (w, No) 0 vrsW l b := by
  refine ⟨⟨h.1.1, fun k v hk => ?_⟩, h.2⟩
  obtain ⟨q, o, ha, _, hc⟩ := h.1.2 k v hk
  exact ⟨q, o, ha, ⟨Nat.zero_le _, cell_lt (hc 0 _ rfl), fun h => h⟩, hc⟩
theorem Kt.weak {α β : Type} {M : World → (Nat → Prop) → α → β → Prop} {x : Bw} {s0 : Nat} {a : α} {b : β} (h : Kt x s0 M a b) (hM : TL M) : Kt x 0 M a b := hM.mono h fun _ hj => ⟨Nat.zero_le _, hj.2⟩
end Go.Sx
end

section
namespace Go.Knd
open Go.Tok Go.Tree
section
variable {l : List Vr} {at_ : Int} {nm : Str} {ks : List Ex} {p : Bool} {block : Nat} {α β : Type}
theorem ifK_pos {q : Prop} [Decidable q] (h : q) (a b : Except Ft α) (F : α → Except Ft β) : andK (if q then a else b) F = andK a F := by rw [if_pos h]
theorem ifK_neg {q : Prop} [Decidable q] (h : ¬ q) (a b : Except Ft α) (F : α → Except Ft β) : andK (if q then a else b) F = andK b F := by rw [if_neg h]
theorem bound_flat {ty : Nat} {e : Ex} (F : Unit → Except Ft β) : andK (boundK l ty block e) F = andK (needK (decide (block = 0) || decide (block = 2)) e.at_) fun _ => andK (ofK l e) fun k => andK (needK (scal k.1 && (!whol ty || decide (k.1 = 1))) e.at_) fun _ =>
    andK (if block = 0 then smoothK e else .ok ()) fun _ => andK (if k.2 = true then .error (153, e.at_) else .ok ()) F := by
  unfold boundK; simp only [andK_assoc]
theorem init_flat {ty : Nat} {e : Ex} (F : Unit → Except Ft β) : andK (andK (ofK l e) fun k => needK (fitK ty k.1) e.at_) F = andK (ofK l e) fun k => andK (needK (fitK ty k.1) e.at_) F := by
  simp only [andK_assoc]
theorem set_n (h : findV l nm = none) : setK l at_ nm ks block = .error (150, at_) := by unfold setK; rw [h]
theorem set_1 {v : Vr} {x : Ex} (h : findV l nm = some v) : setK l at_ nm [x] block = andK (needK (decide (v.bk = block)) at_) fun _ => andK (ofK l x) fun k => needK (fitK v.ty k.1) at_ := by unfold setK; rw [h]
theorem set_2 {v : Vr} {i x : Ex} (h : findV l nm = some v) : setK l at_ nm [i, x] block = andK (needK (decide (v.bk = block)) at_) fun _ => andK (needK (!scal v.ty) at_) fun _ => andK (countK l i) fun _ => andK (ofK l x) fun k => needK (scal k.1 && (!decide (v.ty = 4) || decide (k.1 = 1))) at_ := by unfold setK; rw [h]
def distR (l : List Vr) (at_ : Int) (nm : Str) (ks : List Ex) : Except Ft Unit :=
  match distK nm with
  | none => .error (150, at_)
  | some d => andK (needK (decide (ks.length = d.1 + 1)) at_) fun _ =>
    match ks with
    | [] => .ok ()
    | x :: r => andK (ofK l x) fun k => andK (needK ((whol k.1 && d.2.2) || (!decide (k.1 = 4) && !d.2.2)) x.at_) fun _ => argsK l k.1 d.2.1 0 r
theorem distS_r : distS l at_ nm ks block = andK (needK (decide (block = 4)) at_) fun _ => distR l at_ nm ks := by unfold distS distR; rfl
theorem distR_n (h : distK nm = none) : distR l at_ nm ks = .error (150, at_) := by unfold distR; rw [h]
theorem distR_s {n m : Nat} {d : Bool} {x : Ex} {r : List Ex} (h : distK nm = some (n, m, d)) : distR l at_ nm (x :: r) = andK (needK (decide ((x :: r).length = n + 1)) at_) fun _ => andK (ofK l x) fun k => andK (needK ((whol k.1 && d) || (!decide (k.1 = 4) && !d)) x.at_) fun _ => argsK l k.1 m 0 r := by unfold distR; rw [h]
theorem dist_le {n m : Nat} {d : Bool} (h : distK nm = some (n, m, d)) : n ≤ 2 ∧ m ≤ 2 := by
  unfold distK at h
  repeat' split at h
  all_goals first | (cases h; decide) | (cases h)
theorem args_step {t m i : Nat} {x : Ex} (h : ks[i]? = some x) : argsK l t m i (ks.drop i) = andK (ofK l x) fun k => andK (needK (scal k.1 || (!scal t && !decide (k.1 = 4) && decide (m ≤ i))) x.at_) fun _ =>
    andK (if i < m ∧ k.2 = true then .error (153, x.at_) else .ok ()) fun _ => argsK l t m (i + 1) (ks.drop (i + 1)) := by
  obtain ⟨h1, h2⟩ := List.getElem?_eq_some_iff.1 h
  rw [List.drop_eq_getElem_cons h1, h2, argsK]
theorem args_end {t m i : Nat} (h : ks.length ≤ i) : argsK l t m i (ks.drop i) = .ok () := by rw [List.drop_eq_nil_of_le h, argsK]
end
theorem andK_inv {α β : Type} {x : Except Ft α} {f : α → Except Ft β} {b : β} (h : andK x f = .ok b) : ∃ a, f a = .ok b := by
  cases x with
  | ok a => exact ⟨a, h⟩
  | error e => cases h
theorem declK_len {l l2 : List Vr} {d : Dc} {i : Nat} (h : declK l d i = .ok l2) : l2.length ≤ l.length + 1 := by
  unfold declK at h
  split at h
  · cases h
  · obtain ⟨_, h⟩ := andK_inv h
    obtain ⟨_, h⟩ := andK_inv h
    obtain ⟨_, h⟩ := andK_inv h
    obtain ⟨_, h⟩ := andK_inv h
    cases h
    rw [List.length_append]; exact Nat.le_refl _
end Go.Knd
end
