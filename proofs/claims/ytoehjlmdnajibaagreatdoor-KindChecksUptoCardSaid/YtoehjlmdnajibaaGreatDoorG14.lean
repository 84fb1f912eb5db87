/- Layer 15, KindChecks: Check and Vars of kind tell the fault, and the variables, of the document, for programs of at most 600 nodes and names of at most 200 bytes; in the Upto form. Part 14 of 17. -/
import Derived.Test.YtoehjlmdnajibaaGreatDoorG13
set_option maxRecDepth 100000
set_option maxHeartbeats 16000000
section
namespace Go.Proofs.YtoehjlmdnajibaaGreatDoor
open Go.RowKit Go.Sx
open Go.Tok Go.Tree Go.Knd
theorem nT {b : Bool} (h : (!b) = true) : b = false := by cases b; rfl; cases h
theorem nF {b : Bool} (h : (!b) = false) : b = true := by cases b; cases h; rfl
theorem need_f {b : Bool} {a : Int} (h : b = false) : needK b a = .error (152, a) := by rw [h]; rfl
theorem need_t {b : Bool} {a : Int} (h : b = true) : needK b a = .ok () := by rw [h]; rfl
def ftU (X : Except Ft Unit) : Ft := match X with | .ok _ => (0, 0) | .error f => f
theorem ftU_ok {X : Except Ft Unit} (h : X = .ok ()) : ftU X = (0, 0) := by rw [h]; rfl
theorem ftU_er {X : Except Ft Unit} {f : Ft} (h : X = .error f) : ftU X = f := by rw [h]; rfl
theorem uE {X : Except Ft Unit} {f : Ft} (h : X = .error f) : Value.agg #[.int .i64 (f.1 : Nat), .int .i64 f.2] = .agg (ftC (ftU X)).toArray := by rw [h]; rfl
theorem uO {X : Except Ft Unit} (h : X = .ok ()) : Value.agg #[.int .i64 0, .int .i64 0] = .agg (ftC (ftU X)).toArray := by rw [h]; rfl
theorem count_a {l : List Vr} {e : Ex} {t : Nat} {p : Bool} (h : ofK l e = .ok (t, p)) (h1 : ¬ t = 1) : countK l e = .error (152, e.at_) := by
  unfold countK; rw [andK_of h]; unfold countedK; rw [decide_eq_false (show ¬ (t, p).1 = 1 from h1)]; rfl
theorem count_b {l : List Vr} {e : Ex} {t : Nat} {p : Bool} (h : ofK l e = .ok (t, p)) (h1 : t = 1) (h2 : p = true) : countK l e = .error (153, e.at_) := by
  unfold countK; rw [andK_of h]; subst h1; subst h2; rfl
theorem count_c {l : List Vr} {e : Ex} {t : Nat} {p : Bool} (h : ofK l e = .ok (t, p)) (h1 : t = 1) (h2 : p = false) : countK l e = .ok () := by
  unfold countK; rw [andK_of h]; subst h1; subst h2; rfl
theorem count_er {l : List Vr} {e : Ex} {f : Ft} (h : ofK l e = .error f) : countK l e = .error f := andK_er h
theorem rcount_ok (x : Ex) (cs : List Value) (vs : List Vr) (va : Option Addr) (vc : Nat) (w : World) (hx : exW x < 10000000) (hok : exOk x = true) (hm : exM w (fun _ => True) x cs) (hv : vrsV w (fun _ => True) vs (va, vc)) (hvl : vs.length ≤ 90000000) :
    Ret Tryz.prog 49 #[.agg cs.toArray, .slice va vs.length vc] w (fun v w' => v = .agg (ftC (ftU (countK vs x))).toArray ∧ Ext w w') := by
  obtain ⟨op, at_, nm, ks⟩ := x
  have hm2 := hm
  unfold exM at hm2
  obtain ⟨ka, kc, rfl, hkc, hks⟩ := hm2
  have hx2 := hx
  unfold exW at hx2
  refine enter (S := No) (l := [_, _]) (L := []) 28 Tryz.func49 rfl rfl rfl (St.start w No) (yA (w_boxA rfl (fun t2b gt2b ut2b => zA zr37 (fun t4b gt4b ut4b => yC (jy 1 z52 rfl rfl (mS rfl ?_))))))
  rcases hX : ofK vs (Ex.mk op at_ nm ks) with f | ⟨q1, q2⟩
  · refine jD (v := .tuple #[.agg #[.int .u8 0, .bool false], .agg #[.int .i64 (f.1 : Nat), .int .i64 f.2]]) Tryz.func43 (fun w h => by have := rof_ok _ _ vs va vc w hx hok (hm.nowT zm0 h) (hv.nowT zm0 h) hvl; rw [hX] at this; exact this) ?_
    have hfc := of_code _ f hX
    refine zm rfl (jx rfl rfl (jx rfl rfl (zA zr58 (fun t5b gt5b ut5b => zA zr37 (fun t6b gt6b ut6b => jv 1 z58 rfl (jv 0 z37 rfl (yB (zq (yA (jy 0 z37 rfl rfl (jD Tryz.func32 (fun w h => bad_t f.1 f.2 (by omega) w) (yB (zE rfl (yA (jy 0 z37 rfl rfl (jv 2 z37 rfl (yB (ze (zt ((r_fin (.inl rfl) rfl (.agg rfl rfl z37 (fun _ h => h.at_ 2 rfl) rfl .nil) ?_))))))))))))))))))))); exact fun w' hw => ⟨by clear hw; (rw [ftU_er (count_er hX)]; rfl), hw.f0⟩
  refine jD (v := .tuple #[.agg #[.int .u8 (q1 : Nat), .bool q2], .agg #[.int .i64 0, .int .i64 0]]) Tryz.func43 (fun w h => by have := rof_ok _ _ vs va vc w hx hok (hm.nowT zm0 h) (hv.nowT zm0 h) hvl; rw [hX] at this; exact this) ?_; refine zm rfl (jx rfl rfl (jx rfl rfl (zA zr58 (fun t5b gt5b ut5b => ?_))))
  refine zA zr37 (fun t6b gt6b ut6b => jv 1 z58 rfl (jv 0 z37 rfl (yB (zq (yA (jy 0 z37 rfl rfl (jD Tryz.func32 (fun w h => bad_f 0 w) (yB (zG rfl (zi (zk (zq (yA (zf fa58_0 rfl (jM 1 z5 rfl (jn rfl rfl (yB ?_))))))))))))))))); refine zD rfl (fun h7 => ?_) (fun h7 => ?_)
  · refine yA (zf fa52_1 rfl (jM 3 z3 rfl (jb bt37 rfl (jv 2 z37 rfl (yB (ze (zt ((r_fin (.inl rfl) rfl (.agg rfl rfl z37 (fun _ h => h.at_ 2 rfl) rfl .nil) ?_))))))))); exact fun w' hw => ⟨by clear hw; (rw [ftU_er (count_a hX (by omega))]; rfl), hw.f0⟩
  refine zi (zk (zq (yA (zf fa58_1 rfl (jM 1 z4 rfl (yB ?_)))))); refine c_cond rfl (fun h8 => ?_) (fun h8 => ?_)
  · refine yA (zf fa52_1 rfl (jM 3 z3 rfl (jb bt37 rfl (jv 2 z37 rfl (yB (ze (zt ((r_fin (.inl rfl) rfl (.agg rfl rfl z37 (fun _ h => h.at_ 2 rfl) rfl .nil) ?_))))))))); exact fun w' hw => ⟨by clear hw; (rw [ftU_er (count_b hX (by omega) (by assumption))]; rfl), hw.f0⟩
  refine zi (zk (yA (jD Tryz.func34 (fun w h => rnone_ok w) (jv 2 z37 rfl (yB (ze (r_fin (.inl rfl) rfl (.agg rfl rfl z37 (fun _ h => h.at_ 2 rfl) rfl .nil) ?_))))))); exact fun w' hw => ⟨by clear hw; (rw [ftU_ok (count_c hX (by omega) (by assumption))]; rfl), hw.f0⟩
def RghH (n : Nat) : Prop := ∀ (x : Ex) (cs : List Value) (w : World), exW x < n → exM w (fun _ => True) x cs → Ret Tryz.prog 51 #[.agg cs.toArray] w fun v w' => v = .agg (ftC (ftU (smoothK x))).toArray ∧ Ext w w'
theorem rgh_b {op : Nat} {nm : Str} : (decide ((op : Int) = 4) && (decide (nm = [101, 120, 112]) || decide (nm = [108, 111, 103]) || decide (nm = [115, 113, 114, 116]) || decide (nm = [105, 110, 118, 95, 108, 111, 103, 105, 116]))) = !(!decide (op = 4) || !decide (nm ∈ roughS)) := by
  rw [show decide ((op : Int) = 4) = decide (op = 4) from decide_eq_decide.2 (by omega), show decide (nm ∈ roughS) = (decide (nm = [101, 120, 112]) || decide (nm = [108, 111, 103]) || decide (nm = [115, 113, 114, 116]) || decide (nm = [105, 110, 118, 95, 108, 111, 103, 105, 116])) by rw [Bool.eq_iff_iff]; simp only [roughS, List.mem_cons, List.not_mem_nil, or_false, decide_eq_true_eq, Bool.or_eq_true, or_assoc]]
  generalize (decide (nm = [101, 120, 112]) || decide (nm = [108, 111, 103]) || decide (nm = [115, 113, 114, 116]) || decide (nm = [105, 110, 118, 95, 108, 111, 103, 105, 116])) = b; cases b <;> cases decide (op = 4) <;> rfl
theorem rough_step (n : Nat) (ih : RghH n) (hn : n ≤ 10000000) (x : Ex) (cs : List Value) (w : World) (hx : exW x < n + 1) (hm : exM w (fun _ => True) x cs) :
    Ret Tryz.prog 51 #[.agg cs.toArray] w (fun v w' => v = .agg (ftC (ftU (smoothK x))).toArray ∧ Ext w w') := by
  obtain ⟨op, at_, nm, ks⟩ := x
  have hm2 := hm
  unfold exM at hm2
  obtain ⟨ka, kc, rfl, hkc, hks⟩ := hm2
  have hx2 := hx
  unfold exW at hx2
  have hG : smoothK (Ex.mk op at_ nm ks) = andK (smoothsK ks) (fun _ => needK (!decide (op = 4) || !decide (nm ∈ roughS)) at_) := by rw [smoothK]
  refine enter (S := No) (l := [_]) (L := []) 48 Tryz.func51 rfl rfl rfl (St.start w No) (yA (w_boxA rfl (fun t1b gt1b ut1b => zA zr37 (fun t2b gt2b ut2b => yB (zq (yA (aI rfl (yB (zB (c_loop (fun m e B L => ∃ (k : Nat), e 1 = pX t1b ∧ e 2 = pX t2b ∧ e 3 = .int .i64 (k : Nat) ∧ B = [(w, No)] ∧ L = [(t2b, cel [.int .i64 0, .int .i64 0] 37), (t1b, cel [.int .u8 (op : Nat), .int .i64 at_, str nm, .slice ka ks.length kc] 52)] ∧ k ≤ ks.length ∧ smoothK (Ex.mk op at_ nm ks) = andK (smoothsK (ks.drop k)) (fun _ => needK (!decide (op = 4) || !decide (nm ∈ roughS)) at_) ∧ m = ks.length - k) _ ⟨0, rfl, rfl, rfl, rfl, rfl, Nat.zero_le _, hG, rfl⟩ ?_))))))))))
  rintro m e B L ⟨k, e1_1, e2_1, e3_1, rfl, rfl, hk, hG1, rfl⟩
  refine zq (yA (mI e3_1 (zf fa52_3 e1_1 (jM 1 z47 rfl (jj sl47 rfl (jl rfl rfl (yB ?_))))))); refine zD rfl (fun h3 => ?_) (fun h3 => ?_)
  · have hlt : k < ks.length := (by omega); obtain ⟨x, hxk⟩ : ∃ x, ks[k]? = some x := ⟨_, List.getElem?_eq_getElem hlt⟩; obtain ⟨cs, hA, hE⟩ := hks.get0 hxk; have hxn := exsW_mem (List.mem_of_getElem? hxk); obtain ⟨b1, o1, rfl⟩ := hA.ptr; have hG2 := hG1.trans (smoothsK_step hxk _); obtain ⟨op2, at2, nm2, ks2⟩ := x; have hE2 := hE; unfold exM at hE2; obtain ⟨ka2, kc2, rfl, hkc2, hks2⟩ := hE2
    refine zi (zk (zq (zB (yA (zf fa52_3 e1_1 (jM 1 z47 rfl (mI e3_1 (zg (fun _ => R_iaN (i := k) sl47 rfl rfl (by omega)) (w_loadC (l := [.int .u8 (op2 : Nat), .int .i64 at2, str nm2, .slice ka2 ks2.length kc2]) z52 rfl rfl (fun w h j v hj => hA.cell (fun _ _ hh => hh) zm0 h j v hj) ?_)))))))))
    rcases hU1 : smoothK (Ex.mk op2 at2 nm2 ks2) with f | ⟨⟩
    · refine jD (v := .agg #[.int .i64 (f.1 : Nat), .int .i64 f.2]) Tryz.func51 (fun w h => by have := ih _ _ w (by omega) (hE.nowT zm0 h); rw [hU1] at this; exact this) ?_
      have hfc : f.1 ≠ 0 := bad_smooth _ f hU1
      have hG3 := hG2.trans (andK_er hU1)
      refine zA zr37 (fun t4b gt4b ut4b => jv 0 z37 rfl (yC (jy 0 z37 rfl rfl (jD Tryz.func32 (fun w h => bad_t f.1 f.2 (by omega) w) (yB (zE rfl (yA (jy 0 z37 rfl rfl (ju 1 z37 e2_1 rfl rfl (yB (ze (zb (zt (zt (zb (zt ((r_fin (.inl rfl) rfl (.agg rfl e2_1 z37 (fun _ h => h.at_ 1 rfl) rfl .nil) ?_)))))))))))))))))); exact fun w' hw => ⟨uE hG3, hw.f0⟩
    refine jD (v := .agg #[.int .i64 0, .int .i64 0]) Tryz.func51 (fun w h => by have := ih _ _ w (by omega) (hE.nowT zm0 h); rw [hU1] at this; exact this) ?_
    have hG3 := hG2.trans (andK_of hU1)
    refine zA zr37 (fun t4b gt4b ut4b => jv 0 z37 rfl (yC (jy 0 z37 rfl rfl (jD Tryz.func32 (fun w h => bad_f 0 w) (yB (zG rfl (zi (zO (zk (zr (mI e3_1 (ji rfl rfl (by omega) (aI rfl (zn (zK (B' := [(w, No)]) (L' := _) (fun w h => h.d1) ?_))))))))))))))); exact k_again _ (by omega) ⟨k + 1, e1_1, e2_1, rfl, rfl, rfl, by omega, hG3, rfl⟩
  have hG4 : smoothK (Ex.mk op at_ nm ks) = needK (!decide (op = 4) || !decide (nm ∈ roughS)) at_ := hG1.trans (smoothsK_end (by omega) _)
  refine zX (zx (zx (b_here rfl (zk (zq (yA (zf fa52_0 e1_1 (jM 1 z5 rfl (je rfl rfl (mB rfl (gTx rfl (fun hc w h => R_fa fa52_2 e1_1) rfl (gTx rfl (fun hc w h => R_ld1 z9 (gvl_t hc) (zc 1 rfl rfl h)) rfl (gTx rfl (fun hc w h => R_seq (gvl_t hc) rfl) rfl (gTx (v := .bool _) rfl (fun hc w h => R_move (gvl_t hc)) rfl (hFx rfl (fun hc w h => R_fa fa52_2 e1_1) rfl (hFx rfl (fun hc w h => R_ld1 z9 (gvl_t hc) (zc 1 rfl rfl h)) rfl (hFx rfl (fun hc w h => R_seq (gvl_t hc) rfl) rfl (gTx (v := .bool _) rfl (fun hc w h => R_pickO (gvl_t hc) (gvl_and hc) rfl) rfl (gTx (v := .bool _) rfl (fun hc w h => R_move (gvl_t hc)) rfl (hFx rfl (fun hc w h => R_fa fa52_2 e1_1) rfl (hFx rfl (fun hc w h => R_ld1 z9 (gvl_t hc) (zc 1 rfl rfl h)) rfl (hFx rfl (fun hc w h => R_seq (gvl_t hc) rfl) rfl (gTx (v := .bool _) rfl (fun hc w h => R_pickO (gvl_t hc) (gvl_and hc) rfl) rfl (gTx (v := .bool _) rfl (fun hc w h => R_move (gvl_t hc)) rfl (hFx rfl (fun hc w h => R_fa fa52_2 e1_1) rfl (hFx rfl (fun hc w h => R_ld1 z9 (gvl_t hc) (zc 1 rfl rfl h)) rfl (hFx rfl (fun hc w h => R_seq (gvl_t hc) rfl) rfl (gTx (v := .bool _) rfl (fun hc w h => R_pickO (gvl_t hc) (gvl_and hc) rfl) rfl (zg (v := .bool _) (fun _ => R_pickA rfl rfl rfl) (yB ?_)))))))))))))))))))))))))))))); refine c_cond rfl (fun h6 => ?_) (fun h6 => ?_)
  · refine yA (zf fa52_1 e1_1 (jM 1 z3 rfl (jb bt37 rfl (ju 0 z37 e2_1 rfl rfl (yB (ze (zt ((r_fin (.inl rfl) rfl (.agg rfl e2_1 z37 (fun _ h => h.at_ 0 rfl) rfl .nil) ?_))))))))); exact fun w' hw => ⟨by clear hw; (rw [ftU_er (hG4.trans (need_f (nT (rgh_b.symm.trans h6))))]; rfl), hw.f0⟩
  refine zi (zk (yA (jD Tryz.func34 (fun w h => rnone_ok w) (ju 0 z37 e2_1 rfl rfl (yB (ze (r_fin (.inl rfl) rfl (.agg rfl e2_1 z37 (fun _ h => h.at_ 0 rfl) rfl .nil) ?_))))))); exact fun w' hw => ⟨by clear hw; (rw [ftU_ok (hG4.trans (need_t (nF (rgh_b.symm.trans h6))))]; rfl), hw.f0⟩
theorem rough_all : ∀ n : Nat, n ≤ 10000000 → RghH n
  | 0, _ => fun _ _ _ h => absurd h (Nat.not_lt_zero _)
  | n + 1, h => rough_step n (rough_all n (by omega)) (by omega)
theorem rough_ok : RghH 10000000 := rough_all _ (Nat.le_refl _)
end Go.Proofs.YtoehjlmdnajibaaGreatDoor
end
section
namespace Go.Proofs.YtoehjlmdnajibaaGreatDoor
open Go.RowKit Go.Sx
open Go.Tok Go.Tree Go.Knd
theorem sn_b {t ty : Nat} : (!scal t || whol ty && decide (¬ (t : Int) = 1)) = !(scal t && (!whol ty || decide (t = 1))) := by
 rw [show decide (¬ (t : Int) = 1) = !decide (t = 1) by rw [← decide_not]; exact decide_eq_decide.2 (by omega)]
 cases scal t <;> cases whol ty <;> cases decide (t = 1) <;> rfl
theorem dneed_f {block ty : Nat} {a : Int} (h1 : 2 ≤ block) (h2 : whol ty = true) : needK (decide (block < 2) || !whol ty) a = .error (152, a) := by rw [decide_eq_false (by omega), h2]; rfl
theorem dneed_t {block ty : Nat} {a : Int} (h : block < 2 ∨ whol ty = false) : needK (decide (block < 2) || !whol ty) a = .ok () := by
 rcases h with h | h
 ·rw [decide_eq_true h]; rfl
 ·rw [h, Bool.not_false, Bool.or_true]; rfl
theorem bneed_f {block : Nat} {a : Int} (h1 : block ≠ 0) (h2 : block ≠ 2) : needK (decide (block = 0) || decide (block = 2)) a = .error (152, a) := by rw [decide_eq_false h1, decide_eq_false h2]; rfl
theorem bneed_t {block : Nat} {a : Int} (h : block = 0 ∨ block = 2) : needK (decide (block = 0) || decide (block = 2)) a = .ok () := by
 rcases h with h | h
 ·rw [decide_eq_true h]; rfl
 ·rw [decide_eq_true h, Bool.or_true]; rfl
theorem cellRun {xs : List Value} {j : Nat} {l : List Value} (h : (xs.drop (j * 4)).take 4 = l) (q : Nat) (u : Value) (hq : l[q]? = some u) : xs[j * 4 + q]? = some u := by
 rw [← h, List.getElem?_take] at hq
 split at hq
 ·rwa [List.getElem?_drop] at hq
 ·cases hq
theorem rdecl_ok (x : Dc) (cs : List Value) (vs : List Vr) (va : Option Addr) (vc : Nat) (block : Nat) (hbl : block ≤ 1000) (w : World) (hx : dcW x < 10000000) (hok : dcOk x = true) (hm : dcM w (fun _ => True) x cs) (hv : vrsV w (fun _ => True) vs (va, vc)) (hvl : vs.length ≤ 90000000) :
  Ret Tryz.prog 31 #[.agg cs.toArray, .int .i64 (block : Nat), .slice va vs.length vc] w (fun v w' => v = .agg (ftC (outV (declK vs x block)).2).toArray ∧ Ext w w') := by
 obtain ⟨ty, at_, nm, sz, lo, up, ini⟩ := x
 obtain ⟨-, -, hf1, hf2, hf3, hf4⟩ := dc_facts hok
 simp only [] at hf1 hf2 hf3 hf4
 have hm2 := hm
 unfold dcM at hm2
 obtain ⟨sa, sc, la, lc, ua, uc, ia, ic, hcs, hsz, hlo, hup, hini⟩ := hm2
 simp only [] at hcs
 subst hcs
 have hx2 := hx
 simp only [dcW] at hx2
 simp only [] at hsz hlo hup hini
 have hlu : (lo ++ up).length ≤ 10000000 := by rw [List.length_append]; omega
 have hG : declK vs ⟨ty, at_, nm, sz, lo, up, ini⟩ block = (if (findV vs nm).isSome = true then .error (151, at_) else andK (needK (decide (block < 2) || !whol ty) at_) (fun _ => andK (eachK (countK vs) sz) (fun _ => andK (eachK (boundK vs ty block) (lo ++ up)) (fun _ => andK (eachK (fun e => andK (ofK vs e) fun k => needK (fitK ty k.1) e.at_) ini) (fun _ => .ok (vs ++ [Vr.mk nm ty ((block : Nat) : Int) (decide (2 ≤ block))])))))) := rfl
 refine enter (S := No) (l := [_, _, _]) (L := []) 163 Tryz.func31 rfl rfl rfl (St.start w No) (yA (w_boxA rfl (fun t3b gt3b ut3b => zA zr37 (fun t6b gt6b ut6b => yC (mS rfl (zf fa49_2 rfl (jM 1 z9 rfl (jD Tryz.func48 (fun w h => rFind_ok vs va vc nm w (hv.nowT zm0 h) hvl) ?_))))))))
 rcases hq3 : findV vs nm with _ | v3
 ·have hG5 := hG.trans (if_neg (by rw [hq3]; exact Bool.false_ne_true))
  refine zm rfl (jx rfl rfl (jx rfl rfl (zA zr54 (fun t7b gt7b ut7b => jv 0 z54 rfl (aB rfl (yB (zq (yA (mB rfl (yB (zG rfl (zi (zk ?_)))))))))))))
  refine c_cut (fun e B L => e 1 = .int .i64 (block : Nat) ∧ e 2 = .slice va vs.length vc ∧ e 3 = pX t3b ∧ e 6 = pX t6b ∧ e 9 = .bool (whol ty) ∧ B = [(w, No)] ∧ L = [(t6b, cel [.int .i64 0, .int .i64 0] 37), (t3b, cel [.int .u8 (ty : Nat), .int .i64 at_, str nm, .slice sa sz.length sc, .slice la lo.length lc, .slice ua up.length uc, .slice ia ini.length ic] 49)] ∧ declK vs ⟨ty, at_, nm, sz, lo, up, ini⟩ block = andK (needK (decide (block < 2) || !whol ty) at_) (fun _ => andK (eachK (countK vs) sz) (fun _ => andK (eachK (boundK vs ty block) (lo ++ up)) (fun _ => andK (eachK (fun e => andK (ofK vs e) fun k => needK (fitK ty k.1) e.at_) ini) (fun _ => .ok (vs ++ [Vr.mk nm ty ((block : Nat) : Int) (decide (2 ≤ block))])))))) ?_ ?_
  ·refine zr (zf fa49_0 rfl (jM 2 z5 rfl (je rfl rfl (mB rfl ?_)))); refine zd (t := 34) rfl (fun h5 => ?_) (fun h5 => ?_)
   ·refine zs rfl rfl (bT h5) (zs rfl rfl (bT h5) (zs rfl rfl (bT h5) (jT (bT h5) rfl (aB rfl (zn (zK (B' := _) (L' := [(t6b, cel [.int .i64 0, .int .i64 0] 37), (t3b, cel [.int .u8 (ty : Nat), .int .i64 at_, str nm, .slice sa sz.length sc, .slice la lo.length lc, .slice ua up.length uc, .slice ia ini.length ic] 49)]) (fun w h => h.d1) ?_)))))); exact k_mid ⟨rfl, rfl, rfl, rfl, (congrArg Value.bool (by rw [Bool.eq_iff_iff]; simp only [whol, Bool.or_eq_true, decide_eq_true_eq, Bool.true_eq, iff_true, true_iff]; omega)), rfl, rfl, hG5⟩
   ·refine zw rfl rfl (bF h5) (zf fa49_0 rfl (zw rfl rfl (bF h5) (jM 2 z5 rfl (zw rfl rfl (bF h5) (je rfl rfl (jF (bF h5) rfl (aB rfl (zn (zK (B' := _) (L' := [(t6b, cel [.int .i64 0, .int .i64 0] 37), (t3b, cel [.int .u8 (ty : Nat), .int .i64 at_, str nm, .slice sa sz.length sc, .slice la lo.length lc, .slice ua up.length uc, .slice ia ini.length ic] 49)]) (fun w h => h.d1) ?_))))))))); exact k_mid ⟨rfl, rfl, rfl, rfl, (congrArg Value.bool (by rw [Bool.eq_iff_iff]; simp only [whol, Bool.or_eq_true, decide_eq_true_eq, Bool.true_eq, iff_true, true_iff]; omega)), rfl, rfl, hG5⟩
  rintro e B L ⟨e1_1, e2_1, e3_1, e6_1, e9_1, rfl, rfl, hGb⟩
  refine c_cut (fun e B L => e 1 = .int .i64 (block : Nat) ∧ e 2 = .slice va vs.length vc ∧ e 3 = pX t3b ∧ e 6 = pX t6b ∧ e 9 = .bool (whol ty) ∧ B = [(w, No)] ∧ L = [(t6b, cel [.int .i64 0, .int .i64 0] 37), (t3b, cel [.int .u8 (ty : Nat), .int .i64 at_, str nm, .slice sa sz.length sc, .slice la lo.length lc, .slice ua up.length uc, .slice ia ini.length ic] 49)] ∧ declK vs ⟨ty, at_, nm, sz, lo, up, ini⟩ block = andK (eachK (countK vs) sz) (fun _ => andK (eachK (boundK vs ty block) (lo ++ up)) (fun _ => andK (eachK (fun e => andK (ofK vs e) fun k => needK (fitK ty k.1) e.at_) ini) (fun _ => .ok (vs ++ [Vr.mk nm ty ((block : Nat) : Int) (decide (2 ≤ block))]))))) ?_ ?_
  ·refine yA (mI e1_1 (jh rfl rfl (mB rfl ?_))); refine zd (t := 41) rfl (fun h6 => ?_) (fun h6 => ?_)
   ·refine zw rfl rfl (bT h6) (mB e9_1 (jT (bT h6) rfl (yB ?_))); refine c_cond rfl (fun h7 => ?_) (fun h7 => ?_)
    ·refine yA (zf fa49_1 e3_1 (jM 1 z3 rfl (jb bt37 rfl (ju 0 z37 e6_1 rfl rfl (yB (ze (zt ((r_fin (.inl rfl) rfl (.agg rfl e6_1 z37 (fun _ h => h.at_ 0 rfl) rfl .nil) ?_))))))))); exact fun w' hw => ⟨by clear hw; (rw [outV_er (hGb.trans (andK_er (dneed_f (by omega) (by assumption))))]; rfl), hw.f0⟩
    ·refine zi ?_; exact k_mid ⟨e1_1, e2_1, e3_1, e6_1, e9_1, rfl, rfl, (hGb.trans (andK_of (dneed_t (by exact .inr (by assumption)))))⟩
   ·refine zs rfl rfl (bF h6) (jF (bF h6) rfl (yB (zG rfl (zi ?_)))); exact k_mid ⟨e1_1, e2_1, e3_1, e6_1, e9_1, rfl, rfl, (hGb.trans (andK_of (dneed_t (by exact .inl (by omega)))))⟩
  rintro e B L ⟨e1_2, e2_2, e3_2, e6_2, e9_2, rfl, rfl, hGh⟩
  refine zq (yA (aI rfl (yB (zB (c_loop (fun m e B L => ∃ (k : Nat), e 1 = .int .i64 (block : Nat) ∧ e 2 = .slice va vs.length vc ∧ e 3 = pX t3b ∧ e 6 = pX t6b ∧ e 9 = .bool (whol ty) ∧ e 10 = .int .i64 (k : Nat) ∧ B = [(w, No)] ∧ L = [(t6b, cel [.int .i64 0, .int .i64 0] 37), (t3b, cel [.int .u8 (ty : Nat), .int .i64 at_, str nm, .slice sa sz.length sc, .slice la lo.length lc, .slice ua up.length uc, .slice ia ini.length ic] 49)] ∧ k ≤ sz.length ∧ declK vs ⟨ty, at_, nm, sz, lo, up, ini⟩ block = andK (eachK (countK vs) (sz.drop k)) (fun _ => andK (eachK (boundK vs ty block) (lo ++ up)) (fun _ => andK (eachK (fun e => andK (ofK vs e) fun k => needK (fitK ty k.1) e.at_) ini) (fun _ => .ok (vs ++ [Vr.mk nm ty ((block : Nat) : Int) (decide (2 ≤ block))])))) ∧ m = sz.length - k) _ ⟨0, e1_2, e2_2, e3_2, e6_2, e9_2, rfl, rfl, rfl, Nat.zero_le _, hGh, rfl⟩ ?_)))))
  rintro m e B L ⟨k, e1_3, e2_3, e3_3, e6_3, e9_3, e10_3, rfl, rfl, hk, hG1, rfl⟩
  refine zq (yA (mI e10_3 (zf fa49_3 e3_3 (jM 1 z47 rfl (jj sl47 rfl (jl rfl rfl (yB ?_))))))); refine zD rfl (fun h8 => ?_) (fun h8 => ?_)
  ·have hlt : k < sz.length := (by omega); obtain ⟨x, hxk⟩ : ∃ x, sz[k]? = some x := ⟨_, List.getElem?_eq_getElem hlt⟩; obtain ⟨cs, hA, hE⟩ := hsz.get0 hxk; have hxn := exsW_mem (List.mem_of_getElem? hxk); have hxo := exsOk_mem hf1 (List.mem_of_getElem? hxk); obtain ⟨b1, o1, rfl⟩ := hA.ptr; have hG2 := (hG1.trans (eachK_step hxk _)); obtain ⟨op2, at2, nm2, ks2⟩ := x; have hE2 := hE; unfold exM at hE2; obtain ⟨ka2, kc2, rfl, hkc2, hks2⟩ := hE2
   refine zi (zk (zq (zB (yA (zf fa49_3 e3_3 (jM 1 z47 rfl (mI e10_3 (zg (fun _ => R_iaN (i := k) sl47 rfl rfl (by omega)) (w_loadC (l := [.int .u8 (op2 : Nat), .int .i64 at2, str nm2, .slice ka2 ks2.length kc2]) z52 rfl rfl (fun w h j v hj => hA.cell (fun _ _ hh => hh) zm0 h j v hj) (mS e2_3 ?_))))))))))
   rcases hU1 : countK vs (Ex.mk op2 at2 nm2 ks2) with f | ⟨⟩
   ·refine jD (v := .agg #[.int .i64 (f.1 : Nat), .int .i64 f.2]) Tryz.func49 (fun w h => by have := rcount_ok _ _ vs va vc w (by omega) hxo (hE.nowT zm0 h) (hv.nowT zm0 h) hvl; rw [hU1] at this; exact this) ?_
    have hfc : f.1 ≠ 0 := bad_count _ _ f hU1
    have hG3 := hG2.trans (andK_er hU1)
    refine zA zr37 (fun t11b gt11b ut11b => jv 0 z37 rfl (yC (jy 0 z37 rfl rfl (jD Tryz.func32 (fun w h => bad_t f.1 f.2 (by omega) w) (yB (zE rfl (yA (jy 0 z37 rfl rfl (ju 1 z37 e6_3 rfl rfl (yB (ze (zb (zt (zt (zb (zt ((r_fin (.inl rfl) rfl (.agg rfl e6_3 z37 (fun _ h => h.at_ 1 rfl) rfl .nil) ?_)))))))))))))))))); exact fun w' hw => ⟨vE hG3, hw.f0⟩
   ·refine jD (v := .agg #[.int .i64 0, .int .i64 0]) Tryz.func49 (fun w h => by have := rcount_ok _ _ vs va vc w (by omega) hxo (hE.nowT zm0 h) (hv.nowT zm0 h) hvl; rw [hU1] at this; exact this) ?_
    have hG3 := hG2.trans (andK_of hU1)
    refine zA zr37 (fun t11b gt11b ut11b => jv 0 z37 rfl (yC (jy 0 z37 rfl rfl (jD Tryz.func32 (fun w h => bad_f 0 w) (yB (zG rfl (zi (zO (zk (zr (mI e10_3 (ji rfl rfl (by omega) (aI rfl (zn (zK (B' := [(w, No)]) (L' := _) (fun w h => h.d1) ?_))))))))))))))); exact k_again _ (by omega) ⟨k + 1, e1_3, e2_3, e3_3, e6_3, e9_3, rfl, rfl, rfl, by omega, hG3, rfl⟩
  ·have hGe := hG1.trans (eachK_end (by omega) _)
   refine zX (zx (zx (b_here rfl (zk (yA (za (v := .slice _ _ _) rfl (yC (mS rfl (zf fa49_4 e3_3 (jM 1 z47 rfl (w_exsK (X := (w, No)) (s0 := 0) (ys := lo) (W := []) slt47 rfl (Own.nil _ 4) rfl (exsM.nb _ _ _ hlo) zm0 (by omega) (by decide) (fun news1 v1 W1 hK1 hl1 hO1 => ?_))))))))))))
   obtain ⟨a1, c1, rfl⟩ := hO1.slice; refine w_st (B' := _) (L' := [(t6b, cel [.int .i64 0, .int .i64 0] 37), (t3b, cel [.int .u8 (ty : Nat), .int .i64 at_, str nm, .slice sa sz.length sc, .slice la lo.length lc, .slice ua up.length uc, .slice ia ini.length ic] 49)] ++ W1) (fun w h => h.perm List.perm_append_comm) ?_
   refine za (v := .slice _ _ _) rfl (yC (mS rfl (zf fa49_5 e3_3 (jM 1 z47 rfl (w_st (B' := _) (L' := W1 ++ [(t6b, cel [.int .i64 0, .int .i64 0] 37), (t3b, cel [.int .u8 (ty : Nat), .int .i64 at_, str nm, .slice sa sz.length sc, .slice la lo.length lc, .slice ua up.length uc, .slice ia ini.length ic] 49)]) (fun w h => h.perm List.perm_append_comm) (w_exsK (X := (w, No)) (s0 := 0) (ys := up) (W := W1) slt47 rfl hO1 rfl (exsM.nb _ _ _ hup) zm0 (by omega) (by decide) (fun news2 v2 W2 hK2 hl2 hO2 => ?_)))))))
   obtain ⟨a2, c2, rfl⟩ := hO2.slice; have hKa : Mc 4 exM w (Nb 0 (w, No)) (lo ++ up) (([] ++ news1) ++ news2) := Mc.app hK1 hl1 hK2
   refine za (v := .slice _ _ _) rfl (yB (zq (yA (aI rfl (yB (zB (c_st (B' := _) (L' := [(t6b, cel [.int .i64 0, .int .i64 0] 37), (t3b, cel [.int .u8 (ty : Nat), .int .i64 at_, str nm, .slice sa sz.length sc, .slice la lo.length lc, .slice ua up.length uc, .slice ia ini.length ic] 49)] ++ W2) (fun w h => h.perm List.perm_append_comm) (c_loop (fun m e B L => ∃ (k : Nat), e 1 = .int .i64 (block : Nat) ∧ e 2 = .slice va vs.length vc ∧ e 3 = pX t3b ∧ e 6 = pX t6b ∧ e 9 = .bool (whol ty) ∧ e 12 = .slice a2 (0 + lo.length + up.length) c2 ∧ e 13 = .int .i64 (k : Nat) ∧ B = [(w, No)] ∧ L = [(t6b, cel [.int .i64 0, .int .i64 0] 37), (t3b, cel [.int .u8 (ty : Nat), .int .i64 at_, str nm, .slice sa sz.length sc, .slice la lo.length lc, .slice ua up.length uc, .slice ia ini.length ic] 49)] ++ W2 ∧ k ≤ 0 + lo.length + up.length ∧ declK vs ⟨ty, at_, nm, sz, lo, up, ini⟩ block = andK (eachK (boundK vs ty block) ((lo ++ up).drop k)) (fun _ => andK (eachK (fun e => andK (ofK vs e) fun k => needK (fitK ty k.1) e.at_) ini) (fun _ => .ok (vs ++ [Vr.mk nm ty ((block : Nat) : Int) (decide (2 ≤ block))]))) ∧ m = 0 + lo.length + up.length - k) _ ⟨0, e1_3, e2_3, e3_3, e6_3, e9_3, rfl, rfl, rfl, rfl, Nat.zero_le _, hGe, rfl⟩ ?_))))))))
   rintro m e B L ⟨k, e1_4, e2_4, e3_4, e6_4, e9_4, e12_4, e13_4, rfl, rfl, hk, hG1, rfl⟩
   refine zq (yA (mI e13_4 (mS e12_4 (jj sl47 rfl (jl rfl rfl (yB ?_)))))); refine zD rfl (fun h11 => ?_) (fun h11 => ?_)
   ·have hlt : k < (lo ++ up).length := (by rw [List.length_append]; omega); obtain ⟨x, hxk⟩ : ∃ x, (lo ++ up)[k]? = some x := ⟨_, List.getElem?_eq_getElem hlt⟩; have hxm := List.mem_of_getElem? hxk; have hxn : exW x < 10000000 := (by rcases List.mem_append.1 hxm with h9 | h9 <;> have := exsW_mem h9 <;> omega); have hxo : exOk x = true := (by rcases List.mem_append.1 hxm with h9 | h9 <;> first | exact exsOk_mem hf2 h9 | exact exsOk_mem hf3 h9); have hY := hKa k x hxk; obtain ⟨b5, rfl, hc5⟩ := hO2.cell (i := k) (by omega); have hG2 := (hG1.trans (eachK_step hxk _)).trans (bound_flat _); obtain ⟨op2, at2, nm2, ks2⟩ := x; have hY2 := hY; unfold exM at hY2; obtain ⟨ka2, kc2, heq, hkc2, hks2⟩ := hY2; rw [heq] at hY; have hcl := cellRun heq; have hE := exM.mono (N' := fun _ => True) (fun _ _ => trivial) _ _ hY
    refine zi (zk (zq (zB (yA (mS e12_4 (mI e13_4 (zg (fun _ => R_iaN (i := k) sl47 rfl rfl (by omega)) ?_))))))); refine w_loadC (l := [.int .u8 (op2 : Nat), .int .i64 at2, str nm2, .slice ka2 ks2.length kc2]) z52 rfl rfl (fun w h q u hq => by rw [show 0 + k * 4 + q = k * 4 + q by omega]; exact hc5 _ _ w (fun p hp => List.mem_append_right _ hp) h _ u (hcl q u hq)) ?_; refine zA zr52 (fun t14b gt14b ut14b => ?_)
    refine jv 0 z52 rfl (yB ?_)
    refine c_cut (fun e B L => e 1 = .int .i64 (block : Nat) ∧ e 2 = .slice va vs.length vc ∧ e 3 = pX t3b ∧ e 6 = pX t6b ∧ e 9 = .bool (whol ty) ∧ e 12 = .slice (some ⟨b5, 0, none⟩) (0 + lo.length + up.length) c2 ∧ e 13 = .int .i64 (k : Nat) ∧ e 14 = pX t14b ∧ B = [(w, No)] ∧ L = [(t14b, cel [.int .u8 (op2 : Nat), .int .i64 at2, str nm2, .slice ka2 ks2.length kc2] 52), (t6b, cel [.int .i64 0, .int .i64 0] 37), (t3b, cel [.int .u8 (ty : Nat), .int .i64 at_, str nm, .slice sa sz.length sc, .slice la lo.length lc, .slice ua up.length uc, .slice ia ini.length ic] 49)] ++ W2 ∧ declK vs ⟨ty, at_, nm, sz, lo, up, ini⟩ block = andK (ofK vs (Ex.mk op2 at2 nm2 ks2)) (fun q => andK (needK (scal q.1 && (!whol ty || decide (q.1 = 1))) at2) (fun _ => andK (if block = 0 then smoothK (Ex.mk op2 at2 nm2 ks2) else .ok ()) (fun _ => andK (if q.2 = true then .error (153, at2) else .ok ()) (fun _ => andK (eachK (boundK vs ty block) ((lo ++ up).drop (k + 1))) (fun _ => andK (eachK (fun e => andK (ofK vs e) fun k => needK (fitK ty k.1) e.at_) ini) (fun _ => .ok (vs ++ [Vr.mk nm ty ((block : Nat) : Int) (decide (2 ≤ block))])))))))) ?_ ?_
    ·refine yA (mI e1_4 (jn rfl rfl (mB rfl ?_))); refine zd (t := 84) rfl (fun h13 => ?_) (fun h13 => ?_)
     ·refine zw rfl rfl (bT h13) (mI e1_4 (zw rfl rfl (bT h13) (jn rfl rfl (jT (bT h13) rfl (yB ?_))))); refine zD rfl (fun h14 => ?_) (fun h14 => ?_)
      ·refine yA (zf fa52_1 rfl (jM 0 z3 rfl (jb bt37 rfl (ju 1 z37 e6_4 rfl rfl (yB (ze (zt (zb (zt (zt (zb (zt ((r_fin (.inl rfl) rfl (.agg rfl e6_4 z37 (fun _ h => h.at_ 1 rfl) rfl .nil) ?_)))))))))))))); exact fun w' hw => ⟨by clear hw; (rw [outV_er (hG2.trans (andK_er (bneed_f (by omega) (by omega))))]; rfl), hw.f0⟩
      ·refine zi ?_; exact k_mid ⟨e1_4, e2_4, e3_4, e6_4, e9_4, e12_4, e13_4, rfl, rfl, rfl, (hG2.trans (andK_of (bneed_t (by omega))))⟩
     ·refine zs rfl rfl (bF h13) (zs rfl rfl (bF h13) (jF (bF h13) rfl (yB (zG rfl (zi ?_))))); exact k_mid ⟨e1_4, e2_4, e3_4, e6_4, e9_4, e12_4, e13_4, rfl, rfl, rfl, (hG2.trans (andK_of (bneed_t (by omega))))⟩
    rintro e B L ⟨e1_5, e2_5, e3_5, e6_5, e9_5, e12_5, e13_5, e14_5, rfl, rfl, hGc⟩
    refine yA (jy 0 z52 e14_5 rfl (mS e2_5 ?_))
    rcases hX : ofK vs (Ex.mk op2 at2 nm2 ks2) with f | ⟨q1, q2⟩
    ·refine jD (v := .tuple #[.agg #[.int .u8 0, .bool false], .agg #[.int .i64 (f.1 : Nat), .int .i64 f.2]]) Tryz.func43 (fun w h => by have := rof_ok _ _ vs va vc w (by omega) hxo (hE.nowT zm0 h) (hv.nowT zm0 h) hvl; rw [hX] at this; exact this) ?_
     have hfc := of_code _ f hX
     have hGa := hGc.trans (andK_er hX)
     refine zm rfl (jx rfl rfl (jx rfl rfl (zA zr58 (fun t15b gt15b ut15b => zA zr37 (fun t16b gt16b ut16b => jv 1 z58 rfl (jv 0 z37 rfl (yB (zq (yA (jy 0 z37 rfl rfl (jD Tryz.func32 (fun w h => bad_t f.1 f.2 (by omega) w) (yB (zE rfl (yA (jy 0 z37 rfl rfl (ju 3 z37 e6_5 rfl rfl (yB (ze (zt (zb (zt (zt (zb (zt ((r_fin (.inl rfl) rfl (.agg rfl e6_5 z37 (fun _ h => h.at_ 3 rfl) rfl .nil) ?_)))))))))))))))))))))))))); exact fun w' hw => ⟨vE hGa, hw.f0⟩
    ·refine jD (v := .tuple #[.agg #[.int .u8 (q1 : Nat), .bool q2], .agg #[.int .i64 0, .int .i64 0]]) Tryz.func43 (fun w h => by have := rof_ok _ _ vs va vc w (by omega) hxo (hE.nowT zm0 h) (hv.nowT zm0 h) hvl; rw [hX] at this; exact this) ?_
     have hGa := hGc.trans (andK_of hX)
     refine zm rfl (jx rfl rfl (jx rfl rfl (zA zr58 (fun t15b gt15b ut15b => zA zr37 (fun t16b gt16b ut16b => jv 1 z58 rfl (jv 0 z37 rfl (yB (zq (yA (jy 0 z37 rfl rfl (jD Tryz.func32 (fun w h => bad_f 0 w) (yB (zG rfl (zi (zk ?_)))))))))))))))
     refine c_cut (fun e B L => e 1 = .int .i64 (block : Nat) ∧ e 2 = .slice va vs.length vc ∧ e 3 = pX t3b ∧ e 6 = pX t6b ∧ e 9 = .bool (whol ty) ∧ e 12 = .slice (some ⟨b5, 0, none⟩) (0 + lo.length + up.length) c2 ∧ e 13 = .int .i64 (k : Nat) ∧ e 14 = pX t14b ∧ e 15 = pX t15b ∧ e 16 = pX t16b ∧ B = [(w, No)] ∧ L = [(t16b, cel [.int .i64 0, .int .i64 0] 37), (t15b, cel [.int .u8 (q1 : Nat), .bool q2] 58), (t14b, cel [.int .u8 (op2 : Nat), .int .i64 at2, str nm2, .slice ka2 ks2.length kc2] 52), (t6b, cel [.int .i64 0, .int .i64 0] 37), (t3b, cel [.int .u8 (ty : Nat), .int .i64 at_, str nm, .slice sa sz.length sc, .slice la lo.length lc, .slice ua up.length uc, .slice ia ini.length ic] 49)] ++ W2 ∧ declK vs ⟨ty, at_, nm, sz, lo, up, ini⟩ block = andK (if block = 0 then smoothK (Ex.mk op2 at2 nm2 ks2) else .ok ()) (fun _ => andK (if q2 = true then .error (153, at2) else .ok ()) (fun _ => andK (eachK (boundK vs ty block) ((lo ++ up).drop (k + 1))) (fun _ => andK (eachK (fun e => andK (ofK vs e) fun k => needK (fitK ty k.1) e.at_) ini) (fun _ => .ok (vs ++ [Vr.mk nm ty ((block : Nat) : Int) (decide (2 ≤ block))])))))) ?_ ?_
     ·refine yA (zf fa58_0 rfl (jM 1 z5 rfl (jD Tryz.func50 (fun w h => rscalar_ok _ w) (jk rfl (mB rfl (gFx (v := .bool _) rfl (fun hc w h => R_move e9_5) rfl (gFx (v := .bool _) rfl (fun hc w h => R_move (gvl_t hc)) rfl (hTx rfl (fun hc w h => R_fa fa58_0 rfl) rfl (hTx rfl (fun hc w h => R_ld1 z5 (gvl_t hc) (zc 1 rfl rfl h)) rfl (hTx rfl (fun hc w h => R_ne (gvl_t hc) rfl) rfl (gFx (v := .bool _) rfl (fun hc w h => R_pickA (gvl_t hc) (gvl_and hc) rfl) rfl (zg (v := .bool _) (fun _ => R_pickO rfl rfl rfl) (yB ?_))))))))))))); refine c_cond rfl (fun h19 => ?_) (fun h19 => ?_)
      ·refine yA (zf fa52_1 e14_5 (jM 2 z3 rfl (jb bt37 rfl (ju 3 z37 e6_5 rfl rfl (yB (ze (zt (zb (zt (zt (zb (zt ((r_fin (.inl rfl) rfl (.agg rfl e6_5 z37 (fun _ h => h.at_ 3 rfl) rfl .nil) ?_)))))))))))))); exact fun w' hw => ⟨by clear hw; (rw [outV_er (hGa.trans (andK_er (need_f (nT (sn_b.symm.trans (by assumption))))))]; rfl), hw.f0⟩
      ·refine zi ?_; exact k_mid ⟨e1_5, e2_5, e3_5, e6_5, e9_5, e12_5, e13_5, e14_5, rfl, rfl, rfl, rfl, (hGa.trans (andK_of (need_t (nF (sn_b.symm.trans h19)))))⟩
     rintro e B L ⟨e1_6, e2_6, e3_6, e6_6, e9_6, e12_6, e13_6, e14_6, e15_6, e16_6, rfl, rfl, hGd⟩
     refine yA (jy 2 z52 e14_6 rfl ?_)
     rcases hU1 : smoothK (Ex.mk op2 at2 nm2 ks2) with f | ⟨⟩
     ·refine jD (v := .agg #[.int .i64 (f.1 : Nat), .int .i64 f.2]) Tryz.func51 (fun w h => by have := rough_ok _ _ w (by omega) (hE.nowT zm0 h); rw [hU1] at this; exact this) ?_
      have hfc : f.1 ≠ 0 := bad_smooth _ f hU1
      refine ju 0 z37 e16_6 rfl rfl (yB ?_)
      refine c_cut (fun e B L => e 1 = .int .i64 (block : Nat) ∧ e 2 = .slice va vs.length vc ∧ e 3 = pX t3b ∧ e 6 = pX t6b ∧ e 9 = .bool (whol ty) ∧ e 12 = .slice (some ⟨b5, 0, none⟩) (0 + lo.length + up.length) c2 ∧ e 13 = .int .i64 (k : Nat) ∧ e 14 = pX t14b ∧ e 15 = pX t15b ∧ B = [(w, No)] ∧ L = [(t15b, cel [.int .u8 (q1 : Nat), .bool q2] 58), (t14b, cel [.int .u8 (op2 : Nat), .int .i64 at2, str nm2, .slice ka2 ks2.length kc2] 52), (t6b, cel [.int .i64 0, .int .i64 0] 37), (t3b, cel [.int .u8 (ty : Nat), .int .i64 at_, str nm, .slice sa sz.length sc, .slice la lo.length lc, .slice ua up.length uc, .slice ia ini.length ic] 49)] ++ W2 ∧ declK vs ⟨ty, at_, nm, sz, lo, up, ini⟩ block = andK (if q2 = true then .error (153, at2) else .ok ()) (fun _ => andK (eachK (boundK vs ty block) ((lo ++ up).drop (k + 1))) (fun _ => andK (eachK (fun e => andK (ofK vs e) fun k => needK (fitK ty k.1) e.at_) ini) (fun _ => .ok (vs ++ [Vr.mk nm ty ((block : Nat) : Int) (decide (2 ≤ block))]))))) ?_ ?_
      ·refine yA (mI e1_6 (je rfl rfl (mB rfl ?_))); refine zd (t := 119) rfl (fun h20 => ?_) (fun h20 => ?_)
       ·have hGs := (hGd.trans (ifK_pos (show block = 0 by omega) _ _ _)).trans (andK_er hU1)
        refine zw rfl rfl (bT h20) (jy 0 z37 e16_6 rfl (zw rfl rfl (bT h20) (jD Tryz.func32 (fun w h => bad_t f.1 f.2 (by omega) w) (jT (bT h20) rfl (yB (zE rfl (yA (jy 0 z37 e16_6 rfl (ju 3 z37 e6_6 rfl rfl (yB (ze (zt (zb (zt (zt (zb (zt ((r_fin (.inl rfl) rfl (.agg rfl e6_6 z37 (fun _ h => h.at_ 3 rfl) rfl .nil) ?_))))))))))))))))))); exact fun w' hw => ⟨vE hGs, hw.f0⟩
       ·have hGs := (hGd.trans (ifK_neg (show ¬ block = 0 by omega) _ _ _)).trans (andK_ok _ _)
        refine zs rfl rfl (bF h20) (zs rfl rfl (bF h20) (jF (bF h20) rfl (yB (zG rfl (zi (zK (B' := _) (L' := [(t15b, cel [.int .u8 (q1 : Nat), .bool q2] 58), (t14b, cel [.int .u8 (op2 : Nat), .int .i64 at2, str nm2, .slice ka2 ks2.length kc2] 52), (t6b, cel [.int .i64 0, .int .i64 0] 37), (t3b, cel [.int .u8 (ty : Nat), .int .i64 at_, str nm, .slice sa sz.length sc, .slice la lo.length lc, .slice ua up.length uc, .slice ia ini.length ic] 49)] ++ W2) (fun w h => h.d1) ?_)))))); exact k_mid ⟨e1_6, e2_6, e3_6, e6_6, e9_6, e12_6, e13_6, e14_6, e15_6, rfl, rfl, hGs⟩
      rintro e B L ⟨e1_7, e2_7, e3_7, e6_7, e9_7, e12_7, e13_7, e14_7, e15_7, rfl, rfl, hGp⟩
      refine yA (zf fa58_1 e15_7 (jM 0 z4 rfl (yB ?_))); refine c_cond rfl (fun h21 => ?_) (fun h21 => ?_)
      ·refine yA (zf fa52_1 e14_7 (jM 1 z3 rfl (jb bt37 rfl (ju 2 z37 e6_7 rfl rfl (yB (ze (zb (zt (zt (zb (zt ((r_fin (.inl rfl) rfl (.agg rfl e6_7 z37 (fun _ h => h.at_ 2 rfl) rfl .nil) ?_))))))))))))); exact fun w' hw => ⟨by clear hw; (rw [outV_er (hGp.trans (andK_er (if_pos (by assumption))))]; rfl), hw.f0⟩
      ·refine zi (zO (zk (zr (mI e13_7 (ji rfl rfl (by omega) (aI rfl (zn (zK (B' := [(w, No)]) (L' := [(t6b, cel [.int .i64 0, .int .i64 0] 37), (t3b, cel [.int .u8 (ty : Nat), .int .i64 at_, str nm, .slice sa sz.length sc, .slice la lo.length lc, .slice ua up.length uc, .slice ia ini.length ic] 49)] ++ W2) (fun w h => h.drop (.cons _ (.cons _ (List.Sublist.refl _)))) ?_)))))))); exact k_again _ (by omega) ⟨k + 1, e1_7, e2_7, e3_7, e6_7, e9_7, e12_7, rfl, rfl, rfl, by omega, ((hGp.trans (ifK_neg (by rw [h21]; exact Bool.false_ne_true) _ _ _)).trans (andK_ok _ _)), rfl⟩
     ·refine jD (v := .agg #[.int .i64 0, .int .i64 0]) Tryz.func51 (fun w h => by have := rough_ok _ _ w (by omega) (hE.nowT zm0 h); rw [hU1] at this; exact this) ?_; refine ju 0 z37 e16_6 rfl rfl (yB ?_)
      refine c_cut (fun e B L => e 1 = .int .i64 (block : Nat) ∧ e 2 = .slice va vs.length vc ∧ e 3 = pX t3b ∧ e 6 = pX t6b ∧ e 9 = .bool (whol ty) ∧ e 12 = .slice (some ⟨b5, 0, none⟩) (0 + lo.length + up.length) c2 ∧ e 13 = .int .i64 (k : Nat) ∧ e 14 = pX t14b ∧ e 15 = pX t15b ∧ B = [(w, No)] ∧ L = [(t15b, cel [.int .u8 (q1 : Nat), .bool q2] 58), (t14b, cel [.int .u8 (op2 : Nat), .int .i64 at2, str nm2, .slice ka2 ks2.length kc2] 52), (t6b, cel [.int .i64 0, .int .i64 0] 37), (t3b, cel [.int .u8 (ty : Nat), .int .i64 at_, str nm, .slice sa sz.length sc, .slice la lo.length lc, .slice ua up.length uc, .slice ia ini.length ic] 49)] ++ W2 ∧ declK vs ⟨ty, at_, nm, sz, lo, up, ini⟩ block = andK (if q2 = true then .error (153, at2) else .ok ()) (fun _ => andK (eachK (boundK vs ty block) ((lo ++ up).drop (k + 1))) (fun _ => andK (eachK (fun e => andK (ofK vs e) fun k => needK (fitK ty k.1) e.at_) ini) (fun _ => .ok (vs ++ [Vr.mk nm ty ((block : Nat) : Int) (decide (2 ≤ block))]))))) ?_ ?_
      ·refine yA (mI e1_6 (je rfl rfl (mB rfl ?_))); refine zd (t := 119) rfl (fun h22 => ?_) (fun h22 => ?_)
       ·have hGs := (hGd.trans (ifK_pos (show block = 0 by omega) _ _ _)).trans (andK_of hU1)
        refine zw rfl rfl (bT h22) (jy 0 z37 e16_6 rfl (zw rfl rfl (bT h22) (jD Tryz.func32 (fun w h => bad_f 0 w) (jT (bT h22) rfl (yB (zG rfl (zi (zK (B' := _) (L' := [(t15b, cel [.int .u8 (q1 : Nat), .bool q2] 58), (t14b, cel [.int .u8 (op2 : Nat), .int .i64 at2, str nm2, .slice ka2 ks2.length kc2] 52), (t6b, cel [.int .i64 0, .int .i64 0] 37), (t3b, cel [.int .u8 (ty : Nat), .int .i64 at_, str nm, .slice sa sz.length sc, .slice la lo.length lc, .slice ua up.length uc, .slice ia ini.length ic] 49)] ++ W2) (fun w h => h.d1) ?_)))))))); exact k_mid ⟨e1_6, e2_6, e3_6, e6_6, e9_6, e12_6, e13_6, e14_6, e15_6, rfl, rfl, hGs⟩
       ·have hGs := (hGd.trans (ifK_neg (show ¬ block = 0 by omega) _ _ _)).trans (andK_ok _ _)
        refine zs rfl rfl (bF h22) (zs rfl rfl (bF h22) (jF (bF h22) rfl (yB (zG rfl (zi (zK (B' := _) (L' := [(t15b, cel [.int .u8 (q1 : Nat), .bool q2] 58), (t14b, cel [.int .u8 (op2 : Nat), .int .i64 at2, str nm2, .slice ka2 ks2.length kc2] 52), (t6b, cel [.int .i64 0, .int .i64 0] 37), (t3b, cel [.int .u8 (ty : Nat), .int .i64 at_, str nm, .slice sa sz.length sc, .slice la lo.length lc, .slice ua up.length uc, .slice ia ini.length ic] 49)] ++ W2) (fun w h => h.d1) ?_)))))); exact k_mid ⟨e1_6, e2_6, e3_6, e6_6, e9_6, e12_6, e13_6, e14_6, e15_6, rfl, rfl, hGs⟩
      rintro e B L ⟨e1_8, e2_8, e3_8, e6_8, e9_8, e12_8, e13_8, e14_8, e15_8, rfl, rfl, hGp⟩
      refine yA (zf fa58_1 e15_8 (jM 0 z4 rfl (yB ?_))); refine c_cond rfl (fun h23 => ?_) (fun h23 => ?_)
      ·refine yA (zf fa52_1 e14_8 (jM 1 z3 rfl (jb bt37 rfl (ju 2 z37 e6_8 rfl rfl (yB (ze (zb (zt (zt (zb (zt ((r_fin (.inl rfl) rfl (.agg rfl e6_8 z37 (fun _ h => h.at_ 2 rfl) rfl .nil) ?_))))))))))))); exact fun w' hw => ⟨by clear hw; (rw [outV_er (hGp.trans (andK_er (if_pos (by assumption))))]; rfl), hw.f0⟩
      ·refine zi (zO (zk (zr (mI e13_8 (ji rfl rfl (by omega) (aI rfl (zn (zK (B' := [(w, No)]) (L' := [(t6b, cel [.int .i64 0, .int .i64 0] 37), (t3b, cel [.int .u8 (ty : Nat), .int .i64 at_, str nm, .slice sa sz.length sc, .slice la lo.length lc, .slice ua up.length uc, .slice ia ini.length ic] 49)] ++ W2) (fun w h => h.drop (.cons _ (.cons _ (List.Sublist.refl _)))) ?_)))))))); exact k_again _ (by omega) ⟨k + 1, e1_8, e2_8, e3_8, e6_8, e9_8, e12_8, rfl, rfl, rfl, by omega, ((hGp.trans (ifK_neg (by rw [h23]; exact Bool.false_ne_true) _ _ _)).trans (andK_ok _ _)), rfl⟩
   ·have hGf := hG1.trans (eachK_end (by rw [List.length_append]; omega) _)
    refine zX (zx (zx (b_here rfl (zk (zq (yA (aI rfl (yB (zB (c_st (B' := [(w, No)]) (L' := [(t6b, cel [.int .i64 0, .int .i64 0] 37), (t3b, cel [.int .u8 (ty : Nat), .int .i64 at_, str nm, .slice sa sz.length sc, .slice la lo.length lc, .slice ua up.length uc, .slice ia ini.length ic] 49)]) (fun w h => h.drop (List.sublist_append_left _ _)) (c_loop (fun m e B L => ∃ (k : Nat), e 1 = .int .i64 (block : Nat) ∧ e 2 = .slice va vs.length vc ∧ e 3 = pX t3b ∧ e 6 = pX t6b ∧ e 9 = .bool (whol ty) ∧ e 17 = .int .i64 (k : Nat) ∧ B = [(w, No)] ∧ L = [(t6b, cel [.int .i64 0, .int .i64 0] 37), (t3b, cel [.int .u8 (ty : Nat), .int .i64 at_, str nm, .slice sa sz.length sc, .slice la lo.length lc, .slice ua up.length uc, .slice ia ini.length ic] 49)] ∧ k ≤ ini.length ∧ declK vs ⟨ty, at_, nm, sz, lo, up, ini⟩ block = andK (eachK (fun e => andK (ofK vs e) fun k => needK (fitK ty k.1) e.at_) (ini.drop k)) (fun _ => .ok (vs ++ [Vr.mk nm ty ((block : Nat) : Int) (decide (2 ≤ block))])) ∧ m = ini.length - k) _ ⟨0, e1_4, e2_4, e3_4, e6_4, e9_4, rfl, rfl, rfl, Nat.zero_le _, hGf, rfl⟩ ?_)))))))))))
    rintro m e B L ⟨k, e1_9, e2_9, e3_9, e6_9, e9_9, e17_9, rfl, rfl, hk, hG1, rfl⟩
    refine zq (yA (mI e17_9 (zf fa49_6 e3_9 (jM 1 z47 rfl (jj sl47 rfl (jl rfl rfl (yB ?_))))))); refine zD rfl (fun h24 => ?_) (fun h24 => ?_)
    ·have hlt : k < ini.length := (by omega); obtain ⟨x, hxk⟩ : ∃ x, ini[k]? = some x := ⟨_, List.getElem?_eq_getElem hlt⟩; obtain ⟨cs, hA, hE⟩ := hini.get0 hxk; have hxn := exsW_mem (List.mem_of_getElem? hxk); have hxo := exsOk_mem hf4 (List.mem_of_getElem? hxk); obtain ⟨b1, o1, rfl⟩ := hA.ptr; have hG2 := (hG1.trans (eachK_step hxk _)).trans (init_flat _); obtain ⟨op2, at2, nm2, ks2⟩ := x; have hE2 := hE; unfold exM at hE2; obtain ⟨ka2, kc2, rfl, hkc2, hks2⟩ := hE2
     refine zi (zk (zq (zB (yA (zf fa49_6 e3_9 (jM 1 z47 rfl (mI e17_9 (zg (fun _ => R_iaN (i := k) sl47 rfl rfl (by omega)) (w_loadC (l := [.int .u8 (op2 : Nat), .int .i64 at2, str nm2, .slice ka2 ks2.length kc2]) z52 rfl rfl (fun w h j v hj => hA.cell (fun _ _ hh => hh) zm0 h j v hj) (mS e2_9 ?_))))))))))
     rcases hX : ofK vs (Ex.mk op2 at2 nm2 ks2) with f | ⟨q1, q2⟩
     ·refine jD (v := .tuple #[.agg #[.int .u8 0, .bool false], .agg #[.int .i64 (f.1 : Nat), .int .i64 f.2]]) Tryz.func43 (fun w h => by have := rof_ok _ _ vs va vc w (by omega) hxo (hE.nowT zm0 h) (hv.nowT zm0 h) hvl; rw [hX] at this; exact this) ?_
      have hfc := of_code _ f hX
      have hGa := hG2.trans (andK_er hX)
      refine zm rfl (jx rfl rfl (jx rfl rfl (zA zr58 (fun t18b gt18b ut18b => zA zr37 (fun t19b gt19b ut19b => jv 1 z58 rfl (jv 0 z37 rfl (yB (zq (yA (jy 0 z37 rfl rfl (jD Tryz.func32 (fun w h => bad_t f.1 f.2 (by omega) w) (yB (zE rfl (yA (jy 0 z37 rfl rfl (ju 2 z37 e6_9 rfl rfl (yB (ze (zt (zb (zt (zt (zb (zt ((r_fin (.inl rfl) rfl (.agg rfl e6_9 z37 (fun _ h => h.at_ 2 rfl) rfl .nil) ?_)))))))))))))))))))))))))); exact fun w' hw => ⟨vE hGa, hw.f0⟩
     ·refine jD (v := .tuple #[.agg #[.int .u8 (q1 : Nat), .bool q2], .agg #[.int .i64 0, .int .i64 0]]) Tryz.func43 (fun w h => by have := rof_ok _ _ vs va vc w (by omega) hxo (hE.nowT zm0 h) (hv.nowT zm0 h) hvl; rw [hX] at this; exact this) ?_
      have hGa := hG2.trans (andK_of hX)
      refine zm rfl (jx rfl rfl (jx rfl rfl (zA zr58 (fun t18b gt18b ut18b => zA zr37 (fun t19b gt19b ut19b => jv 1 z58 rfl (jv 0 z37 rfl (yB (zq (yA (jy 0 z37 rfl rfl (jD Tryz.func32 (fun w h => bad_f 0 w) (yB (zG rfl (zi (zk (yA (zf fa49_0 e3_9 (jM 3 z5 rfl (zf fa58_0 rfl (jM 1 z5 rfl (jD Tryz.func52 (fun w h => rfit_ok _ _ w) (jk rfl (yB ?_))))))))))))))))))))))); refine c_condN rfl (fun h29 => ?_) (fun h29 => ?_)
      ·refine yA (zf fa49_6 e3_9 (jM 3 z47 rfl (mI e17_9 (zg (fun _ => R_iaN (i := k) sl47 rfl rfl (by omega)) (zf fa52_1 rfl (zl (v := .int .i64 at2) z3 rfl (fun w h => hA.cell (x := (_, No)) (fun _ _ h => h) zm0 h 1 (.int .i64 at2) rfl) (jb bt37 rfl (ju 2 z37 e6_9 rfl rfl (yB (ze (zb (zt (zt (zb (zt ((r_fin (.inl rfl) rfl (.agg rfl e6_9 z37 (fun _ h => h.at_ 2 rfl) rfl .nil) ?_))))))))))))))))); exact fun w' hw => ⟨by clear hw; (rw [outV_er (hGa.trans (andK_er (need_f (by assumption))))]; rfl), hw.f0⟩
      ·have hGt := hGa.trans (andK_of (need_t (by assumption)))
       refine zi (zO (zk (zr (mI e17_9 (ji rfl rfl (by omega) (aI rfl (zn (zK (B' := [(w, No)]) (L' := _) (fun w h => h.drop (.cons _ (.cons _ (List.Sublist.refl _)))) ?_)))))))); exact k_again _ (by omega) ⟨k + 1, e1_9, e2_9, e3_9, e6_9, e9_9, rfl, rfl, rfl, by omega, hGt, rfl⟩
    ·have hGi := hG1.trans (eachK_end (by omega) _)
     refine zX (zx (zx (b_here rfl (zk (yA (jD Tryz.func34 (fun w h => rnone_ok w) (ju 0 z37 e6_9 rfl rfl (yB (ze (r_fin (.inl rfl) rfl (.agg rfl e6_9 z37 (fun _ h => h.at_ 0 rfl) rfl .nil) ?_)))))))))); exact fun w' hw => ⟨by clear hw; (rw [outV_ok hGi]; rfl), hw.f0⟩
 ·have hG5 := hG.trans (if_pos (by rw [hq3]; rfl))
  refine zm rfl (jx rfl rfl (jx rfl rfl (zA zr54 (fun t7b gt7b ut7b => jv 0 z54 rfl (aB rfl (yB (zq (yA (mB rfl (yB (zE rfl (yA (zf fa49_1 rfl (jM 2 z3 rfl (jb bt37 rfl (jv 1 z37 rfl (yB (ze (zt ((r_fin (.inl rfl) rfl (.agg rfl rfl z37 (fun _ h => h.at_ 1 rfl) rfl .nil) ?_))))))))))))))))))))); exact fun w' hw => ⟨vE hG5, hw.f0⟩
end Go.Proofs.YtoehjlmdnajibaaGreatDoor
end
section
namespace Go.Knd
open Go.Tok Go.Tree
theorem sm_empty {op : Nat} {a : Int} {nm : Str} {ks : List Ex} {b e : List Sm} (h : smOk (.mk op a nm ks b e) = true) : (op < 4 → b = []) ∧ (op ≠ 5 → e = []) := by
  rw [smOk] at h
  simp only [Bool.and_eq_true, Bool.not_eq_true', Bool.and_eq_false_iff, decide_eq_false_iff_not] at h
  obtain ⟨⟨⟨_, h1⟩, h2⟩, _⟩ := h
  refine ⟨fun h3 => ?_, fun h3 => ?_⟩
  · rcases h1 with h1 | h1
    · exact absurd h3 h1
    exact List.length_eq_zero_iff.1 (by omega)
  rcases h2 with h2 | h2
  · exact absurd h3 h2
  exact List.length_eq_zero_iff.1 (by omega)
theorem op_ok7 {op : Nat} {nm : Str} {ks : List Ex} (h : sruleOk op nm ks = true) : (op = 1 ∧ ∃ x, ks = [x]) ∨ (op = 1 ∧ ∃ x y, ks = [x, y]) ∨ (op = 2 ∧ ∃ x, ks = [x]) ∨ (op = 3 ∧ 1 ≤ ks.length) ∨ (op = 4 ∧ ∃ x y, ks = [x, y]) ∨ (op = 5 ∧ ∃ op a n x y, ks = [.mk op a n [x, y]] ∧ exOk x = true ∧ exOk y = true) ∨ op = 6 := by
  rcases op_ok6 h with rfl | rfl | rfl | rfl | rfl | rfl
  · rcases one_two (rule_s1 h) with h1 | h1
    · exact .inl ⟨rfl, h1⟩
    exact .inr (.inl ⟨rfl, h1⟩)
  · exact .inr (.inr (.inl ⟨rfl, rule_s2 h⟩))
  · exact .inr (.inr (.inr (.inl ⟨rfl, rule_s3 h⟩)))
  · exact .inr (.inr (.inr (.inr (.inl ⟨rfl, rule_s4 h⟩))))
  · exact .inr (.inr (.inr (.inr (.inr (.inl ⟨rfl, rule_s5 h⟩)))))
  exact .inr (.inr (.inr (.inr (.inr (.inr rfl)))))
section
variable {block : Nat} {l : List Vr} {at_ : Int} {nm : Str} {ks : List Ex} {b e : List Sm} {x y : Ex}
theorem andU (X : Except Ft Unit) : andK X (fun _ => .ok ()) = X := by cases X <;> rfl
theorem st_end {op : Nat} : stmtK block l (.mk op at_ nm ks [] []) = andK (headK l op at_ nm ks block) fun _ => .ok () := by
  rw [stmtK]
  cases headK l op at_ nm ks block with
  | error f => rfl
  | ok l2 => rw [andK_ok, andK_ok, stmtsK, andK_ok]
theorem st_1 : stmtK block l (.mk 1 at_ nm ks [] []) = setK l at_ nm ks block := by rw [st_end, head_1f]; exact andU _
theorem st_2 : stmtK block l (.mk 2 at_ nm [x] [] []) = andK (needK (decide (block = 4)) at_) fun _ => andK (ofK l x) fun k => needK (scal k.1) x.at_ := by
  rw [st_end, head_2f]; simp only [andU]
theorem st_3 : stmtK block l (.mk 3 at_ nm ks [] []) = distS l at_ nm ks block := by rw [st_end, head_3f]; exact andU _
theorem st_4s {v : Vr} (h : findV l nm = some v) : stmtK block l (.mk 4 at_ nm ks b e) = .error (151, at_) := by rw [stmtK]; exact head_4s _ h
theorem st_4n (h : findV l nm = none) : stmtK block l (.mk 4 at_ nm [x, y] b []) = andK (countK l x) fun _ => andK (countK l y) fun _ => stmtsK block (l ++ [Vr.mk nm 1 (-1) false]) b := by
  rw [stmtK, head_4n _ h]
  have : ∀ l2 : List Vr, (andK (stmtsK block l2 b) fun _ => stmtsK block l2 []) = stmtsK block l2 b := fun l2 => by
    rw [stmtsK]; exact andU _
  simp only [this]
theorem st_5 {op : Nat} {a : Int} {n : Str} : stmtK block l (.mk 5 at_ nm [.mk op a n [x, y]] b e) = andK (countK l x) fun _ => andK (countK l y) fun _ => andK (stmtsK block l b) fun _ => stmtsK block l e := by rw [stmtK]; exact head_5f _
theorem st_6 : stmtK block l (.mk 6 at_ nm ks b []) = stmtsK block l b := by
  rw [stmtK, head_6f, stmtsK]; exact andU _
end
end Go.Knd
end
section
namespace Go.Knd
open Go.Tok Go.Tree
def tyOk (l : List Vr) : Prop := ∀ v ∈ l, 1 ≤ v.ty ∧ v.ty ≤ 5
theorem tyOk.nil : tyOk [] := fun _ h => by simp at h
theorem tyOk.snoc {l : List Vr} {v : Vr} (h : tyOk l) (h1 : 1 ≤ v.ty) (h2 : v.ty ≤ 5) : tyOk (l ++ [v]) := fun x hx => by
  rcases List.mem_append.1 hx with hx | hx
  · exact h x hx
  obtain rfl := List.mem_singleton.1 hx; exact ⟨h1, h2⟩
theorem findV_mem {l : List Vr} {s : Str} {v : Vr} (h : findV l s = some v) : v ∈ l := by
  unfold findV at h
  exact List.mem_reverse.1 (List.mem_of_find?_eq_some h)
theorem needT_range {t : Nat} {a : Int} {p : Bool} {k : Nat × Bool} (ht : t ≤ 5) (h : needT t a p = .ok k) : 1 ≤ k.1 ∧ k.1 ≤ 5 := by
  unfold needT at h
  split at h
  · cases h
  cases h; dsimp only; omega
theorem callK_le {nm : Str} {a b t : Nat} (h : callK nm a b = some t) : t ≤ 5 := by
  unfold callK at h
  repeat' split at h
  all_goals first | (cases h; done) | (cases h; omega) | (cases h; decide)
theorem twoK_le (op a b : Nat) : twoK op a b ≤ 5 := by
  unfold twoK
  repeat' split
  all_goals decide
theorem rule_range {l : List Vr} {op : Nat} {a : Int} {nm : Str} {ks : List Ex} {t u : Nat} {p : Bool} {k : Nat × Bool} (hl : tyOk l) (h : ruleK l op a nm ks t u p = .ok k) : 1 ≤ k.1 ∧ k.1 ≤ 5 := by
  unfold ruleK at h
  by_cases h1 : op = 1
  · rw [if_pos h1] at h; exact needT_range (by split <;> decide) h
  · rw [if_neg h1] at h
    by_cases h2 : op = 2
    · rw [if_pos h2] at h
      cases hf : findV l nm with
      | none => rw [hf] at h; cases h
      | some v => rw [hf] at h; cases h; exact hl v (findV_mem hf)
    · rw [if_neg h2] at h
      by_cases h3 : op = 3
      · rw [if_pos h3] at h
        cases hf : findV l nm with
        | none => rw [hf] at h; cases h
        | some v =>
          rw [hf] at h
          dsimp only at h
          split at h
          · cases h
          · cases ks with
            | nil => cases h
            | cons k r =>
              dsimp only at h
              split at h
              · cases h
              · split at h
                · cases h
                · exact needT_range (by split <;> decide) h
      · rw [if_neg h3] at h
        by_cases h4 : op = 4
        · rw [if_pos h4] at h
          cases hc : callK nm t u with
          | none => rw [hc] at h; cases h
          | some x =>
            rw [hc] at h
            dsimp only at h
            by_cases h5 : ks.length ≠ (if nm = [100, 111, 116] then 2 else 1)
            · rw [if_pos h5] at h; cases h
            · rw [if_neg h5] at h; exact needT_range (callK_le hc) h
        · rw [if_neg h4] at h
          split at h
          · exact needT_range (by split <;> omega) h
          · exact needT_range (twoK_le _ _ _) h
theorem of_range {l : List Vr} (hl : tyOk l) : ∀ (e : Ex) (k : Nat × Bool), ofK l e = .ok k → 1 ≤ k.1 ∧ k.1 ≤ 5
  | .mk op a nm ks, k, h => by
    rw [ofK] at h
    cases hq : kidsK l ks with
    | error f => rw [hq] at h; cases h
    | ok r => rw [hq] at h; exact rule_range hl h
theorem of_range' {l : List Vr} {e : Ex} {t : Nat} {p : Bool} (hl : tyOk l) (h : ofK l e = .ok (t, p)) : 1 ≤ t ∧ t ≤ 5 := of_range hl e _ h
theorem declK_ty {l l2 : List Vr} {d : Dc} {i : Nat} (hl : tyOk l) (hd : dcOk d = true) (h : declK l d i = .ok l2) : tyOk l2 := by
  unfold declK at h
  split at h
  · cases h
  obtain ⟨_, h⟩ := andK_inv h
  obtain ⟨_, h⟩ := andK_inv h
  obtain ⟨_, h⟩ := andK_inv h
  obtain ⟨_, h⟩ := andK_inv h
  cases h
  obtain ⟨h1, h2, _⟩ := dc_facts hd
  exact hl.snoc h1 h2
theorem declK_eq {l l2 : List Vr} {d : Dc} {i : Nat} (h : declK l d i = .ok l2) : l2 = l ++ [⟨d.nm, d.ty, i, decide (2 ≤ i)⟩] := by
  unfold declK at h
  split at h
  · cases h
  obtain ⟨_, h⟩ := andK_inv h
  obtain ⟨_, h⟩ := andK_inv h
  obtain ⟨_, h⟩ := andK_inv h
  obtain ⟨_, h⟩ := andK_inv h
  cases h; rfl
theorem row_f {t p dm k : Nat} {a : Int} (hp : 1 ≤ p ∧ p ≤ 5) (hs : scal p = false) (h : ((decide (p = 3) || decide (p = 5)) && !scal t && decide (dm ≤ k)) = false) : needK (scal p || (!scal t && !decide (p = 4) && decide (dm ≤ k))) a = .error (152, a) := by
  have h3 : p = 3 ∨ p = 4 ∨ p = 5 := by
    unfold scal at hs; simp only [Bool.or_eq_false_iff, decide_eq_false_iff_not] at hs; omega
  rw [hs]
  rcases h3 with rfl | rfl | rfl
  · simp at h ⊢; unfold needK; rw [if_neg]; simpa using h
  · simp [needK]
  simp at h ⊢; unfold needK; rw [if_neg]; simpa using h
theorem row_t {t p dm k : Nat} {a : Int} (hs : scal p = true) : needK (scal p || (!scal t && !decide (p = 4) && decide (dm ≤ k))) a = .ok () := by rw [hs]; simp [needK]
theorem row_t2 {t p dm k : Nat} {a : Int} (h : ((decide (p = 3) || decide (p = 5)) && !scal t && decide (dm ≤ k)) = true) : needK (scal p || (!scal t && !decide (p = 4) && decide (dm ≤ k))) a = .ok () := by
  simp only [Bool.and_eq_true, Bool.or_eq_true, decide_eq_true_eq, Bool.not_eq_true'] at h
  obtain ⟨⟨h1, h2⟩, h3⟩ := h
  rw [h2, decide_eq_false (show ¬ p = 4 by omega), decide_eq_true h3]; simp [needK]
end Go.Knd
end
section
namespace Go.Sx
open Go.RowKit Go.Tree Go.Tok Go.Knd
section
variable {P : Program} {t : TypeId} {w : World}
theorem eq_bool_run {d : Nat} {a b : Bool} (h : P.underlying t = some .bool) : (Op.equalIn (d + 1) t (.bool a) (.bool b)).run P w = .ok (decide (a = b)) w := by
  rw [run_equalIn_bool' w d t a b h]; by_cases hx : a = b <;> simp [hx]
theorem eqV_run {t1 t2 t3 t4 : TypeId} {u v : Vr} {n : Nat} (hS : flatS P t [(t1, 0), (t2, 1), (t3, 2), (t4, 3)]) (z1 : szB P t1 1 false = true) (z2 : szB P t2 1 false = true) (z3 : szB P t3 1 false = true) (z4 : szB P t4 1 false = true)
    (u1 : P.underlying t1 = some .string) (u2 : P.underlying t2 = some (.int .u8)) (u3 : P.underlying t3 = some (.int .i64)) (u4 : P.underlying t4 = some .bool) :
    (Op.equalIn (n + 2) t (.agg (vrC u).toArray) (.agg (vrC v).toArray)).run P w = .ok (decide (u = v)) w := by
  rw [run_equalIn_agg w (n + 1) t _ _ hS.u hS.s]
  have hf := hS.f
  generalize (P.fieldsOf t).toList = fs at hf
  obtain ⟨f1, fs1, rfl, h1, hf⟩ := List.map_eq_cons_iff.1 hf
  obtain ⟨f2, fs2, rfl, h2, hf⟩ := List.map_eq_cons_iff.1 hf
  obtain ⟨f3, fs3, rfl, h3, hf⟩ := List.map_eq_cons_iff.1 hf
  obtain ⟨f4, fs4, rfl, h4, hf⟩ := List.map_eq_cons_iff.1 hf
  obtain rfl := List.map_eq_nil_iff.1 hf
  have e : decide (u = v) = (decide (u.nm = v.nm) && (decide ((u.ty : Int) = (v.ty : Int)) && (decide (u.bk = v.bk) && (decide (u.par = v.par) && true)))) := by
    obtain ⟨a, b, c, d⟩ := u; obtain ⟨a', b', c', d'⟩ := v
    rw [Bool.eq_iff_iff]; simp [Int.natCast_inj]
  rw [e]
  exact eqF_cons (xs := vrC u) (ys := vrC v) h1 z1 rfl rfl (eq_str_run u1) (eqF_cons h2 z2 rfl rfl (eq_int_run u2) (eqF_cons h3 z3 rfl rfl (eq_int_run u3) (eqF_cons h4 z4 rfl rfl (eq_bool_run u4) eqF_nil)))
end
theorem vrsV.take {w : World} {N : Nat → Prop} {l : List Vr} {b : Option Addr × Nat} (h : vrsV w N l b) (k : Nat) : vrsV w N (l.take k) b := by
  refine ⟨Nat.le_trans (by rw [List.length_take]; omega) h.1, fun j v hj => h.2 j v ?_⟩
  rw [List.getElem?_take] at hj
  split at hj
  · exact hj
  cases hj
theorem smsM.take {w : World} {N : Nat → Prop} {a : Option Addr} : ∀ (l : List Sm) (i k : Nat), smsM w N l a i → smsM w N (l.take k) a i
  | _, i, 0, _ => by rw [List.take_zero]; unfold smsM; trivial
  | [], i, k + 1, _ => by rw [List.take_nil]; unfold smsM; trivial
  | x :: l, i, k + 1, h => by
    unfold smsM at h
    rw [List.take_succ_cons]
    unfold smsM
    exact ⟨h.1, smsM.take l _ k h.2⟩
theorem dcsM.take {w : World} {N : Nat → Prop} {a : Option Addr} {l : List Dc} (h : dcsM w N l a) (k : Nat) : dcsM w N (l.take k) a := fun j d hj => by
  rw [List.getElem?_take] at hj
  split at hj
  · exact h j d hj
  cases hj
theorem put_ne {α : Type} {cs c : List α} {i j : Nat} (hl : cs.length = 18) (hc : c.length = 3) (hi : i < 6) (hj : j ≠ i) : ((cs.take (i * 3) ++ c ++ cs.drop (i * 3 + 3)).drop (j * 3)).take 3 = (cs.drop (j * 3)).take 3 := by
  have l1 : (cs.take (i * 3)).length = i * 3 := by rw [List.length_take]; omega
  refine List.ext_getElem? fun k => ?_
  rw [List.getElem?_take, List.getElem?_take, List.getElem?_drop, List.getElem?_drop]
  split
  · rename_i hk
    rw [List.append_assoc]
    by_cases h2 : j < i
    · rw [List.getElem?_append_left (by omega), List.getElem?_take, if_pos (by omega)]
    rw [List.getElem?_append_right (by omega), List.getElem?_append_right (by omega), List.getElem?_drop, l1, hc]
    congr 1; omega
  rfl
theorem pgM.put {w : World} {N : Nat → Prop} {p : List Bk} {cs c : List Value} {i : Nat} {b : Bk} (h : pgM w N p cs) (hi : i < 6) (hc : c.length = 3) (hb : bkM w N b c) : pgM w N (p.set i b) (cs.take (i * 3) ++ c ++ cs.drop (i * 3 + 3)) := by
  have h6 := h.six
  have hl := h.len
  have l1 : (cs.take (i * 3)).length = i * 3 := by rw [List.length_take]; omega
  refine ⟨by rw [List.length_set]; exact h6, by simp only [List.length_append, List.length_drop, l1, hc]; omega, fun j x hx => ?_⟩
  by_cases hj : j = i
  · subst hj
    rw [List.getElem?_set_self (by omega)] at hx
    obtain rfl := Option.some.inj hx
    rw [List.append_assoc, List.drop_append_of_le_length (by omega), List.drop_of_length_le (by omega), List.nil_append, List.take_append_of_le_length (by omega), List.take_of_length_le (by omega)]
    exact hb
  rw [List.getElem?_set_ne (by omega)] at hx
  have h1 := h.one j x hx
  rw [put_ne hl hc hi hj]; exact h1
theorem pgM.cells {w : World} {N : Nat → Prop} {p : List Bk} {cs c : List Value} {i j : Nat} (_ : pgM w N p cs) (h : (cs.drop (i * 3)).take 3 = c) {v : Value} (hv : c[j]? = some v) : cs[i * 3 + j]? = some v := by
  subst h
  rw [List.getElem?_take] at hv
  split at hv
  · rwa [List.getElem?_drop] at hv
  cases hv
end Go.Sx
end
section
namespace Go.Sx
open Go.RowKit Go.Tree Go.Tok Go.Knd
section
variable {P : Program} {ops : Array Oper} {Q : Exit → Act → World → Prop} {c : Cf} {e : Env} {B : Base} {L : Heap} {d : Nat} {x y : Operand} {T : TypeId} {p : String} {ed : Array Edge} {t te bytes : Nat} {z v : Value} {xs : List Value} {W : Heap} {q fuel : Nat} {S : World → Prop} {listed : Array Bool} {w0 : World}
theorem w_vrsM {rest : List Oper} {vs : List Vr} {a : Option Addr} {cp n : Nat} (hT : slT P t te 4 bytes z) (hx : ev c.n e x = v) (hv : Own te 4 v xs n W) (hy : ev c.n e y = .slice a vs.length cp) (hM : vrsV w0 (fun _ => True) vs (a, cp)) (hX : (w0, No) ∈ B) (hn : n + vs.length ≤ 100000000) (hby : bytes ≤ 1000)
    (h : ∀ v' W', Own te 4 v' (xs ++ vrsC vs) (n + vs.length) W' → WX .sq P ops c Q rest (upd e d v') B (W' ++ L)) : WX .sq P ops c Q (⟨some d, .call ⟨.builtin .append, #[x, y], #[t, t]⟩, T, p, ed, none⟩ :: rest) e B (W ++ L) := by
  by_cases h0 : vs = []
  · subst h0
    obtain ⟨i, ht, hi, hsz, _, _, _⟩ := slT_spec hT
    obtain ⟨a1, c1, rfl⟩ := hv.slice
    have h4 := h _ W (by simpa [vrsC] using hv)
    unfold WX at *
    intro w hw
    have hs : Src P i.size t (.slice a 0 cp) 0 [] w := ⟨.inl ⟨te, ht⟩, fun _ => rfl, by cases a <;> simp [Builtin.firstCells, go_sem], by cases a <;> simp [Builtin.firstCells, go_sem], by simp, by simp⟩
    have hr := _root_.Go.run_append_nothing (P := P) w t t T te i ht hi a1 n c1 (Own.le hv) _ hs
    exact s_run (R_append hx hy hr) rfl rfl (h4 w hw)
  have hl : 0 < vs.length := List.length_pos_iff.2 h0
  obtain ⟨q2, o, rfl, _, _⟩ := vrs_row hM.2 h0
  exact w_app (A := []) (news := vrsC vs) hT (by decide) hx hv hy (vrsC_len vs) (fun w hw j u hj => by
      obtain ⟨q3, o3, he, _, hc⟩ := vrs_row (hM.nowT hX hw).2 h0
      cases he; exact hc j u hj) (vrsC_one vs) hl (by omega) (Nat.le_trans (Nat.mul_le_mul hn hby) (by decide)) h
theorem o_vr1 {u : Vr} {sb i n : Nat} (hq : ops[q]? = some ⟨some d, .call ⟨.builtin .append, #[x, y], #[t, t]⟩, T, p, ed, none⟩) (hT : slT P t te 4 bytes z) (hx : ev c.n e x = v) (hv : Own te 4 v xs n W) (hy : ev c.n e y = .slice (some ⟨sb, 0, none⟩) 1 1) (hi : L[i]? = some (sb, cel (vrC u) te)) (hn : n + 1 ≤ 100000000) (hby : bytes ≤ 1000)
    (h : ∀ v' W', Own te 4 v' (xs ++ vrC u) (n + 1) W' → WH P ops c Q S fuel (listed.setIfInBounds q true) (upd e d v') B (L ++ W')) : WO P ops c Q S fuel listed q e B (W ++ L) := by
  refine o_val hq rfl rfl fun w hw => ?_
  obtain ⟨v', w', L2, k1, k2, k3⟩ := app_run (ρ := ev c.n e) (D := some d) (g := none) (x := x) (y := y) (T := T) (p := p) (ed := ed) (A := []) (L := L) (news := vrC u) hT (by decide) hx (hv.toR [] L) hy rfl (fun w hw j r hj => by
      rw [Nat.zero_add]
      exact zc (W.length + i) (by rw [List.nil_append, List.getElem?_append_right (by omega), Nat.add_sub_cancel_left]; exact hi) hj hw) rfl (by decide) (by omega)
    (Nat.le_trans (Nat.mul_le_mul hn hby) (by decide)) hw
  obtain ⟨W', k4, rfl⟩ := k2.own
  exact ⟨v', w', B, _, k1, St.perm k3 (by rw [List.nil_append]; exact List.perm_append_comm), h v' W' k4⟩
end
theorem ownVr {w : World} {T : TypeId} {l : List Vr} {a : Option Addr} {c : Nat} {W : Heap} (h : Own T 4 (.slice a l.length c) (vrsC l) l.length W) (hW : ∀ p ∈ W, w.heap[p.1]? = some p.2) : vrsV w (fun _ => True) l (a, c) := by
  obtain ⟨⟨a1, c1⟩, he, hv⟩ := own_vrs (N := fun _ => True) h hW (fun _ _ => trivial)
  cases he; exact hv
theorem ownMore {T : TypeId} {l : List Vr} {v : Vr} {r : Value} {W : Heap} (h : Own T 4 r (vrsC l ++ vrC v) (l.length + 1) W) : ∃ (a : Option Addr) (c : Nat), r = .slice a (l ++ [v]).length c ∧ Own T 4 (.slice a (l ++ [v]).length c) (vrsC (l ++ [v])) (l ++ [v]).length W := by
  rw [← vrsC_snoc, show l.length + 1 = (l ++ [v]).length by simp] at h
  obtain ⟨a, c, rfl⟩ := h.slice
  exact ⟨a, c, rfl, h⟩
end Go.Sx
end
