/- Layer 15, KindChecks: Check and Vars of kind tell the fault, and the variables, of the document, for programs of at most 600 nodes and names of at most 200 bytes; in the Upto form. Part 4 of 17. -/
import Derived.Test.YtoehjlmdnajibaaGreatDoorG03
set_option maxRecDepth 100000
set_option maxHeartbeats 16000000
section
namespace Go.Proofs.YtoehjlmdnajibaaGreatDoor
open Go.RowKit Go.Sx
open Go.Tok
theorem Fields_signs (x : List UInt8) (hx : x = signsT) (w : World) (ht : Tb w) : Ret Tryz.prog 164 #[str x] w fun v w' =>
  v = .slice (some ⟨w.heap.size, 0, none⟩) 22 22 ∧ w' = w.alloc (cel (signsL.map str) 9) := by
 subst hx
 have := Fields_spec signsT w (by decide) signs_ascii ht
 rw [signs_fields] at this
 exact this
theorem sig_at {k : Nat} (h : k < 22) : (signsL.map str)[0 + k * 1]? = some (str (signsL.getD k [])) := by
 have : k < signsL.length := h
 simp [this]
theorem is_spec (p : Nat) (s so : List UInt8) (q : UInt8 → Bool) (hq : so.contains = q) (j on : Nat) (w : World) (hp : w.heap[p]? = some (cel [str s, .int .i64 (j : Nat)] 163)) (hs : s.length ≤ 10000000) (hj : j ≤ 10000000) (h1 : on ≤ 10) :
  Ret Tryz.prog 162 #[pX p, str so, .int .i64 (on : Nat)] w (fun v w' => v = .bool (atP q s (j + on)) ∧ Ext w w') := by
 refine enter (S := No) (l := [_, _, _]) (L := []) 35 Tryz.func162 rfl rfl rfl (St.start w No) (yA (aB rfl (yB (zq (c_draw mixed (by kernel_rfl) (mP rfl (zI rfl (zf fa163_1 rfl (zl z3 rfl (fun _ h => cel_oldb hp zm0 id rfl h) (mI rfl (ji rfl rfl (by omega) (mP rfl (zI rfl (zf fa163_0 rfl (zl z9 rfl (fun _ h => cel_oldb hp zm0 id rfl h) (zg (fun _ => R_slen st9 rfl (by omega)) (jl rfl rfl (mB rfl ?_)))))))))))))))))); refine zd (t := 19) rfl (fun h1 => ?_) (fun h1 => ?_)
 ·refine zw rfl rfl (bT h1) (zm (v := str _) rfl (zw rfl rfl (bT h1) (mP rfl (zw rfl rfl (bT h1) (zI rfl (zw rfl rfl (bT h1) (zf fa163_0 rfl (zw rfl rfl (bT h1) (zl z9 rfl (fun _ h => cel_oldb hp zm0 id rfl h) (zw rfl rfl (bT h1) (mP rfl (zw rfl rfl (bT h1) (zI rfl (zw rfl rfl (bT h1) (zf fa163_1 rfl (zw rfl rfl (bT h1) (zl z3 rfl (fun _ h => cel_oldb hp zm0 id rfl h) (zw rfl rfl (bT h1) (mI rfl (zw rfl rfl (bT h1) (ji rfl rfl (by omega) (zw rfl rfl (bT h1) (w_sidx st9 rfl rfl (by omega) (zw rfl rfl (bT h1) (jD Tryz.func166 (fun w h => IndexByte_at _ _ w) (zw rfl rfl (bT h1) (jh rfl rfl (jT (bT h1) rfl (aB rfl (yB (ze (zo (v := .bool _) rfl rfl rfl ?_)))))))))))))))))))))))))))))))); exact fun w' hw => ⟨by subst hq; rw [atP_in (by omega), ← index_contains], hw.f0⟩
 ·refine zs rfl rfl (bF h1) (zs rfl rfl (bF h1) (zs rfl rfl (bF h1) (zs rfl rfl (bF h1) (zs rfl rfl (bF h1) (zs rfl rfl (bF h1) (zs rfl rfl (bF h1) (zs rfl rfl (bF h1) (zs rfl rfl (bF h1) (zs rfl rfl (bF h1) (zs rfl rfl (bF h1) (zs rfl rfl (bF h1) (zs rfl rfl (bF h1) (zs rfl rfl (bF h1) (jF (bF h1) rfl (aB rfl (yB (ze (zo (v := .bool _) rfl rfl rfl ?_)))))))))))))))))); exact fun w' hw => ⟨by rw [atP_out (by omega)], hw.f0⟩
theorem run_spec (p : Nat) (s so : List UInt8) (q : UInt8 → Bool) (hq : so.contains = q) (j : Nat) (w : World) (hp : w.heap[p]? = some (cel [str s, .int .i64 (j : Nat)] 163)) (hs : s.length ≤ 10000000) (hj : j ≤ s.length) :
  Ret Tryz.prog 163 #[pX p, str so] w (fun v w' => v = .int .i64 (runTo q s j - j : Nat) ∧ Fr (fun i => i = p) w w' ∧ w'.heap[p]? = some (cel [str s, .int .i64 (runTo q s j : Nat)] 163)) := by
 refine enter (S := (fun i => i = p)) (l := [_, _]) (L := [(p, cel [str s, .int .i64 (j : Nat)] 163)]) 26 Tryz.func163 rfl rfl rfl (St.start1 w hp rfl) (yA (aI rfl (yC (mP rfl (zI rfl (zf fa163_1 rfl (jM 0 z3 rfl (aI rfl (yB (zq (zB ?_))))))))))); refine c_loop (fun m e B L => ∃ (k : Nat), e 0 = pX p ∧ e 1 = str so ∧ e 5 = .int .i64 (j : Nat) ∧ B = [(w, (fun i => i = p))] ∧ L = [(p, cel [str s, .int .i64 (k : Nat)] 163)] ∧ j ≤ k ∧ k ≤ s.length ∧ runTo q s k = runTo q s j ∧ m = s.length - k) _ ⟨j, rfl, rfl, rfl, rfl, rfl, by omega, by omega, rfl, rfl⟩ ?_
 rintro m e B L ⟨k, e0_1, e1_1, e5_1, rfl, rfl, p0_1, p1_1, p2_1, rfl⟩
 refine zq (yA (mP e0_1 (zm (v := str _) e1_1 (jD Tryz.func162 (fun w h => is_spec p s _ _ hq _ 0 w (h.at_ 0 rfl) hs (by omega) (by decide)) (yB ?_))))); refine c_cond rfl (fun h1 => ?_) (fun h1 => ?_)
 ·replace h1 : atP q s k = true := h1; have h2 := atP_lt h1
  refine zi (zk (zB (zr (mP e0_1 (zI rfl (zf fa163_1 rfl (jM 0 z3 rfl (ji rfl rfl (by omega) (zI rfl (zf fa163_1 rfl (jv 0 z3 rfl (zn (zO (?_))))))))))))))
  exact k_again _ (by omega) ⟨k + 1, e0_1, e1_1, e5_1, rfl, rfl, by omega, by omega, by rw [← p2_1, runTo_step h1], rfl⟩
 ·refine zX (zx (zx (b_here rfl (zk (yA (mP e0_1 (zI rfl (zf fa163_1 rfl (jM 0 z3 rfl (mI e5_1 (zg (fun _ => R_subi rfl rfl (by omega)) (aI rfl (yB (ze ?_))))))))))))))
  replace h1 : atP q s k = false := h1
  have h2 : runTo q s j = k := by rw [← p2_1, runTo_stop h1]
  rw [h2]
  refine zo (v := .int _ _) rfl rfl rfl ?_; exact fun w' hw => ⟨by congr 1; omega, hw.f0, hw.at_ 0 rfl⟩
theorem skip_spec (p : Nat) (s : List UInt8) (j : Nat) (w : World) (hp : w.heap[p]? = some (cel [str s, .int .i64 (j : Nat)] 163)) (hs : s.length ≤ 10000000) (hj : j ≤ s.length) :
  Ret Tryz.prog 152 #[pX p] w (fun v w' => v = .tuple #[] ∧ Fr (fun i => i = p) w w' ∧ w'.heap[p]? = some (cel [str s, .int .i64 (skipTo s j : Nat)] 163)) := by
 refine enter (S := (fun i => i = p)) (l := [_]) (L := [(p, cel [str s, .int .i64 (j : Nat)] 163)]) 46 Tryz.func152 rfl rfl rfl (St.start1 w hp rfl) (zB ?_); refine c_loop (fun m e B L => ∃ (k : Nat), e 0 = pX p ∧ B = [(w, (fun i => i = p))] ∧ L = [(p, cel [str s, .int .i64 (k : Nat)] 163)] ∧ k ≤ s.length ∧ skipTo s k = skipTo s j ∧ m = s.length - k) _ ⟨j, rfl, rfl, rfl, by omega, rfl, rfl⟩ ?_
 rintro m e B L ⟨k, e0_1, rfl, rfl, p0_1, p1_1, rfl⟩
 have r0 := Lib.indexByte_ge (s.drop (runTo blankB s k)) 10
 have r6 := runTo_le (p := notNl) (runTo_le (p := blankB) p0_1)
 have r7 := index_run s _ (runTo_le (p := blankB) p0_1)
 have r1 := runTo_ge blankB s k
 have r2 := runTo_le (p := blankB) p0_1
 refine zB (yA (mP e0_1 (w_call1 0 rfl (fun w => zR Tryz.func163 rfl rfl rfl) rfl rfl (fun w h => run_spec p s _ _ con_blanks _ w (h.at_ 0 rfl) hs (by omega)) (yB (zq (zq (c_draw mixed (by kernel_rfl) (mP e0_1 (zI rfl (zf fa163_0 rfl (jM 0 z9 rfl (mP e0_1 (zI rfl (zf fa163_1 rfl (jM 0 z3 rfl (zg (fun _ => R_ssl_loN st9 rfl rfl (by omega)) (jD Tryz.func165 (fun w h => HasPrefix_spec _ _ w) (jk rfl (yB ?_)))))))))))))))))))
 refine c_condN rfl (fun h1 => ?_) (fun h1 => ?_)
 ·rw [prefix_cmt] at h1
  refine ze (zt (zb (zt (zb ((r_none (.inl rfl) rfl ?_)))))); exact fun w' hw => ⟨rfl, hw.f0, by have := hw.at_ 0 rfl; rw [← p1_1, skipTo_eq p0_1, if_neg (by simp [h1])]; exact this⟩
 ·rw [prefix_cmt] at h1
  refine zi (zk (zq (c_draw mixed (by kernel_rfl) (mP e0_1 (zI rfl (zf fa163_0 rfl (jM 0 z9 rfl (mP e0_1 (zI rfl (zf fa163_1 rfl (jM 0 z3 rfl (zg (fun _ => R_ssl_loN st9 rfl rfl (by omega)) (jD Tryz.func166 (fun w h => IndexByte_at _ 10 w) (aI rfl (yB (zq (yA (mI rfl (jl rfl rfl (yB ?_)))))))))))))))))))); refine zD rfl (fun h2 => ?_) (fun h2 => ?_)
  ·rw [if_pos h2] at r7
   refine c_draw mixed (by kernel_rfl) (mP e0_1 (zI rfl (zf fa163_0 rfl (jM 0 z9 rfl (zg (fun _ => R_slen st9 rfl (by omega)) (mP e0_1 (zI rfl (zf fa163_1 rfl (jM 0 z3 rfl (zg (fun _ => R_subi rfl rfl (by omega)) (aI rfl (yB (zr (mP e0_1 (zI rfl (zf fa163_1 rfl (jM 0 z3 rfl (mI rfl (ji rfl rfl (by omega) (zI rfl (zf fa163_1 rfl (jv 0 z3 rfl (zn (zO (?_)))))))))))))))))))))))))
   have r3 := cmt_run h1
   have r4 := r7
   exact k_again _ (by omega) ⟨s.length, (by assumption), (by rfl), congrArg (fun x : Int => [(p, cel [str s, .int .i64 x] 163)]) (by omega), by omega, by rw [← p1_1, skipTo_eq p0_1, if_pos h1, r4], rfl⟩
  ·rw [if_neg h2] at r7
   refine zi (zk (zr (mP e0_1 (zI rfl (zf fa163_1 rfl (jM 0 z3 rfl (mI rfl (ji rfl rfl (by omega) (zI rfl (zf fa163_1 rfl (jv 0 z3 rfl (zn (zO (?_))))))))))))))
   have r3 := cmt_run h1
   have r4 := r7
   exact k_again _ (by omega) ⟨runTo notNl s (runTo blankB s k), (by assumption), (by rfl), congrArg (fun x : Int => [(p, cel [str s, .int .i64 x] 163)]) (by omega), by omega, by rw [← p1_1, skipTo_eq p0_1, if_pos h1], rfl⟩
theorem name_spec (p : Nat) (s : List UInt8) (j : Nat) (w : World) (hp : w.heap[p]? = some (cel [str s, .int .i64 (j : Nat)] 163)) (hs : s.length ≤ 10000000) (hj : j ≤ s.length) :
  Ret Tryz.prog 149 #[pX p] w (fun v w' => v = .tuple #[.int .u8 (if nameB s j then 1 else 0), .bool (nameB s j)] ∧ Fr (fun i => i = p) w w' ∧ w'.heap[p]? = some (cel [str s, .int .i64 (if nameB s j then runTo wordB s j else j : Nat)] 163)) := by
 refine enter (S := (fun i => i = p)) (l := [_]) (L := [(p, cel [str s, .int .i64 (j : Nat)] 163)]) 13 Tryz.func149 rfl rfl rfl (St.start1 w hp rfl) (yA (aI rfl (aB rfl (yB (zq (yA (mP rfl (jD Tryz.func162 (fun w h => is_spec p s _ _ (con_one 95) _ 0 w (h.at_ 0 rfl) hs (by omega) (by decide)) (mB rfl ?_))))))))); refine zp (t := 6) rfl (fun h1 => ?_) (fun h1 => ?_)
 ·refine zs rfl rfl (bV h1) (zs rfl rfl (bV h1) (zs rfl rfl (bV h1) (jT (bV h1) rfl (yB (zE rfl (yA (aI rfl (aB rfl (yB (ze (zt (?_))))))))))))
  have h0 : nameB s j = false := by simp only [nameB]; rw [show atP (eqB 95) s j = true from h1]; simp
  rw [h0]
  refine r_two (v := .int _ _) (v2 := .bool _) rfl rfl rfl rfl rfl ?_; exact fun w' hw => ⟨rfl, hw.f0, hw.at_ 0 rfl⟩
 ·refine zw rfl rfl (bV h1) (mP rfl (zw rfl rfl (bV h1) (jD Tryz.func162 (fun w h => is_spec p s _ _ con_letters _ 0 w (h.at_ 0 rfl) hs (by omega) (by decide)) (zw rfl rfl (bV h1) (jk rfl (jF (bV h1) rfl (yB ?_))))))); refine c_condN rfl (fun h2 => ?_) (fun h2 => ?_)
  ·refine yA (aI rfl (aB rfl (yB (ze (zt (?_))))))
   have h0 : nameB s j = false := by simp only [nameB]; rw [show atP letterB s j = false from h2]; rfl
   rw [h0]
   refine r_two (v := .int _ _) (v2 := .bool _) rfl rfl rfl rfl rfl ?_; exact fun w' hw => ⟨rfl, hw.f0, hw.at_ 0 rfl⟩
  ·refine zi (zk (yA (mP rfl (w_call1 0 rfl (fun w => zR Tryz.func163 rfl rfl rfl) rfl rfl (fun w h => run_spec p s _ _ con_words _ w (h.at_ 0 rfl) hs (by omega)) (yC (aI rfl (aB rfl (yB (ze ?_)))))))))
   have h0 : nameB s j = true := by simp only [nameB]; rw [show atP (eqB 95) s j = false from h1, show atP letterB s j = true from h2]; rfl
   rw [h0]
   refine r_two (v := .int _ _) (v2 := .bool _) rfl rfl rfl rfl rfl ?_; exact fun w' hw => ⟨rfl, hw.f0, hw.at_ 0 rfl⟩
theorem number_spec (p : Nat) (s : List UInt8) (j : Nat) (w : World) (hp : w.heap[p]? = some (cel [str s, .int .i64 (j : Nat)] 163)) (hs : s.length ≤ 10000000) (hj : j ≤ s.length) :
  Ret Tryz.prog 150 #[pX p] w (fun v w' => v = .tuple #[.int .u8 (if atP digitB s j then 2 else 0), .bool (if atP digitB s j then numFine s j else false)] ∧ Fr (fun i => i = p) w w' ∧ w'.heap[p]? = some (cel [str s, .int .i64 (if atP digitB s j then numEnd s j else j : Nat)] 163)) := by
 have g1 := runTo_le (p := digitB) hj
 have g2 := runTo_ge digitB s j
 refine enter (S := (fun i => i = p)) (l := [_]) (L := [(p, cel [str s, .int .i64 (j : Nat)] 163)]) 66 Tryz.func150 rfl rfl rfl (St.start1 w hp rfl) (yA (aI rfl (aB rfl (yB (zq (yA (mP rfl (w_call1 0 rfl (fun w => zR Tryz.func163 rfl rfl rfl) rfl rfl (fun w h => run_spec p s _ _ con_digits _ w (h.at_ 0 rfl) hs (by omega)) (je rfl rfl (yB ?_)))))))))); refine zD rfl (fun h1 => ?_) (fun h1 => ?_)
 ·(try simp only [Nat.add_zero] at h1); (try have qh1 := atP_lt h1)
  have g0 := run_zero digitB s j
  refine yA (aI rfl (aB rfl (yB (ze (zt (?_))))))
  have g5 : atP digitB s j = false := by rw [← g0]; omega
  rw [g5]
  refine r_two (v := .int _ _) (v2 := .bool _) rfl rfl rfl rfl rfl ?_; exact fun w' hw => ⟨rfl, hw.f0, by have := hw.at_ 0 rfl; rw [runTo_stop g5] at this; exact this⟩
 ·(try simp only [Nat.add_zero] at h1)
  have g0 := run_zero digitB s j
  refine zi (zk ?_); refine c_cut (fun e B L => e 0 = pX p ∧ B = [(w, (fun i => i = p))] ∧ L = [(p, cel [str s, .int .i64 (numDot s (runTo digitB s j) : Nat)] 163)]) ?_ ?_
  ·(try simp only [Nat.add_zero] at mid1); (try have qmid1 := atP_lt mid1)
   refine yA (mP rfl (jD Tryz.func162 (fun w h => is_spec p s _ _ (con_one 46) _ 0 w (h.at_ 0 rfl) hs (by omega) (by decide)) (mB rfl ?_))); refine zp (t := 10) rfl (fun h2 => ?_) (fun h2 => ?_)
   ·(try simp only [Nat.add_zero] at h2); (try have qh2 := atP_lt h2)
    refine zw rfl rfl (bV h2) (mP rfl (zw rfl rfl (bV h2) (jD Tryz.func162 (fun w h => is_spec p s _ _ con_digits _ 1 w (h.at_ 0 rfl) hs (by omega) (by decide)) (jT (bV h2) rfl (yB ?_))))); refine c_cond rfl (fun h3 => ?_) (fun h3 => ?_)
    ·(try simp only [Nat.add_zero] at h3); (try have qh3 := atP_lt h3)
     refine yA (mP rfl (zI rfl (zf fa163_1 rfl (jM 0 z3 rfl (ji rfl rfl (by omega) (zI rfl (zf fa163_1 rfl (jv 0 z3 rfl (yB (zr (mP rfl (w_call1 0 rfl (fun w => zR Tryz.func163 rfl rfl rfl) rfl rfl (fun w h => run_spec p s _ _ con_digits ((runTo digitB s j) + 1) w (h.at_ 0 rfl) hs (by omega)) (zn ?_))))))))))))); exact k_mid ⟨rfl, rfl, by rw [numDot, if_pos (by rw [h2, h3]; rfl)]; rfl⟩
    ·(try simp only [Nat.add_zero] at h3)
     refine zi ?_; exact k_mid ⟨rfl, rfl, by rw [numDot, if_neg (by rw [h2, h3]; simp)]; rfl⟩
   ·(try simp only [Nat.add_zero] at h2)
    refine zs rfl rfl (bV h2) (zs rfl rfl (bV h2) (jF (bV h2) rfl (yB (zG rfl (zi ?_))))); exact k_mid ⟨rfl, rfl, by rw [numDot, if_neg (by rw [h2]; simp)]; rfl⟩
  rintro e B L ⟨e0_1, rfl, rfl⟩
  have g3 := numDot_le (runTo_le (p := digitB) hj)
  refine yA (aI rfl (yB ?_)); refine c_cut (fun e B L => e 0 = pX p ∧ e 4 = .int .i64 ((numTens s (numDot s (runTo digitB s j))).1 : Nat) ∧ B = [(w, (fun i => i = p))] ∧ L = [(p, cel [str s, .int .i64 ((numTens s (numDot s (runTo digitB s j))).2 : Nat)] 163)]) ?_ ?_
  ·(try simp only [Nat.add_zero] at mid2); (try have qmid2 := atP_lt mid2)
   refine zB (yA (mP e0_1 (jD Tryz.func162 (fun w h => is_spec p s _ _ (con_one 101) _ 0 w (h.at_ 0 rfl) hs (by omega) (by decide)) (mB rfl ?_)))); refine zp (t := 26) rfl (fun h4 => ?_) (fun h4 => ?_)
   ·(try simp only [Nat.add_zero] at h4); (try have qh4 := atP_lt h4)
    refine zw rfl rfl (bV h4) (mP e0_1 (zw rfl rfl (bV h4) (jD Tryz.func162 (fun w h => is_spec p s _ _ con_digits _ 1 w (h.at_ 0 rfl) hs (by omega) (by decide)) (jT (bV h4) rfl (aB rfl (yB ?_)))))); refine c_cond rfl (fun h5 => ?_) (fun h5 => ?_)
    ·(try simp only [Nat.add_zero] at h5); (try have qh5 := atP_lt h5)
     refine yA (mP e0_1 (zI rfl (zf fa163_1 rfl (jM 0 z3 rfl (ji rfl rfl (by omega) (zI rfl (zf fa163_1 rfl (jv 0 z3 rfl (yB (zr (mP e0_1 (w_call1 0 rfl (fun w => zR Tryz.func163 rfl rfl rfl) rfl rfl (fun w h => run_spec p s _ _ con_digits ((numDot s (runTo digitB s j)) + 1) w (h.at_ 0 rfl) hs (by omega)) (aI rfl (zn (zO (?_))))))))))))))))
     have e4 : numTens s (numDot s (runTo digitB s j)) = (runTo digitB s ((numDot s (runTo digitB s j)) + 1) - ((numDot s (runTo digitB s j)) + 1), runTo digitB s ((numDot s (runTo digitB s j)) + 1)) := by rw [numTens, if_pos (by rw [h4, h5]; rfl)]
     exact k_mid ⟨e0_1, by rw [e4]; rfl, rfl, by rw [e4]; rfl⟩
    ·(try simp only [Nat.add_zero] at h5)
     refine yA (mP e0_1 (jD Tryz.func162 (fun w h => is_spec p s _ _ (con_one 101) _ 0 w (h.at_ 0 rfl) hs (by omega) (by decide)) (mB rfl ?_))); refine zp (t := 42) rfl (fun h6 => ?_) (fun h6 => ?_)
     ·(try simp only [Nat.add_zero] at h6); (try have qh6 := atP_lt h6)
      refine zw rfl rfl (bV h6) (mP e0_1 (zw rfl rfl (bV h6) (jD Tryz.func162 (fun w h => is_spec p s _ _ con_pm _ 1 w (h.at_ 0 rfl) hs (by omega) (by decide)) (jT (bV h6) rfl (mB rfl ?_))))); refine zp (t := 46) rfl (fun h7 => ?_) (fun h7 => ?_)
      ·(try simp only [Nat.add_zero] at h7); (try have qh7 := atP_lt h7)
       refine zw rfl rfl (bV h7) (mP e0_1 (zw rfl rfl (bV h7) (jD Tryz.func162 (fun w h => is_spec p s _ _ con_digits _ 2 w (h.at_ 0 rfl) hs (by omega) (by decide)) (jT (bV h7) rfl (aB rfl (yB ?_)))))); refine c_cond rfl (fun h8 => ?_) (fun h8 => ?_)
       ·(try simp only [Nat.add_zero] at h8); (try have qh8 := atP_lt h8)
        refine yA (mP e0_1 (zI rfl (zf fa163_1 rfl (jM 0 z3 rfl (ji rfl rfl (by omega) (zI rfl (zf fa163_1 rfl (jv 0 z3 rfl (yB (zr (mP e0_1 (w_call1 0 rfl (fun w => zR Tryz.func163 rfl rfl rfl) rfl rfl (fun w h => run_spec p s _ _ con_digits ((numDot s (runTo digitB s j)) + 2) w (h.at_ 0 rfl) hs (by omega)) (aI rfl (zn (zO (?_))))))))))))))))
        have e4 : numTens s (numDot s (runTo digitB s j)) = (runTo digitB s ((numDot s (runTo digitB s j)) + 2) - ((numDot s (runTo digitB s j)) + 2), runTo digitB s ((numDot s (runTo digitB s j)) + 2)) := by rw [numTens, if_neg (by rw [h4, h5]; simp), if_pos (by rw [h6, h7, h8]; rfl)]
        exact k_mid ⟨e0_1, by rw [e4]; rfl, rfl, by rw [e4]; rfl⟩
       ·(try simp only [Nat.add_zero] at h8)
        refine zi (zO (?_))
        have e4 : numTens s (numDot s (runTo digitB s j)) = (0, (numDot s (runTo digitB s j))) := by rw [numTens, if_neg (by rw [h4, h5]; simp), if_neg (by rw [h6, h7, h8]; simp)]
        exact k_mid ⟨e0_1, by rw [e4]; rfl, rfl, by rw [e4]; done⟩
      ·(try simp only [Nat.add_zero] at h7)
       refine zs rfl rfl (bV h7) (zs rfl rfl (bV h7) (jF (bV h7) rfl (aB rfl (yB (zG rfl (zi (zO (?_))))))))
       have e4 : numTens s (numDot s (runTo digitB s j)) = (0, (numDot s (runTo digitB s j))) := by rw [numTens, if_neg (by rw [h4, h5]; simp), if_neg (by rw [h6, h7]; simp)]
       exact k_mid ⟨e0_1, by rw [e4]; rfl, rfl, by rw [e4]; done⟩
     ·(try simp only [Nat.add_zero] at h6)
      refine zs rfl rfl (bV h6) (zs rfl rfl (bV h6) (jF (bV h6) rfl (mB rfl ?_))); (iterate 2 refine zs rfl rfl rfl ?_); refine jF rfl rfl (aB rfl (yB (zG rfl (zi (zO (?_))))))
      have e4 : numTens s (numDot s (runTo digitB s j)) = (0, (numDot s (runTo digitB s j))) := by rw [numTens, if_neg (by rw [h4, h5]; simp), if_neg (by rw [h6]; simp)]
      exact k_mid ⟨e0_1, by rw [e4]; rfl, rfl, by rw [e4]; done⟩
   ·(try simp only [Nat.add_zero] at h4)
    refine zs rfl rfl (bV h4) (zs rfl rfl (bV h4) (jF (bV h4) rfl (aB rfl (yB (zG rfl (yA (mP e0_1 (jD Tryz.func162 (fun w h => is_spec p s _ _ (con_one 101) _ 0 w (h.at_ 0 rfl) hs (by omega) (by decide)) (mB rfl ?_))))))))); refine zp (t := 42) rfl (fun h9 => ?_) (fun h9 => ?_)
    ·rw [Nat.add_zero] at h9; rw [h4] at h9; cases h9
    ·(try simp only [Nat.add_zero] at h9)
     refine zs rfl rfl (bV h9) (zs rfl rfl (bV h9) (jF (bV h9) rfl (mB rfl ?_))); (iterate 2 refine zs rfl rfl rfl ?_); refine jF rfl rfl (aB rfl (yB (zG rfl (zi (zO (?_))))))
     have e4 : numTens s (numDot s (runTo digitB s j)) = (0, (numDot s (runTo digitB s j))) := by rw [numTens, if_neg (by rw [h4]; simp), if_neg (by rw [h4]; simp)]
     exact k_mid ⟨e0_1, by rw [e4]; rfl, rfl, by rw [e4]; done⟩
  rintro e B L ⟨e0_2, e4_2, rfl, rfl⟩
  have g4 := numTens_le g3.1
  refine yA (mI e4_2 (jm rfl rfl (mB rfl ?_))); refine zd (t := 61) rfl (fun h10 => ?_) (fun h10 => ?_)
  ·(try simp only [Nat.add_zero] at h10); (try have qh10 := atP_lt h10)
   refine zw rfl rfl (bT h10) (mP e0_2 (zw rfl rfl (bT h10) (jD Tryz.func162 (fun w h => is_spec p s _ _ con_tails _ 0 w (h.at_ 0 rfl) hs (by omega) (by decide)) (zw rfl rfl (bT h10) (jk rfl (jT (bT h10) rfl (aI rfl (aB rfl (yB (ze ?_))))))))))
   have g5 : atP digitB s j = true := by cases hc : atP digitB s j; exact absurd (g0.mpr hc) (by omega); rfl
   have g6 : numFine s j = !atP tailB s (numEnd s j) := by rw [numFine, decide_eq_true (by omega)]; rfl
   rw [g5, if_pos rfl, if_pos rfl, if_pos rfl, g6]
   refine r_two (v := .int _ _) (v2 := .bool _) rfl rfl rfl rfl rfl ?_; exact fun w' hw => ⟨rfl, hw.f0, hw.at_ 0 rfl⟩
  ·(try simp only [Nat.add_zero] at h10)
   refine zs rfl rfl (bF h10) (zs rfl rfl (bF h10) (zs rfl rfl (bF h10) (jF (bF h10) rfl (aI rfl (aB rfl (yB (ze ?_)))))))
   have g5 : atP digitB s j = true := by cases hc : atP digitB s j; exact absurd (g0.mpr hc) (by omega); rfl
   have g6 : numFine s j = false := by rw [numFine, decide_eq_false (by omega)]; rfl
   rw [g5, if_pos rfl, if_pos rfl, if_pos rfl, g6]
   refine r_two (v := .int _ _) (v2 := .bool _) rfl rfl rfl rfl rfl ?_; exact fun w' hw => ⟨rfl, hw.f0, hw.at_ 0 rfl⟩
theorem sign_spec (p : Nat) (s : List UInt8) (j : Nat) (w : World) (hp : w.heap[p]? = some (cel [str s, .int .i64 (j : Nat)] 163)) (hs : s.length ≤ 10000000) (hj : j ≤ s.length) (ht : Tb w) (hg : 1 < p) :
  Ret Tryz.prog 151 #[pX p] w (fun v w' => v = .tuple #[.int .u8 (if signLen s j = 0 then 0 else 3), .bool (!decide (signLen s j = 0))] ∧ Fr (fun i => i = p) w w' ∧ w'.heap[p]? = some (cel [str s, .int .i64 (j + signLen s j : Nat)] 163)) := by
 refine enter (S := (fun i => i = p)) (l := [_]) (L := [(p, cel [str s, .int .i64 (j : Nat)] 163)]) 33 Tryz.func151 rfl rfl rfl (St.start1 w hp rfl) (yA (aI rfl (aB rfl (yB (zq (yA (w_callN (g := fun b => .slice (some ⟨b, 0, none⟩) 22 22) (fun w => zR Tryz.func164 rfl rfl rfl) rfl rfl (fun w h => Fields_signs _ rfl w (ht.fr (h.fr _ zm0) (by intro hh; omega))) (fun fb gfb ufb => jj sl153 rfl (mI rfl (yB (zB ?_))))))))))); refine c_loop (fun m e B L => ∃ (k : Nat), e 0 = pX p ∧ e 6 = .slice (some ⟨fb, 0, none⟩) 22 22 ∧ e 7 = .int .i64 22 ∧ e 8 = .int .i64 (k : Nat) ∧ B = [(w, (fun i => i = p))] ∧ L = [(fb, cel (signsL.map str) 9), (p, cel [str s, .int .i64 (j : Nat)] 163)] ∧ k ≤ 22 ∧ (signsL.take k).find? (fun t => t.isPrefixOf (s.drop j)) = none ∧ m = 22 - k) _ ⟨0, rfl, rfl, rfl, rfl, rfl, rfl, by omega, rfl, rfl⟩ ?_
 rintro m e B L ⟨k, e0_1, e6_1, e7_1, e8_1, rfl, rfl, p0_1, p1_1, rfl⟩
 have r1 := sig_len k
 refine yA (jl e8_1 e7_1 (yB (zq ?_))); refine zD rfl (fun h1 => ?_) (fun h1 => ?_)
 ·refine zi (zk (zq (zB (yA (zg (fun _ => R_iaN (i := k) sl153 e6_1 e8_1 (by omega)) ?_))))); refine zl z9 rfl (fun _ h => by exact zc 0 rfl (sig_at (by omega)) h) ?_; refine za (v := str _) rfl (yB (zq (c_draw mixed (by kernel_rfl) (mP e0_1 (zI rfl (zf fa163_0 rfl (jM 1 z9 rfl (mP e0_1 (zI rfl (zf fa163_1 rfl (jM 1 z3 rfl (zg (fun _ => R_ssl_loN st9 rfl rfl (by omega)) (zm (v := str _) rfl (jD Tryz.func165 (fun w h => HasPrefix_spec _ _ w) ?_))))))))))))))
  refine yB ?_; refine c_cond rfl (fun h2 => ?_) (fun h2 => ?_)
  ·refine yA (mP e0_1 (zI rfl (zf fa163_1 rfl (jM 1 z3 rfl (zm (v := str _) rfl (zg (fun _ => R_slen st9 rfl (by omega)) (ji rfl rfl (by omega) (zI rfl (zf fa163_1 rfl (jv 1 z3 rfl (yC (aI rfl (aB rfl (yB (ze (zb (zt (zt (zb (zt (?_)))))))))))))))))))))
   have r2 := sig_found (by omega) p1_1 h2
   rw [r2]
   refine r_two (v := .int _ _) (v2 := .bool _) rfl rfl rfl rfl rfl ?_; exact fun w' hw => ⟨by rw [if_neg (by have := sig_pos k (by omega); omega), decide_eq_false (by have := sig_pos k (by omega); omega)]; rfl, hw.f0, hw.at_ 1 rfl⟩
  ·refine zi (zO (zk (zr (ji e8_1 rfl (by omega) (mI rfl (zn ?_)))))); exact k_again _ (by omega) ⟨k + 1, e0_1, e6_1, e7_1, rfl, rfl, rfl, by omega, sig_step (by omega) p1_1 h2, rfl⟩
 ·refine zX (zx (zx (b_here rfl (zk (yA (aI rfl (aB rfl (yB (ze ?_)))))))))
  have r2 := sig_none (by omega) p1_1
  rw [r2]
  refine r_two (v := .int _ _) (v2 := .bool _) rfl rfl rfl rfl rfl ?_; exact fun w' hw => ⟨rfl, hw.f0, hw.at_ 1 rfl⟩
end Go.Proofs.YtoehjlmdnajibaaGreatDoor
end
section
namespace Go.Proofs.YtoehjlmdnajibaaGreatDoor
open Go.RowKit Go.Sx
open Go.Tok
variable {σ : Type}
def Rounds (J : Bool → σ → Heap → Prop) (nx : σ → Nat → List UInt8 → Nat → Bool → σ × Bool) (l : Nat) : Prop :=
 ∀ (x : σ) (k : Nat) (t : List UInt8) (a : Nat) (b : Bool) (Lc Lr : Heap) (B : Base) (w : World), t.length ≤ 10000000 → J true x Lc → St B (Lc ++ Lr) w →
  YieldAt (fw none) 0 Tryz.prog l #[.agg #[.int .u8 (k : Nat), str t, .int .i64 (a : Nat)], .bool b] w (fun en w' => ∃ v, en = .returned v ∧ ∃ Lc', v = .bool (nx x k t a b).2 ∧ J (nx x k t a b).2 (nx x k t a b).1 Lc' ∧ St B (Lc' ++ Lr) w')
theorem all1_spec (J : Bool → σ → Heap → Prop) (nx : σ → Nat → List UInt8 → Nat → Bool → σ × Bool) (hn : ∀ x k t a, (nx x k t a false).2 = false) (l p vb : Nat) (s : List UInt8) (hs : s.length ≤ 10000000) (hy : Rounds J nx l) (wb : World) (Sb : Nat → Prop) (ht : Tb wb) (hgl : ¬ Sb 1) (hg : 1 < p) (x0 : σ) (Lc0 Lr : Heap) (Bs : Base) (hB : (wb, Sb) ∈ Bs) (hJ0 : J true x0 Lc0) (w : World) (hw : St Bs ((vb, cel [pX p] 161) :: (p, cel [str s, .int .i64 (0 : Nat)] 163) :: (Lc0 ++ Lr)) w) :
  Ret Tryz.prog 148 #[.func (.yield l) #[] #[], pX vb] w (fun v w' => v = .tuple #[] ∧ ∃ (j : Nat) (g : Bool) (Lc' : Heap), J g (lexS nx s (skipTo s 0) x0) Lc' ∧ St Bs ((vb, cel [pX p] 161) :: (p, cel [str s, .int .i64 (j : Nat)] 163) :: (Lc' ++ Lr)) w') := by
 have g0 := skipTo_le (s := s) (Nat.zero_le _)
 refine enterB (l := [_, _]) 67 Tryz.func148 rfl rfl rfl (hw) (yA (zg (fun _ => R_buildA ar180 zr180 rfl) (zA zr180 (fun b1 gb1 ub1 => jv 0 z180 rfl (yC (jM 1 z161 rfl (w_call1 2 rfl (fun w => zR Tryz.func152 rfl rfl rfl) rfl rfl (fun w h => skip_spec p s _ w (h.at_ 2 rfl) hs (Nat.zero_le _)) (yB (zB (c_loop (fun m e B L => ∃ (k : Nat) (x : σ) (Lc : Heap), e 0 = .func (.yield l) #[] #[] ∧ e 1 = pX vb ∧ e 3 = pX b1 ∧ Bs = B ∧ L = (b1, cel [.func (.func 149) #[] #[], .func (.func 150) #[] #[], .func (.func 151) #[] #[]] 180) :: (vb, cel [pX p] 161) :: (p, cel [str s, .int .i64 (k : Nat)] 163) :: (Lc ++ Lr) ∧ k ≤ s.length ∧ J true x Lc ∧ lexS nx s k x = lexS nx s (skipTo s 0) x0 ∧ m = s.length - k) _ ⟨skipTo s 0, x0, Lc0, rfl, rfl, rfl, rfl, rfl, g0.1, hJ0, rfl, rfl⟩ ?_))))))))))
 rintro m e B L ⟨k, x, Lc, e0_1, e1_1, e3_1, rfl, rfl, hk, hJ, hl, rfl⟩
 have g2 := tok_le hk
 refine zq (zq (c_draw mixed (by kernel_rfl) (zL 1 z161 e1_1 rfl rfl (zI rfl (zf fa163_1 rfl (jM 2 z3 rfl (zL 1 z161 e1_1 rfl rfl (zI rfl (zf fa163_0 rfl (jM 2 z9 rfl (zg (fun _ => R_slen st9 rfl (by omega)) (jl rfl rfl (yB ?_))))))))))))); refine zD rfl (fun h2 => ?_) (fun h2 => ?_)
 ·have hlt : k < s.length := by omega
  refine zi (zk (zq (zB (yA (zL 1 z161 e1_1 rfl rfl (zI rfl (zf fa163_1 rfl (jM 2 z3 rfl (jb bt141 rfl (zA zr141 (fun t4b gt4b ut4b => jv 0 z141 rfl (yC (aB rfl (yB ?_)))))))))))))); refine c_cut (fun e B L => e 0 = .func (.yield l) #[] #[] ∧ e 1 = pX vb ∧ e 3 = pX b1 ∧ e 4 = pX t4b ∧ e 5 = .bool (tokAt s k).2.2 ∧ Bs = B ∧ L = (t4b, cel [.int .u8 ((tokAt s k).1 : Nat), str ([]), .int .i64 (k : Nat)] 141) :: (b1, cel [.func (.func 149) #[] #[], .func (.func 150) #[] #[], .func (.func 151) #[] #[]] 180) :: (vb, cel [pX p] 161) :: (p, cel [str s, .int .i64 ((tokAt s k).2.1 : Nat)] 163) :: (Lc ++ Lr)) ?_ ?_
  ·refine yA (jy 1 z180 e3_1 rfl (mI rfl (yB (zB (c_rounds 4 (yA (jl rfl rfl (yB (zq (zE bD (zi (zk (zq (zB (yA (zg (fun _ => R_aidx (i := 0) ar180 rfl rfl rfl rfl) (za rfl (yC (zm rfl (zL 2 z161 e1_1 rfl rfl ?_))))))))))))))))))))
   cases hN : nameB s k
   ·refine w_call1 3 rfl (fun w => R_callv rfl Tryz.func149 rfl rfl) rfl rfl (fun w h => by have hh := name_spec p s _ w (h.at_ 3 rfl) hs (by omega); simp only [hN, Bool.false_eq_true, if_false, if_true, ↓reduceIte, decide_true, decide_false, Bool.not_true, Bool.not_false, Nat.add_zero] at hh; exact hh) ?_; refine zm rfl (jx rfl rfl (jx rfl rfl (zf fa141_0 rfl (jv 0 z5 rfl (aB rfl (yB (zq (c_draw mixed (by kernel_rfl) (mB rfl (mB rfl (zw rfl rfl rfl (zL 2 z161 e1_1 rfl rfl (zw rfl rfl rfl (zI rfl ?_))))))))))))))
    refine zw rfl rfl rfl (zf fa163_1 rfl (zw rfl rfl rfl (jM 3 z3 rfl (zw rfl rfl rfl (zf fa141_2 rfl (zw rfl rfl rfl (jM 0 z3 rfl (zw rfl rfl rfl (jg rfl rfl (jF rfl rfl (yB ?_))))))))))); refine zD rfl (fun h4 => ?_) (fun h4 => ?_)
    ·omega
    ·refine zi (zO (zk (zr (ji rfl rfl (by omega) (mI rfl (zn (k_rounds (yA (jl rfl rfl (yB (zq (zE bD (zi (zk (zq (zB (yA (zg (fun _ => R_aidx (i := 1) ar180 rfl rfl rfl rfl) (za rfl (yC (zm rfl (zL 2 z161 e1_1 rfl rfl ?_))))))))))))))))))))))
     cases hD : atP digitB s k
     ·refine w_call1 3 rfl (fun w => R_callv rfl Tryz.func150 rfl rfl) rfl rfl (fun w h => by have hh := number_spec p s _ w (h.at_ 3 rfl) hs (by omega); simp only [hD, Bool.false_eq_true, if_false, if_true, ↓reduceIte, decide_true, decide_false, Bool.not_true, Bool.not_false, Nat.add_zero] at hh; exact hh) ?_; refine zm rfl (jx rfl rfl (jx rfl rfl (zf fa141_0 rfl (jv 0 z5 rfl (aB rfl (yB (zq (c_draw mixed (by kernel_rfl) (mB rfl (mB rfl (zw rfl rfl rfl (zL 2 z161 e1_1 rfl rfl (zw rfl rfl rfl (zI rfl ?_))))))))))))))
      refine zw rfl rfl rfl (zf fa163_1 rfl (zw rfl rfl rfl (jM 3 z3 rfl (zw rfl rfl rfl (zf fa141_2 rfl (zw rfl rfl rfl (jM 0 z3 rfl (zw rfl rfl rfl (jg rfl rfl (jF rfl rfl (yB ?_))))))))))); refine zD rfl (fun h5 => ?_) (fun h5 => ?_)
      ·omega
      ·refine zi (zO (zk (zr (ji rfl rfl (by omega) (mI rfl (zn (k_rounds (yA (jl rfl rfl (yB (zq (zE bD (zi (zk (zq (zB (yA (zg (fun _ => R_aidx (i := 2) ar180 rfl rfl rfl rfl) (za rfl (yC (zm rfl (zL 2 z161 e1_1 rfl rfl ?_))))))))))))))))))))))
       rcases Classical.em (signLen s k = 0) with hS | hS
       ·refine w_call1 3 rfl (fun w => R_callv rfl Tryz.func151 rfl rfl) rfl rfl (fun w h => by have hh := sign_spec p s _ w (h.at_ 3 rfl) hs (by omega) (ht.fr (h.fr _ hB) hgl) hg; simp only [hS, Bool.false_eq_true, if_false, if_true, ↓reduceIte, decide_true, decide_false, Bool.not_true, Bool.not_false, Nat.add_zero] at hh; exact hh) ?_; refine zm rfl (jx rfl rfl (jx rfl rfl (zf fa141_0 rfl (jv 0 z5 rfl (aB rfl (yB (zq (c_draw mixed (by kernel_rfl) (mB rfl (mB rfl (zw rfl rfl rfl (zL 2 z161 e1_1 rfl rfl (zw rfl rfl rfl (zI rfl ?_))))))))))))))
        refine zw rfl rfl rfl (zf fa163_1 rfl (zw rfl rfl rfl (jM 3 z3 rfl (zw rfl rfl rfl (zf fa141_2 rfl (zw rfl rfl rfl (jM 0 z3 rfl (zw rfl rfl rfl (jg rfl rfl (jF rfl rfl (yB ?_))))))))))); refine zD rfl (fun h6 => ?_) (fun h6 => ?_)
        ·omega
        ·refine zi (zO (zk (zr (ji rfl rfl (by omega) (mI rfl (zn (k_rounds (yA (jl rfl rfl (yB (zq (zG bE (zX (zx (zx (b_here rfl (?_)))))))))))))))))
         have e0 : tokAt s k = (0, k, false) := by rw [tokAt, if_neg (by rw [hN]; simp), if_neg (by rw [hD]; simp), if_pos hS]
         exact k_mid ⟨e0_1, e1_1, e3_1, rfl, by rw [e0]; rfl, rfl, by rw [e0]; rfl⟩
       ·refine w_call1 3 rfl (fun w => R_callv rfl Tryz.func151 rfl rfl) rfl rfl (fun w h => by have hh := sign_spec p s _ w (h.at_ 3 rfl) hs (by omega) (ht.fr (h.fr _ hB) hgl) hg; simp only [hS, Bool.false_eq_true, if_false, if_true, ↓reduceIte, decide_true, decide_false, Bool.not_true, Bool.not_false, Nat.add_zero] at hh; exact hh) ?_; refine zm rfl (jx rfl rfl (jx rfl rfl (zf fa141_0 rfl (jv 0 z5 rfl (aB rfl (yB (zq (c_draw mixed (by kernel_rfl) (mB rfl ?_)))))))))
        refine mB rfl ?_; (iterate 7 refine zs rfl rfl rfl ?_); refine jT rfl rfl (yB (zE rfl (zX (b_past rfl (zx (zx (b_here rfl (?_))))))))
        have e0 : tokAt s k = (3, k + signLen s k, true) := by rw [tokAt, if_neg (by rw [hN]; simp), if_neg (by rw [hD]; simp), if_neg hS]
        exact k_mid ⟨e0_1, e1_1, e3_1, rfl, by rw [e0]; rfl, rfl, by rw [e0]; rfl⟩
     ·refine w_call1 3 rfl (fun w => R_callv rfl Tryz.func150 rfl rfl) rfl rfl (fun w h => by have hh := number_spec p s _ w (h.at_ 3 rfl) hs (by omega); simp only [hD, Bool.false_eq_true, if_false, if_true, ↓reduceIte, decide_true, decide_false, Bool.not_true, Bool.not_false, Nat.add_zero] at hh; exact hh) ?_; refine zm rfl (jx rfl rfl (jx rfl rfl (zf fa141_0 rfl (jv 0 z5 rfl (aB rfl (yB (zq (c_draw mixed (by kernel_rfl) (mB rfl (mB rfl ?_)))))))))); refine zp (t := 40) rfl (fun h7 => ?_) (fun h7 => ?_)
      ·refine zs rfl rfl (bV h7) (zs rfl rfl (bV h7) (zs rfl rfl (bV h7) (zs rfl rfl (bV h7) (zs rfl rfl (bV h7) (zs rfl rfl (bV h7) (zs rfl rfl (bV h7) (jT (bV h7) rfl (yB (zE rfl (zX (b_past rfl (zx (zx (b_here rfl (?_)))))))))))))))
       have e0 : tokAt s k = (2, numEnd s k, true) := by rw [tokAt, if_neg (by rw [hN]; simp), if_pos hD, h7]
       exact k_mid ⟨e0_1, e1_1, e3_1, rfl, by rw [e0]; exact congrArg Value.bool h7, rfl, by rw [e0]; rfl⟩
      ·refine zw rfl rfl (bV h7) (zL 2 z161 e1_1 rfl rfl (zw rfl rfl (bV h7) (zI rfl (zw rfl rfl (bV h7) (zf fa163_1 rfl (zw rfl rfl (bV h7) (jM 3 z3 rfl (zw rfl rfl (bV h7) (zf fa141_2 rfl (zw rfl rfl (bV h7) (jM 0 z3 rfl (zw rfl rfl (bV h7) (jg rfl rfl (jF (bV h7) rfl (yB ?_))))))))))))))); refine zD rfl (fun h8 => ?_) (fun h8 => ?_)
       ·refine zX (b_past rfl (zx (zx (b_here rfl (?_)))))
        have e0 : tokAt s k = (2, numEnd s k, false) := by rw [tokAt, if_neg (by rw [hN]; simp), if_pos hD, h7]
        exact k_mid ⟨e0_1, e1_1, e3_1, rfl, by rw [e0]; exact congrArg Value.bool h7, rfl, by rw [e0]; rfl⟩
       ·exfalso; have := digit_run hD; have := numEnd_le hk; omega
   ·refine w_call1 3 rfl (fun w => R_callv rfl Tryz.func149 rfl rfl) rfl rfl (fun w h => by have hh := name_spec p s _ w (h.at_ 3 rfl) hs (by omega); simp only [hN, Bool.false_eq_true, if_false, if_true, ↓reduceIte, decide_true, decide_false, Bool.not_true, Bool.not_false, Nat.add_zero] at hh; exact hh) ?_; refine zm rfl (jx rfl rfl (jx rfl rfl (zf fa141_0 rfl (jv 0 z5 rfl (aB rfl (yB (zq (c_draw mixed (by kernel_rfl) (mB rfl (mB rfl ?_)))))))))); (iterate 4 refine zs rfl rfl rfl ?_); refine zs rfl rfl rfl ?_
    (iterate 2 refine zs rfl rfl rfl ?_); refine jT rfl rfl (yB (zE rfl (zX (b_past rfl (zx (zx (b_here rfl (?_))))))))
    have e0 : tokAt s k = (1, runTo wordB s k, true) := by rw [tokAt, if_pos hN]
    exact k_mid ⟨e0_1, e1_1, e3_1, rfl, by rw [e0]; rfl, rfl, by rw [e0]; rfl⟩
  rintro e B L ⟨e0_2, e1_2, e3_2, e4_2, e5_2, rfl, rfl⟩
  refine zq (c_tail 12 mixed (by kernel_rfl) (zL 2 z161 e1_2 rfl rfl (zI rfl (zf fa163_0 rfl (jM 3 z9 rfl (zf fa141_2 e4_2 (jM 0 z3 rfl (zL 2 z161 e1_2 rfl rfl (zI rfl (zf fa163_1 rfl (jM 3 z3 rfl (zg (fun _ => R_sslN st9 rfl rfl rfl (by omega) (by omega)) (zf fa141_1 e4_2 (w_tailst 0 rfl z9 rfl rfl rfl rfl rfl rfl rfl (zk (yA (zm e0_2 (jy 0 z141 e4_2 rfl (mB e5_2 (w_yield rfl (fun w h => hy x (tokAt s k).1 (tokTx s k) k (tokAt s k).2.2 Lc ([(t4b, cel [.int .u8 ((tokAt s k).1 : Nat), str (tokTx s k), .int .i64 (k : Nat)] 141), (b1, cel [.func (.func 149) #[] #[], .func (.func 150) #[] #[], .func (.func 151) #[] #[]] 180), (vb, cel [pX p] 161), (p, cel [str s, .int .i64 ((tokAt s k).2.1 : Nat)] 163)] ++ Lr) Bs w (tokTx_len s k hs) hJ (h.perm (perm_mid [(t4b, cel [.int .u8 ((tokAt s k).1 : Nat), str (tokTx s k), .int .i64 (k : Nat)] 141), (b1, cel [.func (.func 149) #[] #[], .func (.func 150) #[] #[], .func (.func 151) #[] #[]] 180), (vb, cel [pX p] 161), (p, cel [str s, .int .i64 ((tokAt s k).2.1 : Nat)] 163)] Lc Lr))) ?_))))))))))))))))))))
  rintro w h v w' ⟨Lc2, rfl, hJ2, hs2⟩
  refine ⟨Bs, [(t4b, cel [.int .u8 ((tokAt s k).1 : Nat), str (tokTx s k), .int .i64 (k : Nat)] 141), (b1, cel [.func (.func 149) #[] #[], .func (.func 150) #[] #[], .func (.func 151) #[] #[]] 180), (vb, cel [pX p] 161), (p, cel [str s, .int .i64 ((tokAt s k).2.1 : Nat)] 163)] ++ (Lc2 ++ Lr), hs2.perm (perm_mid [(t4b, cel [.int .u8 ((tokAt s k).1 : Nat), str (tokTx s k), .int .i64 (k : Nat)] 141), (b1, cel [.func (.func 149) #[] #[], .func (.func 150) #[] #[], .func (.func 151) #[] #[]] 180), (vb, cel [pX p] 161), (p, cel [str s, .int .i64 ((tokAt s k).2.1 : Nat)] 163)] Lc2 Lr).symm, ?_⟩
  refine jk rfl (yB ?_); refine c_condN rfl (fun h9 => ?_) (fun h9 => ?_)
  ·refine ze (zb (zt (zt (zb ((r_none (.inl rfl) rfl ?_)))))); exact fun w' hw => ⟨rfl, _, _, Lc2, by rw [← hl, lexS_end nx hlt h9]; exact hJ2, hw.drop (.cons _ (.cons _ (List.Sublist.refl _)))⟩
  ·have hgo := h9; rw [hgo] at hJ2
   refine zi (zO (zk (zr (zL 2 z161 e1_2 rfl rfl (w_call1 3 rfl (fun w => zR Tryz.func152 rfl rfl rfl) rfl rfl (fun w h => skip_spec p s _ w (h.at_ 3 rfl) hs g2.2.1) (zn (zK (B' := Bs) (L' := (b1, cel [.func (.func 149) #[] #[], .func (.func 150) #[] #[], .func (.func 151) #[] #[]] 180) :: (vb, cel [pX p] 161) :: (p, cel [str s, .int .i64 (skipTo s (tokAt s k).2.1 : Nat)] 163) :: (Lc2 ++ Lr)) (fun w h => h.d1) ?_)))))))
   have g4 := g2.2.2 (fine_of nx hn hgo)
   have g5 := skipTo_le g2.2.1
   exact k_again _ (by omega) ⟨skipTo s (tokAt s k).2.1, (nx x (tokAt s k).1 (tokTx s k) k (tokAt s k).2.2).1, Lc2, e0_2, e1_2, e3_2, rfl, rfl, g5.1, hJ2, by rw [← hl, lexS_go nx hn hlt hgo], rfl⟩
 ·refine zX (zx (zx (b_here rfl ((r_none (.inr rfl) rfl ?_))))); exact fun w' hw => ⟨rfl, k, true, Lc, by rw [← hl, lexS_stop nx (by omega)]; exact hJ, hw.drop (List.sublist_cons_self _ _)⟩
end Go.Proofs.YtoehjlmdnajibaaGreatDoor
end
section
namespace Go.Proofs.YtoehjlmdnajibaaGreatDoor
open Go.RowKit Go.Sx
open Go.Tok
def rdPs : Array Go.Tmp := #[18, 19]
def rdAs : Go.Code := (Go.Code.seq (Go.Code.region 7 #[(Go.Oper.mk (some 7) (Go.Op.alloc 141) 0 "token.go:123" #[] none), (Go.Oper.mk none (Go.Op.store 141 (Go.Operand.tmp 7) (Go.Operand.tmp 18)) 0 "token.go:123" #[(Go.Edge.mk 0 Go.Ground.data), (Go.Edge.mk 0 Go.Ground.phase)] none)] false) (Go.Code.region 8 #[(Go.Oper.mk (some 8) (Go.Op.assign (Go.Operand.tmp 19)) 4 "token.go:123" #[] none)] false))
def rdBo : Go.Code := (Go.Code.block 1 (Go.Code.seq (Go.Code.block 2 (Go.Code.seq (Go.Code.region 9 #[(Go.Oper.mk (some 21) (Go.Op.move (Go.Operand.tmp 8)) 4 "token.go:125" #[] none), (Go.Oper.mk (some 22) (Go.Op.unOp Go.UnOp.not 4 (Go.Operand.tmp 21)) 4 "token.go:125" #[(Go.Edge.mk 0 Go.Ground.data)] none), (Go.Oper.mk (some 20) (Go.Op.assign (Go.Operand.tmp 22)) 4 "token.go:125" #[(Go.Edge.mk 1 Go.Ground.data)] none)] false) (Go.Code.cond (Go.Operand.tmp 20) (Go.Code.seq (Go.Code.region 10 #[(Go.Oper.mk (some 23) (Go.Op.fieldAddr 141 (Go.Operand.tmp 7) 2) 0 "token.go:126" #[] none), (Go.Oper.mk (some 24) (Go.Op.load 3 (Go.Operand.tmp 23)) 3 "token.go:126" #[(Go.Edge.mk 0 Go.Ground.data)] none), (Go.Oper.mk (some 25) (Go.Op.build 37 #[(0, (Go.Operand.const (Go.Value.int Go.IntKind.i64 110))), (1, (Go.Operand.tmp 24))]) 37 "token.go:126" #[(Go.Edge.mk 1 Go.Ground.data)] none), (Go.Oper.mk none (Go.Op.store 37 (Go.Operand.tmp 6) (Go.Operand.tmp 25)) 0 "token.go:126" #[(Go.Edge.mk 2 Go.Ground.data), (Go.Edge.mk 0 Go.Ground.phase), (Go.Edge.mk 1 Go.Ground.phase), (Go.Edge.mk 2 Go.Ground.phase)] none)] false) (Go.Code.exit 0)) (Go.Code.seq (Go.Code.region 11 #[(Go.Oper.mk (some 27) (Go.Op.load 137 (Go.Operand.tmp 5)) 137 "token.go:128" #[] none), (Go.Oper.mk (some 28) (Go.Op.call (Go.Call.mk (Go.Callee.builtin Go.Builtin.len) #[(Go.Operand.tmp 27)] #[137])) 3 "token.go:128" #[(Go.Edge.mk 0 Go.Ground.data)] none), (Go.Oper.mk (some 29) (Go.Op.binOp Go.BinOp.eql 3 (Go.Operand.tmp 28) (Go.Operand.const (Go.Value.int Go.IntKind.i64 6000)) 3) 4 "token.go:128" #[(Go.Edge.mk 1 Go.Ground.data)] none), (Go.Oper.mk (some 26) (Go.Op.assign (Go.Operand.tmp 29)) 4 "token.go:128" #[(Go.Edge.mk 2 Go.Ground.data)] none)] false) (Go.Code.cond (Go.Operand.tmp 26) (Go.Code.seq (Go.Code.region 12 #[(Go.Oper.mk (some 30) (Go.Op.fieldAddr 141 (Go.Operand.tmp 7) 2) 0 "token.go:129" #[] none), (Go.Oper.mk (some 31) (Go.Op.load 3 (Go.Operand.tmp 30)) 3 "token.go:129" #[(Go.Edge.mk 0 Go.Ground.data)] none), (Go.Oper.mk (some 32) (Go.Op.build 37 #[(0, (Go.Operand.const (Go.Value.int Go.IntKind.i64 6))), (1, (Go.Operand.tmp 31))]) 37 "token.go:129" #[(Go.Edge.mk 1 Go.Ground.data)] none), (Go.Oper.mk none (Go.Op.store 37 (Go.Operand.tmp 6) (Go.Operand.tmp 32)) 0 "token.go:129" #[(Go.Edge.mk 2 Go.Ground.data), (Go.Edge.mk 0 Go.Ground.phase), (Go.Edge.mk 1 Go.Ground.phase), (Go.Edge.mk 2 Go.Ground.phase)] none)] false) (Go.Code.exit 0)) Go.Code.skip))))) (Go.Code.region 13 #[(Go.Oper.mk (some 33) (Go.Op.load 137 (Go.Operand.tmp 5)) 137 "token.go:132" #[] none), (Go.Oper.mk (some 34) (Go.Op.load 141 (Go.Operand.tmp 7)) 141 "token.go:132" #[] none), (Go.Oper.mk (some 35) (Go.Op.buildSlice 137 1 #[(0, (Go.Operand.tmp 34))]) 137 "token.go:132" #[(Go.Edge.mk 1 Go.Ground.data)] none), (Go.Oper.mk (some 36) (Go.Op.call (Go.Call.mk (Go.Callee.builtin Go.Builtin.append) #[(Go.Operand.tmp 33), (Go.Operand.tmp 35)] #[137, 137])) 137 "token.go:132" #[(Go.Edge.mk 0 Go.Ground.data), (Go.Edge.mk 2 Go.Ground.data)] none), (Go.Oper.mk none (Go.Op.store 137 (Go.Operand.tmp 5) (Go.Operand.tmp 36)) 0 "token.go:132" #[(Go.Edge.mk 3 Go.Ground.data), (Go.Edge.mk 3 Go.Ground.chain), (Go.Edge.mk 0 Go.Ground.phase), (Go.Edge.mk 1 Go.Ground.phase), (Go.Edge.mk 2 Go.Ground.phase), (Go.Edge.mk 3 Go.Ground.phase)] none)] false)))
def tkC (t : Tk) : List Value := [.int .u8 (t.1 : Nat), str t.2.1, .int .i64 (t.2.2 : Nat)]
def tksC (l : List Tk) : List Value := l.flatMap tkC
abbrev Toks (v : Value) (l : List Tk) (W : Heap) : Prop := Own 141 3 v (tksC l) l.length W
theorem Toks.more {v : Value} {l : List Tk} {t : Tk} {W : Heap} (h : Own 141 3 v (tksC l ++ tkC t) (l.length + 1) W) : Toks v (l ++ [t]) W := by
  have e1 : tksC (l ++ [t]) = tksC l ++ tkC t := by simp [tksC]
  have e2 : (l ++ [t]).length = l.length + 1 := by simp
  unfold Toks; rw [e1, e2]; exact h
def rdL (t5b t6b l : Nat) (v : Value) (fc fa : Nat) (ob : Obj) (W : Heap) : Heap := (t5b, cel [v] 137) :: (t6b, cel [.int .i64 (fc : Nat), .int .i64 (fa : Nat)] 37) :: (l, ob) :: W
def rdO (e : Env) (fn : FuncId) (r : Nat) : Bool → Obj
  | true => lpO .ready none fn ⟨43, [], none⟩ e rdPs rdAs rdBo r
  | false => lpO .done (some (.exit 0)) fn ⟨43, [], none⟩ e rdPs rdAs rdBo r
def RdJ (e : Env) (fn : FuncId) (r l t5b t6b : Nat) (g : Bool) (x : Rd) (Lc : Heap) : Prop :=
  ∃ a c W, Toks (.slice a x.1.length c) x.1 W ∧ x.1.length ≤ 6000 ∧ (g = true → x.2 = (0, 0)) ∧ (g = false → x.2.1 ≠ 0) ∧ Lc = rdL t5b t6b l (.slice a x.1.length c) x.2.1 x.2.2 (rdO e fn r g) W
def RdV (r : Rd) (v : Value) (W : Heap) : Prop := ∃ a c, v = .tuple #[.slice a r.1.length c, .agg #[.int .i64 (r.2.1 : Nat), .int .i64 (r.2.2 : Nat)]] ∧ Toks (.slice a r.1.length c) r.1 W
theorem all_spec (p : Nat) (w : World) :
    Ret Tryz.prog 127 #[pX p] w (fun v w' => ∃ W, (∃ vb, v = .func (.func 148) #[] #[pX vb] ∧ W = [(vb, cel [pX p] 161)]) ∧ New w w' W) := by
  refine enter (S := No) (l := [_]) (L := []) 4 Tryz.func127 rfl rfl rfl (St.start w No) (yA (w_box rfl (fun vb gvb uvb => za rfl (yC (zg (fun _ => R_makeFunc) (za rfl (yB (ze (zo rfl rfl rfl ?_))))))))); exact fun w' hw => ⟨_, ⟨vb, rfl, rfl⟩, St.made (A := []) hw⟩
theorem Read_round (e : Env) (fn r l t5b t6b : Nat) (he5 : e 5 = pX t5b) (he6 : e 6 = pX t6b) : Rounds (RdJ e fn r l t5b t6b) readN l := by
  intro x k t a b Lc Lr B w htx hJ hw
  obtain ⟨a0, c0, W, hO, hx6, hxt, -, rfl⟩ := hJ
  have hx0 := hxt rfl
  refine yield_round 2 (L := rdL t5b t6b l _ _ _ _ _ ++ Lr) hw rfl rfl (yA (zA zr141 (fun t7b gt7b ut7b => jv 0 z141 rfl (yB (zr (aB rfl (zn (k_begin (l' := 0) 3 rfl (zB (zq (zB (yA (mB rfl (jk rfl (aB rfl (yB ?_)))))))))))))))); refine c_condN rfl (fun h2 => ?_) (fun h2 => ?_)
  · refine yA (zf fa141_2 rfl (jM 0 z3 rfl (jb bt37 rfl (ju 2 z37 he6 rfl rfl (yB (zX (b_past rfl (zx (b_past rfl ((k_roundX 3 rfl ?_)))))))))))
    subst h2
    exact fun w h => ⟨_, rfl, rdL t5b t6b l (.slice a0 x.1.length c0) 110 a (rdO e fn r false) W, rfl, ⟨a0, c0, W, hO, hx6, (fun h => by cases h), fun _ => by simp [readN], rfl⟩, h.d1⟩
  refine yA (zL 1 z137 he5 rfl rfl (jj sl137 rfl (je rfl rfl (aB rfl (yB ?_))))); refine zD rfl (fun h3 => ?_) (fun h3 => ?_)
  · refine yA (zf fa141_2 rfl (jM 0 z3 rfl (jb bt37 rfl (ju 2 z37 he6 rfl rfl (yB (zX (b_past rfl (zx (b_past rfl ((k_roundX 3 rfl ?_)))))))))))
    subst h2
    have hN : readN x k t a true = ((x.1, 6, a), false) := by rw [readN, if_neg (by decide), if_pos (by omega)]
    exact fun w h => ⟨_, rfl, rdL t5b t6b l (.slice a0 x.1.length c0) 6 a (rdO e fn r false) W, by rw [hN], by rw [hN]; exact ⟨a0, c0, W, hO, hx6, (fun h => by cases h), fun _ => by simp [readN], rfl⟩, h.d1⟩
  refine zi (zO (zk (zr (zL 1 z137 he5 rfl rfl (jy 0 z141 rfl rfl (zS slt137 (by decide) rfl rfl (fun bs gbs ubs => w_app [(bs, _), (t7b, _), (t5b, _), (t6b, _), (l, _)] (news := tkC (k, t, a)) slt137 (by decide) rfl hO rfl rfl (row_own 0 rfl (fun _ _ h => h)) rfl (by decide) (by omega) (by omega) (fun v2 W2 hO2 => ?_))))))))
  obtain ⟨a2, c2, rfl⟩ := hO2.slice
  refine ju 2 z137 he5 rfl rfl (zn (zO ((k_round 4 rfl ?_))))
  subst h2
  have hN : readN x k t a true = ((x.1 ++ [(k, t, a)], x.2), true) := by rw [readN, if_neg (by decide), if_neg (by omega)]
  exact fun w h => ⟨_, rfl, rdL t5b t6b l (.slice a2 (x.1.length + 1) c2) x.2.1 x.2.2 (rdO e fn r true) W2, by rw [hN], by rw [hN]; exact ⟨a2, c2, W2, by simpa using Toks.more hO2, by simp; omega, fun _ => hx0, (fun h => by cases h), by simp⟩, h.drop (.cons _ (.cons _ (List.Sublist.refl _)))⟩
theorem Read_spec (s : List UInt8) (hs : s.length ≤ 10000000) (w : World) (ht : Tb w) (hgs : 1 < w.heap.size) :
    Ret Tryz.prog 106 #[str s] w (fun v w' => ∃ W, RdV (readP s) v W ∧ New w w' W) := by
  refine enterM (S := No) (l := [_]) (L := []) 43 Tryz.func106 rfl rfl rfl (St.start w No) (yA (za (v := .slice _ _ _) rfl (zA zr37 (fun t3b gt3b ut3b => yB (c_scope (zq (yA (zm (v := str _) rfl (zg (fun _ => R_slen st9 rfl (by omega)) (jg rfl rfl (yB ?_))))))))))); refine zD rfl (fun h2 => ?_) (fun h2 => ?_)
  · refine yA (jb bt37 rfl (za (v := .slice _ _ _) rfl (jv 0 z37 rfl (yB (ze (zt (g_ret ((r_finM (.inl rfl) rfl (.tmp rfl rfl (.agg rfl rfl z37 (fun _ h => h.at_ 0 rfl) rfl .nil)) ?_))))))))); exact fun w' hw => ⟨[], by rw [readP_long (by omega)]; exact ⟨none, 0, rfl, Own.nil _ _⟩, .none (hw.f0)⟩
  refine zi (zk (yA (zm (v := str _) rfl (jb bt163 rfl (w_boxA rfl (fun p gp up => za (v := .pointer _) rfl (yC (zA zr137 (fun t5b gt5b ut5b => yC (zA zr37 (fun t6b gt6b ut6b => yB (zq (c_label (zk (zq (yA (mP rfl (w_callW (fun w => zR Tryz.func127 rfl rfl rfl) rfl rfl (fun w _ => all_spec p w) ?_))))))))))))))))))
  rintro u W0 ⟨vb, rfl, rfl⟩
  refine yB (zB (c_gen fun e he => ?_))
  have he3 : e 3 = pX t3b := congrFun he 3
  have he5 : e 5 = pX t5b := congrFun he 5
  have he6 : e 6 = pX t6b := congrFun he 6
  have he17 : e 17 = .func (.func 148) #[] #[pX vb] := congrFun he 17
  refine c_range (f := 148) (fi := []) (ca := [pX vb]) he17 rfl rfl rfl (fun r l fn w' => ∃ (g : Bool) (j : Nat) (Lc' : Heap), RdJ e fn r l t5b t6b g (readS s) Lc' ∧ St [(w, No)] ((vb, cel [pX p] 161) :: (p, cel [str s, .int .i64 (j : Nat)] 163) :: (Lc' ++ [(r, .deferred (some [])), (t3b, cel [.int .i64 0, .int .i64 0] 37)])) w') ?_ ?_
  · intro fn r l hr1 hr2 hl w1 hw1
    refine (all1_spec (RdJ e fn r l t5b t6b) readN readN_no l p vb s (by omega) (Read_round e fn r l t5b t6b he5 he6) w No ht (fun h => h) (Nat.le_trans hgs (up (w, No) zm0)) ([], 0, 0) (rdL t5b t6b l (.slice none 0 0) 0 0 (rdO e fn r true) []) [(r, .deferred (some [])), (t3b, cel [.int .i64 0, .int .i64 0] 37)] [(w, No)] zm0 ⟨none, 0, [], Own.nil _ _, Nat.zero_le _, fun _ => rfl, (fun h => by cases h), rfl⟩ w1 (hw1.pick [2, 5, 4, 3, 0, 1, 6] (by decide))).mono ?_
    rintro v w2 ⟨rfl, j, g, Lc', hJ, hs⟩
    exact ⟨g, j, Lc', hJ, hs⟩
  rintro fn r l hr1 hr2 hl w1 ⟨g, j, Lc', ⟨a0, c0, W, hO, h6, hg1, hg0, rfl⟩, hs⟩
  have hs2 := St.pickT [(vb, cel [pX p] 161), (p, cel [str s, .int .i64 (j : Nat)] 163), (t5b, cel [.slice a0 (readS s).1.length c0] 137), (t6b, cel [.int .i64 ((readS s).2.1 : Nat), .int .i64 ((readS s).2.2 : Nat)] 37), (l, rdO e fn r g), (r, .deferred (some [])), (t3b, cel [.int .i64 0, .int .i64 0] 37)] (hs.perm (.cons _ (.cons _ (.cons _ (.cons _ (.cons _ List.perm_append_comm)))))) [4, 2, 3, 5, 6] (by decide)
  cases g
  · have hz : (readS s).2.1 ≠ 0 := hg0 rfl
    refine ⟨_, _, .done, some (.exit 0), (fun h => by cases h), hs2, ?_⟩
    refine zX (b_here rfl (zk (zq (yA (zf fa37_0 he6 (jM 2 z35 rfl (jn rfl rfl (yB ?_)))))))); refine zD rfl (fun h6 => ?_) (fun h6 => ?_)
    · refine zq (c_tail 2 mixed (by kernel_rfl) (jy 2 z37 he6 rfl (za (v := .slice _ _ _) rfl (w_tailst 4 rfl z37 he3 rfl rfl rfl rfl rfl rfl (zk (ze (zt (g_ret ((r_finM1 3 rfl (.inl rfl) rfl (.tmp rfl rfl (.agg rfl he3 z37 (fun _ h => h.at_ 4 rfl) rfl .nil)) ?_)))))))))); exact fun w' hw => ⟨[], by rw [readP_bad (by omega) hz]; exact ⟨none, 0, rfl, Own.nil _ _⟩, .none (hw.f0)⟩
    exfalso; omega
  have hz : (readS s).2.1 = 0 := by rw [hg1 rfl]
  refine ⟨_, _, .ready, none, (fun h => by cases h), hs2, ?_⟩
  refine zO (zk (zq (yA (zf fa37_0 he6 (jM 2 z35 rfl (jn rfl rfl (yB ?_))))))); refine zD rfl (fun h7 => ?_) (fun h7 => ?_)
  · exfalso; omega
  refine zi (zk (yA (zL 1 z137 he5 rfl rfl (jb bt37 rfl (za (v := .slice _ _ _) rfl (ju 4 z37 he3 rfl rfl (yB (ze (g_ret ((r_finM1 3 rfl (.inl rfl) rfl (.tmp rfl rfl (.agg rfl he3 z37 (fun _ h => h.at_ 4 rfl) rfl .nil)) ?_))))))))))); exact fun w' hw => ⟨W, by rw [readP_fine (by omega) hz]; exact ⟨a0, c0, rfl, hO⟩, St.made (A := []) (hw.drop (.cons _ (.cons _ (.cons _ (.cons _ (.cons _ (List.Sublist.refl _)))))))⟩
end Go.Proofs.YtoehjlmdnajibaaGreatDoor
end
section
namespace Go.Sx
open Go.RowKit
def gvl (c : Bool) (v : Value) : Value := bif c then v else undef
theorem gvl_true (v : Value) : gvl true v = v := rfl
theorem gvl_false (v : Value) : gvl false v = undef := rfl
theorem gvl_t {c : Bool} {v : Value} (h : c = true) : gvl c v = v := by subst h; rfl
theorem gvl_and {c x : Bool} {v : Value} (h : c = true) : gvl (c && x) v = gvl x v := by subst h; rfl
theorem gr {a b : Bool} (h : (a && b) = true) : b = true := by cases a; cases h; exact h
theorem gl {a b : Bool} (h : (a && b) = true) : a = true := by cases a <;> first | rfl | cases h
section
variable {P : Program} {ops : Array Oper} {Q : Exit → Act → World → Prop} {c : Cf} {e : Env} {B : Base} {L : Heap} {rest : List Oper} {v : Value} {d : Nat} {q : Md} {op : Op} {T : TypeId} {p : String} {a : Array Edge} {j t : Nat} {x c0 : Bool}
theorem w_gT (hj : (ops[j]?).bind (·.dst) = some t) (ht : Nat.blt t c.n = true) (he : e t = .bool x) (hr : x = true → ∀ w, St B L w → Run P ⟨some d, op, T, p, a, none⟩ (ev c.n e) w v w) (hg : plainB ⟨some d, op, T, p, a, none⟩ = true)
    (h : WX q P ops c Q rest (upd e d (gvl x v)) B L) : WX q P ops c Q (⟨some d, op, T, p, a, some (j, true)⟩ :: rest) e B L := by
  cases x with
  | true => exact zw hj ht he (w_run (hr rfl) hg rfl h)
  | false => exact zs hj ht he h
theorem w_gF (hj : (ops[j]?).bind (·.dst) = some t) (ht : Nat.blt t c.n = true) (he : e t = .bool x) (hr : (!x) = true → ∀ w, St B L w → Run P ⟨some d, op, T, p, a, none⟩ (ev c.n e) w v w) (hg : plainB ⟨some d, op, T, p, a, none⟩ = true)
    (h : WX q P ops c Q rest (upd e d (gvl (!x) v)) B L) : WX q P ops c Q (⟨some d, op, T, p, a, some (j, false)⟩ :: rest) e B L := by
  cases x with
  | false => exact zw hj ht he (w_run (hr rfl) hg rfl h)
  | true => exact zs hj ht he h
theorem w_hT (hj : (ops[j]?).bind (·.dst) = some t) (ht : Nat.blt t c.n = true) (he : e t = gvl c0 (.bool x)) (hr : (c0 && x) = true → ∀ w, St B L w → Run P ⟨some d, op, T, p, a, none⟩ (ev c.n e) w v w) (hg : plainB ⟨some d, op, T, p, a, none⟩ = true)
    (h : WX q P ops c Q rest (upd e d (gvl (c0 && x) v)) B L) : WX q P ops c Q (⟨some d, op, T, p, a, some (j, true)⟩ :: rest) e B L := by
  cases c0 with
  | true => exact w_gT hj ht he hr hg h
  | false => exact zU hj ht he h
theorem w_hF (hj : (ops[j]?).bind (·.dst) = some t) (ht : Nat.blt t c.n = true) (he : e t = gvl c0 (.bool x)) (hr : (c0 && !x) = true → ∀ w, St B L w → Run P ⟨some d, op, T, p, a, none⟩ (ev c.n e) w v w) (hg : plainB ⟨some d, op, T, p, a, none⟩ = true)
    (h : WX q P ops c Q rest (upd e d (gvl (c0 && !x) v)) B L) : WX q P ops c Q (⟨some d, op, T, p, a, some (j, false)⟩ :: rest) e B L := by
  cases c0 with
  | true => exact w_gF hj ht he hr hg h
  | false => exact zU hj ht he h
theorem gTx (hb : ((ops[j]?).bind (·.dst), e t) = (some t, Value.bool x)) (hr : x = true → ∀ w, St B L w → Run P ⟨some d, op, T, p, a, none⟩ (ev c.n e) w v w) (hg : plainB ⟨some d, op, T, p, a, none⟩ = true)
    (h : WX q P ops c Q rest (upd e d (gvl x v)) B L) (ht : Nat.blt t c.n = true := by rfl) : WX q P ops c Q (⟨some d, op, T, p, a, some (j, true)⟩ :: rest) e B L := by
  simp only [Prod.mk.injEq] at hb
  exact w_gT hb.1 ht hb.2 hr hg h
theorem gFx (hb : ((ops[j]?).bind (·.dst), e t) = (some t, Value.bool x)) (hr : (!x) = true → ∀ w, St B L w → Run P ⟨some d, op, T, p, a, none⟩ (ev c.n e) w v w) (hg : plainB ⟨some d, op, T, p, a, none⟩ = true)
    (h : WX q P ops c Q rest (upd e d (gvl (!x) v)) B L) (ht : Nat.blt t c.n = true := by rfl) : WX q P ops c Q (⟨some d, op, T, p, a, some (j, false)⟩ :: rest) e B L := by
  simp only [Prod.mk.injEq] at hb
  exact w_gF hb.1 ht hb.2 hr hg h
theorem hTx (hb : ((ops[j]?).bind (·.dst), e t) = (some t, gvl c0 (.bool x))) (hr : (c0 && x) = true → ∀ w, St B L w → Run P ⟨some d, op, T, p, a, none⟩ (ev c.n e) w v w) (hg : plainB ⟨some d, op, T, p, a, none⟩ = true)
    (h : WX q P ops c Q rest (upd e d (gvl (c0 && x) v)) B L) (ht : Nat.blt t c.n = true := by rfl) : WX q P ops c Q (⟨some d, op, T, p, a, some (j, true)⟩ :: rest) e B L := by
  simp only [Prod.mk.injEq] at hb
  exact w_hT hb.1 ht hb.2 hr hg h
theorem hFx (hb : ((ops[j]?).bind (·.dst), e t) = (some t, gvl c0 (.bool x))) (hr : (c0 && !x) = true → ∀ w, St B L w → Run P ⟨some d, op, T, p, a, none⟩ (ev c.n e) w v w) (hg : plainB ⟨some d, op, T, p, a, none⟩ = true)
    (h : WX q P ops c Q rest (upd e d (gvl (c0 && !x) v)) B L) (ht : Nat.blt t c.n = true := by rfl) : WX q P ops c Q (⟨some d, op, T, p, a, some (j, false)⟩ :: rest) e B L := by
  simp only [Prod.mk.injEq] at hb
  exact w_hF hb.1 ht hb.2 hr hg h
variable {f : FuncId} {args : Array Value}
theorem w_cT (hj : (ops[j]?).bind (·.dst) = some t) (ht : Nat.blt t c.n = true) (he : e t = .bool x) (hr : x = true → ∀ w, RunE P ⟨some d, op, T, p, a, none⟩ (ev c.n e) w f args) (hg : plainB ⟨some d, op, T, p, a, none⟩ = true) (hc : x = true → ∀ w, St B L w → Ret P f args w fun u w' => u = v ∧ Ext w w')
    (h : WX q P ops c Q rest (upd e d (gvl x v)) B L) (hq : q.callsB = true := by rfl) : WX q P ops c Q (⟨some d, op, T, p, a, some (j, true)⟩ :: rest) e B L := by
  cases x with
  | true => exact zw hj ht he (zC (hr rfl) hg rfl (hc rfl) h hq)
  | false => exact zs hj ht he h
theorem w_cF (hj : (ops[j]?).bind (·.dst) = some t) (ht : Nat.blt t c.n = true) (he : e t = .bool x) (hr : (!x) = true → ∀ w, RunE P ⟨some d, op, T, p, a, none⟩ (ev c.n e) w f args) (hg : plainB ⟨some d, op, T, p, a, none⟩ = true) (hc : (!x) = true → ∀ w, St B L w → Ret P f args w fun u w' => u = v ∧ Ext w w')
    (h : WX q P ops c Q rest (upd e d (gvl (!x) v)) B L) (hq : q.callsB = true := by rfl) : WX q P ops c Q (⟨some d, op, T, p, a, some (j, false)⟩ :: rest) e B L := by
  cases x with
  | false => exact zw hj ht he (zC (hr rfl) hg rfl (hc rfl) h hq)
  | true => exact zs hj ht he h
theorem w_dT (hj : (ops[j]?).bind (·.dst) = some t) (ht : Nat.blt t c.n = true) (he : e t = gvl c0 (.bool x)) (hr : (c0 && x) = true → ∀ w, RunE P ⟨some d, op, T, p, a, none⟩ (ev c.n e) w f args) (hg : plainB ⟨some d, op, T, p, a, none⟩ = true) (hc : (c0 && x) = true → ∀ w, St B L w → Ret P f args w fun u w' => u = v ∧ Ext w w')
    (h : WX q P ops c Q rest (upd e d (gvl (c0 && x) v)) B L) (hq : q.callsB = true := by rfl) : WX q P ops c Q (⟨some d, op, T, p, a, some (j, true)⟩ :: rest) e B L := by
  cases c0 with
  | true => exact w_cT hj ht he hr hg hc h hq
  | false => exact zU hj ht he h
theorem w_dF (hj : (ops[j]?).bind (·.dst) = some t) (ht : Nat.blt t c.n = true) (he : e t = gvl c0 (.bool x)) (hr : (c0 && !x) = true → ∀ w, RunE P ⟨some d, op, T, p, a, none⟩ (ev c.n e) w f args) (hg : plainB ⟨some d, op, T, p, a, none⟩ = true) (hc : (c0 && !x) = true → ∀ w, St B L w → Ret P f args w fun u w' => u = v ∧ Ext w w')
    (h : WX q P ops c Q rest (upd e d (gvl (c0 && !x) v)) B L) (hq : q.callsB = true := by rfl) : WX q P ops c Q (⟨some d, op, T, p, a, some (j, false)⟩ :: rest) e B L := by
  cases c0 with
  | true => exact w_cF hj ht he hr hg hc h hq
  | false => exact zU hj ht he h
end
section
variable {P : Program} {ρ : Operand → Value} {w : World} {D : Option Tmp} {T : TypeId} {p : String} {ed : Array Edge} {g : Option (Nat × Bool)} {x y : Operand} {a b : Bool}
theorem R_pickO (hx : ρ x = .bool a) (hy : ρ y = gvl (!a) (.bool b)) (h1 : ρ (.const (.bool true)) = .bool true) : Run P ⟨D, .pick x (.const (.bool true)) y, T, p, ed, g⟩ ρ w (.bool (a || b)) w := by
  cases a with
  | true => exact zT hx h1
  | false => exact zF hx hy
theorem R_sidxD {t : TypeId} {a : List UInt8} {k : IntKind} {i : Nat} (hu : strB P t = true) (hx : ρ x = str a) (hy : ρ y = .int k (i : Nat)) (h1 : i < a.length) : Run P ⟨D, .index t x y, T, p, ed, g⟩ ρ w (.int .u8 ((a.getD i 0).toNat : Nat)) w := by
  have h := R_sidx (P := P) (D := D) (ty := T) (pos := p) (aft := ed) (g := g) (w := w) hu hx hy (by omega) (show ((i : Nat) : Int).toNat < a.length by simpa using h1)
  have e : (a.getD i 0).toNat = (a[((i : Nat) : Int).toNat]'(by simpa using h1)).toNat := by
    rw [List.getD_eq_getElem?_getD, List.getElem?_eq_getElem h1]; rfl
  rw [e]; exact h
theorem R_pickA (hx : ρ x = .bool a) (hy : ρ y = gvl a (.bool b)) (h1 : ρ (.const (.bool false)) = .bool false) : Run P ⟨D, .pick x y (.const (.bool false)), T, p, ed, g⟩ ρ w (.bool (a && b)) w := by
  cases a with
  | true => exact zT hx hy
  | false => exact zF hx h1
end
end Go.Sx
namespace Go.Sx
theorem arr1 {a a' : Value} (h : a = a') : (#[a] : Array Value) = #[a'] := by rw [h]
theorem arr2 {a a' b b' : Value} (h : a = a') (h2 : b = b') : (#[a, b] : Array Value) = #[a', b'] := by rw [h, h2]
theorem arr3 {a a' b b' c c' : Value} (h : a = a') (h2 : b = b') (h3 : c = c') : (#[a, b, c] : Array Value) = #[a', b', c'] := by rw [h, h2, h3]
theorem runE_as {P : Program} {o : Oper} {f : FuncId} {args args' : Array Value} {ρ : Operand → Value} {w : World} (h : RunE P o ρ w f args) (he : args = args') : RunE P o ρ w f args' := he ▸ h
end Go.Sx
attribute [irreducible] Go.Sx.gvl
end
section
namespace Go.Proofs.YtoehjlmdnajibaaGreatDoor
open Go.RowKit Go.Sx
open Go.Tok
theorem two_at {k : Nat} (h : k < 5) : ([str [61, 61], str [33, 61], str [60, 61], str [62, 61], str [43, 61]] : List Value)[0 + k * 1]? = some (str (signsL.getD k [])) := by
  match k, h with
  | 0, _ => rfl
  | 1, _ => rfl
  | 2, _ => rfl
  | 3, _ => rfl
  | 4, _ => rfl
theorem rdigit_spec (s : List UInt8) (i : Nat) (hs : s.length ≤ 10000000) (hi : i ≤ 20000000) (w : World) :
    Ret Tryz.prog 124 #[str s, .int .i64 (i : Nat)] w (fun v w' => v = .bool (atP digitB s i) ∧ Ext w w') := by
  refine enter (S := No) (l := [_, _]) (L := []) 21 Tryz.func124 rfl rfl rfl (St.start w No) (yA (aB rfl (yC (mI rfl (zm (v := str _) rfl (zg (fun _ => R_slen st9 rfl (by omega)) (jl rfl rfl (mB rfl (w_gT (v := str _) rfl rfl rfl (fun hc w h => R_move rfl) rfl (w_gT (v := .int _ _) rfl rfl rfl (fun hc w h => R_move rfl) rfl (gTx rfl (fun hc w h => R_sidxD st9 (gvl_t hc) (gvl_t hc) (by have h9 := hc; simp only [Bool.and_eq_true, decide_eq_true_eq, Bool.not_eq_true', decide_eq_false_iff_not] at h9; omega)) rfl (gTx rfl (fun hc w h => R_ge (gvl_t hc) rfl) rfl (zg (v := .bool _) (fun _ => R_pickA rfl rfl rfl) (mB rfl (w_gT (v := str _) rfl rfl rfl (fun hc w h => R_move rfl) rfl (w_gT (v := .int _ _) rfl rfl rfl (fun hc w h => R_move rfl) rfl (gTx rfl (fun hc w h => R_sidxD st9 (gvl_t hc) (gvl_t hc) (by have h9 := hc; simp only [Bool.and_eq_true, decide_eq_true_eq, Bool.not_eq_true', decide_eq_false_iff_not] at h9; omega)) rfl (gTx rfl (fun hc w h => R_le (gvl_t hc) rfl) rfl (zg (v := .bool _) (fun _ => R_pickA rfl rfl rfl) (aB rfl (yB (ze (zo (v := .bool _) rfl rfl rfl ?_)))))))))))))))))))))))
  exact fun w' hw => ⟨congrArg Value.bool (by by_cases hl : i < s.length; exact (by rw [atP_in hl, digit_int, decide_eq_true (show (i : Int) < (s.length : Int) by omega), List.getD_eq_getElem?_getD, List.getElem?_eq_getElem hl]; rfl); exact (by rw [atP_out (by omega), decide_eq_false (show ¬ (i : Int) < (s.length : Int) by omega)]; rfl)), hw.f0⟩
theorem rletter_spec (s : List UInt8) (i : Nat) (hs : s.length ≤ 10000000) (hi : i ≤ 20000000) (w : World) :
    Ret Tryz.prog 123 #[str s, .int .i64 (i : Nat)] w (fun v w' => v = .bool (atP letterB s i) ∧ Ext w w') := by
  refine enter (S := No) (l := [_, _]) (L := []) 39 Tryz.func123 rfl rfl rfl (St.start w No) (yA (aB rfl (yC (mI rfl (zm (v := str _) rfl (zg (fun _ => R_slen st9 rfl (by omega)) (jl rfl rfl (mB rfl (w_gT (v := str _) rfl rfl rfl (fun hc w h => R_move rfl) rfl (w_gT (v := .int _ _) rfl rfl rfl (fun hc w h => R_move rfl) rfl (gTx rfl (fun hc w h => R_sidxD st9 (gvl_t hc) (gvl_t hc) (by have h9 := hc; simp only [Bool.and_eq_true, decide_eq_true_eq, Bool.not_eq_true', decide_eq_false_iff_not] at h9; omega)) rfl (gTx rfl (fun hc w h => R_ge (gvl_t hc) rfl) rfl (gTx (v := .bool _) rfl (fun hc w h => R_move (gvl_t hc)) rfl (w_hT (v := str _) rfl rfl rfl (fun hc w h => R_move rfl) rfl (w_hT (v := .int _ _) rfl rfl rfl (fun hc w h => R_move rfl) rfl (hTx rfl (fun hc w h => R_sidxD st9 (gvl_t hc) (gvl_t hc) (by have h9 := hc; simp only [Bool.and_eq_true, decide_eq_true_eq, Bool.not_eq_true', decide_eq_false_iff_not] at h9; omega)) rfl (hTx rfl (fun hc w h => R_le (gvl_t hc) rfl) rfl (gTx (v := .bool _) rfl (fun hc w h => R_pickA (gvl_t hc) (gvl_and hc) rfl) rfl (gTx (v := .bool _) rfl (fun hc w h => R_move (gvl_t hc)) rfl (w_hF (v := str _) rfl rfl rfl (fun hc w h => R_move rfl) rfl (w_hF (v := .int _ _) rfl rfl rfl (fun hc w h => R_move rfl) rfl (hFx rfl (fun hc w h => R_sidxD st9 (gvl_t hc) (gvl_t hc) (by have h9 := hc; simp only [Bool.and_eq_true, decide_eq_true_eq, Bool.not_eq_true', decide_eq_false_iff_not] at h9; omega)) rfl (hFx rfl (fun hc w h => R_ge (gvl_t hc) rfl) rfl (hFx (v := .bool _) rfl (fun hc w h => R_move (gvl_t hc)) rfl (w_hT (v := str _) rfl rfl rfl (fun hc w h => R_move rfl) rfl (w_hT (v := .int _ _) rfl rfl rfl (fun hc w h => R_move rfl) rfl (hTx rfl (fun hc w h => R_sidxD st9 (gvl_t hc) (gvl_t hc) (by have h9 := hc; simp only [Bool.and_eq_true, decide_eq_true_eq, Bool.not_eq_true', decide_eq_false_iff_not] at h9; omega)) rfl (hTx rfl (fun hc w h => R_le (gvl_t hc) rfl) rfl (hFx (v := .bool _) rfl (fun hc w h => R_pickA (gvl_t hc) (gvl_and hc) rfl) rfl (gTx (v := .bool _) rfl (fun hc w h => R_pickO (gvl_t hc) (gvl_and hc) rfl) rfl (gTx (v := .bool _) rfl (fun hc w h => R_move (gvl_t hc)) rfl (w_hF (v := str _) rfl rfl rfl (fun hc w h => R_move rfl) rfl (w_hF (v := .int _ _) rfl rfl rfl (fun hc w h => R_move rfl) rfl (hFx rfl (fun hc w h => R_sidxD st9 (gvl_t hc) (gvl_t hc) (by have h9 := hc; simp only [Bool.and_eq_true, decide_eq_true_eq, Bool.not_eq_true', decide_eq_false_iff_not] at h9; omega)) rfl (hFx rfl (fun hc w h => R_eq (gvl_t hc) rfl) rfl (gTx (v := .bool _) rfl (fun hc w h => R_pickO (gvl_t hc) (gvl_and hc) rfl) rfl (zg (v := .bool _) (fun _ => R_pickA rfl rfl rfl) (aB rfl (yB ?_)))))))))))))))))))))))))))))))))))))))
  refine ze (zo (v := .bool _) rfl rfl rfl ?_); exact fun w' hw => ⟨congrArg Value.bool (by by_cases hl : i < s.length; exact (by rw [atP_in hl, letter_int, decide_eq_true (show (i : Int) < (s.length : Int) by omega), List.getD_eq_getElem?_getD, List.getElem?_eq_getElem hl]; rfl); exact (by rw [atP_out (by omega), decide_eq_false (show ¬ (i : Int) < (s.length : Int) by omega)]; rfl)), hw.f0⟩
theorem rblank_spec (s : List UInt8) (i : Nat) (hs : s.length ≤ 10000000) (hi : i ≤ 20000000) (w : World) :
    Ret Tryz.prog 145 #[str s, .int .i64 (i : Nat)] w (fun v w' => v = .bool (atP blankB s i) ∧ Ext w w') := by
  refine enter (S := No) (l := [_, _]) (L := []) 33 Tryz.func145 rfl rfl rfl (St.start w No) (yA (aB rfl (yC (mI rfl (zm (v := str _) rfl (zg (fun _ => R_slen st9 rfl (by omega)) (jl rfl rfl (mB rfl (w_gT (v := str _) rfl rfl rfl (fun hc w h => R_move rfl) rfl (w_gT (v := .int _ _) rfl rfl rfl (fun hc w h => R_move rfl) rfl (gTx rfl (fun hc w h => R_sidxD st9 (gvl_t hc) (gvl_t hc) (by have h9 := hc; simp only [Bool.and_eq_true, decide_eq_true_eq, Bool.not_eq_true', decide_eq_false_iff_not] at h9; omega)) rfl (gTx rfl (fun hc w h => R_eq (gvl_t hc) rfl) rfl (gTx (v := .bool _) rfl (fun hc w h => R_move (gvl_t hc)) rfl (w_hF (v := str _) rfl rfl rfl (fun hc w h => R_move rfl) rfl (w_hF (v := .int _ _) rfl rfl rfl (fun hc w h => R_move rfl) rfl (hFx rfl (fun hc w h => R_sidxD st9 (gvl_t hc) (gvl_t hc) (by have h9 := hc; simp only [Bool.and_eq_true, decide_eq_true_eq, Bool.not_eq_true', decide_eq_false_iff_not] at h9; omega)) rfl (hFx rfl (fun hc w h => R_eq (gvl_t hc) rfl) rfl (gTx (v := .bool _) rfl (fun hc w h => R_pickO (gvl_t hc) (gvl_and hc) rfl) rfl (gTx (v := .bool _) rfl (fun hc w h => R_move (gvl_t hc)) rfl (w_hF (v := str _) rfl rfl rfl (fun hc w h => R_move rfl) rfl (w_hF (v := .int _ _) rfl rfl rfl (fun hc w h => R_move rfl) rfl (hFx rfl (fun hc w h => R_sidxD st9 (gvl_t hc) (gvl_t hc) (by have h9 := hc; simp only [Bool.and_eq_true, decide_eq_true_eq, Bool.not_eq_true', decide_eq_false_iff_not] at h9; omega)) rfl (hFx rfl (fun hc w h => R_eq (gvl_t hc) rfl) rfl (gTx (v := .bool _) rfl (fun hc w h => R_pickO (gvl_t hc) (gvl_and hc) rfl) rfl (gTx (v := .bool _) rfl (fun hc w h => R_move (gvl_t hc)) rfl (w_hF (v := str _) rfl rfl rfl (fun hc w h => R_move rfl) rfl (w_hF (v := .int _ _) rfl rfl rfl (fun hc w h => R_move rfl) rfl (hFx rfl (fun hc w h => R_sidxD st9 (gvl_t hc) (gvl_t hc) (by have h9 := hc; simp only [Bool.and_eq_true, decide_eq_true_eq, Bool.not_eq_true', decide_eq_false_iff_not] at h9; omega)) rfl (hFx rfl (fun hc w h => R_eq (gvl_t hc) rfl) rfl (gTx (v := .bool _) rfl (fun hc w h => R_pickO (gvl_t hc) (gvl_and hc) rfl) rfl (zg (v := .bool _) (fun _ => R_pickA rfl rfl rfl) (aB rfl (yB (ze (zo (v := .bool _) rfl rfl rfl ?_))))))))))))))))))))))))))))))))))); exact fun w' hw => ⟨congrArg Value.bool (by by_cases hl : i < s.length; exact (by rw [atP_in hl, blank_int, decide_eq_true (show (i : Int) < (s.length : Int) by omega), List.getD_eq_getElem?_getD, List.getElem?_eq_getElem hl]; rfl); exact (by rw [atP_out (by omega), decide_eq_false (show ¬ (i : Int) < (s.length : Int) by omega)]; rfl)), hw.f0⟩
theorem ris_spec (s : List UInt8) (i : Nat) (b : UInt8) (hs : s.length ≤ 10000000) (hi : i ≤ 20000000) (w : World) :
    Ret Tryz.prog 146 #[str s, .int .i64 (i : Nat), .int .u8 (b.toNat : Nat)] w (fun v w' => v = .bool (atP (eqB b) s i) ∧ Ext w w') := by
  refine enter (S := No) (l := [_, _, _]) (L := []) 18 Tryz.func146 rfl rfl rfl (St.start w No) (yA (aB rfl (yC (mI rfl (zm (v := str _) rfl (zg (fun _ => R_slen st9 rfl (by omega)) (jl rfl rfl (mB rfl (w_gT (v := str _) rfl rfl rfl (fun hc w h => R_move rfl) rfl (w_gT (v := .int _ _) rfl rfl rfl (fun hc w h => R_move rfl) rfl (gTx rfl (fun hc w h => R_sidxD st9 (gvl_t hc) (gvl_t hc) (by have h9 := hc; simp only [Bool.and_eq_true, decide_eq_true_eq, Bool.not_eq_true', decide_eq_false_iff_not] at h9; omega)) rfl (w_gT (v := .int _ _) rfl rfl rfl (fun hc w h => R_move rfl) rfl (gTx rfl (fun hc w h => R_eq (gvl_t hc) (gvl_t hc)) rfl (zg (v := .bool _) (fun _ => R_pickA rfl rfl rfl) (aB rfl (yB (ze (zo (v := .bool _) rfl rfl rfl ?_)))))))))))))))))); exact fun w' hw => ⟨congrArg Value.bool (by by_cases hl : i < s.length; exact (by rw [atP_in hl, eq_int, decide_eq_true (show (i : Int) < (s.length : Int) by omega), List.getD_eq_getElem?_getD, List.getElem?_eq_getElem hl]; rfl); exact (by rw [atP_out (by omega), decide_eq_false (show ¬ (i : Int) < (s.length : Int) by omega)]; rfl)), hw.f0⟩
theorem rdigits_spec (s : List UInt8) (i : Nat) (hs : s.length ≤ 10000000) (hi : i ≤ s.length) (w : World) :
    Ret Tryz.prog 147 #[str s, .int .i64 (i : Nat)] w (fun v w' => v = .int .i64 (runTo digitB s i : Nat) ∧ Ext w w') := by
  refine enter (S := No) (l := [_, _]) (L := []) 11 Tryz.func147 rfl rfl rfl (St.start w No) (yA (aI rfl (yB (zq (zB (c_loop (fun m e B L => ∃ (k : Nat), e 0 = str s ∧ e 1 = .int .i64 (k : Nat) ∧ B = [(w, No)] ∧ L = [] ∧ k ≤ s.length ∧ runTo digitB s k = runTo digitB s i ∧ m = s.length - k) _ ⟨i, rfl, rfl, rfl, rfl, hi, rfl, rfl⟩ ?_))))))
  rintro m e B L ⟨k, e0_1, e1_1, rfl, rfl, hk, hr, rfl⟩
  refine zq (yA (zm (v := str _) e0_1 (mI e1_1 (jD Tryz.func124 (fun w h => rdigit_spec s k hs (by omega) w) (yB ?_))))); refine c_cond rfl (fun h1 => ?_) (fun h1 => ?_)
  · refine zi (zk (zB (zr (mI e1_1 (ji rfl rfl (by omega) (aI rfl (zn (zO (?_)))))))))
    have hl := atP_lt h1
    exact k_again _ (by omega) ⟨k + 1, e0_1, rfl, rfl, rfl, by omega, by rw [← hr, runTo_step h1], rfl⟩
  refine zX (zx (zx (b_here rfl (zk (yA (mI e1_1 (aI rfl (yB (ze (zo (v := .int _ _) rfl rfl rfl ?_)))))))))); exact fun w' hw => ⟨by rw [← hr, runTo_stop h1], hw.f0⟩
theorem rskip_spec (s : List UInt8) (i : Nat) (hs : s.length ≤ 10000000) (hi : i ≤ s.length) (w : World) :
    Ret Tryz.prog 122 #[str s, .int .i64 (i : Nat)] w (fun v w' => v = .int .i64 (skipTo s i : Nat) ∧ Ext w w') := by
  refine enter (S := No) (l := [_, _]) (L := []) 34 Tryz.func122 rfl rfl rfl (St.start w No) (yA (aI rfl (yB (zB (c_loop (fun m e B L => ∃ (k : Nat), e 0 = str s ∧ e 1 = .int .i64 (k : Nat) ∧ B = [(w, No)] ∧ L = [] ∧ k ≤ s.length ∧ skipTo s k = skipTo s i ∧ m = s.length - k) _ ⟨i, rfl, rfl, rfl, rfl, hi, rfl, rfl⟩ ?_)))))
  rintro m e B L ⟨k, e0_1, e1_1, rfl, rfl, hk, hr, rfl⟩
  refine zB (zq (yA (zm (v := str _) e0_1 (mI e1_1 (jD Tryz.func145 (fun w h => rblank_spec s k hs (by omega) w) (yB ?_)))))); refine c_cond rfl (fun h1 => ?_) (fun h1 => ?_)
  · refine yA (mI e1_1 (ji rfl rfl (by omega) (aI rfl (yB (zX (zx (b_here rfl (?_))))))))
    have hl := atP_lt h1
    exact k_again _ (by omega) ⟨k + 1, e0_1, rfl, rfl, rfl, by omega, by rw [← hr, skip_blank hl h1], rfl⟩
  refine zi (zk (zq (yA (zm (v := str _) e0_1 (mI e1_1 (jD Tryz.func146 (fun w h => ris_spec s k 47 hs (by omega) w) (jk rfl (mB rfl ?_)))))))); refine zp (t := 14) rfl (fun h2 => ?_) (fun h2 => ?_)
  · refine zs rfl rfl (bV h2) (zs rfl rfl (bV h2) (zs rfl rfl (bV h2) (zs rfl rfl (bV h2) (zs rfl rfl (bV h2) (jT (bV h2) rfl (yB (zE rfl (yA (mI e1_1 (aI rfl (yB (ze (zt (zb (zt (zb ((zo (v := .int _ _) rfl rfl rfl ?_)))))))))))))))))); exact fun w' hw => ⟨by rw [← hr, skip_stop hk (by simpa using h1) (by simp_all [cmt])], hw.f0⟩
  refine zw rfl rfl (bV h2) (zm (v := str _) e0_1 (zw rfl rfl (bV h2) (mI e1_1 (zw rfl rfl (bV h2) (ji rfl rfl (by omega) (zw rfl rfl (bV h2) (jD Tryz.func146 (fun w h => ris_spec s (k + 1) 47 hs (by omega) w) (zw rfl rfl (bV h2) (jk rfl (jF (bV h2) rfl (yB ?_))))))))))); refine c_condN rfl (fun h3 => ?_) (fun h3 => ?_)
  · refine yA (mI e1_1 (aI rfl (yB (ze (zt (zb (zt (zb ((zo (v := .int _ _) rfl rfl rfl ?_)))))))))); exact fun w' hw => ⟨by rw [← hr, skip_stop hk (by simpa using h1) (by simp_all [cmt])], hw.f0⟩
  refine zi (zk (zB ?_)); refine c_loop (fun m e B L => ∃ (q : Nat), e 0 = str s ∧ e 1 = .int .i64 (q : Nat) ∧ B = [(w, No)] ∧ L = [] ∧ k ≤ q ∧ q ≤ s.length ∧ runTo notNl s q = runTo notNl s k ∧ m = s.length - q) _ ⟨k, e0_1, e1_1, rfl, rfl, by omega, hk, rfl, rfl⟩ ?_
  rintro m e B L ⟨q, e0_2, e1_2, rfl, rfl, hkq, hq, hn, rfl⟩
  refine zq (yA (mI e1_2 (zm (v := str _) e0_2 (zg (fun _ => R_slen st9 rfl (by omega)) (jl rfl rfl (mB rfl ?_)))))); refine zd (t := 26) rfl (fun h4 => ?_) (fun h4 => ?_)
  · refine zw rfl rfl (bT h4) (zm (v := str _) e0_2 (zw rfl rfl (bT h4) (mI e1_2 (zw rfl rfl (bT h4) (w_sidx st9 rfl rfl (by omega) (zw rfl rfl (bT h4) (jn rfl rfl (jT (bT h4) rfl (yB ?_))))))))); refine zD rfl (fun h5 => ?_) (fun h5 => ?_)
    · refine zi (zk (zB (zr (mI e1_2 (ji rfl rfl (by omega) (aI rfl (zn (zO (?_)))))))))
      exact k_again _ (by omega) ⟨q + 1, e0_2, rfl, rfl, rfl, by omega, by omega, by rw [← hn, runTo_step (show atP notNl s q = true by rw [atP_in (by omega), notNl_int]; simp; omega)], rfl⟩
    refine zX (zx (zx (b_here rfl (zO (?_)))))
    have hc : cmt s k = true := by simp_all [cmt]
    have hc2 := cmt_run hc
    have hx : atP notNl s q = false := by rw [atP_in (by omega), notNl_int]; simp; omega
    rw [runTo_stop hx] at hn
    exact k_again _ (by omega) ⟨q, e0_2, e1_2, rfl, rfl, by omega, by rw [← hr, skip_cmt hk (by simpa using h1) hc, ← hn], rfl⟩
  refine zs rfl rfl (bF h4) (zs rfl rfl (bF h4) (zs rfl rfl (bF h4) (zs rfl rfl (bF h4) (jF (bF h4) rfl (yB (zG rfl (zX (zx (zx (b_here rfl (zO (?_))))))))))))
  have hc : cmt s k = true := by simp_all [cmt]
  have hc2 := cmt_run hc
  have hx : atP notNl s q = false := atP_out (by omega)
  rw [runTo_stop hx] at hn
  exact k_again _ (by omega) ⟨q, e0_2, e1_2, rfl, rfl, by omega, by rw [← hr, skip_cmt hk (by simpa using h1) hc, ← hn], rfl⟩
theorem numT_1 {s : List UInt8} {D : Nat} (h : (atP (eqB 101) s D && atP digitB s (D + 1)) = true) : numTens s D = (runTo digitB s (D + 1) - (D + 1), runTo digitB s (D + 1)) := by unfold numTens; rw [if_pos h]
theorem numT_2 {s : List UInt8} {D : Nat} (h1 : (atP (eqB 101) s D && atP digitB s (D + 1)) = false) (h2 : (atP (eqB 101) s D && (atP (eqB 43) s (D + 1) || atP (eqB 45) s (D + 1)) && atP digitB s (D + 2)) = true) : numTens s D = (runTo digitB s (D + 2) - (D + 2), runTo digitB s (D + 2)) := by
  unfold numTens; rw [if_neg (by rw [h1]; exact Bool.false_ne_true), at_pm, ← Bool.and_assoc, if_pos h2]
theorem numT_0 {s : List UInt8} {D : Nat} (h1 : (atP (eqB 101) s D && atP digitB s (D + 1)) = false) (h2 : (atP (eqB 101) s D && (atP (eqB 43) s (D + 1) || atP (eqB 45) s (D + 1)) && atP digitB s (D + 2)) = false) : numTens s D = (0, D) := by
  unfold numTens; rw [if_neg (by rw [h1]; exact Bool.false_ne_true), at_pm, ← Bool.and_assoc, if_neg (by rw [h2]; exact Bool.false_ne_true)]
theorem rnumber_spec (s : List UInt8) (i : Nat) (hs : s.length ≤ 10000000) (hi : i ≤ s.length) (w : World) :
    Ret Tryz.prog 125 #[str s, .int .i64 (i : Nat)] w (fun v w' => v = .tuple #[.int .i64 (numEnd s i : Nat), .bool (numFine s i)] ∧ Ext w w') := by
  have g1 := runTo_le (p := digitB) hi
  have g2 := numDot_le g1
  have g3 := numTens_le g2.1
  have g0 : numEnd s i = (numTens s (numDot s (runTo digitB s i))).2 := rfl
  refine enter (S := No) (l := [_, _]) (L := []) 87 Tryz.func125 rfl rfl rfl (St.start w No) (yA (aI rfl (aB rfl (yC (zm (v := str _) rfl (mI rfl ?_))))))
  have q1 := runTo_le (p := digitB) (s := s) (i := i) (by omega)
  have q2 := runTo_ge digitB s i
  refine jD Tryz.func147 (fun w h => rdigits_spec s i hs (by omega) w) (aI rfl (yB ?_)); refine c_cut (fun e B L => e 0 = str s ∧ e 1 = .int .i64 (numDot s (runTo digitB s i) : Nat) ∧ B = [(w, No)] ∧ L = []) ?_ ?_
  · refine yA (zm (v := str _) rfl (mI rfl (jD Tryz.func146 (fun w h => ris_spec s (runTo digitB s i) 46 hs (by omega) w) (mB rfl (w_gT (v := str _) rfl rfl rfl (fun hc w h => R_move rfl) rfl (w_gT (v := .int _ _) rfl rfl rfl (fun hc w h => R_move rfl) rfl (gTx rfl (fun hc w h => R_addi (gvl_t hc) rfl (by omega)) rfl (w_cT rfl rfl rfl (fun hc w => runE_as (zR Tryz.func124 rfl rfl rfl) (arr2 (gvl_t hc) (gvl_t hc))) rfl (fun hc w h => rdigit_spec s ((runTo digitB s i) + 1) hs (by omega) w) (zg (v := .bool _) (fun _ => R_pickA rfl rfl rfl) (yB ?_)))))))))); refine c_cond rfl (fun h1 => ?_) (fun h1 => ?_)
    · refine zr (zm (v := str _) rfl (mI rfl (ji rfl rfl (by omega) ?_)))
      have q1 := runTo_le (p := digitB) (s := s) (i := ((runTo digitB s i) + 1)) (by (have := atP_lt (gr (by assumption)); omega))
      have q2 := runTo_ge digitB s ((runTo digitB s i) + 1)
      refine jD Tryz.func147 (fun w h => rdigits_spec s ((runTo digitB s i) + 1) hs (by omega) w) (aI rfl (zn ?_))
      have hd : numDot s (runTo digitB s i) = runTo digitB s (runTo digitB s i + 1) := by simp [numDot, h1]
      exact k_mid ⟨rfl, by rw [hd]; rfl, rfl, rfl⟩
    refine zi ?_
    have hd : numDot s (runTo digitB s i) = runTo digitB s i := by simp [numDot, h1]
    exact k_mid ⟨rfl, by rw [hd]; rfl, rfl, rfl⟩
  rintro e B L ⟨e0_1, e1_1, rfl, rfl⟩
  refine yA (mI e1_1 (aI rfl (yB ?_))); refine c_cut (fun e B L => ∃ (q : Nat), e 0 = str s ∧ e 1 = .int .i64 (numEnd s i : Nat) ∧ e 6 = .int .i64 (q : Nat) ∧ B = [(w, No)] ∧ L = [] ∧ q ≤ numEnd s i ∧ (numTens s (numDot s (runTo digitB s i))).1 = numEnd s i - q) ?_ ?_
  · refine yA (zm (v := str _) e0_1 (mI e1_1 (jD Tryz.func146 (fun w h => ris_spec s (numDot s (runTo digitB s i)) 101 hs (by omega) w) (mB rfl (w_gT (v := str _) rfl rfl rfl (fun hc w h => R_move e0_1) rfl (w_gT (v := .int _ _) rfl rfl rfl (fun hc w h => R_move e1_1) rfl (gTx rfl (fun hc w h => R_addi (gvl_t hc) rfl (by omega)) rfl (w_cT rfl rfl rfl (fun hc w => runE_as (zR Tryz.func124 rfl rfl rfl) (arr2 (gvl_t hc) (gvl_t hc))) rfl (fun hc w h => rdigit_spec s ((numDot s (runTo digitB s i)) + 1) hs (by omega) w) (zg (v := .bool _) (fun _ => R_pickA rfl rfl rfl) (yB ?_)))))))))); refine c_cond rfl (fun h2 => ?_) (fun h2 => ?_)
    · refine yA (mI e1_1 (ji rfl rfl (by omega) (aI rfl (yB (zr (zm (v := str _) e0_1 (mI rfl ?_)))))))
      have q1 := runTo_le (p := digitB) (s := s) (i := ((numDot s (runTo digitB s i)) + 1)) (by (have := atP_lt (gr (by assumption)); omega))
      have q2 := runTo_ge digitB s ((numDot s (runTo digitB s i)) + 1)
      refine jD Tryz.func147 (fun w h => rdigits_spec s ((numDot s (runTo digitB s i)) + 1) hs (by omega) w) (aI rfl (zn ?_))
      have hT : numTens s (numDot s (runTo digitB s i)) = (runTo digitB s ((numDot s (runTo digitB s i)) + 1) - ((numDot s (runTo digitB s i)) + 1), runTo digitB s ((numDot s (runTo digitB s i)) + 1)) := numT_1 (by assumption)
      exact k_mid ⟨((numDot s (runTo digitB s i)) + 1), e0_1, by rw [g0, hT]; rfl, rfl, rfl, rfl, by rw [g0, hT]; exact runTo_ge _ _ _, by rw [g0, hT]⟩
    refine yA (zm (v := str _) e0_1 (mI e1_1 (jD Tryz.func146 (fun w h => ris_spec s (numDot s (runTo digitB s i)) 101 hs (by omega) w) (mB rfl (w_gT (v := str _) rfl rfl rfl (fun hc w h => R_move e0_1) rfl (w_gT (v := .int _ _) rfl rfl rfl (fun hc w h => R_move e1_1) rfl (gTx rfl (fun hc w h => R_addi (gvl_t hc) rfl (by omega)) rfl (w_cT rfl rfl rfl (fun hc w => runE_as (zR Tryz.func146 rfl rfl rfl) (arr3 (gvl_t hc) (gvl_t hc) rfl)) rfl (fun hc w h => ris_spec s ((numDot s (runTo digitB s i)) + 1) 43 hs (by omega) w) (gTx (v := .bool _) rfl (fun hc w h => R_move (gvl_t hc)) rfl (w_hF (v := str _) rfl rfl rfl (fun hc w h => R_move e0_1) rfl (w_hF (v := .int _ _) rfl rfl rfl (fun hc w h => R_move e1_1) rfl (hFx rfl (fun hc w h => R_addi (gvl_t hc) rfl (by omega)) rfl (w_dF rfl rfl rfl (fun hc w => runE_as (zR Tryz.func146 rfl rfl rfl) (arr3 (gvl_t hc) (gvl_t hc) rfl)) rfl (fun hc w h => ris_spec s ((numDot s (runTo digitB s i)) + 1) 45 hs (by omega) w) (gTx (v := .bool _) rfl (fun hc w h => R_pickO (gvl_t hc) (gvl_and hc) rfl) rfl (zg (v := .bool _) (fun _ => R_pickA rfl rfl rfl) (mB rfl (w_gT (v := str _) rfl rfl rfl (fun hc w h => R_move e0_1) rfl (w_gT (v := .int _ _) rfl rfl rfl (fun hc w h => R_move e1_1) rfl (gTx rfl (fun hc w h => R_addi (gvl_t hc) rfl (by omega)) rfl (w_cT rfl rfl rfl (fun hc w => runE_as (zR Tryz.func124 rfl rfl rfl) (arr2 (gvl_t hc) (gvl_t hc))) rfl (fun hc w h => rdigit_spec s ((numDot s (runTo digitB s i)) + 2) hs (by omega) w) (zg (v := .bool _) (fun _ => R_pickA rfl rfl rfl) (yB ?_)))))))))))))))))))))); refine c_cond rfl (fun h3 => ?_) (fun h3 => ?_)
    · refine yA (mI e1_1 (ji rfl rfl (by omega) (aI rfl (yB (zr (zm (v := str _) e0_1 (mI rfl ?_)))))))
      have q1 := runTo_le (p := digitB) (s := s) (i := ((numDot s (runTo digitB s i)) + 2)) (by (have := atP_lt (gr (by assumption)); omega))
      have q2 := runTo_ge digitB s ((numDot s (runTo digitB s i)) + 2)
      refine jD Tryz.func147 (fun w h => rdigits_spec s ((numDot s (runTo digitB s i)) + 2) hs (by omega) w) (aI rfl (zn ?_))
      have hT : numTens s (numDot s (runTo digitB s i)) = (runTo digitB s ((numDot s (runTo digitB s i)) + 2) - ((numDot s (runTo digitB s i)) + 2), runTo digitB s ((numDot s (runTo digitB s i)) + 2)) := numT_2 (by assumption) (by assumption)
      exact k_mid ⟨((numDot s (runTo digitB s i)) + 2), e0_1, by rw [g0, hT]; rfl, rfl, rfl, rfl, by rw [g0, hT]; exact runTo_ge _ _ _, by rw [g0, hT]⟩
    refine zi ?_
    have hT : numTens s (numDot s (runTo digitB s i)) = (0, (numDot s (runTo digitB s i))) := numT_0 (by assumption) (by assumption)
    exact k_mid ⟨(numDot s (runTo digitB s i)), e0_1, by rw [g0, hT]; exact e1_1, rfl, rfl, rfl, by rw [g0, hT]; exact Nat.le_refl _, by rw [g0, hT]; simp⟩
  rintro e B L ⟨q, e0_2, e1_2, e6_2, rfl, rfl, hq, hf⟩
  refine yA (mI e1_2 (mI e1_2 (mI e6_2 (zg (fun _ => R_subi rfl rfl (by omega)) (jm rfl rfl (mB rfl (w_gT (v := str _) rfl rfl rfl (fun hc w h => R_move e0_2) rfl (w_gT (v := .int _ _) rfl rfl rfl (fun hc w h => R_move e1_2) rfl (w_cT rfl rfl rfl (fun hc w => runE_as (zR Tryz.func123 rfl rfl rfl) (arr2 (gvl_t hc) (gvl_t hc))) rfl (fun hc w h => rletter_spec s (numEnd s i) hs (by omega) w) (gTx rfl (fun hc w h => R_not (gvl_t hc)) rfl (zg (v := .bool _) (fun _ => R_pickA rfl rfl rfl) (mB rfl (w_gT (v := str _) rfl rfl rfl (fun hc w h => R_move e0_2) rfl (w_gT (v := .int _ _) rfl rfl rfl (fun hc w h => R_move e1_2) rfl (w_cT rfl rfl rfl (fun hc w => runE_as (zR Tryz.func124 rfl rfl rfl) (arr2 (gvl_t hc) (gvl_t hc))) rfl (fun hc w h => rdigit_spec s (numEnd s i) hs (by omega) w) (gTx rfl (fun hc w h => R_not (gvl_t hc)) rfl (zg (v := .bool _) (fun _ => R_pickA rfl rfl rfl) (mB rfl (w_gT (v := str _) rfl rfl rfl (fun hc w h => R_move e0_2) rfl (w_gT (v := .int _ _) rfl rfl rfl (fun hc w h => R_move e1_2) rfl (w_cT rfl rfl rfl (fun hc w => runE_as (zR Tryz.func146 rfl rfl rfl) (arr3 (gvl_t hc) (gvl_t hc) rfl)) rfl (fun hc w h => ris_spec s (numEnd s i) 46 hs (by omega) w) (gTx rfl (fun hc w h => R_not (gvl_t hc)) rfl (zg (v := .bool _) (fun _ => R_pickA rfl rfl rfl) (aI rfl (aB rfl (yB (ze ?_)))))))))))))))))))))))))))
  have hx : decide (numEnd s i - q ≤ 4) = decide (((numEnd s i : Nat) : Int) - (q : Int) ≤ 4) := by congr 1; apply propext; omega
  refine r_two (v := .int _ _) (v2 := .bool _) rfl rfl rfl rfl rfl ?_; exact fun w' hw => ⟨by rw [numFine, hf, at_tail, hx]; clear hx hf g0 g3; (simp only [Bool.not_or, Bool.and_assoc]; done), hw.f0⟩
theorem rsign_spec (s : List UInt8) (i : Nat) (hs : s.length ≤ 10000000) (hi : i < s.length) (w : World) :
    Ret Tryz.prog 126 #[str s, .int .i64 (i : Nat)] w (fun v w' => v = .int .i64 (signLen s i : Nat) ∧ Ext w w') := by
  refine enter (S := No) (l := [_, _]) (L := []) 46 Tryz.func126 rfl rfl rfl (St.start w No) (yA (aI rfl (yC (zS slt153 (by decide) rfl rfl (fun fb gfb ufb => za (v := .slice _ _ _) rfl (yB (zq (yA (aI rfl (yB (zB ?_))))))))))); refine c_loop (fun m e B L => ∃ (k : Nat), e 0 = str s ∧ e 1 = .int .i64 (i : Nat) ∧ e 5 = .slice (some ⟨fb, 0, none⟩) 5 5 ∧ e 6 = .int .i64 (k : Nat) ∧ B = [(w, No)] ∧ L = [(fb, cel [str [61, 61], str [33, 61], str [60, 61], str [62, 61], str [43, 61]] 9)] ∧ k ≤ 5 ∧ (signsL.take k).find? (fun t => t.isPrefixOf (s.drop i)) = none ∧ m = 5 - k) _ ⟨0, rfl, rfl, rfl, rfl, rfl, rfl, by omega, rfl, rfl⟩ ?_
  rintro m e B L ⟨k, e0_1, e1_1, e5_1, e6_1, rfl, rfl, hk, hn, rfl⟩
  refine zq (yA (mI e6_1 (mS e5_1 (jj sl153 rfl (jl rfl rfl (yB ?_)))))); refine zD rfl (fun h1 => ?_) (fun h1 => ?_)
  · refine zi (zk (zq (zB (zq (c_draw mixed (by kernel_rfl) (mI e1_1 (ji rfl rfl (by omega) (zm (v := str _) e0_1 (zg (fun _ => R_slen st9 rfl (by omega)) (jm rfl rfl (mB rfl ?_))))))))))); refine zd (t := 21) rfl (fun h2 => ?_) (fun h2 => ?_)
    · refine zw rfl rfl (bT h2) (zm (v := str _) e0_1 (zw rfl rfl (bT h2) (mI e1_1 (zw rfl rfl (bT h2) (mI e1_1 (zw rfl rfl (bT h2) (ji rfl rfl (by omega) (zw rfl rfl (bT h2) (zg (fun _ => R_sslN (l := i) (h := (i + 2)) st9 rfl rfl rfl (by omega) (by omega)) (zw rfl rfl (bT h2) (mS e5_1 (zw rfl rfl (bT h2) (mI e6_1 (zw rfl rfl (bT h2) (zg (fun _ => R_iaN (i := k) sl153 rfl rfl (by omega)) (zw rfl rfl (bT h2) ?_)))))))))))))))); refine zl z9 rfl (fun _ h => by exact zc 0 rfl (two_at (by omega)) h) ?_
      refine zw rfl rfl (bT h2) (js rfl rfl (jT (bT h2) rfl (yB ?_))); refine zD rfl (fun h3 => ?_) (fun h3 => ?_)
      · refine yA (aI rfl (yB (ze (zb (zt (zt (zb (zt (?_)))))))))
        have r2 := sig_found (by omega) hn (show (signsL.getD k []).isPrefixOf (s.drop i) = true by rw [pre_two _ (sig_two k (by omega)), Bool.and_eq_true, decide_eq_true_eq, decide_eq_true_eq]; rw [show i + 2 - i = 2 by omega] at h3; exact ⟨by omega, h3⟩)
        refine zo (v := .int _ _) rfl rfl rfl ?_; exact fun w' hw => ⟨by rw [r2, sig_two k (by omega)]; rfl, hw.f0⟩
      refine zi (zO (zk (zr (mI e6_1 (ji rfl rfl (by omega) (aI rfl (zn ?_))))))); exact k_again _ (by omega) ⟨k + 1, e0_1, e1_1, e5_1, rfl, rfl, rfl, by omega, sig_step (by omega) hn (by rw [pre_two _ (sig_two k (by omega))]; simp only [Bool.and_eq_false_iff, decide_eq_false_iff_not]; exact .inr (by rw [show i + 2 - i = 2 by omega] at h3; exact h3)), rfl⟩
    refine zs rfl rfl (bF h2) (zs rfl rfl (bF h2) (zs rfl rfl (bF h2) (zs rfl rfl (bF h2) (zs rfl rfl (bF h2) (zs rfl rfl (bF h2) (zs rfl rfl (bF h2) (zs rfl rfl (bF h2) (zs rfl rfl (bF h2) (zs rfl rfl (bF h2) (jF (bF h2) rfl (yB (zG rfl (zi (zO (zk (zr (mI e6_1 (ji rfl rfl (by omega) (aI rfl (zn ?_))))))))))))))))))))
    exact k_again _ (by omega) ⟨k + 1, e0_1, e1_1, e5_1, rfl, rfl, rfl, by omega, sig_step (by omega) hn (by rw [pre_two _ (sig_two k (by omega))]; simp only [Bool.and_eq_false_iff, decide_eq_false_iff_not]; exact .inl (by omega)), rfl⟩
  refine zX (zx (zx (b_here rfl (zk (yA (za (v := str _) rfl (yB (zq (yA (aI rfl (yB (zB ?_))))))))))))
  obtain rfl : k = 5 := by omega
  refine c_loop (fun m e B L => ∃ (k : Nat), e 0 = str s ∧ e 1 = .int .i64 (i : Nat) ∧ e 7 = str oneT ∧ e 8 = .int .i64 (k : Nat) ∧ B = [(w, No)] ∧ L = [(fb, cel [str [61, 61], str [33, 61], str [60, 61], str [62, 61], str [43, 61]] 9)] ∧ k ≤ 17 ∧ (signsL.take (5 + k)).find? (fun t => t.isPrefixOf (s.drop i)) = none ∧ m = 17 - k) _ ⟨0, e0_1, e1_1, rfl, rfl, rfl, rfl, by omega, hn, rfl⟩ ?_
  rintro m e B L ⟨k, e0_2, e1_2, e7_2, e8_2, rfl, rfl, hk, hn, rfl⟩
  have hL : oneT.length = 17 := rfl
  refine zq (yA (mI e8_2 (zm (v := str _) e7_2 (zg (fun _ => R_slen st9 rfl (by omega)) (jl rfl rfl (yB ?_)))))); refine zD rfl (fun h4 => ?_) (fun h4 => ?_)
  · have hkl : k < oneT.length := by omega
    refine zi (zk (zq (zB (zq (c_draw mixed (by kernel_rfl) (zm (v := str _) e0_2 (mI e1_2 (w_sidx st9 rfl rfl (by omega) (zm (v := str _) e7_2 (mI e8_2 (w_sidx st9 rfl rfl (by omega) (je rfl rfl (yB ?_))))))))))))); refine zD rfl (fun h5 => ?_) (fun h5 => ?_)
    · refine yA (aI rfl (yB (ze (zb (zt (zt (zb (zt (?_)))))))))
      have r2 := sig_found (k := 5 + k) (by omega) hn (by rw [sig_one k (by omega), pre_one _ hi]; simpa [List.getD_eq_getElem?_getD, hkl] using h5)
      refine zo (v := .int _ _) rfl rfl rfl ?_; exact fun w' hw => ⟨by rw [r2, sig_one k (by omega)]; rfl, hw.f0⟩
    refine zi (zO (zk (zr (mI e8_2 (ji rfl rfl (by omega) (aI rfl (zn ?_))))))); exact k_again _ (by omega) ⟨k + 1, e0_2, e1_2, e7_2, rfl, rfl, rfl, by omega, sig_step (k := 5 + k) (by omega) hn (by rw [sig_one k (by omega), pre_one _ hi]; simpa [List.getD_eq_getElem?_getD, hkl] using h5), rfl⟩
  refine zX (zx (zx (b_here rfl (zk (yA (aI rfl (yB (ze ?_))))))))
  have r2 := sig_none (k := 5 + k) (by omega) hn
  refine zo (v := .int _ _) rfl rfl rfl ?_; exact fun w' hw => ⟨by rw [r2]; rfl, hw.f0⟩
end Go.Proofs.YtoehjlmdnajibaaGreatDoor
end
section
namespace Go.Proofs.YtoehjlmdnajibaaGreatDoor
open Go.RowKit Go.Sx
open Go.Tok
theorem rRead_spec (s : List UInt8) (hs : s.length ≤ 10000000) (w : World) :
  Ret Tryz.prog 104 #[str s] w (fun v w' => ∃ W, RdV (readP s) v W ∧ New w w' W) := by
 have g0 := skipTo_le (s := s) (Nat.zero_le _)
 refine enter (S := No) (l := [_]) (L := []) 84 Tryz.func104 rfl rfl rfl (St.start w No) (yA (za (v := .slice _ _ _) rfl (zA zr37 (fun t3b gt3b ut3b => yB (zq (yA (zm (v := str _) rfl (zg (fun _ => R_slen st9 rfl (by omega)) (jg rfl rfl (yB ?_)))))))))); refine zD rfl (fun h2 => ?_) (fun h2 => ?_)
 ·refine yA (jb bt37 rfl (za (v := .slice _ _ _) rfl (jv 0 z37 rfl (yB (ze (zt ((r_fin (.inl rfl) rfl (.tmp rfl rfl (.agg rfl rfl z37 (fun _ h => h.at_ 0 rfl) rfl .nil)) ?_)))))))); exact fun w' hw => ⟨[], by rw [readP_long (by omega)]; exact ⟨none, 0, rfl, Own.nil _ _⟩, .none (hw.f0)⟩
 ·refine zi (zk (yA (za (v := .slice _ _ _) rfl (yC (zm (v := str _) rfl (jD Tryz.func122 (fun w h => rskip_spec s 0 hs (by omega) w) (aI rfl (yB (zq (zB ?_))))))))))
  refine c_loop (fun m e B L => ∃ (k : Nat) (x : Rd) (a0 : Option Addr) (c0 : Nat) (W : Heap), e 0 = str s ∧ e 3 = pX t3b ∧ e 4 = .slice a0 x.1.length c0 ∧ e 5 = .int .i64 (k : Nat) ∧ B = [(w, No)] ∧ L = (t3b, cel [.int .i64 0, .int .i64 0] 37) :: (W ++ []) ∧ k ≤ s.length ∧ Toks (.slice a0 x.1.length c0) x.1 W ∧ x.1.length ≤ 6000 ∧ x.2 = (0, 0) ∧ lexS readN s k x = readS s ∧ m = s.length - k) _ ⟨skipTo s 0, ([], 0, 0), none, 0, [], rfl, rfl, rfl, rfl, rfl, rfl, g0.1, Own.nil _ _, Nat.zero_le _, rfl, rfl, rfl⟩ ?_
  rintro m e B L ⟨k, x, a0, c0, W, e0_1, e3_1, e4_1, e5_1, rfl, rfl, hk, hT, hx6, hx0, hr, rfl⟩
  have g2 := tok_le hk
  have g6 := signLen_le hk
  refine zq (yA (mI e5_1 (zm (v := str _) e0_1 (zg (fun _ => R_slen st9 rfl (by omega)) (jl rfl rfl (yB ?_)))))); refine zD rfl (fun h3 => ?_) (fun h3 => ?_)
  ·have hlt : k < s.length := by omega
   refine zi (zk (zB (yA (mI e5_1 (jb bt141 rfl (zA zr141 (fun t6b gt6b ut6b => jv 0 z141 rfl (yC (mI e5_1 (aI rfl (aB rfl (yB ?_)))))))))))); refine c_cut (fun e B L => ∃ (kd q : Nat), e 0 = str s ∧ e 3 = pX t3b ∧ e 4 = .slice a0 x.1.length c0 ∧ e 5 = .int .i64 (k : Nat) ∧ e 6 = pX t6b ∧ e 7 = .int .i64 (q : Nat) ∧ e 8 = .bool (tokAt s k).2.2 ∧ B = [(w, No)] ∧ L = (t6b, cel [.int .u8 (kd : Nat), str ([]), .int .i64 (k : Nat)] 141) :: (t3b, cel [.int .i64 0, .int .i64 0] 37) :: (W ++ []) ∧ ((tokAt s k).2.2 = true → kd = (tokAt s k).1 ∧ q = (tokAt s k).2.1)) ?_ ?_
   ·refine yA (zm (v := str _) e0_1 (mI e5_1 (jD Tryz.func123 (fun w h => rletter_spec s k hs (by omega) w) (mB rfl ?_)))); refine zp (t := 25) rfl (fun h5 => ?_) (fun h5 => ?_)
    ·refine zw rfl rfl (bV h5) (zm (v := str _) e0_1 (zw rfl rfl (bV h5) (mI e5_1 (zw rfl rfl (bV h5) (w_sidx st9 rfl rfl (by omega) (zw rfl rfl (bV h5) (jn rfl rfl (jT (bV h5) rfl (yB ?_))))))))); refine zD rfl (fun h6 => ?_) (fun h6 => ?_)
     ·have hnb : nameB s k = true := by rw [nameB, h5, atP_in hlt, eq_int' 95 95 rfl, decide_eq_false (by omega)]; rfl
      refine yA (zf fa141_0 rfl (jv 0 z5 rfl (yB (zB ?_)))); refine c_loop (fun m e B L => ∃ (q : Nat), e 0 = str s ∧ e 3 = pX t3b ∧ e 4 = .slice a0 x.1.length c0 ∧ e 5 = .int .i64 (k : Nat) ∧ e 6 = pX t6b ∧ e 7 = .int .i64 (q : Nat) ∧ e 8 = .bool true ∧ B = [(w, No)] ∧ L = (t6b, cel [.int .u8 (1 : Nat), str ([]), .int .i64 (k : Nat)] 141) :: (t3b, cel [.int .i64 0, .int .i64 0] 37) :: (W ++ []) ∧ k ≤ q ∧ q ≤ s.length ∧ runTo wordB s q = runTo wordB s k ∧ m = s.length - q) _ ⟨k, e0_1, e3_1, e4_1, e5_1, rfl, rfl, rfl, rfl, rfl, by omega, hk, rfl, rfl⟩ ?_
      rintro m e B L ⟨q, e0_3, e3_3, e4_3, e5_3, e6_3, e7_3, e8_3, rfl, rfl, hkq, hq, hw0, rfl⟩
      refine zq (yA (zm (v := str _) e0_3 (mI e7_3 (jD Tryz.func123 (fun w h => rletter_spec s q hs (by omega) w) (mB rfl ?_))))); refine zp (t := 35) rfl (fun h7 => ?_) (fun h7 => ?_)
      ·refine zs rfl rfl (bV h7) (zs rfl rfl (bV h7) (zs rfl rfl (bV h7) (jT (bV h7) rfl (yB (zE rfl (zi (zk (zB (zr (mI e7_3 (ji rfl rfl (by omega) (aI rfl (zn (zO (?_)))))))))))))))
       have hw1 : atP wordB s q = true := by rw [at_word]; simp [*]
       have hw2 := atP_lt hw1
       exact k_again _ (by omega) ⟨q + 1, e0_3, e3_3, e4_3, e5_3, e6_3, rfl, e8_3, rfl, rfl, by omega, by omega, by rw [← hw0, runTo_step hw1], rfl⟩
      ·refine zw rfl rfl (bV h7) (zm (v := str _) e0_3 (zw rfl rfl (bV h7) (mI e7_3 (zw rfl rfl (bV h7) (jD Tryz.func124 (fun w h => rdigit_spec s q hs (by omega) w) (jF (bV h7) rfl (yB ?_))))))); refine c_cond rfl (fun h8 => ?_) (fun h8 => ?_)
       ·refine zi (zk (zB (zr (mI e7_3 (ji rfl rfl (by omega) (aI rfl (zn (zO (?_)))))))))
        have hw1 : atP wordB s q = true := by rw [at_word]; simp [*]
        have hw2 := atP_lt hw1
        exact k_again _ (by omega) ⟨q + 1, e0_3, e3_3, e4_3, e5_3, e6_3, rfl, e8_3, rfl, rfl, by omega, by omega, by rw [← hw0, runTo_step hw1], rfl⟩
       ·refine zX (zx (zx (b_here rfl (?_))))
        have hx : atP wordB s q = false := by rw [at_word]; simp [*]
        rw [runTo_stop hx] at hw0
        have e0 : tokAt s k = (1, q, true) := by rw [tokAt, if_pos hnb, ← hw0]
        exact k_mid ⟨1, q, e0_3, e3_3, e4_3, e5_3, e6_3, e7_3, by rw [e0]; exact e8_3, rfl, rfl, by rw [e0]; exact fun _ => ⟨rfl, rfl⟩⟩
     ·have hnb : nameB s k = false := by rw [nameB, h5, atP_in hlt, eq_int' 95 95 rfl, decide_eq_true (by omega)]; rfl
      refine yA (zm (v := str _) e0_1 (mI e5_1 (jD Tryz.func124 (fun w h => rdigit_spec s k hs (by omega) w) (yB ?_)))); refine c_cond rfl (fun h9 => ?_) (fun h9 => ?_)
      ·refine yA (zf fa141_0 rfl (jv 0 z5 rfl (yB (zr (zm (v := str _) e0_1 (mI e5_1 (jD Tryz.func125 (fun w h => rnumber_spec s k hs (by omega) w) (zm rfl (jx rfl rfl (jx rfl rfl (aI rfl (aB rfl (zn ?_)))))))))))))
       have e0 : tokAt s k = (2, numEnd s k, numFine s k) := by rw [tokAt, if_neg (by rw [hnb]; simp), if_pos h9]
       exact k_mid ⟨2, numEnd s k, e0_1, e3_1, e4_1, e5_1, rfl, rfl, by rw [e0]; rfl, rfl, rfl, by rw [e0]; exact fun _ => ⟨rfl, rfl⟩⟩
      ·refine yA (zf fa141_0 rfl (jv 0 z5 rfl (yC (mI e5_1 (zm (v := str _) e0_1 (mI e5_1 (jD Tryz.func126 (fun w h => rsign_spec s k hs (by omega) w) (ji rfl rfl (by omega) (aI rfl (yB (zr (mI rfl (mI e5_1 (jg rfl rfl (aB rfl (zn ?_))))))))))))))))
       have e0 : tokAt s k = if signLen s k = 0 then (0, k, false) else (3, k + signLen s k, true) := by rw [tokAt, if_neg (by rw [hnb]; simp), if_neg (by rw [h9]; simp)]
       have e8 : (tokAt s k).2.2 = decide (((k : Nat) : Int) + (signLen s k : Int) > (k : Int)) := by rw [e0]; split <;> simp <;> omega
       exact k_mid ⟨3, (k + signLen s k), e0_1, e3_1, e4_1, e5_1, rfl, rfl, by rw [e8]; rfl, rfl, rfl, by rw [e0]; split <;> simp⟩
    ·have hnb : nameB s k = false := by rw [nameB, h5]; rfl
     refine zs rfl rfl (bV h5) (zs rfl rfl (bV h5) (zs rfl rfl (bV h5) (zs rfl rfl (bV h5) (jF (bV h5) rfl (yB (zG rfl (yA (zm (v := str _) e0_1 (mI e5_1 (jD Tryz.func124 (fun w h => rdigit_spec s k hs (by omega) w) (yB ?_))))))))))); refine c_cond rfl (fun h10 => ?_) (fun h10 => ?_)
     ·refine yA (zf fa141_0 rfl (jv 0 z5 rfl (yB (zr (zm (v := str _) e0_1 (mI e5_1 (jD Tryz.func125 (fun w h => rnumber_spec s k hs (by omega) w) (zm rfl (jx rfl rfl (jx rfl rfl (aI rfl (aB rfl (zn ?_)))))))))))))
      have e0 : tokAt s k = (2, numEnd s k, numFine s k) := by rw [tokAt, if_neg (by rw [hnb]; simp), if_pos h10]
      exact k_mid ⟨2, numEnd s k, e0_1, e3_1, e4_1, e5_1, rfl, rfl, by rw [e0]; rfl, rfl, rfl, by rw [e0]; exact fun _ => ⟨rfl, rfl⟩⟩
     ·refine yA (zf fa141_0 rfl (jv 0 z5 rfl (yC (mI e5_1 (zm (v := str _) e0_1 (mI e5_1 (jD Tryz.func126 (fun w h => rsign_spec s k hs (by omega) w) (ji rfl rfl (by omega) (aI rfl (yB (zr (mI rfl (mI e5_1 (jg rfl rfl (aB rfl (zn ?_))))))))))))))))
      have e0 : tokAt s k = if signLen s k = 0 then (0, k, false) else (3, k + signLen s k, true) := by rw [tokAt, if_neg (by rw [hnb]; simp), if_neg (by rw [h10]; simp)]
      have e8 : (tokAt s k).2.2 = decide (((k : Nat) : Int) + (signLen s k : Int) > (k : Int)) := by rw [e0]; split <;> simp <;> omega
      exact k_mid ⟨3, (k + signLen s k), e0_1, e3_1, e4_1, e5_1, rfl, rfl, by rw [e8]; rfl, rfl, rfl, by rw [e0]; split <;> simp⟩
   rintro e B L ⟨kd, q, e0_2, e3_2, e4_2, e5_2, e6_2, e7_2, e8_2, rfl, rfl, hfine⟩
   refine zq (yA (mB e8_2 (jk rfl (yB ?_)))); refine c_condN rfl (fun h11 => ?_) (fun h11 => ?_)
   ·refine yA (mI e5_2 (jb bt37 rfl (za (v := .slice _ _ _) rfl (ju 1 z37 e3_2 rfl rfl (yB (ze (zt (zb (zt (zb (zt (?_))))))))))))
    have hrS : readS s = (x.1, 110, k) := by rw [← hr, lexS_end readN hlt (by rw [h11]; rfl), h11]; rfl
    refine r_fin (.inl rfl) rfl (.tmp rfl rfl (.agg rfl e3_2 z37 (fun _ h => h.at_ 1 rfl) rfl .nil)) ?_; exact fun w' hw => ⟨[], by rw [readP_bad (by omega) (by rw [hrS]; simp), hrS]; exact ⟨none, 0, rfl, Own.nil _ _⟩, .none (hw.f0)⟩
   ·have hgo := h11; have hkd := (hfine hgo).1; have hq := (hfine hgo).2; have hqk := g2.2.2 hgo; have hql : q ≤ s.length := by omega
    refine zi (zk (zq (yA (mS e4_2 (jj sl137 rfl (je rfl rfl (yB ?_))))))); refine zD rfl (fun h12 => ?_) (fun h12 => ?_)
    ·refine yA (mI e5_2 (jb bt37 rfl (za (v := .slice _ _ _) rfl (ju 1 z37 e3_2 rfl rfl (yB (ze (zt (zb (zt (zb (zt (?_))))))))))))
     have hN : readN x (tokAt s k).1 (tokTx s k) k (tokAt s k).2.2 = ((x.1, 6, k), false) := by rw [readN, if_neg (by rw [h11]; simp), if_pos (by omega)]
     have hrS : readS s = (x.1, 6, k) := by rw [← hr, lexS_end readN hlt (by rw [hN]), hN]
     refine r_fin (.inl rfl) rfl (.tmp rfl rfl (.agg rfl e3_2 z37 (fun _ h => h.at_ 1 rfl) rfl .nil)) ?_; exact fun w' hw => ⟨[], by rw [readP_bad (by omega) (by rw [hrS]; simp), hrS]; exact ⟨none, 0, rfl, Own.nil _ _⟩, .none (hw.f0)⟩
    ·refine zi (zk (yA (zm (v := str _) e0_2 (mI e5_2 (mI e7_2 (zg (fun _ => R_sslN (l := k) (h := q) st9 rfl rfl rfl (by omega) (by omega)) (zf fa141_1 e6_2 (jv 0 z9 rfl (yC (mS e4_2 (jy 0 z141 e6_2 rfl (zS slt137 (by decide) rfl rfl (fun bs gbs ubs => w_app [(bs, _), (t6b, _), (t3b, _)] (news := tkC (kd, (s.drop k).take (q - k), k)) slt137 (by decide) rfl hT rfl rfl (row_own 0 rfl (fun _ _ h => h)) rfl (by decide) (by omega) (by omega) (fun v2 W2 hO2 => ?_))))))))))))))
     obtain ⟨a2, c2, rfl⟩ := hO2.slice
     refine za (v := .slice _ _ _) rfl (yB (zr (zm (v := str _) e0_2 (mI e7_2 (jD Tryz.func122 (fun w h => rskip_spec s q hs (by omega) w) (aI rfl (zn (zO (?_)))))))))
     have hN : readN x (tokAt s k).1 (tokTx s k) k (tokAt s k).2.2 = ((x.1 ++ [(kd, (s.drop k).take (q - k), k)], x.2), true) := by rw [readN, if_neg (by rw [hgo]; simp), if_neg (by omega), tokTx, ← hq, ← hkd]
     refine zK (B' := [(w, No)]) (L' := (t3b, cel [.int .i64 0, .int .i64 0] 37) :: (W2 ++ [])) (fun w h => h.drop (.cons _ (.cons _ (List.Sublist.refl _)))) ?_
     have g5 := skipTo_le hql
     exact k_again _ (by omega) ⟨skipTo s q, (x.1 ++ [(kd, (s.drop k).take (q - k), k)], x.2), a2, c2, W2, e0_2, e3_2, (congrArg (fun n : Nat => Value.slice a2 n c2) (show x.1.length + 1 = (x.1 ++ [(kd, (s.drop k).take (q - k), k)]).length by simp)), rfl, rfl, rfl, g5.1, by simpa using Toks.more hO2, by simp; omega, hx0, by rw [← hr, lexS_go readN readN_no hlt (by rw [hN]), hN, ← hq], rfl⟩
  ·refine zX (zx (zx (b_here rfl (zk (yA (mS e4_1 (jb bt37 rfl (za (v := .slice _ _ _) rfl (ju 0 z37 e3_1 rfl rfl (yB (ze ?_)))))))))))
   have hrS : readS s = x := by rw [← hr, lexS_stop readN (by omega)]
   refine r_fin (.inl rfl) rfl (.tmp rfl rfl (.agg rfl e3_1 z37 (fun _ h => h.at_ 0 rfl) rfl .nil)) ?_; exact fun w' hw => ⟨W, by rw [readP_fine (by omega) (by rw [hrS, hx0]), hrS]; exact ⟨a0, c0, rfl, hT⟩, St.made (A := []) (by simpa using hw.drop (L' := W ++ []) (List.sublist_cons_self _ _))⟩
end Go.Proofs.YtoehjlmdnajibaaGreatDoor
end
