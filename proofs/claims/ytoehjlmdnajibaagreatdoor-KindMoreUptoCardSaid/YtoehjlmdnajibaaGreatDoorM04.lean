/- Layer 15, KindMore: an expression's kind does not hang on a variable whose name does not stand in it, nor on the places, but for that of a fault; in the Upto form. Part 4 of 16. -/
import Derived.Test.YtoehjlmdnajibaaGreatDoorM03
set_option maxRecDepth 100000
set_option maxHeartbeats 16000000
section
namespace Go.Proofs.YtoehjlmdnajibaaGreatDoor
open Go.RowKit Go.Sx
open Go.Tok
theorem Fields_signs (x : List UInt8) (hx : x = signsT) (w : World) (ht : Tb w) : Ret Tryz.prog 164 #[str x] w fun v w' =>
  v = .slice (some ⟨w.heap.size, 0, none⟩) 22 22 ∧ w' = w.alloc (cel (signsL.map str) 9) := by
 subst hx
 have := Fields_spec signsT w (by decide) signs_ascii ht
 rw [signs_fields] at this
 exact this
theorem sig_at {k : Nat} (h : k < 22) : (signsL.map str)[0 + k * 1]? = some (str (signsL.getD k [])) := by
 have : k < signsL.length := h
 simp [this]

theorem is_spec (p : Nat) (s so : List UInt8) (q : UInt8 → Bool) (hq : so.contains = q) (j on : Nat) (w : World) (hp : w.heap[p]? = some (cel [str s, .int .i64 (j : Nat)] 163)) (hs : s.length ≤ 10000000) (hj : j ≤ 10000000) (h1 : on ≤ 10) :
  Ret Tryz.prog 162 #[.pointer (some ⟨p, 0, none⟩), str so, .int .i64 (on : Nat)] w (fun v w' => v = .bool (atP q s (j + on)) ∧ Ext w w') := by
 refine enter (S := No) (l := [_, _, _]) (L := []) 35 Tryz.func162 rfl rfl rfl (St.start w No) (yA (aB rfl (yB (zq (c_draw mixed (by kernel_rfl) (mP rfl (zI rfl (zf fa163_1 rfl (zl z3 rfl (fun _ h => cel_oldb hp zm0 id rfl h) (mI rfl (zg (fun _ => R_addi rfl rfl (by omega)) (mP rfl (zI rfl (zf fa163_0 rfl (zl z9 rfl (fun _ h => cel_oldb hp zm0 id rfl h) (zg (fun _ => R_slen st9 rfl (by omega)) (zg (fun _ => R_lt rfl rfl) (mB rfl ?_)))))))))))))))))); refine zd (t := 19) rfl (fun h1 => ?_) (fun h1 => ?_)
 ·refine zw rfl rfl (bT h1) (zm (v := str _) rfl (zw rfl rfl (bT h1) (mP rfl (zw rfl rfl (bT h1) (zI rfl (zw rfl rfl (bT h1) (zf fa163_0 rfl (zw rfl rfl (bT h1) (zl z9 rfl (fun _ h => cel_oldb hp zm0 id rfl h) (zw rfl rfl (bT h1) (mP rfl (zw rfl rfl (bT h1) (zI rfl (zw rfl rfl (bT h1) (zf fa163_1 rfl (zw rfl rfl (bT h1) (zl z3 rfl (fun _ h => cel_oldb hp zm0 id rfl h) (zw rfl rfl (bT h1) (mI rfl (zw rfl rfl (bT h1) (zg (fun _ => R_addi rfl rfl (by omega)) (zw rfl rfl (bT h1) (w_sidx st9 rfl rfl (by omega) (zw rfl rfl (bT h1) (zC (fun w => zR Tryz.func166 rfl rfl rfl) rfl rfl (fun w h => IndexByte_at _ _ w) (zw rfl rfl (bT h1) (zg (fun _ => R_ge rfl rfl) (zg (v := .bool _) (fun _ => zT (bT h1) rfl) (aB rfl (yB (ze (zo (v := .bool _) rfl rfl rfl ?_)))))))))))))))))))))))))))))))); exact fun w' hw => ⟨by subst hq; rw [atP_in (by omega), ← index_contains], hw.fr _ zm0⟩
 ·refine zs rfl rfl (bF h1) (zs rfl rfl (bF h1) (zs rfl rfl (bF h1) (zs rfl rfl (bF h1) (zs rfl rfl (bF h1) (zs rfl rfl (bF h1) (zs rfl rfl (bF h1) (zs rfl rfl (bF h1) (zs rfl rfl (bF h1) (zs rfl rfl (bF h1) (zs rfl rfl (bF h1) (zs rfl rfl (bF h1) (zs rfl rfl (bF h1) (zs rfl rfl (bF h1) (zg (v := .bool _) (fun _ => zF (bF h1) rfl) (aB rfl (yB (ze (zo (v := .bool _) rfl rfl rfl ?_)))))))))))))))))); exact fun w' hw => ⟨by rw [atP_out (by omega)], hw.fr _ zm0⟩

theorem run_spec (p : Nat) (s so : List UInt8) (q : UInt8 → Bool) (hq : so.contains = q) (j : Nat) (w : World) (hp : w.heap[p]? = some (cel [str s, .int .i64 (j : Nat)] 163)) (hs : s.length ≤ 10000000) (hj : j ≤ s.length) :
  Ret Tryz.prog 163 #[.pointer (some ⟨p, 0, none⟩), str so] w (fun v w' => v = .int .i64 (runTo q s j - j : Nat) ∧ Fr (fun i => i = p) w w' ∧ w'.heap[p]? = some (cel [str s, .int .i64 (runTo q s j : Nat)] 163)) := by
 refine enter (S := (fun i => i = p)) (l := [_, _]) (L := [(p, cel [str s, .int .i64 (j : Nat)] 163)]) 26 Tryz.func163 rfl rfl rfl (St.start1 w hp rfl) (yA (aI rfl (yC (mP rfl (zI rfl (zf fa163_1 rfl (zL 0 z3 rfl rfl rfl (aI rfl (yB (zq (zB ?_))))))))))); refine c_loop (fun m e B L => ∃ (k : Nat), e 0 = .pointer (some ⟨p, 0, none⟩) ∧ e 1 = str so ∧ e 5 = .int .i64 (j : Nat) ∧ B = [(w, (fun i => i = p))] ∧ L = [(p, cel [str s, .int .i64 (k : Nat)] 163)] ∧ j ≤ k ∧ k ≤ s.length ∧ runTo q s k = runTo q s j ∧ m = s.length - k) _ ⟨j, rfl, rfl, rfl, rfl, rfl, by omega, by omega, rfl, rfl⟩ ?_
 rintro m e B L ⟨k, e0_1, e1_1, e5_1, rfl, rfl, p0_1, p1_1, p2_1, rfl⟩
 refine zq (yA (mP e0_1 (zm (v := str _) e1_1 (zC (fun w => zR Tryz.func162 rfl rfl rfl) rfl rfl (fun w h => is_spec p s _ _ hq _ 0 w (h.at_ 0 rfl) hs (by omega) (by decide)) (yB ?_))))); refine c_cond rfl (fun h1 => ?_) (fun h1 => ?_)
 ·replace h1 : atP q s k = true := h1; have h2 := atP_lt h1
  refine zi (zk (zB (zr (mP e0_1 (zI rfl (zf fa163_1 rfl (zL 0 z3 rfl rfl rfl (zg (fun _ => R_addi rfl rfl (by omega)) (zI rfl (zf fa163_1 rfl (zV 0 rfl z3 rfl rfl rfl rfl rfl rfl rfl (zn (zO (?_))))))))))))))
  exact k_again _ (by omega) ⟨k + 1, e0_1, e1_1, e5_1, rfl, rfl, by omega, by omega, by rw [← p2_1, runTo_step h1], rfl⟩
 ·refine zX (zx (zx (b_here rfl (zk (yA (mP e0_1 (zI rfl (zf fa163_1 rfl (zL 0 z3 rfl rfl rfl (mI e5_1 (zg (fun _ => R_subi rfl rfl (by omega)) (aI rfl (yB (ze ?_))))))))))))))
  replace h1 : atP q s k = false := h1
  have h2 : runTo q s j = k := by rw [← p2_1, runTo_stop h1]
  rw [h2]
  refine zo (v := .int _ _) rfl rfl rfl ?_; exact fun w' hw => ⟨by congr 1; omega, hw.fr _ zm0, hw.at_ 0 rfl⟩

theorem skip_spec (p : Nat) (s : List UInt8) (j : Nat) (w : World) (hp : w.heap[p]? = some (cel [str s, .int .i64 (j : Nat)] 163)) (hs : s.length ≤ 10000000) (hj : j ≤ s.length) :
  Ret Tryz.prog 152 #[.pointer (some ⟨p, 0, none⟩)] w (fun v w' => v = .tuple #[] ∧ Fr (fun i => i = p) w w' ∧ w'.heap[p]? = some (cel [str s, .int .i64 (skipTo s j : Nat)] 163)) := by
 refine enter (S := (fun i => i = p)) (l := [_]) (L := [(p, cel [str s, .int .i64 (j : Nat)] 163)]) 46 Tryz.func152 rfl rfl rfl (St.start1 w hp rfl) (zB ?_); refine c_loop (fun m e B L => ∃ (k : Nat), e 0 = .pointer (some ⟨p, 0, none⟩) ∧ B = [(w, (fun i => i = p))] ∧ L = [(p, cel [str s, .int .i64 (k : Nat)] 163)] ∧ k ≤ s.length ∧ skipTo s k = skipTo s j ∧ m = s.length - k) _ ⟨j, rfl, rfl, rfl, by omega, rfl, rfl⟩ ?_
 rintro m e B L ⟨k, e0_1, rfl, rfl, p0_1, p1_1, rfl⟩
 have r0 := Lib.indexByte_ge (s.drop (runTo blankB s k)) 10
 have r6 := runTo_le (p := notNl) (runTo_le (p := blankB) p0_1)
 have r7 := index_run s _ (runTo_le (p := blankB) p0_1)
 have r1 := runTo_ge blankB s k
 have r2 := runTo_le (p := blankB) p0_1
 refine zB (yA (mP e0_1 (w_call1 0 rfl (fun w => zR Tryz.func163 rfl rfl rfl) rfl rfl (fun w h => run_spec p s _ _ con_blanks _ w (h.at_ 0 rfl) hs (by omega)) (yB (zq (zq (c_draw mixed (by kernel_rfl) (mP e0_1 (zI rfl (zf fa163_0 rfl (zL 0 z9 rfl rfl rfl (mP e0_1 (zI rfl (zf fa163_1 rfl (zL 0 z3 rfl rfl rfl (zg (fun _ => R_ssl_loN st9 rfl rfl (by omega)) (zC (fun w => zR Tryz.func165 rfl rfl rfl) rfl rfl (fun w h => HasPrefix_spec _ _ w) (zg (fun _ => R_not rfl) (yB ?_)))))))))))))))))))
 refine c_condN rfl (fun h1 => ?_) (fun h1 => ?_)
 ·rw [prefix_cmt] at h1
  refine ze (zt (zb (zt (zb ((r_none (.inl rfl) rfl ?_)))))); exact fun w' hw => ⟨rfl, hw.fr _ zm0, by have := hw.at_ 0 rfl; rw [← p1_1, skipTo_eq p0_1, if_neg (by simp [h1])]; exact this⟩
 ·rw [prefix_cmt] at h1
  refine zi (zk (zq (c_draw mixed (by kernel_rfl) (mP e0_1 (zI rfl (zf fa163_0 rfl (zL 0 z9 rfl rfl rfl (mP e0_1 (zI rfl (zf fa163_1 rfl (zL 0 z3 rfl rfl rfl (zg (fun _ => R_ssl_loN st9 rfl rfl (by omega)) (zC (fun w => zR Tryz.func166 rfl rfl rfl) rfl rfl (fun w h => IndexByte_at _ 10 w) (aI rfl (yB (zq (yA (mI rfl (zg (fun _ => R_lt rfl rfl) (yB ?_)))))))))))))))))))); refine zD rfl (fun h2 => ?_) (fun h2 => ?_)
  ·rw [if_pos h2] at r7
   refine c_draw mixed (by kernel_rfl) (mP e0_1 (zI rfl (zf fa163_0 rfl (zL 0 z9 rfl rfl rfl (zg (fun _ => R_slen st9 rfl (by omega)) (mP e0_1 (zI rfl (zf fa163_1 rfl (zL 0 z3 rfl rfl rfl (zg (fun _ => R_subi rfl rfl (by omega)) (aI rfl (yB (zr (mP e0_1 (zI rfl (zf fa163_1 rfl (zL 0 z3 rfl rfl rfl (mI rfl (zg (fun _ => R_addi rfl rfl (by omega)) (zI rfl (zf fa163_1 rfl (zV 0 rfl z3 rfl rfl rfl rfl rfl rfl rfl (zn (zO (?_)))))))))))))))))))))))))
   have r3 := cmt_run h1
   have r4 := r7
   exact k_again _ (by omega) ⟨s.length, (by assumption), (by rfl), congrArg (fun x : Int => [(p, cel [str s, .int .i64 x] 163)]) (by omega), by omega, by rw [← p1_1, skipTo_eq p0_1, if_pos h1, r4], rfl⟩
  ·rw [if_neg h2] at r7
   refine zi (zk (zr (mP e0_1 (zI rfl (zf fa163_1 rfl (zL 0 z3 rfl rfl rfl (mI rfl (zg (fun _ => R_addi rfl rfl (by omega)) (zI rfl (zf fa163_1 rfl (zV 0 rfl z3 rfl rfl rfl rfl rfl rfl rfl (zn (zO (?_))))))))))))))
   have r3 := cmt_run h1
   have r4 := r7
   exact k_again _ (by omega) ⟨runTo notNl s (runTo blankB s k), (by assumption), (by rfl), congrArg (fun x : Int => [(p, cel [str s, .int .i64 x] 163)]) (by omega), by omega, by rw [← p1_1, skipTo_eq p0_1, if_pos h1], rfl⟩

theorem name_spec (p : Nat) (s : List UInt8) (j : Nat) (w : World) (hp : w.heap[p]? = some (cel [str s, .int .i64 (j : Nat)] 163)) (hs : s.length ≤ 10000000) (hj : j ≤ s.length) :
  Ret Tryz.prog 149 #[.pointer (some ⟨p, 0, none⟩)] w (fun v w' => v = .tuple #[.int .u8 (if nameB s j then 1 else 0), .bool (nameB s j)] ∧ Fr (fun i => i = p) w w' ∧ w'.heap[p]? = some (cel [str s, .int .i64 (if nameB s j then runTo wordB s j else j : Nat)] 163)) := by
 refine enter (S := (fun i => i = p)) (l := [_]) (L := [(p, cel [str s, .int .i64 (j : Nat)] 163)]) 13 Tryz.func149 rfl rfl rfl (St.start1 w hp rfl) (yA (aI rfl (aB rfl (yB (zq (yA (mP rfl (zC (fun w => zR Tryz.func162 rfl rfl rfl) rfl rfl (fun w h => is_spec p s _ _ (con_one 95) _ 0 w (h.at_ 0 rfl) hs (by omega) (by decide)) (mB rfl ?_))))))))); refine zp (t := 6) rfl (fun h1 => ?_) (fun h1 => ?_)
 ·refine zs rfl rfl (bV h1) (zs rfl rfl (bV h1) (zs rfl rfl (bV h1) (zg (v := .bool _) (fun _ => zT (bV h1) rfl) (yB (zE rfl (yA (aI rfl (aB rfl (yB (ze (zt (?_))))))))))))
  have h0 : nameB s j = false := by simp only [nameB]; rw [show atP (eqB 95) s j = true from h1]; simp
  rw [h0]
  refine r_two (v := .int _ _) (v2 := .bool _) rfl rfl rfl rfl rfl ?_; exact fun w' hw => ⟨rfl, hw.fr _ zm0, hw.at_ 0 rfl⟩
 ·refine zw rfl rfl (bV h1) (mP rfl (zw rfl rfl (bV h1) (zC (fun w => zR Tryz.func162 rfl rfl rfl) rfl rfl (fun w h => is_spec p s _ _ con_letters _ 0 w (h.at_ 0 rfl) hs (by omega) (by decide)) (zw rfl rfl (bV h1) (zg (fun _ => R_not rfl) (zg (v := .bool _) (fun _ => zF (bV h1) rfl) (yB ?_))))))); refine c_condN rfl (fun h2 => ?_) (fun h2 => ?_)
  ·refine yA (aI rfl (aB rfl (yB (ze (zt (?_))))))
   have h0 : nameB s j = false := by simp only [nameB]; rw [show atP letterB s j = false from h2]; rfl
   rw [h0]
   refine r_two (v := .int _ _) (v2 := .bool _) rfl rfl rfl rfl rfl ?_; exact fun w' hw => ⟨rfl, hw.fr _ zm0, hw.at_ 0 rfl⟩
  ·refine zi (zk (yA (mP rfl (w_call1 0 rfl (fun w => zR Tryz.func163 rfl rfl rfl) rfl rfl (fun w h => run_spec p s _ _ con_words _ w (h.at_ 0 rfl) hs (by omega)) (yC (aI rfl (aB rfl (yB (ze ?_)))))))))
   have h0 : nameB s j = true := by simp only [nameB]; rw [show atP (eqB 95) s j = false from h1, show atP letterB s j = true from h2]; rfl
   rw [h0]
   refine r_two (v := .int _ _) (v2 := .bool _) rfl rfl rfl rfl rfl ?_; exact fun w' hw => ⟨rfl, hw.fr _ zm0, hw.at_ 0 rfl⟩

theorem number_spec (p : Nat) (s : List UInt8) (j : Nat) (w : World) (hp : w.heap[p]? = some (cel [str s, .int .i64 (j : Nat)] 163)) (hs : s.length ≤ 10000000) (hj : j ≤ s.length) :
  Ret Tryz.prog 150 #[.pointer (some ⟨p, 0, none⟩)] w (fun v w' => v = .tuple #[.int .u8 (if atP digitB s j then 2 else 0), .bool (if atP digitB s j then numFine s j else false)] ∧ Fr (fun i => i = p) w w' ∧ w'.heap[p]? = some (cel [str s, .int .i64 (if atP digitB s j then numEnd s j else j : Nat)] 163)) := by
 have g1 := runTo_le (p := digitB) hj
 have g2 := runTo_ge digitB s j
 refine enter (S := (fun i => i = p)) (l := [_]) (L := [(p, cel [str s, .int .i64 (j : Nat)] 163)]) 66 Tryz.func150 rfl rfl rfl (St.start1 w hp rfl) (yA (aI rfl (aB rfl (yB (zq (yA (mP rfl (w_call1 0 rfl (fun w => zR Tryz.func163 rfl rfl rfl) rfl rfl (fun w h => run_spec p s _ _ con_digits _ w (h.at_ 0 rfl) hs (by omega)) (zg (fun _ => R_eq rfl rfl) (yB ?_)))))))))); refine zD rfl (fun h1 => ?_) (fun h1 => ?_)
 ·(try simp only [Nat.add_zero] at h1); (try have qh1 := atP_lt h1)
  have g0 := run_zero digitB s j
  refine yA (aI rfl (aB rfl (yB (ze (zt (?_))))))
  have g5 : atP digitB s j = false := by rw [← g0]; omega
  rw [g5]
  refine r_two (v := .int _ _) (v2 := .bool _) rfl rfl rfl rfl rfl ?_; exact fun w' hw => ⟨rfl, hw.fr _ zm0, by have := hw.at_ 0 rfl; rw [runTo_stop g5] at this; exact this⟩
 ·(try simp only [Nat.add_zero] at h1)
  have g0 := run_zero digitB s j
  refine zi (zk ?_); refine c_cut (fun e B L => e 0 = .pointer (some ⟨p, 0, none⟩) ∧ B = [(w, (fun i => i = p))] ∧ L = [(p, cel [str s, .int .i64 (numDot s (runTo digitB s j) : Nat)] 163)]) ?_ ?_
  ·(try simp only [Nat.add_zero] at mid1); (try have qmid1 := atP_lt mid1)
   refine yA (mP rfl (zC (fun w => zR Tryz.func162 rfl rfl rfl) rfl rfl (fun w h => is_spec p s _ _ (con_one 46) _ 0 w (h.at_ 0 rfl) hs (by omega) (by decide)) (mB rfl ?_))); refine zp (t := 10) rfl (fun h2 => ?_) (fun h2 => ?_)
   ·(try simp only [Nat.add_zero] at h2); (try have qh2 := atP_lt h2)
    refine zw rfl rfl (bV h2) (mP rfl (zw rfl rfl (bV h2) (zC (fun w => zR Tryz.func162 rfl rfl rfl) rfl rfl (fun w h => is_spec p s _ _ con_digits _ 1 w (h.at_ 0 rfl) hs (by omega) (by decide)) (zg (v := .bool _) (fun _ => zT (bV h2) rfl) (yB ?_))))); refine c_cond rfl (fun h3 => ?_) (fun h3 => ?_)
    ·(try simp only [Nat.add_zero] at h3); (try have qh3 := atP_lt h3)
     refine yA (mP rfl (zI rfl (zf fa163_1 rfl (zL 0 z3 rfl rfl rfl (zg (fun _ => R_addi rfl rfl (by omega)) (zI rfl (zf fa163_1 rfl (zV 0 rfl z3 rfl rfl rfl rfl rfl rfl rfl (yB (zr (mP rfl (w_call1 0 rfl (fun w => zR Tryz.func163 rfl rfl rfl) rfl rfl (fun w h => run_spec p s _ _ con_digits ((runTo digitB s j) + 1) w (h.at_ 0 rfl) hs (by omega)) (zn ?_))))))))))))); exact k_mid ⟨rfl, rfl, by rw [numDot, if_pos (by rw [h2, h3]; rfl)]; rfl⟩
    ·(try simp only [Nat.add_zero] at h3)
     refine zi ?_; exact k_mid ⟨rfl, rfl, by rw [numDot, if_neg (by rw [h2, h3]; simp)]; rfl⟩
   ·(try simp only [Nat.add_zero] at h2)
    refine zs rfl rfl (bV h2) (zs rfl rfl (bV h2) (zg (v := .bool _) (fun _ => zF (bV h2) rfl) (yB (zG rfl (zi ?_))))); exact k_mid ⟨rfl, rfl, by rw [numDot, if_neg (by rw [h2]; simp)]; rfl⟩
  rintro e B L ⟨e0_1, rfl, rfl⟩
  have g3 := numDot_le (runTo_le (p := digitB) hj)
  refine yA (aI rfl (yB ?_)); refine c_cut (fun e B L => e 0 = .pointer (some ⟨p, 0, none⟩) ∧ e 4 = .int .i64 ((numTens s (numDot s (runTo digitB s j))).1 : Nat) ∧ B = [(w, (fun i => i = p))] ∧ L = [(p, cel [str s, .int .i64 ((numTens s (numDot s (runTo digitB s j))).2 : Nat)] 163)]) ?_ ?_
  ·(try simp only [Nat.add_zero] at mid2); (try have qmid2 := atP_lt mid2)
   refine zB (yA (mP e0_1 (zC (fun w => zR Tryz.func162 rfl rfl rfl) rfl rfl (fun w h => is_spec p s _ _ (con_one 101) _ 0 w (h.at_ 0 rfl) hs (by omega) (by decide)) (mB rfl ?_)))); refine zp (t := 26) rfl (fun h4 => ?_) (fun h4 => ?_)
   ·(try simp only [Nat.add_zero] at h4); (try have qh4 := atP_lt h4)
    refine zw rfl rfl (bV h4) (mP e0_1 (zw rfl rfl (bV h4) (zC (fun w => zR Tryz.func162 rfl rfl rfl) rfl rfl (fun w h => is_spec p s _ _ con_digits _ 1 w (h.at_ 0 rfl) hs (by omega) (by decide)) (zg (v := .bool _) (fun _ => zT (bV h4) rfl) (aB rfl (yB ?_)))))); refine c_cond rfl (fun h5 => ?_) (fun h5 => ?_)
    ·(try simp only [Nat.add_zero] at h5); (try have qh5 := atP_lt h5)
     refine yA (mP e0_1 (zI rfl (zf fa163_1 rfl (zL 0 z3 rfl rfl rfl (zg (fun _ => R_addi rfl rfl (by omega)) (zI rfl (zf fa163_1 rfl (zV 0 rfl z3 rfl rfl rfl rfl rfl rfl rfl (yB (zr (mP e0_1 (w_call1 0 rfl (fun w => zR Tryz.func163 rfl rfl rfl) rfl rfl (fun w h => run_spec p s _ _ con_digits ((numDot s (runTo digitB s j)) + 1) w (h.at_ 0 rfl) hs (by omega)) (aI rfl (zn (zO (?_))))))))))))))))
     have e4 : numTens s (numDot s (runTo digitB s j)) = (runTo digitB s ((numDot s (runTo digitB s j)) + 1) - ((numDot s (runTo digitB s j)) + 1), runTo digitB s ((numDot s (runTo digitB s j)) + 1)) := by rw [numTens, if_pos (by rw [h4, h5]; rfl)]
     exact k_mid ⟨e0_1, by rw [e4]; rfl, rfl, by rw [e4]; rfl⟩
    ·(try simp only [Nat.add_zero] at h5)
     refine yA (mP e0_1 (zC (fun w => zR Tryz.func162 rfl rfl rfl) rfl rfl (fun w h => is_spec p s _ _ (con_one 101) _ 0 w (h.at_ 0 rfl) hs (by omega) (by decide)) (mB rfl ?_))); refine zp (t := 42) rfl (fun h6 => ?_) (fun h6 => ?_)
     ·(try simp only [Nat.add_zero] at h6); (try have qh6 := atP_lt h6)
      refine zw rfl rfl (bV h6) (mP e0_1 (zw rfl rfl (bV h6) (zC (fun w => zR Tryz.func162 rfl rfl rfl) rfl rfl (fun w h => is_spec p s _ _ con_pm _ 1 w (h.at_ 0 rfl) hs (by omega) (by decide)) (zg (v := .bool _) (fun _ => zT (bV h6) rfl) (mB rfl ?_))))); refine zp (t := 46) rfl (fun h7 => ?_) (fun h7 => ?_)
      ·(try simp only [Nat.add_zero] at h7); (try have qh7 := atP_lt h7)
       refine zw rfl rfl (bV h7) (mP e0_1 (zw rfl rfl (bV h7) (zC (fun w => zR Tryz.func162 rfl rfl rfl) rfl rfl (fun w h => is_spec p s _ _ con_digits _ 2 w (h.at_ 0 rfl) hs (by omega) (by decide)) (zg (v := .bool _) (fun _ => zT (bV h7) rfl) (aB rfl (yB ?_)))))); refine c_cond rfl (fun h8 => ?_) (fun h8 => ?_)
       ·(try simp only [Nat.add_zero] at h8); (try have qh8 := atP_lt h8)
        refine yA (mP e0_1 (zI rfl (zf fa163_1 rfl (zL 0 z3 rfl rfl rfl (zg (fun _ => R_addi rfl rfl (by omega)) (zI rfl (zf fa163_1 rfl (zV 0 rfl z3 rfl rfl rfl rfl rfl rfl rfl (yB (zr (mP e0_1 (w_call1 0 rfl (fun w => zR Tryz.func163 rfl rfl rfl) rfl rfl (fun w h => run_spec p s _ _ con_digits ((numDot s (runTo digitB s j)) + 2) w (h.at_ 0 rfl) hs (by omega)) (aI rfl (zn (zO (?_))))))))))))))))
        have e4 : numTens s (numDot s (runTo digitB s j)) = (runTo digitB s ((numDot s (runTo digitB s j)) + 2) - ((numDot s (runTo digitB s j)) + 2), runTo digitB s ((numDot s (runTo digitB s j)) + 2)) := by rw [numTens, if_neg (by rw [h4, h5]; simp), if_pos (by rw [h6, h7, h8]; rfl)]
        exact k_mid ⟨e0_1, by rw [e4]; rfl, rfl, by rw [e4]; rfl⟩
       ·(try simp only [Nat.add_zero] at h8)
        refine zi (zO (?_))
        have e4 : numTens s (numDot s (runTo digitB s j)) = (0, (numDot s (runTo digitB s j))) := by rw [numTens, if_neg (by rw [h4, h5]; simp), if_neg (by rw [h6, h7, h8]; simp)]
        exact k_mid ⟨e0_1, by rw [e4]; rfl, rfl, by rw [e4]; done⟩
      ·(try simp only [Nat.add_zero] at h7)
       refine zs rfl rfl (bV h7) (zs rfl rfl (bV h7) (zg (v := .bool _) (fun _ => zF (bV h7) rfl) (aB rfl (yB (zG rfl (zi (zO (?_))))))))
       have e4 : numTens s (numDot s (runTo digitB s j)) = (0, (numDot s (runTo digitB s j))) := by rw [numTens, if_neg (by rw [h4, h5]; simp), if_neg (by rw [h6, h7]; simp)]
       exact k_mid ⟨e0_1, by rw [e4]; rfl, rfl, by rw [e4]; done⟩
     ·(try simp only [Nat.add_zero] at h6)
      refine zs rfl rfl (bV h6) (zs rfl rfl (bV h6) (zg (v := .bool _) (fun _ => zF (bV h6) rfl) (mB rfl ?_))); (iterate 2 refine zs rfl rfl rfl ?_); refine zg (v := .bool _) (fun _ => zF rfl rfl) (aB rfl (yB (zG rfl (zi (zO (?_))))))
      have e4 : numTens s (numDot s (runTo digitB s j)) = (0, (numDot s (runTo digitB s j))) := by rw [numTens, if_neg (by rw [h4, h5]; simp), if_neg (by rw [h6]; simp)]
      exact k_mid ⟨e0_1, by rw [e4]; rfl, rfl, by rw [e4]; done⟩
   ·(try simp only [Nat.add_zero] at h4)
    refine zs rfl rfl (bV h4) (zs rfl rfl (bV h4) (zg (v := .bool _) (fun _ => zF (bV h4) rfl) (aB rfl (yB (zG rfl (yA (mP e0_1 (zC (fun w => zR Tryz.func162 rfl rfl rfl) rfl rfl (fun w h => is_spec p s _ _ (con_one 101) _ 0 w (h.at_ 0 rfl) hs (by omega) (by decide)) (mB rfl ?_))))))))); refine zp (t := 42) rfl (fun h9 => ?_) (fun h9 => ?_)
    ·rw [Nat.add_zero] at h9; rw [h4] at h9; cases h9
    ·(try simp only [Nat.add_zero] at h9)
     refine zs rfl rfl (bV h9) (zs rfl rfl (bV h9) (zg (v := .bool _) (fun _ => zF (bV h9) rfl) (mB rfl ?_))); (iterate 2 refine zs rfl rfl rfl ?_); refine zg (v := .bool _) (fun _ => zF rfl rfl) (aB rfl (yB (zG rfl (zi (zO (?_))))))
     have e4 : numTens s (numDot s (runTo digitB s j)) = (0, (numDot s (runTo digitB s j))) := by rw [numTens, if_neg (by rw [h4]; simp), if_neg (by rw [h4]; simp)]
     exact k_mid ⟨e0_1, by rw [e4]; rfl, rfl, by rw [e4]; done⟩
  rintro e B L ⟨e0_2, e4_2, rfl, rfl⟩
  have g4 := numTens_le g3.1
  refine yA (mI e4_2 (zg (fun _ => R_le rfl rfl) (mB rfl ?_))); refine zd (t := 61) rfl (fun h10 => ?_) (fun h10 => ?_)
  ·(try simp only [Nat.add_zero] at h10); (try have qh10 := atP_lt h10)
   refine zw rfl rfl (bT h10) (mP e0_2 (zw rfl rfl (bT h10) (zC (fun w => zR Tryz.func162 rfl rfl rfl) rfl rfl (fun w h => is_spec p s _ _ con_tails _ 0 w (h.at_ 0 rfl) hs (by omega) (by decide)) (zw rfl rfl (bT h10) (zg (fun _ => R_not rfl) (zg (v := .bool _) (fun _ => zT (bT h10) rfl) (aI rfl (aB rfl (yB (ze ?_))))))))))
   have g5 : atP digitB s j = true := by cases hc : atP digitB s j; exact absurd (g0.mpr hc) (by omega); rfl
   have g6 : numFine s j = !atP tailB s (numEnd s j) := by rw [numFine, decide_eq_true (by omega)]; rfl
   rw [g5, if_pos rfl, if_pos rfl, if_pos rfl, g6]
   refine r_two (v := .int _ _) (v2 := .bool _) rfl rfl rfl rfl rfl ?_; exact fun w' hw => ⟨rfl, hw.fr _ zm0, hw.at_ 0 rfl⟩
  ·(try simp only [Nat.add_zero] at h10)
   refine zs rfl rfl (bF h10) (zs rfl rfl (bF h10) (zs rfl rfl (bF h10) (zg (v := .bool _) (fun _ => zF (bF h10) rfl) (aI rfl (aB rfl (yB (ze ?_)))))))
   have g5 : atP digitB s j = true := by cases hc : atP digitB s j; exact absurd (g0.mpr hc) (by omega); rfl
   have g6 : numFine s j = false := by rw [numFine, decide_eq_false (by omega)]; rfl
   rw [g5, if_pos rfl, if_pos rfl, if_pos rfl, g6]
   refine r_two (v := .int _ _) (v2 := .bool _) rfl rfl rfl rfl rfl ?_; exact fun w' hw => ⟨rfl, hw.fr _ zm0, hw.at_ 0 rfl⟩

theorem sign_spec (p : Nat) (s : List UInt8) (j : Nat) (w : World) (hp : w.heap[p]? = some (cel [str s, .int .i64 (j : Nat)] 163)) (hs : s.length ≤ 10000000) (hj : j ≤ s.length) (ht : Tb w) (hg : 1 < p) :
  Ret Tryz.prog 151 #[.pointer (some ⟨p, 0, none⟩)] w (fun v w' => v = .tuple #[.int .u8 (if signLen s j = 0 then 0 else 3), .bool (!decide (signLen s j = 0))] ∧ Fr (fun i => i = p) w w' ∧ w'.heap[p]? = some (cel [str s, .int .i64 (j + signLen s j : Nat)] 163)) := by
 refine enter (S := (fun i => i = p)) (l := [_]) (L := [(p, cel [str s, .int .i64 (j : Nat)] 163)]) 33 Tryz.func151 rfl rfl rfl (St.start1 w hp rfl) (yA (aI rfl (aB rfl (yB (zq (yA (w_callN (g := fun b => .slice (some ⟨b, 0, none⟩) 22 22) (fun w => zR Tryz.func164 rfl rfl rfl) rfl rfl (fun w h => Fields_signs _ rfl w (ht.fr (h.fr _ zm0) (by intro hh; omega))) (fun fb gfb ufb => zg (fun _ => R_len sl153 rfl) (mI rfl (yB (zB ?_))))))))))); refine c_loop (fun m e B L => ∃ (k : Nat), e 0 = .pointer (some ⟨p, 0, none⟩) ∧ e 6 = .slice (some ⟨fb, 0, none⟩) 22 22 ∧ e 7 = .int .i64 22 ∧ e 8 = .int .i64 (k : Nat) ∧ B = [(w, (fun i => i = p))] ∧ L = [(fb, cel (signsL.map str) 9), (p, cel [str s, .int .i64 (j : Nat)] 163)] ∧ k ≤ 22 ∧ (signsL.take k).find? (fun t => t.isPrefixOf (s.drop j)) = none ∧ m = 22 - k) _ ⟨0, rfl, rfl, rfl, rfl, rfl, rfl, by omega, rfl, rfl⟩ ?_
 rintro m e B L ⟨k, e0_1, e6_1, e7_1, e8_1, rfl, rfl, p0_1, p1_1, rfl⟩
 have r1 := sig_len k
 refine yA (zg (fun _ => R_lt e8_1 e7_1) (yB (zq ?_))); refine zD rfl (fun h1 => ?_) (fun h1 => ?_)
 ·refine zi (zk (zq (zB (yA (zg (fun _ => R_iaN (i := k) sl153 e6_1 e8_1 (by omega)) ?_))))); refine zl z9 rfl (fun _ h => by exact zc 0 rfl (sig_at (by omega)) h) ?_; refine za (v := str _) rfl (yB (zq (c_draw mixed (by kernel_rfl) (mP e0_1 (zI rfl (zf fa163_0 rfl (zL 1 z9 rfl rfl rfl (mP e0_1 (zI rfl (zf fa163_1 rfl (zL 1 z3 rfl rfl rfl (zg (fun _ => R_ssl_loN st9 rfl rfl (by omega)) (zm (v := str _) rfl (zC (fun w => zR Tryz.func165 rfl rfl rfl) rfl rfl (fun w h => HasPrefix_spec _ _ w) ?_))))))))))))))
  refine yB ?_; refine c_cond rfl (fun h2 => ?_) (fun h2 => ?_)
  ·refine yA (mP e0_1 (zI rfl (zf fa163_1 rfl (zL 1 z3 rfl rfl rfl (zm (v := str _) rfl (zg (fun _ => R_slen st9 rfl (by omega)) (zg (fun _ => R_addi rfl rfl (by omega)) (zI rfl (zf fa163_1 rfl (zV 1 rfl z3 rfl rfl rfl rfl rfl rfl rfl (yC (aI rfl (aB rfl (yB (ze (zb (zt (zt (zb (zt (?_)))))))))))))))))))))
   have r2 := sig_found (by omega) p1_1 h2
   rw [r2]
   refine r_two (v := .int _ _) (v2 := .bool _) rfl rfl rfl rfl rfl ?_; exact fun w' hw => ⟨by rw [if_neg (by have := sig_pos k (by omega); omega), decide_eq_false (by have := sig_pos k (by omega); omega)]; rfl, hw.fr _ zm0, hw.at_ 1 rfl⟩
  ·refine zi (zO (zk (zr (zg (fun _ => R_addi e8_1 rfl (by omega)) (mI rfl (zn ?_)))))); exact k_again _ (by omega) ⟨k + 1, e0_1, e6_1, e7_1, rfl, rfl, rfl, by omega, sig_step (by omega) p1_1 h2, rfl⟩
 ·refine zX (zx (zx (b_here rfl (zk (yA (aI rfl (aB rfl (yB (ze ?_)))))))))
  have r2 := sig_none (by omega) p1_1
  rw [r2]
  refine r_two (v := .int _ _) (v2 := .bool _) rfl rfl rfl rfl rfl ?_; exact fun w' hw => ⟨rfl, hw.fr _ zm0, hw.at_ 1 rfl⟩
end Go.Proofs.YtoehjlmdnajibaaGreatDoor
end

section
namespace Go.Proofs.YtoehjlmdnajibaaGreatDoor
open Go.RowKit Go.Sx
open Go.Tok
variable {σ : Type}
def Rounds (J : Bool → σ → Heap → Prop) (nx : σ → Nat → List UInt8 → Nat → Bool → σ × Bool) (l : Nat) : Prop :=
 ∀ (x : σ) (k : Nat) (t : List UInt8) (a : Nat) (b : Bool) (Lc Lr : Heap) (B : Base) (w : World), t.length ≤ 10000000 → J true x Lc → St B (Lc ++ Lr) w →
  YieldAt (fw none) 0 Tryz.prog l #[.agg #[.int .u8 (k : Nat), str t, .int .i64 (a : Nat)], .bool b] w (fun en w' => ∃ v, en = .returned v ∧ ∃ Lc', v = .bool (nx x k t a b).2 ∧ J (nx x k t a b).2 (nx x k t a b).1 Lc' ∧ St B (Lc' ++ Lr) w')

theorem all1_spec (J : Bool → σ → Heap → Prop) (nx : σ → Nat → List UInt8 → Nat → Bool → σ × Bool) (hn : ∀ x k t a, (nx x k t a false).2 = false) (l p vb : Nat) (s : List UInt8) (hs : s.length ≤ 10000000) (hy : Rounds J nx l) (wb : World) (Sb : Nat → Prop) (ht : Tb wb) (hgl : ¬ Sb 1) (hg : 1 < p) (x0 : σ) (Lc0 Lr : Heap) (Bs : Base) (hB : (wb, Sb) ∈ Bs) (hJ0 : J true x0 Lc0) (w : World) (hw : St Bs ((vb, cel [.pointer (some ⟨p, 0, none⟩)] 161) :: (p, cel [str s, .int .i64 (0 : Nat)] 163) :: (Lc0 ++ Lr)) w) :
  Ret Tryz.prog 148 #[.func (.yield l) #[] #[], .pointer (some ⟨vb, 0, none⟩)] w (fun v w' => v = .tuple #[] ∧ ∃ (j : Nat) (g : Bool) (Lc' : Heap), J g (lexS nx s (skipTo s 0) x0) Lc' ∧ St Bs ((vb, cel [.pointer (some ⟨p, 0, none⟩)] 161) :: (p, cel [str s, .int .i64 (j : Nat)] 163) :: (Lc' ++ Lr)) w') := by
 have g0 := skipTo_le (s := s) (Nat.zero_le _)
 refine enterB (l := [_, _]) 67 Tryz.func148 rfl rfl rfl (hw) (yA (zg (fun _ => R_buildA ar180 zr180 rfl) (zA zr180 (fun b1 gb1 ub1 => zV 0 rfl z180 rfl rfl rfl rfl rfl rfl rfl (yC (zL 1 z161 rfl rfl rfl (w_call1 2 rfl (fun w => zR Tryz.func152 rfl rfl rfl) rfl rfl (fun w h => skip_spec p s _ w (h.at_ 2 rfl) hs (Nat.zero_le _)) (yB (zB (c_loop (fun m e B L => ∃ (k : Nat) (x : σ) (Lc : Heap), e 0 = .func (.yield l) #[] #[] ∧ e 1 = .pointer (some ⟨vb, 0, none⟩) ∧ e 3 = .pointer (some ⟨b1, 0, none⟩) ∧ Bs = B ∧ L = (b1, cel [.func (.func 149) #[] #[], .func (.func 150) #[] #[], .func (.func 151) #[] #[]] 180) :: (vb, cel [.pointer (some ⟨p, 0, none⟩)] 161) :: (p, cel [str s, .int .i64 (k : Nat)] 163) :: (Lc ++ Lr) ∧ k ≤ s.length ∧ J true x Lc ∧ lexS nx s k x = lexS nx s (skipTo s 0) x0 ∧ m = s.length - k) _ ⟨skipTo s 0, x0, Lc0, rfl, rfl, rfl, rfl, rfl, g0.1, hJ0, rfl, rfl⟩ ?_))))))))))
 rintro m e B L ⟨k, x, Lc, e0_1, e1_1, e3_1, rfl, rfl, hk, hJ, hl, rfl⟩
 have g2 := tok_le hk
 refine zq (zq (c_draw mixed (by kernel_rfl) (zL 1 z161 e1_1 rfl rfl (zI rfl (zf fa163_1 rfl (zL 2 z3 rfl rfl rfl (zL 1 z161 e1_1 rfl rfl (zI rfl (zf fa163_0 rfl (zL 2 z9 rfl rfl rfl (zg (fun _ => R_slen st9 rfl (by omega)) (zg (fun _ => R_lt rfl rfl) (yB ?_))))))))))))); refine zD rfl (fun h2 => ?_) (fun h2 => ?_)
 ·have hlt : k < s.length := by omega
  refine zi (zk (zq (zB (yA (zL 1 z161 e1_1 rfl rfl (zI rfl (zf fa163_1 rfl (zL 2 z3 rfl rfl rfl (zg (fun _ => R_build bt141 rfl) (zA zr141 (fun t4b gt4b ut4b => zV 0 rfl z141 rfl rfl rfl rfl rfl rfl rfl (yC (aB rfl (yB ?_)))))))))))))); refine c_cut (fun e B L => e 0 = .func (.yield l) #[] #[] ∧ e 1 = .pointer (some ⟨vb, 0, none⟩) ∧ e 3 = .pointer (some ⟨b1, 0, none⟩) ∧ e 4 = .pointer (some ⟨t4b, 0, none⟩) ∧ e 5 = .bool (tokAt s k).2.2 ∧ Bs = B ∧ L = (t4b, cel [.int .u8 ((tokAt s k).1 : Nat), str ([]), .int .i64 (k : Nat)] 141) :: (b1, cel [.func (.func 149) #[] #[], .func (.func 150) #[] #[], .func (.func 151) #[] #[]] 180) :: (vb, cel [.pointer (some ⟨p, 0, none⟩)] 161) :: (p, cel [str s, .int .i64 ((tokAt s k).2.1 : Nat)] 163) :: (Lc ++ Lr)) ?_ ?_
  ·refine yA (zY z180 e3_1 (fun _ h => h.at_ 1 rfl) rfl (mI rfl (yB (zB (c_rounds 4 (yA (zg (fun _ => R_lt rfl rfl) (yB (zq (zE (congrArg Value.bool (decide_eq_true (by decide))) (zi (zk (zq (zB (yA (zg (fun _ => R_aidx (i := 0) ar180 rfl rfl rfl rfl) (za rfl (yC (zm rfl (zL 2 z161 e1_1 rfl rfl ?_))))))))))))))))))))
   cases hN : nameB s k
   ·refine w_call1 3 rfl (fun w => R_callv rfl Tryz.func149 rfl rfl) rfl rfl (fun w h => by have hh := name_spec p s _ w (h.at_ 3 rfl) hs (by omega); simp only [hN, Bool.false_eq_true, if_false, if_true, ↓reduceIte, decide_true, decide_false, Bool.not_true, Bool.not_false, Nat.add_zero] at hh; exact hh) ?_; refine zm rfl (zg (fun _ => R_extract rfl rfl) (zg (fun _ => R_extract rfl rfl) (zf fa141_0 rfl (zV 0 rfl z5 rfl rfl rfl rfl rfl rfl rfl (aB rfl (yB (zq (c_draw mixed (by kernel_rfl) (mB rfl (mB rfl (zw rfl rfl rfl (zL 2 z161 e1_1 rfl rfl (zw rfl rfl rfl (zI rfl ?_))))))))))))))
    refine zw rfl rfl rfl (zf fa163_1 rfl (zw rfl rfl rfl (zL 3 z3 rfl rfl rfl (zw rfl rfl rfl (zf fa141_2 rfl (zw rfl rfl rfl (zL 0 z3 rfl rfl rfl (zw rfl rfl rfl (zg (fun _ => R_gt rfl rfl) (zg (v := .bool _) (fun _ => zF rfl rfl) (yB ?_))))))))))); refine zD rfl (fun h4 => ?_) (fun h4 => ?_)
    ·omega
    ·refine zi (zO (zk (zr (zg (fun _ => R_addi rfl rfl (by omega)) (mI rfl (zn (k_rounds (yA (zg (fun _ => R_lt rfl rfl) (yB (zq (zE (congrArg Value.bool (decide_eq_true (by decide))) (zi (zk (zq (zB (yA (zg (fun _ => R_aidx (i := 1) ar180 rfl rfl rfl rfl) (za rfl (yC (zm rfl (zL 2 z161 e1_1 rfl rfl ?_))))))))))))))))))))))
     cases hD : atP digitB s k
     ·refine w_call1 3 rfl (fun w => R_callv rfl Tryz.func150 rfl rfl) rfl rfl (fun w h => by have hh := number_spec p s _ w (h.at_ 3 rfl) hs (by omega); simp only [hD, Bool.false_eq_true, if_false, if_true, ↓reduceIte, decide_true, decide_false, Bool.not_true, Bool.not_false, Nat.add_zero] at hh; exact hh) ?_; refine zm rfl (zg (fun _ => R_extract rfl rfl) (zg (fun _ => R_extract rfl rfl) (zf fa141_0 rfl (zV 0 rfl z5 rfl rfl rfl rfl rfl rfl rfl (aB rfl (yB (zq (c_draw mixed (by kernel_rfl) (mB rfl (mB rfl (zw rfl rfl rfl (zL 2 z161 e1_1 rfl rfl (zw rfl rfl rfl (zI rfl ?_))))))))))))))
      refine zw rfl rfl rfl (zf fa163_1 rfl (zw rfl rfl rfl (zL 3 z3 rfl rfl rfl (zw rfl rfl rfl (zf fa141_2 rfl (zw rfl rfl rfl (zL 0 z3 rfl rfl rfl (zw rfl rfl rfl (zg (fun _ => R_gt rfl rfl) (zg (v := .bool _) (fun _ => zF rfl rfl) (yB ?_))))))))))); refine zD rfl (fun h5 => ?_) (fun h5 => ?_)
      ·omega
      ·refine zi (zO (zk (zr (zg (fun _ => R_addi rfl rfl (by omega)) (mI rfl (zn (k_rounds (yA (zg (fun _ => R_lt rfl rfl) (yB (zq (zE (congrArg Value.bool (decide_eq_true (by decide))) (zi (zk (zq (zB (yA (zg (fun _ => R_aidx (i := 2) ar180 rfl rfl rfl rfl) (za rfl (yC (zm rfl (zL 2 z161 e1_1 rfl rfl ?_))))))))))))))))))))))
       rcases Classical.em (signLen s k = 0) with hS | hS
       ·refine w_call1 3 rfl (fun w => R_callv rfl Tryz.func151 rfl rfl) rfl rfl (fun w h => by have hh := sign_spec p s _ w (h.at_ 3 rfl) hs (by omega) (ht.fr (h.fr _ hB) hgl) hg; simp only [hS, Bool.false_eq_true, if_false, if_true, ↓reduceIte, decide_true, decide_false, Bool.not_true, Bool.not_false, Nat.add_zero] at hh; exact hh) ?_; refine zm rfl (zg (fun _ => R_extract rfl rfl) (zg (fun _ => R_extract rfl rfl) (zf fa141_0 rfl (zV 0 rfl z5 rfl rfl rfl rfl rfl rfl rfl (aB rfl (yB (zq (c_draw mixed (by kernel_rfl) (mB rfl (mB rfl (zw rfl rfl rfl (zL 2 z161 e1_1 rfl rfl (zw rfl rfl rfl (zI rfl ?_))))))))))))))
        refine zw rfl rfl rfl (zf fa163_1 rfl (zw rfl rfl rfl (zL 3 z3 rfl rfl rfl (zw rfl rfl rfl (zf fa141_2 rfl (zw rfl rfl rfl (zL 0 z3 rfl rfl rfl (zw rfl rfl rfl (zg (fun _ => R_gt rfl rfl) (zg (v := .bool _) (fun _ => zF rfl rfl) (yB ?_))))))))))); refine zD rfl (fun h6 => ?_) (fun h6 => ?_)
        ·omega
        ·refine zi (zO (zk (zr (zg (fun _ => R_addi rfl rfl (by omega)) (mI rfl (zn (k_rounds (yA (zg (fun _ => R_lt rfl rfl) (yB (zq (zG (congrArg Value.bool (decide_eq_false (by decide))) (zX (zx (zx (b_here rfl (?_)))))))))))))))))
         have e0 : tokAt s k = (0, k, false) := by rw [tokAt, if_neg (by rw [hN]; simp), if_neg (by rw [hD]; simp), if_pos hS]
         exact k_mid ⟨e0_1, e1_1, e3_1, rfl, by rw [e0]; rfl, rfl, by rw [e0]; rfl⟩
       ·refine w_call1 3 rfl (fun w => R_callv rfl Tryz.func151 rfl rfl) rfl rfl (fun w h => by have hh := sign_spec p s _ w (h.at_ 3 rfl) hs (by omega) (ht.fr (h.fr _ hB) hgl) hg; simp only [hS, Bool.false_eq_true, if_false, if_true, ↓reduceIte, decide_true, decide_false, Bool.not_true, Bool.not_false, Nat.add_zero] at hh; exact hh) ?_; refine zm rfl (zg (fun _ => R_extract rfl rfl) (zg (fun _ => R_extract rfl rfl) (zf fa141_0 rfl (zV 0 rfl z5 rfl rfl rfl rfl rfl rfl rfl (aB rfl (yB (zq (c_draw mixed (by kernel_rfl) (mB rfl ?_)))))))))
        refine mB rfl ?_; (iterate 7 refine zs rfl rfl rfl ?_); refine zg (v := .bool _) (fun _ => zT rfl rfl) (yB (zE rfl (zX (b_past rfl (zx (zx (b_here rfl (?_))))))))
        have e0 : tokAt s k = (3, k + signLen s k, true) := by rw [tokAt, if_neg (by rw [hN]; simp), if_neg (by rw [hD]; simp), if_neg hS]
        exact k_mid ⟨e0_1, e1_1, e3_1, rfl, by rw [e0]; rfl, rfl, by rw [e0]; rfl⟩
     ·refine w_call1 3 rfl (fun w => R_callv rfl Tryz.func150 rfl rfl) rfl rfl (fun w h => by have hh := number_spec p s _ w (h.at_ 3 rfl) hs (by omega); simp only [hD, Bool.false_eq_true, if_false, if_true, ↓reduceIte, decide_true, decide_false, Bool.not_true, Bool.not_false, Nat.add_zero] at hh; exact hh) ?_; refine zm rfl (zg (fun _ => R_extract rfl rfl) (zg (fun _ => R_extract rfl rfl) (zf fa141_0 rfl (zV 0 rfl z5 rfl rfl rfl rfl rfl rfl rfl (aB rfl (yB (zq (c_draw mixed (by kernel_rfl) (mB rfl (mB rfl ?_)))))))))); refine zp (t := 40) rfl (fun h7 => ?_) (fun h7 => ?_)
      ·refine zs rfl rfl (bV h7) (zs rfl rfl (bV h7) (zs rfl rfl (bV h7) (zs rfl rfl (bV h7) (zs rfl rfl (bV h7) (zs rfl rfl (bV h7) (zs rfl rfl (bV h7) (zg (v := .bool _) (fun _ => zT (bV h7) rfl) (yB (zE rfl (zX (b_past rfl (zx (zx (b_here rfl (?_)))))))))))))))
       have e0 : tokAt s k = (2, numEnd s k, true) := by rw [tokAt, if_neg (by rw [hN]; simp), if_pos hD, h7]
       exact k_mid ⟨e0_1, e1_1, e3_1, rfl, by rw [e0]; exact congrArg Value.bool h7, rfl, by rw [e0]; rfl⟩
      ·refine zw rfl rfl (bV h7) (zL 2 z161 e1_1 rfl rfl (zw rfl rfl (bV h7) (zI rfl (zw rfl rfl (bV h7) (zf fa163_1 rfl (zw rfl rfl (bV h7) (zL 3 z3 rfl rfl rfl (zw rfl rfl (bV h7) (zf fa141_2 rfl (zw rfl rfl (bV h7) (zL 0 z3 rfl rfl rfl (zw rfl rfl (bV h7) (zg (fun _ => R_gt rfl rfl) (zg (v := .bool _) (fun _ => zF (bV h7) rfl) (yB ?_))))))))))))))); refine zD rfl (fun h8 => ?_) (fun h8 => ?_)
       ·refine zX (b_past rfl (zx (zx (b_here rfl (?_)))))
        have e0 : tokAt s k = (2, numEnd s k, false) := by rw [tokAt, if_neg (by rw [hN]; simp), if_pos hD, h7]
        exact k_mid ⟨e0_1, e1_1, e3_1, rfl, by rw [e0]; exact congrArg Value.bool h7, rfl, by rw [e0]; rfl⟩
       ·exfalso; have := digit_run hD; have := numEnd_le hk; omega
   ·refine w_call1 3 rfl (fun w => R_callv rfl Tryz.func149 rfl rfl) rfl rfl (fun w h => by have hh := name_spec p s _ w (h.at_ 3 rfl) hs (by omega); simp only [hN, Bool.false_eq_true, if_false, if_true, ↓reduceIte, decide_true, decide_false, Bool.not_true, Bool.not_false, Nat.add_zero] at hh; exact hh) ?_; refine zm rfl (zg (fun _ => R_extract rfl rfl) (zg (fun _ => R_extract rfl rfl) (zf fa141_0 rfl (zV 0 rfl z5 rfl rfl rfl rfl rfl rfl rfl (aB rfl (yB (zq (c_draw mixed (by kernel_rfl) (mB rfl (mB rfl ?_)))))))))); (iterate 4 refine zs rfl rfl rfl ?_); refine zs rfl rfl rfl ?_
    (iterate 2 refine zs rfl rfl rfl ?_); refine zg (v := .bool _) (fun _ => zT rfl rfl) (yB (zE rfl (zX (b_past rfl (zx (zx (b_here rfl (?_))))))))
    have e0 : tokAt s k = (1, runTo wordB s k, true) := by rw [tokAt, if_pos hN]
    exact k_mid ⟨e0_1, e1_1, e3_1, rfl, by rw [e0]; rfl, rfl, by rw [e0]; rfl⟩
  rintro e B L ⟨e0_2, e1_2, e3_2, e4_2, e5_2, rfl, rfl⟩
  refine zq (c_tail 12 mixed (by kernel_rfl) (zL 2 z161 e1_2 rfl rfl (zI rfl (zf fa163_0 rfl (zL 3 z9 rfl rfl rfl (zf fa141_2 e4_2 (zL 0 z3 rfl rfl rfl (zL 2 z161 e1_2 rfl rfl (zI rfl (zf fa163_1 rfl (zL 3 z3 rfl rfl rfl (zg (fun _ => R_sslN st9 rfl rfl rfl (by omega) (by omega)) (zf fa141_1 e4_2 (w_tailst 0 rfl z9 rfl rfl rfl rfl rfl rfl rfl (zk (yA (zm e0_2 (zY z141 e4_2 (fun _ h => h.at_ 0 rfl) rfl (mB e5_2 (w_yield rfl (fun w h => hy x (tokAt s k).1 (tokTx s k) k (tokAt s k).2.2 Lc ([(t4b, cel [.int .u8 ((tokAt s k).1 : Nat), str (tokTx s k), .int .i64 (k : Nat)] 141), (b1, cel [.func (.func 149) #[] #[], .func (.func 150) #[] #[], .func (.func 151) #[] #[]] 180), (vb, cel [.pointer (some ⟨p, 0, none⟩)] 161), (p, cel [str s, .int .i64 ((tokAt s k).2.1 : Nat)] 163)] ++ Lr) Bs w (tokTx_len s k hs) hJ (h.perm (perm_mid [(t4b, cel [.int .u8 ((tokAt s k).1 : Nat), str (tokTx s k), .int .i64 (k : Nat)] 141), (b1, cel [.func (.func 149) #[] #[], .func (.func 150) #[] #[], .func (.func 151) #[] #[]] 180), (vb, cel [.pointer (some ⟨p, 0, none⟩)] 161), (p, cel [str s, .int .i64 ((tokAt s k).2.1 : Nat)] 163)] Lc Lr))) ?_))))))))))))))))))))
  rintro w h v w' ⟨Lc2, rfl, hJ2, hs2⟩
  refine ⟨Bs, [(t4b, cel [.int .u8 ((tokAt s k).1 : Nat), str (tokTx s k), .int .i64 (k : Nat)] 141), (b1, cel [.func (.func 149) #[] #[], .func (.func 150) #[] #[], .func (.func 151) #[] #[]] 180), (vb, cel [.pointer (some ⟨p, 0, none⟩)] 161), (p, cel [str s, .int .i64 ((tokAt s k).2.1 : Nat)] 163)] ++ (Lc2 ++ Lr), hs2.perm (perm_mid [(t4b, cel [.int .u8 ((tokAt s k).1 : Nat), str (tokTx s k), .int .i64 (k : Nat)] 141), (b1, cel [.func (.func 149) #[] #[], .func (.func 150) #[] #[], .func (.func 151) #[] #[]] 180), (vb, cel [.pointer (some ⟨p, 0, none⟩)] 161), (p, cel [str s, .int .i64 ((tokAt s k).2.1 : Nat)] 163)] Lc2 Lr).symm, ?_⟩
  refine zg (fun _ => R_not rfl) (yB ?_); refine c_condN rfl (fun h9 => ?_) (fun h9 => ?_)
  ·refine ze (zb (zt (zt (zb ((r_none (.inl rfl) rfl ?_)))))); exact fun w' hw => ⟨rfl, _, _, Lc2, by rw [← hl, lexS_end nx hlt h9]; exact hJ2, hw.drop (.cons _ (.cons _ (List.Sublist.refl _)))⟩
  ·have hgo := h9; rw [hgo] at hJ2
   refine zi (zO (zk (zr (zL 2 z161 e1_2 rfl rfl (w_call1 3 rfl (fun w => zR Tryz.func152 rfl rfl rfl) rfl rfl (fun w h => skip_spec p s _ w (h.at_ 3 rfl) hs g2.2.1) (zn (zK (B' := Bs) (L' := (b1, cel [.func (.func 149) #[] #[], .func (.func 150) #[] #[], .func (.func 151) #[] #[]] 180) :: (vb, cel [.pointer (some ⟨p, 0, none⟩)] 161) :: (p, cel [str s, .int .i64 (skipTo s (tokAt s k).2.1 : Nat)] 163) :: (Lc2 ++ Lr)) (fun w h => h.drop (List.sublist_cons_self _ _)) ?_)))))))
   have g4 := g2.2.2 (fine_of nx hn hgo)
   have g5 := skipTo_le g2.2.1
   exact k_again _ (by omega) ⟨skipTo s (tokAt s k).2.1, (nx x (tokAt s k).1 (tokTx s k) k (tokAt s k).2.2).1, Lc2, e0_2, e1_2, e3_2, rfl, rfl, g5.1, hJ2, by rw [← hl, lexS_go nx hn hlt hgo], rfl⟩
 ·refine zX (zx (zx (b_here rfl ((r_none (.inr rfl) rfl ?_))))); exact fun w' hw => ⟨rfl, k, true, Lc, by rw [← hl, lexS_stop nx (by omega)]; exact hJ, hw.drop (List.sublist_cons_self _ _)⟩
end Go.Proofs.YtoehjlmdnajibaaGreatDoor
end

section
namespace Go.Proofs.YtoehjlmdnajibaaGreatDoor
open Go.RowKit Go.Sx
open Go.Tok
def rdPs : Array Go.Tmp := #[18, 19]
def rdAs : Go.Code := (Go.Code.seq (Go.Code.region 7 #[(Go.Oper.mk (some 7) (Go.Op.alloc 141) 0 "token.go:123" #[] none), (Go.Oper.mk none (Go.Op.store 141 (Go.Operand.tmp 7) (Go.Operand.tmp 18)) 0 "token.go:123" #[(Go.Edge.mk 0 Go.Ground.data), (Go.Edge.mk 0 Go.Ground.phase)] none)] false) (Go.Code.region 8 #[(Go.Oper.mk (some 8) (Go.Op.assign (Go.Operand.tmp 19)) 4 "token.go:123" #[] none)] false))
def rdBo : Go.Code := (Go.Code.block 1 (Go.Code.seq (Go.Code.block 2 (Go.Code.seq (Go.Code.region 9 #[(Go.Oper.mk (some 21) (Go.Op.move (Go.Operand.tmp 8)) 4 "token.go:125" #[] none), (Go.Oper.mk (some 22) (Go.Op.unOp Go.UnOp.not 4 (Go.Operand.tmp 21)) 4 "token.go:125" #[(Go.Edge.mk 0 Go.Ground.data)] none), (Go.Oper.mk (some 20) (Go.Op.assign (Go.Operand.tmp 22)) 4 "token.go:125" #[(Go.Edge.mk 1 Go.Ground.data)] none)] false) (Go.Code.cond (Go.Operand.tmp 20) (Go.Code.seq (Go.Code.region 10 #[(Go.Oper.mk (some 23) (Go.Op.fieldAddr 141 (Go.Operand.tmp 7) 2) 0 "token.go:126" #[] none), (Go.Oper.mk (some 24) (Go.Op.load 3 (Go.Operand.tmp 23)) 3 "token.go:126" #[(Go.Edge.mk 0 Go.Ground.data)] none), (Go.Oper.mk (some 25) (Go.Op.build 37 #[(0, (Go.Operand.const (Go.Value.int Go.IntKind.i64 110))), (1, (Go.Operand.tmp 24))]) 37 "token.go:126" #[(Go.Edge.mk 1 Go.Ground.data)] none), (Go.Oper.mk none (Go.Op.store 37 (Go.Operand.tmp 6) (Go.Operand.tmp 25)) 0 "token.go:126" #[(Go.Edge.mk 2 Go.Ground.data), (Go.Edge.mk 0 Go.Ground.phase), (Go.Edge.mk 1 Go.Ground.phase), (Go.Edge.mk 2 Go.Ground.phase)] none)] false) (Go.Code.exit 0)) (Go.Code.seq (Go.Code.region 11 #[(Go.Oper.mk (some 27) (Go.Op.load 137 (Go.Operand.tmp 5)) 137 "token.go:128" #[] none), (Go.Oper.mk (some 28) (Go.Op.call (Go.Call.mk (Go.Callee.builtin Go.Builtin.len) #[(Go.Operand.tmp 27)] #[137])) 3 "token.go:128" #[(Go.Edge.mk 0 Go.Ground.data)] none), (Go.Oper.mk (some 29) (Go.Op.binOp Go.BinOp.eql 3 (Go.Operand.tmp 28) (Go.Operand.const (Go.Value.int Go.IntKind.i64 6000)) 3) 4 "token.go:128" #[(Go.Edge.mk 1 Go.Ground.data)] none), (Go.Oper.mk (some 26) (Go.Op.assign (Go.Operand.tmp 29)) 4 "token.go:128" #[(Go.Edge.mk 2 Go.Ground.data)] none)] false) (Go.Code.cond (Go.Operand.tmp 26) (Go.Code.seq (Go.Code.region 12 #[(Go.Oper.mk (some 30) (Go.Op.fieldAddr 141 (Go.Operand.tmp 7) 2) 0 "token.go:129" #[] none), (Go.Oper.mk (some 31) (Go.Op.load 3 (Go.Operand.tmp 30)) 3 "token.go:129" #[(Go.Edge.mk 0 Go.Ground.data)] none), (Go.Oper.mk (some 32) (Go.Op.build 37 #[(0, (Go.Operand.const (Go.Value.int Go.IntKind.i64 6))), (1, (Go.Operand.tmp 31))]) 37 "token.go:129" #[(Go.Edge.mk 1 Go.Ground.data)] none), (Go.Oper.mk none (Go.Op.store 37 (Go.Operand.tmp 6) (Go.Operand.tmp 32)) 0 "token.go:129" #[(Go.Edge.mk 2 Go.Ground.data), (Go.Edge.mk 0 Go.Ground.phase), (Go.Edge.mk 1 Go.Ground.phase), (Go.Edge.mk 2 Go.Ground.phase)] none)] false) (Go.Code.exit 0)) Go.Code.skip))))) (Go.Code.region 13 #[(Go.Oper.mk (some 33) (Go.Op.load 137 (Go.Operand.tmp 5)) 137 "token.go:132" #[] none), (Go.Oper.mk (some 34) (Go.Op.load 141 (Go.Operand.tmp 7)) 141 "token.go:132" #[] none), (Go.Oper.mk (some 35) (Go.Op.buildSlice 137 1 #[(0, (Go.Operand.tmp 34))]) 137 "token.go:132" #[(Go.Edge.mk 1 Go.Ground.data)] none), (Go.Oper.mk (some 36) (Go.Op.call (Go.Call.mk (Go.Callee.builtin Go.Builtin.append) #[(Go.Operand.tmp 33), (Go.Operand.tmp 35)] #[137, 137])) 137 "token.go:132" #[(Go.Edge.mk 0 Go.Ground.data), (Go.Edge.mk 2 Go.Ground.data)] none), (Go.Oper.mk none (Go.Op.store 137 (Go.Operand.tmp 5) (Go.Operand.tmp 36)) 0 "token.go:132" #[(Go.Edge.mk 3 Go.Ground.data), (Go.Edge.mk 3 Go.Ground.chain), (Go.Edge.mk 0 Go.Ground.phase), (Go.Edge.mk 1 Go.Ground.phase), (Go.Edge.mk 2 Go.Ground.phase), (Go.Edge.mk 3 Go.Ground.phase)] none)] false)))

def tkC (t : Tk) : List Value := [.int .u8 (t.1 : Nat), str t.2.1, .int .i64 (t.2.2 : Nat)]
def tksC (l : List Tk) : List Value := l.flatMap tkC
abbrev Toks (v : Value) (l : List Tk) (W : Heap) : Prop := Own 141 3 v (tksC l) l.length W
theorem Toks.more {v : Value} {l : List Tk} {t : Tk} {W : Heap} (h : Own 141 3 v (tksC l ++ tkC t) (l.length + 1) W) : Toks v (l ++ [t]) W := by
  have e1 : tksC (l ++ [t]) = tksC l ++ tkC t := by simp [tksC]
  have e2 : (l ++ [t]).length = l.length + 1 := by simp
  unfold Toks; rw [e1, e2]; exact h
def rdL (t5b t6b l : Nat) (v : Value) (fc fa : Nat) (ob : Obj) (W : Heap) : Heap := (t5b, cel [v] 137) :: (t6b, cel [.int .i64 (fc : Nat), .int .i64 (fa : Nat)] 37) :: (l, ob) :: W
def rdO (e : Env) (fn : FuncId) (r : Nat) : Bool → Obj
  | true => lpO .ready none fn ⟨43, [], none⟩ e rdPs rdAs rdBo r
  | false => lpO .done (some (.exit 0)) fn ⟨43, [], none⟩ e rdPs rdAs rdBo r
def RdJ (e : Env) (fn : FuncId) (r l t5b t6b : Nat) (g : Bool) (x : Rd) (Lc : Heap) : Prop :=
  ∃ a c W, Toks (.slice a x.1.length c) x.1 W ∧ x.1.length ≤ 6000 ∧ (g = true → x.2 = (0, 0)) ∧ (g = false → x.2.1 ≠ 0) ∧ Lc = rdL t5b t6b l (.slice a x.1.length c) x.2.1 x.2.2 (rdO e fn r g) W
def RdV (r : Rd) (v : Value) (W : Heap) : Prop := ∃ a c, v = .tuple #[.slice a r.1.length c, .agg #[.int .i64 (r.2.1 : Nat), .int .i64 (r.2.2 : Nat)]] ∧ Toks (.slice a r.1.length c) r.1 W

theorem all_spec (p : Nat) (w : World) :
    Ret Tryz.prog 127 #[.pointer (some ⟨p, 0, none⟩)] w (fun v w' => ∃ W, (∃ vb, v = .func (.func 148) #[] #[.pointer (some ⟨vb, 0, none⟩)] ∧ W = [(vb, cel [.pointer (some ⟨p, 0, none⟩)] 161)]) ∧ New w w' W) := by
  refine enter (S := No) (l := [_]) (L := []) 4 Tryz.func127 rfl rfl rfl (St.start w No) (yA (w_box rfl (fun vb gvb uvb => za rfl (yC (zg (fun _ => R_makeFunc) (za rfl (yB (ze (zo rfl rfl rfl ?_))))))))); exact fun w' hw => ⟨_, ⟨vb, rfl, rfl⟩, St.made (A := []) hw⟩

theorem Read_round (e : Env) (fn r l t5b t6b : Nat) (he5 : e 5 = .pointer (some ⟨t5b, 0, none⟩)) (he6 : e 6 = .pointer (some ⟨t6b, 0, none⟩)) : Rounds (RdJ e fn r l t5b t6b) readN l := by
  intro x k t a b Lc Lr B w htx hJ hw
  obtain ⟨a0, c0, W, hO, hx6, hxt, -, rfl⟩ := hJ
  have hx0 := hxt rfl
  refine yield_round 2 (L := rdL t5b t6b l _ _ _ _ _ ++ Lr) hw rfl rfl (yA (zA zr141 (fun t7b gt7b ut7b => zV 0 rfl z141 rfl rfl rfl rfl rfl rfl rfl (yB (zr (aB rfl (zn (k_begin (l' := 0) 3 rfl (zB (zq (zB (yA (mB rfl (zg (fun _ => R_not rfl) (aB rfl (yB ?_)))))))))))))))); refine c_condN rfl (fun h2 => ?_) (fun h2 => ?_)
  · refine yA (zf fa141_2 rfl (zL 0 z3 rfl rfl rfl (zg (fun _ => R_build bt37 rfl) (zV 2 rfl z37 he6 rfl rfl rfl rfl rfl rfl (yB (zX (b_past rfl (zx (b_past rfl ((k_roundX 3 rfl ?_)))))))))))
    subst h2
    exact fun w h => ⟨_, rfl, rdL t5b t6b l (.slice a0 x.1.length c0) 110 a (rdO e fn r false) W, rfl, ⟨a0, c0, W, hO, hx6, (fun h => by cases h), fun _ => by simp [readN], rfl⟩, h.drop (List.sublist_cons_self _ _)⟩
  · refine yA (zL 1 z137 he5 rfl rfl (zg (fun _ => R_len sl137 rfl) (zg (fun _ => R_eq rfl rfl) (aB rfl (yB ?_))))); refine zD rfl (fun h3 => ?_) (fun h3 => ?_)
    · refine yA (zf fa141_2 rfl (zL 0 z3 rfl rfl rfl (zg (fun _ => R_build bt37 rfl) (zV 2 rfl z37 he6 rfl rfl rfl rfl rfl rfl (yB (zX (b_past rfl (zx (b_past rfl ((k_roundX 3 rfl ?_)))))))))))
      subst h2
      have hN : readN x k t a true = ((x.1, 6, a), false) := by rw [readN, if_neg (by decide), if_pos (by omega)]
      exact fun w h => ⟨_, rfl, rdL t5b t6b l (.slice a0 x.1.length c0) 6 a (rdO e fn r false) W, by rw [hN], by rw [hN]; exact ⟨a0, c0, W, hO, hx6, (fun h => by cases h), fun _ => by simp [readN], rfl⟩, h.drop (List.sublist_cons_self _ _)⟩
    · refine zi (zO (zk (zr (zL 1 z137 he5 rfl rfl (zY z141 rfl (fun _ h => h.at_ 0 rfl) rfl (zS slt137 (by decide) rfl rfl (fun bs gbs ubs => w_app [(bs, _), (t7b, _), (t5b, _), (t6b, _), (l, _)] (news := tkC (k, t, a)) slt137 (by decide) rfl hO rfl rfl (row_own 0 rfl (fun _ _ h => h)) rfl (by decide) (by omega) (by omega) (fun v2 W2 hO2 => ?_))))))))
      obtain ⟨a2, c2, rfl⟩ := hO2.slice
      refine zV 2 rfl z137 he5 rfl rfl rfl rfl rfl rfl (zn (zO ((k_round 4 rfl ?_))))
      subst h2
      have hN : readN x k t a true = ((x.1 ++ [(k, t, a)], x.2), true) := by rw [readN, if_neg (by decide), if_neg (by omega)]
      exact fun w h => ⟨_, rfl, rdL t5b t6b l (.slice a2 (x.1.length + 1) c2) x.2.1 x.2.2 (rdO e fn r true) W2, by rw [hN], by rw [hN]; exact ⟨a2, c2, W2, by simpa using Toks.more hO2, by simp; omega, fun _ => hx0, (fun h => by cases h), by simp⟩, h.drop (.cons _ (.cons _ (List.Sublist.refl _)))⟩

theorem Read_spec (s : List UInt8) (hs : s.length ≤ 10000000) (w : World) (ht : Tb w) (hgs : 1 < w.heap.size) :
    Ret Tryz.prog 106 #[str s] w (fun v w' => ∃ W, RdV (readP s) v W ∧ New w w' W) := by
  refine enterM (S := No) (l := [_]) (L := []) 43 Tryz.func106 rfl rfl rfl (St.start w No) (yA (za (v := .slice _ _ _) rfl (zA zr37 (fun t3b gt3b ut3b => yB (c_scope (zq (yA (zm (v := str _) rfl (zg (fun _ => R_slen st9 rfl (by omega)) (zg (fun _ => R_gt rfl rfl) (yB ?_))))))))))); refine zD rfl (fun h2 => ?_) (fun h2 => ?_)
  · refine yA (zg (fun _ => R_build bt37 rfl) (za (v := .slice _ _ _) rfl (zV 0 rfl z37 rfl rfl rfl rfl rfl rfl rfl (yB (ze (zt (g_ret ((r_finM (.inl rfl) rfl (.tmp rfl rfl (.agg rfl rfl z37 (fun _ h => h.at_ 0 rfl) rfl .nil)) ?_))))))))); exact fun w' hw => ⟨[], by rw [readP_long (by omega)]; exact ⟨none, 0, rfl, Own.nil _ _⟩, .none (hw.fr _ zm0)⟩
  · refine zi (zk (yA (zm (v := str _) rfl (zg (fun _ => R_build bt163 rfl) (w_boxA rfl (fun p gp up => za (v := .pointer _) rfl (yC (zA zr137 (fun t5b gt5b ut5b => yC (zA zr37 (fun t6b gt6b ut6b => yB (zq (c_label (zk (zq (yA (mP rfl (w_callW (fun w => zR Tryz.func127 rfl rfl rfl) rfl rfl (fun w _ => all_spec p w) ?_))))))))))))))))))
    rintro u W0 ⟨vb, rfl, rfl⟩
    refine yB (zB (c_gen fun e he => ?_))
    have he3 : e 3 = .pointer (some ⟨t3b, 0, none⟩) := congrFun he 3
    have he5 : e 5 = .pointer (some ⟨t5b, 0, none⟩) := congrFun he 5
    have he6 : e 6 = .pointer (some ⟨t6b, 0, none⟩) := congrFun he 6
    have he17 : e 17 = .func (.func 148) #[] #[.pointer (some ⟨vb, 0, none⟩)] := congrFun he 17
    refine c_range (f := 148) (fi := []) (ca := [.pointer (some ⟨vb, 0, none⟩)]) he17 rfl rfl rfl (fun r l fn w' => ∃ (g : Bool) (j : Nat) (Lc' : Heap), RdJ e fn r l t5b t6b g (readS s) Lc' ∧ St [(w, No)] ((vb, cel [.pointer (some ⟨p, 0, none⟩)] 161) :: (p, cel [str s, .int .i64 (j : Nat)] 163) :: (Lc' ++ [(r, .deferred (some [])), (t3b, cel [.int .i64 0, .int .i64 0] 37)])) w') ?_ ?_
    · intro fn r l hr1 hr2 hl w1 hw1
      refine (all1_spec (RdJ e fn r l t5b t6b) readN readN_no l p vb s (by omega) (Read_round e fn r l t5b t6b he5 he6) w No ht (fun h => h) (Nat.le_trans hgs (up (w, No) zm0)) ([], 0, 0) (rdL t5b t6b l (.slice none 0 0) 0 0 (rdO e fn r true) []) [(r, .deferred (some [])), (t3b, cel [.int .i64 0, .int .i64 0] 37)] [(w, No)] zm0 ⟨none, 0, [], Own.nil _ _, Nat.zero_le _, fun _ => rfl, (fun h => by cases h), rfl⟩ w1 (hw1.pick [2, 5, 4, 3, 0, 1, 6] (by decide))).mono ?_
      rintro v w2 ⟨rfl, j, g, Lc', hJ, hs⟩
      exact ⟨g, j, Lc', hJ, hs⟩
    · rintro fn r l hr1 hr2 hl w1 ⟨g, j, Lc', ⟨a0, c0, W, hO, h6, hg1, hg0, rfl⟩, hs⟩
      have hs2 := St.pickT [(vb, cel [.pointer (some ⟨p, 0, none⟩)] 161), (p, cel [str s, .int .i64 (j : Nat)] 163), (t5b, cel [.slice a0 (readS s).1.length c0] 137), (t6b, cel [.int .i64 ((readS s).2.1 : Nat), .int .i64 ((readS s).2.2 : Nat)] 37), (l, rdO e fn r g), (r, .deferred (some [])), (t3b, cel [.int .i64 0, .int .i64 0] 37)] (hs.perm (.cons _ (.cons _ (.cons _ (.cons _ (.cons _ List.perm_append_comm)))))) [4, 2, 3, 5, 6] (by decide)
      cases g
      · have hz : (readS s).2.1 ≠ 0 := hg0 rfl
        refine ⟨_, _, .done, some (.exit 0), (fun h => by cases h), hs2, ?_⟩
        refine zX (b_here rfl (zk (zq (yA (zf fa37_0 he6 (zL 2 z35 rfl rfl rfl (zg (fun _ => R_ne rfl rfl) (yB ?_)))))))); refine zD rfl (fun h6 => ?_) (fun h6 => ?_)
        · refine zq (c_tail 2 mixed (by kernel_rfl) (zY z37 he6 (fun _ h => h.at_ 2 rfl) rfl (za (v := .slice _ _ _) rfl (w_tailst 4 rfl z37 he3 rfl rfl rfl rfl rfl rfl (zk (ze (zt (g_ret ((r_finM1 3 rfl (.inl rfl) rfl (.tmp rfl rfl (.agg rfl he3 z37 (fun _ h => h.at_ 4 rfl) rfl .nil)) ?_)))))))))); exact fun w' hw => ⟨[], by rw [readP_bad (by omega) hz]; exact ⟨none, 0, rfl, Own.nil _ _⟩, .none (hw.fr _ zm0)⟩
        · exfalso; omega
      · have hz : (readS s).2.1 = 0 := by rw [hg1 rfl]
        refine ⟨_, _, .ready, none, (fun h => by cases h), hs2, ?_⟩
        refine zO (zk (zq (yA (zf fa37_0 he6 (zL 2 z35 rfl rfl rfl (zg (fun _ => R_ne rfl rfl) (yB ?_))))))); refine zD rfl (fun h7 => ?_) (fun h7 => ?_)
        · exfalso; omega
        · refine zi (zk (yA (zL 1 z137 he5 rfl rfl (zg (fun _ => R_build bt37 rfl) (za (v := .slice _ _ _) rfl (zV 4 rfl z37 he3 rfl rfl rfl rfl rfl rfl (yB (ze (g_ret ((r_finM1 3 rfl (.inl rfl) rfl (.tmp rfl rfl (.agg rfl he3 z37 (fun _ h => h.at_ 4 rfl) rfl .nil)) ?_))))))))))); exact fun w' hw => ⟨W, by rw [readP_fine (by omega) hz]; exact ⟨a0, c0, rfl, hO⟩, St.made (A := []) (hw.drop (.cons _ (.cons _ (.cons _ (.cons _ (.cons _ (List.Sublist.refl _)))))))⟩
end Go.Proofs.YtoehjlmdnajibaaGreatDoor
end

section
namespace Go.Proofs.YtoehjlmdnajibaaGreatDoor
open Go.RowKit Go.Sx
open Go.Tok
end Go.Proofs.YtoehjlmdnajibaaGreatDoor
end

section
namespace Go.Proofs.YtoehjlmdnajibaaGreatDoor
open Go.RowKit Go.Sx
open Go.Tok

end Go.Proofs.YtoehjlmdnajibaaGreatDoor
end

section
namespace Go.Proofs.YtoehjlmdnajibaaGreatDoor
open Go.RowKit Go.Sx
open Go.Tok
theorem tks_at : ∀ (l : List Tk) (k : Nat) (t : Tk), l[k]? = some t → ∀ (j : Nat) u, (tkC t)[j]? = some u → (tksC l)[k * 3 + j]? = some u
  | [], _, _, h, _, _, _ => by simp at h
  | x :: l, 0, t, h, j, u, hu => by
    obtain rfl : x = t := by simpa using h
    have hj := (List.getElem?_eq_some_iff.1 hu).1
    show ((tkC x) ++ tksC l)[0 * 3 + j]? = some u
    rw [List.getElem?_append_left (by simpa using hj)]
    simpa using hu
  | x :: l, k + 1, t, h, j, u, hu => by
    have ih := tks_at l k t (by simpa using h) j u hu
    show ((tkC x) ++ tksC l)[(k + 1) * 3 + j]? = some u
    have hl : (tkC x).length = 3 := rfl
    rw [List.getElem?_append_right (by rw [hl]; omega), hl, show (k + 1) * 3 + j - 3 = k * 3 + j by omega]
    exact ih
theorem Toks.cell {l : List Tk} {a : Option Addr} {c k : Nat} {W : Heap} {w : World} (h : Toks (.slice a l.length c) l W) (hm : ∀ p ∈ W, w.heap[p.1]? = some p.2) (hk : k < l.length) : ∃ b, a = some ⟨b, 0, none⟩ ∧ ∀ (j : Nat) u, (tkC l[k])[j]? = some u → w.cell? ⟨b, 0 + k * 3 + j, none⟩ = some u := by
  obtain ⟨b, rfl, hc⟩ := Own.cellw h hk
  exact ⟨b, rfl, fun j u hu => by rw [Nat.zero_add]; exact hc w hm _ u (tks_at l k _ (by simp) j u hu)⟩

end Go.Proofs.YtoehjlmdnajibaaGreatDoor
end

section
namespace Go.Proofs.YtoehjlmdnajibaaGreatDoor
open Go.RowKit Go.Sx
open Go.Tok Go.Tree
theorem Toks.cellS {l : List Tk} {a : Option Addr} {c k : Nat} {W : Heap} (h : Toks (.slice a l.length c) l W) (hk : k < l.length) : ∃ b, a = some ⟨b, 0, none⟩ ∧ ∀ (B : Base) (L : Heap) (w : World), (∀ p ∈ W, p ∈ L) → St B L w → ∀ (t : Tk), l[k]? = some t → ∀ (j : Nat) u, (tkC t)[j]? = some u → w.cell? ⟨b, 0 + k * 3 + j, none⟩ = some u := by
  obtain ⟨b, rfl, hc⟩ := Own.cell h hk
  exact ⟨b, rfl, fun B L w hW hw t ht j u hu => by rw [Nat.zero_add]; exact hc B L w hW hw _ u (tks_at l k t ht j u hu)⟩
structure Wd (w : World) : Prop where
  tb : Tb w
  gs : 1 < w.heap.size
  ml : ∃ m, w.cell? ⟨0, 0, none⟩ = some (.int .i64 m)
theorem Wd.ext {w w' : World} (h : Wd w) (k : Ext w w') : Wd w' := ⟨h.tb.fr k (fun x => x), Nat.le_trans h.gs k.size, by obtain ⟨m, hm⟩ := h.ml; exact ⟨m, k.cell hm (fun x => x)⟩⟩
theorem Wd.now {w w' : World} {B : Base} {L : Heap} (h : Wd w) (hx : (w, No) ∈ B) (hw : St B L w') : Wd w' := h.ext (hw.fr _ hx)
theorem Contains_spec (s t : List UInt8) (w : World) (hs : s.length < 4294967281) (hw : Wd w) : Ret Tryz.prog 117 #[str s, str t] w fun v w' => v = .bool (Lib.contains s t) ∧ Ext w w' := by
  obtain ⟨m, hm⟩ := hw.ml
  exact Calls.mono (Tryz.strings_Contains ⟨s.toArray⟩ ⟨t.toArray⟩ m w hs hm) fun e w' ⟨h1, h2⟩ => ⟨_, h1, by simp, by rw [h2]; exact Fr.refl _ _⟩

theorem one_spec (s : Str) (k : Nat) (hs : s.length ≤ 10000000) (w : World) (hW : Wd w) :
    Ret Tryz.prog 92 #[str s, .int .u8 (k : Nat)] w (fun v w' => v = .bool (oneB k s) ∧ Ext w w') := by
  have ht := hW.tb
  have hgs := hW.gs
  refine enter (S := No) (l := [_, _]) (L := []) 36 Tryz.func92 rfl rfl rfl (St.start w No) (yA (aB rfl (yC (zm (v := str _) rfl (w_callW (R := RdV (readP s)) (fun w => zR Tryz.func106 rfl rfl rfl) rfl rfl (fun w h => Read_spec s hs w (ht.fr (h.fr _ zm0) (fun x => x)) (Nat.le_trans hgs (h.fr _ zm0).size)) (fun u W1 hR1 => w_st (fun w h => h.perm List.perm_append_comm) ?_))))))
  obtain ⟨a1, c1, rfl, hT1⟩ := hR1
  refine zm rfl (zg (fun _ => R_extract rfl rfl) (zg (fun _ => R_extract rfl rfl) (zA zr37 (fun t6b gt6b ut6b => za (v := .slice _ _ _) rfl (zV 0 rfl z37 rfl rfl rfl rfl rfl rfl rfl (yC (zf fa37_0 rfl (zL 0 z35 rfl rfl rfl (zg (fun _ => R_eq rfl rfl) (mB rfl ?_)))))))))); refine zd (t := 15) rfl (fun h2 => ?_) (fun h2 => ?_)
  · refine zw rfl rfl (bT h2) (mS rfl (zw rfl rfl (bT h2) (zg (fun _ => R_len sl137 rfl) (zw rfl rfl (bT h2) (zg (fun _ => R_eq rfl rfl) (zg (v := .bool _) (fun _ => zT (bT h2) rfl) (mB rfl ?_))))))); refine zd (t := 20) rfl (fun h3 => ?_) (fun h3 => ?_)
    · obtain ⟨b1, rfl, hc1⟩ := hT1.cellS (k := 0) (by omega); obtain ⟨t, q1⟩ : ∃ t, (readP s).1[0]? = some t := ⟨_, List.getElem?_eq_getElem (by omega)⟩; have e1 := oneB_at (k := k) (by omega) q1 (by omega)
      refine zw rfl rfl (bT h3) (mS rfl (zw rfl rfl (bT h3) (zg (fun _ => R_iaN (i := 0) sl137 rfl rfl (by omega)) (zw rfl rfl (bT h3) (zf fa141_0 rfl (zw rfl rfl (bT h3) ?_)))))); refine zl z5 rfl (fun _ h => by exact hc1 _ _ _ (fun p hp => by simp [hp]) h _ q1 _ _ rfl) ?_; refine zw rfl rfl (bT h3) (mI rfl (zw rfl rfl (bT h3) (zg (fun _ => R_eq rfl rfl) (zg (v := .bool _) (fun _ => zT (bT h3) rfl) (mB rfl ?_))))); refine zd (t := 28) rfl (fun h4 => ?_) (fun h4 => ?_)
      · refine zw rfl rfl (bT h4) (mS rfl (zw rfl rfl (bT h4) (zg (fun _ => R_iaN (i := 0) sl137 rfl rfl (by omega)) (zw rfl rfl (bT h4) (zf fa141_1 rfl (zw rfl rfl (bT h4) ?_)))))); refine zl z9 rfl (fun _ h => by exact hc1 _ _ _ (fun p hp => by simp [hp]) h _ q1 _ _ rfl) ?_; refine zw rfl rfl (bT h4) (zm (v := str _) rfl (zw rfl rfl (bT h4) (zg (fun _ => R_seq rfl rfl) (zg (v := .bool _) (fun _ => zT (bT h4) rfl) (aB rfl (yB (ze (zo (v := .bool _) rfl rfl rfl ?_)))))))); exact fun w' hw => ⟨by rw [e1, decide_eq_true h4]; rfl, hw.fr _ zm0⟩
      · refine zs rfl rfl (bF h4) (zs rfl rfl (bF h4) (zs rfl rfl (bF h4) (zs rfl rfl (bF h4) (zs rfl rfl (bF h4) (zs rfl rfl (bF h4) (zg (v := .bool _) (fun _ => zF (bF h4) rfl) (aB rfl (yB (ze (zo (v := .bool _) rfl rfl rfl ?_)))))))))); exact fun w' hw => ⟨by rw [e1, decide_eq_false h4]; rfl, hw.fr _ zm0⟩
    · refine zs rfl rfl (bF h3) (zs rfl rfl (bF h3) (zs rfl rfl (bF h3) (zs rfl rfl (bF h3) (zs rfl rfl (bF h3) (zs rfl rfl (bF h3) (zg (v := .bool _) (fun _ => zF (bF h3) rfl) (mB rfl ?_))))))); (iterate 6 refine zs rfl rfl rfl ?_); refine zg (v := .bool _) (fun _ => zF rfl rfl) (aB rfl (yB (ze (zo (v := .bool _) rfl rfl rfl ?_)))); exact fun w' hw => ⟨by rw [oneB_len (by omega)], hw.fr _ zm0⟩
  · refine zs rfl rfl (bF h2) (zs rfl rfl (bF h2) (zs rfl rfl (bF h2) (zg (v := .bool _) (fun _ => zF (bF h2) rfl) (mB rfl ?_)))); (iterate 6 refine zs rfl rfl rfl ?_); refine zg (v := .bool _) (fun _ => zF rfl rfl) (mB rfl ?_); (iterate 6 refine zs rfl rfl rfl ?_); refine zg (v := .bool _) (fun _ => zF rfl rfl) (aB rfl (yB (ze (zo (v := .bool _) rfl rfl rfl ?_))))
    exact fun w' hw => ⟨by rw [oneB_E (by omega)], hw.fr _ zm0⟩

theorem Name_spec (s : Str) (hs : s.length ≤ 10000000) (w : World) (hW : Wd w) :
    Ret Tryz.prog 94 #[str s] w (fun v w' => v = .bool (nameOk s) ∧ Ext w w') := by
  refine enter (S := No) (l := [_]) (L := []) 12 Tryz.func94 rfl rfl rfl (St.start w No) (yA (aB rfl (yC (zm (v := str _) rfl (zC (fun w => zR Tryz.func92 rfl rfl rfl) rfl rfl (fun w h => one_spec _ 1 (by omega) w (hW.now zm0 h)) (mB rfl ?_)))))); refine zp (t := 5) rfl (fun h1 => ?_) (fun h1 => ?_)
  · refine zw rfl rfl (bV h1) (zm (v := str _) rfl (zw rfl rfl (bV h1) (zg (fun _ => R_cat rfl rfl (by simp only [List.length_append, List.length_cons, List.length_nil]; omega)) (zw rfl rfl (bV h1) (zg (fun _ => R_cat rfl rfl (by simp only [List.length_append, List.length_cons, List.length_nil]; omega)) (zw rfl rfl (bV h1) (zC (fun w => zR Tryz.func117 rfl rfl rfl) rfl rfl (fun w h => Contains_spec wordsT ([32] ++ s ++ [32]) w (by decide) (hW.now zm0 h)) (zw rfl rfl (bV h1) (zg (fun _ => R_not rfl) (zg (v := .bool _) (fun _ => zT (bV h1) rfl) (aB rfl (yB (ze (zo (v := .bool _) rfl rfl rfl ?_))))))))))))))
    exact fun w' hw => ⟨by rw [nameOk_one h1], hw.fr _ zm0⟩
  · refine zs rfl rfl (bV h1) (zs rfl rfl (bV h1) (zs rfl rfl (bV h1) (zs rfl rfl (bV h1) (zs rfl rfl (bV h1) (zg (v := .bool _) (fun _ => zF (bV h1) rfl) (aB rfl (yB (ze (zo (v := .bool _) rfl rfl rfl ?_))))))))); exact fun w' hw => ⟨by rw [nameOk_no h1], hw.fr _ zm0⟩

theorem expr1_spec (w : World) (hW : Wd w) (p1 : Nat) (bare : Bool) (hq1 : w.heap[p1]? = some (cel [.bool bare] 4)) (p2 : Nat) (n : Nat) (hq2 : w.heap[p2]? = some (cel [.int .i64 (n : Nat)] 3)) :
    Ret Tryz.prog 90 #[.pointer (some ⟨p1, 0, none⟩), .pointer (some ⟨p2, 0, none⟩)] w (fun v w' => v = .bool (bare && decide (n = 2)) ∧ Ext w w') := by
  refine enter (S := No) (l := [_, _]) (L := []) 8 Tryz.func90 rfl rfl rfl (St.start w No) (yA (aB rfl (yC (zl z4 rfl (fun _ h => cel_oldb hq1 zm0 id rfl h) (mB rfl ?_))))); refine zp (t := 4) rfl (fun h1 => ?_) (fun h1 => ?_)
  · refine zw rfl rfl (bV h1) (zl z3 rfl (fun _ h => cel_oldb hq2 zm0 id rfl h) (zw rfl rfl (bV h1) (zg (fun _ => R_eq rfl rfl) (zg (v := .bool _) (fun _ => zT (bV h1) rfl) (aB rfl (yB (ze (zo (v := .bool _) rfl rfl rfl ?_)))))))); exact fun w' hw => ⟨by simp_all <;> omega, hw.fr _ zm0⟩
  · refine zs rfl rfl (bV h1) (zs rfl rfl (bV h1) (zg (v := .bool _) (fun _ => zF (bV h1) rfl) (aB rfl (yB (ze (zo (v := .bool _) rfl rfl rfl ?_)))))); exact fun w' hw => ⟨by simp_all <;> omega, hw.fr _ zm0⟩

theorem expr2_spec (w : World) (hW : Wd w) (p2 : Nat) (n : Nat) (hq2 : w.heap[p2]? = some (cel [.int .i64 (n : Nat)] 3)) (p3 : Nat) (op : Nat) (at_ : Int) (nm : Str) (v4 : Value) (hq3 : w.heap[p3]? = some (cel [.int .u8 (op : Nat), .int .i64 at_, str nm, v4] 52)) (hs : nm.length ≤ 10000000) :
    Ret Tryz.prog 91 #[.pointer (some ⟨p2, 0, none⟩), .pointer (some ⟨p3, 0, none⟩)] w (fun v w' => v = .bool (decide (n = 0) && oneB 2 nm) ∧ Ext w w') := by
  refine enter (S := No) (l := [_, _]) (L := []) 10 Tryz.func91 rfl rfl rfl (St.start w No) (yA (aB rfl (yC (zl z3 rfl (fun _ h => cel_oldb hq2 zm0 id rfl h) (zg (fun _ => R_eq rfl rfl) (mB rfl ?_)))))); refine zd (t := 5) rfl (fun h1 => ?_) (fun h1 => ?_)
  · refine zw rfl rfl (bT h1) (zf fa52_2 rfl (zw rfl rfl (bT h1) (zl z9 rfl (fun _ h => cel_oldb hq3 zm0 id rfl h) (zw rfl rfl (bT h1) (zC (fun w => zR Tryz.func92 rfl rfl rfl) rfl rfl (fun w h => one_spec _ 2 (by omega) w (hW.now zm0 h)) (zg (v := .bool _) (fun _ => zT (bT h1) rfl) (aB rfl (yB (ze (zo (v := .bool _) rfl rfl rfl ?_)))))))))); exact fun w' hw => ⟨by simp_all <;> omega, hw.fr _ zm0⟩
  · refine zs rfl rfl (bF h1) (zs rfl rfl (bF h1) (zs rfl rfl (bF h1) (zg (v := .bool _) (fun _ => zF (bF h1) rfl) (aB rfl (yB (ze (zo (v := .bool _) rfl rfl rfl ?_))))))); exact fun w' hw => ⟨by simp_all <;> omega, hw.fr _ zm0⟩

theorem expr3_spec (w : World) (hW : Wd w) (p2 : Nat) (n : Nat) (hq2 : w.heap[p2]? = some (cel [.int .i64 (n : Nat)] 3)) (p3 : Nat) (op : Nat) (at_ : Int) (nm : Str) (v4 : Value) (hq3 : w.heap[p3]? = some (cel [.int .u8 (op : Nat), .int .i64 at_, str nm, v4] 52)) (hs : nm.length ≤ 10000000) :
    Ret Tryz.prog 93 #[.pointer (some ⟨p2, 0, none⟩), .pointer (some ⟨p3, 0, none⟩)] w (fun v w' => v = .bool (decide (n = 0) && nameOk nm) ∧ Ext w w') := by
  refine enter (S := No) (l := [_, _]) (L := []) 10 Tryz.func93 rfl rfl rfl (St.start w No) (yA (aB rfl (yC (zl z3 rfl (fun _ h => cel_oldb hq2 zm0 id rfl h) (zg (fun _ => R_eq rfl rfl) (mB rfl ?_)))))); refine zd (t := 5) rfl (fun h1 => ?_) (fun h1 => ?_)
  · refine zw rfl rfl (bT h1) (zf fa52_2 rfl (zw rfl rfl (bT h1) (zl z9 rfl (fun _ h => cel_oldb hq3 zm0 id rfl h) (zw rfl rfl (bT h1) (zC (fun w => zR Tryz.func94 rfl rfl rfl) rfl rfl (fun w h => Name_spec _ (by omega) w (hW.now zm0 h)) (zg (v := .bool _) (fun _ => zT (bT h1) rfl) (aB rfl (yB (ze (zo (v := .bool _) rfl rfl rfl ?_)))))))))); exact fun w' hw => ⟨by simp_all <;> omega, hw.fr _ zm0⟩
  · refine zs rfl rfl (bF h1) (zs rfl rfl (bF h1) (zs rfl rfl (bF h1) (zg (v := .bool _) (fun _ => zF (bF h1) rfl) (aB rfl (yB (ze (zo (v := .bool _) rfl rfl rfl ?_))))))); exact fun w' hw => ⟨by simp_all <;> omega, hw.fr _ zm0⟩

theorem expr4_spec (w : World) (hW : Wd w) (p2 : Nat) (n : Nat) (hq2 : w.heap[p2]? = some (cel [.int .i64 (n : Nat)] 3)) (p3 : Nat) (op : Nat) (at_ : Int) (nm : Str) (v4 : Value) (hq3 : w.heap[p3]? = some (cel [.int .u8 (op : Nat), .int .i64 at_, str nm, v4] 52)) (hs : nm.length ≤ 10000000) :
    Ret Tryz.prog 95 #[.pointer (some ⟨p2, 0, none⟩), .pointer (some ⟨p3, 0, none⟩)] w (fun v w' => v = .bool (decide (n = 1) && nameOk nm) ∧ Ext w w') := by
  refine enter (S := No) (l := [_, _]) (L := []) 10 Tryz.func95 rfl rfl rfl (St.start w No) (yA (aB rfl (yC (zl z3 rfl (fun _ h => cel_oldb hq2 zm0 id rfl h) (zg (fun _ => R_eq rfl rfl) (mB rfl ?_)))))); refine zd (t := 5) rfl (fun h1 => ?_) (fun h1 => ?_)
  · refine zw rfl rfl (bT h1) (zf fa52_2 rfl (zw rfl rfl (bT h1) (zl z9 rfl (fun _ h => cel_oldb hq3 zm0 id rfl h) (zw rfl rfl (bT h1) (zC (fun w => zR Tryz.func94 rfl rfl rfl) rfl rfl (fun w h => Name_spec _ (by omega) w (hW.now zm0 h)) (zg (v := .bool _) (fun _ => zT (bT h1) rfl) (aB rfl (yB (ze (zo (v := .bool _) rfl rfl rfl ?_)))))))))); exact fun w' hw => ⟨by simp_all <;> omega, hw.fr _ zm0⟩
  · refine zs rfl rfl (bF h1) (zs rfl rfl (bF h1) (zs rfl rfl (bF h1) (zg (v := .bool _) (fun _ => zF (bF h1) rfl) (aB rfl (yB (ze (zo (v := .bool _) rfl rfl rfl ?_))))))); exact fun w' hw => ⟨by simp_all <;> omega, hw.fr _ zm0⟩

theorem expr5_spec (w : World) (hW : Wd w) (p3 : Nat) (op : Nat) (at_ : Int) (nm : Str) (v4 : Value) (hq3 : w.heap[p3]? = some (cel [.int .u8 (op : Nat), .int .i64 at_, str nm, v4] 52)) (hs : nm.length ≤ 10000000) :
    Ret Tryz.prog 96 #[.pointer (some ⟨p3, 0, none⟩)] w (fun v w' => v = .bool (nameOk nm) ∧ Ext w w') := by
  refine enter (S := No) (l := [_]) (L := []) 5 Tryz.func96 rfl rfl rfl (St.start w No) (yA (aB rfl (yC (zf fa52_2 rfl (zl z9 rfl (fun _ h => cel_oldb hq3 zm0 id rfl h) (zC (fun w => zR Tryz.func94 rfl rfl rfl) rfl rfl (fun w h => Name_spec _ (by omega) w (hW.now zm0 h)) (aB rfl (yB (ze (zo (v := .bool _) rfl rfl rfl ?_)))))))))); exact fun w' hw => ⟨by simp_all <;> omega, hw.fr _ zm0⟩

theorem expr6_spec (w : World) (hW : Wd w) (p1 : Nat) (bare : Bool) (hq1 : w.heap[p1]? = some (cel [.bool bare] 4)) (p2 : Nat) (n : Nat) (hq2 : w.heap[p2]? = some (cel [.int .i64 (n : Nat)] 3)) :
    Ret Tryz.prog 97 #[.pointer (some ⟨p1, 0, none⟩), .pointer (some ⟨p2, 0, none⟩)] w (fun v w' => v = .bool (bare && decide (n = 1)) ∧ Ext w w') := by
  refine enter (S := No) (l := [_, _]) (L := []) 8 Tryz.func97 rfl rfl rfl (St.start w No) (yA (aB rfl (yC (zl z4 rfl (fun _ h => cel_oldb hq1 zm0 id rfl h) (mB rfl ?_))))); refine zp (t := 4) rfl (fun h1 => ?_) (fun h1 => ?_)
  · refine zw rfl rfl (bV h1) (zl z3 rfl (fun _ h => cel_oldb hq2 zm0 id rfl h) (zw rfl rfl (bV h1) (zg (fun _ => R_eq rfl rfl) (zg (v := .bool _) (fun _ => zT (bV h1) rfl) (aB rfl (yB (ze (zo (v := .bool _) rfl rfl rfl ?_)))))))); exact fun w' hw => ⟨by simp_all <;> omega, hw.fr _ zm0⟩
  · refine zs rfl rfl (bV h1) (zs rfl rfl (bV h1) (zg (v := .bool _) (fun _ => zF (bV h1) rfl) (aB rfl (yB (ze (zo (v := .bool _) rfl rfl rfl ?_)))))); exact fun w' hw => ⟨by simp_all <;> omega, hw.fr _ zm0⟩


def ExprH (n : Nat) : Prop := ∀ (x : Ex) (cs : List Value) (N : Nat → Prop) (w : World), exW x < n → exM w N x cs → Wd w → Ret Tryz.prog 59 #[.agg cs.toArray] w fun v w' => v = .bool (exOk x) ∧ Ext w w'

theorem exprsC_spec (n : Nat) (ih : ExprH n) (hn : n ≤ 10000000) (x : Ex) (cs : List Value) (N : Nat → Prop) (w : World) (hx : exW x < n) (hm : exM w N x cs) (hW : Wd w) :
    Ret Tryz.prog 119 #[.agg cs.toArray] w (fun v w' => v = .bool (!exOk x) ∧ Ext w w') := by
  obtain ⟨op, at_, nm, ks⟩ := x
  have hm2 := hm
  unfold exM at hm2
  obtain ⟨ka, kc, rfl, hkc, hks⟩ := hm2
  have hx2 := hx
  unfold exW at hx2
  refine enter (S := No) (l := [_]) (L := []) 6 Tryz.func119 rfl rfl rfl (St.start w No) (yA (w_boxA rfl (fun b1 gb1 ub1 => aB rfl (yC (zY z52 rfl (fun _ h => h.at_ 0 rfl) rfl (zC (fun w => zR Tryz.func59 rfl rfl rfl) rfl rfl (fun w h => ih _ _ N w hx (hm.now (fun _ _ hh => hh) zm0 h) (hW.now zm0 h)) (zg (fun _ => R_not rfl) (aB rfl (yB (ze (zo (v := .bool _) rfl rfl rfl ?_))))))))))); exact fun w' hw => ⟨rfl, hw.fr _ zm0⟩

theorem idxE_spec (n : Nat) (ih : ExprH n) (hn : n ≤ 10000000) (l : List Ex) (a : Option Addr) (c : Nat) (N : Nat → Prop) (w : World) (hl : ∀ x ∈ l, exW x < n) (hll : l.length ≤ 10000000) (hm : exsM w N l a 0) (hW : Wd w) :
    Ret Tryz.prog 144 #[.slice a l.length c, .func (.func 119) #[] #[]] w (fun v w' => v = .int .i64 (firstI (fun x => !exOk x) l) ∧ Ext w w') := by
  refine enter (S := No) (l := [_, _]) (L := []) 19 Tryz.func144 rfl rfl rfl (St.start w No) (yA (aI rfl (yB (zq (yA (mS rfl (zg (fun _ => R_len sl47 rfl) (mI rfl (yB (zB (c_loop (fun m e B L => ∃ (k : Nat), e 0 = .slice a l.length c ∧ e 1 = .func (.func 119) #[] #[] ∧ e 7 = .int .i64 (l.length : Nat) ∧ e 8 = .int .i64 (k : Nat) ∧ B = [(w, No)] ∧ L = [] ∧ k ≤ l.length ∧ (∀ y ∈ l.take k, (!exOk y) = false) ∧ m = l.length - k) _ ⟨0, rfl, rfl, rfl, rfl, rfl, rfl, Nat.zero_le _, (by simp), rfl⟩ ?_)))))))))))
  rintro m e B L ⟨k, e0_1, e1_1, e7_1, e8_1, rfl, rfl, hk, hy, rfl⟩
  refine yA (zg (fun _ => R_lt e8_1 e7_1) (yB (zq ?_))); refine zD rfl (fun h1 => ?_) (fun h1 => ?_)
  · have hlt : k < l.length := (by omega); obtain ⟨x, hxk⟩ : ∃ x, l[k]? = some x := ⟨_, List.getElem?_eq_getElem hlt⟩; obtain ⟨cs, hA, hE⟩ := hm.get0 hxk; have hxn := hl x (List.mem_of_getElem? hxk); obtain ⟨b1, o1, rfl⟩ := hA.ptr; obtain ⟨op, at_, nm, ks⟩ := x; have hE2 := hE; unfold exM at hE2; obtain ⟨ka, kc, rfl, hkc, hks⟩ := hE2
    refine zi (zk (zq (zB (yA (mI e8_1 (aI rfl (yC (zm e1_1 (mS e0_1 (mI rfl (zg (fun _ => R_iaN (i := k) sl47 rfl rfl (by omega)) (w_loadC (l := [.int .u8 (op : Nat), .int .i64 at_, str nm, .slice ka ks.length kc]) z52 rfl rfl (fun w h j v hj => hA.cell (fun _ _ hh => hh) zm0 h j v hj) (zC (fun w => R_callv rfl Tryz.func119 rfl rfl) rfl rfl (fun w h => exprsC_spec n ih hn _ _ N w hxn (hE.now (fun _ _ hh => hh) zm0 h) (hW.now zm0 h)) (yB ?_)))))))))))))); refine c_cond rfl (fun h2 => ?_) (fun h2 => ?_)
    · refine yA (mI rfl (aI rfl (yB (ze (zb (zt (zt (zb (zt ((zo (v := .int _ _) rfl rfl rfl ?_))))))))))); exact fun w' hw => ⟨by rw [firstI_at hy hxk h2], hw.fr _ zm0⟩
    · refine zi (zO (zk (zr (zg (fun _ => R_addi e8_1 rfl (by omega)) (mI rfl (zn ?_)))))); exact k_again _ (by omega) ⟨k + 1, e0_1, e1_1, e7_1, rfl, rfl, rfl, by omega, take_all hy hxk h2, rfl⟩
  · refine zX (zx (zx (b_here rfl (zk (yA (aI rfl (yB (ze ?_))))))))
    obtain rfl : k = l.length := by omega
    rw [List.take_length] at hy
    refine zo (v := .int _ _) rfl rfl rfl ?_; exact fun w' hw => ⟨by rw [firstI_no hy], hw.fr _ zm0⟩

theorem hasE_spec (n : Nat) (ih : ExprH n) (hn : n ≤ 10000000) (l : List Ex) (a : Option Addr) (c : Nat) (N : Nat → Prop) (w : World) (hl : ∀ x ∈ l, exW x < n) (hll : l.length ≤ 10000000) (hm : exsM w N l a 0) (hW : Wd w) :
    Ret Tryz.prog 118 #[.slice a l.length c, .func (.func 119) #[] #[]] w (fun v w' => v = .bool (l.any fun x => !exOk x) ∧ Ext w w') := by
  refine enter (S := No) (l := [_, _]) (L := []) 9 Tryz.func118 rfl rfl rfl (St.start w No) (yA (aB rfl (yC (mS rfl (zm rfl (zC (fun w => zR Tryz.func144 rfl rfl rfl) rfl rfl (fun w h => idxE_spec n ih hn l a c N w hl hll (hm.now (fun _ _ hh => hh) zm0 h) (hW.now zm0 h)) (zg (fun _ => R_ge rfl rfl) (aB rfl (yB (ze (zo (v := .bool _) rfl rfl rfl ?_))))))))))); exact fun w' hw => ⟨by rw [← firstI_ge], hw.fr _ zm0⟩

theorem exprs_spec (n : Nat) (ih : ExprH n) (hn : n ≤ 10000000) (l : List Ex) (a : Option Addr) (c : Nat) (N : Nat → Prop) (w : World) (hl : ∀ x ∈ l, exW x < n) (hll : l.length ≤ 10000000) (hm : exsM w N l a 0) (hW : Wd w) :
    Ret Tryz.prog 98 #[.slice a l.length c] w (fun v w' => v = .bool (exsOk l) ∧ Ext w w') := by
  refine enter (S := No) (l := [_]) (L := []) 6 Tryz.func98 rfl rfl rfl (St.start w No) (yA (aB rfl (yC (mS rfl (zC (fun w => zR Tryz.func118 rfl rfl rfl) rfl rfl (fun w h => hasE_spec n ih hn l a c N w hl hll (hm.now (fun _ _ hh => hh) zm0 h) (hW.now zm0 h)) (zg (fun _ => R_not rfl) (aB rfl (yB (ze (zo (v := .bool _) rfl rfl rfl ?_)))))))))); exact fun w' hw => ⟨by rw [any_not, exsOk_all], hw.fr _ zm0⟩

theorem expr_step (n : Nat) (ih : ExprH n) (hn : n ≤ 10000000) (x : Ex) (cs : List Value) (N : Nat → Prop) (w : World) (hx : exW x < n + 1) (hm : exM w N x cs) (hW : Wd w) :
    Ret Tryz.prog 59 #[.agg cs.toArray] w (fun v w' => v = .bool (exOk x) ∧ Ext w w') := by
  obtain ⟨op, at_, nm, ks⟩ := x
  have hm2 := hm
  unfold exM at hm2
  obtain ⟨ka, kc, rfl, hkc, hks⟩ := hm2
  have hx2 := hx
  unfold exW at hx2
  have hkl : ∀ x ∈ ks, exW x < n := fun x hx => by have := exsW_mem hx; omega
  refine enter (S := No) (l := [_]) (L := []) 41 Tryz.func59 rfl rfl rfl (St.start w No) (yA (w_boxA rfl (fun t1b gt1b ut1b => aB rfl (yC (zf fa52_3 rfl (zL 0 z47 rfl rfl rfl (zg (fun _ => R_len sl47 rfl) (zA zr3 (fun t3b gt3b ut3b => zV 0 rfl z3 rfl rfl rfl rfl rfl rfl rfl (yC (zf fa52_2 rfl (zL 1 z9 rfl rfl rfl (zg (fun _ => R_seq rfl rfl) (zA zr4 (fun t4b gt4b ut4b => zV 0 rfl z4 rfl rfl rfl rfl rfl rfl rfl (yC (zg (fun _ => R_makeFunc) (za rfl (yC (w_makeMap (k := .u8) (fun mb gmb umb => zg (fun _ => R_makeFunc) (w_insI 0 rfl unm129 unk5 rfl rfl rfl rfl (zg (fun _ => R_makeFunc) (w_insI 0 rfl unm129 unk5 rfl rfl rfl rfl (zg (fun _ => R_makeFunc) (w_insI 0 rfl unm129 unk5 rfl rfl rfl rfl (zg (fun _ => R_makeFunc) (w_insI 0 rfl unm129 unk5 rfl rfl rfl rfl (zg (fun _ => R_makeFunc) (w_insI 0 rfl unm129 unk5 rfl rfl rfl rfl (zm rfl (w_insI 0 rfl unm129 unk5 rfl rfl rfl rfl (zm rfl (w_insI 0 rfl unm129 unk5 rfl rfl rfl rfl (zm rfl (w_insI 0 rfl unm129 unk5 rfl rfl rfl rfl (zm rfl (w_insI 0 rfl unm129 unk5 rfl rfl rfl rfl (zm rfl (za rfl (yC (zm rfl (zf fa52_0 rfl ?_)))))))))))))))))))))))))))))))))))))))))))
  rcases op_cases9 op with rfl | rfl | rfl | rfl | rfl | rfl | rfl | rfl | rfl | hop
  · refine zL 3 z5 rfl rfl rfl (w_lookI 0 (v := .func (.func 91) _ _) rfl unm129 unk5 zr22 rfl rfl rfl (za rfl (yC (zm rfl (zg (fun _ => R_fne unf22 rfl rfl) (mB rfl (zw rfl rfl rfl (zm rfl (zw rfl rfl rfl (zC (fun w => R_callv rfl Tryz.func91 rfl rfl) rfl rfl (fun w h => expr2_spec w (hW.now zm0 h) t3b _ (h.at_ 2 rfl) t1b _ _ _ _ (h.at_ 3 rfl) (by omega)) (zg (v := .bool _) (fun _ => zT rfl rfl) (mB rfl ?_)))))))))))); refine zp (t := 36) rfl (fun h4 => ?_) (fun h4 => ?_)
    · refine zw rfl rfl (bV h4) (zf fa52_3 rfl (zw rfl rfl (bV h4) (zL 3 z47 rfl rfl rfl (zw rfl rfl (bV h4) (zC (fun w => zR Tryz.func98 rfl rfl rfl) rfl rfl (fun w h => exprs_spec n ih hn ks ka kc N w hkl (by omega) (hks.now (fun _ _ hh => hh) zm0 h) (hW.now zm0 h)) (zg (v := .bool _) (fun _ => zT (bV h4) rfl) (aB rfl (yB (ze (zo (v := .bool _) rfl rfl rfl ?_)))))))))); exact fun w' hw => ⟨by (simp_all [exOk, ruleOk]; done), hw.fr _ zm0⟩
    · refine zs rfl rfl (bV h4) (zs rfl rfl (bV h4) (zs rfl rfl (bV h4) (zg (v := .bool _) (fun _ => zF (bV h4) rfl) (aB rfl (yB (ze (zo (v := .bool _) rfl rfl rfl ?_))))))); exact fun w' hw => ⟨by (simp_all [exOk, ruleOk]; done), hw.fr _ zm0⟩
  · refine zL 3 z5 rfl rfl rfl (w_lookI 0 (v := .func (.func 93) _ _) rfl unm129 unk5 zr22 rfl rfl rfl (za rfl (yC (zm rfl (zg (fun _ => R_fne unf22 rfl rfl) (mB rfl (zw rfl rfl rfl (zm rfl (zw rfl rfl rfl (zC (fun w => R_callv rfl Tryz.func93 rfl rfl) rfl rfl (fun w h => expr3_spec w (hW.now zm0 h) t3b _ (h.at_ 2 rfl) t1b _ _ _ _ (h.at_ 3 rfl) (by omega)) (zg (v := .bool _) (fun _ => zT rfl rfl) (mB rfl ?_)))))))))))); refine zp (t := 36) rfl (fun h5 => ?_) (fun h5 => ?_)
    · refine zw rfl rfl (bV h5) (zf fa52_3 rfl (zw rfl rfl (bV h5) (zL 3 z47 rfl rfl rfl (zw rfl rfl (bV h5) (zC (fun w => zR Tryz.func98 rfl rfl rfl) rfl rfl (fun w h => exprs_spec n ih hn ks ka kc N w hkl (by omega) (hks.now (fun _ _ hh => hh) zm0 h) (hW.now zm0 h)) (zg (v := .bool _) (fun _ => zT (bV h5) rfl) (aB rfl (yB (ze (zo (v := .bool _) rfl rfl rfl ?_)))))))))); exact fun w' hw => ⟨by (simp_all [exOk, ruleOk]; done), hw.fr _ zm0⟩
    · refine zs rfl rfl (bV h5) (zs rfl rfl (bV h5) (zs rfl rfl (bV h5) (zg (v := .bool _) (fun _ => zF (bV h5) rfl) (aB rfl (yB (ze (zo (v := .bool _) rfl rfl rfl ?_))))))); exact fun w' hw => ⟨by (simp_all [exOk, ruleOk]; done), hw.fr _ zm0⟩
  · refine zL 3 z5 rfl rfl rfl (w_lookI 0 (v := .func (.func 95) _ _) rfl unm129 unk5 zr22 rfl rfl rfl (za rfl (yC (zm rfl (zg (fun _ => R_fne unf22 rfl rfl) (mB rfl (zw rfl rfl rfl (zm rfl (zw rfl rfl rfl (zC (fun w => R_callv rfl Tryz.func95 rfl rfl) rfl rfl (fun w h => expr4_spec w (hW.now zm0 h) t3b _ (h.at_ 2 rfl) t1b _ _ _ _ (h.at_ 3 rfl) (by omega)) (zg (v := .bool _) (fun _ => zT rfl rfl) (mB rfl ?_)))))))))))); refine zp (t := 36) rfl (fun h6 => ?_) (fun h6 => ?_)
    · refine zw rfl rfl (bV h6) (zf fa52_3 rfl (zw rfl rfl (bV h6) (zL 3 z47 rfl rfl rfl (zw rfl rfl (bV h6) (zC (fun w => zR Tryz.func98 rfl rfl rfl) rfl rfl (fun w h => exprs_spec n ih hn ks ka kc N w hkl (by omega) (hks.now (fun _ _ hh => hh) zm0 h) (hW.now zm0 h)) (zg (v := .bool _) (fun _ => zT (bV h6) rfl) (aB rfl (yB (ze (zo (v := .bool _) rfl rfl rfl ?_)))))))))); exact fun w' hw => ⟨by (simp_all [exOk, ruleOk]; done), hw.fr _ zm0⟩
    · refine zs rfl rfl (bV h6) (zs rfl rfl (bV h6) (zs rfl rfl (bV h6) (zg (v := .bool _) (fun _ => zF (bV h6) rfl) (aB rfl (yB (ze (zo (v := .bool _) rfl rfl rfl ?_))))))); exact fun w' hw => ⟨by (simp_all [exOk, ruleOk]; done), hw.fr _ zm0⟩
  · refine zL 3 z5 rfl rfl rfl (w_lookI 0 (v := .func (.func 96) _ _) rfl unm129 unk5 zr22 rfl rfl rfl (za rfl (yC (zm rfl (zg (fun _ => R_fne unf22 rfl rfl) (mB rfl (zw rfl rfl rfl (zm rfl (zw rfl rfl rfl (zC (fun w => R_callv rfl Tryz.func96 rfl rfl) rfl rfl (fun w h => expr5_spec w (hW.now zm0 h) t1b _ _ _ _ (h.at_ 3 rfl) (by omega)) (zg (v := .bool _) (fun _ => zT rfl rfl) (mB rfl ?_)))))))))))); refine zp (t := 36) rfl (fun h7 => ?_) (fun h7 => ?_)
    · refine zw rfl rfl (bV h7) (zf fa52_3 rfl (zw rfl rfl (bV h7) (zL 3 z47 rfl rfl rfl (zw rfl rfl (bV h7) (zC (fun w => zR Tryz.func98 rfl rfl rfl) rfl rfl (fun w h => exprs_spec n ih hn ks ka kc N w hkl (by omega) (hks.now (fun _ _ hh => hh) zm0 h) (hW.now zm0 h)) (zg (v := .bool _) (fun _ => zT (bV h7) rfl) (aB rfl (yB (ze (zo (v := .bool _) rfl rfl rfl ?_)))))))))); exact fun w' hw => ⟨by (simp_all [exOk, ruleOk]; done), hw.fr _ zm0⟩
    · refine zs rfl rfl (bV h7) (zs rfl rfl (bV h7) (zs rfl rfl (bV h7) (zg (v := .bool _) (fun _ => zF (bV h7) rfl) (aB rfl (yB (ze (zo (v := .bool _) rfl rfl rfl ?_))))))); exact fun w' hw => ⟨by (simp_all [exOk, ruleOk]; done), hw.fr _ zm0⟩
  · refine zL 3 z5 rfl rfl rfl (w_lookI 0 (v := .func (.func 97) _ _) rfl unm129 unk5 zr22 rfl rfl rfl (za rfl (yC (zm rfl (zg (fun _ => R_fne unf22 rfl rfl) (mB rfl (zw rfl rfl rfl (zm rfl (zw rfl rfl rfl (zC (fun w => R_callv rfl Tryz.func97 rfl rfl) rfl rfl (fun w h => expr6_spec w (hW.now zm0 h) t4b _ (h.at_ 1 rfl) t3b _ (h.at_ 2 rfl)) (zg (v := .bool _) (fun _ => zT rfl rfl) (mB rfl ?_)))))))))))); refine zp (t := 36) rfl (fun h8 => ?_) (fun h8 => ?_)
    · refine zw rfl rfl (bV h8) (zf fa52_3 rfl (zw rfl rfl (bV h8) (zL 3 z47 rfl rfl rfl (zw rfl rfl (bV h8) (zC (fun w => zR Tryz.func98 rfl rfl rfl) rfl rfl (fun w h => exprs_spec n ih hn ks ka kc N w hkl (by omega) (hks.now (fun _ _ hh => hh) zm0 h) (hW.now zm0 h)) (zg (v := .bool _) (fun _ => zT (bV h8) rfl) (aB rfl (yB (ze (zo (v := .bool _) rfl rfl rfl ?_)))))))))); exact fun w' hw => ⟨by (simp_all [exOk, ruleOk]; done), hw.fr _ zm0⟩
    · refine zs rfl rfl (bV h8) (zs rfl rfl (bV h8) (zs rfl rfl (bV h8) (zg (v := .bool _) (fun _ => zF (bV h8) rfl) (aB rfl (yB (ze (zo (v := .bool _) rfl rfl rfl ?_))))))); exact fun w' hw => ⟨by (simp_all [exOk, ruleOk]; done), hw.fr _ zm0⟩
  · refine zL 3 z5 rfl rfl rfl (w_lookI 0 (v := .func (.func 90) _ _) rfl unm129 unk5 zr22 rfl rfl rfl (za rfl (yC (zm rfl (zg (fun _ => R_fne unf22 rfl rfl) (mB rfl (zw rfl rfl rfl (zm rfl (zw rfl rfl rfl (zC (fun w => R_callv rfl Tryz.func90 rfl rfl) rfl rfl (fun w h => expr1_spec w (hW.now zm0 h) t4b _ (h.at_ 1 rfl) t3b _ (h.at_ 2 rfl)) (zg (v := .bool _) (fun _ => zT rfl rfl) (mB rfl ?_)))))))))))); refine zp (t := 36) rfl (fun h9 => ?_) (fun h9 => ?_)
    · refine zw rfl rfl (bV h9) (zf fa52_3 rfl (zw rfl rfl (bV h9) (zL 3 z47 rfl rfl rfl (zw rfl rfl (bV h9) (zC (fun w => zR Tryz.func98 rfl rfl rfl) rfl rfl (fun w h => exprs_spec n ih hn ks ka kc N w hkl (by omega) (hks.now (fun _ _ hh => hh) zm0 h) (hW.now zm0 h)) (zg (v := .bool _) (fun _ => zT (bV h9) rfl) (aB rfl (yB (ze (zo (v := .bool _) rfl rfl rfl ?_)))))))))); exact fun w' hw => ⟨by (simp_all [exOk, ruleOk]; done), hw.fr _ zm0⟩
    · refine zs rfl rfl (bV h9) (zs rfl rfl (bV h9) (zs rfl rfl (bV h9) (zg (v := .bool _) (fun _ => zF (bV h9) rfl) (aB rfl (yB (ze (zo (v := .bool _) rfl rfl rfl ?_))))))); exact fun w' hw => ⟨by (simp_all [exOk, ruleOk]; done), hw.fr _ zm0⟩
  · refine zL 3 z5 rfl rfl rfl (w_lookI 0 (v := .func (.func 90) _ _) rfl unm129 unk5 zr22 rfl rfl rfl (za rfl (yC (zm rfl (zg (fun _ => R_fne unf22 rfl rfl) (mB rfl (zw rfl rfl rfl (zm rfl (zw rfl rfl rfl (zC (fun w => R_callv rfl Tryz.func90 rfl rfl) rfl rfl (fun w h => expr1_spec w (hW.now zm0 h) t4b _ (h.at_ 1 rfl) t3b _ (h.at_ 2 rfl)) (zg (v := .bool _) (fun _ => zT rfl rfl) (mB rfl ?_)))))))))))); refine zp (t := 36) rfl (fun h10 => ?_) (fun h10 => ?_)
    · refine zw rfl rfl (bV h10) (zf fa52_3 rfl (zw rfl rfl (bV h10) (zL 3 z47 rfl rfl rfl (zw rfl rfl (bV h10) (zC (fun w => zR Tryz.func98 rfl rfl rfl) rfl rfl (fun w h => exprs_spec n ih hn ks ka kc N w hkl (by omega) (hks.now (fun _ _ hh => hh) zm0 h) (hW.now zm0 h)) (zg (v := .bool _) (fun _ => zT (bV h10) rfl) (aB rfl (yB (ze (zo (v := .bool _) rfl rfl rfl ?_)))))))))); exact fun w' hw => ⟨by (simp_all [exOk, ruleOk]; done), hw.fr _ zm0⟩
    · refine zs rfl rfl (bV h10) (zs rfl rfl (bV h10) (zs rfl rfl (bV h10) (zg (v := .bool _) (fun _ => zF (bV h10) rfl) (aB rfl (yB (ze (zo (v := .bool _) rfl rfl rfl ?_))))))); exact fun w' hw => ⟨by (simp_all [exOk, ruleOk]; done), hw.fr _ zm0⟩
  · refine zL 3 z5 rfl rfl rfl (w_lookI 0 (v := .func (.func 90) _ _) rfl unm129 unk5 zr22 rfl rfl rfl (za rfl (yC (zm rfl (zg (fun _ => R_fne unf22 rfl rfl) (mB rfl (zw rfl rfl rfl (zm rfl (zw rfl rfl rfl (zC (fun w => R_callv rfl Tryz.func90 rfl rfl) rfl rfl (fun w h => expr1_spec w (hW.now zm0 h) t4b _ (h.at_ 1 rfl) t3b _ (h.at_ 2 rfl)) (zg (v := .bool _) (fun _ => zT rfl rfl) (mB rfl ?_)))))))))))); refine zp (t := 36) rfl (fun h11 => ?_) (fun h11 => ?_)
    · refine zw rfl rfl (bV h11) (zf fa52_3 rfl (zw rfl rfl (bV h11) (zL 3 z47 rfl rfl rfl (zw rfl rfl (bV h11) (zC (fun w => zR Tryz.func98 rfl rfl rfl) rfl rfl (fun w h => exprs_spec n ih hn ks ka kc N w hkl (by omega) (hks.now (fun _ _ hh => hh) zm0 h) (hW.now zm0 h)) (zg (v := .bool _) (fun _ => zT (bV h11) rfl) (aB rfl (yB (ze (zo (v := .bool _) rfl rfl rfl ?_)))))))))); exact fun w' hw => ⟨by (simp_all [exOk, ruleOk]; done), hw.fr _ zm0⟩
    · refine zs rfl rfl (bV h11) (zs rfl rfl (bV h11) (zs rfl rfl (bV h11) (zg (v := .bool _) (fun _ => zF (bV h11) rfl) (aB rfl (yB (ze (zo (v := .bool _) rfl rfl rfl ?_))))))); exact fun w' hw => ⟨by (simp_all [exOk, ruleOk]; done), hw.fr _ zm0⟩
  · refine zL 3 z5 rfl rfl rfl (w_lookI 0 (v := .func (.func 90) _ _) rfl unm129 unk5 zr22 rfl rfl rfl (za rfl (yC (zm rfl (zg (fun _ => R_fne unf22 rfl rfl) (mB rfl (zw rfl rfl rfl (zm rfl (zw rfl rfl rfl (zC (fun w => R_callv rfl Tryz.func90 rfl rfl) rfl rfl (fun w h => expr1_spec w (hW.now zm0 h) t4b _ (h.at_ 1 rfl) t3b _ (h.at_ 2 rfl)) (zg (v := .bool _) (fun _ => zT rfl rfl) (mB rfl ?_)))))))))))); refine zp (t := 36) rfl (fun h12 => ?_) (fun h12 => ?_)
    · refine zw rfl rfl (bV h12) (zf fa52_3 rfl (zw rfl rfl (bV h12) (zL 3 z47 rfl rfl rfl (zw rfl rfl (bV h12) (zC (fun w => zR Tryz.func98 rfl rfl rfl) rfl rfl (fun w h => exprs_spec n ih hn ks ka kc N w hkl (by omega) (hks.now (fun _ _ hh => hh) zm0 h) (hW.now zm0 h)) (zg (v := .bool _) (fun _ => zT (bV h12) rfl) (aB rfl (yB (ze (zo (v := .bool _) rfl rfl rfl ?_)))))))))); exact fun w' hw => ⟨by (simp_all [exOk, ruleOk]; done), hw.fr _ zm0⟩
    · refine zs rfl rfl (bV h12) (zs rfl rfl (bV h12) (zs rfl rfl (bV h12) (zg (v := .bool _) (fun _ => zF (bV h12) rfl) (aB rfl (yB (ze (zo (v := .bool _) rfl rfl rfl ?_))))))); exact fun w' hw => ⟨by (simp_all [exOk, ruleOk]; done), hw.fr _ zm0⟩
  · refine zL 3 z5 rfl rfl rfl (w_lookI 0 (v := .nilFunc) rfl unm129 unk5 zr22 rfl rfl (look_none _ _ _ (by simp; omega)) (za rfl (yC (zm rfl (zg (fun _ => R_nne unf22 rfl rfl) (mB rfl ?_)))))); (iterate 2 refine zs rfl rfl rfl ?_); refine zg (v := .bool _) (fun _ => zF rfl rfl) (mB rfl ?_); (iterate 3 refine zs rfl rfl rfl ?_); refine zg (v := .bool _) (fun _ => zF rfl rfl) (aB rfl (yB (ze (zo (v := .bool _) rfl rfl rfl ?_)))); exact fun w' hw => ⟨by (unfold exOk; rw [rule_miss hop]; rfl), hw.fr _ zm0⟩


theorem expr_all : ∀ n : Nat, n ≤ 10000000 → ExprH n
  | 0, _ => fun _ _ _ _ h _ _ => absurd h (Nat.not_lt_zero _)
  | n + 1, hn => fun x cs N w hx hm hW => expr_step n (expr_all n (by omega)) (by omega) x cs N w hx hm hW
theorem expr_ok (x : Ex) (cs : List Value) (N : Nat → Prop) (w : World) (hx : exW x < 10000000) (hm : exM w N x cs) (hW : Wd w) : Ret Tryz.prog 59 #[.agg cs.toArray] w fun v w' => v = .bool (exOk x) ∧ Ext w w' := expr_all _ (Nat.le_refl _) x cs N w hx hm hW
theorem exprs_ok (l : List Ex) (a : Option Addr) (c : Nat) (N : Nat → Prop) (w : World) (hl : exsW l < 10000000) (hll : l.length ≤ 10000000) (hm : exsM w N l a 0) (hW : Wd w) : Ret Tryz.prog 98 #[.slice a l.length c] w fun v w' => v = .bool (exsOk l) ∧ Ext w w' :=
  exprs_spec _ (expr_all _ (Nat.le_refl _)) (Nat.le_refl _) l a c N w (fun _ hx => Nat.lt_of_le_of_lt (exsW_mem hx) hl) hll hm hW
end Go.Proofs.YtoehjlmdnajibaaGreatDoor
end
