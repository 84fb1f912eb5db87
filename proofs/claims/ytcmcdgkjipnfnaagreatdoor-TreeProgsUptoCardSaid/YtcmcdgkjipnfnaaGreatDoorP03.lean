/- For every two programs, of a bulk of at most 1048576, the law TreeProgs holds of the given program. Part 3 of 18. -/
import Derived.Test.YtcmcdgkjipnfnaaGreatDoorP02
section
namespace Go.Proofs.YtcmcdgkjipnfnaaGreatDoor
open Go.RowKit Go.Sx
open Go.Tok
theorem Fields_signs (x : List UInt8) (hx : x = signsT) (w : World) (ht : Tb w) : Ret Tryz.prog 35 #[str x] w fun v w' =>
  v = .slice (some ⟨w.heap.size, 0, none⟩) 22 22 ∧ w' = w.alloc (cel (signsL.map str) 9) := by
 subst hx
 have := Fields_spec signsT w (by decide) signs_ascii ht
 rw [signs_fields] at this
 exact this
theorem sig_at {k : Nat} (h : k < 22) : (signsL.map str)[0 + k * 1]? = some (str (signsL.getD k [])) := by
 have : k < signsL.length := h
 simp [this]

set_option maxRecDepth 100000 in
set_option maxHeartbeats 400000 in
theorem is_spec (p : Nat) (s so : List UInt8) (q : UInt8 → Bool) (hq : so.contains = q) (j on : Nat) (w : World) (hp : w.heap[p]? = some (cel [str s, .int .i64 (j : Nat)] 136)) (hs : s.length ≤ 10000000) (hj : j ≤ 10000000) (h1 : on ≤ 10) :
  Ret Tryz.prog 130 #[.pointer (some ⟨p, 0, none⟩), str so, .int .i64 (on : Nat)] w (fun v w' => v = .bool (atP q s (j + on)) ∧ Ext w w') := by
 refine enter (S := No) (l := [_, _, _]) (L := []) 35 Tryz.func130 rfl rfl rfl (St.start w No) ?_; refine yA ?_; refine aB rfl ?_; refine yB ?_; refine zq ?_; refine c_draw mixed (by kernel_rfl) ?_; refine mP rfl ?_; refine w_nilc rfl ?_; refine zf fa136_1 rfl ?_; refine zl z3 rfl (fun _ h => cel_oldb hp (.head _) id rfl h) ?_; refine mI rfl ?_; refine w_r (fun _ => R_addi rfl rfl (by omega)) rfl rfl ?_; refine mP rfl ?_; refine w_nilc rfl ?_; refine zf fa136_0 rfl ?_; refine zl z9 rfl (fun _ h => cel_oldb hp (.head _) id rfl h) ?_; refine w_r (fun _ => R_slen st9 rfl (by omega)) rfl rfl ?_; refine w_r (fun _ => R_lt rfl rfl) rfl rfl ?_; refine mB rfl ?_; refine zd (t := 19) rfl (fun h1 => ?_) (fun h1 => ?_)
 ·refine zw rfl rfl (bT h1) ?_; refine zm (v := str _) rfl ?_; refine zw rfl rfl (bT h1) ?_; refine mP rfl ?_; refine zw rfl rfl (bT h1) ?_; refine w_nilc rfl ?_; refine zw rfl rfl (bT h1) ?_; refine zf fa136_0 rfl ?_; refine zw rfl rfl (bT h1) ?_; refine zl z9 rfl (fun _ h => cel_oldb hp (.head _) id rfl h) ?_; refine zw rfl rfl (bT h1) ?_; refine mP rfl ?_; refine zw rfl rfl (bT h1) ?_; refine w_nilc rfl ?_; refine zw rfl rfl (bT h1) ?_; refine zf fa136_1 rfl ?_; refine zw rfl rfl (bT h1) ?_; refine zl z3 rfl (fun _ h => cel_oldb hp (.head _) id rfl h) ?_; refine zw rfl rfl (bT h1) ?_; refine mI rfl ?_; refine zw rfl rfl (bT h1) ?_; refine w_r (fun _ => R_addi rfl rfl (by omega)) rfl rfl ?_; refine zw rfl rfl (bT h1) ?_
  refine w_sidx st9 rfl rfl (by omega) ?_; refine zw rfl rfl (bT h1) ?_; refine zC (fun w => zR Tryz.func133 rfl rfl rfl) rfl rfl (fun w h => IndexByte_at _ _ w) ?_; refine zw rfl rfl (bT h1) ?_; refine w_r (fun _ => R_ge rfl rfl) rfl rfl ?_; refine w_r (v := .bool _) (fun _ => zT (bT h1) rfl) rfl rfl ?_; refine aB rfl ?_; refine yB ?_; refine ze ?_; refine zo (v := .bool _) rfl rfl rfl ?_; exact fun w' hw => ⟨by subst hq; rw [atP_in (by omega), ← index_contains], hw.fr _ (.head _)⟩
 ·refine zs rfl rfl (bF h1) ?_; refine zs rfl rfl (bF h1) ?_; refine zs rfl rfl (bF h1) ?_; refine zs rfl rfl (bF h1) ?_; refine zs rfl rfl (bF h1) ?_; refine zs rfl rfl (bF h1) ?_; refine zs rfl rfl (bF h1) ?_; refine zs rfl rfl (bF h1) ?_; refine zs rfl rfl (bF h1) ?_; refine zs rfl rfl (bF h1) ?_; refine zs rfl rfl (bF h1) ?_; refine zs rfl rfl (bF h1) ?_; refine zs rfl rfl (bF h1) ?_; refine zs rfl rfl (bF h1) ?_; refine w_r (v := .bool _) (fun _ => zF (bF h1) rfl) rfl rfl ?_; refine aB rfl ?_; refine yB ?_; refine ze ?_; refine zo (v := .bool _) rfl rfl rfl ?_; exact fun w' hw => ⟨by rw [atP_out (by omega)], hw.fr _ (.head _)⟩

set_option maxRecDepth 100000 in
set_option maxHeartbeats 400000 in
theorem run_spec (p : Nat) (s so : List UInt8) (q : UInt8 → Bool) (hq : so.contains = q) (j : Nat) (w : World) (hp : w.heap[p]? = some (cel [str s, .int .i64 (j : Nat)] 136)) (hs : s.length ≤ 10000000) (hj : j ≤ s.length) :
  Ret Tryz.prog 131 #[.pointer (some ⟨p, 0, none⟩), str so] w (fun v w' => v = .int .i64 (runTo q s j - j : Nat) ∧ Fr (fun i => i = p) w w' ∧ w'.heap[p]? = some (cel [str s, .int .i64 (runTo q s j : Nat)] 136)) := by
 refine enter (S := (fun i => i = p)) (l := [_, _]) (L := [(p, cel [str s, .int .i64 (j : Nat)] 136)]) 26 Tryz.func131 rfl rfl rfl (St.start1 w hp rfl) ?_; refine yA ?_; refine aI rfl ?_; refine yC ?_; refine mP rfl ?_; refine w_nilc rfl ?_; refine zf fa136_1 rfl ?_; refine zl z3 rfl (fun _ h => zc 0 rfl rfl h) ?_; refine aI rfl ?_; refine yB ?_; refine zq ?_; refine zB ?_; refine c_loop (fun m e B L => ∃ (k : Nat), e 0 = .pointer (some ⟨p, 0, none⟩) ∧ e 1 = str so ∧ e 5 = .int .i64 (j : Nat) ∧ B = [(w, (fun i => i = p))] ∧ L = [(p, cel [str s, .int .i64 (k : Nat)] 136)] ∧ j ≤ k ∧ k ≤ s.length ∧ runTo q s k = runTo q s j ∧ m = s.length - k) _ ⟨j, rfl, rfl, rfl, rfl, rfl, by omega, by omega, rfl, rfl⟩ ?_
 rintro m e B L ⟨k, e0_1, e1_1, e5_1, rfl, rfl, p0_1, p1_1, p2_1, rfl⟩
 refine zq ?_; refine yA ?_; refine mP e0_1 ?_; refine zm (v := str _) e1_1 ?_; refine zC (fun w => zR Tryz.func130 rfl rfl rfl) rfl rfl (fun w h => is_spec p s _ _ hq _ 0 w (h.at_ 0 rfl) hs (by omega) (by decide)) ?_; refine yB ?_; refine c_cond rfl (fun h1 => ?_) (fun h1 => ?_)
 ·replace h1 : atP q s k = true := h1; have h2 := atP_lt h1
  refine zi ?_; refine zk ?_; refine zB ?_; refine zr ?_; refine mP e0_1 ?_; refine w_nilc rfl ?_; refine zf fa136_1 rfl ?_; refine zl z3 rfl (fun _ h => zc 0 rfl rfl h) ?_; refine w_r (fun _ => R_addi rfl rfl (by omega)) rfl rfl ?_; refine w_nilc rfl ?_; refine zf fa136_1 rfl ?_; refine w_store 0 rfl z3 rfl rfl rfl rfl rfl rfl rfl ?_; refine zn ?_; refine b_on (?_)
  exact k_again _ (by omega) ⟨k + 1, e0_1, e1_1, e5_1, rfl, rfl, by omega, by omega, by rw [← p2_1, runTo_step h1], rfl⟩
 ·refine c_exit ?_; refine zx (zx (b_here rfl (zk ?_))); refine yA ?_; refine mP e0_1 ?_; refine w_nilc rfl ?_; refine zf fa136_1 rfl ?_; refine zl z3 rfl (fun _ h => zc 0 rfl rfl h) ?_; refine mI e5_1 ?_; refine w_r (fun _ => R_subi rfl rfl (by omega)) rfl rfl ?_; refine aI rfl ?_; refine yB ?_; refine ze ?_
  replace h1 : atP q s k = false := h1
  have h2 : runTo q s j = k := by rw [← p2_1, runTo_stop h1]
  rw [h2]
  refine zo (v := .int _ _) rfl rfl rfl ?_; exact fun w' hw => ⟨by congr 1; omega, hw.fr _ (.head _), hw.at_ 0 rfl⟩

set_option maxRecDepth 100000 in
set_option maxHeartbeats 400000 in
theorem skip_spec (p : Nat) (s : List UInt8) (j : Nat) (w : World) (hp : w.heap[p]? = some (cel [str s, .int .i64 (j : Nat)] 136)) (hs : s.length ≤ 10000000) (hj : j ≤ s.length) :
  Ret Tryz.prog 122 #[.pointer (some ⟨p, 0, none⟩)] w (fun v w' => v = .tuple #[] ∧ Fr (fun i => i = p) w w' ∧ w'.heap[p]? = some (cel [str s, .int .i64 (skipTo s j : Nat)] 136)) := by
 refine enter (S := (fun i => i = p)) (l := [_]) (L := [(p, cel [str s, .int .i64 (j : Nat)] 136)]) 46 Tryz.func122 rfl rfl rfl (St.start1 w hp rfl) ?_; refine zB ?_; refine c_loop (fun m e B L => ∃ (k : Nat), e 0 = .pointer (some ⟨p, 0, none⟩) ∧ B = [(w, (fun i => i = p))] ∧ L = [(p, cel [str s, .int .i64 (k : Nat)] 136)] ∧ k ≤ s.length ∧ skipTo s k = skipTo s j ∧ m = s.length - k) _ ⟨j, rfl, rfl, rfl, by omega, rfl, rfl⟩ ?_
 rintro m e B L ⟨k, e0_1, rfl, rfl, p0_1, p1_1, rfl⟩
 have r0 := Lib.indexByte_ge (s.drop (runTo blankB s k)) 10
 have r6 := runTo_le (p := notNl) (runTo_le (p := blankB) p0_1)
 have r7 := index_run s _ (runTo_le (p := blankB) p0_1)
 have r1 := runTo_ge blankB s k
 have r2 := runTo_le (p := blankB) p0_1
 refine zB ?_; refine yA ?_; refine mP e0_1 ?_; refine w_call1 0 rfl (fun w => zR Tryz.func131 rfl rfl rfl) rfl rfl (fun w h => run_spec p s _ _ con_blanks _ w (h.at_ 0 rfl) hs (by omega)) ?_; refine yB ?_; refine zq ?_; refine zq ?_; refine c_draw mixed (by kernel_rfl) ?_; refine mP e0_1 ?_; refine w_nilc rfl ?_; refine zf fa136_0 rfl ?_; refine zl z9 rfl (fun _ h => zc 0 rfl rfl h) ?_; refine mP e0_1 ?_; refine w_nilc rfl ?_; refine zf fa136_1 rfl ?_; refine zl z3 rfl (fun _ h => zc 0 rfl rfl h) ?_; refine w_r (fun _ => R_ssl_loN st9 rfl rfl (by omega)) rfl rfl ?_; refine zC (fun w => zR Tryz.func132 rfl rfl rfl) rfl rfl (fun w h => HasPrefix_spec _ _ w) ?_; refine w_r (fun _ => R_not rfl) rfl rfl ?_; refine yB ?_
 refine c_condN rfl (fun h1 => ?_) (fun h1 => ?_)
 ·rw [prefix_cmt] at h1
  refine ze ?_; refine zt (zb (zt (zb (?_))))
  refine r_none (.inl rfl) rfl ?_; exact fun w' hw => ⟨rfl, hw.fr _ (.head _), by have := hw.at_ 0 rfl; rw [← p1_1, skipTo_eq p0_1, if_neg (by simp [h1])]; exact this⟩
 ·rw [prefix_cmt] at h1
  refine zi ?_; refine zk ?_; refine zq ?_; refine c_draw mixed (by kernel_rfl) ?_; refine mP e0_1 ?_; refine w_nilc rfl ?_; refine zf fa136_0 rfl ?_; refine zl z9 rfl (fun _ h => zc 0 rfl rfl h) ?_; refine mP e0_1 ?_; refine w_nilc rfl ?_; refine zf fa136_1 rfl ?_; refine zl z3 rfl (fun _ h => zc 0 rfl rfl h) ?_; refine w_r (fun _ => R_ssl_loN st9 rfl rfl (by omega)) rfl rfl ?_; refine zC (fun w => zR Tryz.func133 rfl rfl rfl) rfl rfl (fun w h => IndexByte_at _ 10 w) ?_; refine aI rfl ?_; refine yB ?_; refine zq ?_; refine yA ?_; refine mI rfl ?_; refine w_r (fun _ => R_lt rfl rfl) rfl rfl ?_; refine yB ?_; refine zD rfl (fun h2 => ?_) (fun h2 => ?_)
  ·first | rw [if_pos h2] at r7 | rw [if_neg h2] at r7
   refine c_draw mixed (by kernel_rfl) ?_; refine mP e0_1 ?_; refine w_nilc rfl ?_; refine zf fa136_0 rfl ?_; refine zl z9 rfl (fun _ h => zc 0 rfl rfl h) ?_; refine w_r (fun _ => R_slen st9 rfl (by omega)) rfl rfl ?_; refine mP e0_1 ?_; refine w_nilc rfl ?_; refine zf fa136_1 rfl ?_; refine zl z3 rfl (fun _ h => zc 0 rfl rfl h) ?_; refine w_r (fun _ => R_subi rfl rfl (by omega)) rfl rfl ?_; refine aI rfl ?_; refine yB ?_; refine zr ?_; refine mP e0_1 ?_; refine w_nilc rfl ?_; refine zf fa136_1 rfl ?_; refine zl z3 rfl (fun _ h => zc 0 rfl rfl h) ?_; refine mI rfl ?_; refine w_r (fun _ => R_addi rfl rfl (by omega)) rfl rfl ?_
   refine w_nilc rfl ?_; refine zf fa136_1 rfl ?_; refine w_store 0 rfl z3 rfl rfl rfl rfl rfl rfl rfl ?_; refine zn ?_; refine b_on (?_)
   have r3 := cmt_run h1
   have r4 := r7
   exact k_again _ (by omega) ⟨s.length, (by first | rfl | assumption), (by first | rfl | assumption), congrArg (fun x : Int => [(p, cel [str s, .int .i64 x] 136)]) (by omega), by omega, by rw [← p1_1, skipTo_eq p0_1, if_pos h1, r4], rfl⟩
  ·first | rw [if_pos h2] at r7 | rw [if_neg h2] at r7
   refine zi ?_; refine zk ?_; refine zr ?_; refine mP e0_1 ?_; refine w_nilc rfl ?_; refine zf fa136_1 rfl ?_; refine zl z3 rfl (fun _ h => zc 0 rfl rfl h) ?_; refine mI rfl ?_; refine w_r (fun _ => R_addi rfl rfl (by omega)) rfl rfl ?_; refine w_nilc rfl ?_; refine zf fa136_1 rfl ?_; refine w_store 0 rfl z3 rfl rfl rfl rfl rfl rfl rfl ?_; refine zn ?_; refine b_on (?_)
   have r3 := cmt_run h1
   have r4 := r7
   exact k_again _ (by omega) ⟨runTo notNl s (runTo blankB s k), (by first | rfl | assumption), (by first | rfl | assumption), congrArg (fun x : Int => [(p, cel [str s, .int .i64 x] 136)]) (by omega), by omega, by rw [← p1_1, skipTo_eq p0_1, if_pos h1], rfl⟩

set_option maxRecDepth 100000 in
set_option maxHeartbeats 400000 in
theorem name_spec (p : Nat) (s : List UInt8) (j : Nat) (w : World) (hp : w.heap[p]? = some (cel [str s, .int .i64 (j : Nat)] 136)) (hs : s.length ≤ 10000000) (hj : j ≤ s.length) :
  Ret Tryz.prog 119 #[.pointer (some ⟨p, 0, none⟩)] w (fun v w' => v = .tuple #[.int .u8 (if nameB s j then 1 else 0), .bool (nameB s j)] ∧ Fr (fun i => i = p) w w' ∧ w'.heap[p]? = some (cel [str s, .int .i64 (if nameB s j then runTo wordB s j else j : Nat)] 136)) := by
 refine enter (S := (fun i => i = p)) (l := [_]) (L := [(p, cel [str s, .int .i64 (j : Nat)] 136)]) 13 Tryz.func119 rfl rfl rfl (St.start1 w hp rfl) ?_; refine yA ?_; refine aI rfl ?_; refine aB rfl ?_; refine yB ?_; refine zq ?_; refine yA ?_; refine mP rfl ?_; refine zC (fun w => zR Tryz.func130 rfl rfl rfl) rfl rfl (fun w h => is_spec p s _ _ (con_one 95) _ 0 w (h.at_ 0 rfl) hs (by omega) (by decide)) ?_; refine mB rfl ?_; refine zp (t := 6) rfl (fun h1 => ?_) (fun h1 => ?_)
 ·refine zs rfl rfl (bV h1) ?_; refine zs rfl rfl (bV h1) ?_; refine zs rfl rfl (bV h1) ?_; refine w_r (v := .bool _) (fun _ => zT (bV h1) rfl) rfl rfl ?_; refine yB ?_; refine zE rfl ?_; refine yA ?_; refine aI rfl ?_; refine aB rfl ?_; refine yB ?_; refine ze ?_; refine zt (?_)
  have h0 : nameB s j = false := by simp only [nameB]; rw [show atP (eqB 95) s j = true from h1]; simp
  rw [h0]
  refine r_two (v := .int _ _) (v2 := .bool _) rfl rfl rfl rfl rfl ?_; exact fun w' hw => ⟨rfl, hw.fr _ (.head _), hw.at_ 0 rfl⟩
 ·refine zw rfl rfl (bV h1) ?_; refine mP rfl ?_; refine zw rfl rfl (bV h1) ?_; refine zC (fun w => zR Tryz.func130 rfl rfl rfl) rfl rfl (fun w h => is_spec p s _ _ con_letters _ 0 w (h.at_ 0 rfl) hs (by omega) (by decide)) ?_; refine zw rfl rfl (bV h1) ?_; refine w_r (fun _ => R_not rfl) rfl rfl ?_; refine w_r (v := .bool _) (fun _ => zF (bV h1) rfl) rfl rfl ?_; refine yB ?_; refine c_condN rfl (fun h2 => ?_) (fun h2 => ?_)
  ·refine yA ?_; refine aI rfl ?_; refine aB rfl ?_; refine yB ?_; refine ze ?_; refine zt (?_)
   have h0 : nameB s j = false := by simp only [nameB]; rw [show atP letterB s j = false from h2]; rfl
   rw [h0]
   refine r_two (v := .int _ _) (v2 := .bool _) rfl rfl rfl rfl rfl ?_; exact fun w' hw => ⟨rfl, hw.fr _ (.head _), hw.at_ 0 rfl⟩
  ·refine zi ?_; refine zk ?_; refine yA ?_; refine mP rfl ?_; refine w_call1 0 rfl (fun w => zR Tryz.func131 rfl rfl rfl) rfl rfl (fun w h => run_spec p s _ _ con_words _ w (h.at_ 0 rfl) hs (by omega)) ?_; refine yC ?_; refine aI rfl ?_; refine aB rfl ?_; refine yB ?_; refine ze ?_
   have h0 : nameB s j = true := by simp only [nameB]; rw [show atP (eqB 95) s j = false from h1, show atP letterB s j = true from h2]; rfl
   rw [h0]
   refine r_two (v := .int _ _) (v2 := .bool _) rfl rfl rfl rfl rfl ?_; exact fun w' hw => ⟨rfl, hw.fr _ (.head _), hw.at_ 0 rfl⟩

set_option maxRecDepth 100000 in
set_option maxHeartbeats 400000 in
theorem number_spec (p : Nat) (s : List UInt8) (j : Nat) (w : World) (hp : w.heap[p]? = some (cel [str s, .int .i64 (j : Nat)] 136)) (hs : s.length ≤ 10000000) (hj : j ≤ s.length) :
  Ret Tryz.prog 120 #[.pointer (some ⟨p, 0, none⟩)] w (fun v w' => v = .tuple #[.int .u8 (if atP digitB s j then 2 else 0), .bool (if atP digitB s j then numFine s j else false)] ∧ Fr (fun i => i = p) w w' ∧ w'.heap[p]? = some (cel [str s, .int .i64 (if atP digitB s j then numEnd s j else j : Nat)] 136)) := by
 have g1 := runTo_le (p := digitB) hj
 have g2 := runTo_ge digitB s j
 refine enter (S := (fun i => i = p)) (l := [_]) (L := [(p, cel [str s, .int .i64 (j : Nat)] 136)]) 66 Tryz.func120 rfl rfl rfl (St.start1 w hp rfl) ?_; refine yA ?_; refine aI rfl ?_; refine aB rfl ?_; refine yB ?_; refine zq ?_; refine yA ?_; refine mP rfl ?_; refine w_call1 0 rfl (fun w => zR Tryz.func131 rfl rfl rfl) rfl rfl (fun w h => run_spec p s _ _ con_digits _ w (h.at_ 0 rfl) hs (by omega)) ?_; refine w_r (fun _ => R_eq rfl rfl) rfl rfl ?_; refine yB ?_; refine zD rfl (fun h1 => ?_) (fun h1 => ?_)
 ·(try simp only [Nat.add_zero] at h1); (try have qh1 := atP_lt h1)
  have g0 := run_zero digitB s j
  refine yA ?_; refine aI rfl ?_; refine aB rfl ?_; refine yB ?_; refine ze ?_; refine zt (?_)
  have g5 : atP digitB s j = false := by rw [← g0]; omega
  rw [g5]
  refine r_two (v := .int _ _) (v2 := .bool _) rfl rfl rfl rfl rfl ?_; exact fun w' hw => ⟨rfl, hw.fr _ (.head _), by have := hw.at_ 0 rfl; rw [runTo_stop g5] at this; exact this⟩
 ·(try simp only [Nat.add_zero] at h1)
  have g0 := run_zero digitB s j
  refine zi ?_; refine zk ?_; refine c_cut (fun e B L => e 0 = .pointer (some ⟨p, 0, none⟩) ∧ B = [(w, (fun i => i = p))] ∧ L = [(p, cel [str s, .int .i64 (numDot s (runTo digitB s j) : Nat)] 136)]) ?_ ?_
  ·(try simp only [Nat.add_zero] at mid1); (try have qmid1 := atP_lt mid1)
   refine yA ?_; refine mP rfl ?_; refine zC (fun w => zR Tryz.func130 rfl rfl rfl) rfl rfl (fun w h => is_spec p s _ _ (con_one 46) _ 0 w (h.at_ 0 rfl) hs (by omega) (by decide)) ?_; refine mB rfl ?_; refine zp (t := 10) rfl (fun h2 => ?_) (fun h2 => ?_)
   ·(try simp only [Nat.add_zero] at h2); (try have qh2 := atP_lt h2)
    refine zw rfl rfl (bV h2) ?_; refine mP rfl ?_; refine zw rfl rfl (bV h2) ?_; refine zC (fun w => zR Tryz.func130 rfl rfl rfl) rfl rfl (fun w h => is_spec p s _ _ con_digits _ 1 w (h.at_ 0 rfl) hs (by omega) (by decide)) ?_; refine w_r (v := .bool _) (fun _ => zT (bV h2) rfl) rfl rfl ?_; refine yB ?_; refine c_cond rfl (fun h3 => ?_) (fun h3 => ?_)
    ·(try simp only [Nat.add_zero] at h3); (try have qh3 := atP_lt h3)
     refine yA ?_; refine mP rfl ?_; refine w_nilc rfl ?_; refine zf fa136_1 rfl ?_; refine zl z3 rfl (fun _ h => zc 0 rfl rfl h) ?_; refine w_r (fun _ => R_addi rfl rfl (by omega)) rfl rfl ?_; refine w_nilc rfl ?_; refine zf fa136_1 rfl ?_; refine w_store 0 rfl z3 rfl rfl rfl rfl rfl rfl rfl ?_; refine yB ?_; refine zr ?_; refine mP rfl ?_; refine w_call1 0 rfl (fun w => zR Tryz.func131 rfl rfl rfl) rfl rfl (fun w h => run_spec p s _ _ con_digits ((runTo digitB s j) + 1) w (h.at_ 0 rfl) hs (by omega)) ?_; refine zn ?_; exact k_mid ⟨rfl, rfl, by rw [numDot, if_pos (by rw [h2, h3]; rfl)]; rfl⟩
    ·(try simp only [Nat.add_zero] at h3)
     refine zi ?_; exact k_mid ⟨rfl, rfl, by rw [numDot, if_neg (by rw [h2, h3]; simp)]; rfl⟩
   ·(try simp only [Nat.add_zero] at h2)
    refine zs rfl rfl (bV h2) ?_; refine zs rfl rfl (bV h2) ?_; refine w_r (v := .bool _) (fun _ => zF (bV h2) rfl) rfl rfl ?_; refine yB ?_; refine c_condF rfl ?_; refine zi ?_; exact k_mid ⟨rfl, rfl, by rw [numDot, if_neg (by rw [h2]; simp)]; rfl⟩
  rintro e B L ⟨e0_1, rfl, rfl⟩
  have g3 := numDot_le (runTo_le (p := digitB) hj)
  refine yA ?_; refine aI rfl ?_; refine yB ?_; refine c_cut (fun e B L => e 0 = .pointer (some ⟨p, 0, none⟩) ∧ e 4 = .int .i64 ((numTens s (numDot s (runTo digitB s j))).1 : Nat) ∧ B = [(w, (fun i => i = p))] ∧ L = [(p, cel [str s, .int .i64 ((numTens s (numDot s (runTo digitB s j))).2 : Nat)] 136)]) ?_ ?_
  ·(try simp only [Nat.add_zero] at mid2); (try have qmid2 := atP_lt mid2)
   refine zB ?_; refine yA ?_; refine mP e0_1 ?_; refine zC (fun w => zR Tryz.func130 rfl rfl rfl) rfl rfl (fun w h => is_spec p s _ _ (con_one 101) _ 0 w (h.at_ 0 rfl) hs (by omega) (by decide)) ?_; refine mB rfl ?_; refine zp (t := 26) rfl (fun h4 => ?_) (fun h4 => ?_)
   ·(try simp only [Nat.add_zero] at h4); (try have qh4 := atP_lt h4)
    refine zw rfl rfl (bV h4) ?_; refine mP e0_1 ?_; refine zw rfl rfl (bV h4) ?_; refine zC (fun w => zR Tryz.func130 rfl rfl rfl) rfl rfl (fun w h => is_spec p s _ _ con_digits _ 1 w (h.at_ 0 rfl) hs (by omega) (by decide)) ?_; refine w_r (v := .bool _) (fun _ => zT (bV h4) rfl) rfl rfl ?_; refine aB rfl ?_; refine yB ?_; refine c_cond rfl (fun h5 => ?_) (fun h5 => ?_)
    ·(try simp only [Nat.add_zero] at h5); (try have qh5 := atP_lt h5)
     refine yA ?_; refine mP e0_1 ?_; refine w_nilc rfl ?_; refine zf fa136_1 rfl ?_; refine zl z3 rfl (fun _ h => zc 0 rfl rfl h) ?_; refine w_r (fun _ => R_addi rfl rfl (by omega)) rfl rfl ?_; refine w_nilc rfl ?_; refine zf fa136_1 rfl ?_; refine w_store 0 rfl z3 rfl rfl rfl rfl rfl rfl rfl ?_; refine yB ?_; refine zr ?_; refine mP e0_1 ?_; refine w_call1 0 rfl (fun w => zR Tryz.func131 rfl rfl rfl) rfl rfl (fun w h => run_spec p s _ _ con_digits ((numDot s (runTo digitB s j)) + 1) w (h.at_ 0 rfl) hs (by omega)) ?_; refine aI rfl ?_; refine zn ?_; refine b_on (?_)
     have e4 : numTens s (numDot s (runTo digitB s j)) = (runTo digitB s ((numDot s (runTo digitB s j)) + 1) - ((numDot s (runTo digitB s j)) + 1), runTo digitB s ((numDot s (runTo digitB s j)) + 1)) := by rw [numTens, if_pos (by rw [h4, h5]; rfl)]
     exact k_mid ⟨e0_1, by rw [e4]; first | done | rfl, rfl, by rw [e4]; first | done | rfl⟩
    ·(try simp only [Nat.add_zero] at h5)
     refine yA ?_; refine mP e0_1 ?_; refine zC (fun w => zR Tryz.func130 rfl rfl rfl) rfl rfl (fun w h => is_spec p s _ _ (con_one 101) _ 0 w (h.at_ 0 rfl) hs (by omega) (by decide)) ?_; refine mB rfl ?_; refine zp (t := 42) rfl (fun h6 => ?_) (fun h6 => ?_)
     ·(try simp only [Nat.add_zero] at h6); (try have qh6 := atP_lt h6)
      refine zw rfl rfl (bV h6) ?_; refine mP e0_1 ?_; refine zw rfl rfl (bV h6) ?_; refine zC (fun w => zR Tryz.func130 rfl rfl rfl) rfl rfl (fun w h => is_spec p s _ _ con_pm _ 1 w (h.at_ 0 rfl) hs (by omega) (by decide)) ?_; refine w_r (v := .bool _) (fun _ => zT (bV h6) rfl) rfl rfl ?_; refine mB rfl ?_; refine zp (t := 46) rfl (fun h7 => ?_) (fun h7 => ?_)
      ·(try simp only [Nat.add_zero] at h7); (try have qh7 := atP_lt h7)
       refine zw rfl rfl (bV h7) ?_; refine mP e0_1 ?_; refine zw rfl rfl (bV h7) ?_; refine zC (fun w => zR Tryz.func130 rfl rfl rfl) rfl rfl (fun w h => is_spec p s _ _ con_digits _ 2 w (h.at_ 0 rfl) hs (by omega) (by decide)) ?_; refine w_r (v := .bool _) (fun _ => zT (bV h7) rfl) rfl rfl ?_; refine aB rfl ?_; refine yB ?_; refine c_cond rfl (fun h8 => ?_) (fun h8 => ?_)
       ·(try simp only [Nat.add_zero] at h8); (try have qh8 := atP_lt h8)
        refine yA ?_; refine mP e0_1 ?_; refine w_nilc rfl ?_; refine zf fa136_1 rfl ?_; refine zl z3 rfl (fun _ h => zc 0 rfl rfl h) ?_; refine w_r (fun _ => R_addi rfl rfl (by omega)) rfl rfl ?_; refine w_nilc rfl ?_; refine zf fa136_1 rfl ?_; refine w_store 0 rfl z3 rfl rfl rfl rfl rfl rfl rfl ?_; refine yB ?_; refine zr ?_; refine mP e0_1 ?_; refine w_call1 0 rfl (fun w => zR Tryz.func131 rfl rfl rfl) rfl rfl (fun w h => run_spec p s _ _ con_digits ((numDot s (runTo digitB s j)) + 2) w (h.at_ 0 rfl) hs (by omega)) ?_; refine aI rfl ?_; refine zn ?_; refine b_on (?_)
        have e4 : numTens s (numDot s (runTo digitB s j)) = (runTo digitB s ((numDot s (runTo digitB s j)) + 2) - ((numDot s (runTo digitB s j)) + 2), runTo digitB s ((numDot s (runTo digitB s j)) + 2)) := by rw [numTens, if_neg (by rw [h4, h5]; simp), if_pos (by rw [h6, h7, h8]; rfl)]
        exact k_mid ⟨e0_1, by rw [e4]; first | done | rfl, rfl, by rw [e4]; first | done | rfl⟩
       ·(try simp only [Nat.add_zero] at h8)
        refine zi ?_; refine b_on (?_)
        have e4 : numTens s (numDot s (runTo digitB s j)) = (0, (numDot s (runTo digitB s j))) := by rw [numTens, if_neg (by rw [h4, h5]; simp), if_neg (by rw [h6, h7, h8]; simp)]
        exact k_mid ⟨e0_1, by rw [e4]; first | done | rfl, rfl, by rw [e4]; first | done | rfl⟩
      ·(try simp only [Nat.add_zero] at h7)
       refine zs rfl rfl (bV h7) ?_; refine zs rfl rfl (bV h7) ?_; refine w_r (v := .bool _) (fun _ => zF (bV h7) rfl) rfl rfl ?_; refine aB rfl ?_; refine yB ?_; refine c_condF rfl ?_; refine zi ?_; refine b_on (?_)
       have e4 : numTens s (numDot s (runTo digitB s j)) = (0, (numDot s (runTo digitB s j))) := by rw [numTens, if_neg (by rw [h4, h5]; simp), if_neg (by rw [h6, h7]; simp)]
       exact k_mid ⟨e0_1, by rw [e4]; first | done | rfl, rfl, by rw [e4]; first | done | rfl⟩
     ·(try simp only [Nat.add_zero] at h6)
      refine zs rfl rfl (bV h6) ?_; refine zs rfl rfl (bV h6) ?_; refine w_r (v := .bool _) (fun _ => zF (bV h6) rfl) rfl rfl ?_; refine mB rfl ?_; refine zs rfl rfl rfl ?_; refine zs rfl rfl rfl ?_; refine w_r (v := .bool _) (fun _ => zF rfl rfl) rfl rfl ?_; refine aB rfl ?_; refine yB ?_; refine c_condF rfl ?_; refine zi ?_; refine b_on (?_)
      have e4 : numTens s (numDot s (runTo digitB s j)) = (0, (numDot s (runTo digitB s j))) := by rw [numTens, if_neg (by rw [h4, h5]; simp), if_neg (by rw [h6]; simp)]
      exact k_mid ⟨e0_1, by rw [e4]; first | done | rfl, rfl, by rw [e4]; first | done | rfl⟩
   ·(try simp only [Nat.add_zero] at h4)
    refine zs rfl rfl (bV h4) ?_; refine zs rfl rfl (bV h4) ?_; refine w_r (v := .bool _) (fun _ => zF (bV h4) rfl) rfl rfl ?_; refine aB rfl ?_; refine yB ?_; refine c_condF rfl ?_; refine yA ?_; refine mP e0_1 ?_; refine zC (fun w => zR Tryz.func130 rfl rfl rfl) rfl rfl (fun w h => is_spec p s _ _ (con_one 101) _ 0 w (h.at_ 0 rfl) hs (by omega) (by decide)) ?_; refine mB rfl ?_; refine zp (t := 42) rfl (fun h9 => ?_) (fun h9 => ?_)
    ·rw [Nat.add_zero] at h9; rw [h4] at h9; cases h9
    ·(try simp only [Nat.add_zero] at h9)
     refine zs rfl rfl (bV h9) ?_; refine zs rfl rfl (bV h9) ?_; refine w_r (v := .bool _) (fun _ => zF (bV h9) rfl) rfl rfl ?_; refine mB rfl ?_; refine zs rfl rfl rfl ?_; refine zs rfl rfl rfl ?_; refine w_r (v := .bool _) (fun _ => zF rfl rfl) rfl rfl ?_; refine aB rfl ?_; refine yB ?_; refine c_condF rfl ?_; refine zi ?_; refine b_on (?_)
     have e4 : numTens s (numDot s (runTo digitB s j)) = (0, (numDot s (runTo digitB s j))) := by rw [numTens, if_neg (by rw [h4]; simp), if_neg (by rw [h4]; simp)]
     exact k_mid ⟨e0_1, by rw [e4]; first | done | rfl, rfl, by rw [e4]; first | done | rfl⟩
  rintro e B L ⟨e0_2, e4_2, rfl, rfl⟩
  have g4 := numTens_le g3.1
  refine yA ?_; refine mI e4_2 ?_; refine w_r (fun _ => R_le rfl rfl) rfl rfl ?_; refine mB rfl ?_; refine zd (t := 61) rfl (fun h10 => ?_) (fun h10 => ?_)
  ·(try simp only [Nat.add_zero] at h10); (try have qh10 := atP_lt h10)
   refine zw rfl rfl (bT h10) ?_; refine mP e0_2 ?_; refine zw rfl rfl (bT h10) ?_; refine zC (fun w => zR Tryz.func130 rfl rfl rfl) rfl rfl (fun w h => is_spec p s _ _ con_tails _ 0 w (h.at_ 0 rfl) hs (by omega) (by decide)) ?_; refine zw rfl rfl (bT h10) ?_; refine w_r (fun _ => R_not rfl) rfl rfl ?_; refine w_r (v := .bool _) (fun _ => zT (bT h10) rfl) rfl rfl ?_; refine aI rfl ?_; refine aB rfl ?_; refine yB ?_; refine ze ?_
   have g5 : atP digitB s j = true := by cases hc : atP digitB s j; exact absurd (g0.mpr hc) (by omega); rfl
   have g6 : numFine s j = !atP tailB s (numEnd s j) := by rw [numFine, decide_eq_true (by omega)]; rfl
   rw [g5, if_pos rfl, if_pos rfl, if_pos rfl, g6]
   refine r_two (v := .int _ _) (v2 := .bool _) rfl rfl rfl rfl rfl ?_; exact fun w' hw => ⟨rfl, hw.fr _ (.head _), hw.at_ 0 rfl⟩
  ·(try simp only [Nat.add_zero] at h10)
   refine zs rfl rfl (bF h10) ?_; refine zs rfl rfl (bF h10) ?_; refine zs rfl rfl (bF h10) ?_; refine w_r (v := .bool _) (fun _ => zF (bF h10) rfl) rfl rfl ?_; refine aI rfl ?_; refine aB rfl ?_; refine yB ?_; refine ze ?_
   have g5 : atP digitB s j = true := by cases hc : atP digitB s j; exact absurd (g0.mpr hc) (by omega); rfl
   have g6 : numFine s j = false := by rw [numFine, decide_eq_false (by omega)]; rfl
   rw [g5, if_pos rfl, if_pos rfl, if_pos rfl, g6]
   refine r_two (v := .int _ _) (v2 := .bool _) rfl rfl rfl rfl rfl ?_; exact fun w' hw => ⟨rfl, hw.fr _ (.head _), hw.at_ 0 rfl⟩

set_option maxRecDepth 100000 in
set_option maxHeartbeats 400000 in
theorem sign_spec (p : Nat) (s : List UInt8) (j : Nat) (w : World) (hp : w.heap[p]? = some (cel [str s, .int .i64 (j : Nat)] 136)) (hs : s.length ≤ 10000000) (hj : j ≤ s.length) (ht : Tb w) (hg : 0 < p) :
  Ret Tryz.prog 121 #[.pointer (some ⟨p, 0, none⟩)] w (fun v w' => v = .tuple #[.int .u8 (if signLen s j = 0 then 0 else 3), .bool (!decide (signLen s j = 0))] ∧ Fr (fun i => i = p) w w' ∧ w'.heap[p]? = some (cel [str s, .int .i64 (j + signLen s j : Nat)] 136)) := by
 refine enter (S := (fun i => i = p)) (l := [_]) (L := [(p, cel [str s, .int .i64 (j : Nat)] 136)]) 33 Tryz.func121 rfl rfl rfl (St.start1 w hp rfl) ?_; refine yA ?_; refine aI rfl ?_; refine aB rfl ?_; refine yB ?_; refine zq ?_; refine yA ?_; refine w_callN (g := fun b => .slice (some ⟨b, 0, none⟩) 22 22) (fun w => zR Tryz.func35 rfl rfl rfl) rfl rfl (fun w h => Fields_signs _ rfl w (ht.fr (h.fr _ (.head _)) (by intro hh; omega))) (fun fb gfb ufb => ?_)
 refine w_r (fun _ => R_len sl55 rfl) rfl rfl ?_; refine mI rfl ?_; refine yB ?_; refine zB ?_; refine c_loop (fun m e B L => ∃ (k : Nat), e 0 = .pointer (some ⟨p, 0, none⟩) ∧ e 6 = .slice (some ⟨fb, 0, none⟩) 22 22 ∧ e 7 = .int .i64 22 ∧ e 8 = .int .i64 (k : Nat) ∧ B = [(w, (fun i => i = p))] ∧ L = [(fb, cel (signsL.map str) 9), (p, cel [str s, .int .i64 (j : Nat)] 136)] ∧ k ≤ 22 ∧ (signsL.take k).find? (fun t => t.isPrefixOf (s.drop j)) = none ∧ m = 22 - k) _ ⟨0, rfl, rfl, rfl, rfl, rfl, rfl, by omega, rfl, rfl⟩ ?_
 rintro m e B L ⟨k, e0_1, e6_1, e7_1, e8_1, rfl, rfl, p0_1, p1_1, rfl⟩
 have r1 := sig_len k
 refine yA ?_; refine w_r (fun _ => R_lt e8_1 e7_1) rfl rfl ?_; refine yB ?_; refine zq ?_; refine zD rfl (fun h1 => ?_) (fun h1 => ?_)
 ·refine zi ?_; refine zk ?_; refine zq ?_; refine zB ?_; refine yA ?_; refine w_r (fun _ => R_iaN (i := k) sl55 e6_1 e8_1 (by first | omega | decide)) rfl rfl ?_; refine zl z9 rfl (fun _ h => by first | exact zc 0 rfl rfl h | exact zc 1 rfl rfl h | exact zc 0 rfl (sig_at (by omega)) h) ?_; refine za (v := str _) rfl ?_; refine yB ?_; refine zq ?_; refine c_draw mixed (by kernel_rfl) ?_; refine mP e0_1 ?_; refine w_nilc rfl ?_; refine zf fa136_0 rfl ?_; refine zl z9 rfl (fun _ h => zc 1 rfl rfl h) ?_; refine mP e0_1 ?_; refine w_nilc rfl ?_; refine zf fa136_1 rfl ?_; refine zl z3 rfl (fun _ h => zc 1 rfl rfl h) ?_
  refine w_r (fun _ => R_ssl_loN st9 rfl rfl (by omega)) rfl rfl ?_; refine zm (v := str _) rfl ?_; refine zC (fun w => zR Tryz.func132 rfl rfl rfl) rfl rfl (fun w h => HasPrefix_spec _ _ w) ?_; refine yB ?_; refine c_cond rfl (fun h2 => ?_) (fun h2 => ?_)
  ·refine yA ?_; refine mP e0_1 ?_; refine w_nilc rfl ?_; refine zf fa136_1 rfl ?_; refine zl z3 rfl (fun _ h => zc 1 rfl rfl h) ?_; refine zm (v := str _) rfl ?_; refine w_r (fun _ => R_slen st9 rfl (by omega)) rfl rfl ?_; refine w_r (fun _ => R_addi rfl rfl (by omega)) rfl rfl ?_; refine w_nilc rfl ?_; refine zf fa136_1 rfl ?_; refine w_store 1 rfl z3 rfl rfl rfl rfl rfl rfl rfl ?_; refine yC ?_; refine aI rfl ?_; refine aB rfl ?_; refine yB ?_; refine ze ?_; refine zb (zt (zt (zb (zt (?_)))))
   have r2 := sig_found (by omega) p1_1 h2
   rw [r2]
   refine r_two (v := .int _ _) (v2 := .bool _) rfl rfl rfl rfl rfl ?_; exact fun w' hw => ⟨by rw [if_neg (by have := sig_pos k (by omega); omega), decide_eq_false (by have := sig_pos k (by omega); omega)]; rfl, hw.fr _ (.head _), hw.at_ 1 rfl⟩
  ·refine zi ?_; refine b_on (zk ?_); refine zr ?_; refine w_r (fun _ => R_addi e8_1 rfl (by omega)) rfl rfl ?_; refine mI rfl ?_; refine zn ?_; exact k_again _ (by omega) ⟨k + 1, e0_1, e6_1, e7_1, rfl, rfl, rfl, by omega, sig_step (by omega) p1_1 h2, rfl⟩
 ·refine c_exit ?_; refine zx (zx (b_here rfl (zk ?_))); refine yA ?_; refine aI rfl ?_; refine aB rfl ?_; refine yB ?_; refine ze ?_
  have r2 := sig_none (by omega) p1_1
  rw [r2]
  refine r_two (v := .int _ _) (v2 := .bool _) rfl rfl rfl rfl rfl ?_; exact fun w' hw => ⟨rfl, hw.fr _ (.head _), hw.at_ 1 rfl⟩
end Go.Proofs.YtcmcdgkjipnfnaaGreatDoor
end

section
namespace Go.Proofs.YtcmcdgkjipnfnaaGreatDoor
open Go.RowKit Go.Sx
open Go.Tok
variable {σ : Type}
/-- what a round over the tokens does, for whoever calls yield: the caller's own blocks are Lc, told by J -/
def Rounds (J : Bool → σ → Heap → Prop) (nx : σ → Nat → List UInt8 → Nat → Bool → σ × Bool) (l : Nat) : Prop :=
 ∀ (x : σ) (k : Nat) (t : List UInt8) (a : Nat) (b : Bool) (Lc Lr : Heap) (B : Base) (w : World), t.length ≤ 10000000 → J true x Lc → St B (Lc ++ Lr) w →
  YieldAt (fw none) 0 Tryz.prog l #[.agg #[.int .u8 (k : Nat), str t, .int .i64 (a : Nat)], .bool b] w (fun en w' => ∃ v, en = .returned v ∧ ∃ Lc', v = .bool (nx x k t a b).2 ∧ J (nx x k t a b).2 (nx x k t a b).1 Lc' ∧ St B (Lc' ++ Lr) w')

set_option maxRecDepth 100000 in
set_option maxHeartbeats 400000 in
theorem all1_spec (J : Bool → σ → Heap → Prop) (nx : σ → Nat → List UInt8 → Nat → Bool → σ × Bool) (hn : ∀ x k t a, (nx x k t a false).2 = false) (l p vb : Nat) (s : List UInt8) (hs : s.length ≤ 10000000) (hy : Rounds J nx l) (wb : World) (Sb : Nat → Prop) (ht : Tb wb) (hgl : ¬ Sb 0) (hg : 0 < p) (x0 : σ) (Lc0 Lr : Heap) (Bs : Base) (hB : (wb, Sb) ∈ Bs) (hJ0 : J true x0 Lc0) (w : World) (hw : St Bs ((vb, cel [.pointer (some ⟨p, 0, none⟩)] 134) :: (p, cel [str s, .int .i64 (0 : Nat)] 136) :: (Lc0 ++ Lr)) w) :
  Ret Tryz.prog 118 #[.func (.yield l) #[] #[], .pointer (some ⟨vb, 0, none⟩)] w (fun v w' => v = .tuple #[] ∧ ∃ (j : Nat) (g : Bool) (Lc' : Heap), J g (lexS nx s (skipTo s 0) x0) Lc' ∧ St Bs ((vb, cel [.pointer (some ⟨p, 0, none⟩)] 134) :: (p, cel [str s, .int .i64 (j : Nat)] 136) :: (Lc' ++ Lr)) w') := by
 have g0 := skipTo_le (s := s) (Nat.zero_le _)
 refine enterB (l := [_, _]) 67 Tryz.func118 rfl rfl rfl (hw) ?_; refine yA ?_; refine w_r (fun _ => R_buildA ar160 zr160 rfl) rfl rfl ?_; refine w_alloc zr160 (fun b1 gb1 ub1 => ?_)
 refine w_store 0 rfl z160 rfl rfl rfl rfl rfl rfl rfl ?_; refine yC ?_; refine zl z134 rfl (fun _ h => zc 1 rfl rfl h) ?_; refine w_call1 2 rfl (fun w => zR Tryz.func122 rfl rfl rfl) rfl rfl (fun w h => skip_spec p s _ w (h.at_ 2 rfl) hs (Nat.zero_le _)) ?_; refine yB ?_; refine zB ?_
 refine c_loop (fun m e B L => ∃ (k : Nat) (x : σ) (Lc : Heap), e 0 = .func (.yield l) #[] #[] ∧ e 1 = .pointer (some ⟨vb, 0, none⟩) ∧ e 3 = .pointer (some ⟨b1, 0, none⟩) ∧ Bs = B ∧ L = (b1, cel [.func (.func 119) #[] #[], .func (.func 120) #[] #[], .func (.func 121) #[] #[]] 160) :: (vb, cel [.pointer (some ⟨p, 0, none⟩)] 134) :: (p, cel [str s, .int .i64 (k : Nat)] 136) :: (Lc ++ Lr) ∧ k ≤ s.length ∧ J true x Lc ∧ lexS nx s k x = lexS nx s (skipTo s 0) x0 ∧ m = s.length - k) _ ⟨skipTo s 0, x0, Lc0, rfl, rfl, rfl, rfl, rfl, g0.1, hJ0, rfl, rfl⟩ ?_
 rintro m e B L ⟨k, x, Lc, e0_1, e1_1, e3_1, rfl, rfl, hk, hJ, hl, rfl⟩
 have g2 := tok_le hk
 refine zq ?_; refine zq ?_; refine c_draw mixed (by kernel_rfl) ?_; refine zl z134 e1_1 (fun _ h => zc 1 rfl rfl h) ?_; refine w_nilc rfl ?_; refine zf fa136_1 rfl ?_; refine zl z3 rfl (fun _ h => zc 2 rfl rfl h) ?_; refine zl z134 e1_1 (fun _ h => zc 1 rfl rfl h) ?_; refine w_nilc rfl ?_; refine zf fa136_0 rfl ?_; refine zl z9 rfl (fun _ h => zc 2 rfl rfl h) ?_; refine w_r (fun _ => R_slen st9 rfl (by omega)) rfl rfl ?_; refine w_r (fun _ => R_lt rfl rfl) rfl rfl ?_; refine yB ?_; refine zD rfl (fun h2 => ?_) (fun h2 => ?_)
 ·have hlt : k < s.length := by omega
  refine zi ?_; refine zk ?_; refine zq ?_; refine zB ?_; refine yA ?_; refine zl z134 e1_1 (fun _ h => zc 1 rfl rfl h) ?_; refine w_nilc rfl ?_; refine zf fa136_1 rfl ?_; refine zl z3 rfl (fun _ h => zc 2 rfl rfl h) ?_; refine w_r (fun _ => R_build bt119 rfl) rfl rfl ?_; refine w_alloc zr119 (fun t4b gt4b ut4b => ?_)
  refine w_store 0 rfl z119 rfl rfl rfl rfl rfl rfl rfl ?_; refine yC ?_; refine aB rfl ?_; refine yB ?_; refine c_cut (fun e B L => e 0 = .func (.yield l) #[] #[] ∧ e 1 = .pointer (some ⟨vb, 0, none⟩) ∧ e 3 = .pointer (some ⟨b1, 0, none⟩) ∧ e 4 = .pointer (some ⟨t4b, 0, none⟩) ∧ e 5 = .bool (tokAt s k).2.2 ∧ Bs = B ∧ L = (t4b, cel [.int .u8 ((tokAt s k).1 : Nat), str ([]), .int .i64 (k : Nat)] 119) :: (b1, cel [.func (.func 119) #[] #[], .func (.func 120) #[] #[], .func (.func 121) #[] #[]] 160) :: (vb, cel [.pointer (some ⟨p, 0, none⟩)] 134) :: (p, cel [str s, .int .i64 ((tokAt s k).2.1 : Nat)] 136) :: (Lc ++ Lr)) ?_ ?_
  ·refine yA ?_; refine w_loadA z160 e3_1 (fun _ h => h.at_ 1 rfl) rfl ?_; refine mI rfl ?_; refine yB ?_; refine zB ?_; refine c_rounds 4 ?_; refine yA ?_; refine w_r (fun _ => R_lt rfl rfl) rfl rfl ?_; refine yB ?_; refine zq ?_; refine zE (congrArg Value.bool (decide_eq_true (by decide))) ?_; refine zi ?_; refine zk ?_; refine zq ?_; refine zB ?_; refine yA ?_; refine w_r (fun _ => R_aidx (i := 0) ar160 rfl rfl rfl rfl) rfl rfl ?_; refine za rfl ?_; refine yC ?_; refine zm rfl ?_; refine zl z134 e1_1 (fun _ h => zc 2 rfl rfl h) ?_
   cases hN : nameB s k
   ·refine w_call1 3 rfl (fun w => R_callv rfl Tryz.func119 rfl rfl) rfl rfl (fun w h => by have hh := name_spec p s _ w (h.at_ 3 rfl) hs (by omega); simp only [hN, Bool.false_eq_true, if_false, if_true, ↓reduceIte, decide_true, decide_false, Bool.not_true, Bool.not_false, Nat.add_zero] at hh; exact hh) ?_; refine zm rfl ?_; refine w_r (fun _ => R_extract rfl rfl) rfl rfl ?_; refine w_r (fun _ => R_extract rfl rfl) rfl rfl ?_; refine zf fa119_0 rfl ?_; refine w_store 0 rfl z5 rfl rfl rfl rfl rfl rfl rfl ?_; refine aB rfl ?_; refine yB ?_; refine zq ?_; refine c_draw mixed (by kernel_rfl) ?_; refine mB rfl ?_; refine mB rfl ?_; refine zw rfl rfl rfl ?_; refine zl z134 e1_1 (fun _ h => zc 2 rfl rfl h) ?_; refine zw rfl rfl rfl ?_; refine w_nilc rfl ?_
    refine zw rfl rfl rfl ?_; refine zf fa136_1 rfl ?_; refine zw rfl rfl rfl ?_; refine zl z3 rfl (fun _ h => zc 3 rfl rfl h) ?_; refine zw rfl rfl rfl ?_; refine zf fa119_2 rfl ?_; refine zw rfl rfl rfl ?_; refine zl z3 rfl (fun _ h => zc 0 rfl rfl h) ?_; refine zw rfl rfl rfl ?_; refine w_r (fun _ => R_gt rfl rfl) rfl rfl ?_; refine w_r (v := .bool _) (fun _ => zF rfl rfl) rfl rfl ?_; refine yB ?_; refine zD rfl (fun h4 => ?_) (fun h4 => ?_)
    ·omega
    ·refine zi ?_; refine b_on (zk ?_); refine zr ?_; refine w_r (fun _ => R_addi rfl rfl (by omega)) rfl rfl ?_; refine mI rfl ?_; refine zn ?_; refine k_rounds ?_; refine yA ?_; refine w_r (fun _ => R_lt rfl rfl) rfl rfl ?_; refine yB ?_; refine zq ?_; refine zE (congrArg Value.bool (decide_eq_true (by decide))) ?_; refine zi ?_; refine zk ?_; refine zq ?_; refine zB ?_; refine yA ?_; refine w_r (fun _ => R_aidx (i := 1) ar160 rfl rfl rfl rfl) rfl rfl ?_; refine za rfl ?_; refine yC ?_; refine zm rfl ?_; refine zl z134 e1_1 (fun _ h => zc 2 rfl rfl h) ?_
     cases hD : atP digitB s k
     ·refine w_call1 3 rfl (fun w => R_callv rfl Tryz.func120 rfl rfl) rfl rfl (fun w h => by have hh := number_spec p s _ w (h.at_ 3 rfl) hs (by omega); simp only [hD, Bool.false_eq_true, if_false, if_true, ↓reduceIte, decide_true, decide_false, Bool.not_true, Bool.not_false, Nat.add_zero] at hh; exact hh) ?_; refine zm rfl ?_; refine w_r (fun _ => R_extract rfl rfl) rfl rfl ?_; refine w_r (fun _ => R_extract rfl rfl) rfl rfl ?_; refine zf fa119_0 rfl ?_; refine w_store 0 rfl z5 rfl rfl rfl rfl rfl rfl rfl ?_; refine aB rfl ?_; refine yB ?_; refine zq ?_; refine c_draw mixed (by kernel_rfl) ?_; refine mB rfl ?_; refine mB rfl ?_; refine zw rfl rfl rfl ?_; refine zl z134 e1_1 (fun _ h => zc 2 rfl rfl h) ?_; refine zw rfl rfl rfl ?_; refine w_nilc rfl ?_
      refine zw rfl rfl rfl ?_; refine zf fa136_1 rfl ?_; refine zw rfl rfl rfl ?_; refine zl z3 rfl (fun _ h => zc 3 rfl rfl h) ?_; refine zw rfl rfl rfl ?_; refine zf fa119_2 rfl ?_; refine zw rfl rfl rfl ?_; refine zl z3 rfl (fun _ h => zc 0 rfl rfl h) ?_; refine zw rfl rfl rfl ?_; refine w_r (fun _ => R_gt rfl rfl) rfl rfl ?_; refine w_r (v := .bool _) (fun _ => zF rfl rfl) rfl rfl ?_; refine yB ?_; refine zD rfl (fun h5 => ?_) (fun h5 => ?_)
      ·omega
      ·refine zi ?_; refine b_on (zk ?_); refine zr ?_; refine w_r (fun _ => R_addi rfl rfl (by omega)) rfl rfl ?_; refine mI rfl ?_; refine zn ?_; refine k_rounds ?_; refine yA ?_; refine w_r (fun _ => R_lt rfl rfl) rfl rfl ?_; refine yB ?_; refine zq ?_; refine zE (congrArg Value.bool (decide_eq_true (by decide))) ?_; refine zi ?_; refine zk ?_; refine zq ?_; refine zB ?_; refine yA ?_; refine w_r (fun _ => R_aidx (i := 2) ar160 rfl rfl rfl rfl) rfl rfl ?_; refine za rfl ?_; refine yC ?_; refine zm rfl ?_; refine zl z134 e1_1 (fun _ h => zc 2 rfl rfl h) ?_
       rcases Classical.em (signLen s k = 0) with hS | hS
       ·refine w_call1 3 rfl (fun w => R_callv rfl Tryz.func121 rfl rfl) rfl rfl (fun w h => by have hh := sign_spec p s _ w (h.at_ 3 rfl) hs (by omega) (ht.fr (h.fr _ hB) hgl) hg; simp only [hS, Bool.false_eq_true, if_false, if_true, ↓reduceIte, decide_true, decide_false, Bool.not_true, Bool.not_false, Nat.add_zero] at hh; exact hh) ?_; refine zm rfl ?_; refine w_r (fun _ => R_extract rfl rfl) rfl rfl ?_; refine w_r (fun _ => R_extract rfl rfl) rfl rfl ?_; refine zf fa119_0 rfl ?_; refine w_store 0 rfl z5 rfl rfl rfl rfl rfl rfl rfl ?_; refine aB rfl ?_; refine yB ?_; refine zq ?_; refine c_draw mixed (by kernel_rfl) ?_; refine mB rfl ?_; refine mB rfl ?_; refine zw rfl rfl rfl ?_; refine zl z134 e1_1 (fun _ h => zc 2 rfl rfl h) ?_; refine zw rfl rfl rfl ?_; refine w_nilc rfl ?_
        refine zw rfl rfl rfl ?_; refine zf fa136_1 rfl ?_; refine zw rfl rfl rfl ?_; refine zl z3 rfl (fun _ h => zc 3 rfl rfl h) ?_; refine zw rfl rfl rfl ?_; refine zf fa119_2 rfl ?_; refine zw rfl rfl rfl ?_; refine zl z3 rfl (fun _ h => zc 0 rfl rfl h) ?_; refine zw rfl rfl rfl ?_; refine w_r (fun _ => R_gt rfl rfl) rfl rfl ?_; refine w_r (v := .bool _) (fun _ => zF rfl rfl) rfl rfl ?_; refine yB ?_; refine zD rfl (fun h6 => ?_) (fun h6 => ?_)
        ·omega
        ·refine zi ?_; refine b_on (zk ?_); refine zr ?_; refine w_r (fun _ => R_addi rfl rfl (by omega)) rfl rfl ?_; refine mI rfl ?_; refine zn ?_; refine k_rounds ?_; refine yA ?_; refine w_r (fun _ => R_lt rfl rfl) rfl rfl ?_; refine yB ?_; refine zq ?_; refine c_condF (congrArg Value.bool (decide_eq_false (by decide))) ?_; refine c_exit ?_; refine zx (zx (b_here rfl (?_)))
         have e0 : tokAt s k = (0, k, false) := by rw [tokAt, if_neg (by rw [hN]; simp), if_neg (by rw [hD]; simp), if_pos hS]
         exact k_mid ⟨e0_1, e1_1, e3_1, rfl, by rw [e0]; rfl, rfl, by rw [e0]; rfl⟩
       ·refine w_call1 3 rfl (fun w => R_callv rfl Tryz.func121 rfl rfl) rfl rfl (fun w h => by have hh := sign_spec p s _ w (h.at_ 3 rfl) hs (by omega) (ht.fr (h.fr _ hB) hgl) hg; simp only [hS, Bool.false_eq_true, if_false, if_true, ↓reduceIte, decide_true, decide_false, Bool.not_true, Bool.not_false, Nat.add_zero] at hh; exact hh) ?_; refine zm rfl ?_; refine w_r (fun _ => R_extract rfl rfl) rfl rfl ?_; refine w_r (fun _ => R_extract rfl rfl) rfl rfl ?_; refine zf fa119_0 rfl ?_; refine w_store 0 rfl z5 rfl rfl rfl rfl rfl rfl rfl ?_; refine aB rfl ?_; refine yB ?_; refine zq ?_; refine c_draw mixed (by kernel_rfl) ?_; refine mB rfl ?_
        refine mB rfl ?_; refine zs rfl rfl rfl ?_; refine zs rfl rfl rfl ?_; refine zs rfl rfl rfl ?_; refine zs rfl rfl rfl ?_; refine zs rfl rfl rfl ?_; refine zs rfl rfl rfl ?_; refine zs rfl rfl rfl ?_; refine w_r (v := .bool _) (fun _ => zT rfl rfl) rfl rfl ?_; refine yB ?_; refine zE rfl ?_; refine c_exit ?_; refine b_past rfl (zx (zx (b_here rfl (?_))))
        have e0 : tokAt s k = (3, k + signLen s k, true) := by rw [tokAt, if_neg (by rw [hN]; simp), if_neg (by rw [hD]; simp), if_neg hS]
        exact k_mid ⟨e0_1, e1_1, e3_1, rfl, by rw [e0]; rfl, rfl, by rw [e0]; rfl⟩
     ·refine w_call1 3 rfl (fun w => R_callv rfl Tryz.func120 rfl rfl) rfl rfl (fun w h => by have hh := number_spec p s _ w (h.at_ 3 rfl) hs (by omega); simp only [hD, Bool.false_eq_true, if_false, if_true, ↓reduceIte, decide_true, decide_false, Bool.not_true, Bool.not_false, Nat.add_zero] at hh; exact hh) ?_; refine zm rfl ?_; refine w_r (fun _ => R_extract rfl rfl) rfl rfl ?_; refine w_r (fun _ => R_extract rfl rfl) rfl rfl ?_; refine zf fa119_0 rfl ?_; refine w_store 0 rfl z5 rfl rfl rfl rfl rfl rfl rfl ?_; refine aB rfl ?_; refine yB ?_; refine zq ?_; refine c_draw mixed (by kernel_rfl) ?_; refine mB rfl ?_; refine mB rfl ?_; refine zp (t := 40) rfl (fun h7 => ?_) (fun h7 => ?_)
      ·refine zs rfl rfl (bV h7) ?_; refine zs rfl rfl (bV h7) ?_; refine zs rfl rfl (bV h7) ?_; refine zs rfl rfl (bV h7) ?_; refine zs rfl rfl (bV h7) ?_; refine zs rfl rfl (bV h7) ?_; refine zs rfl rfl (bV h7) ?_; refine w_r (v := .bool _) (fun _ => zT (bV h7) rfl) rfl rfl ?_; refine yB ?_; refine zE rfl ?_; refine c_exit ?_; refine b_past rfl (zx (zx (b_here rfl (?_))))
       have e0 : tokAt s k = (2, numEnd s k, true) := by rw [tokAt, if_neg (by rw [hN]; simp), if_pos hD, h7]
       exact k_mid ⟨e0_1, e1_1, e3_1, rfl, by rw [e0]; exact congrArg Value.bool h7, rfl, by rw [e0]; rfl⟩
      ·refine zw rfl rfl (bV h7) ?_; refine zl z134 e1_1 (fun _ h => zc 2 rfl rfl h) ?_; refine zw rfl rfl (bV h7) ?_; refine w_nilc rfl ?_; refine zw rfl rfl (bV h7) ?_; refine zf fa136_1 rfl ?_; refine zw rfl rfl (bV h7) ?_; refine zl z3 rfl (fun _ h => zc 3 rfl rfl h) ?_; refine zw rfl rfl (bV h7) ?_; refine zf fa119_2 rfl ?_; refine zw rfl rfl (bV h7) ?_; refine zl z3 rfl (fun _ h => zc 0 rfl rfl h) ?_; refine zw rfl rfl (bV h7) ?_; refine w_r (fun _ => R_gt rfl rfl) rfl rfl ?_; refine w_r (v := .bool _) (fun _ => zF (bV h7) rfl) rfl rfl ?_; refine yB ?_; refine zD rfl (fun h8 => ?_) (fun h8 => ?_)
       ·refine c_exit ?_; refine b_past rfl (zx (zx (b_here rfl (?_))))
        have e0 : tokAt s k = (2, numEnd s k, false) := by rw [tokAt, if_neg (by rw [hN]; simp), if_pos hD, h7]
        exact k_mid ⟨e0_1, e1_1, e3_1, rfl, by rw [e0]; exact congrArg Value.bool h7, rfl, by rw [e0]; rfl⟩
       ·exfalso; have := digit_run hD; have := numEnd_le hk; omega
   ·refine w_call1 3 rfl (fun w => R_callv rfl Tryz.func119 rfl rfl) rfl rfl (fun w h => by have hh := name_spec p s _ w (h.at_ 3 rfl) hs (by omega); simp only [hN, Bool.false_eq_true, if_false, if_true, ↓reduceIte, decide_true, decide_false, Bool.not_true, Bool.not_false, Nat.add_zero] at hh; exact hh) ?_; refine zm rfl ?_; refine w_r (fun _ => R_extract rfl rfl) rfl rfl ?_; refine w_r (fun _ => R_extract rfl rfl) rfl rfl ?_; refine zf fa119_0 rfl ?_; refine w_store 0 rfl z5 rfl rfl rfl rfl rfl rfl rfl ?_; refine aB rfl ?_; refine yB ?_; refine zq ?_; refine c_draw mixed (by kernel_rfl) ?_; refine mB rfl ?_; refine mB rfl ?_; refine zs rfl rfl rfl ?_; refine zs rfl rfl rfl ?_; refine zs rfl rfl rfl ?_; refine zs rfl rfl rfl ?_; refine zs rfl rfl rfl ?_
    refine zs rfl rfl rfl ?_; refine zs rfl rfl rfl ?_; refine w_r (v := .bool _) (fun _ => zT rfl rfl) rfl rfl ?_; refine yB ?_; refine zE rfl ?_; refine c_exit ?_; refine b_past rfl (zx (zx (b_here rfl (?_))))
    have e0 : tokAt s k = (1, runTo wordB s k, true) := by rw [tokAt, if_pos hN]
    exact k_mid ⟨e0_1, e1_1, e3_1, rfl, by rw [e0]; rfl, rfl, by rw [e0]; rfl⟩
  rintro e B L ⟨e0_2, e1_2, e3_2, e4_2, e5_2, rfl, rfl⟩
  refine zq ?_; refine c_tail 12 mixed (by kernel_rfl) ?_; refine zl z134 e1_2 (fun _ h => zc 2 rfl rfl h) ?_; refine w_nilc rfl ?_; refine zf fa136_0 rfl ?_; refine zl z9 rfl (fun _ h => zc 3 rfl rfl h) ?_; refine zf fa119_2 e4_2 ?_; refine zl z3 rfl (fun _ h => zc 0 rfl rfl h) ?_; refine zl z134 e1_2 (fun _ h => zc 2 rfl rfl h) ?_; refine w_nilc rfl ?_; refine zf fa136_1 rfl ?_; refine zl z3 rfl (fun _ h => zc 3 rfl rfl h) ?_; refine w_r (fun _ => R_sslN st9 rfl rfl rfl (by omega) (by omega)) rfl rfl ?_; refine zf fa119_1 e4_2 ?_; refine w_tailst 0 rfl z9 rfl rfl rfl rfl rfl rfl rfl ?_; refine zk ?_; refine yA ?_; refine zm e0_2 ?_; refine w_loadA z119 e4_2 (fun _ h => h.at_ 0 rfl) rfl ?_; refine mB e5_2 ?_
  refine w_yield rfl (fun w h => hy x (tokAt s k).1 (tokTx s k) k (tokAt s k).2.2 Lc ([(t4b, cel [.int .u8 ((tokAt s k).1 : Nat), str (tokTx s k), .int .i64 (k : Nat)] 119), (b1, cel [.func (.func 119) #[] #[], .func (.func 120) #[] #[], .func (.func 121) #[] #[]] 160), (vb, cel [.pointer (some ⟨p, 0, none⟩)] 134), (p, cel [str s, .int .i64 ((tokAt s k).2.1 : Nat)] 136)] ++ Lr) Bs w (tokTx_len s k hs) hJ (h.perm (perm_mid [(t4b, cel [.int .u8 ((tokAt s k).1 : Nat), str (tokTx s k), .int .i64 (k : Nat)] 119), (b1, cel [.func (.func 119) #[] #[], .func (.func 120) #[] #[], .func (.func 121) #[] #[]] 160), (vb, cel [.pointer (some ⟨p, 0, none⟩)] 134), (p, cel [str s, .int .i64 ((tokAt s k).2.1 : Nat)] 136)] Lc Lr))) ?_
  rintro w h v w' ⟨Lc2, rfl, hJ2, hs2⟩
  refine ⟨Bs, [(t4b, cel [.int .u8 ((tokAt s k).1 : Nat), str (tokTx s k), .int .i64 (k : Nat)] 119), (b1, cel [.func (.func 119) #[] #[], .func (.func 120) #[] #[], .func (.func 121) #[] #[]] 160), (vb, cel [.pointer (some ⟨p, 0, none⟩)] 134), (p, cel [str s, .int .i64 ((tokAt s k).2.1 : Nat)] 136)] ++ (Lc2 ++ Lr), hs2.perm (perm_mid [(t4b, cel [.int .u8 ((tokAt s k).1 : Nat), str (tokTx s k), .int .i64 (k : Nat)] 119), (b1, cel [.func (.func 119) #[] #[], .func (.func 120) #[] #[], .func (.func 121) #[] #[]] 160), (vb, cel [.pointer (some ⟨p, 0, none⟩)] 134), (p, cel [str s, .int .i64 ((tokAt s k).2.1 : Nat)] 136)] Lc2 Lr).symm, ?_⟩
  refine w_r (fun _ => R_not rfl) rfl rfl ?_; refine yB ?_; refine c_condN rfl (fun h9 => ?_) (fun h9 => ?_)
  ·refine ze ?_; refine zb (zt (zt (zb (?_))))
   refine r_none (.inl rfl) rfl ?_; exact fun w' hw => ⟨rfl, _, _, Lc2, by rw [← hl, lexS_end nx hlt h9]; exact hJ2, hw.drop (.cons _ (.cons _ (List.Sublist.refl _)))⟩
  ·have hgo := h9; rw [hgo] at hJ2
   refine zi ?_; refine b_on (zk ?_); refine zr ?_; refine zl z134 e1_2 (fun _ h => zc 2 rfl rfl h) ?_; refine w_call1 3 rfl (fun w => zR Tryz.func122 rfl rfl rfl) rfl rfl (fun w h => skip_spec p s _ w (h.at_ 3 rfl) hs g2.2.1) ?_; refine zn ?_; refine k_st (B' := Bs) (L' := (b1, cel [.func (.func 119) #[] #[], .func (.func 120) #[] #[], .func (.func 121) #[] #[]] 160) :: (vb, cel [.pointer (some ⟨p, 0, none⟩)] 134) :: (p, cel [str s, .int .i64 (skipTo s (tokAt s k).2.1 : Nat)] 136) :: (Lc2 ++ Lr)) (fun w h => h.drop (List.sublist_cons_self _ _)) ?_
   have g4 := g2.2.2 (fine_of nx hn hgo)
   have g5 := skipTo_le g2.2.1
   exact k_again _ (by omega) ⟨skipTo s (tokAt s k).2.1, (nx x (tokAt s k).1 (tokTx s k) k (tokAt s k).2.2).1, Lc2, e0_2, e1_2, e3_2, rfl, rfl, g5.1, hJ2, by rw [← hl, lexS_go nx hn hlt hgo], rfl⟩
 ·refine c_exit ?_; refine zx (zx (b_here rfl (?_)))
  refine r_none (.inr rfl) rfl ?_; exact fun w' hw => ⟨rfl, k, true, Lc, by rw [← hl, lexS_stop nx (by omega)]; exact hJ, hw.drop (List.sublist_cons_self _ _)⟩
end Go.Proofs.YtcmcdgkjipnfnaaGreatDoor
end

section
namespace Go.Proofs.YtcmcdgkjipnfnaaGreatDoor
open Go.RowKit Go.Sx
open Go.Tok
def rdPs : Array Go.Tmp := #[18, 19]
def rdAs : Go.Code := (Go.Code.seq (Go.Code.region 7 #[(Go.Oper.mk (some 7) (Go.Op.alloc 119) 0 "token.go:123" #[] none), (Go.Oper.mk none (Go.Op.store 119 (Go.Operand.tmp 7) (Go.Operand.tmp 18)) 0 "token.go:123" #[(Go.Edge.mk 0 Go.Ground.data), (Go.Edge.mk 0 Go.Ground.phase)] none)] false) (Go.Code.region 8 #[(Go.Oper.mk (some 8) (Go.Op.assign (Go.Operand.tmp 19)) 4 "token.go:123" #[] none)] false))
def rdBo : Go.Code := (Go.Code.block 1 (Go.Code.seq (Go.Code.block 2 (Go.Code.seq (Go.Code.region 9 #[(Go.Oper.mk (some 21) (Go.Op.move (Go.Operand.tmp 8)) 4 "token.go:125" #[] none), (Go.Oper.mk (some 22) (Go.Op.unOp Go.UnOp.not 4 (Go.Operand.tmp 21)) 4 "token.go:125" #[(Go.Edge.mk 0 Go.Ground.data)] none), (Go.Oper.mk (some 20) (Go.Op.assign (Go.Operand.tmp 22)) 4 "token.go:125" #[(Go.Edge.mk 1 Go.Ground.data)] none)] false) (Go.Code.cond (Go.Operand.tmp 20) (Go.Code.seq (Go.Code.region 10 #[(Go.Oper.mk (some 23) (Go.Op.fieldAddr 119 (Go.Operand.tmp 7) 2) 0 "token.go:126" #[] none), (Go.Oper.mk (some 24) (Go.Op.load 3 (Go.Operand.tmp 23)) 3 "token.go:126" #[(Go.Edge.mk 0 Go.Ground.data)] none), (Go.Oper.mk (some 25) (Go.Op.build 115 #[(0, (Go.Operand.const (Go.Value.int Go.IntKind.i64 110))), (1, (Go.Operand.tmp 24))]) 115 "token.go:126" #[(Go.Edge.mk 1 Go.Ground.data)] none), (Go.Oper.mk none (Go.Op.store 115 (Go.Operand.tmp 6) (Go.Operand.tmp 25)) 0 "token.go:126" #[(Go.Edge.mk 2 Go.Ground.data), (Go.Edge.mk 0 Go.Ground.phase), (Go.Edge.mk 1 Go.Ground.phase), (Go.Edge.mk 2 Go.Ground.phase)] none)] false) (Go.Code.exit 0)) (Go.Code.seq (Go.Code.region 11 #[(Go.Oper.mk (some 27) (Go.Op.load 113 (Go.Operand.tmp 5)) 113 "token.go:128" #[] none), (Go.Oper.mk (some 28) (Go.Op.call (Go.Call.mk (Go.Callee.builtin Go.Builtin.len) #[(Go.Operand.tmp 27)] #[113])) 3 "token.go:128" #[(Go.Edge.mk 0 Go.Ground.data)] none), (Go.Oper.mk (some 29) (Go.Op.binOp Go.BinOp.eql 3 (Go.Operand.tmp 28) (Go.Operand.const (Go.Value.int Go.IntKind.i64 6000)) 3) 4 "token.go:128" #[(Go.Edge.mk 1 Go.Ground.data)] none), (Go.Oper.mk (some 26) (Go.Op.assign (Go.Operand.tmp 29)) 4 "token.go:128" #[(Go.Edge.mk 2 Go.Ground.data)] none)] false) (Go.Code.cond (Go.Operand.tmp 26) (Go.Code.seq (Go.Code.region 12 #[(Go.Oper.mk (some 30) (Go.Op.fieldAddr 119 (Go.Operand.tmp 7) 2) 0 "token.go:129" #[] none), (Go.Oper.mk (some 31) (Go.Op.load 3 (Go.Operand.tmp 30)) 3 "token.go:129" #[(Go.Edge.mk 0 Go.Ground.data)] none), (Go.Oper.mk (some 32) (Go.Op.build 115 #[(0, (Go.Operand.const (Go.Value.int Go.IntKind.i64 6))), (1, (Go.Operand.tmp 31))]) 115 "token.go:129" #[(Go.Edge.mk 1 Go.Ground.data)] none), (Go.Oper.mk none (Go.Op.store 115 (Go.Operand.tmp 6) (Go.Operand.tmp 32)) 0 "token.go:129" #[(Go.Edge.mk 2 Go.Ground.data), (Go.Edge.mk 0 Go.Ground.phase), (Go.Edge.mk 1 Go.Ground.phase), (Go.Edge.mk 2 Go.Ground.phase)] none)] false) (Go.Code.exit 0)) Go.Code.skip))))) (Go.Code.region 13 #[(Go.Oper.mk (some 33) (Go.Op.load 113 (Go.Operand.tmp 5)) 113 "token.go:132" #[] none), (Go.Oper.mk (some 34) (Go.Op.load 119 (Go.Operand.tmp 7)) 119 "token.go:132" #[] none), (Go.Oper.mk (some 35) (Go.Op.buildSlice 113 1 #[(0, (Go.Operand.tmp 34))]) 113 "token.go:132" #[(Go.Edge.mk 1 Go.Ground.data)] none), (Go.Oper.mk (some 36) (Go.Op.call (Go.Call.mk (Go.Callee.builtin Go.Builtin.append) #[(Go.Operand.tmp 33), (Go.Operand.tmp 35)] #[113, 113])) 113 "token.go:132" #[(Go.Edge.mk 0 Go.Ground.data), (Go.Edge.mk 2 Go.Ground.data)] none), (Go.Oper.mk none (Go.Op.store 113 (Go.Operand.tmp 5) (Go.Operand.tmp 36)) 0 "token.go:132" #[(Go.Edge.mk 3 Go.Ground.data), (Go.Edge.mk 3 Go.Ground.chain), (Go.Edge.mk 0 Go.Ground.phase), (Go.Edge.mk 1 Go.Ground.phase), (Go.Edge.mk 2 Go.Ground.phase), (Go.Edge.mk 3 Go.Ground.phase)] none)] false)))

def tkC (t : Tk) : List Value := [.int .u8 (t.1 : Nat), str t.2.1, .int .i64 (t.2.2 : Nat)]
def tksC (l : List Tk) : List Value := l.flatMap tkC
abbrev Toks (v : Value) (l : List Tk) (W : Heap) : Prop := Own 119 3 v (tksC l) l.length W
theorem Toks.more {v : Value} {l : List Tk} {t : Tk} {W : Heap} (h : Own 119 3 v (tksC l ++ tkC t) (l.length + 1) W) : Toks v (l ++ [t]) W := by
  have e1 : tksC (l ++ [t]) = tksC l ++ tkC t := by simp [tksC]
  have e2 : (l ++ [t]).length = l.length + 1 := by simp
  unfold Toks; rw [e1, e2]; exact h
def rdL (t5b t6b l : Nat) (v : Value) (fc fa : Nat) (ob : Obj) (W : Heap) : Heap := (t5b, cel [v] 113) :: (t6b, cel [.int .i64 (fc : Nat), .int .i64 (fa : Nat)] 115) :: (l, ob) :: W
def rdO (e : Env) (fn : FuncId) (r : Nat) : Bool → Obj
  | true => lpO .ready none fn ⟨43, [], none⟩ e rdPs rdAs rdBo r
  | false => lpO .done (some (.exit 0)) fn ⟨43, [], none⟩ e rdPs rdAs rdBo r
def RdJ (e : Env) (fn : FuncId) (r l t5b t6b : Nat) (g : Bool) (x : Rd) (Lc : Heap) : Prop :=
  ∃ a c W, Toks (.slice a x.1.length c) x.1 W ∧ x.1.length ≤ 6000 ∧ (g = true → x.2 = (0, 0)) ∧ (g = false → x.2.1 ≠ 0) ∧ Lc = rdL t5b t6b l (.slice a x.1.length c) x.2.1 x.2.2 (rdO e fn r g) W
/-- what Read hands back -/
def RdV (r : Rd) (v : Value) (W : Heap) : Prop := ∃ a c, v = .tuple #[.slice a r.1.length c, .agg #[.int .i64 (r.2.1 : Nat), .int .i64 (r.2.2 : Nat)]] ∧ Toks (.slice a r.1.length c) r.1 W

set_option maxRecDepth 100000 in
set_option maxHeartbeats 400000 in
theorem all_spec (p : Nat) (w : World) :
    Ret Tryz.prog 106 #[.pointer (some ⟨p, 0, none⟩)] w (fun v w' => ∃ W, (∃ vb, v = .func (.func 118) #[] #[.pointer (some ⟨vb, 0, none⟩)] ∧ W = [(vb, cel [.pointer (some ⟨p, 0, none⟩)] 134)]) ∧ New w w' W) := by
  refine enter (S := No) (l := [_]) (L := []) 4 Tryz.func106 rfl rfl rfl (St.start w No) ?_; refine yA ?_; refine w_box rfl (fun vb gvb uvb => ?_)
  refine za rfl ?_; refine yC ?_; refine w_r (fun _ => R_makeFunc) rfl rfl ?_; refine za rfl ?_; refine yB ?_; refine ze ?_; refine zo rfl rfl rfl ?_; exact fun w' hw => ⟨_, ⟨vb, rfl, rfl⟩, St.made (A := []) hw⟩

set_option maxRecDepth 100000 in
set_option maxHeartbeats 400000 in
theorem Read_round (e : Env) (fn r l t5b t6b : Nat) (he5 : e 5 = .pointer (some ⟨t5b, 0, none⟩)) (he6 : e 6 = .pointer (some ⟨t6b, 0, none⟩)) : Rounds (RdJ e fn r l t5b t6b) readN l := by
  intro x k t a b Lc Lr B w htx hJ hw
  obtain ⟨a0, c0, W, hO, hx6, hxt, -, rfl⟩ := hJ
  have hx0 := hxt rfl
  refine yield_round 2 (L := rdL t5b t6b l _ _ _ _ _ ++ Lr) hw rfl rfl ?_; refine yA ?_; refine w_alloc zr119 (fun t7b gt7b ut7b => ?_)
  refine w_store 0 rfl z119 rfl rfl rfl rfl rfl rfl rfl ?_; refine yB ?_; refine zr ?_; refine aB rfl ?_; refine zn ?_; refine k_begin (l' := 0) 3 rfl ?_; refine zB ?_; refine zq ?_; refine zB ?_; refine yA ?_; refine mB rfl ?_; refine w_r (fun _ => R_not rfl) rfl rfl ?_; refine aB rfl ?_; refine yB ?_; refine c_condN rfl (fun h2 => ?_) (fun h2 => ?_)
  · refine yA ?_; refine zf fa119_2 rfl ?_; refine zl z3 rfl (fun _ h => zc 0 rfl rfl h) ?_; refine w_r (fun _ => R_build bt115 rfl) rfl rfl ?_; refine w_store 2 rfl z115 he6 rfl rfl rfl rfl rfl rfl ?_; refine yB ?_; refine c_exit ?_; refine b_past rfl (zx (b_past rfl (?_)))
    refine k_roundX 3 rfl ?_
    subst h2
    exact fun w h => ⟨_, rfl, rdL t5b t6b l (.slice a0 x.1.length c0) 110 a (rdO e fn r false) W, rfl, ⟨a0, c0, W, hO, hx6, (fun h => by cases h), fun _ => by simp [readN], rfl⟩, h.drop (List.sublist_cons_self _ _)⟩
  · refine yA ?_; refine zl z113 he5 (fun _ h => zc 1 rfl rfl h) ?_; refine w_r (fun _ => R_len sl113 rfl) rfl rfl ?_; refine w_r (fun _ => R_eq rfl rfl) rfl rfl ?_; refine aB rfl ?_; refine yB ?_; refine zD rfl (fun h3 => ?_) (fun h3 => ?_)
    · refine yA ?_; refine zf fa119_2 rfl ?_; refine zl z3 rfl (fun _ h => zc 0 rfl rfl h) ?_; refine w_r (fun _ => R_build bt115 rfl) rfl rfl ?_; refine w_store 2 rfl z115 he6 rfl rfl rfl rfl rfl rfl ?_; refine yB ?_; refine c_exit ?_; refine b_past rfl (zx (b_past rfl (?_)))
      refine k_roundX 3 rfl ?_
      subst h2
      have hN : readN x k t a true = ((x.1, 6, a), false) := by rw [readN, if_neg (by decide), if_pos (by omega)]
      exact fun w h => ⟨_, rfl, rdL t5b t6b l (.slice a0 x.1.length c0) 6 a (rdO e fn r false) W, by rw [hN], by rw [hN]; exact ⟨a0, c0, W, hO, hx6, (fun h => by cases h), fun _ => by simp [readN], rfl⟩, h.drop (List.sublist_cons_self _ _)⟩
    · refine zi ?_; refine b_on (zk ?_); refine zr ?_; refine zl z113 he5 (fun _ h => zc 1 rfl rfl h) ?_; refine w_loadA z119 rfl (fun _ h => h.at_ 0 rfl) rfl ?_; refine zS slt113 (by decide) rfl rfl (fun bs gbs ubs => ?_)
      refine w_app [(bs, _), (t7b, _), (t5b, _), (t6b, _), (l, _)] (news := tkC (k, t, a)) slt113 (by decide) rfl hO rfl rfl (row_own 0 rfl (fun _ _ h => h)) rfl (by decide) (by omega) (by omega) (fun v2 W2 hO2 => ?_)
      obtain ⟨a2, c2, rfl⟩ := hO2.slice
      refine w_store 2 rfl z113 he5 rfl rfl rfl rfl rfl rfl ?_; refine zn ?_; refine b_on (?_)
      refine k_round 4 rfl ?_
      subst h2
      have hN : readN x k t a true = ((x.1 ++ [(k, t, a)], x.2), true) := by rw [readN, if_neg (by decide), if_neg (by omega)]
      exact fun w h => ⟨_, rfl, rdL t5b t6b l (.slice a2 (x.1.length + 1) c2) x.2.1 x.2.2 (rdO e fn r true) W2, by rw [hN], by rw [hN]; exact ⟨a2, c2, W2, by simpa using Toks.more hO2, by simp; omega, fun _ => hx0, (fun h => by cases h), by simp⟩, h.drop (.cons _ (.cons _ (List.Sublist.refl _)))⟩

set_option maxRecDepth 100000 in
set_option maxHeartbeats 400000 in
theorem Read_spec (s : List UInt8) (hs : s.length ≤ 10000000) (w : World) (ht : Tb w) (hgs : 0 < w.heap.size) :
    Ret Tryz.prog 87 #[str s] w (fun v w' => ∃ W, RdV (readP s) v W ∧ New w w' W) := by
  refine enterM (S := No) (l := [_]) (L := []) 43 Tryz.func87 rfl rfl rfl (St.start w No) ?_; refine yA ?_; refine za (v := .slice _ _ _) rfl ?_; refine w_alloc zr115 (fun t3b gt3b ut3b => ?_)
  refine yB ?_; refine c_scope ?_; refine zq ?_; refine yA ?_; refine zm (v := str _) rfl ?_; refine w_r (fun _ => R_slen st9 rfl (by omega)) rfl rfl ?_; refine w_r (fun _ => R_gt rfl rfl) rfl rfl ?_; refine yB ?_; refine zD rfl (fun h2 => ?_) (fun h2 => ?_)
  · refine yA ?_; refine w_r (fun _ => R_build bt115 rfl) rfl rfl ?_; refine za (v := .slice _ _ _) rfl ?_; refine w_store 0 rfl z115 rfl rfl rfl rfl rfl rfl rfl ?_; refine yB ?_; refine ze ?_; refine zt (g_ret (?_))
    refine r_finM (.inl rfl) rfl (.tmp rfl rfl (.agg rfl rfl z115 (fun _ h => h.at_ 0 rfl) rfl .nil)) ?_; exact fun w' hw => ⟨[], by rw [readP_long (by omega)]; exact ⟨none, 0, rfl, Own.nil _ _⟩, .none (hw.fr _ (.head _))⟩
  · refine zi ?_; refine zk ?_; refine yA ?_; refine zm (v := str _) rfl ?_; refine w_r (fun _ => R_build bt136 rfl) rfl rfl ?_; refine w_boxA rfl (fun p gp up => ?_)
    refine za (v := .pointer _) rfl ?_; refine yC ?_; refine w_alloc zr113 (fun t5b gt5b ut5b => ?_)
    refine yC ?_; refine w_alloc zr115 (fun t6b gt6b ut6b => ?_)
    refine yB ?_; refine zq ?_; refine c_label ?_; refine zk ?_; refine zq ?_; refine yA ?_; refine mP rfl ?_; refine w_callW (fun w => zR Tryz.func106 rfl rfl rfl) rfl rfl (fun w _ => all_spec p w) ?_
    rintro u W0 ⟨vb, rfl, rfl⟩
    refine yB ?_; refine zB ?_; refine c_gen fun e he => ?_
    have he3 : e 3 = .pointer (some ⟨t3b, 0, none⟩) := congrFun he 3
    have he5 : e 5 = .pointer (some ⟨t5b, 0, none⟩) := congrFun he 5
    have he6 : e 6 = .pointer (some ⟨t6b, 0, none⟩) := congrFun he 6
    have he17 : e 17 = .func (.func 118) #[] #[.pointer (some ⟨vb, 0, none⟩)] := congrFun he 17
    refine c_range (f := 118) (fi := []) (ca := [.pointer (some ⟨vb, 0, none⟩)]) he17 rfl rfl rfl (fun r l fn w' => ∃ (g : Bool) (j : Nat) (Lc' : Heap), RdJ e fn r l t5b t6b g (readS s) Lc' ∧ St [(w, No)] ((vb, cel [.pointer (some ⟨p, 0, none⟩)] 134) :: (p, cel [str s, .int .i64 (j : Nat)] 136) :: (Lc' ++ [(r, .deferred (some [])), (t3b, cel [.int .i64 0, .int .i64 0] 115)])) w') ?_ ?_
    · intro fn r l hr1 hr2 hl w1 hw1
      refine (all1_spec (RdJ e fn r l t5b t6b) readN readN_no l p vb s (by omega) (Read_round e fn r l t5b t6b he5 he6) w No ht (fun h => h) (Nat.le_trans hgs (up (w, No) (.head _))) ([], 0, 0) (rdL t5b t6b l (.slice none 0 0) 0 0 (rdO e fn r true) []) [(r, .deferred (some [])), (t3b, cel [.int .i64 0, .int .i64 0] 115)] [(w, No)] (.head _) ⟨none, 0, [], Own.nil _ _, Nat.zero_le _, fun _ => rfl, (fun h => by cases h), rfl⟩ w1 (hw1.pick [2, 5, 4, 3, 0, 1, 6] (by decide))).mono ?_
      rintro v w2 ⟨rfl, j, g, Lc', hJ, hs⟩
      exact ⟨g, j, Lc', hJ, hs⟩
    · rintro fn r l hr1 hr2 hl w1 ⟨g, j, Lc', ⟨a0, c0, W, hO, h6, hg1, hg0, rfl⟩, hs⟩
      have hs2 := St.pickT [(vb, cel [.pointer (some ⟨p, 0, none⟩)] 134), (p, cel [str s, .int .i64 (j : Nat)] 136), (t5b, cel [.slice a0 (readS s).1.length c0] 113), (t6b, cel [.int .i64 ((readS s).2.1 : Nat), .int .i64 ((readS s).2.2 : Nat)] 115), (l, rdO e fn r g), (r, .deferred (some [])), (t3b, cel [.int .i64 0, .int .i64 0] 115)] (hs.perm (.cons _ (.cons _ (.cons _ (.cons _ (.cons _ List.perm_append_comm)))))) [4, 2, 3, 5, 6] (by decide)
      cases g
      · have hz : (readS s).2.1 ≠ 0 := hg0 rfl
        refine ⟨_, _, .done, some (.exit 0), (fun h => by cases h), hs2, ?_⟩
        refine c_exit ?_; refine b_here rfl (zk ?_); refine zq ?_; refine yA ?_; refine zf fa115_0 he6 ?_; refine zl z27 rfl (fun _ h => zc 2 rfl rfl h) ?_; refine w_r (fun _ => R_ne rfl rfl) rfl rfl ?_; refine yB ?_; refine zD rfl (fun h6 => ?_) (fun h6 => ?_)
        · refine zq ?_; refine c_tail 2 mixed (by kernel_rfl) ?_; refine w_loadA z115 he6 (fun _ h => h.at_ 2 rfl) rfl ?_; refine za (v := .slice _ _ _) rfl ?_; refine w_tailst 4 rfl z115 he3 rfl rfl rfl rfl rfl rfl ?_; refine zk ?_; refine ze ?_; refine zt (g_ret (?_))
          refine r_finM1 3 rfl (.inl rfl) rfl (.tmp rfl rfl (.agg rfl he3 z115 (fun _ h => h.at_ 4 rfl) rfl .nil)) ?_; exact fun w' hw => ⟨[], by rw [readP_bad (by omega) hz]; exact ⟨none, 0, rfl, Own.nil _ _⟩, .none (hw.fr _ (.head _))⟩
        · exfalso; omega
      · have hz : (readS s).2.1 = 0 := by rw [hg1 rfl]
        refine ⟨_, _, .ready, none, (fun h => by cases h), hs2, ?_⟩
        refine b_on (zk ?_); refine zq ?_; refine yA ?_; refine zf fa115_0 he6 ?_; refine zl z27 rfl (fun _ h => zc 2 rfl rfl h) ?_; refine w_r (fun _ => R_ne rfl rfl) rfl rfl ?_; refine yB ?_; refine zD rfl (fun h7 => ?_) (fun h7 => ?_)
        · exfalso; omega
        · refine zi ?_; refine zk ?_; refine yA ?_; refine zl z113 he5 (fun _ h => zc 1 rfl rfl h) ?_; refine w_r (fun _ => R_build bt115 rfl) rfl rfl ?_; refine za (v := .slice _ _ _) rfl ?_; refine w_store 4 rfl z115 he3 rfl rfl rfl rfl rfl rfl ?_; refine yB ?_; refine ze ?_; refine g_ret (?_)
          refine r_finM1 3 rfl (.inl rfl) rfl (.tmp rfl rfl (.agg rfl he3 z115 (fun _ h => h.at_ 4 rfl) rfl .nil)) ?_; exact fun w' hw => ⟨W, by rw [readP_fine (by omega) hz]; exact ⟨a0, c0, rfl, hO⟩, St.made (A := []) (hw.drop (.cons _ (.cons _ (.cons _ (.cons _ (.cons _ (List.Sublist.refl _)))))))⟩
end Go.Proofs.YtcmcdgkjipnfnaaGreatDoor
end

section
/- The plain part of layer token: the reference's bytes. -/
namespace Go.Tok
theorem digit_int (b : UInt8) : digitB b = (decide ((b.toNat : Int) ≥ 48) && decide ((b.toNat : Int) ≤ 57)) := byte_all (fun b => digitB b = (decide ((b.toNat : Int) ≥ 48) && decide ((b.toNat : Int) ≤ 57))) (by decide +kernel) b
theorem letter_int (b : UInt8) : letterB b = ((decide ((b.toNat : Int) ≥ 97) && decide ((b.toNat : Int) ≤ 122)) || (decide ((b.toNat : Int) ≥ 65) && decide ((b.toNat : Int) ≤ 90)) || decide ((b.toNat : Int) = 95)) := byte_all (fun b => letterB b = ((decide ((b.toNat : Int) ≥ 97) && decide ((b.toNat : Int) ≤ 122)) || (decide ((b.toNat : Int) ≥ 65) && decide ((b.toNat : Int) ≤ 90)) || decide ((b.toNat : Int) = 95))) (by decide +kernel) b
theorem blank_int (b : UInt8) : blankB b = (decide ((b.toNat : Int) = 32) || decide ((b.toNat : Int) = 9) || decide ((b.toNat : Int) = 10) || decide ((b.toNat : Int) = 13)) := byte_all (fun b => blankB b = (decide ((b.toNat : Int) = 32) || decide ((b.toNat : Int) = 9) || decide ((b.toNat : Int) = 10) || decide ((b.toNat : Int) = 13))) (by decide +kernel) b
theorem eq_int (x b : UInt8) : eqB x b = decide ((b.toNat : Int) = (x.toNat : Int)) := by
  have h : b = x ↔ (b.toNat : Int) = (x.toNat : Int) := by
    rw [← UInt8.toNat_inj]; omega
  unfold eqB
  by_cases hx : b = x
  · subst hx; simp
  · have h2 := mt h.2 hx
    have h3 : (b == x) = false := by simpa using hx
    rw [h3, decide_eq_false h2]
theorem eq_int' (x : UInt8) (k : Int) (hk : k = (x.toNat : Int)) (b : UInt8) : eqB x b = decide ((b.toNat : Int) = k) := by rw [hk, eq_int]
end Go.Tok
namespace Go.Tok
theorem skip_blank {s : List UInt8} {i : Nat} (hi : i < s.length) (h : atP blankB s i = true) : skipTo s i = skipTo s (i + 1) := by
  rw [skipTo_eq (Nat.le_of_lt hi), skipTo_eq (by omega : i + 1 ≤ s.length), runTo_step h]
theorem skip_stop {s : List UInt8} {i : Nat} (hi : i ≤ s.length) (h : atP blankB s i = false) (h2 : cmt s i = false) : skipTo s i = i := by
  rw [skipTo_eq hi, runTo_stop h, if_neg (by rw [h2]; simp)]
theorem skip_cmt {s : List UInt8} {i : Nat} (hi : i ≤ s.length) (h : atP blankB s i = false) (h2 : cmt s i = true) : skipTo s i = skipTo s (runTo notNl s i) := by
  rw [skipTo_eq hi, runTo_stop h, if_pos h2]
theorem notNl_int (b : UInt8) : notNl b = decide ¬((b.toNat : Int) = 10) := byte_all (fun b => notNl b = decide ¬((b.toNat : Int) = 10)) (by decide +kernel) b
theorem at_or {p q r : UInt8 → Bool} (h : ∀ b, r b = (p b || q b)) (s : List UInt8) (i : Nat) : atP r s i = (atP p s i || atP q s i) := by
  unfold atP; split <;> simp [h]
theorem at_word (s : List UInt8) (i : Nat) : atP wordB s i = (atP letterB s i || atP digitB s i) := at_or (fun _ => rfl) s i
theorem at_tail (s : List UInt8) (i : Nat) : atP tailB s i = (atP letterB s i || atP digitB s i || atP (eqB 46) s i) := by
  rw [at_or (p := wordB) (q := eqB 46) (r := tailB) (fun _ => rfl), at_word]
theorem at_pm (s : List UInt8) (i : Nat) : atP pmB s i = (atP (eqB 43) s i || atP (eqB 45) s i) := at_or (fun _ => rfl) s i
end Go.Tok
namespace Go.Tok
theorem pre_two {s : List UInt8} {i : Nat} (t : List UInt8) (ht : t.length = 2) : t.isPrefixOf (s.drop i) = (decide (i + 2 ≤ s.length) && decide ((s.drop i).take 2 = t)) := by
  rw [Bool.eq_iff_iff]
  simp only [List.isPrefixOf_iff_prefix, Bool.and_eq_true, decide_eq_true_eq]
  constructor
  · intro h
    have h1 := h.length_le
    have h2 := List.prefix_iff_eq_take.1 h
    simp only [List.length_drop] at h1
    rw [ht] at h1 h2
    exact ⟨by omega, h2.symm⟩
  · intro h
    rw [List.prefix_iff_eq_take, ht, h.2]
theorem pre_one {s : List UInt8} {i : Nat} (b : UInt8) (hi : i < s.length) : [b].isPrefixOf (s.drop i) = decide ((s[i].toNat : Int) = (b.toNat : Int)) := by
  rw [List.drop_eq_getElem_cons hi]
  have := eq_int b s[i]
  simp only [eqB] at this
  rw [← this]
  simp [List.isPrefixOf, Bool.beq_comm]
def oneT : List UInt8 := [123, 125, 91, 93, 40, 41, 60, 62, 61, 43, 45, 42, 47, 126, 44, 59, 58]
theorem sig_two (k : Nat) (h : k < 5) : (signsL.getD k []).length = 2 := by revert k; decide +kernel
theorem sig_one (k : Nat) (h : k < 17) : signsL.getD (5 + k) [] = [oneT.getD k 0] := by revert k; decide +kernel
end Go.Tok
end
