/- TreeApart: what is written of two right programs is the same just when they are. Part 3 of 12. -/
import Derived.Test.YtcmcdgkjipnfnaaDoorA02
import Derived.Lib.LastIndexByte
import Derived.Lib.IndexMore
section
namespace Go.Proofs.YtcmcdgkjipnfnaaDoor
open Go.RowKit Go.Sx
open Go.Tok
theorem Fields_signs (x : List UInt8) (hx : x = signsT) (w : World) (ht : Tb w) : Ret Tryd.prog 27 #[str x] w fun v w' =>
  v = .slice (some ⟨w.heap.size, 0, none⟩) 22 22 ∧ w' = w.alloc (cel (signsL.map str) 9) := by
 subst hx
 have := Fields_spec signsT w (by decide) signs_ascii ht
 rw [signs_fields] at this
 exact this
theorem sig_at {k : Nat} (h : k < 22) : (signsL.map str)[0 + k * 1]? = some (str (signsL.getD k [])) := by
 have : k < signsL.length := h
 simp [this]

set_option maxRecDepth 100000 in
set_option maxHeartbeats 400000 in
theorem is_spec (p : Nat) (s so : List UInt8) (q : UInt8 → Bool) (hq : so.contains = q) (j on : Nat) (w : World) (hp : w.heap[p]? = some (cel [str s, .int .i64 (j : Nat)] 76)) (hs : s.length ≤ 10000000) (hj : j ≤ 10000000) (h1 : on ≤ 10) :
  Ret Tryd.prog 86 #[.pointer (some ⟨p, 0, none⟩), str so, .int .i64 (on : Nat)] w (fun v w' => v = .bool (atP q s (j + on)) ∧ Ext w w') := by
 refine enter (S := No) (l := [_, _, _]) (L := []) 35 Tryd.func86 rfl rfl rfl (St.start w No) ?_; refine yA ?_; refine aB rfl ?_; refine yB ?_; refine zq ?_; refine c_draw mixed (by kernel_rfl) ?_; refine mP rfl ?_; refine w_nilc rfl ?_; refine zf fa76_1 rfl ?_; refine zl z3 rfl (fun _ h => cel_oldb hp (.head _) id rfl h) ?_; refine mI rfl ?_; refine w_r (fun _ => R_addi rfl rfl (by omega)) rfl rfl ?_; refine mP rfl ?_; refine w_nilc rfl ?_; refine zf fa76_0 rfl ?_; refine zl z9 rfl (fun _ h => cel_oldb hp (.head _) id rfl h) ?_; refine w_r (fun _ => R_slen st9 rfl (by omega)) rfl rfl ?_; refine w_r (fun _ => R_lt rfl rfl) rfl rfl ?_; refine mB rfl ?_; refine zd (t := 19) rfl (fun h1 => ?_) (fun h1 => ?_)
 ·refine zw rfl rfl (bT h1) ?_; refine zm (v := str _) rfl ?_; refine zw rfl rfl (bT h1) ?_; refine mP rfl ?_; refine zw rfl rfl (bT h1) ?_; refine w_nilc rfl ?_; refine zw rfl rfl (bT h1) ?_; refine zf fa76_0 rfl ?_; refine zw rfl rfl (bT h1) ?_; refine zl z9 rfl (fun _ h => cel_oldb hp (.head _) id rfl h) ?_; refine zw rfl rfl (bT h1) ?_; refine mP rfl ?_; refine zw rfl rfl (bT h1) ?_; refine w_nilc rfl ?_; refine zw rfl rfl (bT h1) ?_; refine zf fa76_1 rfl ?_; refine zw rfl rfl (bT h1) ?_; refine zl z3 rfl (fun _ h => cel_oldb hp (.head _) id rfl h) ?_; refine zw rfl rfl (bT h1) ?_; refine mI rfl ?_; refine zw rfl rfl (bT h1) ?_; refine w_r (fun _ => R_addi rfl rfl (by omega)) rfl rfl ?_; refine zw rfl rfl (bT h1) ?_
  refine w_sidx st9 rfl rfl (by omega) ?_; refine zw rfl rfl (bT h1) ?_; refine zC (fun w => zR Tryd.func89 rfl rfl rfl) rfl rfl (fun w h => IndexByte_at _ _ w) ?_; refine zw rfl rfl (bT h1) ?_; refine w_r (fun _ => R_ge rfl rfl) rfl rfl ?_; refine w_r (v := .bool _) (fun _ => zT (bT h1) rfl) rfl rfl ?_; refine aB rfl ?_; refine yB ?_; refine ze ?_; refine zo (v := .bool _) rfl rfl rfl ?_; exact fun w' hw => ⟨by subst hq; rw [atP_in (by omega), ← index_contains], hw.fr _ (.head _)⟩
 ·refine zs rfl rfl (bF h1) ?_; refine zs rfl rfl (bF h1) ?_; refine zs rfl rfl (bF h1) ?_; refine zs rfl rfl (bF h1) ?_; refine zs rfl rfl (bF h1) ?_; refine zs rfl rfl (bF h1) ?_; refine zs rfl rfl (bF h1) ?_; refine zs rfl rfl (bF h1) ?_; refine zs rfl rfl (bF h1) ?_; refine zs rfl rfl (bF h1) ?_; refine zs rfl rfl (bF h1) ?_; refine zs rfl rfl (bF h1) ?_; refine zs rfl rfl (bF h1) ?_; refine zs rfl rfl (bF h1) ?_; refine w_r (v := .bool _) (fun _ => zF (bF h1) rfl) rfl rfl ?_; refine aB rfl ?_; refine yB ?_; refine ze ?_; refine zo (v := .bool _) rfl rfl rfl ?_; exact fun w' hw => ⟨by rw [atP_out (by omega)], hw.fr _ (.head _)⟩

set_option maxRecDepth 100000 in
set_option maxHeartbeats 400000 in
theorem run_spec (p : Nat) (s so : List UInt8) (q : UInt8 → Bool) (hq : so.contains = q) (j : Nat) (w : World) (hp : w.heap[p]? = some (cel [str s, .int .i64 (j : Nat)] 76)) (hs : s.length ≤ 10000000) (hj : j ≤ s.length) :
  Ret Tryd.prog 87 #[.pointer (some ⟨p, 0, none⟩), str so] w (fun v w' => v = .int .i64 (runTo q s j - j : Nat) ∧ Fr (fun i => i = p) w w' ∧ w'.heap[p]? = some (cel [str s, .int .i64 (runTo q s j : Nat)] 76)) := by
 refine enter (S := (fun i => i = p)) (l := [_, _]) (L := [(p, cel [str s, .int .i64 (j : Nat)] 76)]) 26 Tryd.func87 rfl rfl rfl (St.start1 w hp rfl) ?_; refine yA ?_; refine aI rfl ?_; refine yC ?_; refine mP rfl ?_; refine w_nilc rfl ?_; refine zf fa76_1 rfl ?_; refine zl z3 rfl (fun _ h => zc 0 rfl rfl h) ?_; refine aI rfl ?_; refine yB ?_; refine zq ?_; refine zB ?_; refine c_loop (fun m e B L => ∃ (k : Nat), e 0 = .pointer (some ⟨p, 0, none⟩) ∧ e 1 = str so ∧ e 5 = .int .i64 (j : Nat) ∧ B = [(w, (fun i => i = p))] ∧ L = [(p, cel [str s, .int .i64 (k : Nat)] 76)] ∧ j ≤ k ∧ k ≤ s.length ∧ runTo q s k = runTo q s j ∧ m = s.length - k) _ ⟨j, rfl, rfl, rfl, rfl, rfl, by omega, by omega, rfl, rfl⟩ ?_
 rintro m e B L ⟨k, e0_1, e1_1, e5_1, rfl, rfl, p0_1, p1_1, p2_1, rfl⟩
 refine zq ?_; refine yA ?_; refine mP e0_1 ?_; refine zm (v := str _) e1_1 ?_; refine zC (fun w => zR Tryd.func86 rfl rfl rfl) rfl rfl (fun w h => is_spec p s _ _ hq _ 0 w (h.at_ 0 rfl) hs (by omega) (by decide)) ?_; refine yB ?_; refine c_cond rfl (fun h1 => ?_) (fun h1 => ?_)
 ·replace h1 : atP q s k = true := h1; have h2 := atP_lt h1
  refine zi ?_; refine zk ?_; refine zB ?_; refine zr ?_; refine mP e0_1 ?_; refine w_nilc rfl ?_; refine zf fa76_1 rfl ?_; refine zl z3 rfl (fun _ h => zc 0 rfl rfl h) ?_; refine w_r (fun _ => R_addi rfl rfl (by omega)) rfl rfl ?_; refine w_nilc rfl ?_; refine zf fa76_1 rfl ?_; refine w_store 0 rfl z3 rfl rfl rfl rfl rfl rfl rfl ?_; refine zn ?_; refine b_on (?_)
  exact k_again _ (by omega) ⟨k + 1, e0_1, e1_1, e5_1, rfl, rfl, by omega, by omega, by rw [← p2_1, runTo_step h1], rfl⟩
 ·refine c_exit ?_; refine zx (zx (b_here rfl (zk ?_))); refine yA ?_; refine mP e0_1 ?_; refine w_nilc rfl ?_; refine zf fa76_1 rfl ?_; refine zl z3 rfl (fun _ h => zc 0 rfl rfl h) ?_; refine mI e5_1 ?_; refine w_r (fun _ => R_subi rfl rfl (by omega)) rfl rfl ?_; refine aI rfl ?_; refine yB ?_; refine ze ?_
  replace h1 : atP q s k = false := h1
  have h2 : runTo q s j = k := by rw [← p2_1, runTo_stop h1]
  rw [h2]
  refine zo (v := .int _ _) rfl rfl rfl ?_; exact fun w' hw => ⟨by congr 1; omega, hw.fr _ (.head _), hw.at_ 0 rfl⟩

set_option maxRecDepth 100000 in
set_option maxHeartbeats 400000 in
theorem skip_spec (p : Nat) (s : List UInt8) (j : Nat) (w : World) (hp : w.heap[p]? = some (cel [str s, .int .i64 (j : Nat)] 76)) (hs : s.length ≤ 10000000) (hj : j ≤ s.length) :
  Ret Tryd.prog 62 #[.pointer (some ⟨p, 0, none⟩)] w (fun v w' => v = .tuple #[] ∧ Fr (fun i => i = p) w w' ∧ w'.heap[p]? = some (cel [str s, .int .i64 (skipTo s j : Nat)] 76)) := by
 refine enter (S := (fun i => i = p)) (l := [_]) (L := [(p, cel [str s, .int .i64 (j : Nat)] 76)]) 46 Tryd.func62 rfl rfl rfl (St.start1 w hp rfl) ?_; refine zB ?_; refine c_loop (fun m e B L => ∃ (k : Nat), e 0 = .pointer (some ⟨p, 0, none⟩) ∧ B = [(w, (fun i => i = p))] ∧ L = [(p, cel [str s, .int .i64 (k : Nat)] 76)] ∧ k ≤ s.length ∧ skipTo s k = skipTo s j ∧ m = s.length - k) _ ⟨j, rfl, rfl, rfl, by omega, rfl, rfl⟩ ?_
 rintro m e B L ⟨k, e0_1, rfl, rfl, p0_1, p1_1, rfl⟩
 have r0 := Lib.indexByte_ge (s.drop (runTo blankB s k)) 10
 have r6 := runTo_le (p := notNl) (runTo_le (p := blankB) p0_1)
 have r7 := index_run s _ (runTo_le (p := blankB) p0_1)
 have r1 := runTo_ge blankB s k
 have r2 := runTo_le (p := blankB) p0_1
 refine zB ?_; refine yA ?_; refine mP e0_1 ?_; refine w_call1 0 rfl (fun w => zR Tryd.func87 rfl rfl rfl) rfl rfl (fun w h => run_spec p s _ _ con_blanks _ w (h.at_ 0 rfl) hs (by omega)) ?_; refine yB ?_; refine zq ?_; refine zq ?_; refine c_draw mixed (by kernel_rfl) ?_; refine mP e0_1 ?_; refine w_nilc rfl ?_; refine zf fa76_0 rfl ?_; refine zl z9 rfl (fun _ h => zc 0 rfl rfl h) ?_; refine mP e0_1 ?_; refine w_nilc rfl ?_; refine zf fa76_1 rfl ?_; refine zl z3 rfl (fun _ h => zc 0 rfl rfl h) ?_; refine w_r (fun _ => R_ssl_loN st9 rfl rfl (by omega)) rfl rfl ?_; refine zC (fun w => zR Tryd.func88 rfl rfl rfl) rfl rfl (fun w h => HasPrefix_spec _ _ w) ?_; refine w_r (fun _ => R_not rfl) rfl rfl ?_; refine yB ?_
 refine c_condN rfl (fun h1 => ?_) (fun h1 => ?_)
 ·rw [prefix_cmt] at h1
  refine ze ?_; refine zt (zb (zt (zb (?_))))
  refine r_none (.inl rfl) rfl ?_; exact fun w' hw => ⟨rfl, hw.fr _ (.head _), by have := hw.at_ 0 rfl; rw [← p1_1, skipTo_eq p0_1, if_neg (by simp [h1])]; exact this⟩
 ·rw [prefix_cmt] at h1
  refine zi ?_; refine zk ?_; refine zq ?_; refine c_draw mixed (by kernel_rfl) ?_; refine mP e0_1 ?_; refine w_nilc rfl ?_; refine zf fa76_0 rfl ?_; refine zl z9 rfl (fun _ h => zc 0 rfl rfl h) ?_; refine mP e0_1 ?_; refine w_nilc rfl ?_; refine zf fa76_1 rfl ?_; refine zl z3 rfl (fun _ h => zc 0 rfl rfl h) ?_; refine w_r (fun _ => R_ssl_loN st9 rfl rfl (by omega)) rfl rfl ?_; refine zC (fun w => zR Tryd.func89 rfl rfl rfl) rfl rfl (fun w h => IndexByte_at _ 10 w) ?_; refine aI rfl ?_; refine yB ?_; refine zq ?_; refine yA ?_; refine mI rfl ?_; refine w_r (fun _ => R_lt rfl rfl) rfl rfl ?_; refine yB ?_; refine zD rfl (fun h2 => ?_) (fun h2 => ?_)
  ·first | rw [if_pos h2] at r7 | rw [if_neg h2] at r7
   refine c_draw mixed (by kernel_rfl) ?_; refine mP e0_1 ?_; refine w_nilc rfl ?_; refine zf fa76_0 rfl ?_; refine zl z9 rfl (fun _ h => zc 0 rfl rfl h) ?_; refine w_r (fun _ => R_slen st9 rfl (by omega)) rfl rfl ?_; refine mP e0_1 ?_; refine w_nilc rfl ?_; refine zf fa76_1 rfl ?_; refine zl z3 rfl (fun _ h => zc 0 rfl rfl h) ?_; refine w_r (fun _ => R_subi rfl rfl (by omega)) rfl rfl ?_; refine aI rfl ?_; refine yB ?_; refine zr ?_; refine mP e0_1 ?_; refine w_nilc rfl ?_; refine zf fa76_1 rfl ?_; refine zl z3 rfl (fun _ h => zc 0 rfl rfl h) ?_; refine mI rfl ?_; refine w_r (fun _ => R_addi rfl rfl (by omega)) rfl rfl ?_
   refine w_nilc rfl ?_; refine zf fa76_1 rfl ?_; refine w_store 0 rfl z3 rfl rfl rfl rfl rfl rfl rfl ?_; refine zn ?_; refine b_on (?_)
   have r3 := cmt_run h1
   have r4 := r7
   exact k_again _ (by omega) ⟨s.length, (by first | rfl | assumption), (by first | rfl | assumption), congrArg (fun x : Int => [(p, cel [str s, .int .i64 x] 76)]) (by omega), by omega, by rw [← p1_1, skipTo_eq p0_1, if_pos h1, r4], rfl⟩
  ·first | rw [if_pos h2] at r7 | rw [if_neg h2] at r7
   refine zi ?_; refine zk ?_; refine zr ?_; refine mP e0_1 ?_; refine w_nilc rfl ?_; refine zf fa76_1 rfl ?_; refine zl z3 rfl (fun _ h => zc 0 rfl rfl h) ?_; refine mI rfl ?_; refine w_r (fun _ => R_addi rfl rfl (by omega)) rfl rfl ?_; refine w_nilc rfl ?_; refine zf fa76_1 rfl ?_; refine w_store 0 rfl z3 rfl rfl rfl rfl rfl rfl rfl ?_; refine zn ?_; refine b_on (?_)
   have r3 := cmt_run h1
   have r4 := r7
   exact k_again _ (by omega) ⟨runTo notNl s (runTo blankB s k), (by first | rfl | assumption), (by first | rfl | assumption), congrArg (fun x : Int => [(p, cel [str s, .int .i64 x] 76)]) (by omega), by omega, by rw [← p1_1, skipTo_eq p0_1, if_pos h1], rfl⟩

set_option maxRecDepth 100000 in
set_option maxHeartbeats 400000 in
theorem name_spec (p : Nat) (s : List UInt8) (j : Nat) (w : World) (hp : w.heap[p]? = some (cel [str s, .int .i64 (j : Nat)] 76)) (hs : s.length ≤ 10000000) (hj : j ≤ s.length) :
  Ret Tryd.prog 59 #[.pointer (some ⟨p, 0, none⟩)] w (fun v w' => v = .tuple #[.int .u8 (if nameB s j then 1 else 0), .bool (nameB s j)] ∧ Fr (fun i => i = p) w w' ∧ w'.heap[p]? = some (cel [str s, .int .i64 (if nameB s j then runTo wordB s j else j : Nat)] 76)) := by
 refine enter (S := (fun i => i = p)) (l := [_]) (L := [(p, cel [str s, .int .i64 (j : Nat)] 76)]) 13 Tryd.func59 rfl rfl rfl (St.start1 w hp rfl) ?_; refine yA ?_; refine aI rfl ?_; refine aB rfl ?_; refine yB ?_; refine zq ?_; refine yA ?_; refine mP rfl ?_; refine zC (fun w => zR Tryd.func86 rfl rfl rfl) rfl rfl (fun w h => is_spec p s _ _ (con_one 95) _ 0 w (h.at_ 0 rfl) hs (by omega) (by decide)) ?_; refine mB rfl ?_; refine zp (t := 6) rfl (fun h1 => ?_) (fun h1 => ?_)
 ·refine zs rfl rfl (bV h1) ?_; refine zs rfl rfl (bV h1) ?_; refine zs rfl rfl (bV h1) ?_; refine w_r (v := .bool _) (fun _ => zT (bV h1) rfl) rfl rfl ?_; refine yB ?_; refine zE rfl ?_; refine yA ?_; refine aI rfl ?_; refine aB rfl ?_; refine yB ?_; refine ze ?_; refine zt (?_)
  have h0 : nameB s j = false := by simp only [nameB]; rw [show atP (eqB 95) s j = true from h1]; simp
  rw [h0]
  refine r_two (v := .int _ _) (v2 := .bool _) rfl rfl rfl rfl rfl ?_; exact fun w' hw => ⟨rfl, hw.fr _ (.head _), hw.at_ 0 rfl⟩
 ·refine zw rfl rfl (bV h1) ?_; refine mP rfl ?_; refine zw rfl rfl (bV h1) ?_; refine zC (fun w => zR Tryd.func86 rfl rfl rfl) rfl rfl (fun w h => is_spec p s _ _ con_letters _ 0 w (h.at_ 0 rfl) hs (by omega) (by decide)) ?_; refine zw rfl rfl (bV h1) ?_; refine w_r (fun _ => R_not rfl) rfl rfl ?_; refine w_r (v := .bool _) (fun _ => zF (bV h1) rfl) rfl rfl ?_; refine yB ?_; refine c_condN rfl (fun h2 => ?_) (fun h2 => ?_)
  ·refine yA ?_; refine aI rfl ?_; refine aB rfl ?_; refine yB ?_; refine ze ?_; refine zt (?_)
   have h0 : nameB s j = false := by simp only [nameB]; rw [show atP letterB s j = false from h2]; rfl
   rw [h0]
   refine r_two (v := .int _ _) (v2 := .bool _) rfl rfl rfl rfl rfl ?_; exact fun w' hw => ⟨rfl, hw.fr _ (.head _), hw.at_ 0 rfl⟩
  ·refine zi ?_; refine zk ?_; refine yA ?_; refine mP rfl ?_; refine w_call1 0 rfl (fun w => zR Tryd.func87 rfl rfl rfl) rfl rfl (fun w h => run_spec p s _ _ con_words _ w (h.at_ 0 rfl) hs (by omega)) ?_; refine yC ?_; refine aI rfl ?_; refine aB rfl ?_; refine yB ?_; refine ze ?_
   have h0 : nameB s j = true := by simp only [nameB]; rw [show atP (eqB 95) s j = false from h1, show atP letterB s j = true from h2]; rfl
   rw [h0]
   refine r_two (v := .int _ _) (v2 := .bool _) rfl rfl rfl rfl rfl ?_; exact fun w' hw => ⟨rfl, hw.fr _ (.head _), hw.at_ 0 rfl⟩

set_option maxRecDepth 100000 in
set_option maxHeartbeats 400000 in
theorem number_spec (p : Nat) (s : List UInt8) (j : Nat) (w : World) (hp : w.heap[p]? = some (cel [str s, .int .i64 (j : Nat)] 76)) (hs : s.length ≤ 10000000) (hj : j ≤ s.length) :
  Ret Tryd.prog 60 #[.pointer (some ⟨p, 0, none⟩)] w (fun v w' => v = .tuple #[.int .u8 (if atP digitB s j then 2 else 0), .bool (if atP digitB s j then numFine s j else false)] ∧ Fr (fun i => i = p) w w' ∧ w'.heap[p]? = some (cel [str s, .int .i64 (if atP digitB s j then numEnd s j else j : Nat)] 76)) := by
 have g1 := runTo_le (p := digitB) hj
 have g2 := runTo_ge digitB s j
 refine enter (S := (fun i => i = p)) (l := [_]) (L := [(p, cel [str s, .int .i64 (j : Nat)] 76)]) 66 Tryd.func60 rfl rfl rfl (St.start1 w hp rfl) ?_; refine yA ?_; refine aI rfl ?_; refine aB rfl ?_; refine yB ?_; refine zq ?_; refine yA ?_; refine mP rfl ?_; refine w_call1 0 rfl (fun w => zR Tryd.func87 rfl rfl rfl) rfl rfl (fun w h => run_spec p s _ _ con_digits _ w (h.at_ 0 rfl) hs (by omega)) ?_; refine w_r (fun _ => R_eq rfl rfl) rfl rfl ?_; refine yB ?_; refine zD rfl (fun h1 => ?_) (fun h1 => ?_)
 ·(try simp only [Nat.add_zero] at h1); (try have qh1 := atP_lt h1)
  have g0 := run_zero digitB s j
  refine yA ?_; refine aI rfl ?_; refine aB rfl ?_; refine yB ?_; refine ze ?_; refine zt (?_)
  have g5 : atP digitB s j = false := by rw [← g0]; omega
  rw [g5]
  refine r_two (v := .int _ _) (v2 := .bool _) rfl rfl rfl rfl rfl ?_; exact fun w' hw => ⟨rfl, hw.fr _ (.head _), by have := hw.at_ 0 rfl; rw [runTo_stop g5] at this; exact this⟩
 ·(try simp only [Nat.add_zero] at h1)
  have g0 := run_zero digitB s j
  refine zi ?_; refine zk ?_; refine c_cut (fun e B L => e 0 = .pointer (some ⟨p, 0, none⟩) ∧ B = [(w, (fun i => i = p))] ∧ L = [(p, cel [str s, .int .i64 (numDot s (runTo digitB s j) : Nat)] 76)]) ?_ ?_
  ·(try simp only [Nat.add_zero] at mid1); (try have qmid1 := atP_lt mid1)
   refine yA ?_; refine mP rfl ?_; refine zC (fun w => zR Tryd.func86 rfl rfl rfl) rfl rfl (fun w h => is_spec p s _ _ (con_one 46) _ 0 w (h.at_ 0 rfl) hs (by omega) (by decide)) ?_; refine mB rfl ?_; refine zp (t := 10) rfl (fun h2 => ?_) (fun h2 => ?_)
   ·(try simp only [Nat.add_zero] at h2); (try have qh2 := atP_lt h2)
    refine zw rfl rfl (bV h2) ?_; refine mP rfl ?_; refine zw rfl rfl (bV h2) ?_; refine zC (fun w => zR Tryd.func86 rfl rfl rfl) rfl rfl (fun w h => is_spec p s _ _ con_digits _ 1 w (h.at_ 0 rfl) hs (by omega) (by decide)) ?_; refine w_r (v := .bool _) (fun _ => zT (bV h2) rfl) rfl rfl ?_; refine yB ?_; refine c_cond rfl (fun h3 => ?_) (fun h3 => ?_)
    ·(try simp only [Nat.add_zero] at h3); (try have qh3 := atP_lt h3)
     refine yA ?_; refine mP rfl ?_; refine w_nilc rfl ?_; refine zf fa76_1 rfl ?_; refine zl z3 rfl (fun _ h => zc 0 rfl rfl h) ?_; refine w_r (fun _ => R_addi rfl rfl (by omega)) rfl rfl ?_; refine w_nilc rfl ?_; refine zf fa76_1 rfl ?_; refine w_store 0 rfl z3 rfl rfl rfl rfl rfl rfl rfl ?_; refine yB ?_; refine zr ?_; refine mP rfl ?_; refine w_call1 0 rfl (fun w => zR Tryd.func87 rfl rfl rfl) rfl rfl (fun w h => run_spec p s _ _ con_digits ((runTo digitB s j) + 1) w (h.at_ 0 rfl) hs (by omega)) ?_; refine zn ?_; exact k_mid ⟨rfl, rfl, by rw [numDot, if_pos (by rw [h2, h3]; rfl)]; rfl⟩
    ·(try simp only [Nat.add_zero] at h3)
     refine zi ?_; exact k_mid ⟨rfl, rfl, by rw [numDot, if_neg (by rw [h2, h3]; simp)]; rfl⟩
   ·(try simp only [Nat.add_zero] at h2)
    refine zs rfl rfl (bV h2) ?_; refine zs rfl rfl (bV h2) ?_; refine w_r (v := .bool _) (fun _ => zF (bV h2) rfl) rfl rfl ?_; refine yB ?_; refine c_condF rfl ?_; refine zi ?_; exact k_mid ⟨rfl, rfl, by rw [numDot, if_neg (by rw [h2]; simp)]; rfl⟩
  rintro e B L ⟨e0_1, rfl, rfl⟩
  have g3 := numDot_le (runTo_le (p := digitB) hj)
  refine yA ?_; refine aI rfl ?_; refine yB ?_; refine c_cut (fun e B L => e 0 = .pointer (some ⟨p, 0, none⟩) ∧ e 4 = .int .i64 ((numTens s (numDot s (runTo digitB s j))).1 : Nat) ∧ B = [(w, (fun i => i = p))] ∧ L = [(p, cel [str s, .int .i64 ((numTens s (numDot s (runTo digitB s j))).2 : Nat)] 76)]) ?_ ?_
  ·(try simp only [Nat.add_zero] at mid2); (try have qmid2 := atP_lt mid2)
   refine zB ?_; refine yA ?_; refine mP e0_1 ?_; refine zC (fun w => zR Tryd.func86 rfl rfl rfl) rfl rfl (fun w h => is_spec p s _ _ (con_one 101) _ 0 w (h.at_ 0 rfl) hs (by omega) (by decide)) ?_; refine mB rfl ?_; refine zp (t := 26) rfl (fun h4 => ?_) (fun h4 => ?_)
   ·(try simp only [Nat.add_zero] at h4); (try have qh4 := atP_lt h4)
    refine zw rfl rfl (bV h4) ?_; refine mP e0_1 ?_; refine zw rfl rfl (bV h4) ?_; refine zC (fun w => zR Tryd.func86 rfl rfl rfl) rfl rfl (fun w h => is_spec p s _ _ con_digits _ 1 w (h.at_ 0 rfl) hs (by omega) (by decide)) ?_; refine w_r (v := .bool _) (fun _ => zT (bV h4) rfl) rfl rfl ?_; refine aB rfl ?_; refine yB ?_; refine c_cond rfl (fun h5 => ?_) (fun h5 => ?_)
    ·(try simp only [Nat.add_zero] at h5); (try have qh5 := atP_lt h5)
     refine yA ?_; refine mP e0_1 ?_; refine w_nilc rfl ?_; refine zf fa76_1 rfl ?_; refine zl z3 rfl (fun _ h => zc 0 rfl rfl h) ?_; refine w_r (fun _ => R_addi rfl rfl (by omega)) rfl rfl ?_; refine w_nilc rfl ?_; refine zf fa76_1 rfl ?_; refine w_store 0 rfl z3 rfl rfl rfl rfl rfl rfl rfl ?_; refine yB ?_; refine zr ?_; refine mP e0_1 ?_; refine w_call1 0 rfl (fun w => zR Tryd.func87 rfl rfl rfl) rfl rfl (fun w h => run_spec p s _ _ con_digits ((numDot s (runTo digitB s j)) + 1) w (h.at_ 0 rfl) hs (by omega)) ?_; refine aI rfl ?_; refine zn ?_; refine b_on (?_)
     have e4 : numTens s (numDot s (runTo digitB s j)) = (runTo digitB s ((numDot s (runTo digitB s j)) + 1) - ((numDot s (runTo digitB s j)) + 1), runTo digitB s ((numDot s (runTo digitB s j)) + 1)) := by rw [numTens, if_pos (by rw [h4, h5]; rfl)]
     exact k_mid ⟨e0_1, by rw [e4]; first | done | rfl, rfl, by rw [e4]; first | done | rfl⟩
    ·(try simp only [Nat.add_zero] at h5)
     refine yA ?_; refine mP e0_1 ?_; refine zC (fun w => zR Tryd.func86 rfl rfl rfl) rfl rfl (fun w h => is_spec p s _ _ (con_one 101) _ 0 w (h.at_ 0 rfl) hs (by omega) (by decide)) ?_; refine mB rfl ?_; refine zp (t := 42) rfl (fun h6 => ?_) (fun h6 => ?_)
     ·(try simp only [Nat.add_zero] at h6); (try have qh6 := atP_lt h6)
      refine zw rfl rfl (bV h6) ?_; refine mP e0_1 ?_; refine zw rfl rfl (bV h6) ?_; refine zC (fun w => zR Tryd.func86 rfl rfl rfl) rfl rfl (fun w h => is_spec p s _ _ con_pm _ 1 w (h.at_ 0 rfl) hs (by omega) (by decide)) ?_; refine w_r (v := .bool _) (fun _ => zT (bV h6) rfl) rfl rfl ?_; refine mB rfl ?_; refine zp (t := 46) rfl (fun h7 => ?_) (fun h7 => ?_)
      ·(try simp only [Nat.add_zero] at h7); (try have qh7 := atP_lt h7)
       refine zw rfl rfl (bV h7) ?_; refine mP e0_1 ?_; refine zw rfl rfl (bV h7) ?_; refine zC (fun w => zR Tryd.func86 rfl rfl rfl) rfl rfl (fun w h => is_spec p s _ _ con_digits _ 2 w (h.at_ 0 rfl) hs (by omega) (by decide)) ?_; refine w_r (v := .bool _) (fun _ => zT (bV h7) rfl) rfl rfl ?_; refine aB rfl ?_; refine yB ?_; refine c_cond rfl (fun h8 => ?_) (fun h8 => ?_)
       ·(try simp only [Nat.add_zero] at h8); (try have qh8 := atP_lt h8)
        refine yA ?_; refine mP e0_1 ?_; refine w_nilc rfl ?_; refine zf fa76_1 rfl ?_; refine zl z3 rfl (fun _ h => zc 0 rfl rfl h) ?_; refine w_r (fun _ => R_addi rfl rfl (by omega)) rfl rfl ?_; refine w_nilc rfl ?_; refine zf fa76_1 rfl ?_; refine w_store 0 rfl z3 rfl rfl rfl rfl rfl rfl rfl ?_; refine yB ?_; refine zr ?_; refine mP e0_1 ?_; refine w_call1 0 rfl (fun w => zR Tryd.func87 rfl rfl rfl) rfl rfl (fun w h => run_spec p s _ _ con_digits ((numDot s (runTo digitB s j)) + 2) w (h.at_ 0 rfl) hs (by omega)) ?_; refine aI rfl ?_; refine zn ?_; refine b_on (?_)
        have e4 : numTens s (numDot s (runTo digitB s j)) = (runTo digitB s ((numDot s (runTo digitB s j)) + 2) - ((numDot s (runTo digitB s j)) + 2), runTo digitB s ((numDot s (runTo digitB s j)) + 2)) := by rw [numTens, if_neg (by rw [h4, h5]; simp), if_pos (by rw [h6, h7, h8]; rfl)]
        exact k_mid ⟨e0_1, by rw [e4]; first | done | rfl, rfl, by rw [e4]; first | done | rfl⟩
       ·(try simp only [Nat.add_zero] at h8)
        refine zi ?_; refine b_on (?_)
        have e4 : numTens s (numDot s (runTo digitB s j)) = (0, (numDot s (runTo digitB s j))) := by rw [numTens, if_neg (by rw [h4, h5]; simp), if_neg (by rw [h6, h7, h8]; simp)]
        exact k_mid ⟨e0_1, by rw [e4]; first | done | rfl, rfl, by rw [e4]; first | done | rfl⟩
      ·(try simp only [Nat.add_zero] at h7)
       refine zs rfl rfl (bV h7) ?_; refine zs rfl rfl (bV h7) ?_; refine w_r (v := .bool _) (fun _ => zF (bV h7) rfl) rfl rfl ?_; refine aB rfl ?_; refine yB ?_; refine c_condF rfl ?_; refine zi ?_; refine b_on (?_)
       have e4 : numTens s (numDot s (runTo digitB s j)) = (0, (numDot s (runTo digitB s j))) := by rw [numTens, if_neg (by rw [h4, h5]; simp), if_neg (by rw [h6, h7]; simp)]
       exact k_mid ⟨e0_1, by rw [e4]; first | done | rfl, rfl, by rw [e4]; first | done | rfl⟩
     ·(try simp only [Nat.add_zero] at h6)
      refine zs rfl rfl (bV h6) ?_; refine zs rfl rfl (bV h6) ?_; refine w_r (v := .bool _) (fun _ => zF (bV h6) rfl) rfl rfl ?_; refine mB rfl ?_; refine zs rfl rfl rfl ?_; refine zs rfl rfl rfl ?_; refine w_r (v := .bool _) (fun _ => zF rfl rfl) rfl rfl ?_; refine aB rfl ?_; refine yB ?_; refine c_condF rfl ?_; refine zi ?_; refine b_on (?_)
      have e4 : numTens s (numDot s (runTo digitB s j)) = (0, (numDot s (runTo digitB s j))) := by rw [numTens, if_neg (by rw [h4, h5]; simp), if_neg (by rw [h6]; simp)]
      exact k_mid ⟨e0_1, by rw [e4]; first | done | rfl, rfl, by rw [e4]; first | done | rfl⟩
   ·(try simp only [Nat.add_zero] at h4)
    refine zs rfl rfl (bV h4) ?_; refine zs rfl rfl (bV h4) ?_; refine w_r (v := .bool _) (fun _ => zF (bV h4) rfl) rfl rfl ?_; refine aB rfl ?_; refine yB ?_; refine c_condF rfl ?_; refine yA ?_; refine mP e0_1 ?_; refine zC (fun w => zR Tryd.func86 rfl rfl rfl) rfl rfl (fun w h => is_spec p s _ _ (con_one 101) _ 0 w (h.at_ 0 rfl) hs (by omega) (by decide)) ?_; refine mB rfl ?_; refine zp (t := 42) rfl (fun h9 => ?_) (fun h9 => ?_)
    ·rw [Nat.add_zero] at h9; rw [h4] at h9; cases h9
    ·(try simp only [Nat.add_zero] at h9)
     refine zs rfl rfl (bV h9) ?_; refine zs rfl rfl (bV h9) ?_; refine w_r (v := .bool _) (fun _ => zF (bV h9) rfl) rfl rfl ?_; refine mB rfl ?_; refine zs rfl rfl rfl ?_; refine zs rfl rfl rfl ?_; refine w_r (v := .bool _) (fun _ => zF rfl rfl) rfl rfl ?_; refine aB rfl ?_; refine yB ?_; refine c_condF rfl ?_; refine zi ?_; refine b_on (?_)
     have e4 : numTens s (numDot s (runTo digitB s j)) = (0, (numDot s (runTo digitB s j))) := by rw [numTens, if_neg (by rw [h4]; simp), if_neg (by rw [h4]; simp)]
     exact k_mid ⟨e0_1, by rw [e4]; first | done | rfl, rfl, by rw [e4]; first | done | rfl⟩
  rintro e B L ⟨e0_2, e4_2, rfl, rfl⟩
  have g4 := numTens_le g3.1
  refine yA ?_; refine mI e4_2 ?_; refine w_r (fun _ => R_le rfl rfl) rfl rfl ?_; refine mB rfl ?_; refine zd (t := 61) rfl (fun h10 => ?_) (fun h10 => ?_)
  ·(try simp only [Nat.add_zero] at h10); (try have qh10 := atP_lt h10)
   refine zw rfl rfl (bT h10) ?_; refine mP e0_2 ?_; refine zw rfl rfl (bT h10) ?_; refine zC (fun w => zR Tryd.func86 rfl rfl rfl) rfl rfl (fun w h => is_spec p s _ _ con_tails _ 0 w (h.at_ 0 rfl) hs (by omega) (by decide)) ?_; refine zw rfl rfl (bT h10) ?_; refine w_r (fun _ => R_not rfl) rfl rfl ?_; refine w_r (v := .bool _) (fun _ => zT (bT h10) rfl) rfl rfl ?_; refine aI rfl ?_; refine aB rfl ?_; refine yB ?_; refine ze ?_
   have g5 : atP digitB s j = true := by cases hc : atP digitB s j; exact absurd (g0.mpr hc) (by omega); rfl
   have g6 : numFine s j = !atP tailB s (numEnd s j) := by rw [numFine, decide_eq_true (by omega)]; rfl
   rw [g5, if_pos rfl, if_pos rfl, if_pos rfl, g6]
   refine r_two (v := .int _ _) (v2 := .bool _) rfl rfl rfl rfl rfl ?_; exact fun w' hw => ⟨rfl, hw.fr _ (.head _), hw.at_ 0 rfl⟩
  ·(try simp only [Nat.add_zero] at h10)
   refine zs rfl rfl (bF h10) ?_; refine zs rfl rfl (bF h10) ?_; refine zs rfl rfl (bF h10) ?_; refine w_r (v := .bool _) (fun _ => zF (bF h10) rfl) rfl rfl ?_; refine aI rfl ?_; refine aB rfl ?_; refine yB ?_; refine ze ?_
   have g5 : atP digitB s j = true := by cases hc : atP digitB s j; exact absurd (g0.mpr hc) (by omega); rfl
   have g6 : numFine s j = false := by rw [numFine, decide_eq_false (by omega)]; rfl
   rw [g5, if_pos rfl, if_pos rfl, if_pos rfl, g6]
   refine r_two (v := .int _ _) (v2 := .bool _) rfl rfl rfl rfl rfl ?_; exact fun w' hw => ⟨rfl, hw.fr _ (.head _), hw.at_ 0 rfl⟩

set_option maxRecDepth 100000 in
set_option maxHeartbeats 400000 in
theorem sign_spec (p : Nat) (s : List UInt8) (j : Nat) (w : World) (hp : w.heap[p]? = some (cel [str s, .int .i64 (j : Nat)] 76)) (hs : s.length ≤ 10000000) (hj : j ≤ s.length) (ht : Tb w) (hg : 0 < p) :
  Ret Tryd.prog 61 #[.pointer (some ⟨p, 0, none⟩)] w (fun v w' => v = .tuple #[.int .u8 (if signLen s j = 0 then 0 else 3), .bool (!decide (signLen s j = 0))] ∧ Fr (fun i => i = p) w w' ∧ w'.heap[p]? = some (cel [str s, .int .i64 (j + signLen s j : Nat)] 76)) := by
 refine enter (S := (fun i => i = p)) (l := [_]) (L := [(p, cel [str s, .int .i64 (j : Nat)] 76)]) 33 Tryd.func61 rfl rfl rfl (St.start1 w hp rfl) ?_; refine yA ?_; refine aI rfl ?_; refine aB rfl ?_; refine yB ?_; refine zq ?_; refine yA ?_; refine w_callN (g := fun b => .slice (some ⟨b, 0, none⟩) 22 22) (fun w => zR Tryd.func27 rfl rfl rfl) rfl rfl (fun w h => Fields_signs _ rfl w (ht.fr (h.fr _ (.head _)) (by intro hh; omega))) (fun fb gfb ufb => ?_)
 refine w_r (fun _ => R_len sl62 rfl) rfl rfl ?_; refine mI rfl ?_; refine yB ?_; refine zB ?_; refine c_loop (fun m e B L => ∃ (k : Nat), e 0 = .pointer (some ⟨p, 0, none⟩) ∧ e 6 = .slice (some ⟨fb, 0, none⟩) 22 22 ∧ e 7 = .int .i64 22 ∧ e 8 = .int .i64 (k : Nat) ∧ B = [(w, (fun i => i = p))] ∧ L = [(fb, cel (signsL.map str) 9), (p, cel [str s, .int .i64 (j : Nat)] 76)] ∧ k ≤ 22 ∧ (signsL.take k).find? (fun t => t.isPrefixOf (s.drop j)) = none ∧ m = 22 - k) _ ⟨0, rfl, rfl, rfl, rfl, rfl, rfl, by omega, rfl, rfl⟩ ?_
 rintro m e B L ⟨k, e0_1, e6_1, e7_1, e8_1, rfl, rfl, p0_1, p1_1, rfl⟩
 have r1 := sig_len k
 refine yA ?_; refine w_r (fun _ => R_lt e8_1 e7_1) rfl rfl ?_; refine yB ?_; refine zq ?_; refine zD rfl (fun h1 => ?_) (fun h1 => ?_)
 ·refine zi ?_; refine zk ?_; refine zq ?_; refine zB ?_; refine yA ?_; refine w_r (fun _ => R_iaN (i := k) sl62 e6_1 e8_1 (by first | omega | decide)) rfl rfl ?_; refine zl z9 rfl (fun _ h => by first | exact zc 0 rfl rfl h | exact zc 1 rfl rfl h | exact zc 0 rfl (sig_at (by omega)) h) ?_; refine za (v := str _) rfl ?_; refine yB ?_; refine zq ?_; refine c_draw mixed (by kernel_rfl) ?_; refine mP e0_1 ?_; refine w_nilc rfl ?_; refine zf fa76_0 rfl ?_; refine zl z9 rfl (fun _ h => zc 1 rfl rfl h) ?_; refine mP e0_1 ?_; refine w_nilc rfl ?_; refine zf fa76_1 rfl ?_; refine zl z3 rfl (fun _ h => zc 1 rfl rfl h) ?_
  refine w_r (fun _ => R_ssl_loN st9 rfl rfl (by omega)) rfl rfl ?_; refine zm (v := str _) rfl ?_; refine zC (fun w => zR Tryd.func88 rfl rfl rfl) rfl rfl (fun w h => HasPrefix_spec _ _ w) ?_; refine yB ?_; refine c_cond rfl (fun h2 => ?_) (fun h2 => ?_)
  ·refine yA ?_; refine mP e0_1 ?_; refine w_nilc rfl ?_; refine zf fa76_1 rfl ?_; refine zl z3 rfl (fun _ h => zc 1 rfl rfl h) ?_; refine zm (v := str _) rfl ?_; refine w_r (fun _ => R_slen st9 rfl (by omega)) rfl rfl ?_; refine w_r (fun _ => R_addi rfl rfl (by omega)) rfl rfl ?_; refine w_nilc rfl ?_; refine zf fa76_1 rfl ?_; refine w_store 1 rfl z3 rfl rfl rfl rfl rfl rfl rfl ?_; refine yC ?_; refine aI rfl ?_; refine aB rfl ?_; refine yB ?_; refine ze ?_; refine zb (zt (zt (zb (zt (?_)))))
   have r2 := sig_found (by omega) p1_1 h2
   rw [r2]
   refine r_two (v := .int _ _) (v2 := .bool _) rfl rfl rfl rfl rfl ?_; exact fun w' hw => ⟨by rw [if_neg (by have := sig_pos k (by omega); omega), decide_eq_false (by have := sig_pos k (by omega); omega)]; rfl, hw.fr _ (.head _), hw.at_ 1 rfl⟩
  ·refine zi ?_; refine b_on (zk ?_); refine zr ?_; refine w_r (fun _ => R_addi e8_1 rfl (by omega)) rfl rfl ?_; refine mI rfl ?_; refine zn ?_; exact k_again _ (by omega) ⟨k + 1, e0_1, e6_1, e7_1, rfl, rfl, rfl, by omega, sig_step (by omega) p1_1 h2, rfl⟩
 ·refine c_exit ?_; refine zx (zx (b_here rfl (zk ?_))); refine yA ?_; refine aI rfl ?_; refine aB rfl ?_; refine yB ?_; refine ze ?_
  have r2 := sig_none (by omega) p1_1
  rw [r2]
  refine r_two (v := .int _ _) (v2 := .bool _) rfl rfl rfl rfl rfl ?_; exact fun w' hw => ⟨rfl, hw.fr _ (.head _), hw.at_ 1 rfl⟩
end Go.Proofs.YtcmcdgkjipnfnaaDoor
end

section
namespace Go.Proofs.YtcmcdgkjipnfnaaDoor
open Go.RowKit Go.Sx
open Go.Tok
variable {σ : Type}
/-- what a round over the tokens does, for whoever calls yield: the caller's own blocks are Lc, told by J -/
def Rounds (J : Bool → σ → Heap → Prop) (nx : σ → Nat → List UInt8 → Nat → Bool → σ × Bool) (l : Nat) : Prop :=
 ∀ (x : σ) (k : Nat) (t : List UInt8) (a : Nat) (b : Bool) (Lc Lr : Heap) (B : Base) (w : World), t.length ≤ 10000000 → J true x Lc → St B (Lc ++ Lr) w →
  YieldAt (fw none) 0 Tryd.prog l #[.agg #[.int .u8 (k : Nat), str t, .int .i64 (a : Nat)], .bool b] w (fun en w' => ∃ v, en = .returned v ∧ ∃ Lc', v = .bool (nx x k t a b).2 ∧ J (nx x k t a b).2 (nx x k t a b).1 Lc' ∧ St B (Lc' ++ Lr) w')

set_option maxRecDepth 100000 in
set_option maxHeartbeats 400000 in
theorem all1_spec (J : Bool → σ → Heap → Prop) (nx : σ → Nat → List UInt8 → Nat → Bool → σ × Bool) (hn : ∀ x k t a, (nx x k t a false).2 = false) (l p vb : Nat) (s : List UInt8) (hs : s.length ≤ 10000000) (hy : Rounds J nx l) (wb : World) (Sb : Nat → Prop) (ht : Tb wb) (hgl : ¬ Sb 0) (hg : 0 < p) (x0 : σ) (Lc0 Lr : Heap) (Bs : Base) (hB : (wb, Sb) ∈ Bs) (hJ0 : J true x0 Lc0) (w : World) (hw : St Bs ((vb, cel [.pointer (some ⟨p, 0, none⟩)] 74) :: (p, cel [str s, .int .i64 (0 : Nat)] 76) :: (Lc0 ++ Lr)) w) :
  Ret Tryd.prog 58 #[.func (.yield l) #[] #[], .pointer (some ⟨vb, 0, none⟩)] w (fun v w' => v = .tuple #[] ∧ ∃ (j : Nat) (g : Bool) (Lc' : Heap), J g (lexS nx s (skipTo s 0) x0) Lc' ∧ St Bs ((vb, cel [.pointer (some ⟨p, 0, none⟩)] 74) :: (p, cel [str s, .int .i64 (j : Nat)] 76) :: (Lc' ++ Lr)) w') := by
 have g0 := skipTo_le (s := s) (Nat.zero_le _)
 refine enterB (l := [_, _]) 67 Tryd.func58 rfl rfl rfl (hw) ?_; refine yA ?_; refine w_r (fun _ => R_buildA ar108 zr108 rfl) rfl rfl ?_; refine w_alloc zr108 (fun b1 gb1 ub1 => ?_)
 refine w_store 0 rfl z108 rfl rfl rfl rfl rfl rfl rfl ?_; refine yC ?_; refine zl z74 rfl (fun _ h => zc 1 rfl rfl h) ?_; refine w_call1 2 rfl (fun w => zR Tryd.func62 rfl rfl rfl) rfl rfl (fun w h => skip_spec p s _ w (h.at_ 2 rfl) hs (Nat.zero_le _)) ?_; refine yB ?_; refine zB ?_
 refine c_loop (fun m e B L => ∃ (k : Nat) (x : σ) (Lc : Heap), e 0 = .func (.yield l) #[] #[] ∧ e 1 = .pointer (some ⟨vb, 0, none⟩) ∧ e 3 = .pointer (some ⟨b1, 0, none⟩) ∧ Bs = B ∧ L = (b1, cel [.func (.func 59) #[] #[], .func (.func 60) #[] #[], .func (.func 61) #[] #[]] 108) :: (vb, cel [.pointer (some ⟨p, 0, none⟩)] 74) :: (p, cel [str s, .int .i64 (k : Nat)] 76) :: (Lc ++ Lr) ∧ k ≤ s.length ∧ J true x Lc ∧ lexS nx s k x = lexS nx s (skipTo s 0) x0 ∧ m = s.length - k) _ ⟨skipTo s 0, x0, Lc0, rfl, rfl, rfl, rfl, rfl, g0.1, hJ0, rfl, rfl⟩ ?_
 rintro m e B L ⟨k, x, Lc, e0_1, e1_1, e3_1, rfl, rfl, hk, hJ, hl, rfl⟩
 have g2 := tok_le hk
 refine zq ?_; refine zq ?_; refine c_draw mixed (by kernel_rfl) ?_; refine zl z74 e1_1 (fun _ h => zc 1 rfl rfl h) ?_; refine w_nilc rfl ?_; refine zf fa76_1 rfl ?_; refine zl z3 rfl (fun _ h => zc 2 rfl rfl h) ?_; refine zl z74 e1_1 (fun _ h => zc 1 rfl rfl h) ?_; refine w_nilc rfl ?_; refine zf fa76_0 rfl ?_; refine zl z9 rfl (fun _ h => zc 2 rfl rfl h) ?_; refine w_r (fun _ => R_slen st9 rfl (by omega)) rfl rfl ?_; refine w_r (fun _ => R_lt rfl rfl) rfl rfl ?_; refine yB ?_; refine zD rfl (fun h2 => ?_) (fun h2 => ?_)
 ·have hlt : k < s.length := by omega
  refine zi ?_; refine zk ?_; refine zq ?_; refine zB ?_; refine yA ?_; refine zl z74 e1_1 (fun _ h => zc 1 rfl rfl h) ?_; refine w_nilc rfl ?_; refine zf fa76_1 rfl ?_; refine zl z3 rfl (fun _ h => zc 2 rfl rfl h) ?_; refine w_r (fun _ => R_build bt80 rfl) rfl rfl ?_; refine w_alloc zr80 (fun t4b gt4b ut4b => ?_)
  refine w_store 0 rfl z80 rfl rfl rfl rfl rfl rfl rfl ?_; refine yC ?_; refine aB rfl ?_; refine yB ?_; refine c_cut (fun e B L => e 0 = .func (.yield l) #[] #[] ∧ e 1 = .pointer (some ⟨vb, 0, none⟩) ∧ e 3 = .pointer (some ⟨b1, 0, none⟩) ∧ e 4 = .pointer (some ⟨t4b, 0, none⟩) ∧ e 5 = .bool (tokAt s k).2.2 ∧ Bs = B ∧ L = (t4b, cel [.int .u8 ((tokAt s k).1 : Nat), str ([]), .int .i64 (k : Nat)] 80) :: (b1, cel [.func (.func 59) #[] #[], .func (.func 60) #[] #[], .func (.func 61) #[] #[]] 108) :: (vb, cel [.pointer (some ⟨p, 0, none⟩)] 74) :: (p, cel [str s, .int .i64 ((tokAt s k).2.1 : Nat)] 76) :: (Lc ++ Lr)) ?_ ?_
  ·refine yA ?_; refine w_loadA z108 e3_1 (fun _ h => h.at_ 1 rfl) rfl ?_; refine mI rfl ?_; refine yB ?_; refine zB ?_; refine c_rounds 4 ?_; refine yA ?_; refine w_r (fun _ => R_lt rfl rfl) rfl rfl ?_; refine yB ?_; refine zq ?_; refine zE (congrArg Value.bool (decide_eq_true (by decide))) ?_; refine zi ?_; refine zk ?_; refine zq ?_; refine zB ?_; refine yA ?_; refine w_r (fun _ => R_aidx (i := 0) ar108 rfl rfl rfl rfl) rfl rfl ?_; refine za rfl ?_; refine yC ?_; refine zm rfl ?_; refine zl z74 e1_1 (fun _ h => zc 2 rfl rfl h) ?_
   cases hN : nameB s k
   ·refine w_call1 3 rfl (fun w => R_callv rfl Tryd.func59 rfl rfl) rfl rfl (fun w h => by have hh := name_spec p s _ w (h.at_ 3 rfl) hs (by omega); simp only [hN, Bool.false_eq_true, if_false, if_true, ↓reduceIte, decide_true, decide_false, Bool.not_true, Bool.not_false, Nat.add_zero] at hh; exact hh) ?_; refine zm rfl ?_; refine w_r (fun _ => R_extract rfl rfl) rfl rfl ?_; refine w_r (fun _ => R_extract rfl rfl) rfl rfl ?_; refine zf fa80_0 rfl ?_; refine w_store 0 rfl z5 rfl rfl rfl rfl rfl rfl rfl ?_; refine aB rfl ?_; refine yB ?_; refine zq ?_; refine c_draw mixed (by kernel_rfl) ?_; refine mB rfl ?_; refine mB rfl ?_; refine zw rfl rfl rfl ?_; refine zl z74 e1_1 (fun _ h => zc 2 rfl rfl h) ?_; refine zw rfl rfl rfl ?_; refine w_nilc rfl ?_
    refine zw rfl rfl rfl ?_; refine zf fa76_1 rfl ?_; refine zw rfl rfl rfl ?_; refine zl z3 rfl (fun _ h => zc 3 rfl rfl h) ?_; refine zw rfl rfl rfl ?_; refine zf fa80_2 rfl ?_; refine zw rfl rfl rfl ?_; refine zl z3 rfl (fun _ h => zc 0 rfl rfl h) ?_; refine zw rfl rfl rfl ?_; refine w_r (fun _ => R_gt rfl rfl) rfl rfl ?_; refine w_r (v := .bool _) (fun _ => zF rfl rfl) rfl rfl ?_; refine yB ?_; refine zD rfl (fun h4 => ?_) (fun h4 => ?_)
    ·omega
    ·refine zi ?_; refine b_on (zk ?_); refine zr ?_; refine w_r (fun _ => R_addi rfl rfl (by omega)) rfl rfl ?_; refine mI rfl ?_; refine zn ?_; refine k_rounds ?_; refine yA ?_; refine w_r (fun _ => R_lt rfl rfl) rfl rfl ?_; refine yB ?_; refine zq ?_; refine zE (congrArg Value.bool (decide_eq_true (by decide))) ?_; refine zi ?_; refine zk ?_; refine zq ?_; refine zB ?_; refine yA ?_; refine w_r (fun _ => R_aidx (i := 1) ar108 rfl rfl rfl rfl) rfl rfl ?_; refine za rfl ?_; refine yC ?_; refine zm rfl ?_; refine zl z74 e1_1 (fun _ h => zc 2 rfl rfl h) ?_
     cases hD : atP digitB s k
     ·refine w_call1 3 rfl (fun w => R_callv rfl Tryd.func60 rfl rfl) rfl rfl (fun w h => by have hh := number_spec p s _ w (h.at_ 3 rfl) hs (by omega); simp only [hD, Bool.false_eq_true, if_false, if_true, ↓reduceIte, decide_true, decide_false, Bool.not_true, Bool.not_false, Nat.add_zero] at hh; exact hh) ?_; refine zm rfl ?_; refine w_r (fun _ => R_extract rfl rfl) rfl rfl ?_; refine w_r (fun _ => R_extract rfl rfl) rfl rfl ?_; refine zf fa80_0 rfl ?_; refine w_store 0 rfl z5 rfl rfl rfl rfl rfl rfl rfl ?_; refine aB rfl ?_; refine yB ?_; refine zq ?_; refine c_draw mixed (by kernel_rfl) ?_; refine mB rfl ?_; refine mB rfl ?_; refine zw rfl rfl rfl ?_; refine zl z74 e1_1 (fun _ h => zc 2 rfl rfl h) ?_; refine zw rfl rfl rfl ?_; refine w_nilc rfl ?_
      refine zw rfl rfl rfl ?_; refine zf fa76_1 rfl ?_; refine zw rfl rfl rfl ?_; refine zl z3 rfl (fun _ h => zc 3 rfl rfl h) ?_; refine zw rfl rfl rfl ?_; refine zf fa80_2 rfl ?_; refine zw rfl rfl rfl ?_; refine zl z3 rfl (fun _ h => zc 0 rfl rfl h) ?_; refine zw rfl rfl rfl ?_; refine w_r (fun _ => R_gt rfl rfl) rfl rfl ?_; refine w_r (v := .bool _) (fun _ => zF rfl rfl) rfl rfl ?_; refine yB ?_; refine zD rfl (fun h5 => ?_) (fun h5 => ?_)
      ·omega
      ·refine zi ?_; refine b_on (zk ?_); refine zr ?_; refine w_r (fun _ => R_addi rfl rfl (by omega)) rfl rfl ?_; refine mI rfl ?_; refine zn ?_; refine k_rounds ?_; refine yA ?_; refine w_r (fun _ => R_lt rfl rfl) rfl rfl ?_; refine yB ?_; refine zq ?_; refine zE (congrArg Value.bool (decide_eq_true (by decide))) ?_; refine zi ?_; refine zk ?_; refine zq ?_; refine zB ?_; refine yA ?_; refine w_r (fun _ => R_aidx (i := 2) ar108 rfl rfl rfl rfl) rfl rfl ?_; refine za rfl ?_; refine yC ?_; refine zm rfl ?_; refine zl z74 e1_1 (fun _ h => zc 2 rfl rfl h) ?_
       rcases Classical.em (signLen s k = 0) with hS | hS
       ·refine w_call1 3 rfl (fun w => R_callv rfl Tryd.func61 rfl rfl) rfl rfl (fun w h => by have hh := sign_spec p s _ w (h.at_ 3 rfl) hs (by omega) (ht.fr (h.fr _ hB) hgl) hg; simp only [hS, Bool.false_eq_true, if_false, if_true, ↓reduceIte, decide_true, decide_false, Bool.not_true, Bool.not_false, Nat.add_zero] at hh; exact hh) ?_; refine zm rfl ?_; refine w_r (fun _ => R_extract rfl rfl) rfl rfl ?_; refine w_r (fun _ => R_extract rfl rfl) rfl rfl ?_; refine zf fa80_0 rfl ?_; refine w_store 0 rfl z5 rfl rfl rfl rfl rfl rfl rfl ?_; refine aB rfl ?_; refine yB ?_; refine zq ?_; refine c_draw mixed (by kernel_rfl) ?_; refine mB rfl ?_; refine mB rfl ?_; refine zw rfl rfl rfl ?_; refine zl z74 e1_1 (fun _ h => zc 2 rfl rfl h) ?_; refine zw rfl rfl rfl ?_; refine w_nilc rfl ?_
        refine zw rfl rfl rfl ?_; refine zf fa76_1 rfl ?_; refine zw rfl rfl rfl ?_; refine zl z3 rfl (fun _ h => zc 3 rfl rfl h) ?_; refine zw rfl rfl rfl ?_; refine zf fa80_2 rfl ?_; refine zw rfl rfl rfl ?_; refine zl z3 rfl (fun _ h => zc 0 rfl rfl h) ?_; refine zw rfl rfl rfl ?_; refine w_r (fun _ => R_gt rfl rfl) rfl rfl ?_; refine w_r (v := .bool _) (fun _ => zF rfl rfl) rfl rfl ?_; refine yB ?_; refine zD rfl (fun h6 => ?_) (fun h6 => ?_)
        ·omega
        ·refine zi ?_; refine b_on (zk ?_); refine zr ?_; refine w_r (fun _ => R_addi rfl rfl (by omega)) rfl rfl ?_; refine mI rfl ?_; refine zn ?_; refine k_rounds ?_; refine yA ?_; refine w_r (fun _ => R_lt rfl rfl) rfl rfl ?_; refine yB ?_; refine zq ?_; refine c_condF (congrArg Value.bool (decide_eq_false (by decide))) ?_; refine c_exit ?_; refine zx (zx (b_here rfl (?_)))
         have e0 : tokAt s k = (0, k, false) := by rw [tokAt, if_neg (by rw [hN]; simp), if_neg (by rw [hD]; simp), if_pos hS]
         exact k_mid ⟨e0_1, e1_1, e3_1, rfl, by rw [e0]; rfl, rfl, by rw [e0]; rfl⟩
       ·refine w_call1 3 rfl (fun w => R_callv rfl Tryd.func61 rfl rfl) rfl rfl (fun w h => by have hh := sign_spec p s _ w (h.at_ 3 rfl) hs (by omega) (ht.fr (h.fr _ hB) hgl) hg; simp only [hS, Bool.false_eq_true, if_false, if_true, ↓reduceIte, decide_true, decide_false, Bool.not_true, Bool.not_false, Nat.add_zero] at hh; exact hh) ?_; refine zm rfl ?_; refine w_r (fun _ => R_extract rfl rfl) rfl rfl ?_; refine w_r (fun _ => R_extract rfl rfl) rfl rfl ?_; refine zf fa80_0 rfl ?_; refine w_store 0 rfl z5 rfl rfl rfl rfl rfl rfl rfl ?_; refine aB rfl ?_; refine yB ?_; refine zq ?_; refine c_draw mixed (by kernel_rfl) ?_; refine mB rfl ?_
        refine mB rfl ?_; refine zs rfl rfl rfl ?_; refine zs rfl rfl rfl ?_; refine zs rfl rfl rfl ?_; refine zs rfl rfl rfl ?_; refine zs rfl rfl rfl ?_; refine zs rfl rfl rfl ?_; refine zs rfl rfl rfl ?_; refine w_r (v := .bool _) (fun _ => zT rfl rfl) rfl rfl ?_; refine yB ?_; refine zE rfl ?_; refine c_exit ?_; refine b_past rfl (zx (zx (b_here rfl (?_))))
        have e0 : tokAt s k = (3, k + signLen s k, true) := by rw [tokAt, if_neg (by rw [hN]; simp), if_neg (by rw [hD]; simp), if_neg hS]
        exact k_mid ⟨e0_1, e1_1, e3_1, rfl, by rw [e0]; rfl, rfl, by rw [e0]; rfl⟩
     ·refine w_call1 3 rfl (fun w => R_callv rfl Tryd.func60 rfl rfl) rfl rfl (fun w h => by have hh := number_spec p s _ w (h.at_ 3 rfl) hs (by omega); simp only [hD, Bool.false_eq_true, if_false, if_true, ↓reduceIte, decide_true, decide_false, Bool.not_true, Bool.not_false, Nat.add_zero] at hh; exact hh) ?_; refine zm rfl ?_; refine w_r (fun _ => R_extract rfl rfl) rfl rfl ?_; refine w_r (fun _ => R_extract rfl rfl) rfl rfl ?_; refine zf fa80_0 rfl ?_; refine w_store 0 rfl z5 rfl rfl rfl rfl rfl rfl rfl ?_; refine aB rfl ?_; refine yB ?_; refine zq ?_; refine c_draw mixed (by kernel_rfl) ?_; refine mB rfl ?_; refine mB rfl ?_; refine zp (t := 40) rfl (fun h7 => ?_) (fun h7 => ?_)
      ·refine zs rfl rfl (bV h7) ?_; refine zs rfl rfl (bV h7) ?_; refine zs rfl rfl (bV h7) ?_; refine zs rfl rfl (bV h7) ?_; refine zs rfl rfl (bV h7) ?_; refine zs rfl rfl (bV h7) ?_; refine zs rfl rfl (bV h7) ?_; refine w_r (v := .bool _) (fun _ => zT (bV h7) rfl) rfl rfl ?_; refine yB ?_; refine zE rfl ?_; refine c_exit ?_; refine b_past rfl (zx (zx (b_here rfl (?_))))
       have e0 : tokAt s k = (2, numEnd s k, true) := by rw [tokAt, if_neg (by rw [hN]; simp), if_pos hD, h7]
       exact k_mid ⟨e0_1, e1_1, e3_1, rfl, by rw [e0]; exact congrArg Value.bool h7, rfl, by rw [e0]; rfl⟩
      ·refine zw rfl rfl (bV h7) ?_; refine zl z74 e1_1 (fun _ h => zc 2 rfl rfl h) ?_; refine zw rfl rfl (bV h7) ?_; refine w_nilc rfl ?_; refine zw rfl rfl (bV h7) ?_; refine zf fa76_1 rfl ?_; refine zw rfl rfl (bV h7) ?_; refine zl z3 rfl (fun _ h => zc 3 rfl rfl h) ?_; refine zw rfl rfl (bV h7) ?_; refine zf fa80_2 rfl ?_; refine zw rfl rfl (bV h7) ?_; refine zl z3 rfl (fun _ h => zc 0 rfl rfl h) ?_; refine zw rfl rfl (bV h7) ?_; refine w_r (fun _ => R_gt rfl rfl) rfl rfl ?_; refine w_r (v := .bool _) (fun _ => zF (bV h7) rfl) rfl rfl ?_; refine yB ?_; refine zD rfl (fun h8 => ?_) (fun h8 => ?_)
       ·refine c_exit ?_; refine b_past rfl (zx (zx (b_here rfl (?_))))
        have e0 : tokAt s k = (2, numEnd s k, false) := by rw [tokAt, if_neg (by rw [hN]; simp), if_pos hD, h7]
        exact k_mid ⟨e0_1, e1_1, e3_1, rfl, by rw [e0]; exact congrArg Value.bool h7, rfl, by rw [e0]; rfl⟩
       ·exfalso; have := digit_run hD; have := numEnd_le hk; omega
   ·refine w_call1 3 rfl (fun w => R_callv rfl Tryd.func59 rfl rfl) rfl rfl (fun w h => by have hh := name_spec p s _ w (h.at_ 3 rfl) hs (by omega); simp only [hN, Bool.false_eq_true, if_false, if_true, ↓reduceIte, decide_true, decide_false, Bool.not_true, Bool.not_false, Nat.add_zero] at hh; exact hh) ?_; refine zm rfl ?_; refine w_r (fun _ => R_extract rfl rfl) rfl rfl ?_; refine w_r (fun _ => R_extract rfl rfl) rfl rfl ?_; refine zf fa80_0 rfl ?_; refine w_store 0 rfl z5 rfl rfl rfl rfl rfl rfl rfl ?_; refine aB rfl ?_; refine yB ?_; refine zq ?_; refine c_draw mixed (by kernel_rfl) ?_; refine mB rfl ?_; refine mB rfl ?_; refine zs rfl rfl rfl ?_; refine zs rfl rfl rfl ?_; refine zs rfl rfl rfl ?_; refine zs rfl rfl rfl ?_; refine zs rfl rfl rfl ?_
    refine zs rfl rfl rfl ?_; refine zs rfl rfl rfl ?_; refine w_r (v := .bool _) (fun _ => zT rfl rfl) rfl rfl ?_; refine yB ?_; refine zE rfl ?_; refine c_exit ?_; refine b_past rfl (zx (zx (b_here rfl (?_))))
    have e0 : tokAt s k = (1, runTo wordB s k, true) := by rw [tokAt, if_pos hN]
    exact k_mid ⟨e0_1, e1_1, e3_1, rfl, by rw [e0]; rfl, rfl, by rw [e0]; rfl⟩
  rintro e B L ⟨e0_2, e1_2, e3_2, e4_2, e5_2, rfl, rfl⟩
  refine zq ?_; refine c_tail 12 mixed (by kernel_rfl) ?_; refine zl z74 e1_2 (fun _ h => zc 2 rfl rfl h) ?_; refine w_nilc rfl ?_; refine zf fa76_0 rfl ?_; refine zl z9 rfl (fun _ h => zc 3 rfl rfl h) ?_; refine zf fa80_2 e4_2 ?_; refine zl z3 rfl (fun _ h => zc 0 rfl rfl h) ?_; refine zl z74 e1_2 (fun _ h => zc 2 rfl rfl h) ?_; refine w_nilc rfl ?_; refine zf fa76_1 rfl ?_; refine zl z3 rfl (fun _ h => zc 3 rfl rfl h) ?_; refine w_r (fun _ => R_sslN st9 rfl rfl rfl (by omega) (by omega)) rfl rfl ?_; refine zf fa80_1 e4_2 ?_; refine w_tailst 0 rfl z9 rfl rfl rfl rfl rfl rfl rfl ?_; refine zk ?_; refine yA ?_; refine zm e0_2 ?_; refine w_loadA z80 e4_2 (fun _ h => h.at_ 0 rfl) rfl ?_; refine mB e5_2 ?_
  refine w_yield rfl (fun w h => hy x (tokAt s k).1 (tokTx s k) k (tokAt s k).2.2 Lc ([(t4b, cel [.int .u8 ((tokAt s k).1 : Nat), str (tokTx s k), .int .i64 (k : Nat)] 80), (b1, cel [.func (.func 59) #[] #[], .func (.func 60) #[] #[], .func (.func 61) #[] #[]] 108), (vb, cel [.pointer (some ⟨p, 0, none⟩)] 74), (p, cel [str s, .int .i64 ((tokAt s k).2.1 : Nat)] 76)] ++ Lr) Bs w (tokTx_len s k hs) hJ (h.perm (perm_mid [(t4b, cel [.int .u8 ((tokAt s k).1 : Nat), str (tokTx s k), .int .i64 (k : Nat)] 80), (b1, cel [.func (.func 59) #[] #[], .func (.func 60) #[] #[], .func (.func 61) #[] #[]] 108), (vb, cel [.pointer (some ⟨p, 0, none⟩)] 74), (p, cel [str s, .int .i64 ((tokAt s k).2.1 : Nat)] 76)] Lc Lr))) ?_
  rintro w h v w' ⟨Lc2, rfl, hJ2, hs2⟩
  refine ⟨Bs, [(t4b, cel [.int .u8 ((tokAt s k).1 : Nat), str (tokTx s k), .int .i64 (k : Nat)] 80), (b1, cel [.func (.func 59) #[] #[], .func (.func 60) #[] #[], .func (.func 61) #[] #[]] 108), (vb, cel [.pointer (some ⟨p, 0, none⟩)] 74), (p, cel [str s, .int .i64 ((tokAt s k).2.1 : Nat)] 76)] ++ (Lc2 ++ Lr), hs2.perm (perm_mid [(t4b, cel [.int .u8 ((tokAt s k).1 : Nat), str (tokTx s k), .int .i64 (k : Nat)] 80), (b1, cel [.func (.func 59) #[] #[], .func (.func 60) #[] #[], .func (.func 61) #[] #[]] 108), (vb, cel [.pointer (some ⟨p, 0, none⟩)] 74), (p, cel [str s, .int .i64 ((tokAt s k).2.1 : Nat)] 76)] Lc2 Lr).symm, ?_⟩
  refine w_r (fun _ => R_not rfl) rfl rfl ?_; refine yB ?_; refine c_condN rfl (fun h9 => ?_) (fun h9 => ?_)
  ·refine ze ?_; refine zb (zt (zt (zb (?_))))
   refine r_none (.inl rfl) rfl ?_; exact fun w' hw => ⟨rfl, _, _, Lc2, by rw [← hl, lexS_end nx hlt h9]; exact hJ2, hw.drop (.cons _ (.cons _ (List.Sublist.refl _)))⟩
  ·have hgo := h9; rw [hgo] at hJ2
   refine zi ?_; refine b_on (zk ?_); refine zr ?_; refine zl z74 e1_2 (fun _ h => zc 2 rfl rfl h) ?_; refine w_call1 3 rfl (fun w => zR Tryd.func62 rfl rfl rfl) rfl rfl (fun w h => skip_spec p s _ w (h.at_ 3 rfl) hs g2.2.1) ?_; refine zn ?_; refine k_st (B' := Bs) (L' := (b1, cel [.func (.func 59) #[] #[], .func (.func 60) #[] #[], .func (.func 61) #[] #[]] 108) :: (vb, cel [.pointer (some ⟨p, 0, none⟩)] 74) :: (p, cel [str s, .int .i64 (skipTo s (tokAt s k).2.1 : Nat)] 76) :: (Lc2 ++ Lr)) (fun w h => h.drop (List.sublist_cons_self _ _)) ?_
   have g4 := g2.2.2 (fine_of nx hn hgo)
   have g5 := skipTo_le g2.2.1
   exact k_again _ (by omega) ⟨skipTo s (tokAt s k).2.1, (nx x (tokAt s k).1 (tokTx s k) k (tokAt s k).2.2).1, Lc2, e0_2, e1_2, e3_2, rfl, rfl, g5.1, hJ2, by rw [← hl, lexS_go nx hn hlt hgo], rfl⟩
 ·refine c_exit ?_; refine zx (zx (b_here rfl (?_)))
  refine r_none (.inr rfl) rfl ?_; exact fun w' hw => ⟨rfl, k, true, Lc, by rw [← hl, lexS_stop nx (by omega)]; exact hJ, hw.drop (List.sublist_cons_self _ _)⟩
end Go.Proofs.YtcmcdgkjipnfnaaDoor
end

section
namespace Go.Proofs.YtcmcdgkjipnfnaaDoor
open Go.RowKit Go.Sx
open Go.Tok
def rdPs : Array Go.Tmp := #[18, 19]
def rdAs : Go.Code := (Go.Code.seq (Go.Code.region 7 #[(Go.Oper.mk (some 7) (Go.Op.alloc 80) 0 "token.go:123" #[] none), (Go.Oper.mk none (Go.Op.store 80 (Go.Operand.tmp 7) (Go.Operand.tmp 18)) 0 "token.go:123" #[(Go.Edge.mk 0 Go.Ground.data), (Go.Edge.mk 0 Go.Ground.phase)] none)] false) (Go.Code.region 8 #[(Go.Oper.mk (some 8) (Go.Op.assign (Go.Operand.tmp 19)) 4 "token.go:123" #[] none)] false))
def rdBo : Go.Code := (Go.Code.block 1 (Go.Code.seq (Go.Code.block 2 (Go.Code.seq (Go.Code.region 9 #[(Go.Oper.mk (some 21) (Go.Op.move (Go.Operand.tmp 8)) 4 "token.go:125" #[] none), (Go.Oper.mk (some 22) (Go.Op.unOp Go.UnOp.not 4 (Go.Operand.tmp 21)) 4 "token.go:125" #[(Go.Edge.mk 0 Go.Ground.data)] none), (Go.Oper.mk (some 20) (Go.Op.assign (Go.Operand.tmp 22)) 4 "token.go:125" #[(Go.Edge.mk 1 Go.Ground.data)] none)] false) (Go.Code.cond (Go.Operand.tmp 20) (Go.Code.seq (Go.Code.region 10 #[(Go.Oper.mk (some 23) (Go.Op.fieldAddr 80 (Go.Operand.tmp 7) 2) 0 "token.go:126" #[] none), (Go.Oper.mk (some 24) (Go.Op.load 3 (Go.Operand.tmp 23)) 3 "token.go:126" #[(Go.Edge.mk 0 Go.Ground.data)] none), (Go.Oper.mk (some 25) (Go.Op.build 41 #[(0, (Go.Operand.const (Go.Value.int Go.IntKind.i64 110))), (1, (Go.Operand.tmp 24))]) 41 "token.go:126" #[(Go.Edge.mk 1 Go.Ground.data)] none), (Go.Oper.mk none (Go.Op.store 41 (Go.Operand.tmp 6) (Go.Operand.tmp 25)) 0 "token.go:126" #[(Go.Edge.mk 2 Go.Ground.data), (Go.Edge.mk 0 Go.Ground.phase), (Go.Edge.mk 1 Go.Ground.phase), (Go.Edge.mk 2 Go.Ground.phase)] none)] false) (Go.Code.exit 0)) (Go.Code.seq (Go.Code.region 11 #[(Go.Oper.mk (some 27) (Go.Op.load 39 (Go.Operand.tmp 5)) 39 "token.go:128" #[] none), (Go.Oper.mk (some 28) (Go.Op.call (Go.Call.mk (Go.Callee.builtin Go.Builtin.len) #[(Go.Operand.tmp 27)] #[39])) 3 "token.go:128" #[(Go.Edge.mk 0 Go.Ground.data)] none), (Go.Oper.mk (some 29) (Go.Op.binOp Go.BinOp.eql 3 (Go.Operand.tmp 28) (Go.Operand.const (Go.Value.int Go.IntKind.i64 6000)) 3) 4 "token.go:128" #[(Go.Edge.mk 1 Go.Ground.data)] none), (Go.Oper.mk (some 26) (Go.Op.assign (Go.Operand.tmp 29)) 4 "token.go:128" #[(Go.Edge.mk 2 Go.Ground.data)] none)] false) (Go.Code.cond (Go.Operand.tmp 26) (Go.Code.seq (Go.Code.region 12 #[(Go.Oper.mk (some 30) (Go.Op.fieldAddr 80 (Go.Operand.tmp 7) 2) 0 "token.go:129" #[] none), (Go.Oper.mk (some 31) (Go.Op.load 3 (Go.Operand.tmp 30)) 3 "token.go:129" #[(Go.Edge.mk 0 Go.Ground.data)] none), (Go.Oper.mk (some 32) (Go.Op.build 41 #[(0, (Go.Operand.const (Go.Value.int Go.IntKind.i64 6))), (1, (Go.Operand.tmp 31))]) 41 "token.go:129" #[(Go.Edge.mk 1 Go.Ground.data)] none), (Go.Oper.mk none (Go.Op.store 41 (Go.Operand.tmp 6) (Go.Operand.tmp 32)) 0 "token.go:129" #[(Go.Edge.mk 2 Go.Ground.data), (Go.Edge.mk 0 Go.Ground.phase), (Go.Edge.mk 1 Go.Ground.phase), (Go.Edge.mk 2 Go.Ground.phase)] none)] false) (Go.Code.exit 0)) Go.Code.skip))))) (Go.Code.region 13 #[(Go.Oper.mk (some 33) (Go.Op.load 39 (Go.Operand.tmp 5)) 39 "token.go:132" #[] none), (Go.Oper.mk (some 34) (Go.Op.load 80 (Go.Operand.tmp 7)) 80 "token.go:132" #[] none), (Go.Oper.mk (some 35) (Go.Op.buildSlice 39 1 #[(0, (Go.Operand.tmp 34))]) 39 "token.go:132" #[(Go.Edge.mk 1 Go.Ground.data)] none), (Go.Oper.mk (some 36) (Go.Op.call (Go.Call.mk (Go.Callee.builtin Go.Builtin.append) #[(Go.Operand.tmp 33), (Go.Operand.tmp 35)] #[39, 39])) 39 "token.go:132" #[(Go.Edge.mk 0 Go.Ground.data), (Go.Edge.mk 2 Go.Ground.data)] none), (Go.Oper.mk none (Go.Op.store 39 (Go.Operand.tmp 5) (Go.Operand.tmp 36)) 0 "token.go:132" #[(Go.Edge.mk 3 Go.Ground.data), (Go.Edge.mk 3 Go.Ground.chain), (Go.Edge.mk 0 Go.Ground.phase), (Go.Edge.mk 1 Go.Ground.phase), (Go.Edge.mk 2 Go.Ground.phase), (Go.Edge.mk 3 Go.Ground.phase)] none)] false)))

def tkC (t : Tk) : List Value := [.int .u8 (t.1 : Nat), str t.2.1, .int .i64 (t.2.2 : Nat)]
def tksC (l : List Tk) : List Value := l.flatMap tkC
abbrev Toks (v : Value) (l : List Tk) (W : Heap) : Prop := Own 80 3 v (tksC l) l.length W
theorem Toks.more {v : Value} {l : List Tk} {t : Tk} {W : Heap} (h : Own 80 3 v (tksC l ++ tkC t) (l.length + 1) W) : Toks v (l ++ [t]) W := by
  have e1 : tksC (l ++ [t]) = tksC l ++ tkC t := by simp [tksC]
  have e2 : (l ++ [t]).length = l.length + 1 := by simp
  unfold Toks; rw [e1, e2]; exact h
def rdL (t5b t6b l : Nat) (v : Value) (fc fa : Nat) (ob : Obj) (W : Heap) : Heap := (t5b, cel [v] 39) :: (t6b, cel [.int .i64 (fc : Nat), .int .i64 (fa : Nat)] 41) :: (l, ob) :: W
def rdO (e : Env) (fn : FuncId) (r : Nat) : Bool → Obj
  | true => lpO .ready none fn ⟨43, [], none⟩ e rdPs rdAs rdBo r
  | false => lpO .done (some (.exit 0)) fn ⟨43, [], none⟩ e rdPs rdAs rdBo r
def RdJ (e : Env) (fn : FuncId) (r l t5b t6b : Nat) (g : Bool) (x : Rd) (Lc : Heap) : Prop :=
  ∃ a c W, Toks (.slice a x.1.length c) x.1 W ∧ x.1.length ≤ 6000 ∧ (g = true → x.2 = (0, 0)) ∧ (g = false → x.2.1 ≠ 0) ∧ Lc = rdL t5b t6b l (.slice a x.1.length c) x.2.1 x.2.2 (rdO e fn r g) W
/-- what Read hands back -/
def RdV (r : Rd) (v : Value) (W : Heap) : Prop := ∃ a c, v = .tuple #[.slice a r.1.length c, .agg #[.int .i64 (r.2.1 : Nat), .int .i64 (r.2.2 : Nat)]] ∧ Toks (.slice a r.1.length c) r.1 W

set_option maxRecDepth 100000 in
set_option maxHeartbeats 400000 in
theorem all_spec (p : Nat) (w : World) :
    Ret Tryd.prog 35 #[.pointer (some ⟨p, 0, none⟩)] w (fun v w' => ∃ W, (∃ vb, v = .func (.func 58) #[] #[.pointer (some ⟨vb, 0, none⟩)] ∧ W = [(vb, cel [.pointer (some ⟨p, 0, none⟩)] 74)]) ∧ New w w' W) := by
  refine enter (S := No) (l := [_]) (L := []) 4 Tryd.func35 rfl rfl rfl (St.start w No) ?_; refine yA ?_; refine w_box rfl (fun vb gvb uvb => ?_)
  refine za rfl ?_; refine yC ?_; refine w_r (fun _ => R_makeFunc) rfl rfl ?_; refine za rfl ?_; refine yB ?_; refine ze ?_; refine zo rfl rfl rfl ?_; exact fun w' hw => ⟨_, ⟨vb, rfl, rfl⟩, St.made (A := []) hw⟩

set_option maxRecDepth 100000 in
set_option maxHeartbeats 400000 in
theorem Read_round (e : Env) (fn r l t5b t6b : Nat) (he5 : e 5 = .pointer (some ⟨t5b, 0, none⟩)) (he6 : e 6 = .pointer (some ⟨t6b, 0, none⟩)) : Rounds (RdJ e fn r l t5b t6b) readN l := by
  intro x k t a b Lc Lr B w htx hJ hw
  obtain ⟨a0, c0, W, hO, hx6, hxt, -, rfl⟩ := hJ
  have hx0 := hxt rfl
  refine yield_round 2 (L := rdL t5b t6b l _ _ _ _ _ ++ Lr) hw rfl rfl ?_; refine yA ?_; refine w_alloc zr80 (fun t7b gt7b ut7b => ?_)
  refine w_store 0 rfl z80 rfl rfl rfl rfl rfl rfl rfl ?_; refine yB ?_; refine zr ?_; refine aB rfl ?_; refine zn ?_; refine k_begin (l' := 0) 3 rfl ?_; refine zB ?_; refine zq ?_; refine zB ?_; refine yA ?_; refine mB rfl ?_; refine w_r (fun _ => R_not rfl) rfl rfl ?_; refine aB rfl ?_; refine yB ?_; refine c_condN rfl (fun h2 => ?_) (fun h2 => ?_)
  · refine yA ?_; refine zf fa80_2 rfl ?_; refine zl z3 rfl (fun _ h => zc 0 rfl rfl h) ?_; refine w_r (fun _ => R_build bt41 rfl) rfl rfl ?_; refine w_store 2 rfl z41 he6 rfl rfl rfl rfl rfl rfl ?_; refine yB ?_; refine c_exit ?_; refine b_past rfl (zx (b_past rfl (?_)))
    refine k_roundX 3 rfl ?_
    subst h2
    exact fun w h => ⟨_, rfl, rdL t5b t6b l (.slice a0 x.1.length c0) 110 a (rdO e fn r false) W, rfl, ⟨a0, c0, W, hO, hx6, (fun h => by cases h), fun _ => by simp [readN], rfl⟩, h.drop (List.sublist_cons_self _ _)⟩
  · refine yA ?_; refine zl z39 he5 (fun _ h => zc 1 rfl rfl h) ?_; refine w_r (fun _ => R_len sl39 rfl) rfl rfl ?_; refine w_r (fun _ => R_eq rfl rfl) rfl rfl ?_; refine aB rfl ?_; refine yB ?_; refine zD rfl (fun h3 => ?_) (fun h3 => ?_)
    · refine yA ?_; refine zf fa80_2 rfl ?_; refine zl z3 rfl (fun _ h => zc 0 rfl rfl h) ?_; refine w_r (fun _ => R_build bt41 rfl) rfl rfl ?_; refine w_store 2 rfl z41 he6 rfl rfl rfl rfl rfl rfl ?_; refine yB ?_; refine c_exit ?_; refine b_past rfl (zx (b_past rfl (?_)))
      refine k_roundX 3 rfl ?_
      subst h2
      have hN : readN x k t a true = ((x.1, 6, a), false) := by rw [readN, if_neg (by decide), if_pos (by omega)]
      exact fun w h => ⟨_, rfl, rdL t5b t6b l (.slice a0 x.1.length c0) 6 a (rdO e fn r false) W, by rw [hN], by rw [hN]; exact ⟨a0, c0, W, hO, hx6, (fun h => by cases h), fun _ => by simp [readN], rfl⟩, h.drop (List.sublist_cons_self _ _)⟩
    · refine zi ?_; refine b_on (zk ?_); refine zr ?_; refine zl z39 he5 (fun _ h => zc 1 rfl rfl h) ?_; refine w_loadA z80 rfl (fun _ h => h.at_ 0 rfl) rfl ?_; refine zS slt39 (by decide) rfl rfl (fun bs gbs ubs => ?_)
      refine w_app [(bs, _), (t7b, _), (t5b, _), (t6b, _), (l, _)] (news := tkC (k, t, a)) slt39 (by decide) rfl hO rfl rfl (row_own 0 rfl (fun _ _ h => h)) rfl (by decide) (by omega) (by omega) (fun v2 W2 hO2 => ?_)
      obtain ⟨a2, c2, rfl⟩ := hO2.slice
      refine w_store 2 rfl z39 he5 rfl rfl rfl rfl rfl rfl ?_; refine zn ?_; refine b_on (?_)
      refine k_round 4 rfl ?_
      subst h2
      have hN : readN x k t a true = ((x.1 ++ [(k, t, a)], x.2), true) := by rw [readN, if_neg (by decide), if_neg (by omega)]
      exact fun w h => ⟨_, rfl, rdL t5b t6b l (.slice a2 (x.1.length + 1) c2) x.2.1 x.2.2 (rdO e fn r true) W2, by rw [hN], by rw [hN]; exact ⟨a2, c2, W2, by simpa using Toks.more hO2, by simp; omega, fun _ => hx0, (fun h => by cases h), by simp⟩, h.drop (.cons _ (.cons _ (List.Sublist.refl _)))⟩

set_option maxRecDepth 100000 in
set_option maxHeartbeats 400000 in
theorem Read_spec (s : List UInt8) (hs : s.length ≤ 10000000) (w : World) (ht : Tb w) (hgs : 0 < w.heap.size) :
    Ret Tryd.prog 12 #[str s] w (fun v w' => ∃ W, RdV (readP s) v W ∧ New w w' W) := by
  refine enterM (S := No) (l := [_]) (L := []) 43 Tryd.func12 rfl rfl rfl (St.start w No) ?_; refine yA ?_; refine za (v := .slice _ _ _) rfl ?_; refine w_alloc zr41 (fun t3b gt3b ut3b => ?_)
  refine yB ?_; refine c_scope ?_; refine zq ?_; refine yA ?_; refine zm (v := str _) rfl ?_; refine w_r (fun _ => R_slen st9 rfl (by omega)) rfl rfl ?_; refine w_r (fun _ => R_gt rfl rfl) rfl rfl ?_; refine yB ?_; refine zD rfl (fun h2 => ?_) (fun h2 => ?_)
  · refine yA ?_; refine w_r (fun _ => R_build bt41 rfl) rfl rfl ?_; refine za (v := .slice _ _ _) rfl ?_; refine w_store 0 rfl z41 rfl rfl rfl rfl rfl rfl rfl ?_; refine yB ?_; refine ze ?_; refine zt (g_ret (?_))
    refine r_finM (.inl rfl) rfl (.tmp rfl rfl (.agg rfl rfl z41 (fun _ h => h.at_ 0 rfl) rfl .nil)) ?_; exact fun w' hw => ⟨[], by rw [readP_long (by omega)]; exact ⟨none, 0, rfl, Own.nil _ _⟩, .none (hw.fr _ (.head _))⟩
  · refine zi ?_; refine zk ?_; refine yA ?_; refine zm (v := str _) rfl ?_; refine w_r (fun _ => R_build bt76 rfl) rfl rfl ?_; refine w_boxA rfl (fun p gp up => ?_)
    refine za (v := .pointer _) rfl ?_; refine yC ?_; refine w_alloc zr39 (fun t5b gt5b ut5b => ?_)
    refine yC ?_; refine w_alloc zr41 (fun t6b gt6b ut6b => ?_)
    refine yB ?_; refine zq ?_; refine c_label ?_; refine zk ?_; refine zq ?_; refine yA ?_; refine mP rfl ?_; refine w_callW (fun w => zR Tryd.func35 rfl rfl rfl) rfl rfl (fun w _ => all_spec p w) ?_
    rintro u W0 ⟨vb, rfl, rfl⟩
    refine yB ?_; refine zB ?_; refine c_gen fun e he => ?_
    have he3 : e 3 = .pointer (some ⟨t3b, 0, none⟩) := congrFun he 3
    have he5 : e 5 = .pointer (some ⟨t5b, 0, none⟩) := congrFun he 5
    have he6 : e 6 = .pointer (some ⟨t6b, 0, none⟩) := congrFun he 6
    have he17 : e 17 = .func (.func 58) #[] #[.pointer (some ⟨vb, 0, none⟩)] := congrFun he 17
    refine c_range (f := 58) (fi := []) (ca := [.pointer (some ⟨vb, 0, none⟩)]) he17 rfl rfl rfl (fun r l fn w' => ∃ (g : Bool) (j : Nat) (Lc' : Heap), RdJ e fn r l t5b t6b g (readS s) Lc' ∧ St [(w, No)] ((vb, cel [.pointer (some ⟨p, 0, none⟩)] 74) :: (p, cel [str s, .int .i64 (j : Nat)] 76) :: (Lc' ++ [(r, .deferred (some [])), (t3b, cel [.int .i64 0, .int .i64 0] 41)])) w') ?_ ?_
    · intro fn r l hr1 hr2 hl w1 hw1
      refine (all1_spec (RdJ e fn r l t5b t6b) readN readN_no l p vb s (by omega) (Read_round e fn r l t5b t6b he5 he6) w No ht (fun h => h) (Nat.le_trans hgs (up (w, No) (.head _))) ([], 0, 0) (rdL t5b t6b l (.slice none 0 0) 0 0 (rdO e fn r true) []) [(r, .deferred (some [])), (t3b, cel [.int .i64 0, .int .i64 0] 41)] [(w, No)] (.head _) ⟨none, 0, [], Own.nil _ _, Nat.zero_le _, fun _ => rfl, (fun h => by cases h), rfl⟩ w1 (hw1.pick [2, 5, 4, 3, 0, 1, 6] (by decide))).mono ?_
      rintro v w2 ⟨rfl, j, g, Lc', hJ, hs⟩
      exact ⟨g, j, Lc', hJ, hs⟩
    · rintro fn r l hr1 hr2 hl w1 ⟨g, j, Lc', ⟨a0, c0, W, hO, h6, hg1, hg0, rfl⟩, hs⟩
      have hs2 := St.pickT [(vb, cel [.pointer (some ⟨p, 0, none⟩)] 74), (p, cel [str s, .int .i64 (j : Nat)] 76), (t5b, cel [.slice a0 (readS s).1.length c0] 39), (t6b, cel [.int .i64 ((readS s).2.1 : Nat), .int .i64 ((readS s).2.2 : Nat)] 41), (l, rdO e fn r g), (r, .deferred (some [])), (t3b, cel [.int .i64 0, .int .i64 0] 41)] (hs.perm (.cons _ (.cons _ (.cons _ (.cons _ (.cons _ List.perm_append_comm)))))) [4, 2, 3, 5, 6] (by decide)
      cases g
      · have hz : (readS s).2.1 ≠ 0 := hg0 rfl
        refine ⟨_, _, .done, some (.exit 0), (fun h => by cases h), hs2, ?_⟩
        refine c_exit ?_; refine b_here rfl (zk ?_); refine zq ?_; refine yA ?_; refine zf fa41_0 he6 ?_; refine zl z32 rfl (fun _ h => zc 2 rfl rfl h) ?_; refine w_r (fun _ => R_ne rfl rfl) rfl rfl ?_; refine yB ?_; refine zD rfl (fun h6 => ?_) (fun h6 => ?_)
        · refine zq ?_; refine c_tail 2 mixed (by kernel_rfl) ?_; refine w_loadA z41 he6 (fun _ h => h.at_ 2 rfl) rfl ?_; refine za (v := .slice _ _ _) rfl ?_; refine w_tailst 4 rfl z41 he3 rfl rfl rfl rfl rfl rfl ?_; refine zk ?_; refine ze ?_; refine zt (g_ret (?_))
          refine r_finM1 3 rfl (.inl rfl) rfl (.tmp rfl rfl (.agg rfl he3 z41 (fun _ h => h.at_ 4 rfl) rfl .nil)) ?_; exact fun w' hw => ⟨[], by rw [readP_bad (by omega) hz]; exact ⟨none, 0, rfl, Own.nil _ _⟩, .none (hw.fr _ (.head _))⟩
        · exfalso; omega
      · have hz : (readS s).2.1 = 0 := by rw [hg1 rfl]
        refine ⟨_, _, .ready, none, (fun h => by cases h), hs2, ?_⟩
        refine b_on (zk ?_); refine zq ?_; refine yA ?_; refine zf fa41_0 he6 ?_; refine zl z32 rfl (fun _ h => zc 2 rfl rfl h) ?_; refine w_r (fun _ => R_ne rfl rfl) rfl rfl ?_; refine yB ?_; refine zD rfl (fun h7 => ?_) (fun h7 => ?_)
        · exfalso; omega
        · refine zi ?_; refine zk ?_; refine yA ?_; refine zl z39 he5 (fun _ h => zc 1 rfl rfl h) ?_; refine w_r (fun _ => R_build bt41 rfl) rfl rfl ?_; refine za (v := .slice _ _ _) rfl ?_; refine w_store 4 rfl z41 he3 rfl rfl rfl rfl rfl rfl ?_; refine yB ?_; refine ze ?_; refine g_ret (?_)
          refine r_finM1 3 rfl (.inl rfl) rfl (.tmp rfl rfl (.agg rfl he3 z41 (fun _ h => h.at_ 4 rfl) rfl .nil)) ?_; exact fun w' hw => ⟨W, by rw [readP_fine (by omega) hz]; exact ⟨a0, c0, rfl, hO⟩, St.made (A := []) (hw.drop (.cons _ (.cons _ (.cons _ (.cons _ (.cons _ (List.Sublist.refl _)))))))⟩
end Go.Proofs.YtcmcdgkjipnfnaaDoor
end

section
/- The plain part of layer token: the reference's bytes. -/
namespace Go.Tok
end Go.Tok
namespace Go.Tok
theorem skip_blank {s : List UInt8} {i : Nat} (hi : i < s.length) (h : atP blankB s i = true) : skipTo s i = skipTo s (i + 1) := by
  rw [skipTo_eq (Nat.le_of_lt hi), skipTo_eq (by omega : i + 1 ≤ s.length), runTo_step h]
theorem skip_stop {s : List UInt8} {i : Nat} (hi : i ≤ s.length) (h : atP blankB s i = false) (h2 : cmt s i = false) : skipTo s i = i := by
  rw [skipTo_eq hi, runTo_stop h, if_neg (by rw [h2]; simp)]
end Go.Tok
namespace Go.Tok
def oneT : List UInt8 := [123, 125, 91, 93, 40, 41, 60, 62, 61, 43, 45, 42, 47, 126, 44, 59, 58]
end Go.Tok
end

section
namespace Go.Proofs.YtcmcdgkjipnfnaaDoor
open Go.RowKit Go.Sx
open Go.Tok
end Go.Proofs.YtcmcdgkjipnfnaaDoor
end

section
namespace Go.Proofs.YtcmcdgkjipnfnaaDoor
open Go.RowKit Go.Sx
open Go.Tok

end Go.Proofs.YtcmcdgkjipnfnaaDoor
end

section
/- The plain part of layer token: line and column. -/
namespace Go.Tok
def lineN (s : List UInt8) : Nat → Nat
  | 0 => 1
  | i + 1 => if atP (eqB 10) s i then lineN s i + 1 else lineN s i
def colN (s : List UInt8) : Nat → Nat
  | 0 => 1
  | i + 1 => if atP (eqB 10) s i then 1 else colN s i + 1
def plcK (n : Nat) (a : Int) : Nat := (if (n : Int) < (if a < 0 then 0 else a) then (n : Int) else (if a < 0 then 0 else a)).toNat
end Go.Tok
namespace Go.Tok
end Go.Tok
namespace Go.Tok
end Go.Tok
end

section
namespace Go.Proofs.YtcmcdgkjipnfnaaDoor
open Go.RowKit Go.Sx
open Go.Tok
theorem tks_at : ∀ (l : List Tk) (k : Nat) (t : Tk), l[k]? = some t → ∀ (j : Nat) u, (tkC t)[j]? = some u → (tksC l)[k * 3 + j]? = some u
  | [], _, _, h, _, _, _ => by simp at h
  | x :: l, 0, t, h, j, u, hu => by
    obtain rfl : x = t := by simpa using h
    have hj := (List.getElem?_eq_some_iff.1 hu).1
    show ((tkC x) ++ tksC l)[0 * 3 + j]? = some u
    rw [List.getElem?_append_left (by simpa using hj)]
    simpa using hu
  | x :: l, k + 1, t, h, j, u, hu => by
    have ih := tks_at l k t (by simpa using h) j u hu
    show ((tkC x) ++ tksC l)[(k + 1) * 3 + j]? = some u
    have hl : (tkC x).length = 3 := rfl
    rw [List.getElem?_append_right (by rw [hl]; omega), hl, show (k + 1) * 3 + j - 3 = k * 3 + j by omega]
    exact ih
theorem Toks.cell {l : List Tk} {a : Option Addr} {c k : Nat} {W : Heap} {w : World} (h : Toks (.slice a l.length c) l W) (hm : ∀ p ∈ W, w.heap[p.1]? = some p.2) (hk : k < l.length) : ∃ b, a = some ⟨b, 0, none⟩ ∧ ∀ (j : Nat) u, (tkC l[k])[j]? = some u → w.cell? ⟨b, 0 + k * 3 + j, none⟩ = some u := by
  obtain ⟨b, rfl, hc⟩ := Own.cellw h hk
  exact ⟨b, rfl, fun j u hu => by rw [Nat.zero_add]; exact hc w hm _ u (tks_at l k _ (by simp) j u hu)⟩

end Go.Proofs.YtcmcdgkjipnfnaaDoor
end

section
/- The plain part of layer tree: names and words; the first of a row that is so. -/
namespace Go.Tree
open Go.Tok
theorem oneB_E {k : Nat} {s : Str} (h : (readP s).2.1 ≠ 0) : oneB k s = false := by unfold oneB; rw [decide_eq_false h]; rfl
theorem oneB_len {k : Nat} {s : Str} (h : (readP s).1.length ≠ 1) : oneB k s = false := by
  unfold oneB
  rw [Bool.and_eq_false_iff]; right
  split
  · rename_i t ht; rw [ht] at h; exact absurd rfl h
  · rfl
theorem oneB_at {k : Nat} {s : Str} {t : Tk} (h0 : (readP s).2.1 = 0) (h1 : (readP s).1[0]? = some t) (hl : (readP s).1.length = 1) : oneB k s = (decide ((t.1 : Int) = (k : Int)) && decide (t.2.1 = s)) := by
  have h2 : (readP s).1 = [t] := by
    match hr : (readP s).1, hl with
    | [x], _ => rw [hr] at h1; simpa using h1
  unfold oneB
  rw [decide_eq_true h0, h2]
  have : decide (t.1 = k) = decide ((t.1 : Int) = (k : Int)) := by congr 1; apply propext; omega
  simp only [this, Bool.true_and]
/-! a name has no blank in it -/
theorem tokTx_word {s : Str} {i : Nat} (h : (tokAt s i).1 = 1) : (32 : UInt8) ∉ tokTx s i := by
  unfold tokTx
  unfold tokAt at h ⊢
  split
  · intro hm
    have e : (s.drop i).take (runTo wordB s i - i) = (s.drop i).takeWhile wordB := by
      unfold runTo
      rw [show i + ((s.drop i).takeWhile wordB).length - i = ((s.drop i).takeWhile wordB).length by omega]
      exact (List.prefix_iff_eq_take.1 (List.takeWhile_prefix wordB)).symm
    rw [e] at hm
    have := List.all_eq_true.1 (List.all_takeWhile (p := wordB) (l := s.drop i)) _ hm
    exact absurd this (by decide)
  · rename_i hn
    rw [if_neg hn] at h
    split at h
    · cases h
    · split at h <;> cases h
theorem lexF_names (s : Str) : ∀ (f i : Nat) (x : Rd), (∀ t ∈ x.1, t.1 = 1 → (32 : UInt8) ∉ t.2.1) → ∀ t ∈ (lexF readN s f i x).1, t.1 = 1 → (32 : UInt8) ∉ t.2.1
  | 0, _, x, h => h
  | f + 1, i, x, h => by
    have h2 : ∀ t ∈ (readN x (tokAt s i).1 (tokTx s i) i (tokAt s i).2.2).1.1, t.1 = 1 → (32 : UInt8) ∉ t.2.1 := by
      unfold readN
      split
      · exact h
      · split
        · exact h
        · intro t ht
          rcases List.mem_append.1 ht with ht | ht
          · exact h t ht
          · obtain rfl : t = _ := by simpa using ht
            exact fun hk => tokTx_word hk
    unfold lexF
    split
    · split
      · exact lexF_names s f _ _ h2
      · exact h2
    · exact h
theorem readP_names (s : Str) : ∀ t ∈ (readP s).1, t.1 = 1 → (32 : UInt8) ∉ t.2.1 := by
  have h : ∀ t ∈ (readS s).1, t.1 = 1 → (32 : UInt8) ∉ t.2.1 := lexF_names s _ _ _ (fun t ht => (List.not_mem_nil ht).elim)
  unfold readP
  split
  · exact fun t ht => (List.not_mem_nil ht).elim
  · split
    · exact h
    · exact fun t ht => (List.not_mem_nil ht).elim
theorem one_name {s : Str} (h : oneB 1 s = true) : (32 : UInt8) ∉ s := by
  unfold oneB at h
  rw [Bool.and_eq_true] at h
  obtain ⟨_, h2⟩ := h
  split at h2
  · rename_i t ht
    simp only [Bool.and_eq_true, decide_eq_true_eq] at h2
    have := readP_names s t (by rw [ht]; exact .head _) h2.1
    rwa [h2.2] at this
  · cases h2
theorem index_iff {sub : List UInt8} (hs : sub ≠ []) : ∀ s : List UInt8, 0 ≤ Lib.index s sub ↔ ∃ i, sub.isPrefixOf (s.drop i) = true
  | [] => by
    have : sub.isEmpty = false := by cases sub with | nil => exact absurd rfl hs | cons => rfl
    unfold Lib.index
    rw [this]
    constructor
    · intro h; exact absurd h (by decide)
    · rintro ⟨i, hi⟩
      cases sub with
      | nil => exact absurd rfl hs
      | cons a l => simp at hi
  | b :: l => by
    have ih := index_iff hs l
    have hg := Lib.index_ge l sub
    unfold Lib.index
    split
    · rename_i hp
      exact ⟨fun _ => ⟨0, by simpa using hp⟩, fun _ => Int.le_refl _⟩
    · rename_i hp
      split
      · rename_i h1
        have h1 : Lib.index l sub = -1 := by simpa using h1
        constructor
        · intro h; exact absurd h (by decide)
        · rintro ⟨i, hi⟩
          cases i with
          | zero => exact absurd (by simpa using hi) hp
          | succ i => have := ih.2 ⟨i, by simpa using hi⟩; omega
      · rename_i h1
        have h1 : ¬ Lib.index l sub = -1 := by simpa using h1
        constructor
        · intro _
          obtain ⟨i, hi⟩ := ih.1 (by omega)
          exact ⟨i + 1, by simpa using hi⟩
        · intro _; omega
theorem words_fwd : ∀ i, i < 112 → (wordsT.drop i).head? = some 32 → i = 111 ∨ wordsL.contains ((wordsT.drop (i + 1)).takeWhile (fun b => b != 32)) = true := by decide +kernel
theorem words_bwd : ∀ x ∈ wordsL, Lib.contains wordsT ([32] ++ x ++ [32]) = true := by decide +kernel
theorem words_len : wordsT.length = 112 := by decide +kernel
theorem take_while_stop (s : List UInt8) (hs : (32 : UInt8) ∉ s) (r : List UInt8) : (s ++ 32 :: r).takeWhile (fun b => b != 32) = s := by
  induction s with
  | nil => simp
  | cons a l ih =>
    have ha : a ≠ 32 := fun h => hs (by simp [h])
    have hl : (32 : UInt8) ∉ l := fun h => hs (List.mem_cons_of_mem _ h)
    rw [List.cons_append, List.takeWhile_cons, if_pos (by simpa using ha), ih hl]
theorem words_contains {s : Str} (hs : (32 : UInt8) ∉ s) : Lib.contains wordsT ([32] ++ s ++ [32]) = wordsL.contains s := by
  rw [Bool.eq_iff_iff]
  constructor
  · intro h
    unfold Lib.contains at h
    obtain ⟨i, hi⟩ := (index_iff (by simp) _).1 (of_decide_eq_true h)
    obtain ⟨r, hr⟩ := List.isPrefixOf_iff_prefix.1 hi
    have hl : i < 112 := by
      rcases Nat.lt_or_ge i 112 with h1 | h1
      · exact h1
      · rw [List.drop_eq_nil_of_le (by rw [words_len]; exact h1)] at hr; simp at hr
    have e1 : wordsT.drop i = 32 :: (s ++ 32 :: r) := by rw [← hr]; simp
    have e2 : wordsT.drop (i + 1) = s ++ 32 :: r := by
      rw [← List.drop_drop, e1]; rfl
    rcases words_fwd i hl (by rw [e1]; rfl) with h1 | h1
    · subst h1
      rw [List.drop_eq_nil_of_le (by rw [words_len]; exact Nat.le_refl _)] at e2
      simp at e2
    · rw [e2, take_while_stop s hs] at h1; exact h1
  · intro h
    exact words_bwd s (by simpa using h)
theorem nameOk_one {s : Str} (h : oneB 1 s = true) : nameOk s = !Lib.contains wordsT ([32] ++ s ++ [32]) := by
  unfold nameOk; rw [h, words_contains (one_name h)]; rfl
theorem nameOk_no {s : Str} (h : oneB 1 s = false) : nameOk s = false := by unfold nameOk; rw [h]; rfl
/-! the first that is so -/
def firstI {α : Type} (p : α → Bool) (l : List α) : Int := match l.findIdx? p with | some k => k | none => -1
theorem firstI_at {α : Type} {p : α → Bool} {l : List α} {k : Nat} {x : α} (h : ∀ y ∈ l.take k, p y = false) (hx : l[k]? = some x) (hp : p x = true) : firstI p l = k := by
  have hk := (List.getElem?_eq_some_iff.1 hx).1
  have hg := (List.getElem?_eq_some_iff.1 hx).2
  have : l.findIdx? p = some k := by
    rw [List.findIdx?_eq_some_iff_getElem]
    refine ⟨hk, by rw [hg]; exact hp, fun j hj => ?_⟩
    have := h l[j] (by rw [List.mem_take_iff_getElem]; exact ⟨j, by omega, rfl⟩)
    simp [this]
  unfold firstI; rw [this]
theorem firstI_no {α : Type} {p : α → Bool} {l : List α} (h : ∀ y ∈ l, p y = false) : firstI p l = -1 := by
  have : l.findIdx? p = none := by rw [List.findIdx?_eq_none_iff]; exact h
  unfold firstI; rw [this]
theorem firstI_ge {α : Type} (p : α → Bool) (l : List α) : decide (firstI p l ≥ 0) = l.any p := by
  unfold firstI
  cases h : l.findIdx? p with
  | none =>
    rw [List.findIdx?_eq_none_iff] at h
    have : l.any p = false := List.any_eq_false.2 (fun x hx => by simp [h x hx])
    rw [this]; rfl
  | some k =>
    rw [List.findIdx?_eq_some_iff_getElem] at h
    obtain ⟨hk, hp, _⟩ := h
    have : l.any p = true := List.any_eq_true.2 ⟨l[k], List.getElem_mem hk, hp⟩
    rw [this]
    exact decide_eq_true (Int.natCast_nonneg k)
theorem take_all {α : Type} {p : α → Bool} {l : List α} {k : Nat} {x : α} (h : ∀ y ∈ l.take k, p y = false) (hx : l[k]? = some x) (hp : p x = false) : ∀ y ∈ l.take (k + 1), p y = false := by
  obtain ⟨hk, hg⟩ := List.getElem?_eq_some_iff.1 hx
  intro y hy
  rw [List.take_succ_eq_append_getElem hk, List.mem_append, hg] at hy
  rcases hy with hy | hy
  · exact h y hy
  · obtain rfl : y = x := by simpa using hy
    exact hp
theorem look_none {α : Type} (l : List (Int × α)) (n : Int) (z : α) (h : l.all (fun p => decide (p.1 ≠ n)) = true) : (l.lookup n).getD z = z := by
  induction l with
  | nil => rfl
  | cons p l ih =>
    rw [List.all_cons, Bool.and_eq_true, decide_eq_true_eq] at h
    have h2 : (n == p.1) = false := by simpa using fun e => h.1 e.symm
    obtain ⟨q, v⟩ := p
    simp only [List.lookup, h2]
    exact ih h.2
theorem any_not {α : Type} (p : α → Bool) (l : List α) : (!l.any fun x => !p x) = l.all p := by
  induction l with
  | nil => rfl
  | cons x l ih => rw [List.any_cons, List.all_cons, ← ih]; cases p x <;> simp
theorem op_cases9 (op : Nat) : op = 1 ∨ op = 2 ∨ op = 3 ∨ op = 4 ∨ op = 5 ∨ op = 6 ∨ op = 7 ∨ op = 8 ∨ op = 9 ∨ (op = 0 ∨ 10 ≤ op) := by omega
theorem op_cases6 (op : Nat) : op = 1 ∨ op = 2 ∨ op = 3 ∨ op = 4 ∨ op = 5 ∨ op = 6 ∨ (op = 0 ∨ 7 ≤ op) := by omega
theorem srule_miss {op : Nat} (h : op = 0 ∨ 7 ≤ op) (nm : Str) (ks : List Ex) : sruleOk op nm ks = false := by
  unfold sruleOk
  split <;> first | rfl | omega
theorem cmp_int (op : Nat) : cmpOp op = (decide ((op : Int) ≥ 10) && decide ((op : Int) ≤ 15)) := by
  unfold cmpOp
  have h1 : decide (10 ≤ op) = decide ((op : Int) ≥ 10) := by congr 1; apply propext; omega
  have h2 : decide (op ≤ 15) = decide ((op : Int) ≤ 15) := by congr 1; apply propext; omega
  rw [h1, h2]
theorem rule_miss {op : Nat} (h : op = 0 ∨ 10 ≤ op) (nm : Str) (n : Nat) : ruleOk op nm n = false := by
  unfold ruleOk
  split <;> first | rfl | omega
end Go.Tree
end
