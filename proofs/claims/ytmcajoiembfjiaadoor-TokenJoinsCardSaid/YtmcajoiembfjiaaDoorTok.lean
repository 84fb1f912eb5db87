import Derived.Test.YtmcajoiembfjiaaDoorTokT
import Derived.Test.YtmcajoiembfjiaaDoorLib
import Derived.Test.YtmcajoiembfjiaaDoorTokP
namespace Go.Proofs.YtmcajoiembfjiaaDoor
open Go.RowKit Go.Sx
open Go.Tok
theorem Fields_signs (x : List UInt8) (hx : x = signsT) (w : World) (ht : Tb w) : Ret Tryd.prog 36 #[str x] w fun v w' =>
    v = .slice (some ⟨w.heap.size, 0, none⟩) 22 22 ∧ w' = w.alloc (cel (signsL.map str) 9) := by
  subst hx
  have := Fields_spec signsT w (by decide) signs_ascii ht
  rw [signs_fields] at this
  exact this
theorem sig_at {k : Nat} (h : k < 22) : (signsL.map str)[0 + k * 1]? = some (str (signsL.getD k [])) := by
  have : k < signsL.length := h
  simp [this]

set_option maxRecDepth 100000 in
set_option maxHeartbeats 400000 in
theorem is_spec (p : Nat) (s so : List UInt8) (q : UInt8 → Bool) (hq : so.contains = q) (j on : Nat) (w : World) (hp : w.heap[p]? = some (cel [str s, .int .i64 (j : Nat)] 42)) (hs : s.length ≤ 100000) (hj : j ≤ 100000) (h1 : on ≤ 10) :
    Ret Tryd.prog 34 #[.pointer (some ⟨p, 0, none⟩), str so, .int .i64 (on : Nat)] w (fun v w' => v = .bool (atP q s (j + on)) ∧ Ext w w') := by
  refine enter (S := No) (l := [_, _, _]) (L := []) 35 Tryd.func34 rfl rfl rfl (St.start w No) ?_
  refine c_seq ?_; refine c_region ?_; refine w_asg (v := .bool _) rfl ?_; refine w_nil ?_; refine k_on ?_; refine c_seq ?_; refine c_draw mixed (by kernel_rfl) ?_; refine w_move (v := .pointer _) rfl ?_
  refine w_nilc rfl ?_; refine w_fa fa42_1 rfl ?_; refine w_load z3 rfl (fun _ h => cel_oldb hp (.head _) id rfl h) ?_; refine w_move (v := .int _ _) rfl ?_; refine w_r (fun _ => R_addi rfl rfl (by omega)) rfl rfl ?_
  refine w_move (v := .pointer _) rfl ?_; refine w_nilc rfl ?_; refine w_fa fa42_0 rfl ?_; refine w_load z9 rfl (fun _ h => cel_oldb hp (.head _) id rfl h) ?_; refine w_r (fun _ => R_slen st9 rfl (by omega)) rfl rfl ?_
  refine w_r (fun _ => R_lt rfl rfl) rfl rfl ?_; refine w_move (v := .bool _) rfl ?_
  refine w_splitD (t := 19) rfl (fun h1 => ?_) (fun h1 => ?_)
  · refine w_want rfl rfl (congrArg Value.bool (decide_eq_true h1)) ?_; refine w_move (v := str _) rfl ?_; refine w_want rfl rfl (congrArg Value.bool (decide_eq_true h1)) ?_
    refine w_move (v := .pointer _) rfl ?_; refine w_want rfl rfl (congrArg Value.bool (decide_eq_true h1)) ?_; refine w_nilc rfl ?_; refine w_want rfl rfl (congrArg Value.bool (decide_eq_true h1)) ?_
    refine w_fa fa42_0 rfl ?_; refine w_want rfl rfl (congrArg Value.bool (decide_eq_true h1)) ?_; refine w_load z9 rfl (fun _ h => cel_oldb hp (.head _) id rfl h) ?_
    refine w_want rfl rfl (congrArg Value.bool (decide_eq_true h1)) ?_; refine w_move (v := .pointer _) rfl ?_; refine w_want rfl rfl (congrArg Value.bool (decide_eq_true h1)) ?_
    refine w_nilc rfl ?_; refine w_want rfl rfl (congrArg Value.bool (decide_eq_true h1)) ?_; refine w_fa fa42_1 rfl ?_; refine w_want rfl rfl (congrArg Value.bool (decide_eq_true h1)) ?_
    refine w_load z3 rfl (fun _ h => cel_oldb hp (.head _) id rfl h) ?_; refine w_want rfl rfl (congrArg Value.bool (decide_eq_true h1)) ?_; refine w_move (v := .int _ _) rfl ?_
    refine w_want rfl rfl (congrArg Value.bool (decide_eq_true h1)) ?_; refine w_r (fun _ => R_addi rfl rfl (by omega)) rfl rfl ?_; refine w_want rfl rfl (congrArg Value.bool (decide_eq_true h1)) ?_
    refine w_sidx st9 rfl rfl (by omega) ?_; refine w_want rfl rfl (congrArg Value.bool (decide_eq_true h1)) ?_; refine w_call (fun w => R_call Tryd.func38 rfl rfl rfl) rfl rfl (fun w h => IndexByte_at _ _ w) ?_
    refine w_want rfl rfl (congrArg Value.bool (decide_eq_true h1)) ?_; refine w_r (fun _ => R_ge rfl rfl) rfl rfl ?_; refine w_r (v := .bool _) (fun _ => R_pickT (congrArg Value.bool (decide_eq_true h1)) rfl) rfl rfl ?_
    refine w_asg (v := .bool _) rfl ?_; refine w_nil ?_; refine k_on ?_; refine c_ret ?_
    refine r_one (v := .bool _) rfl rfl rfl ?_
    exact fun w' hw => ⟨by subst hq; rw [atP_in (by omega), ← index_contains], hw.fr _ (.head _)⟩
  · refine w_skip rfl rfl (congrArg Value.bool (decide_eq_false h1)) ?_; refine w_skip rfl rfl (congrArg Value.bool (decide_eq_false h1)) ?_; refine w_skip rfl rfl (congrArg Value.bool (decide_eq_false h1)) ?_
    refine w_skip rfl rfl (congrArg Value.bool (decide_eq_false h1)) ?_; refine w_skip rfl rfl (congrArg Value.bool (decide_eq_false h1)) ?_; refine w_skip rfl rfl (congrArg Value.bool (decide_eq_false h1)) ?_
    refine w_skip rfl rfl (congrArg Value.bool (decide_eq_false h1)) ?_; refine w_skip rfl rfl (congrArg Value.bool (decide_eq_false h1)) ?_; refine w_skip rfl rfl (congrArg Value.bool (decide_eq_false h1)) ?_
    refine w_skip rfl rfl (congrArg Value.bool (decide_eq_false h1)) ?_; refine w_skip rfl rfl (congrArg Value.bool (decide_eq_false h1)) ?_; refine w_skip rfl rfl (congrArg Value.bool (decide_eq_false h1)) ?_
    refine w_skip rfl rfl (congrArg Value.bool (decide_eq_false h1)) ?_; refine w_skip rfl rfl (congrArg Value.bool (decide_eq_false h1)) ?_; refine w_r (v := .bool _) (fun _ => R_pickF (congrArg Value.bool (decide_eq_false h1)) rfl) rfl rfl ?_
    refine w_asg (v := .bool _) rfl ?_; refine w_nil ?_; refine k_on ?_; refine c_ret ?_
    refine r_one (v := .bool _) rfl rfl rfl ?_
    exact fun w' hw => ⟨by rw [atP_out (by omega)], hw.fr _ (.head _)⟩

set_option maxRecDepth 100000 in
set_option maxHeartbeats 400000 in
theorem run_spec (p : Nat) (s so : List UInt8) (q : UInt8 → Bool) (hq : so.contains = q) (j : Nat) (w : World) (hp : w.heap[p]? = some (cel [str s, .int .i64 (j : Nat)] 42)) (hs : s.length ≤ 100000) (hj : j ≤ s.length) :
    Ret Tryd.prog 35 #[.pointer (some ⟨p, 0, none⟩), str so] w (fun v w' => v = .int .i64 (runTo q s j - j : Nat) ∧ Fr (fun i => i = p) w w' ∧ w'.heap[p]? = some (cel [str s, .int .i64 (runTo q s j : Nat)] 42)) := by
  refine enter (S := (fun i => i = p)) (l := [_, _]) (L := [(p, cel [str s, .int .i64 (j : Nat)] 42)]) 26 Tryd.func35 rfl rfl rfl (St.start1 w hp rfl) ?_
  refine c_seq ?_; refine c_region ?_; refine w_asg (v := .int _ _) rfl ?_; refine w_nil ?_; refine k_on ?_; refine c_seq ?_; refine c_region ?_; refine w_move (v := .pointer _) rfl ?_
  refine w_nilc rfl ?_; refine w_fa fa42_1 rfl ?_; refine w_load z3 rfl (fun _ h => cel_own 0 rfl rfl h) ?_; refine w_asg (v := .int _ _) rfl ?_; refine w_nil ?_
  refine k_on ?_; refine c_seq ?_; refine c_block ?_
  refine c_loop (fun m e B L => ∃ (k : Nat), e 0 = .pointer (some ⟨p, 0, none⟩) ∧ e 1 = str so ∧ e 5 = .int .i64 (j : Nat) ∧ B = [(w, (fun i => i = p))] ∧ L = [(p, cel [str s, .int .i64 (k : Nat)] 42)] ∧ j ≤ k ∧ k ≤ s.length ∧ runTo q s k = runTo q s j ∧ m = s.length - k) _ ⟨j, rfl, rfl, rfl, rfl, rfl, by omega, by omega, rfl, rfl⟩ ?_
  rintro m e B L ⟨k, e0_1, e1_1, e5_1, rfl, rfl, p0_1, p1_1, p2_1, rfl⟩
  refine c_seq ?_; refine c_seq ?_; refine c_region ?_; refine w_move (v := .pointer _) e0_1 ?_; refine w_move (v := str _) e1_1 ?_; refine w_call (fun w => R_call Tryd.func34 rfl rfl rfl) rfl rfl (fun w h => is_spec p s _ _ hq _ 0 w (h.at_ 0 rfl) hs (by omega) (by decide)) ?_
  refine w_nil ?_; refine k_on ?_
  refine c_cond rfl (fun h1 => ?_) (fun h1 => ?_)
  · replace h1 : atP q s k = true := h1; have h2 := atP_lt h1
    refine c_skip ?_; refine k_on ?_; refine c_block ?_; refine c_region ?_; refine w_move (v := .pointer _) e0_1 ?_; refine w_nilc rfl ?_; refine w_fa fa42_1 rfl ?_; refine w_load z3 rfl (fun _ h => cel_own 0 rfl rfl h) ?_
    refine w_r (fun _ => R_addi rfl rfl (by omega)) rfl rfl ?_; refine w_nilc rfl ?_; refine w_fa fa42_1 rfl ?_; refine w_store 0 rfl z3 rfl rfl rfl rfl rfl rfl rfl ?_
    refine w_nil ?_; refine b_on (?_)
    exact k_again _ (by omega) ⟨k + 1, e0_1, e1_1, e5_1, rfl, rfl, by omega, by omega, by rw [← p2_1, runTo_step h1], rfl⟩
  · refine c_exit ?_; refine k_exit (k_exit (b_here rfl (k_on ?_))); refine c_seq ?_; refine c_region ?_; refine w_move (v := .pointer _) e0_1 ?_; refine w_nilc rfl ?_
    refine w_fa fa42_1 rfl ?_; refine w_load z3 rfl (fun _ h => cel_own 0 rfl rfl h) ?_; refine w_move (v := .int _ _) e5_1 ?_; refine w_r (fun _ => R_subi rfl rfl (by omega)) rfl rfl ?_
    refine w_asg (v := .int _ _) rfl ?_; refine w_nil ?_; refine k_on ?_; refine c_ret ?_
    replace h1 : atP q s k = false := h1
    have h2 : runTo q s j = k := by rw [← p2_1, runTo_stop h1]
    rw [h2]
    refine r_one (v := .int _ _) rfl rfl rfl ?_
    exact fun w' hw => ⟨by congr 1; omega, hw.fr _ (.head _), hw.at_ 0 rfl⟩

set_option maxRecDepth 100000 in
set_option maxHeartbeats 400000 in
theorem skip_spec (p : Nat) (s : List UInt8) (j : Nat) (w : World) (hp : w.heap[p]? = some (cel [str s, .int .i64 (j : Nat)] 42)) (hs : s.length ≤ 100000) (hj : j ≤ s.length) :
    Ret Tryd.prog 26 #[.pointer (some ⟨p, 0, none⟩)] w (fun v w' => v = .tuple #[] ∧ Fr (fun i => i = p) w w' ∧ w'.heap[p]? = some (cel [str s, .int .i64 (skipTo s j : Nat)] 42)) := by
  refine enter (S := (fun i => i = p)) (l := [_]) (L := [(p, cel [str s, .int .i64 (j : Nat)] 42)]) 46 Tryd.func26 rfl rfl rfl (St.start1 w hp rfl) ?_
  refine c_block ?_
  refine c_loop (fun m e B L => ∃ (k : Nat), e 0 = .pointer (some ⟨p, 0, none⟩) ∧ B = [(w, (fun i => i = p))] ∧ L = [(p, cel [str s, .int .i64 (k : Nat)] 42)] ∧ k ≤ s.length ∧ skipTo s k = skipTo s j ∧ m = s.length - k) _ ⟨j, rfl, rfl, rfl, by omega, rfl, rfl⟩ ?_
  rintro m e B L ⟨k, e0_1, rfl, rfl, p0_1, p1_1, rfl⟩
  have r0 := Lib.indexByte_ge (s.drop (runTo blankB s k)) 10
  have r6 := runTo_le (p := notNl) (runTo_le (p := blankB) p0_1)
  have r7 := index_run s _ (runTo_le (p := blankB) p0_1)
  have r1 := runTo_ge blankB s k
  have r2 := runTo_le (p := blankB) p0_1
  refine c_block ?_; refine c_seq ?_; refine c_region ?_; refine w_move (v := .pointer _) e0_1 ?_
  refine w_call1 0 rfl (fun w => R_call Tryd.func35 rfl rfl rfl) rfl rfl (fun w h => run_spec p s _ _ con_blanks _ w (h.at_ 0 rfl) hs (by omega)) ?_
  refine w_nil ?_; refine k_on ?_; refine c_seq ?_; refine c_seq ?_; refine c_draw mixed (by kernel_rfl) ?_; refine w_move (v := .pointer _) e0_1 ?_; refine w_nilc rfl ?_
  refine w_fa fa42_0 rfl ?_; refine w_load z9 rfl (fun _ h => cel_own 0 rfl rfl h) ?_; refine w_move (v := .pointer _) e0_1 ?_; refine w_nilc rfl ?_; refine w_fa fa42_1 rfl ?_
  refine w_load z3 rfl (fun _ h => cel_own 0 rfl rfl h) ?_; refine w_r (fun _ => R_ssl_loN st9 rfl rfl (by omega)) rfl rfl ?_; refine w_call (fun w => R_call Tryd.func37 rfl rfl rfl) rfl rfl (fun w h => HasPrefix_spec _ _ w) ?_
  refine w_r (fun _ => R_not rfl) rfl rfl ?_; refine w_nil ?_; refine k_on ?_
  refine c_condN rfl (fun h1 => ?_) (fun h1 => ?_)
  · rw [prefix_cmt] at h1
    refine c_ret ?_; refine k_ret (b_ret (k_ret (b_ret (?_))))
    refine r_none (.inl rfl) rfl ?_
    exact fun w' hw => ⟨rfl, hw.fr _ (.head _), by have := hw.at_ 0 rfl; rw [← p1_1, skipTo_eq p0_1, if_neg (by simp [h1])]; exact this⟩
  · rw [prefix_cmt] at h1
    refine c_skip ?_; refine k_on ?_; refine c_seq ?_; refine c_draw mixed (by kernel_rfl) ?_; refine w_move (v := .pointer _) e0_1 ?_; refine w_nilc rfl ?_; refine w_fa fa42_0 rfl ?_
    refine w_load z9 rfl (fun _ h => cel_own 0 rfl rfl h) ?_; refine w_move (v := .pointer _) e0_1 ?_; refine w_nilc rfl ?_; refine w_fa fa42_1 rfl ?_; refine w_load z3 rfl (fun _ h => cel_own 0 rfl rfl h) ?_
    refine w_r (fun _ => R_ssl_loN st9 rfl rfl (by omega)) rfl rfl ?_; refine w_call (fun w => R_call Tryd.func38 rfl rfl rfl) rfl rfl (fun w h => IndexByte_at _ 10 w) ?_
    refine w_asg (v := .int _ _) rfl ?_; refine w_nil ?_; refine k_on ?_; refine c_seq ?_; refine c_seq ?_; refine c_region ?_; refine w_move (v := .int _ _) rfl ?_; refine w_r (fun _ => R_lt rfl rfl) rfl rfl ?_
    refine w_nil ?_; refine k_on ?_
    refine c_condD rfl (fun h2 => ?_) (fun h2 => ?_)
    · first | rw [if_pos h2] at r7 | rw [if_neg h2] at r7
      refine c_draw mixed (by kernel_rfl) ?_; refine w_move (v := .pointer _) e0_1 ?_; refine w_nilc rfl ?_; refine w_fa fa42_0 rfl ?_; refine w_load z9 rfl (fun _ h => cel_own 0 rfl rfl h) ?_
      refine w_r (fun _ => R_slen st9 rfl (by omega)) rfl rfl ?_; refine w_move (v := .pointer _) e0_1 ?_; refine w_nilc rfl ?_; refine w_fa fa42_1 rfl ?_; refine w_load z3 rfl (fun _ h => cel_own 0 rfl rfl h) ?_
      refine w_r (fun _ => R_subi rfl rfl (by omega)) rfl rfl ?_; refine w_asg (v := .int _ _) rfl ?_; refine w_nil ?_; refine k_on ?_; refine c_region ?_; refine w_move (v := .pointer _) e0_1 ?_
      refine w_nilc rfl ?_; refine w_fa fa42_1 rfl ?_; refine w_load z3 rfl (fun _ h => cel_own 0 rfl rfl h) ?_; refine w_move (v := .int _ _) rfl ?_; refine w_r (fun _ => R_addi rfl rfl (by omega)) rfl rfl ?_
      refine w_nilc rfl ?_; refine w_fa fa42_1 rfl ?_; refine w_store 0 rfl z3 rfl rfl rfl rfl rfl rfl rfl ?_; refine w_nil ?_; refine b_on (?_)
      have r3 := cmt_run h1
      have r4 := r7
      exact k_again _ (by omega) ⟨s.length, (by first | rfl | assumption), (by first | rfl | assumption), congrArg (fun x : Int => [(p, cel [str s, .int .i64 x] 42)]) (by omega), by omega, by rw [← p1_1, skipTo_eq p0_1, if_pos h1, r4], rfl⟩
    · first | rw [if_pos h2] at r7 | rw [if_neg h2] at r7
      refine c_skip ?_; refine k_on ?_; refine c_region ?_; refine w_move (v := .pointer _) e0_1 ?_; refine w_nilc rfl ?_; refine w_fa fa42_1 rfl ?_; refine w_load z3 rfl (fun _ h => cel_own 0 rfl rfl h) ?_
      refine w_move (v := .int _ _) rfl ?_; refine w_r (fun _ => R_addi rfl rfl (by omega)) rfl rfl ?_; refine w_nilc rfl ?_; refine w_fa fa42_1 rfl ?_; refine w_store 0 rfl z3 rfl rfl rfl rfl rfl rfl rfl ?_
      refine w_nil ?_; refine b_on (?_)
      have r3 := cmt_run h1
      have r4 := r7
      exact k_again _ (by omega) ⟨runTo notNl s (runTo blankB s k), (by first | rfl | assumption), (by first | rfl | assumption), congrArg (fun x : Int => [(p, cel [str s, .int .i64 x] 42)]) (by omega), by omega, by rw [← p1_1, skipTo_eq p0_1, if_pos h1], rfl⟩

set_option maxRecDepth 100000 in
set_option maxHeartbeats 400000 in
theorem name_spec (p : Nat) (s : List UInt8) (j : Nat) (w : World) (hp : w.heap[p]? = some (cel [str s, .int .i64 (j : Nat)] 42)) (hs : s.length ≤ 100000) (hj : j ≤ s.length) :
    Ret Tryd.prog 23 #[.pointer (some ⟨p, 0, none⟩)] w (fun v w' => v = .tuple #[.int .u8 (if nameB s j then 1 else 0), .bool (nameB s j)] ∧ Fr (fun i => i = p) w w' ∧ w'.heap[p]? = some (cel [str s, .int .i64 (if nameB s j then runTo wordB s j else j : Nat)] 42)) := by
  refine enter (S := (fun i => i = p)) (l := [_]) (L := [(p, cel [str s, .int .i64 (j : Nat)] 42)]) 13 Tryd.func23 rfl rfl rfl (St.start1 w hp rfl) ?_
  refine c_seq ?_; refine c_region ?_; refine w_asg (v := .int _ _) rfl ?_; refine w_asg (v := .bool _) rfl ?_; refine w_nil ?_; refine k_on ?_; refine c_seq ?_; refine c_seq ?_
  refine c_region ?_; refine w_move (v := .pointer _) rfl ?_; refine w_call (fun w => R_call Tryd.func34 rfl rfl rfl) rfl rfl (fun w h => is_spec p s _ _ (con_one 95) _ 0 w (h.at_ 0 rfl) hs (by omega) (by decide)) ?_
  refine w_move (v := .bool _) rfl ?_
  refine w_split (t := 6) rfl (fun h1 => ?_) (fun h1 => ?_)
  · refine w_skip rfl rfl (congrArg Value.bool h1) ?_; refine w_skip rfl rfl (congrArg Value.bool h1) ?_; refine w_skip rfl rfl (congrArg Value.bool h1) ?_; refine w_r (v := .bool _) (fun _ => R_pickT (congrArg Value.bool h1) rfl) rfl rfl ?_
    refine w_nil ?_; refine k_on ?_; refine c_condT rfl ?_; refine c_seq ?_; refine c_region ?_; refine w_asg (v := .int _ _) rfl ?_; refine w_asg (v := .bool _) rfl ?_
    refine w_nil ?_; refine k_on ?_; refine c_ret ?_; refine k_ret (?_)
    have h0 : nameB s j = false := by simp only [nameB]; rw [show atP (eqB 95) s j = true from h1]; simp
    rw [h0]
    refine r_two (v := .int _ _) (v2 := .bool _) rfl rfl rfl rfl rfl ?_
    exact fun w' hw => ⟨rfl, hw.fr _ (.head _), hw.at_ 0 rfl⟩
  · refine w_want rfl rfl (congrArg Value.bool h1) ?_; refine w_move (v := .pointer _) rfl ?_; refine w_want rfl rfl (congrArg Value.bool h1) ?_; refine w_call (fun w => R_call Tryd.func34 rfl rfl rfl) rfl rfl (fun w h => is_spec p s _ _ con_letters _ 0 w (h.at_ 0 rfl) hs (by omega) (by decide)) ?_
    refine w_want rfl rfl (congrArg Value.bool h1) ?_; refine w_r (fun _ => R_not rfl) rfl rfl ?_; refine w_r (v := .bool _) (fun _ => R_pickF (congrArg Value.bool h1) rfl) rfl rfl ?_
    refine w_nil ?_; refine k_on ?_
    refine c_condN rfl (fun h2 => ?_) (fun h2 => ?_)
    · refine c_seq ?_; refine c_region ?_; refine w_asg (v := .int _ _) rfl ?_; refine w_asg (v := .bool _) rfl ?_; refine w_nil ?_; refine k_on ?_; refine c_ret ?_; refine k_ret (?_)
      have h0 : nameB s j = false := by simp only [nameB]; rw [show atP letterB s j = false from h2]; rfl
      rw [h0]
      refine r_two (v := .int _ _) (v2 := .bool _) rfl rfl rfl rfl rfl ?_
      exact fun w' hw => ⟨rfl, hw.fr _ (.head _), hw.at_ 0 rfl⟩
    · refine c_skip ?_; refine k_on ?_; refine c_seq ?_; refine c_region ?_; refine w_move (v := .pointer _) rfl ?_
      refine w_call1 0 rfl (fun w => R_call Tryd.func35 rfl rfl rfl) rfl rfl (fun w h => run_spec p s _ _ con_words _ w (h.at_ 0 rfl) hs (by omega)) ?_
      refine w_nil ?_; refine k_on ?_; refine c_seq ?_; refine c_region ?_; refine w_asg (v := .int _ _) rfl ?_; refine w_asg (v := .bool _) rfl ?_; refine w_nil ?_; refine k_on ?_
      refine c_ret ?_
      have h0 : nameB s j = true := by simp only [nameB]; rw [show atP (eqB 95) s j = false from h1, show atP letterB s j = true from h2]; rfl
      rw [h0]
      refine r_two (v := .int _ _) (v2 := .bool _) rfl rfl rfl rfl rfl ?_
      exact fun w' hw => ⟨rfl, hw.fr _ (.head _), hw.at_ 0 rfl⟩

set_option maxRecDepth 100000 in
set_option maxHeartbeats 400000 in
theorem number_spec (p : Nat) (s : List UInt8) (j : Nat) (w : World) (hp : w.heap[p]? = some (cel [str s, .int .i64 (j : Nat)] 42)) (hs : s.length ≤ 100000) (hj : j ≤ s.length) :
    Ret Tryd.prog 24 #[.pointer (some ⟨p, 0, none⟩)] w (fun v w' => v = .tuple #[.int .u8 (if atP digitB s j then 2 else 0), .bool (if atP digitB s j then numFine s j else false)] ∧ Fr (fun i => i = p) w w' ∧ w'.heap[p]? = some (cel [str s, .int .i64 (if atP digitB s j then numEnd s j else j : Nat)] 42)) := by
  have g1 := runTo_le (p := digitB) hj
  have g2 := runTo_ge digitB s j
  refine enter (S := (fun i => i = p)) (l := [_]) (L := [(p, cel [str s, .int .i64 (j : Nat)] 42)]) 66 Tryd.func24 rfl rfl rfl (St.start1 w hp rfl) ?_
  refine c_seq ?_; refine c_region ?_; refine w_asg (v := .int _ _) rfl ?_; refine w_asg (v := .bool _) rfl ?_; refine w_nil ?_; refine k_on ?_; refine c_seq ?_; refine c_seq ?_
  refine c_region ?_; refine w_move (v := .pointer _) rfl ?_
  refine w_call1 0 rfl (fun w => R_call Tryd.func35 rfl rfl rfl) rfl rfl (fun w h => run_spec p s _ _ con_digits _ w (h.at_ 0 rfl) hs (by omega)) ?_
  refine w_r (fun _ => R_eq rfl rfl) rfl rfl ?_; refine w_nil ?_; refine k_on ?_
  refine c_condD rfl (fun h1 => ?_) (fun h1 => ?_)
  · (try simp only [Nat.add_zero] at h1); (try have qh1 := atP_lt h1)
    have g0 := run_zero digitB s j
    refine c_seq ?_; refine c_region ?_; refine w_asg (v := .int _ _) rfl ?_; refine w_asg (v := .bool _) rfl ?_; refine w_nil ?_; refine k_on ?_; refine c_ret ?_; refine k_ret (?_)
    have g5 : atP digitB s j = false := by rw [← g0]; omega
    rw [g5]
    refine r_two (v := .int _ _) (v2 := .bool _) rfl rfl rfl rfl rfl ?_
    exact fun w' hw => ⟨rfl, hw.fr _ (.head _), by have := hw.at_ 0 rfl; rw [runTo_stop g5] at this; exact this⟩
  · (try simp only [Nat.add_zero] at h1)
    have g0 := run_zero digitB s j
    refine c_skip ?_; refine k_on ?_
    refine c_cut (fun e B L => e 0 = .pointer (some ⟨p, 0, none⟩) ∧ B = [(w, (fun i => i = p))] ∧ L = [(p, cel [str s, .int .i64 (numDot s (runTo digitB s j) : Nat)] 42)]) ?_ ?_
    · (try simp only [Nat.add_zero] at mid1); (try have qmid1 := atP_lt mid1)
      refine c_seq ?_; refine c_region ?_; refine w_move (v := .pointer _) rfl ?_; refine w_call (fun w => R_call Tryd.func34 rfl rfl rfl) rfl rfl (fun w h => is_spec p s _ _ (con_one 46) _ 0 w (h.at_ 0 rfl) hs (by omega) (by decide)) ?_
      refine w_move (v := .bool _) rfl ?_
      refine w_split (t := 10) rfl (fun h2 => ?_) (fun h2 => ?_)
      · (try simp only [Nat.add_zero] at h2); (try have qh2 := atP_lt h2)
        refine w_want rfl rfl (congrArg Value.bool h2) ?_; refine w_move (v := .pointer _) rfl ?_; refine w_want rfl rfl (congrArg Value.bool h2) ?_; refine w_call (fun w => R_call Tryd.func34 rfl rfl rfl) rfl rfl (fun w h => is_spec p s _ _ con_digits _ 1 w (h.at_ 0 rfl) hs (by omega) (by decide)) ?_
        refine w_r (v := .bool _) (fun _ => R_pickT (congrArg Value.bool h2) rfl) rfl rfl ?_; refine w_nil ?_; refine k_on ?_
        refine c_cond rfl (fun h3 => ?_) (fun h3 => ?_)
        · (try simp only [Nat.add_zero] at h3); (try have qh3 := atP_lt h3)
          refine c_seq ?_; refine c_region ?_; refine w_move (v := .pointer _) rfl ?_; refine w_nilc rfl ?_; refine w_fa fa42_1 rfl ?_; refine w_load z3 rfl (fun _ h => cel_own 0 rfl rfl h) ?_
          refine w_r (fun _ => R_addi rfl rfl (by omega)) rfl rfl ?_; refine w_nilc rfl ?_; refine w_fa fa42_1 rfl ?_; refine w_store 0 rfl z3 rfl rfl rfl rfl rfl rfl rfl ?_
          refine w_nil ?_; refine k_on ?_; refine c_region ?_; refine w_move (v := .pointer _) rfl ?_
          refine w_call1 0 rfl (fun w => R_call Tryd.func35 rfl rfl rfl) rfl rfl (fun w h => run_spec p s _ _ con_digits ((runTo digitB s j) + 1) w (h.at_ 0 rfl) hs (by omega)) ?_
          refine w_nil ?_
          exact k_mid ⟨rfl, rfl, by rw [numDot, if_pos (by rw [h2, h3]; rfl)]; rfl⟩
        · (try simp only [Nat.add_zero] at h3)
          refine c_skip ?_
          exact k_mid ⟨rfl, rfl, by rw [numDot, if_neg (by rw [h2, h3]; simp)]; rfl⟩
      · (try simp only [Nat.add_zero] at h2)
        refine w_skip rfl rfl (congrArg Value.bool h2) ?_; refine w_skip rfl rfl (congrArg Value.bool h2) ?_; refine w_r (v := .bool _) (fun _ => R_pickF (congrArg Value.bool h2) rfl) rfl rfl ?_
        refine w_nil ?_; refine k_on ?_; refine c_condF rfl ?_; refine c_skip ?_
        exact k_mid ⟨rfl, rfl, by rw [numDot, if_neg (by rw [h2]; simp)]; rfl⟩
    rintro e B L ⟨e0_1, rfl, rfl⟩
    have g3 := numDot_le (runTo_le (p := digitB) hj)
    refine c_seq ?_; refine c_region ?_; refine w_asg (v := .int _ _) rfl ?_; refine w_nil ?_; refine k_on ?_
    refine c_cut (fun e B L => e 0 = .pointer (some ⟨p, 0, none⟩) ∧ e 4 = .int .i64 ((numTens s (numDot s (runTo digitB s j))).1 : Nat) ∧ B = [(w, (fun i => i = p))] ∧ L = [(p, cel [str s, .int .i64 ((numTens s (numDot s (runTo digitB s j))).2 : Nat)] 42)]) ?_ ?_
    · (try simp only [Nat.add_zero] at mid2); (try have qmid2 := atP_lt mid2)
      refine c_block ?_; refine c_seq ?_; refine c_region ?_; refine w_move (v := .pointer _) e0_1 ?_; refine w_call (fun w => R_call Tryd.func34 rfl rfl rfl) rfl rfl (fun w h => is_spec p s _ _ (con_one 101) _ 0 w (h.at_ 0 rfl) hs (by omega) (by decide)) ?_
      refine w_move (v := .bool _) rfl ?_
      refine w_split (t := 26) rfl (fun h4 => ?_) (fun h4 => ?_)
      · (try simp only [Nat.add_zero] at h4); (try have qh4 := atP_lt h4)
        refine w_want rfl rfl (congrArg Value.bool h4) ?_; refine w_move (v := .pointer _) e0_1 ?_; refine w_want rfl rfl (congrArg Value.bool h4) ?_; refine w_call (fun w => R_call Tryd.func34 rfl rfl rfl) rfl rfl (fun w h => is_spec p s _ _ con_digits _ 1 w (h.at_ 0 rfl) hs (by omega) (by decide)) ?_
        refine w_r (v := .bool _) (fun _ => R_pickT (congrArg Value.bool h4) rfl) rfl rfl ?_; refine w_asg (v := .bool _) rfl ?_; refine w_nil ?_; refine k_on ?_
        refine c_cond rfl (fun h5 => ?_) (fun h5 => ?_)
        · (try simp only [Nat.add_zero] at h5); (try have qh5 := atP_lt h5)
          refine c_seq ?_; refine c_region ?_; refine w_move (v := .pointer _) e0_1 ?_; refine w_nilc rfl ?_; refine w_fa fa42_1 rfl ?_; refine w_load z3 rfl (fun _ h => cel_own 0 rfl rfl h) ?_
          refine w_r (fun _ => R_addi rfl rfl (by omega)) rfl rfl ?_; refine w_nilc rfl ?_; refine w_fa fa42_1 rfl ?_; refine w_store 0 rfl z3 rfl rfl rfl rfl rfl rfl rfl ?_
          refine w_nil ?_; refine k_on ?_; refine c_region ?_; refine w_move (v := .pointer _) e0_1 ?_
          refine w_call1 0 rfl (fun w => R_call Tryd.func35 rfl rfl rfl) rfl rfl (fun w h => run_spec p s _ _ con_digits ((numDot s (runTo digitB s j)) + 1) w (h.at_ 0 rfl) hs (by omega)) ?_
          refine w_asg (v := .int _ _) rfl ?_; refine w_nil ?_; refine b_on (?_)
          have e4 : numTens s (numDot s (runTo digitB s j)) = (runTo digitB s ((numDot s (runTo digitB s j)) + 1) - ((numDot s (runTo digitB s j)) + 1), runTo digitB s ((numDot s (runTo digitB s j)) + 1)) := by rw [numTens, if_pos (by rw [h4, h5]; rfl)]
          exact k_mid ⟨e0_1, by rw [e4]; first | done | rfl, rfl, by rw [e4]; first | done | rfl⟩
        · (try simp only [Nat.add_zero] at h5)
          refine c_seq ?_; refine c_region ?_; refine w_move (v := .pointer _) e0_1 ?_; refine w_call (fun w => R_call Tryd.func34 rfl rfl rfl) rfl rfl (fun w h => is_spec p s _ _ (con_one 101) _ 0 w (h.at_ 0 rfl) hs (by omega) (by decide)) ?_
          refine w_move (v := .bool _) rfl ?_
          refine w_split (t := 42) rfl (fun h6 => ?_) (fun h6 => ?_)
          · (try simp only [Nat.add_zero] at h6); (try have qh6 := atP_lt h6)
            refine w_want rfl rfl (congrArg Value.bool h6) ?_; refine w_move (v := .pointer _) e0_1 ?_; refine w_want rfl rfl (congrArg Value.bool h6) ?_; refine w_call (fun w => R_call Tryd.func34 rfl rfl rfl) rfl rfl (fun w h => is_spec p s _ _ con_pm _ 1 w (h.at_ 0 rfl) hs (by omega) (by decide)) ?_
            refine w_r (v := .bool _) (fun _ => R_pickT (congrArg Value.bool h6) rfl) rfl rfl ?_; refine w_move (v := .bool _) rfl ?_
            refine w_split (t := 46) rfl (fun h7 => ?_) (fun h7 => ?_)
            · (try simp only [Nat.add_zero] at h7); (try have qh7 := atP_lt h7)
              refine w_want rfl rfl (congrArg Value.bool h7) ?_; refine w_move (v := .pointer _) e0_1 ?_; refine w_want rfl rfl (congrArg Value.bool h7) ?_; refine w_call (fun w => R_call Tryd.func34 rfl rfl rfl) rfl rfl (fun w h => is_spec p s _ _ con_digits _ 2 w (h.at_ 0 rfl) hs (by omega) (by decide)) ?_
              refine w_r (v := .bool _) (fun _ => R_pickT (congrArg Value.bool h7) rfl) rfl rfl ?_; refine w_asg (v := .bool _) rfl ?_; refine w_nil ?_; refine k_on ?_
              refine c_cond rfl (fun h8 => ?_) (fun h8 => ?_)
              · (try simp only [Nat.add_zero] at h8); (try have qh8 := atP_lt h8)
                refine c_seq ?_; refine c_region ?_; refine w_move (v := .pointer _) e0_1 ?_; refine w_nilc rfl ?_; refine w_fa fa42_1 rfl ?_; refine w_load z3 rfl (fun _ h => cel_own 0 rfl rfl h) ?_
                refine w_r (fun _ => R_addi rfl rfl (by omega)) rfl rfl ?_; refine w_nilc rfl ?_; refine w_fa fa42_1 rfl ?_; refine w_store 0 rfl z3 rfl rfl rfl rfl rfl rfl rfl ?_
                refine w_nil ?_; refine k_on ?_; refine c_region ?_; refine w_move (v := .pointer _) e0_1 ?_
                refine w_call1 0 rfl (fun w => R_call Tryd.func35 rfl rfl rfl) rfl rfl (fun w h => run_spec p s _ _ con_digits ((numDot s (runTo digitB s j)) + 2) w (h.at_ 0 rfl) hs (by omega)) ?_
                refine w_asg (v := .int _ _) rfl ?_; refine w_nil ?_; refine b_on (?_)
                have e4 : numTens s (numDot s (runTo digitB s j)) = (runTo digitB s ((numDot s (runTo digitB s j)) + 2) - ((numDot s (runTo digitB s j)) + 2), runTo digitB s ((numDot s (runTo digitB s j)) + 2)) := by rw [numTens, if_neg (by rw [h4, h5]; simp), if_pos (by rw [h6, h7, h8]; rfl)]
                exact k_mid ⟨e0_1, by rw [e4]; first | done | rfl, rfl, by rw [e4]; first | done | rfl⟩
              · (try simp only [Nat.add_zero] at h8)
                refine c_skip ?_; refine b_on (?_)
                have e4 : numTens s (numDot s (runTo digitB s j)) = (0, (numDot s (runTo digitB s j))) := by rw [numTens, if_neg (by rw [h4, h5]; simp), if_neg (by rw [h6, h7, h8]; simp)]
                exact k_mid ⟨e0_1, by rw [e4]; first | done | rfl, rfl, by rw [e4]; first | done | rfl⟩
            · (try simp only [Nat.add_zero] at h7)
              refine w_skip rfl rfl (congrArg Value.bool h7) ?_; refine w_skip rfl rfl (congrArg Value.bool h7) ?_; refine w_r (v := .bool _) (fun _ => R_pickF (congrArg Value.bool h7) rfl) rfl rfl ?_
              refine w_asg (v := .bool _) rfl ?_; refine w_nil ?_; refine k_on ?_; refine c_condF rfl ?_; refine c_skip ?_; refine b_on (?_)
              have e4 : numTens s (numDot s (runTo digitB s j)) = (0, (numDot s (runTo digitB s j))) := by rw [numTens, if_neg (by rw [h4, h5]; simp), if_neg (by rw [h6, h7]; simp)]
              exact k_mid ⟨e0_1, by rw [e4]; first | done | rfl, rfl, by rw [e4]; first | done | rfl⟩
          · (try simp only [Nat.add_zero] at h6)
            refine w_skip rfl rfl (congrArg Value.bool h6) ?_; refine w_skip rfl rfl (congrArg Value.bool h6) ?_; refine w_r (v := .bool _) (fun _ => R_pickF (congrArg Value.bool h6) rfl) rfl rfl ?_
            refine w_move (v := .bool _) rfl ?_; refine w_skip rfl rfl rfl ?_; refine w_skip rfl rfl rfl ?_; refine w_r (v := .bool _) (fun _ => R_pickF rfl rfl) rfl rfl ?_
            refine w_asg (v := .bool _) rfl ?_; refine w_nil ?_; refine k_on ?_; refine c_condF rfl ?_; refine c_skip ?_; refine b_on (?_)
            have e4 : numTens s (numDot s (runTo digitB s j)) = (0, (numDot s (runTo digitB s j))) := by rw [numTens, if_neg (by rw [h4, h5]; simp), if_neg (by rw [h6]; simp)]
            exact k_mid ⟨e0_1, by rw [e4]; first | done | rfl, rfl, by rw [e4]; first | done | rfl⟩
      · (try simp only [Nat.add_zero] at h4)
        refine w_skip rfl rfl (congrArg Value.bool h4) ?_; refine w_skip rfl rfl (congrArg Value.bool h4) ?_; refine w_r (v := .bool _) (fun _ => R_pickF (congrArg Value.bool h4) rfl) rfl rfl ?_
        refine w_asg (v := .bool _) rfl ?_; refine w_nil ?_; refine k_on ?_; refine c_condF rfl ?_; refine c_seq ?_; refine c_region ?_; refine w_move (v := .pointer _) e0_1 ?_
        refine w_call (fun w => R_call Tryd.func34 rfl rfl rfl) rfl rfl (fun w h => is_spec p s _ _ (con_one 101) _ 0 w (h.at_ 0 rfl) hs (by omega) (by decide)) ?_
        refine w_move (v := .bool _) rfl ?_
        refine w_split (t := 42) rfl (fun h9 => ?_) (fun h9 => ?_)
        · rw [Nat.add_zero] at h9; rw [h4] at h9; cases h9
        · (try simp only [Nat.add_zero] at h9)
          refine w_skip rfl rfl (congrArg Value.bool h9) ?_; refine w_skip rfl rfl (congrArg Value.bool h9) ?_; refine w_r (v := .bool _) (fun _ => R_pickF (congrArg Value.bool h9) rfl) rfl rfl ?_
          refine w_move (v := .bool _) rfl ?_; refine w_skip rfl rfl rfl ?_; refine w_skip rfl rfl rfl ?_; refine w_r (v := .bool _) (fun _ => R_pickF rfl rfl) rfl rfl ?_
          refine w_asg (v := .bool _) rfl ?_; refine w_nil ?_; refine k_on ?_; refine c_condF rfl ?_; refine c_skip ?_; refine b_on (?_)
          have e4 : numTens s (numDot s (runTo digitB s j)) = (0, (numDot s (runTo digitB s j))) := by rw [numTens, if_neg (by rw [h4]; simp), if_neg (by rw [h4]; simp)]
          exact k_mid ⟨e0_1, by rw [e4]; first | done | rfl, rfl, by rw [e4]; first | done | rfl⟩
    rintro e B L ⟨e0_2, e4_2, rfl, rfl⟩
    have g4 := numTens_le g3.1
    refine c_seq ?_; refine c_region ?_; refine w_move (v := .int _ _) e4_2 ?_; refine w_r (fun _ => R_le rfl rfl) rfl rfl ?_; refine w_move (v := .bool _) rfl ?_
    refine w_splitD (t := 61) rfl (fun h10 => ?_) (fun h10 => ?_)
    · (try simp only [Nat.add_zero] at h10); (try have qh10 := atP_lt h10)
      refine w_want rfl rfl (congrArg Value.bool (decide_eq_true h10)) ?_; refine w_move (v := .pointer _) e0_2 ?_; refine w_want rfl rfl (congrArg Value.bool (decide_eq_true h10)) ?_
      refine w_call (fun w => R_call Tryd.func34 rfl rfl rfl) rfl rfl (fun w h => is_spec p s _ _ con_tails _ 0 w (h.at_ 0 rfl) hs (by omega) (by decide)) ?_
      refine w_want rfl rfl (congrArg Value.bool (decide_eq_true h10)) ?_; refine w_r (fun _ => R_not rfl) rfl rfl ?_; refine w_r (v := .bool _) (fun _ => R_pickT (congrArg Value.bool (decide_eq_true h10)) rfl) rfl rfl ?_
      refine w_asg (v := .int _ _) rfl ?_; refine w_asg (v := .bool _) rfl ?_; refine w_nil ?_; refine k_on ?_; refine c_ret ?_
      have g5 : atP digitB s j = true := by cases hc : atP digitB s j; exact absurd (g0.mpr hc) (by omega); rfl
      have g6 : numFine s j = !atP tailB s (numEnd s j) := by rw [numFine, decide_eq_true (by omega)]; rfl
      rw [g5, if_pos rfl, if_pos rfl, if_pos rfl, g6]
      refine r_two (v := .int _ _) (v2 := .bool _) rfl rfl rfl rfl rfl ?_
      exact fun w' hw => ⟨rfl, hw.fr _ (.head _), hw.at_ 0 rfl⟩
    · (try simp only [Nat.add_zero] at h10)
      refine w_skip rfl rfl (congrArg Value.bool (decide_eq_false h10)) ?_; refine w_skip rfl rfl (congrArg Value.bool (decide_eq_false h10)) ?_; refine w_skip rfl rfl (congrArg Value.bool (decide_eq_false h10)) ?_
      refine w_r (v := .bool _) (fun _ => R_pickF (congrArg Value.bool (decide_eq_false h10)) rfl) rfl rfl ?_; refine w_asg (v := .int _ _) rfl ?_; refine w_asg (v := .bool _) rfl ?_
      refine w_nil ?_; refine k_on ?_; refine c_ret ?_
      have g5 : atP digitB s j = true := by cases hc : atP digitB s j; exact absurd (g0.mpr hc) (by omega); rfl
      have g6 : numFine s j = false := by rw [numFine, decide_eq_false (by omega)]; rfl
      rw [g5, if_pos rfl, if_pos rfl, if_pos rfl, g6]
      refine r_two (v := .int _ _) (v2 := .bool _) rfl rfl rfl rfl rfl ?_
      exact fun w' hw => ⟨rfl, hw.fr _ (.head _), hw.at_ 0 rfl⟩

set_option maxRecDepth 100000 in
set_option maxHeartbeats 400000 in
theorem sign_spec (p : Nat) (s : List UInt8) (j : Nat) (w : World) (hp : w.heap[p]? = some (cel [str s, .int .i64 (j : Nat)] 42)) (hs : s.length ≤ 100000) (hj : j ≤ s.length) (ht : Tb w) (hg : 1 < p) :
    Ret Tryd.prog 25 #[.pointer (some ⟨p, 0, none⟩)] w (fun v w' => v = .tuple #[.int .u8 (if signLen s j = 0 then 0 else 3), .bool (!decide (signLen s j = 0))] ∧ Fr (fun i => i = p) w w' ∧ w'.heap[p]? = some (cel [str s, .int .i64 (j + signLen s j : Nat)] 42)) := by
  refine enter (S := (fun i => i = p)) (l := [_]) (L := [(p, cel [str s, .int .i64 (j : Nat)] 42)]) 33 Tryd.func25 rfl rfl rfl (St.start1 w hp rfl) ?_
  refine c_seq ?_; refine c_region ?_; refine w_asg (v := .int _ _) rfl ?_; refine w_asg (v := .bool _) rfl ?_; refine w_nil ?_; refine k_on ?_; refine c_seq ?_; refine c_seq ?_
  refine c_region ?_
  refine w_callN (g := fun b => .slice (some ⟨b, 0, none⟩) 22 22) (fun w => R_call Tryd.func36 rfl rfl rfl) rfl rfl (fun w h => Fields_signs _ rfl w (ht.fr (h.fr _ (.head _)) (by intro hh; omega))) (fun fb gfb ufb => ?_)
  refine w_r (fun _ => R_len sl56 rfl) rfl rfl ?_; refine w_move (v := .int _ _) rfl ?_; refine w_nil ?_; refine k_on ?_; refine c_block ?_
  refine c_loop (fun m e B L => ∃ (k : Nat), e 0 = .pointer (some ⟨p, 0, none⟩) ∧ e 6 = .slice (some ⟨fb, 0, none⟩) 22 22 ∧ e 7 = .int .i64 22 ∧ e 8 = .int .i64 (k : Nat) ∧ B = [(w, (fun i => i = p))] ∧ L = [(fb, cel (signsL.map str) 9), (p, cel [str s, .int .i64 (j : Nat)] 42)] ∧ k ≤ 22 ∧ (signsL.take k).find? (fun t => t.isPrefixOf (s.drop j)) = none ∧ m = 22 - k) _ ⟨0, rfl, rfl, rfl, rfl, rfl, rfl, by omega, rfl, rfl⟩ ?_
  rintro m e B L ⟨k, e0_1, e6_1, e7_1, e8_1, rfl, rfl, p0_1, p1_1, rfl⟩
  have r1 := sig_len k
  refine c_seq ?_; refine c_region ?_; refine w_r (fun _ => R_lt e8_1 e7_1) rfl rfl ?_; refine w_nil ?_; refine k_on ?_; refine c_seq ?_
  refine c_condD rfl (fun h1 => ?_) (fun h1 => ?_)
  · refine c_skip ?_; refine k_on ?_; refine c_seq ?_; refine c_block ?_; refine c_seq ?_; refine c_region ?_; refine w_r (fun _ => R_iaN (i := k) sl56 e6_1 e8_1 (by first | omega | decide)) rfl rfl ?_
    refine w_load z9 rfl (fun _ h => by first | exact cel_own 0 rfl rfl h | exact cel_own 1 rfl rfl h | exact cel_own 0 rfl (sig_at (by omega)) h) ?_; refine w_asg (v := str _) rfl ?_
    refine w_nil ?_; refine k_on ?_; refine c_seq ?_; refine c_draw mixed (by kernel_rfl) ?_; refine w_move (v := .pointer _) e0_1 ?_; refine w_nilc rfl ?_; refine w_fa fa42_0 rfl ?_
    refine w_load z9 rfl (fun _ h => cel_own 1 rfl rfl h) ?_; refine w_move (v := .pointer _) e0_1 ?_; refine w_nilc rfl ?_; refine w_fa fa42_1 rfl ?_; refine w_load z3 rfl (fun _ h => cel_own 1 rfl rfl h) ?_
    refine w_r (fun _ => R_ssl_loN st9 rfl rfl (by omega)) rfl rfl ?_; refine w_move (v := str _) rfl ?_; refine w_call (fun w => R_call Tryd.func37 rfl rfl rfl) rfl rfl (fun w h => HasPrefix_spec _ _ w) ?_
    refine w_nil ?_; refine k_on ?_
    refine c_cond rfl (fun h2 => ?_) (fun h2 => ?_)
    · refine c_seq ?_; refine c_region ?_; refine w_move (v := .pointer _) e0_1 ?_; refine w_nilc rfl ?_; refine w_fa fa42_1 rfl ?_; refine w_load z3 rfl (fun _ h => cel_own 1 rfl rfl h) ?_
      refine w_move (v := str _) rfl ?_; refine w_r (fun _ => R_slen st9 rfl (by omega)) rfl rfl ?_; refine w_r (fun _ => R_addi rfl rfl (by omega)) rfl rfl ?_; refine w_nilc rfl ?_
      refine w_fa fa42_1 rfl ?_; refine w_store 1 rfl z3 rfl rfl rfl rfl rfl rfl rfl ?_; refine w_nil ?_; refine k_on ?_; refine c_seq ?_; refine c_region ?_; refine w_asg (v := .int _ _) rfl ?_
      refine w_asg (v := .bool _) rfl ?_; refine w_nil ?_; refine k_on ?_; refine c_ret ?_; refine b_ret (k_ret (k_ret (b_ret (k_ret (?_)))))
      have r2 := sig_found (by omega) p1_1 h2
      rw [r2]
      refine r_two (v := .int _ _) (v2 := .bool _) rfl rfl rfl rfl rfl ?_
      exact fun w' hw => ⟨by rw [if_neg (by have := sig_pos k (by omega); omega), decide_eq_false (by have := sig_pos k (by omega); omega)]; rfl, hw.fr _ (.head _), hw.at_ 1 rfl⟩
    · refine c_skip ?_; refine b_on (k_on ?_); refine c_region ?_; refine w_r (fun _ => R_addi e8_1 rfl (by omega)) rfl rfl ?_; refine w_move (v := .int _ _) rfl ?_; refine w_nil ?_
      exact k_again _ (by omega) ⟨k + 1, e0_1, e6_1, e7_1, rfl, rfl, rfl, by omega, sig_step (by omega) p1_1 h2, rfl⟩
  · refine c_exit ?_; refine k_exit (k_exit (b_here rfl (k_on ?_))); refine c_seq ?_; refine c_region ?_; refine w_asg (v := .int _ _) rfl ?_; refine w_asg (v := .bool _) rfl ?_
    refine w_nil ?_; refine k_on ?_; refine c_ret ?_
    have r2 := sig_none (by omega) p1_1
    rw [r2]
    refine r_two (v := .int _ _) (v2 := .bool _) rfl rfl rfl rfl rfl ?_
    exact fun w' hw => ⟨rfl, hw.fr _ (.head _), hw.at_ 1 rfl⟩
end Go.Proofs.YtmcajoiembfjiaaDoor
