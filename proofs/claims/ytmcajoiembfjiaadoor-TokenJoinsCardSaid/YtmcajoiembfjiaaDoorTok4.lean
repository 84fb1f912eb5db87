import Derived.Test.YtmcajoiembfjiaaDoorTok4T
import Derived.Test.YtmcajoiembfjiaaDoorTokg
import Derived.Test.YtmcajoiembfjiaaDoorTokG
namespace Go.Proofs.YtmcajoiembfjiaaDoor
open Go.RowKit Go.Sx
open Go.Tok
theorem tks_at : ∀ (l : List Tk) (k : Nat) (t : Tk), l[k]? = some t → ∀ (j : Nat) u, (tkC t)[j]? = some u → (tksC l)[k * 3 + j]? = some u
  | [], _, _, h, _, _, _ => by simp at h
  | x :: l, 0, t, h, j, u, hu => by
    obtain rfl : x = t := by simpa using h
    have hj := (List.getElem?_eq_some_iff.1 hu).1
    show ((tkC x) ++ tksC l)[0 * 3 + j]? = some u
    rw [List.getElem?_append_left (by simpa using hj)]
    simpa using hu
  | x :: l, k + 1, t, h, j, u, hu => by
    have ih := tks_at l k t (by simpa using h) j u hu
    show ((tkC x) ++ tksC l)[(k + 1) * 3 + j]? = some u
    have hl : (tkC x).length = 3 := rfl
    rw [List.getElem?_append_right (by rw [hl]; omega), hl, show (k + 1) * 3 + j - 3 = k * 3 + j by omega]
    exact ih
theorem Toks.cell {l : List Tk} {a : Option Addr} {c k : Nat} {W : Heap} {w : World} (h : Toks (.slice a l.length c) l W) (hm : ∀ p ∈ W, w.heap[p.1]? = some p.2) (hk : k < l.length) : ∃ b, a = some ⟨b, 0, none⟩ ∧ ∀ (j : Nat) u, (tkC l[k])[j]? = some u → w.cell? ⟨b, 0 + k * 3 + j, none⟩ = some u := by
  obtain ⟨b, rfl, hc⟩ := Own.cellw h hk
  exact ⟨b, rfl, fun j u hu => by rw [Nat.zero_add]; exact hc w hm _ u (tks_at l k _ (by simp) j u hu)⟩

set_option maxRecDepth 100000 in
set_option maxHeartbeats 400000 in
theorem Place_spec (s : List UInt8) (a : Int) (hs : s.length ≤ 100000) (w : World) :
    Ret Tryd.prog 12 #[str s, .int .i64 a] w (fun v w' => v = .tuple #[.int .i64 (lineN s (plcK s.length a) : Nat), .int .i64 (colN s (plcK s.length a) : Nat)] ∧ Ext w w') := by
  have hk := plcK_eq s.length a
  have hk2 := plcK_le s.length a
  generalize plcK s.length a = k at hk hk2
  have h1 := line_eq s k hk2
  have h2 := col_eq s k hk2
  have h3 := colN_le s k
  have h4 := lineN_le s k
  have h5 : (s.take k).length = k := by simp; omega
  refine enter (S := No) (l := [_, _]) (L := []) 22 Tryd.func12 rfl rfl rfl (St.start w No) ?_
  refine c_seq ?_; refine c_region ?_; refine w_asg (v := .int _ _) rfl ?_; refine w_asg (v := .int _ _) rfl ?_; refine w_nil ?_; refine k_on ?_; refine c_seq ?_; refine c_region ?_
  refine w_move (v := str _) rfl ?_; refine w_move (v := .int _ _) rfl ?_; refine w_r (fun _ => R_max rfl rfl) rfl rfl ?_; refine w_move (v := str _) rfl ?_; refine w_r (fun _ => R_slen st9 rfl (by omega)) rfl rfl ?_
  refine w_r (fun _ => R_min rfl rfl) rfl rfl ?_; refine w_r (fun _ => R_ssl_hiN st9 rfl (congrArg (Value.int .i64) hk) (by omega)) rfl rfl ?_; refine w_asg (v := str _) rfl ?_
  refine w_nil ?_; refine k_on ?_; refine c_seq ?_; refine c_region ?_; refine w_move (v := str _) rfl ?_; refine w_call (fun w => R_call Tryd.func20 rfl rfl rfl) rfl rfl (fun w h => Count_spec (s.take k) 10 w) ?_
  refine w_r (fun _ => R_addi rfl rfl (by omega)) rfl rfl ?_; refine w_move (v := str _) rfl ?_; refine w_r (fun _ => R_slen st9 rfl (by omega)) rfl rfl ?_; refine w_move (v := str _) rfl ?_
  refine w_call (fun w => R_call Tryd.func21 rfl rfl rfl) rfl rfl (fun w h => LastIndexByte_spec (s.take k) 10 w (by omega)) ?_; refine w_r (fun _ => R_subi rfl rfl (by omega)) rfl rfl ?_
  refine w_asg (v := .int _ _) rfl ?_; refine w_asg (v := .int _ _) rfl ?_; refine w_nil ?_; refine k_on ?_; refine c_ret ?_
  refine r_two (v := .int _ _) (v2 := .int _ _) rfl rfl rfl rfl rfl ?_
  exact fun w' hw => ⟨by rw [← h1, ← h2, h5]; rfl, hw.fr _ (.head _)⟩

set_option maxRecDepth 100000 in
set_option maxHeartbeats 400000 in
theorem rPlace_spec (s : List UInt8) (a : Int) (hs : s.length ≤ 100000) (w : World) :
    Ret Tryd.prog 13 #[str s, .int .i64 a] w (fun v w' => v = .tuple #[.int .i64 (lineN s (plcK s.length a) : Nat), .int .i64 (colN s (plcK s.length a) : Nat)] ∧ Ext w w') := by
  refine enter (S := No) (l := [_, _]) (L := []) 30 Tryd.func13 rfl rfl rfl (St.start w No) ?_
  refine c_seq ?_; refine c_region ?_; refine w_asg (v := .int _ _) rfl ?_; refine w_asg (v := .int _ _) rfl ?_; refine w_nil ?_; refine k_on ?_; refine c_seq ?_; refine c_region ?_
  refine w_asg (v := .int _ _) rfl ?_; refine w_asg (v := .int _ _) rfl ?_; refine w_nil ?_; refine k_on ?_; refine c_seq ?_; refine c_seq ?_; refine c_region ?_; refine w_asg (v := .int _ _) rfl ?_
  refine w_nil ?_; refine k_on ?_; refine c_block ?_
  refine c_loop (fun m e B L => ∃ (i : Nat), e 0 = str s ∧ e 1 = .int .i64 a ∧ e 6 = .int .i64 (lineN s i : Nat) ∧ e 7 = .int .i64 (colN s i : Nat) ∧ e 8 = .int .i64 (i : Nat) ∧ B = [(w, No)] ∧ L = [] ∧ i ≤ plcK s.length a ∧ m = s.length - i) _ ⟨0, rfl, rfl, rfl, rfl, rfl, rfl, rfl, Nat.zero_le _, rfl⟩ ?_
  rintro m e B L ⟨i, e0_1, e1_1, e6_1, e7_1, e8_1, rfl, rfl, hi, rfl⟩
  have g1 := colN_le s i
  have g2 := lineN_le s i
  have g3 := plcK_le s.length a
  have g4 := plcK_eq s.length a
  refine c_seq ?_; refine c_seq ?_; refine c_region ?_; refine w_move (v := .int _ _) e8_1 ?_; refine w_move (v := .int _ _) e1_1 ?_; refine w_r (fun _ => R_lt rfl rfl) rfl rfl ?_
  refine w_move (v := .bool _) rfl ?_
  refine w_splitD (t := 12) rfl (fun h1 => ?_) (fun h1 => ?_)
  · refine w_want rfl rfl (congrArg Value.bool (decide_eq_true h1)) ?_; refine w_move (v := .int _ _) e8_1 ?_; refine w_want rfl rfl (congrArg Value.bool (decide_eq_true h1)) ?_
    refine w_move (v := str _) e0_1 ?_; refine w_want rfl rfl (congrArg Value.bool (decide_eq_true h1)) ?_; refine w_r (fun _ => R_slen st9 rfl (by omega)) rfl rfl ?_
    refine w_want rfl rfl (congrArg Value.bool (decide_eq_true h1)) ?_; refine w_r (fun _ => R_lt rfl rfl) rfl rfl ?_; refine w_r (v := .bool _) (fun _ => R_pickT (congrArg Value.bool (decide_eq_true h1)) rfl) rfl rfl ?_
    refine w_nil ?_; refine k_on ?_
    refine c_condD rfl (fun h2 => ?_) (fun h2 => ?_)
    · refine c_skip ?_; refine k_on ?_; refine c_seq ?_; refine c_block ?_; refine c_seq ?_; refine c_region ?_; refine w_move (v := .int _ _) e7_1 ?_; refine w_r (fun _ => R_addi rfl rfl (by omega)) rfl rfl ?_
      refine w_asg (v := .int _ _) rfl ?_; refine w_nil ?_; refine k_on ?_; refine c_seq ?_; refine c_region ?_; refine w_move (v := str _) e0_1 ?_; refine w_move (v := .int _ _) e8_1 ?_
      refine w_sidx st9 rfl rfl (by omega) ?_; refine w_r (fun _ => R_eq rfl rfl) rfl rfl ?_; refine w_nil ?_; refine k_on ?_
      refine c_condD rfl (fun h3 => ?_) (fun h3 => ?_)
      · refine c_seq ?_; refine c_region ?_; refine w_move (v := .int _ _) e6_1 ?_; refine w_r (fun _ => R_addi rfl rfl (by omega)) rfl rfl ?_; refine w_asg (v := .int _ _) rfl ?_
        refine w_nil ?_; refine k_on ?_; refine c_region ?_; refine w_asg (v := .int _ _) rfl ?_; refine w_nil ?_; refine b_on (k_on ?_); refine c_region ?_; refine w_move (v := .int _ _) e8_1 ?_
        refine w_r (fun _ => R_addi rfl rfl (by omega)) rfl rfl ?_; refine w_asg (v := .int _ _) rfl ?_; refine w_nil ?_
        have hx : atP (eqB 10) s i = true := by rw [atP_in (by omega), eq_int' 10 10 rfl, decide_eq_true h3]
        exact k_again _ (by omega) ⟨i + 1, e0_1, e1_1, (by rw [lineN, if_pos hx]; rfl), (by rw [colN, if_pos hx]; rfl), rfl, rfl, rfl, plcK_lt (by omega) h1, rfl⟩
      · refine c_skip ?_; refine b_on (k_on ?_); refine c_region ?_; refine w_move (v := .int _ _) e8_1 ?_; refine w_r (fun _ => R_addi rfl rfl (by omega)) rfl rfl ?_; refine w_asg (v := .int _ _) rfl ?_
        refine w_nil ?_
        have hx : ¬ atP (eqB 10) s i = true := by rw [atP_in (by omega), eq_int' 10 10 rfl, decide_eq_false h3]; simp
        exact k_again _ (by omega) ⟨i + 1, e0_1, e1_1, (by rw [lineN, if_neg hx]; exact e6_1), (by rw [colN, if_neg hx]; rfl), rfl, rfl, rfl, plcK_lt (by omega) h1, rfl⟩
    · refine c_exit ?_; refine k_exit (k_exit (b_here rfl (k_on ?_))); refine c_seq ?_; refine c_region ?_; refine w_move (v := .int _ _) e6_1 ?_; refine w_move (v := .int _ _) e7_1 ?_
      refine w_asg (v := .int _ _) rfl ?_; refine w_asg (v := .int _ _) rfl ?_; refine w_nil ?_; refine k_on ?_; refine c_ret ?_
      refine r_two (v := .int _ _) (v2 := .int _ _) rfl rfl rfl rfl rfl ?_
      exact fun w' hw => ⟨by rw [plcK_end hi (by omega)], hw.fr _ (.head _)⟩
  · refine w_skip rfl rfl (congrArg Value.bool (decide_eq_false h1)) ?_; refine w_skip rfl rfl (congrArg Value.bool (decide_eq_false h1)) ?_; refine w_skip rfl rfl (congrArg Value.bool (decide_eq_false h1)) ?_
    refine w_skip rfl rfl (congrArg Value.bool (decide_eq_false h1)) ?_; refine w_r (v := .bool _) (fun _ => R_pickF (congrArg Value.bool (decide_eq_false h1)) rfl) rfl rfl ?_
    refine w_nil ?_; refine k_on ?_; refine c_condF rfl ?_; refine c_exit ?_; refine k_exit (k_exit (b_here rfl (k_on ?_))); refine c_seq ?_; refine c_region ?_; refine w_move (v := .int _ _) e6_1 ?_
    refine w_move (v := .int _ _) e7_1 ?_; refine w_asg (v := .int _ _) rfl ?_; refine w_asg (v := .int _ _) rfl ?_; refine w_nil ?_; refine k_on ?_; refine c_ret ?_
    refine r_two (v := .int _ _) (v2 := .int _ _) rfl rfl rfl rfl rfl ?_
    exact fun w' hw => ⟨by rw [plcK_end hi (by omega)], hw.fr _ (.head _)⟩

set_option maxRecDepth 100000 in
set_option maxHeartbeats 400000 in
theorem rSame_spec (l : List Tk) (a1 a2 : Option Addr) (c1 c2 : Nat) (W1 W2 : Heap) (hT1 : Toks (.slice a1 l.length c1) l W1) (hT2 : Toks (.slice a2 l.length c2) l W2) (hl : l.length ≤ 6000) (w : World) (hm1 : ∀ p ∈ W1, w.heap[p.1]? = some p.2) (hm2 : ∀ p ∈ W2, w.heap[p.1]? = some p.2) :
    Ret Tryd.prog 11 #[.slice a1 l.length c1, .slice a2 l.length c2] w (fun v w' => v = .bool true ∧ Ext w w') := by
  refine enter (S := No) (l := [_, _]) (L := []) 26 Tryd.func11 rfl rfl rfl (St.start w No) ?_
  refine c_seq ?_; refine c_region ?_; refine w_asg (v := .bool _) rfl ?_; refine w_nil ?_; refine k_on ?_; refine c_seq ?_; refine c_seq ?_; refine c_region ?_; refine w_move (v := .slice _ _ _) rfl ?_
  refine w_r (fun _ => R_len sl23 rfl) rfl rfl ?_; refine w_move (v := .slice _ _ _) rfl ?_; refine w_r (fun _ => R_len sl23 rfl) rfl rfl ?_; refine w_r (fun _ => R_ne rfl rfl) rfl rfl ?_
  refine w_nil ?_; refine k_on ?_
  refine c_condD rfl (fun h1 => ?_) (fun h1 => ?_)
  · exact absurd rfl h1
  · refine c_skip ?_; refine k_on ?_; refine c_seq ?_; refine c_seq ?_; refine c_region ?_; refine w_asg (v := .int _ _) rfl ?_; refine w_nil ?_; refine k_on ?_; refine c_block ?_
    refine c_loop (fun m e B L => ∃ (k : Nat), e 0 = .slice a1 l.length c1 ∧ e 1 = .slice a2 l.length c2 ∧ e 5 = .int .i64 (k : Nat) ∧ B = [(w, No)] ∧ L = [] ∧ k ≤ l.length ∧ m = l.length - k) _ ⟨0, rfl, rfl, rfl, rfl, rfl, Nat.zero_le _, rfl⟩ ?_
    rintro m e B L ⟨k, e0_1, e1_1, e5_1, rfl, rfl, hk, rfl⟩
    refine c_seq ?_; refine c_seq ?_; refine c_region ?_; refine w_move (v := .int _ _) e5_1 ?_; refine w_move (v := .slice _ _ _) e0_1 ?_; refine w_r (fun _ => R_len sl23 rfl) rfl rfl ?_
    refine w_r (fun _ => R_lt rfl rfl) rfl rfl ?_; refine w_nil ?_; refine k_on ?_
    refine c_condD rfl (fun h2 => ?_) (fun h2 => ?_)
    · have hlt : k < l.length := (by omega); obtain ⟨b1, rfl, hc1⟩ := hT1.cell hm1 hlt; obtain ⟨b2, rfl, hc2⟩ := hT2.cell hm2 hlt
      refine c_skip ?_; refine k_on ?_; refine c_seq ?_; refine c_block ?_; refine c_seq ?_; refine c_draw mixed (by kernel_rfl) ?_; refine w_move (v := .slice _ _ _) e0_1 ?_
      refine w_move (v := .int _ _) e5_1 ?_; refine w_r (fun _ => R_iaN (i := k) sl23 rfl rfl (by first | omega | decide)) rfl rfl ?_
      refine w_loadC (l := tkC l[k]) z35 rfl rfl (fun w h j v hj => cel_old (.head _) (hc1 j v hj) (fun x => x) h) ?_
      refine w_move (v := .slice _ _ _) e1_1 ?_; refine w_move (v := .int _ _) e5_1 ?_; refine w_r (fun _ => R_iaN (i := k) sl23 rfl rfl (by first | omega | decide)) rfl rfl ?_
      refine w_loadC (l := tkC l[k]) z35 rfl rfl (fun w h j v hj => cel_old (.head _) (hc2 j v hj) (fun x => x) h) ?_
      refine w_r (fun _ => R_neS fl35 rfl rfl (eq3_run (n := 9998) fl35 z5 z9 z3 un5 un9 un3)) rfl rfl ?_; refine w_nil ?_; refine k_on ?_
      refine c_cond rfl (fun h3 => ?_) (fun h3 => ?_)
      · simp at h3
      · refine c_skip ?_; refine b_on (k_on ?_); refine c_region ?_; refine w_move (v := .int _ _) e5_1 ?_; refine w_r (fun _ => R_addi rfl rfl (by omega)) rfl rfl ?_; refine w_asg (v := .int _ _) rfl ?_
        refine w_nil ?_
        exact k_again _ (by omega) ⟨k + 1, e0_1, e1_1, rfl, rfl, rfl, by omega, rfl⟩
    · refine c_exit ?_; refine k_exit (k_exit (b_here rfl (k_on ?_))); refine c_seq ?_; refine c_region ?_; refine w_asg (v := .bool _) rfl ?_; refine w_nil ?_; refine k_on ?_
      refine c_ret ?_
      refine r_one (v := .bool _) rfl rfl rfl ?_
      exact fun w' hw => ⟨rfl, hw.fr _ (.head _)⟩

set_option maxRecDepth 100000 in
set_option maxHeartbeats 400000 in
theorem head_spec (w : World) (ht : Tb w) (hgs : 1 < w.heap.size) :
    Ret Tryd.prog 8 #[] w (fun v w' => v = .bool true ∧ Ext w w') := by
  refine enter (S := No) (l := []) (L := []) 109 Tryd.func8 rfl rfl rfl (St.start w No) ?_
  refine c_seq ?_; refine c_region ?_; refine w_asg (v := .bool _) rfl ?_; refine w_nil ?_; refine k_on ?_; refine c_seq ?_; refine c_region ?_
  refine w_callW (R := RdV (readP [120, 49, 60, 61, 50, 46, 53, 101, 51, 59])) (fun w => R_call Tryd.func9 rfl rfl rfl) rfl rfl (fun w h => Read_spec [120, 49, 60, 61, 50, 46, 53, 101, 51, 59] (by decide) w (ht.fr (h.fr _ (.head _)) (fun x => x)) (Nat.le_trans hgs (h.fr _ (.head _)).size)) ?_
  refine fun u W1 hR1 => w_st (fun w h => h.perm List.perm_append_comm) ?_
  rw [show readP [120, 49, 60, 61, 50, 46, 53, 101, 51, 59] = ([(1, [120, 49], 0), (3, [60, 61], 2), (2, [50, 46, 53, 101, 51], 4), (3, [59], 9)], 0, 0) from by decide +kernel] at hR1
  obtain ⟨a1, c1, rfl, hT1⟩ := hR1
  obtain ⟨b1r, rfl, hc1⟩ := Own.cell (i := 0) hT1 (by decide)
  refine w_move rfl ?_; refine w_r (fun _ => R_extract rfl rfl) rfl rfl ?_; refine w_r (fun _ => R_extract rfl rfl) rfl rfl ?_
  refine w_alloc zr26 (fun t2b gt2b ut2b => ?_)
  refine w_asg (v := .slice _ _ _) rfl ?_; refine w_store 0 rfl z26 rfl rfl rfl rfl rfl rfl rfl ?_; refine w_nil ?_; refine k_on ?_; refine c_seq ?_; refine c_region ?_
  refine w_callW (R := RdV (readP [97, 32, 47, 47, 32, 98, 10, 61, 61, 99])) (fun w => R_call Tryd.func9 rfl rfl rfl) rfl rfl (fun w h => Read_spec [97, 32, 47, 47, 32, 98, 10, 61, 61, 99] (by decide) w (ht.fr (h.fr _ (.head _)) (fun x => x)) (Nat.le_trans hgs (h.fr _ (.head _)).size)) ?_
  refine fun u W2 hR2 => w_st (fun w h => h.perm List.perm_append_comm) ?_
  rw [show readP [97, 32, 47, 47, 32, 98, 10, 61, 61, 99] = ([(1, [97], 0), (3, [61, 61], 7), (1, [99], 9)], 0, 0) from by decide +kernel] at hR2
  obtain ⟨a2, c2, rfl, hT2⟩ := hR2
  obtain ⟨b2r, rfl, hc2⟩ := Own.cell (i := 0) hT2 (by decide)
  refine w_move rfl ?_; refine w_r (fun _ => R_extract rfl rfl) rfl rfl ?_; refine w_r (fun _ => R_extract rfl rfl) rfl rfl ?_
  refine w_alloc zr26 (fun t4b gt4b ut4b => ?_)
  refine w_asg (v := .slice _ _ _) rfl ?_; refine w_store 0 rfl z26 rfl rfl rfl rfl rfl rfl rfl ?_; refine w_nil ?_; refine k_on ?_; refine c_seq ?_; refine c_region ?_
  refine w_callW (R := RdV (readP [49, 120])) (fun w => R_call Tryd.func9 rfl rfl rfl) rfl rfl (fun w h => Read_spec [49, 120] (by decide) w (ht.fr (h.fr _ (.head _)) (fun x => x)) (Nat.le_trans hgs (h.fr _ (.head _)).size)) ?_
  refine fun u W3 hR3 => w_st (fun w h => h.perm List.perm_append_comm) ?_
  rw [show readP [49, 120] = ([], 110, 0) from by decide +kernel] at hR3
  obtain ⟨a3, c3, rfl, hT3⟩ := hR3
  refine w_move rfl ?_; refine w_r (fun _ => R_extract rfl rfl) rfl rfl ?_; refine w_r (fun _ => R_extract rfl rfl) rfl rfl ?_
  refine w_alloc zr26 (fun t6b gt6b ut6b => ?_)
  refine w_asg (v := .slice _ _ _) rfl ?_; refine w_store 0 rfl z26 rfl rfl rfl rfl rfl rfl rfl ?_; refine w_nil ?_; refine k_on ?_; refine c_seq ?_; refine c_region ?_
  refine w_callW (R := RdV (readP [49, 101, 49, 50, 51, 52, 53])) (fun w => R_call Tryd.func9 rfl rfl rfl) rfl rfl (fun w h => Read_spec [49, 101, 49, 50, 51, 52, 53] (by decide) w (ht.fr (h.fr _ (.head _)) (fun x => x)) (Nat.le_trans hgs (h.fr _ (.head _)).size)) ?_
  refine fun u W4 hR4 => w_st (fun w h => h.perm List.perm_append_comm) ?_
  rw [show readP [49, 101, 49, 50, 51, 52, 53] = ([], 110, 0) from by decide +kernel] at hR4
  obtain ⟨a4, c4, rfl, hT4⟩ := hR4
  refine w_move rfl ?_; refine w_r (fun _ => R_extract rfl rfl) rfl rfl ?_; refine w_r (fun _ => R_extract rfl rfl) rfl rfl ?_
  refine w_alloc zr26 (fun t8b gt8b ut8b => ?_)
  refine w_asg (v := .slice _ _ _) rfl ?_; refine w_store 0 rfl z26 rfl rfl rfl rfl rfl rfl rfl ?_; refine w_nil ?_; refine k_on ?_; refine c_seq ?_; refine c_region ?_
  refine w_call (fun w => R_call Tryd.func12 rfl rfl rfl) rfl rfl (fun w h => Place_spec [97, 10, 98, 99] 3 (by decide) w) ?_; refine w_move rfl ?_; refine w_r (fun _ => R_extract rfl rfl) rfl rfl ?_
  refine w_r (fun _ => R_extract rfl rfl) rfl rfl ?_; refine w_asg (v := .int _ _) rfl ?_; refine w_asg (v := .int _ _) rfl ?_; refine w_nil ?_; refine k_on ?_; refine c_seq ?_
  refine c_region ?_; refine w_fa fa26_0 rfl ?_; refine w_load z24 rfl (fun _ h => cel_own 3 rfl rfl h) ?_; refine w_r (fun _ => R_eq rfl rfl) rfl rfl ?_; refine w_move (v := .bool _) rfl ?_
  refine w_splitD (t := 34) rfl (fun h5 => ?_) (fun h5 => ?_)
  · refine w_want rfl rfl (congrArg Value.bool (decide_eq_true h5)) ?_; refine w_move (v := .slice _ _ _) rfl ?_; refine w_want rfl rfl (congrArg Value.bool (decide_eq_true h5)) ?_
    refine w_r (fun _ => R_len sl23 rfl) rfl rfl ?_; refine w_want rfl rfl (congrArg Value.bool (decide_eq_true h5)) ?_; refine w_r (fun _ => R_eq rfl rfl) rfl rfl ?_
    refine w_r (v := .bool _) (fun _ => R_pickT (congrArg Value.bool (decide_eq_true h5)) rfl) rfl rfl ?_; refine w_move (v := .bool _) rfl ?_
    refine w_splitD (t := 39) rfl (fun h6 => ?_) (fun h6 => ?_)
    · refine w_want rfl rfl (congrArg Value.bool (decide_eq_true h6)) ?_; refine w_move (v := .slice _ _ _) rfl ?_; refine w_want rfl rfl (congrArg Value.bool (decide_eq_true h6)) ?_
      refine w_r (fun _ => R_iaN (i := 0) sl23 rfl rfl (by first | omega | decide)) rfl rfl ?_; refine w_want rfl rfl (congrArg Value.bool (decide_eq_true h6)) ?_
      refine w_fa fa35_1 rfl ?_; refine w_want rfl rfl (congrArg Value.bool (decide_eq_true h6)) ?_; refine w_load z9 rfl (fun _ h => by first | exact cel_own 0 rfl rfl h | exact cel_own 1 rfl rfl h | exact cel_own 2 rfl rfl h | exact cel_own 3 rfl rfl h | exact hc1 _ _ _ (fun p hp => by simp [hp]) h _ _ rfl | exact hc2 _ _ _ (fun p hp => by simp [hp]) h _ _ rfl) ?_
      refine w_want rfl rfl (congrArg Value.bool (decide_eq_true h6)) ?_; refine w_r (fun _ => R_seq rfl rfl) rfl rfl ?_; refine w_r (v := .bool _) (fun _ => R_pickT (congrArg Value.bool (decide_eq_true h6)) rfl) rfl rfl ?_
      refine w_move (v := .bool _) rfl ?_
      refine w_splitD (t := 46) rfl (fun h7 => ?_) (fun h7 => ?_)
      · refine w_want rfl rfl (congrArg Value.bool (decide_eq_true h7)) ?_; refine w_move (v := .slice _ _ _) rfl ?_; refine w_want rfl rfl (congrArg Value.bool (decide_eq_true h7)) ?_
        refine w_r (fun _ => R_iaN (i := 1) sl23 rfl rfl (by first | omega | decide)) rfl rfl ?_; refine w_want rfl rfl (congrArg Value.bool (decide_eq_true h7)) ?_
        refine w_fa fa35_1 rfl ?_; refine w_want rfl rfl (congrArg Value.bool (decide_eq_true h7)) ?_; refine w_load z9 rfl (fun _ h => by first | exact cel_own 0 rfl rfl h | exact cel_own 1 rfl rfl h | exact cel_own 2 rfl rfl h | exact cel_own 3 rfl rfl h | exact hc1 _ _ _ (fun p hp => by simp [hp]) h _ _ rfl | exact hc2 _ _ _ (fun p hp => by simp [hp]) h _ _ rfl) ?_
        refine w_want rfl rfl (congrArg Value.bool (decide_eq_true h7)) ?_; refine w_r (fun _ => R_seq rfl rfl) rfl rfl ?_; refine w_r (v := .bool _) (fun _ => R_pickT (congrArg Value.bool (decide_eq_true h7)) rfl) rfl rfl ?_
        refine w_move (v := .bool _) rfl ?_
        refine w_splitD (t := 53) rfl (fun h8 => ?_) (fun h8 => ?_)
        · refine w_want rfl rfl (congrArg Value.bool (decide_eq_true h8)) ?_; refine w_move (v := .slice _ _ _) rfl ?_; refine w_want rfl rfl (congrArg Value.bool (decide_eq_true h8)) ?_
          refine w_r (fun _ => R_iaN (i := 2) sl23 rfl rfl (by first | omega | decide)) rfl rfl ?_; refine w_want rfl rfl (congrArg Value.bool (decide_eq_true h8)) ?_
          refine w_fa fa35_1 rfl ?_; refine w_want rfl rfl (congrArg Value.bool (decide_eq_true h8)) ?_; refine w_load z9 rfl (fun _ h => by first | exact cel_own 0 rfl rfl h | exact cel_own 1 rfl rfl h | exact cel_own 2 rfl rfl h | exact cel_own 3 rfl rfl h | exact hc1 _ _ _ (fun p hp => by simp [hp]) h _ _ rfl | exact hc2 _ _ _ (fun p hp => by simp [hp]) h _ _ rfl) ?_
          refine w_want rfl rfl (congrArg Value.bool (decide_eq_true h8)) ?_; refine w_r (fun _ => R_seq rfl rfl) rfl rfl ?_; refine w_r (v := .bool _) (fun _ => R_pickT (congrArg Value.bool (decide_eq_true h8)) rfl) rfl rfl ?_
          refine w_move (v := .bool _) rfl ?_
          refine w_splitD (t := 60) rfl (fun h9 => ?_) (fun h9 => ?_)
          · refine w_want rfl rfl (congrArg Value.bool (decide_eq_true h9)) ?_; refine w_move (v := .slice _ _ _) rfl ?_; refine w_want rfl rfl (congrArg Value.bool (decide_eq_true h9)) ?_
            refine w_r (fun _ => R_iaN (i := 2) sl23 rfl rfl (by first | omega | decide)) rfl rfl ?_; refine w_want rfl rfl (congrArg Value.bool (decide_eq_true h9)) ?_
            refine w_fa fa35_0 rfl ?_; refine w_want rfl rfl (congrArg Value.bool (decide_eq_true h9)) ?_; refine w_load z5 rfl (fun _ h => by first | exact cel_own 0 rfl rfl h | exact cel_own 1 rfl rfl h | exact cel_own 2 rfl rfl h | exact cel_own 3 rfl rfl h | exact hc1 _ _ _ (fun p hp => by simp [hp]) h _ _ rfl | exact hc2 _ _ _ (fun p hp => by simp [hp]) h _ _ rfl) ?_
            refine w_want rfl rfl (congrArg Value.bool (decide_eq_true h9)) ?_; refine w_r (fun _ => R_eq rfl rfl) rfl rfl ?_; refine w_r (v := .bool _) (fun _ => R_pickT (congrArg Value.bool (decide_eq_true h9)) rfl) rfl rfl ?_
            refine w_move (v := .bool _) rfl ?_
            refine w_splitD (t := 67) rfl (fun h10 => ?_) (fun h10 => ?_)
            · refine w_want rfl rfl (congrArg Value.bool (decide_eq_true h10)) ?_; refine w_move (v := .slice _ _ _) rfl ?_; refine w_want rfl rfl (congrArg Value.bool (decide_eq_true h10)) ?_
              refine w_r (fun _ => R_iaN (i := 3) sl23 rfl rfl (by first | omega | decide)) rfl rfl ?_; refine w_want rfl rfl (congrArg Value.bool (decide_eq_true h10)) ?_
              refine w_fa fa35_2 rfl ?_; refine w_want rfl rfl (congrArg Value.bool (decide_eq_true h10)) ?_; refine w_load z3 rfl (fun _ h => by first | exact cel_own 0 rfl rfl h | exact cel_own 1 rfl rfl h | exact cel_own 2 rfl rfl h | exact cel_own 3 rfl rfl h | exact hc1 _ _ _ (fun p hp => by simp [hp]) h _ _ rfl | exact hc2 _ _ _ (fun p hp => by simp [hp]) h _ _ rfl) ?_
              refine w_want rfl rfl (congrArg Value.bool (decide_eq_true h10)) ?_; refine w_r (fun _ => R_eq rfl rfl) rfl rfl ?_; refine w_r (v := .bool _) (fun _ => R_pickT (congrArg Value.bool (decide_eq_true h10)) rfl) rfl rfl ?_
              refine w_move (v := .bool _) rfl ?_
              refine w_splitD (t := 74) rfl (fun h11 => ?_) (fun h11 => ?_)
              · refine w_want rfl rfl (congrArg Value.bool (decide_eq_true h11)) ?_; refine w_fa fa26_0 rfl ?_; refine w_want rfl rfl (congrArg Value.bool (decide_eq_true h11)) ?_
                refine w_load z24 rfl (fun _ h => cel_own 2 rfl rfl h) ?_; refine w_want rfl rfl (congrArg Value.bool (decide_eq_true h11)) ?_; refine w_r (fun _ => R_eq rfl rfl) rfl rfl ?_
                refine w_r (v := .bool _) (fun _ => R_pickT (congrArg Value.bool (decide_eq_true h11)) rfl) rfl rfl ?_; refine w_move (v := .bool _) rfl ?_
                refine w_splitD (t := 79) rfl (fun h12 => ?_) (fun h12 => ?_)
                · refine w_want rfl rfl (congrArg Value.bool (decide_eq_true h12)) ?_; refine w_move (v := .slice _ _ _) rfl ?_; refine w_want rfl rfl (congrArg Value.bool (decide_eq_true h12)) ?_
                  refine w_r (fun _ => R_len sl23 rfl) rfl rfl ?_; refine w_want rfl rfl (congrArg Value.bool (decide_eq_true h12)) ?_; refine w_r (fun _ => R_eq rfl rfl) rfl rfl ?_
                  refine w_r (v := .bool _) (fun _ => R_pickT (congrArg Value.bool (decide_eq_true h12)) rfl) rfl rfl ?_; refine w_move (v := .bool _) rfl ?_
                  refine w_splitD (t := 84) rfl (fun h13 => ?_) (fun h13 => ?_)
                  · refine w_want rfl rfl (congrArg Value.bool (decide_eq_true h13)) ?_; refine w_move (v := .slice _ _ _) rfl ?_; refine w_want rfl rfl (congrArg Value.bool (decide_eq_true h13)) ?_
                    refine w_r (fun _ => R_iaN (i := 2) sl23 rfl rfl (by first | omega | decide)) rfl rfl ?_; refine w_want rfl rfl (congrArg Value.bool (decide_eq_true h13)) ?_
                    refine w_fa fa35_1 rfl ?_; refine w_want rfl rfl (congrArg Value.bool (decide_eq_true h13)) ?_; refine w_load z9 rfl (fun _ h => by first | exact cel_own 0 rfl rfl h | exact cel_own 1 rfl rfl h | exact cel_own 2 rfl rfl h | exact cel_own 3 rfl rfl h | exact hc1 _ _ _ (fun p hp => by simp [hp]) h _ _ rfl | exact hc2 _ _ _ (fun p hp => by simp [hp]) h _ _ rfl) ?_
                    refine w_want rfl rfl (congrArg Value.bool (decide_eq_true h13)) ?_; refine w_r (fun _ => R_seq rfl rfl) rfl rfl ?_; refine w_r (v := .bool _) (fun _ => R_pickT (congrArg Value.bool (decide_eq_true h13)) rfl) rfl rfl ?_
                    refine w_move (v := .bool _) rfl ?_
                    refine w_splitD (t := 91) rfl (fun h14 => ?_) (fun h14 => ?_)
                    · refine w_want rfl rfl (congrArg Value.bool (decide_eq_true h14)) ?_; refine w_loadA z26 rfl (fun _ h => h.at_ 1 rfl) rfl ?_; refine w_want rfl rfl (congrArg Value.bool (decide_eq_true h14)) ?_
                      refine w_r (fun _ => R_build bt26 rfl) rfl rfl ?_; refine w_want rfl rfl (congrArg Value.bool (decide_eq_true h14)) ?_; refine w_r (fun _ => R_eqS fl26 rfl rfl (eq2_run (n := 9998) fl26 z24 z3 un24 un3)) rfl rfl ?_
                      refine w_r (v := .bool _) (fun _ => R_pickT (congrArg Value.bool (decide_eq_true h14)) rfl) rfl rfl ?_; refine w_move (v := .bool _) rfl ?_
                      refine w_split (t := 96) rfl (fun h15 => ?_) (fun h15 => ?_)
                      · refine w_want rfl rfl (congrArg Value.bool h15) ?_; refine w_loadA z26 rfl (fun _ h => h.at_ 0 rfl) rfl ?_; refine w_want rfl rfl (congrArg Value.bool h15) ?_
                        refine w_r (fun _ => R_build bt26 rfl) rfl rfl ?_; refine w_want rfl rfl (congrArg Value.bool h15) ?_; refine w_r (fun _ => R_eqS fl26 rfl rfl (eq2_run (n := 9998) fl26 z24 z3 un24 un3)) rfl rfl ?_
                        refine w_r (v := .bool _) (fun _ => R_pickT (congrArg Value.bool h15) rfl) rfl rfl ?_; refine w_move (v := .bool _) rfl ?_
                        refine w_split (t := 101) rfl (fun h16 => ?_) (fun h16 => ?_)
                        · refine w_want rfl rfl (congrArg Value.bool h16) ?_; refine w_move (v := .int _ _) rfl ?_; refine w_want rfl rfl (congrArg Value.bool h16) ?_; refine w_r (fun _ => R_eq rfl rfl) rfl rfl ?_
                          refine w_r (v := .bool _) (fun _ => R_pickT (congrArg Value.bool h16) rfl) rfl rfl ?_; refine w_move (v := .bool _) rfl ?_
                          refine w_splitD (t := 105) rfl (fun h17 => ?_) (fun h17 => ?_)
                          · refine w_want rfl rfl (congrArg Value.bool (decide_eq_true h17)) ?_; refine w_move (v := .int _ _) rfl ?_; refine w_want rfl rfl (congrArg Value.bool (decide_eq_true h17)) ?_
                            refine w_r (fun _ => R_eq rfl rfl) rfl rfl ?_; refine w_r (v := .bool _) (fun _ => R_pickT (congrArg Value.bool (decide_eq_true h17)) rfl) rfl rfl ?_; refine w_asg (v := .bool _) rfl ?_
                            refine w_nil ?_; refine k_on ?_; refine c_ret ?_
                            refine r_one (v := .bool _) rfl rfl rfl ?_
                            exact fun w' hw => ⟨rfl, hw.fr _ (.head _)⟩
                          · first | exact absurd (by first | rfl | decide) h17 | exact absurd h17 (by decide) | (simp at h17)
                        · first | exact absurd (by first | rfl | decide) h16 | exact absurd h16 (by decide) | (simp at h16)
                      · first | exact absurd (by first | rfl | decide) h15 | exact absurd h15 (by decide) | (simp at h15)
                    · first | exact absurd (by first | rfl | decide) h14 | exact absurd h14 (by decide) | (simp at h14)
                  · first | exact absurd (by first | rfl | decide) h13 | exact absurd h13 (by decide) | (simp at h13)
                · first | exact absurd (by first | rfl | decide) h12 | exact absurd h12 (by decide) | (simp at h12)
              · first | exact absurd (by first | rfl | decide) h11 | exact absurd h11 (by decide) | (simp at h11)
            · first | exact absurd (by first | rfl | decide) h10 | exact absurd h10 (by decide) | (simp at h10)
          · first | exact absurd (by first | rfl | decide) h9 | exact absurd h9 (by decide) | (simp at h9)
        · first | exact absurd (by first | rfl | decide) h8 | exact absurd h8 (by decide) | (simp at h8)
      · first | exact absurd (by first | rfl | decide) h7 | exact absurd h7 (by decide) | (simp at h7)
    · first | exact absurd (by first | rfl | decide) h6 | exact absurd h6 (by decide) | (simp at h6)
  · first | exact absurd (by first | rfl | decide) h5 | exact absurd h5 (by decide) | (simp at h5)
end Go.Proofs.YtmcajoiembfjiaaDoor
