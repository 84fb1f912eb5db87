import Derived.Test.YtmcajoiembfjiaaDoorLaw3T
import Derived.Test.YtmcajoiembfjiaaDoorLaw2
import Derived.Test.YtmcajoiembfjiaaDoorTokK
namespace Go.Proofs.YtmcajoiembfjiaaDoor
open Go.RowKit Go.Sx
open Go.Tok
theorem Toks.cellS {l : List Tk} {a : Option Addr} {c k : Nat} {W : Heap} (h : Toks (.slice a l.length c) l W) (hk : k < l.length) : ∃ b, a = some ⟨b, 0, none⟩ ∧ ∀ (B : Base) (L : Heap) (w : World), (∀ p ∈ W, p ∈ L) → St B L w → ∀ (t : Tk), l[k]? = some t → ∀ (j : Nat) u, (tkC t)[j]? = some u → w.cell? ⟨b, 0 + k * 3 + j, none⟩ = some u := by
  obtain ⟨b, rfl, hc⟩ := Own.cell h hk
  exact ⟨b, rfl, fun B L w hW hw t ht j u hu => by rw [Nat.zero_add]; exact hc B L w hW hw _ u (tks_at l k t ht j u hu)⟩

set_option maxRecDepth 100000 in
set_option maxHeartbeats 400000 in
theorem joins_walk (s1 s2 : List UInt8) (hs1 : s1.length ≤ 9223372036854775807) (hs2 : s2.length ≤ 9223372036854775807) (w : World) (ht : Tb w) (hgs : 1 < w.heap.size) :
    Ret Tryd.prog 7 #[str s1, str s2] w (fun v w' => v = .bool true ∧ Ext w w') := by
  refine enter (S := No) (l := [_, _]) (L := []) 131 Tryd.func7 rfl rfl rfl (St.start w No) ?_
  refine c_seq ?_; refine c_region ?_; refine w_asg (v := .bool _) rfl ?_; refine w_nil ?_; refine k_on ?_; refine c_seq ?_; refine c_seq ?_; refine c_region ?_; refine w_move (v := str _) rfl ?_
  refine w_r (fun _ => R_slen st9 rfl (by omega)) rfl rfl ?_; refine w_r (fun _ => R_gt rfl rfl) rfl rfl ?_; refine w_move (v := .bool _) rfl ?_
  refine w_splitD (t := 16) rfl (fun h1 => ?_) (fun h1 => ?_)
  · refine w_skip rfl rfl (congrArg Value.bool (decide_eq_true h1)) ?_; refine w_skip rfl rfl (congrArg Value.bool (decide_eq_true h1)) ?_; refine w_skip rfl rfl (congrArg Value.bool (decide_eq_true h1)) ?_
    refine w_r (v := .bool _) (fun _ => R_pickT (congrArg Value.bool (decide_eq_true h1)) rfl) rfl rfl ?_; refine w_nil ?_; refine k_on ?_; refine c_condT rfl ?_
    refine c_seq ?_; refine c_region ?_; refine w_call (fun w => R_call Tryd.func8 rfl rfl rfl) rfl rfl (fun w h => head_spec w (ht.fr (h.fr _ (.head _)) (fun x => x)) (Nat.le_trans hgs (h.fr _ (.head _)).size)) ?_
    refine w_asg (v := .bool _) rfl ?_; refine w_nil ?_; refine k_on ?_; refine c_ret ?_; refine k_ret (?_)
    refine r_one (v := .bool _) rfl rfl rfl ?_
    exact fun w' hw => ⟨rfl, hw.fr _ (.head _)⟩
  · refine w_want rfl rfl (congrArg Value.bool (decide_eq_false h1)) ?_; refine w_move (v := str _) rfl ?_; refine w_want rfl rfl (congrArg Value.bool (decide_eq_false h1)) ?_
    refine w_r (fun _ => R_slen st9 rfl (by omega)) rfl rfl ?_; refine w_want rfl rfl (congrArg Value.bool (decide_eq_false h1)) ?_; refine w_r (fun _ => R_gt rfl rfl) rfl rfl ?_
    refine w_r (v := .bool _) (fun _ => R_pickF (congrArg Value.bool (decide_eq_false h1)) rfl) rfl rfl ?_; refine w_nil ?_; refine k_on ?_
    refine c_condD rfl (fun h2 => ?_) (fun h2 => ?_)
    · refine c_seq ?_; refine c_region ?_; refine w_call (fun w => R_call Tryd.func8 rfl rfl rfl) rfl rfl (fun w h => head_spec w (ht.fr (h.fr _ (.head _)) (fun x => x)) (Nat.le_trans hgs (h.fr _ (.head _)).size)) ?_
      refine w_asg (v := .bool _) rfl ?_; refine w_nil ?_; refine k_on ?_; refine c_ret ?_; refine k_ret (?_)
      refine r_one (v := .bool _) rfl rfl rfl ?_
      exact fun w' hw => ⟨rfl, hw.fr _ (.head _)⟩
    · refine c_skip ?_; refine k_on ?_; refine c_seq ?_; refine c_region ?_; refine w_move (v := str _) rfl ?_
      refine w_callW (R := RdV (readP s1)) (fun w => R_call Tryd.func9 rfl rfl rfl) rfl rfl (fun w h => Read_spec s1 (by first | omega | (simp only [List.length_append, List.length_cons, List.length_nil]; omega)) w (ht.fr (h.fr _ (.head _)) (fun x => x)) (Nat.le_trans hgs (h.fr _ (.head _)).size)) ?_
      refine fun u W1 hR1 => w_st (fun w h => h.perm List.perm_append_comm) ?_
      obtain ⟨a1, c1, rfl, hT1⟩ := hR1
      have hl1 := readP_len s1
      refine w_move rfl ?_; refine w_r (fun _ => R_extract rfl rfl) rfl rfl ?_; refine w_r (fun _ => R_extract rfl rfl) rfl rfl ?_
      refine w_alloc zr26 (fun t6b gt6b ut6b => ?_)
      refine w_asg (v := .slice _ _ _) rfl ?_; refine w_store 0 rfl z26 rfl rfl rfl rfl rfl rfl rfl ?_; refine w_nil ?_; refine k_on ?_; refine c_seq ?_; refine c_region ?_
      refine w_move (v := str _) rfl ?_
      refine w_callW (R := RdV (readP s2)) (fun w => R_call Tryd.func9 rfl rfl rfl) rfl rfl (fun w h => Read_spec s2 (by first | omega | (simp only [List.length_append, List.length_cons, List.length_nil]; omega)) w (ht.fr (h.fr _ (.head _)) (fun x => x)) (Nat.le_trans hgs (h.fr _ (.head _)).size)) ?_
      refine fun u W2 hR2 => w_st (fun w h => h.perm List.perm_append_comm) ?_
      obtain ⟨a2, c2, rfl, hT2⟩ := hR2
      have hl2 := readP_len s2
      have hat2 := readP_at s2
      refine w_move rfl ?_; refine w_r (fun _ => R_extract rfl rfl) rfl rfl ?_; refine w_r (fun _ => R_extract rfl rfl) rfl rfl ?_
      refine w_alloc zr26 (fun t8b gt8b ut8b => ?_)
      refine w_asg (v := .slice _ _ _) rfl ?_; refine w_store 0 rfl z26 rfl rfl rfl rfl rfl rfl rfl ?_; refine w_nil ?_; refine k_on ?_; refine c_seq ?_; refine c_region ?_
      refine w_move (v := str _) rfl ?_; refine w_r (fun _ => R_cat rfl rfl (by simp only [List.length_append, List.length_cons, List.length_nil]; omega)) rfl rfl ?_
      refine w_move (v := str _) rfl ?_; refine w_r (fun _ => R_cat rfl rfl (by simp only [List.length_append, List.length_cons, List.length_nil]; omega)) rfl rfl ?_
      refine w_r (fun _ => R_cat rfl rfl (by simp only [List.length_append, List.length_cons, List.length_nil]; omega)) rfl rfl ?_
      refine w_callW (R := RdV (readP (((s1 ++ [10]) ++ s2) ++ [10, 47, 47, 32, 120]))) (fun w => R_call Tryd.func9 rfl rfl rfl) rfl rfl (fun w h => Read_spec (((s1 ++ [10]) ++ s2) ++ [10, 47, 47, 32, 120]) (by first | omega | (simp only [List.length_append, List.length_cons, List.length_nil]; omega)) w (ht.fr (h.fr _ (.head _)) (fun x => x)) (Nat.le_trans hgs (h.fr _ (.head _)).size)) ?_
      refine fun u W3 hR3 => w_st (fun w h => h.perm List.perm_append_comm) ?_
      obtain ⟨a3, c3, rfl, hT3⟩ := hR3
      have hl3 := readP_len (((s1 ++ [10]) ++ s2) ++ [10, 47, 47, 32, 120])
      have hJ := joins_law (a := s1) (b := s2) (by omega) (by omega)
      refine w_move rfl ?_; refine w_r (fun _ => R_extract rfl rfl) rfl rfl ?_; refine w_r (fun _ => R_extract rfl rfl) rfl rfl ?_
      refine w_alloc zr26 (fun t10b gt10b ut10b => ?_)
      refine w_asg (v := .slice _ _ _) rfl ?_; refine w_store 0 rfl z26 rfl rfl rfl rfl rfl rfl rfl ?_; refine w_nil ?_; refine k_on ?_; refine c_seq ?_; refine c_seq ?_
      refine c_region ?_; refine w_fa fa26_0 rfl ?_; refine w_load z24 rfl (fun _ h => cel_own 2 rfl rfl h) ?_; refine w_r (fun _ => R_ne rfl rfl) rfl rfl ?_; refine w_nil ?_
      refine k_on ?_
      refine c_condD rfl (fun h6 => ?_) (fun h6 => ?_)
      · have e1 := hJ.1 (by omega)
        refine c_seq ?_; refine c_region ?_; refine w_loadA z26 rfl (fun _ h => h.at_ 0 rfl) rfl ?_; refine w_loadA z26 rfl (fun _ h => h.at_ 2 rfl) rfl ?_; refine w_r (fun _ => R_eqS fl26 rfl rfl (eq2_run (n := 9998) fl26 z24 z3 un24 un3)) rfl rfl ?_
        refine w_move (v := .bool _) rfl ?_
        refine w_split (t := 47) rfl (fun h7 => ?_) (fun h7 => ?_)
        · refine w_want rfl rfl (congrArg Value.bool h7) ?_; refine w_move (v := .slice _ _ _) rfl ?_; refine w_want rfl rfl (congrArg Value.bool h7) ?_; refine w_r (fun _ => R_len sl23 rfl) rfl rfl ?_
          refine w_want rfl rfl (congrArg Value.bool h7) ?_; refine w_r (fun _ => R_eq rfl rfl) rfl rfl ?_; refine w_r (v := .bool _) (fun _ => R_pickT (congrArg Value.bool h7) rfl) rfl rfl ?_
          refine w_move (v := .bool _) rfl ?_
          refine w_splitD (t := 52) rfl (fun h8 => ?_) (fun h8 => ?_)
          · refine w_want rfl rfl (congrArg Value.bool (decide_eq_true h8)) ?_; refine w_call (fun w => R_call Tryd.func8 rfl rfl rfl) rfl rfl (fun w h => head_spec w (ht.fr (h.fr _ (.head _)) (fun x => x)) (Nat.le_trans hgs (h.fr _ (.head _)).size)) ?_
            refine w_r (v := .bool _) (fun _ => R_pickT (congrArg Value.bool (decide_eq_true h8)) rfl) rfl rfl ?_; refine w_asg (v := .bool _) rfl ?_; refine w_nil ?_; refine k_on ?_
            refine c_ret ?_; refine k_ret (?_)
            refine r_one (v := .bool _) rfl rfl rfl ?_
            exact fun w' hw => ⟨rfl, hw.fr _ (.head _)⟩
          · first | exact absurd (by first | rfl | decide) h8 | (rw [e1] at h8; simp at h8; done) | (rw [e1] at h8; simp at h8; omega)
        · first | exact absurd (by first | rfl | decide) h7 | (rw [e1] at h7; simp at h7; done) | (rw [e1] at h7; simp at h7; omega)
      · have zA : (readP s1).2.1 = 0 := (by omega)
        refine c_skip ?_; refine k_on ?_; refine c_seq ?_; refine c_seq ?_; refine c_region ?_; refine w_fa fa26_0 rfl ?_; refine w_load z24 rfl (fun _ h => cel_own 1 rfl rfl h) ?_
        refine w_r (fun _ => R_ne rfl rfl) rfl rfl ?_; refine w_nil ?_; refine k_on ?_
        refine c_condD rfl (fun h9 => ?_) (fun h9 => ?_)
        · have e1 := hJ.2.1 zA (by omega)
          refine c_seq ?_; refine c_region ?_; refine w_loadA z26 rfl (fun _ h => h.at_ 0 rfl) rfl ?_; refine w_fa fa26_0 rfl ?_; refine w_load z24 rfl (fun _ h => cel_own 1 rfl rfl h) ?_
          refine w_move (v := str _) rfl ?_; refine w_r (fun _ => R_slen st9 rfl (by omega)) rfl rfl ?_; refine w_r (fun _ => R_addi rfl rfl (by omega)) rfl rfl ?_; refine w_fa fa26_1 rfl ?_
          refine w_load z3 rfl (fun _ h => cel_own 1 rfl rfl h) ?_; refine w_r (fun _ => R_addi rfl rfl (by omega)) rfl rfl ?_; refine w_r (fun _ => R_build bt26 rfl) rfl rfl ?_
          refine w_r (fun _ => R_eqS fl26 rfl rfl (eq2_run (n := 9998) fl26 z24 z3 un24 un3)) rfl rfl ?_; refine w_move (v := .bool _) rfl ?_
          refine w_split (t := 69) rfl (fun h10 => ?_) (fun h10 => ?_)
          · refine w_want rfl rfl (congrArg Value.bool h10) ?_; refine w_call (fun w => R_call Tryd.func8 rfl rfl rfl) rfl rfl (fun w h => head_spec w (ht.fr (h.fr _ (.head _)) (fun x => x)) (Nat.le_trans hgs (h.fr _ (.head _)).size)) ?_
            refine w_r (v := .bool _) (fun _ => R_pickT (congrArg Value.bool h10) rfl) rfl rfl ?_; refine w_asg (v := .bool _) rfl ?_; refine w_nil ?_; refine k_on ?_; refine c_ret ?_
            refine k_ret (?_)
            refine r_one (v := .bool _) rfl rfl rfl ?_
            exact fun w' hw => ⟨rfl, hw.fr _ (.head _)⟩
          · first | exact absurd (by first | rfl | decide) h10 | (rw [e1] at h10; simp at h10; done) | (rw [e1] at h10; simp at h10; omega)
        · have zB : (readP s2).2.1 = 0 := (by omega); have e1 := hJ.2.2 zA zB; have hlC : (readP (((s1 ++ [10]) ++ s2) ++ [10, 47, 47, 32, 120])).1.length = (readP s1).1.length + (readP s2).1.length := (by rw [e1]; simp)
          refine c_skip ?_; refine k_on ?_; refine c_seq ?_; refine c_seq ?_; refine c_region ?_; refine w_fa fa26_0 rfl ?_; refine w_load z24 rfl (fun _ h => cel_own 0 rfl rfl h) ?_
          refine w_r (fun _ => R_ne rfl rfl) rfl rfl ?_; refine w_move (v := .bool _) rfl ?_
          refine w_splitD (t := 75) rfl (fun h11 => ?_) (fun h11 => ?_)
          · rw [e1] at h11; simp at h11
          · refine w_want rfl rfl (congrArg Value.bool (decide_eq_false h11)) ?_; refine w_move (v := .slice _ _ _) rfl ?_; refine w_want rfl rfl (congrArg Value.bool (decide_eq_false h11)) ?_
            refine w_r (fun _ => R_len sl23 rfl) rfl rfl ?_; refine w_want rfl rfl (congrArg Value.bool (decide_eq_false h11)) ?_; refine w_move (v := .slice _ _ _) rfl ?_
            refine w_want rfl rfl (congrArg Value.bool (decide_eq_false h11)) ?_; refine w_r (fun _ => R_len sl23 rfl) rfl rfl ?_; refine w_want rfl rfl (congrArg Value.bool (decide_eq_false h11)) ?_
            refine w_move (v := .slice _ _ _) rfl ?_; refine w_want rfl rfl (congrArg Value.bool (decide_eq_false h11)) ?_; refine w_r (fun _ => R_len sl23 rfl) rfl rfl ?_
            refine w_want rfl rfl (congrArg Value.bool (decide_eq_false h11)) ?_; refine w_r (fun _ => R_addi rfl rfl (by omega)) rfl rfl ?_; refine w_want rfl rfl (congrArg Value.bool (decide_eq_false h11)) ?_
            refine w_r (fun _ => R_ne rfl rfl) rfl rfl ?_; refine w_r (v := .bool _) (fun _ => R_pickF (congrArg Value.bool (decide_eq_false h11)) rfl) rfl rfl ?_; refine w_nil ?_
            refine k_on ?_
            refine c_condD rfl (fun h12 => ?_) (fun h12 => ?_)
            · exfalso; omega
            · refine c_skip ?_; refine k_on ?_; refine c_seq ?_; refine c_seq ?_; refine c_region ?_; refine w_asg (v := .int _ _) rfl ?_; refine w_nil ?_; refine k_on ?_; refine c_block ?_
              refine c_loop (fun m e B L => ∃ (i : Nat), e 0 = str s1 ∧ e 1 = str s2 ∧ e 5 = .slice a1 (readP s1).1.length c1 ∧ e 7 = .slice a2 (readP s2).1.length c2 ∧ e 9 = .slice a3 (readP (((s1 ++ [10]) ++ s2) ++ [10, 47, 47, 32, 120])).1.length c3 ∧ e 11 = .int .i64 (i : Nat) ∧ B = [(w, No)] ∧ L = (t10b, cel [.int .i64 ((readP (((s1 ++ [10]) ++ s2) ++ [10, 47, 47, 32, 120])).2.1 : Nat), .int .i64 ((readP (((s1 ++ [10]) ++ s2) ++ [10, 47, 47, 32, 120])).2.2 : Nat)] 26) :: (t8b, cel [.int .i64 ((readP s2).2.1 : Nat), .int .i64 ((readP s2).2.2 : Nat)] 26) :: (t6b, cel [.int .i64 ((readP s1).2.1 : Nat), .int .i64 ((readP s1).2.2 : Nat)] 26) :: ((W1 ++ W2) ++ W3) ∧ i ≤ (readP (((s1 ++ [10]) ++ s2) ++ [10, 47, 47, 32, 120])).1.length ∧ m = (readP (((s1 ++ [10]) ++ s2) ++ [10, 47, 47, 32, 120])).1.length - i) _ ⟨0, rfl, rfl, rfl, rfl, rfl, rfl, rfl, rfl, Nat.zero_le _, rfl⟩ ?_
              rintro m e B L ⟨i, e0_1, e1_1, e5_1, e7_1, e9_1, e11_1, rfl, rfl, hi, rfl⟩
              refine c_seq ?_; refine c_seq ?_; refine c_region ?_; refine w_move (v := .int _ _) e11_1 ?_; refine w_move (v := .slice _ _ _) e9_1 ?_; refine w_r (fun _ => R_len sl23 rfl) rfl rfl ?_
              refine w_r (fun _ => R_lt rfl rfl) rfl rfl ?_; refine w_nil ?_; refine k_on ?_
              refine c_condD rfl (fun h13 => ?_) (fun h13 => ?_)
              · have hlt : i < (readP (((s1 ++ [10]) ++ s2) ++ [10, 47, 47, 32, 120])).1.length := (by omega); obtain ⟨b3, rfl, hc3⟩ := hT3.cellS hlt
                refine c_skip ?_; refine k_on ?_; refine c_seq ?_; refine c_block ?_; refine c_seq ?_; refine c_seq ?_; refine c_draw mixed (by kernel_rfl) ?_; refine w_move (v := .int _ _) e11_1 ?_
                refine w_move (v := .slice _ _ _) e5_1 ?_; refine w_r (fun _ => R_len sl23 rfl) rfl rfl ?_; refine w_r (fun _ => R_lt rfl rfl) rfl rfl ?_; refine w_move (v := .bool _) rfl ?_
                refine w_splitD (t := 95) rfl (fun h14 => ?_) (fun h14 => ?_)
                · have hlt1 : i < (readP s1).1.length := (by omega); obtain ⟨b1, rfl, hc1⟩ := hT1.cellS hlt1; obtain ⟨tk, q1⟩ : ∃ tk, (readP s1).1[i]? = some tk := ⟨_, List.getElem?_eq_getElem hlt1⟩; have q3 : (readP (((s1 ++ [10]) ++ s2) ++ [10, 47, 47, 32, 120])).1[i]? = some tk := (by rw [e1]; simp only []; rw [List.getElem?_append_left hlt1]; exact q1)
                  refine w_want rfl rfl (congrArg Value.bool (decide_eq_true h14)) ?_; refine w_move (v := .slice _ _ _) e9_1 ?_; refine w_want rfl rfl (congrArg Value.bool (decide_eq_true h14)) ?_
                  refine w_move (v := .int _ _) e11_1 ?_; refine w_want rfl rfl (congrArg Value.bool (decide_eq_true h14)) ?_; refine w_r (fun _ => R_iaN (i := i) sl23 rfl rfl (by first | omega | decide)) rfl rfl ?_
                  refine w_want rfl rfl (congrArg Value.bool (decide_eq_true h14)) ?_
                  refine w_loadC (l := tkC (tk)) z35 rfl rfl (fun w h j v hj => hc3 _ _ _ (fun p hp => by simp [hp]) h _ q3 j v hj) ?_
                  refine w_want rfl rfl (congrArg Value.bool (decide_eq_true h14)) ?_; refine w_move (v := .slice _ _ _) e5_1 ?_; refine w_want rfl rfl (congrArg Value.bool (decide_eq_true h14)) ?_
                  refine w_move (v := .int _ _) e11_1 ?_; refine w_want rfl rfl (congrArg Value.bool (decide_eq_true h14)) ?_; refine w_r (fun _ => R_iaN (i := i) sl23 rfl rfl (by first | omega | decide)) rfl rfl ?_
                  refine w_want rfl rfl (congrArg Value.bool (decide_eq_true h14)) ?_
                  refine w_loadC (l := tkC (tk)) z35 rfl rfl (fun w h j v hj => hc1 _ _ _ (fun p hp => by simp [hp]) h _ q1 j v hj) ?_
                  refine w_want rfl rfl (congrArg Value.bool (decide_eq_true h14)) ?_; refine w_r (fun _ => R_neS fl35 rfl rfl (eq3_run (n := 9998) fl35 z5 z9 z3 un5 un9 un3)) rfl rfl ?_
                  refine w_r (v := .bool _) (fun _ => R_pickT (congrArg Value.bool (decide_eq_true h14)) rfl) rfl rfl ?_; refine w_nil ?_; refine k_on ?_
                  refine c_cond rfl (fun h15 => ?_) (fun h15 => ?_)
                  · simp at h15
                  · refine c_skip ?_; refine k_on ?_; refine c_seq ?_; refine c_region ?_; refine w_move (v := .int _ _) e11_1 ?_; refine w_move (v := .slice _ _ _) e5_1 ?_; refine w_r (fun _ => R_len sl23 rfl) rfl rfl ?_
                    refine w_r (fun _ => R_ge rfl rfl) rfl rfl ?_; refine w_nil ?_; refine k_on ?_
                    refine c_condD rfl (fun h16 => ?_) (fun h16 => ?_)
                    · exfalso; omega
                    · refine c_skip ?_; refine b_on (k_on ?_); refine c_region ?_; refine w_move (v := .int _ _) e11_1 ?_; refine w_r (fun _ => R_addi rfl rfl (by omega)) rfl rfl ?_
                      refine w_asg (v := .int _ _) rfl ?_; refine w_nil ?_
                      exact k_again _ (by omega) ⟨i + 1, e0_1, e1_1, e5_1, e7_1, e9_1, rfl, rfl, rfl, by omega, rfl⟩
                · refine w_skip rfl rfl (congrArg Value.bool (decide_eq_false h14)) ?_; refine w_skip rfl rfl (congrArg Value.bool (decide_eq_false h14)) ?_; refine w_skip rfl rfl (congrArg Value.bool (decide_eq_false h14)) ?_
                  refine w_skip rfl rfl (congrArg Value.bool (decide_eq_false h14)) ?_; refine w_skip rfl rfl (congrArg Value.bool (decide_eq_false h14)) ?_; refine w_skip rfl rfl (congrArg Value.bool (decide_eq_false h14)) ?_
                  refine w_skip rfl rfl (congrArg Value.bool (decide_eq_false h14)) ?_; refine w_skip rfl rfl (congrArg Value.bool (decide_eq_false h14)) ?_; refine w_skip rfl rfl (congrArg Value.bool (decide_eq_false h14)) ?_
                  refine w_r (v := .bool _) (fun _ => R_pickF (congrArg Value.bool (decide_eq_false h14)) rfl) rfl rfl ?_; refine w_nil ?_; refine k_on ?_; refine c_condF rfl ?_
                  refine c_skip ?_; refine k_on ?_; refine c_seq ?_; refine c_region ?_; refine w_move (v := .int _ _) e11_1 ?_; refine w_move (v := .slice _ _ _) e5_1 ?_; refine w_r (fun _ => R_len sl23 rfl) rfl rfl ?_
                  refine w_r (fun _ => R_ge rfl rfl) rfl rfl ?_; refine w_nil ?_; refine k_on ?_
                  refine c_condD rfl (fun h17 => ?_) (fun h17 => ?_)
                  · obtain ⟨d, hd⟩ : ∃ d : Nat, (i : Int) - ((readP s1).1.length : Nat) = d := ⟨i - (readP s1).1.length, by omega⟩; have hdl : d < (readP s2).1.length := (by omega); obtain ⟨b2, rfl, hc2⟩ := hT2.cellS hdl; obtain ⟨tk, q2⟩ : ∃ tk, (readP s2).1[d]? = some tk := ⟨_, List.getElem?_eq_getElem hdl⟩; have hta := hat2.1 tk (List.mem_of_getElem? q2); have q3 : (readP (((s1 ++ [10]) ++ s2) ++ [10, 47, 47, 32, 120])).1[i]? = some (sh (s1.length + 1) tk) := (by rw [e1]; simp only []; rw [List.getElem?_append_right (by omega), show i - (readP s1).1.length = d by omega, List.getElem?_map, q2]; rfl)
                    refine c_seq ?_; refine c_region ?_; refine w_move (v := .slice _ _ _) e7_1 ?_; refine w_move (v := .int _ _) e11_1 ?_; refine w_move (v := .slice _ _ _) e5_1 ?_
                    refine w_r (fun _ => R_len sl23 rfl) rfl rfl ?_; refine w_r (fun _ => R_subi rfl rfl (by omega)) rfl rfl ?_; refine w_r (fun _ => R_iaN (i := d) sl23 rfl (congrArg (Value.int .i64) hd) (by first | omega | decide)) rfl rfl ?_
                    refine w_loadC (l := tkC (tk)) z35 rfl rfl (fun w h j v hj => hc2 _ _ _ (fun p hp => by simp [hp]) h _ q2 j v hj) ?_
                    refine w_alloc zr35 (fun t12b gt12b ut12b => ?_)
                    refine w_store 0 rfl z35 rfl rfl rfl rfl rfl rfl rfl ?_; refine w_nil ?_; refine k_on ?_; refine c_seq ?_; refine c_region ?_; refine w_fa fa35_2 rfl ?_; refine w_load z3 rfl (fun _ h => cel_own 0 rfl rfl h) ?_
                    refine w_move (v := str _) e0_1 ?_; refine w_r (fun _ => R_slen st9 rfl (by omega)) rfl rfl ?_; refine w_r (fun _ => R_addi rfl rfl (by omega)) rfl rfl ?_; refine w_r (fun _ => R_addi rfl rfl (by omega)) rfl rfl ?_
                    refine w_fa fa35_2 rfl ?_; refine w_store 0 rfl z3 rfl rfl rfl rfl rfl rfl rfl ?_; refine w_nil ?_; refine k_on ?_; refine c_seq ?_; refine c_draw mixed (by kernel_rfl) ?_
                    refine w_move (v := .slice _ _ _) e9_1 ?_; refine w_move (v := .int _ _) e11_1 ?_; refine w_r (fun _ => R_iaN (i := i) sl23 rfl rfl (by first | omega | decide)) rfl rfl ?_
                    refine w_loadC (l := tkC (sh (s1.length + 1) tk)) z35 rfl rfl (fun w h j v hj => hc3 _ _ _ (fun p hp => by simp [hp]) h _ q3 j v hj) ?_
                    refine w_loadA z35 rfl (fun _ h => h.at_ 0 rfl) rfl ?_; refine w_r (fun _ => R_neS fl35 rfl rfl (eq3_run (n := 9998) fl35 z5 z9 z3 un5 un9 un3)) rfl rfl ?_
                    refine w_nil ?_; refine k_on ?_
                    refine c_cond rfl (fun h19 => ?_) (fun h19 => ?_)
                    · simp [sh] at h19; have h20 := of_decide_eq_false h19; omega
                    · refine c_skip ?_; refine b_on (k_on ?_); refine c_region ?_; refine w_move (v := .int _ _) e11_1 ?_; refine w_r (fun _ => R_addi rfl rfl (by omega)) rfl rfl ?_
                      refine w_asg (v := .int _ _) rfl ?_; refine w_nil ?_
                      refine k_st (B' := [(w, No)]) (L' := (t10b, cel [.int .i64 ((readP (((s1 ++ [10]) ++ s2) ++ [10, 47, 47, 32, 120])).2.1 : Nat), .int .i64 ((readP (((s1 ++ [10]) ++ s2) ++ [10, 47, 47, 32, 120])).2.2 : Nat)] 26) :: (t8b, cel [.int .i64 ((readP s2).2.1 : Nat), .int .i64 ((readP s2).2.2 : Nat)] 26) :: (t6b, cel [.int .i64 ((readP s1).2.1 : Nat), .int .i64 ((readP s1).2.2 : Nat)] 26) :: ((W1 ++ W2) ++ W3)) (fun w h => h.drop (List.sublist_cons_self _ _)) ?_
                      exact k_again _ (by omega) ⟨i + 1, e0_1, e1_1, e5_1, e7_1, e9_1, rfl, rfl, rfl, by omega, rfl⟩
                  · exfalso; omega
              · refine c_exit ?_; refine k_exit (k_exit (b_here rfl (k_on ?_))); refine c_seq ?_; refine c_region ?_; refine w_call (fun w => R_call Tryd.func8 rfl rfl rfl) rfl rfl (fun w h => head_spec w (ht.fr (h.fr _ (.head _)) (fun x => x)) (Nat.le_trans hgs (h.fr _ (.head _)).size)) ?_
                refine w_asg (v := .bool _) rfl ?_; refine w_nil ?_; refine k_on ?_; refine c_ret ?_
                refine r_one (v := .bool _) rfl rfl rfl ?_
                exact fun w' hw => ⟨rfl, hw.fr _ (.head _)⟩
end Go.Proofs.YtmcajoiembfjiaaDoor
