import Derived.Test.YtmcajoiembfjiaaDoorTokfT
import Derived.Test.YtmcajoiembfjiaaDoorTok3
import Derived.Test.YtmcajoiembfjiaaDoorTokF
namespace Go.Proofs.YtmcajoiembfjiaaDoor
open Go.RowKit Go.Sx
open Go.Tok
theorem two_at {k : Nat} (h : k < 5) : ([str [61, 61], str [33, 61], str [60, 61], str [62, 61], str [43, 61]] : List Value)[0 + k * 1]? = some (str (signsL.getD k [])) := by
  match k, h with
  | 0, _ => rfl
  | 1, _ => rfl
  | 2, _ => rfl
  | 3, _ => rfl
  | 4, _ => rfl

set_option maxRecDepth 100000 in
set_option maxHeartbeats 400000 in
theorem rdigit_spec (s : List UInt8) (i : Nat) (hs : s.length ≤ 100000) (hi : i ≤ 200000) (w : World) :
    Ret Tryd.prog 17 #[str s, .int .i64 (i : Nat)] w (fun v w' => v = .bool (atP digitB s i) ∧ Ext w w') := by
  refine enter (S := No) (l := [_, _]) (L := []) 21 Tryd.func17 rfl rfl rfl (St.start w No) ?_
  refine c_seq ?_; refine c_region ?_; refine w_asg (v := .bool _) rfl ?_; refine w_nil ?_; refine k_on ?_; refine c_seq ?_; refine c_region ?_; refine w_move (v := .int _ _) rfl ?_
  refine w_move (v := str _) rfl ?_; refine w_r (fun _ => R_slen st9 rfl (by omega)) rfl rfl ?_; refine w_r (fun _ => R_lt rfl rfl) rfl rfl ?_; refine w_move (v := .bool _) rfl ?_
  refine w_splitD (t := 9) rfl (fun h1 => ?_) (fun h1 => ?_)
  · refine w_want rfl rfl (congrArg Value.bool (decide_eq_true h1)) ?_; refine w_move (v := str _) rfl ?_; refine w_want rfl rfl (congrArg Value.bool (decide_eq_true h1)) ?_
    refine w_move (v := .int _ _) rfl ?_; refine w_want rfl rfl (congrArg Value.bool (decide_eq_true h1)) ?_; refine w_sidx st9 rfl rfl (by omega) ?_; refine w_want rfl rfl (congrArg Value.bool (decide_eq_true h1)) ?_
    refine w_r (fun _ => R_ge rfl rfl) rfl rfl ?_; refine w_r (v := .bool _) (fun _ => R_pickT (congrArg Value.bool (decide_eq_true h1)) rfl) rfl rfl ?_; refine w_move (v := .bool _) rfl ?_
    refine w_splitD (t := 15) rfl (fun h2 => ?_) (fun h2 => ?_)
    · refine w_want rfl rfl (congrArg Value.bool (decide_eq_true h2)) ?_; refine w_move (v := str _) rfl ?_; refine w_want rfl rfl (congrArg Value.bool (decide_eq_true h2)) ?_
      refine w_move (v := .int _ _) rfl ?_; refine w_want rfl rfl (congrArg Value.bool (decide_eq_true h2)) ?_; refine w_sidx st9 rfl rfl (by omega) ?_; refine w_want rfl rfl (congrArg Value.bool (decide_eq_true h2)) ?_
      refine w_r (fun _ => R_le rfl rfl) rfl rfl ?_; refine w_r (v := .bool _) (fun _ => R_pickT (congrArg Value.bool (decide_eq_true h2)) rfl) rfl rfl ?_; refine w_asg (v := .bool _) rfl ?_
      refine w_nil ?_; refine k_on ?_; refine c_ret ?_
      refine r_one (v := .bool _) rfl rfl rfl ?_
      exact fun w' hw => ⟨by first | (exfalso; omega) | rw [atP_out (by omega)] | (rw [atP_in (by omega), digit_int]; done) | (rw [atP_in (by omega), digit_int]; simp [*]; done) | (rw [atP_in (by omega), digit_int]; congr 1; simp_all; done), hw.fr _ (.head _)⟩
    · refine w_skip rfl rfl (congrArg Value.bool (decide_eq_false h2)) ?_; refine w_skip rfl rfl (congrArg Value.bool (decide_eq_false h2)) ?_; refine w_skip rfl rfl (congrArg Value.bool (decide_eq_false h2)) ?_
      refine w_skip rfl rfl (congrArg Value.bool (decide_eq_false h2)) ?_; refine w_r (v := .bool _) (fun _ => R_pickF (congrArg Value.bool (decide_eq_false h2)) rfl) rfl rfl ?_
      refine w_asg (v := .bool _) rfl ?_; refine w_nil ?_; refine k_on ?_; refine c_ret ?_
      refine r_one (v := .bool _) rfl rfl rfl ?_
      exact fun w' hw => ⟨by first | (exfalso; omega) | rw [atP_out (by omega)] | (rw [atP_in (by omega), digit_int]; done) | (rw [atP_in (by omega), digit_int]; simp [*]; done) | (rw [atP_in (by omega), digit_int]; congr 1; simp_all; done), hw.fr _ (.head _)⟩
  · refine w_skip rfl rfl (congrArg Value.bool (decide_eq_false h1)) ?_; refine w_skip rfl rfl (congrArg Value.bool (decide_eq_false h1)) ?_; refine w_skip rfl rfl (congrArg Value.bool (decide_eq_false h1)) ?_
    refine w_skip rfl rfl (congrArg Value.bool (decide_eq_false h1)) ?_; refine w_r (v := .bool _) (fun _ => R_pickF (congrArg Value.bool (decide_eq_false h1)) rfl) rfl rfl ?_
    refine w_move (v := .bool _) rfl ?_; refine w_skip rfl rfl rfl ?_; refine w_skip rfl rfl rfl ?_; refine w_skip rfl rfl rfl ?_; refine w_skip rfl rfl rfl ?_; refine w_r (v := .bool _) (fun _ => R_pickF rfl rfl) rfl rfl ?_
    refine w_asg (v := .bool _) rfl ?_; refine w_nil ?_; refine k_on ?_; refine c_ret ?_
    refine r_one (v := .bool _) rfl rfl rfl ?_
    exact fun w' hw => ⟨by first | (exfalso; omega) | rw [atP_out (by omega)] | (rw [atP_in (by omega), digit_int]; done) | (rw [atP_in (by omega), digit_int]; simp [*]; done) | (rw [atP_in (by omega), digit_int]; congr 1; simp_all; done), hw.fr _ (.head _)⟩

set_option maxRecDepth 100000 in
set_option maxHeartbeats 400000 in
theorem rletter_spec (s : List UInt8) (i : Nat) (hs : s.length ≤ 100000) (hi : i ≤ 200000) (w : World) :
    Ret Tryd.prog 16 #[str s, .int .i64 (i : Nat)] w (fun v w' => v = .bool (atP letterB s i) ∧ Ext w w') := by
  refine enter (S := No) (l := [_, _]) (L := []) 39 Tryd.func16 rfl rfl rfl (St.start w No) ?_
  refine c_seq ?_; refine c_region ?_; refine w_asg (v := .bool _) rfl ?_; refine w_nil ?_; refine k_on ?_; refine c_seq ?_; refine c_region ?_; refine w_move (v := .int _ _) rfl ?_
  refine w_move (v := str _) rfl ?_; refine w_r (fun _ => R_slen st9 rfl (by omega)) rfl rfl ?_; refine w_r (fun _ => R_lt rfl rfl) rfl rfl ?_; refine w_move (v := .bool _) rfl ?_
  refine w_splitD (t := 9) rfl (fun h1 => ?_) (fun h1 => ?_)
  · refine w_want rfl rfl (congrArg Value.bool (decide_eq_true h1)) ?_; refine w_move (v := str _) rfl ?_; refine w_want rfl rfl (congrArg Value.bool (decide_eq_true h1)) ?_
    refine w_move (v := .int _ _) rfl ?_; refine w_want rfl rfl (congrArg Value.bool (decide_eq_true h1)) ?_; refine w_sidx st9 rfl rfl (by omega) ?_; refine w_want rfl rfl (congrArg Value.bool (decide_eq_true h1)) ?_
    refine w_r (fun _ => R_ge rfl rfl) rfl rfl ?_; refine w_want rfl rfl (congrArg Value.bool (decide_eq_true h1)) ?_; refine w_move (v := .bool _) rfl ?_
    refine w_splitD (t := 14) rfl (fun h2 => ?_) (fun h2 => ?_)
    · refine w_want rfl rfl (congrArg Value.bool (decide_eq_true h2)) ?_; refine w_move (v := str _) rfl ?_; refine w_want rfl rfl (congrArg Value.bool (decide_eq_true h2)) ?_
      refine w_move (v := .int _ _) rfl ?_; refine w_want rfl rfl (congrArg Value.bool (decide_eq_true h2)) ?_; refine w_sidx st9 rfl rfl (by omega) ?_; refine w_want rfl rfl (congrArg Value.bool (decide_eq_true h2)) ?_
      refine w_r (fun _ => R_le rfl rfl) rfl rfl ?_; refine w_want rfl rfl (congrArg Value.bool (decide_eq_true h1)) ?_; refine w_r (v := .bool _) (fun _ => R_pickT (congrArg Value.bool (decide_eq_true h2)) rfl) rfl rfl ?_
      refine w_want rfl rfl (congrArg Value.bool (decide_eq_true h1)) ?_; refine w_move (v := .bool _) rfl ?_
      refine w_splitD (t := 20) rfl (fun h3 => ?_) (fun h3 => ?_)
      · refine w_skip rfl rfl (congrArg Value.bool (decide_eq_true h3)) ?_; refine w_skip rfl rfl (congrArg Value.bool (decide_eq_true h3)) ?_; refine w_skip rfl rfl (congrArg Value.bool (decide_eq_true h3)) ?_
        refine w_skip rfl rfl (congrArg Value.bool (decide_eq_true h3)) ?_; refine w_skip rfl rfl (congrArg Value.bool (decide_eq_true h3)) ?_; refine w_skipU rfl rfl rfl ?_
        refine w_skipU rfl rfl rfl ?_; refine w_skipU rfl rfl rfl ?_; refine w_skipU rfl rfl rfl ?_; refine w_skip rfl rfl (congrArg Value.bool (decide_eq_true h3)) ?_
        refine w_want rfl rfl (congrArg Value.bool (decide_eq_true h1)) ?_; refine w_r (v := .bool _) (fun _ => R_pickT (congrArg Value.bool (decide_eq_true h3)) rfl) rfl rfl ?_
        refine w_want rfl rfl (congrArg Value.bool (decide_eq_true h1)) ?_; refine w_move (v := .bool _) rfl ?_; refine w_skip rfl rfl rfl ?_; refine w_skip rfl rfl rfl ?_
        refine w_skip rfl rfl rfl ?_; refine w_skip rfl rfl rfl ?_; refine w_want rfl rfl (congrArg Value.bool (decide_eq_true h1)) ?_; refine w_r (v := .bool _) (fun _ => R_pickT rfl rfl) rfl rfl ?_
        refine w_r (v := .bool _) (fun _ => R_pickT (congrArg Value.bool (decide_eq_true h1)) rfl) rfl rfl ?_; refine w_asg (v := .bool _) rfl ?_; refine w_nil ?_; refine k_on ?_
        refine c_ret ?_
        refine r_one (v := .bool _) rfl rfl rfl ?_
        exact fun w' hw => ⟨by first | (exfalso; omega) | rw [atP_out (by omega)] | (rw [atP_in (by omega), letter_int]; done) | (rw [atP_in (by omega), letter_int]; simp [*]; done) | (rw [atP_in (by omega), letter_int]; congr 1; simp_all; done), hw.fr _ (.head _)⟩
      · refine w_want rfl rfl (congrArg Value.bool (decide_eq_false h3)) ?_; refine w_move (v := str _) rfl ?_; refine w_want rfl rfl (congrArg Value.bool (decide_eq_false h3)) ?_
        refine w_move (v := .int _ _) rfl ?_; refine w_want rfl rfl (congrArg Value.bool (decide_eq_false h3)) ?_; refine w_sidx st9 rfl rfl (by omega) ?_; refine w_want rfl rfl (congrArg Value.bool (decide_eq_false h3)) ?_
        refine w_r (fun _ => R_ge rfl rfl) rfl rfl ?_; refine w_want rfl rfl (congrArg Value.bool (decide_eq_false h3)) ?_; refine w_move (v := .bool _) rfl ?_
        refine w_splitD (t := 25) rfl (fun h4 => ?_) (fun h4 => ?_)
        · refine w_want rfl rfl (congrArg Value.bool (decide_eq_true h4)) ?_; refine w_move (v := str _) rfl ?_; refine w_want rfl rfl (congrArg Value.bool (decide_eq_true h4)) ?_
          refine w_move (v := .int _ _) rfl ?_; refine w_want rfl rfl (congrArg Value.bool (decide_eq_true h4)) ?_; refine w_sidx st9 rfl rfl (by omega) ?_; refine w_want rfl rfl (congrArg Value.bool (decide_eq_true h4)) ?_
          refine w_r (fun _ => R_le rfl rfl) rfl rfl ?_; refine w_want rfl rfl (congrArg Value.bool (decide_eq_false h3)) ?_; refine w_r (v := .bool _) (fun _ => R_pickT (congrArg Value.bool (decide_eq_true h4)) rfl) rfl rfl ?_
          refine w_want rfl rfl (congrArg Value.bool (decide_eq_true h1)) ?_; refine w_r (v := .bool _) (fun _ => R_pickF (congrArg Value.bool (decide_eq_false h3)) rfl) rfl rfl ?_
          refine w_want rfl rfl (congrArg Value.bool (decide_eq_true h1)) ?_; refine w_move (v := .bool _) rfl ?_
          refine w_splitD (t := 32) rfl (fun h5 => ?_) (fun h5 => ?_)
          · refine w_skip rfl rfl (congrArg Value.bool (decide_eq_true h5)) ?_; refine w_skip rfl rfl (congrArg Value.bool (decide_eq_true h5)) ?_; refine w_skip rfl rfl (congrArg Value.bool (decide_eq_true h5)) ?_
            refine w_skip rfl rfl (congrArg Value.bool (decide_eq_true h5)) ?_; refine w_want rfl rfl (congrArg Value.bool (decide_eq_true h1)) ?_; refine w_r (v := .bool _) (fun _ => R_pickT (congrArg Value.bool (decide_eq_true h5)) rfl) rfl rfl ?_
            refine w_r (v := .bool _) (fun _ => R_pickT (congrArg Value.bool (decide_eq_true h1)) rfl) rfl rfl ?_; refine w_asg (v := .bool _) rfl ?_; refine w_nil ?_; refine k_on ?_
            refine c_ret ?_
            refine r_one (v := .bool _) rfl rfl rfl ?_
            exact fun w' hw => ⟨by first | (exfalso; omega) | rw [atP_out (by omega)] | (rw [atP_in (by omega), letter_int]; done) | (rw [atP_in (by omega), letter_int]; simp [*]; done) | (rw [atP_in (by omega), letter_int]; congr 1; simp_all; done), hw.fr _ (.head _)⟩
          · refine w_want rfl rfl (congrArg Value.bool (decide_eq_false h5)) ?_; refine w_move (v := str _) rfl ?_; refine w_want rfl rfl (congrArg Value.bool (decide_eq_false h5)) ?_
            refine w_move (v := .int _ _) rfl ?_; refine w_want rfl rfl (congrArg Value.bool (decide_eq_false h5)) ?_; refine w_sidx st9 rfl rfl (by omega) ?_; refine w_want rfl rfl (congrArg Value.bool (decide_eq_false h5)) ?_
            refine w_r (fun _ => R_eq rfl rfl) rfl rfl ?_; refine w_want rfl rfl (congrArg Value.bool (decide_eq_true h1)) ?_; refine w_r (v := .bool _) (fun _ => R_pickF (congrArg Value.bool (decide_eq_false h5)) rfl) rfl rfl ?_
            refine w_r (v := .bool _) (fun _ => R_pickT (congrArg Value.bool (decide_eq_true h1)) rfl) rfl rfl ?_; refine w_asg (v := .bool _) rfl ?_; refine w_nil ?_; refine k_on ?_
            refine c_ret ?_
            refine r_one (v := .bool _) rfl rfl rfl ?_
            exact fun w' hw => ⟨by first | (exfalso; omega) | rw [atP_out (by omega)] | (rw [atP_in (by omega), letter_int]; done) | (rw [atP_in (by omega), letter_int]; simp [*]; done) | (rw [atP_in (by omega), letter_int]; congr 1; simp_all; done), hw.fr _ (.head _)⟩
        · refine w_skip rfl rfl (congrArg Value.bool (decide_eq_false h4)) ?_; refine w_skip rfl rfl (congrArg Value.bool (decide_eq_false h4)) ?_; refine w_skip rfl rfl (congrArg Value.bool (decide_eq_false h4)) ?_
          refine w_skip rfl rfl (congrArg Value.bool (decide_eq_false h4)) ?_; refine w_want rfl rfl (congrArg Value.bool (decide_eq_false h3)) ?_; refine w_r (v := .bool _) (fun _ => R_pickF (congrArg Value.bool (decide_eq_false h4)) rfl) rfl rfl ?_
          refine w_want rfl rfl (congrArg Value.bool (decide_eq_true h1)) ?_; refine w_r (v := .bool _) (fun _ => R_pickF (congrArg Value.bool (decide_eq_false h3)) rfl) rfl rfl ?_
          refine w_want rfl rfl (congrArg Value.bool (decide_eq_true h1)) ?_; refine w_move (v := .bool _) rfl ?_; refine w_want rfl rfl rfl ?_; refine w_move (v := str _) rfl ?_
          refine w_want rfl rfl rfl ?_; refine w_move (v := .int _ _) rfl ?_; refine w_want rfl rfl rfl ?_; refine w_sidx st9 rfl rfl (by omega) ?_; refine w_want rfl rfl rfl ?_
          refine w_r (fun _ => R_eq rfl rfl) rfl rfl ?_; refine w_want rfl rfl (congrArg Value.bool (decide_eq_true h1)) ?_; refine w_r (v := .bool _) (fun _ => R_pickF rfl rfl) rfl rfl ?_
          refine w_r (v := .bool _) (fun _ => R_pickT (congrArg Value.bool (decide_eq_true h1)) rfl) rfl rfl ?_; refine w_asg (v := .bool _) rfl ?_; refine w_nil ?_; refine k_on ?_
          refine c_ret ?_
          refine r_one (v := .bool _) rfl rfl rfl ?_
          exact fun w' hw => ⟨by first | (exfalso; omega) | rw [atP_out (by omega)] | (rw [atP_in (by omega), letter_int]; done) | (rw [atP_in (by omega), letter_int]; simp [*]; done) | (rw [atP_in (by omega), letter_int]; congr 1; simp_all; done), hw.fr _ (.head _)⟩
    · refine w_skip rfl rfl (congrArg Value.bool (decide_eq_false h2)) ?_; refine w_skip rfl rfl (congrArg Value.bool (decide_eq_false h2)) ?_; refine w_skip rfl rfl (congrArg Value.bool (decide_eq_false h2)) ?_
      refine w_skip rfl rfl (congrArg Value.bool (decide_eq_false h2)) ?_; refine w_want rfl rfl (congrArg Value.bool (decide_eq_true h1)) ?_; refine w_r (v := .bool _) (fun _ => R_pickF (congrArg Value.bool (decide_eq_false h2)) rfl) rfl rfl ?_
      refine w_want rfl rfl (congrArg Value.bool (decide_eq_true h1)) ?_; refine w_move (v := .bool _) rfl ?_; refine w_want rfl rfl rfl ?_; refine w_move (v := str _) rfl ?_
      refine w_want rfl rfl rfl ?_; refine w_move (v := .int _ _) rfl ?_; refine w_want rfl rfl rfl ?_; refine w_sidx st9 rfl rfl (by omega) ?_; refine w_want rfl rfl rfl ?_
      refine w_r (fun _ => R_ge rfl rfl) rfl rfl ?_; refine w_want rfl rfl rfl ?_; refine w_move (v := .bool _) rfl ?_
      refine w_splitD (t := 25) rfl (fun h6 => ?_) (fun h6 => ?_)
      · refine w_want rfl rfl (congrArg Value.bool (decide_eq_true h6)) ?_; refine w_move (v := str _) rfl ?_; refine w_want rfl rfl (congrArg Value.bool (decide_eq_true h6)) ?_
        refine w_move (v := .int _ _) rfl ?_; refine w_want rfl rfl (congrArg Value.bool (decide_eq_true h6)) ?_; refine w_sidx st9 rfl rfl (by omega) ?_; refine w_want rfl rfl (congrArg Value.bool (decide_eq_true h6)) ?_
        refine w_r (fun _ => R_le rfl rfl) rfl rfl ?_; refine w_want rfl rfl rfl ?_; refine w_r (v := .bool _) (fun _ => R_pickT (congrArg Value.bool (decide_eq_true h6)) rfl) rfl rfl ?_
        refine w_want rfl rfl (congrArg Value.bool (decide_eq_true h1)) ?_; refine w_r (v := .bool _) (fun _ => R_pickF rfl rfl) rfl rfl ?_; refine w_want rfl rfl (congrArg Value.bool (decide_eq_true h1)) ?_
        refine w_move (v := .bool _) rfl ?_
        refine w_splitD (t := 32) rfl (fun h7 => ?_) (fun h7 => ?_)
        · refine w_skip rfl rfl (congrArg Value.bool (decide_eq_true h7)) ?_; refine w_skip rfl rfl (congrArg Value.bool (decide_eq_true h7)) ?_; refine w_skip rfl rfl (congrArg Value.bool (decide_eq_true h7)) ?_
          refine w_skip rfl rfl (congrArg Value.bool (decide_eq_true h7)) ?_; refine w_want rfl rfl (congrArg Value.bool (decide_eq_true h1)) ?_; refine w_r (v := .bool _) (fun _ => R_pickT (congrArg Value.bool (decide_eq_true h7)) rfl) rfl rfl ?_
          refine w_r (v := .bool _) (fun _ => R_pickT (congrArg Value.bool (decide_eq_true h1)) rfl) rfl rfl ?_; refine w_asg (v := .bool _) rfl ?_; refine w_nil ?_; refine k_on ?_
          refine c_ret ?_
          refine r_one (v := .bool _) rfl rfl rfl ?_
          exact fun w' hw => ⟨by first | (exfalso; omega) | rw [atP_out (by omega)] | (rw [atP_in (by omega), letter_int]; done) | (rw [atP_in (by omega), letter_int]; simp [*]; done) | (rw [atP_in (by omega), letter_int]; congr 1; simp_all; done), hw.fr _ (.head _)⟩
        · refine w_want rfl rfl (congrArg Value.bool (decide_eq_false h7)) ?_; refine w_move (v := str _) rfl ?_; refine w_want rfl rfl (congrArg Value.bool (decide_eq_false h7)) ?_
          refine w_move (v := .int _ _) rfl ?_; refine w_want rfl rfl (congrArg Value.bool (decide_eq_false h7)) ?_; refine w_sidx st9 rfl rfl (by omega) ?_; refine w_want rfl rfl (congrArg Value.bool (decide_eq_false h7)) ?_
          refine w_r (fun _ => R_eq rfl rfl) rfl rfl ?_; refine w_want rfl rfl (congrArg Value.bool (decide_eq_true h1)) ?_; refine w_r (v := .bool _) (fun _ => R_pickF (congrArg Value.bool (decide_eq_false h7)) rfl) rfl rfl ?_
          refine w_r (v := .bool _) (fun _ => R_pickT (congrArg Value.bool (decide_eq_true h1)) rfl) rfl rfl ?_; refine w_asg (v := .bool _) rfl ?_; refine w_nil ?_; refine k_on ?_
          refine c_ret ?_
          refine r_one (v := .bool _) rfl rfl rfl ?_
          exact fun w' hw => ⟨by first | (exfalso; omega) | rw [atP_out (by omega)] | (rw [atP_in (by omega), letter_int]; done) | (rw [atP_in (by omega), letter_int]; simp [*]; done) | (rw [atP_in (by omega), letter_int]; congr 1; simp_all; done), hw.fr _ (.head _)⟩
      · refine w_skip rfl rfl (congrArg Value.bool (decide_eq_false h6)) ?_; refine w_skip rfl rfl (congrArg Value.bool (decide_eq_false h6)) ?_; refine w_skip rfl rfl (congrArg Value.bool (decide_eq_false h6)) ?_
        refine w_skip rfl rfl (congrArg Value.bool (decide_eq_false h6)) ?_; refine w_want rfl rfl rfl ?_; refine w_r (v := .bool _) (fun _ => R_pickF (congrArg Value.bool (decide_eq_false h6)) rfl) rfl rfl ?_
        refine w_want rfl rfl (congrArg Value.bool (decide_eq_true h1)) ?_; refine w_r (v := .bool _) (fun _ => R_pickF rfl rfl) rfl rfl ?_; refine w_want rfl rfl (congrArg Value.bool (decide_eq_true h1)) ?_
        refine w_move (v := .bool _) rfl ?_; refine w_want rfl rfl rfl ?_; refine w_move (v := str _) rfl ?_; refine w_want rfl rfl rfl ?_; refine w_move (v := .int _ _) rfl ?_
        refine w_want rfl rfl rfl ?_; refine w_sidx st9 rfl rfl (by omega) ?_; refine w_want rfl rfl rfl ?_; refine w_r (fun _ => R_eq rfl rfl) rfl rfl ?_; refine w_want rfl rfl (congrArg Value.bool (decide_eq_true h1)) ?_
        refine w_r (v := .bool _) (fun _ => R_pickF rfl rfl) rfl rfl ?_; refine w_r (v := .bool _) (fun _ => R_pickT (congrArg Value.bool (decide_eq_true h1)) rfl) rfl rfl ?_
        refine w_asg (v := .bool _) rfl ?_; refine w_nil ?_; refine k_on ?_; refine c_ret ?_
        refine r_one (v := .bool _) rfl rfl rfl ?_
        exact fun w' hw => ⟨by first | (exfalso; omega) | rw [atP_out (by omega)] | (rw [atP_in (by omega), letter_int]; done) | (rw [atP_in (by omega), letter_int]; simp [*]; done) | (rw [atP_in (by omega), letter_int]; congr 1; simp_all; done), hw.fr _ (.head _)⟩
  · refine w_skip rfl rfl (congrArg Value.bool (decide_eq_false h1)) ?_; refine w_skip rfl rfl (congrArg Value.bool (decide_eq_false h1)) ?_; refine w_skip rfl rfl (congrArg Value.bool (decide_eq_false h1)) ?_
    refine w_skip rfl rfl (congrArg Value.bool (decide_eq_false h1)) ?_; refine w_skip rfl rfl (congrArg Value.bool (decide_eq_false h1)) ?_; refine w_skipU rfl rfl rfl ?_
    refine w_skipU rfl rfl rfl ?_; refine w_skipU rfl rfl rfl ?_; refine w_skipU rfl rfl rfl ?_; refine w_skip rfl rfl (congrArg Value.bool (decide_eq_false h1)) ?_
    refine w_skip rfl rfl (congrArg Value.bool (decide_eq_false h1)) ?_; refine w_skipU rfl rfl rfl ?_; refine w_skipU rfl rfl rfl ?_; refine w_skipU rfl rfl rfl ?_
    refine w_skipU rfl rfl rfl ?_; refine w_skipU rfl rfl rfl ?_; refine w_skipU rfl rfl rfl ?_; refine w_skipU rfl rfl rfl ?_; refine w_skipU rfl rfl rfl ?_; refine w_skipU rfl rfl rfl ?_
    refine w_skipU rfl rfl rfl ?_; refine w_skip rfl rfl (congrArg Value.bool (decide_eq_false h1)) ?_; refine w_skip rfl rfl (congrArg Value.bool (decide_eq_false h1)) ?_
    refine w_skipU rfl rfl rfl ?_; refine w_skipU rfl rfl rfl ?_; refine w_skipU rfl rfl rfl ?_; refine w_skipU rfl rfl rfl ?_; refine w_skip rfl rfl (congrArg Value.bool (decide_eq_false h1)) ?_
    refine w_r (v := .bool _) (fun _ => R_pickF (congrArg Value.bool (decide_eq_false h1)) rfl) rfl rfl ?_; refine w_asg (v := .bool _) rfl ?_; refine w_nil ?_
    refine k_on ?_; refine c_ret ?_
    refine r_one (v := .bool _) rfl rfl rfl ?_
    exact fun w' hw => ⟨by first | (exfalso; omega) | rw [atP_out (by omega)] | (rw [atP_in (by omega), letter_int]; done) | (rw [atP_in (by omega), letter_int]; simp [*]; done) | (rw [atP_in (by omega), letter_int]; congr 1; simp_all; done), hw.fr _ (.head _)⟩

set_option maxRecDepth 100000 in
set_option maxHeartbeats 400000 in
theorem rblank_spec (s : List UInt8) (i : Nat) (hs : s.length ≤ 100000) (hi : i ≤ 200000) (w : World) :
    Ret Tryd.prog 27 #[str s, .int .i64 (i : Nat)] w (fun v w' => v = .bool (atP blankB s i) ∧ Ext w w') := by
  refine enter (S := No) (l := [_, _]) (L := []) 33 Tryd.func27 rfl rfl rfl (St.start w No) ?_
  refine c_seq ?_; refine c_region ?_; refine w_asg (v := .bool _) rfl ?_; refine w_nil ?_; refine k_on ?_; refine c_seq ?_; refine c_region ?_; refine w_move (v := .int _ _) rfl ?_
  refine w_move (v := str _) rfl ?_; refine w_r (fun _ => R_slen st9 rfl (by omega)) rfl rfl ?_; refine w_r (fun _ => R_lt rfl rfl) rfl rfl ?_; refine w_move (v := .bool _) rfl ?_
  refine w_splitD (t := 9) rfl (fun h1 => ?_) (fun h1 => ?_)
  · refine w_want rfl rfl (congrArg Value.bool (decide_eq_true h1)) ?_; refine w_move (v := str _) rfl ?_; refine w_want rfl rfl (congrArg Value.bool (decide_eq_true h1)) ?_
    refine w_move (v := .int _ _) rfl ?_; refine w_want rfl rfl (congrArg Value.bool (decide_eq_true h1)) ?_; refine w_sidx st9 rfl rfl (by omega) ?_; refine w_want rfl rfl (congrArg Value.bool (decide_eq_true h1)) ?_
    refine w_r (fun _ => R_eq rfl rfl) rfl rfl ?_; refine w_want rfl rfl (congrArg Value.bool (decide_eq_true h1)) ?_; refine w_move (v := .bool _) rfl ?_
    refine w_splitD (t := 14) rfl (fun h2 => ?_) (fun h2 => ?_)
    · refine w_skip rfl rfl (congrArg Value.bool (decide_eq_true h2)) ?_; refine w_skip rfl rfl (congrArg Value.bool (decide_eq_true h2)) ?_; refine w_skip rfl rfl (congrArg Value.bool (decide_eq_true h2)) ?_
      refine w_skip rfl rfl (congrArg Value.bool (decide_eq_true h2)) ?_; refine w_want rfl rfl (congrArg Value.bool (decide_eq_true h1)) ?_; refine w_r (v := .bool _) (fun _ => R_pickT (congrArg Value.bool (decide_eq_true h2)) rfl) rfl rfl ?_
      refine w_want rfl rfl (congrArg Value.bool (decide_eq_true h1)) ?_; refine w_move (v := .bool _) rfl ?_; refine w_skip rfl rfl rfl ?_; refine w_skip rfl rfl rfl ?_
      refine w_skip rfl rfl rfl ?_; refine w_skip rfl rfl rfl ?_; refine w_want rfl rfl (congrArg Value.bool (decide_eq_true h1)) ?_; refine w_r (v := .bool _) (fun _ => R_pickT rfl rfl) rfl rfl ?_
      refine w_want rfl rfl (congrArg Value.bool (decide_eq_true h1)) ?_; refine w_move (v := .bool _) rfl ?_; refine w_skip rfl rfl rfl ?_; refine w_skip rfl rfl rfl ?_
      refine w_skip rfl rfl rfl ?_; refine w_skip rfl rfl rfl ?_; refine w_want rfl rfl (congrArg Value.bool (decide_eq_true h1)) ?_; refine w_r (v := .bool _) (fun _ => R_pickT rfl rfl) rfl rfl ?_
      refine w_r (v := .bool _) (fun _ => R_pickT (congrArg Value.bool (decide_eq_true h1)) rfl) rfl rfl ?_; refine w_asg (v := .bool _) rfl ?_; refine w_nil ?_; refine k_on ?_
      refine c_ret ?_
      refine r_one (v := .bool _) rfl rfl rfl ?_
      exact fun w' hw => ⟨by first | (exfalso; omega) | rw [atP_out (by omega)] | (rw [atP_in (by omega), blank_int]; done) | (rw [atP_in (by omega), blank_int]; simp [*]; done) | (rw [atP_in (by omega), blank_int]; congr 1; simp_all; done), hw.fr _ (.head _)⟩
    · refine w_want rfl rfl (congrArg Value.bool (decide_eq_false h2)) ?_; refine w_move (v := str _) rfl ?_; refine w_want rfl rfl (congrArg Value.bool (decide_eq_false h2)) ?_
      refine w_move (v := .int _ _) rfl ?_; refine w_want rfl rfl (congrArg Value.bool (decide_eq_false h2)) ?_; refine w_sidx st9 rfl rfl (by omega) ?_; refine w_want rfl rfl (congrArg Value.bool (decide_eq_false h2)) ?_
      refine w_r (fun _ => R_eq rfl rfl) rfl rfl ?_; refine w_want rfl rfl (congrArg Value.bool (decide_eq_true h1)) ?_; refine w_r (v := .bool _) (fun _ => R_pickF (congrArg Value.bool (decide_eq_false h2)) rfl) rfl rfl ?_
      refine w_want rfl rfl (congrArg Value.bool (decide_eq_true h1)) ?_; refine w_move (v := .bool _) rfl ?_
      refine w_splitD (t := 20) rfl (fun h3 => ?_) (fun h3 => ?_)
      · refine w_skip rfl rfl (congrArg Value.bool (decide_eq_true h3)) ?_; refine w_skip rfl rfl (congrArg Value.bool (decide_eq_true h3)) ?_; refine w_skip rfl rfl (congrArg Value.bool (decide_eq_true h3)) ?_
        refine w_skip rfl rfl (congrArg Value.bool (decide_eq_true h3)) ?_; refine w_want rfl rfl (congrArg Value.bool (decide_eq_true h1)) ?_; refine w_r (v := .bool _) (fun _ => R_pickT (congrArg Value.bool (decide_eq_true h3)) rfl) rfl rfl ?_
        refine w_want rfl rfl (congrArg Value.bool (decide_eq_true h1)) ?_; refine w_move (v := .bool _) rfl ?_; refine w_skip rfl rfl rfl ?_; refine w_skip rfl rfl rfl ?_
        refine w_skip rfl rfl rfl ?_; refine w_skip rfl rfl rfl ?_; refine w_want rfl rfl (congrArg Value.bool (decide_eq_true h1)) ?_; refine w_r (v := .bool _) (fun _ => R_pickT rfl rfl) rfl rfl ?_
        refine w_r (v := .bool _) (fun _ => R_pickT (congrArg Value.bool (decide_eq_true h1)) rfl) rfl rfl ?_; refine w_asg (v := .bool _) rfl ?_; refine w_nil ?_; refine k_on ?_
        refine c_ret ?_
        refine r_one (v := .bool _) rfl rfl rfl ?_
        exact fun w' hw => ⟨by first | (exfalso; omega) | rw [atP_out (by omega)] | (rw [atP_in (by omega), blank_int]; done) | (rw [atP_in (by omega), blank_int]; simp [*]; done) | (rw [atP_in (by omega), blank_int]; congr 1; simp_all; done), hw.fr _ (.head _)⟩
      · refine w_want rfl rfl (congrArg Value.bool (decide_eq_false h3)) ?_; refine w_move (v := str _) rfl ?_; refine w_want rfl rfl (congrArg Value.bool (decide_eq_false h3)) ?_
        refine w_move (v := .int _ _) rfl ?_; refine w_want rfl rfl (congrArg Value.bool (decide_eq_false h3)) ?_; refine w_sidx st9 rfl rfl (by omega) ?_; refine w_want rfl rfl (congrArg Value.bool (decide_eq_false h3)) ?_
        refine w_r (fun _ => R_eq rfl rfl) rfl rfl ?_; refine w_want rfl rfl (congrArg Value.bool (decide_eq_true h1)) ?_; refine w_r (v := .bool _) (fun _ => R_pickF (congrArg Value.bool (decide_eq_false h3)) rfl) rfl rfl ?_
        refine w_want rfl rfl (congrArg Value.bool (decide_eq_true h1)) ?_; refine w_move (v := .bool _) rfl ?_
        refine w_splitD (t := 26) rfl (fun h4 => ?_) (fun h4 => ?_)
        · refine w_skip rfl rfl (congrArg Value.bool (decide_eq_true h4)) ?_; refine w_skip rfl rfl (congrArg Value.bool (decide_eq_true h4)) ?_; refine w_skip rfl rfl (congrArg Value.bool (decide_eq_true h4)) ?_
          refine w_skip rfl rfl (congrArg Value.bool (decide_eq_true h4)) ?_; refine w_want rfl rfl (congrArg Value.bool (decide_eq_true h1)) ?_; refine w_r (v := .bool _) (fun _ => R_pickT (congrArg Value.bool (decide_eq_true h4)) rfl) rfl rfl ?_
          refine w_r (v := .bool _) (fun _ => R_pickT (congrArg Value.bool (decide_eq_true h1)) rfl) rfl rfl ?_; refine w_asg (v := .bool _) rfl ?_; refine w_nil ?_; refine k_on ?_
          refine c_ret ?_
          refine r_one (v := .bool _) rfl rfl rfl ?_
          exact fun w' hw => ⟨by first | (exfalso; omega) | rw [atP_out (by omega)] | (rw [atP_in (by omega), blank_int]; done) | (rw [atP_in (by omega), blank_int]; simp [*]; done) | (rw [atP_in (by omega), blank_int]; congr 1; simp_all; done), hw.fr _ (.head _)⟩
        · refine w_want rfl rfl (congrArg Value.bool (decide_eq_false h4)) ?_; refine w_move (v := str _) rfl ?_; refine w_want rfl rfl (congrArg Value.bool (decide_eq_false h4)) ?_
          refine w_move (v := .int _ _) rfl ?_; refine w_want rfl rfl (congrArg Value.bool (decide_eq_false h4)) ?_; refine w_sidx st9 rfl rfl (by omega) ?_; refine w_want rfl rfl (congrArg Value.bool (decide_eq_false h4)) ?_
          refine w_r (fun _ => R_eq rfl rfl) rfl rfl ?_; refine w_want rfl rfl (congrArg Value.bool (decide_eq_true h1)) ?_; refine w_r (v := .bool _) (fun _ => R_pickF (congrArg Value.bool (decide_eq_false h4)) rfl) rfl rfl ?_
          refine w_r (v := .bool _) (fun _ => R_pickT (congrArg Value.bool (decide_eq_true h1)) rfl) rfl rfl ?_; refine w_asg (v := .bool _) rfl ?_; refine w_nil ?_; refine k_on ?_
          refine c_ret ?_
          refine r_one (v := .bool _) rfl rfl rfl ?_
          exact fun w' hw => ⟨by first | (exfalso; omega) | rw [atP_out (by omega)] | (rw [atP_in (by omega), blank_int]; done) | (rw [atP_in (by omega), blank_int]; simp [*]; done) | (rw [atP_in (by omega), blank_int]; congr 1; simp_all; done), hw.fr _ (.head _)⟩
  · refine w_skip rfl rfl (congrArg Value.bool (decide_eq_false h1)) ?_; refine w_skip rfl rfl (congrArg Value.bool (decide_eq_false h1)) ?_; refine w_skip rfl rfl (congrArg Value.bool (decide_eq_false h1)) ?_
    refine w_skip rfl rfl (congrArg Value.bool (decide_eq_false h1)) ?_; refine w_skip rfl rfl (congrArg Value.bool (decide_eq_false h1)) ?_; refine w_skipU rfl rfl rfl ?_
    refine w_skipU rfl rfl rfl ?_; refine w_skipU rfl rfl rfl ?_; refine w_skipU rfl rfl rfl ?_; refine w_skip rfl rfl (congrArg Value.bool (decide_eq_false h1)) ?_
    refine w_skip rfl rfl (congrArg Value.bool (decide_eq_false h1)) ?_; refine w_skipU rfl rfl rfl ?_; refine w_skipU rfl rfl rfl ?_; refine w_skipU rfl rfl rfl ?_
    refine w_skipU rfl rfl rfl ?_; refine w_skip rfl rfl (congrArg Value.bool (decide_eq_false h1)) ?_; refine w_skip rfl rfl (congrArg Value.bool (decide_eq_false h1)) ?_
    refine w_skipU rfl rfl rfl ?_; refine w_skipU rfl rfl rfl ?_; refine w_skipU rfl rfl rfl ?_; refine w_skipU rfl rfl rfl ?_; refine w_skip rfl rfl (congrArg Value.bool (decide_eq_false h1)) ?_
    refine w_r (v := .bool _) (fun _ => R_pickF (congrArg Value.bool (decide_eq_false h1)) rfl) rfl rfl ?_; refine w_asg (v := .bool _) rfl ?_; refine w_nil ?_
    refine k_on ?_; refine c_ret ?_
    refine r_one (v := .bool _) rfl rfl rfl ?_
    exact fun w' hw => ⟨by first | (exfalso; omega) | rw [atP_out (by omega)] | (rw [atP_in (by omega), blank_int]; done) | (rw [atP_in (by omega), blank_int]; simp [*]; done) | (rw [atP_in (by omega), blank_int]; congr 1; simp_all; done), hw.fr _ (.head _)⟩

set_option maxRecDepth 100000 in
set_option maxHeartbeats 400000 in
theorem ris_spec (s : List UInt8) (i : Nat) (b : UInt8) (hs : s.length ≤ 100000) (hi : i ≤ 200000) (w : World) :
    Ret Tryd.prog 28 #[str s, .int .i64 (i : Nat), .int .u8 (b.toNat : Nat)] w (fun v w' => v = .bool (atP (eqB b) s i) ∧ Ext w w') := by
  refine enter (S := No) (l := [_, _, _]) (L := []) 18 Tryd.func28 rfl rfl rfl (St.start w No) ?_
  refine c_seq ?_; refine c_region ?_; refine w_asg (v := .bool _) rfl ?_; refine w_nil ?_; refine k_on ?_; refine c_seq ?_; refine c_region ?_; refine w_move (v := .int _ _) rfl ?_
  refine w_move (v := str _) rfl ?_; refine w_r (fun _ => R_slen st9 rfl (by omega)) rfl rfl ?_; refine w_r (fun _ => R_lt rfl rfl) rfl rfl ?_; refine w_move (v := .bool _) rfl ?_
  refine w_splitD (t := 11) rfl (fun h1 => ?_) (fun h1 => ?_)
  · refine w_want rfl rfl (congrArg Value.bool (decide_eq_true h1)) ?_; refine w_move (v := str _) rfl ?_; refine w_want rfl rfl (congrArg Value.bool (decide_eq_true h1)) ?_
    refine w_move (v := .int _ _) rfl ?_; refine w_want rfl rfl (congrArg Value.bool (decide_eq_true h1)) ?_; refine w_sidx st9 rfl rfl (by omega) ?_; refine w_want rfl rfl (congrArg Value.bool (decide_eq_true h1)) ?_
    refine w_move (v := .int _ _) rfl ?_; refine w_want rfl rfl (congrArg Value.bool (decide_eq_true h1)) ?_; refine w_r (fun _ => R_eq rfl rfl) rfl rfl ?_; refine w_r (v := .bool _) (fun _ => R_pickT (congrArg Value.bool (decide_eq_true h1)) rfl) rfl rfl ?_
    refine w_asg (v := .bool _) rfl ?_; refine w_nil ?_; refine k_on ?_; refine c_ret ?_
    refine r_one (v := .bool _) rfl rfl rfl ?_
    exact fun w' hw => ⟨by first | (exfalso; omega) | rw [atP_out (by omega)] | (rw [atP_in (by omega), eq_int]; done) | (rw [atP_in (by omega), eq_int]; simp [*]; done) | (rw [atP_in (by omega), eq_int]; congr 1; simp_all; done), hw.fr _ (.head _)⟩
  · refine w_skip rfl rfl (congrArg Value.bool (decide_eq_false h1)) ?_; refine w_skip rfl rfl (congrArg Value.bool (decide_eq_false h1)) ?_; refine w_skip rfl rfl (congrArg Value.bool (decide_eq_false h1)) ?_
    refine w_skip rfl rfl (congrArg Value.bool (decide_eq_false h1)) ?_; refine w_skip rfl rfl (congrArg Value.bool (decide_eq_false h1)) ?_; refine w_r (v := .bool _) (fun _ => R_pickF (congrArg Value.bool (decide_eq_false h1)) rfl) rfl rfl ?_
    refine w_asg (v := .bool _) rfl ?_; refine w_nil ?_; refine k_on ?_; refine c_ret ?_
    refine r_one (v := .bool _) rfl rfl rfl ?_
    exact fun w' hw => ⟨by first | (exfalso; omega) | rw [atP_out (by omega)] | (rw [atP_in (by omega), eq_int]; done) | (rw [atP_in (by omega), eq_int]; simp [*]; done) | (rw [atP_in (by omega), eq_int]; congr 1; simp_all; done), hw.fr _ (.head _)⟩

set_option maxRecDepth 100000 in
set_option maxHeartbeats 400000 in
theorem rdigits_spec (s : List UInt8) (i : Nat) (hs : s.length ≤ 100000) (hi : i ≤ s.length) (w : World) :
    Ret Tryd.prog 29 #[str s, .int .i64 (i : Nat)] w (fun v w' => v = .int .i64 (runTo digitB s i : Nat) ∧ Ext w w') := by
  refine enter (S := No) (l := [_, _]) (L := []) 11 Tryd.func29 rfl rfl rfl (St.start w No) ?_
  refine c_seq ?_; refine c_region ?_; refine w_asg (v := .int _ _) rfl ?_; refine w_nil ?_; refine k_on ?_; refine c_seq ?_; refine c_block ?_
  refine c_loop (fun m e B L => ∃ (k : Nat), e 0 = str s ∧ e 1 = .int .i64 (k : Nat) ∧ B = [(w, No)] ∧ L = [] ∧ k ≤ s.length ∧ runTo digitB s k = runTo digitB s i ∧ m = s.length - k) _ ⟨i, rfl, rfl, rfl, rfl, hi, rfl, rfl⟩ ?_
  rintro m e B L ⟨k, e0_1, e1_1, rfl, rfl, hk, hr, rfl⟩
  refine c_seq ?_; refine c_seq ?_; refine c_region ?_; refine w_move (v := str _) e0_1 ?_; refine w_move (v := .int _ _) e1_1 ?_; refine w_call (fun w => R_call Tryd.func17 rfl rfl rfl) rfl rfl (fun w h => rdigit_spec s k hs (by omega) w) ?_
  refine w_nil ?_; refine k_on ?_
  refine c_cond rfl (fun h1 => ?_) (fun h1 => ?_)
  · refine c_skip ?_; refine k_on ?_; refine c_block ?_; refine c_region ?_; refine w_move (v := .int _ _) e1_1 ?_; refine w_r (fun _ => R_addi rfl rfl (by omega)) rfl rfl ?_
    refine w_asg (v := .int _ _) rfl ?_; refine w_nil ?_; refine b_on (?_)
    have hl := atP_lt h1
    exact k_again _ (by omega) ⟨k + 1, e0_1, rfl, rfl, rfl, by omega, by rw [← hr, runTo_step h1], rfl⟩
  · refine c_exit ?_; refine k_exit (k_exit (b_here rfl (k_on ?_))); refine c_seq ?_; refine c_region ?_; refine w_move (v := .int _ _) e1_1 ?_; refine w_asg (v := .int _ _) rfl ?_
    refine w_nil ?_; refine k_on ?_; refine c_ret ?_
    refine r_one (v := .int _ _) rfl rfl rfl ?_
    exact fun w' hw => ⟨by rw [← hr, runTo_stop h1], hw.fr _ (.head _)⟩

set_option maxRecDepth 100000 in
set_option maxHeartbeats 400000 in
theorem rskip_spec (s : List UInt8) (i : Nat) (hs : s.length ≤ 100000) (hi : i ≤ s.length) (w : World) :
    Ret Tryd.prog 15 #[str s, .int .i64 (i : Nat)] w (fun v w' => v = .int .i64 (skipTo s i : Nat) ∧ Ext w w') := by
  refine enter (S := No) (l := [_, _]) (L := []) 34 Tryd.func15 rfl rfl rfl (St.start w No) ?_
  refine c_seq ?_; refine c_region ?_; refine w_asg (v := .int _ _) rfl ?_; refine w_nil ?_; refine k_on ?_; refine c_block ?_
  refine c_loop (fun m e B L => ∃ (k : Nat), e 0 = str s ∧ e 1 = .int .i64 (k : Nat) ∧ B = [(w, No)] ∧ L = [] ∧ k ≤ s.length ∧ skipTo s k = skipTo s i ∧ m = s.length - k) _ ⟨i, rfl, rfl, rfl, rfl, hi, rfl, rfl⟩ ?_
  rintro m e B L ⟨k, e0_1, e1_1, rfl, rfl, hk, hr, rfl⟩
  refine c_block ?_; refine c_seq ?_; refine c_seq ?_; refine c_region ?_; refine w_move (v := str _) e0_1 ?_; refine w_move (v := .int _ _) e1_1 ?_; refine w_call (fun w => R_call Tryd.func27 rfl rfl rfl) rfl rfl (fun w h => rblank_spec s k hs (by omega) w) ?_
  refine w_nil ?_; refine k_on ?_
  refine c_cond rfl (fun h1 => ?_) (fun h1 => ?_)
  · refine c_seq ?_; refine c_region ?_; refine w_move (v := .int _ _) e1_1 ?_; refine w_r (fun _ => R_addi rfl rfl (by omega)) rfl rfl ?_; refine w_asg (v := .int _ _) rfl ?_
    refine w_nil ?_; refine k_on ?_; refine c_exit ?_; refine k_exit (b_here rfl (?_))
    have hl := atP_lt h1
    exact k_again _ (by omega) ⟨k + 1, e0_1, rfl, rfl, rfl, by omega, by rw [← hr, skip_blank hl h1], rfl⟩
  · refine c_skip ?_; refine k_on ?_; refine c_seq ?_; refine c_seq ?_; refine c_region ?_; refine w_move (v := str _) e0_1 ?_; refine w_move (v := .int _ _) e1_1 ?_; refine w_call (fun w => R_call Tryd.func28 rfl rfl rfl) rfl rfl (fun w h => ris_spec s k 47 hs (by omega) w) ?_
    refine w_r (fun _ => R_not rfl) rfl rfl ?_; refine w_move (v := .bool _) rfl ?_
    refine w_split (t := 14) rfl (fun h2 => ?_) (fun h2 => ?_)
    · refine w_skip rfl rfl (congrArg Value.bool h2) ?_; refine w_skip rfl rfl (congrArg Value.bool h2) ?_; refine w_skip rfl rfl (congrArg Value.bool h2) ?_; refine w_skip rfl rfl (congrArg Value.bool h2) ?_
      refine w_skip rfl rfl (congrArg Value.bool h2) ?_; refine w_r (v := .bool _) (fun _ => R_pickT (congrArg Value.bool h2) rfl) rfl rfl ?_; refine w_nil ?_; refine k_on ?_
      refine c_condT rfl ?_; refine c_seq ?_; refine c_region ?_; refine w_move (v := .int _ _) e1_1 ?_; refine w_asg (v := .int _ _) rfl ?_; refine w_nil ?_; refine k_on ?_
      refine c_ret ?_; refine k_ret (b_ret (k_ret (b_ret (?_))))
      refine r_one (v := .int _ _) rfl rfl rfl ?_
      exact fun w' hw => ⟨by rw [← hr, skip_stop hk (by simpa using h1) (by simp_all [cmt])], hw.fr _ (.head _)⟩
    · refine w_want rfl rfl (congrArg Value.bool h2) ?_; refine w_move (v := str _) e0_1 ?_; refine w_want rfl rfl (congrArg Value.bool h2) ?_; refine w_move (v := .int _ _) e1_1 ?_
      refine w_want rfl rfl (congrArg Value.bool h2) ?_; refine w_r (fun _ => R_addi rfl rfl (by omega)) rfl rfl ?_; refine w_want rfl rfl (congrArg Value.bool h2) ?_
      refine w_call (fun w => R_call Tryd.func28 rfl rfl rfl) rfl rfl (fun w h => ris_spec s (k + 1) 47 hs (by omega) w) ?_; refine w_want rfl rfl (congrArg Value.bool h2) ?_
      refine w_r (fun _ => R_not rfl) rfl rfl ?_; refine w_r (v := .bool _) (fun _ => R_pickF (congrArg Value.bool h2) rfl) rfl rfl ?_; refine w_nil ?_; refine k_on ?_
      refine c_condN rfl (fun h3 => ?_) (fun h3 => ?_)
      · refine c_seq ?_; refine c_region ?_; refine w_move (v := .int _ _) e1_1 ?_; refine w_asg (v := .int _ _) rfl ?_; refine w_nil ?_; refine k_on ?_; refine c_ret ?_; refine k_ret (b_ret (k_ret (b_ret (?_))))
        refine r_one (v := .int _ _) rfl rfl rfl ?_
        exact fun w' hw => ⟨by rw [← hr, skip_stop hk (by simpa using h1) (by simp_all [cmt])], hw.fr _ (.head _)⟩
      · refine c_skip ?_; refine k_on ?_; refine c_block ?_
        refine c_loop (fun m e B L => ∃ (q : Nat), e 0 = str s ∧ e 1 = .int .i64 (q : Nat) ∧ B = [(w, No)] ∧ L = [] ∧ k ≤ q ∧ q ≤ s.length ∧ runTo notNl s q = runTo notNl s k ∧ m = s.length - q) _ ⟨k, e0_1, e1_1, rfl, rfl, by omega, hk, rfl, rfl⟩ ?_
        rintro m e B L ⟨q, e0_2, e1_2, rfl, rfl, hkq, hq, hn, rfl⟩
        refine c_seq ?_; refine c_seq ?_; refine c_region ?_; refine w_move (v := .int _ _) e1_2 ?_; refine w_move (v := str _) e0_2 ?_; refine w_r (fun _ => R_slen st9 rfl (by omega)) rfl rfl ?_
        refine w_r (fun _ => R_lt rfl rfl) rfl rfl ?_; refine w_move (v := .bool _) rfl ?_
        refine w_splitD (t := 26) rfl (fun h4 => ?_) (fun h4 => ?_)
        · refine w_want rfl rfl (congrArg Value.bool (decide_eq_true h4)) ?_; refine w_move (v := str _) e0_2 ?_; refine w_want rfl rfl (congrArg Value.bool (decide_eq_true h4)) ?_
          refine w_move (v := .int _ _) e1_2 ?_; refine w_want rfl rfl (congrArg Value.bool (decide_eq_true h4)) ?_; refine w_sidx st9 rfl rfl (by omega) ?_; refine w_want rfl rfl (congrArg Value.bool (decide_eq_true h4)) ?_
          refine w_r (fun _ => R_ne rfl rfl) rfl rfl ?_; refine w_r (v := .bool _) (fun _ => R_pickT (congrArg Value.bool (decide_eq_true h4)) rfl) rfl rfl ?_; refine w_nil ?_
          refine k_on ?_
          refine c_condD rfl (fun h5 => ?_) (fun h5 => ?_)
          · refine c_skip ?_; refine k_on ?_; refine c_block ?_; refine c_region ?_; refine w_move (v := .int _ _) e1_2 ?_; refine w_r (fun _ => R_addi rfl rfl (by omega)) rfl rfl ?_
            refine w_asg (v := .int _ _) rfl ?_; refine w_nil ?_; refine b_on (?_)
            exact k_again _ (by omega) ⟨q + 1, e0_2, rfl, rfl, rfl, by omega, by omega, by rw [← hn, runTo_step (show atP notNl s q = true by rw [atP_in (by omega), notNl_int]; simp; omega)], rfl⟩
          · refine c_exit ?_; refine k_exit (k_exit (b_here rfl (b_on (?_))))
            have hc : cmt s k = true := by simp_all [cmt]
            have hc2 := cmt_run hc
            have hx : atP notNl s q = false := by rw [atP_in (by omega), notNl_int]; simp; omega
            rw [runTo_stop hx] at hn
            exact k_again _ (by omega) ⟨q, e0_2, e1_2, rfl, rfl, by omega, by rw [← hr, skip_cmt hk (by simpa using h1) hc, ← hn], rfl⟩
        · refine w_skip rfl rfl (congrArg Value.bool (decide_eq_false h4)) ?_; refine w_skip rfl rfl (congrArg Value.bool (decide_eq_false h4)) ?_; refine w_skip rfl rfl (congrArg Value.bool (decide_eq_false h4)) ?_
          refine w_skip rfl rfl (congrArg Value.bool (decide_eq_false h4)) ?_; refine w_r (v := .bool _) (fun _ => R_pickF (congrArg Value.bool (decide_eq_false h4)) rfl) rfl rfl ?_
          refine w_nil ?_; refine k_on ?_; refine c_condF rfl ?_; refine c_exit ?_; refine k_exit (k_exit (b_here rfl (b_on (?_))))
          have hc : cmt s k = true := by simp_all [cmt]
          have hc2 := cmt_run hc
          have hx : atP notNl s q = false := atP_out (by omega)
          rw [runTo_stop hx] at hn
          exact k_again _ (by omega) ⟨q, e0_2, e1_2, rfl, rfl, by omega, by rw [← hr, skip_cmt hk (by simpa using h1) hc, ← hn], rfl⟩

set_option maxRecDepth 100000 in
set_option maxHeartbeats 400000 in
theorem rnumber_spec (s : List UInt8) (i : Nat) (hs : s.length ≤ 100000) (hi : i ≤ s.length) (w : World) :
    Ret Tryd.prog 18 #[str s, .int .i64 (i : Nat)] w (fun v w' => v = .tuple #[.int .i64 (numEnd s i : Nat), .bool (numFine s i)] ∧ Ext w w') := by
  have g1 := runTo_le (p := digitB) hi
  have g2 := numDot_le g1
  have g3 := numTens_le g2.1
  have g0 : numEnd s i = (numTens s (numDot s (runTo digitB s i))).2 := rfl
  refine enter (S := No) (l := [_, _]) (L := []) 87 Tryd.func18 rfl rfl rfl (St.start w No) ?_
  refine c_seq ?_; refine c_region ?_; refine w_asg (v := .int _ _) rfl ?_; refine w_asg (v := .bool _) rfl ?_; refine w_nil ?_; refine k_on ?_; refine c_seq ?_; refine c_region ?_
  refine w_move (v := str _) rfl ?_; refine w_move (v := .int _ _) rfl ?_
  have q1 := runTo_le (p := digitB) (s := s) (i := i) (by first | omega | (have := atP_lt (by assumption); omega))
  have q2 := runTo_ge digitB s i
  refine w_call (fun w => R_call Tryd.func29 rfl rfl rfl) rfl rfl (fun w h => rdigits_spec s i hs (by omega) w) ?_; refine w_asg (v := .int _ _) rfl ?_; refine w_nil ?_
  refine k_on ?_
  refine c_cut (fun e B L => e 0 = str s ∧ e 1 = .int .i64 (numDot s (runTo digitB s i) : Nat) ∧ B = [(w, No)] ∧ L = []) ?_ ?_
  · refine c_seq ?_; refine c_region ?_; refine w_move (v := str _) rfl ?_; refine w_move (v := .int _ _) rfl ?_; refine w_call (fun w => R_call Tryd.func28 rfl rfl rfl) rfl rfl (fun w h => ris_spec s (runTo digitB s i) 46 hs (by omega) w) ?_
    refine w_move (v := .bool _) rfl ?_
    refine w_split (t := 13) rfl (fun h1 => ?_) (fun h1 => ?_)
    · refine w_want rfl rfl (congrArg Value.bool h1) ?_; refine w_move (v := str _) rfl ?_; refine w_want rfl rfl (congrArg Value.bool h1) ?_; refine w_move (v := .int _ _) rfl ?_
      refine w_want rfl rfl (congrArg Value.bool h1) ?_; refine w_r (fun _ => R_addi rfl rfl (by omega)) rfl rfl ?_; refine w_want rfl rfl (congrArg Value.bool h1) ?_
      refine w_call (fun w => R_call Tryd.func17 rfl rfl rfl) rfl rfl (fun w h => rdigit_spec s ((runTo digitB s i) + 1) hs (by omega) w) ?_; refine w_r (v := .bool _) (fun _ => R_pickT (congrArg Value.bool h1) rfl) rfl rfl ?_
      refine w_nil ?_; refine k_on ?_
      refine c_cond rfl (fun h2 => ?_) (fun h2 => ?_)
      · refine c_region ?_; refine w_move (v := str _) rfl ?_; refine w_move (v := .int _ _) rfl ?_; refine w_r (fun _ => R_addi rfl rfl (by omega)) rfl rfl ?_
        have q1 := runTo_le (p := digitB) (s := s) (i := ((runTo digitB s i) + 1)) (by first | omega | (have := atP_lt (by assumption); omega))
        have q2 := runTo_ge digitB s ((runTo digitB s i) + 1)
        refine w_call (fun w => R_call Tryd.func29 rfl rfl rfl) rfl rfl (fun w h => rdigits_spec s ((runTo digitB s i) + 1) hs (by omega) w) ?_; refine w_asg (v := .int _ _) rfl ?_
        refine w_nil ?_
        have hd : numDot s (runTo digitB s i) = runTo digitB s (runTo digitB s i + 1) := by simp [numDot, h1, h2]
        exact k_mid ⟨rfl, by rw [hd]; rfl, rfl, rfl⟩
      · refine c_skip ?_
        have hd : numDot s (runTo digitB s i) = runTo digitB s i := by simp [numDot, h2]
        exact k_mid ⟨rfl, by rw [hd]; rfl, rfl, rfl⟩
    · refine w_skip rfl rfl (congrArg Value.bool h1) ?_; refine w_skip rfl rfl (congrArg Value.bool h1) ?_; refine w_skip rfl rfl (congrArg Value.bool h1) ?_; refine w_skip rfl rfl (congrArg Value.bool h1) ?_
      refine w_r (v := .bool _) (fun _ => R_pickF (congrArg Value.bool h1) rfl) rfl rfl ?_; refine w_nil ?_; refine k_on ?_; refine c_condF rfl ?_; refine c_skip ?_
      have hd : numDot s (runTo digitB s i) = runTo digitB s i := by simp [numDot, h1]
      exact k_mid ⟨rfl, by rw [hd]; rfl, rfl, rfl⟩
  rintro e B L ⟨e0_1, e1_1, rfl, rfl⟩
  refine c_seq ?_; refine c_region ?_; refine w_move (v := .int _ _) e1_1 ?_; refine w_asg (v := .int _ _) rfl ?_; refine w_nil ?_; refine k_on ?_
  refine c_cut (fun e B L => ∃ (q : Nat), e 0 = str s ∧ e 1 = .int .i64 (numEnd s i : Nat) ∧ e 6 = .int .i64 (q : Nat) ∧ B = [(w, No)] ∧ L = [] ∧ q ≤ numEnd s i ∧ (numTens s (numDot s (runTo digitB s i))).1 = numEnd s i - q) ?_ ?_
  · refine c_seq ?_; refine c_region ?_; refine w_move (v := str _) e0_1 ?_; refine w_move (v := .int _ _) e1_1 ?_; refine w_call (fun w => R_call Tryd.func28 rfl rfl rfl) rfl rfl (fun w h => ris_spec s (numDot s (runTo digitB s i)) 101 hs (by omega) w) ?_
    refine w_move (v := .bool _) rfl ?_
    refine w_split (t := 27) rfl (fun h3 => ?_) (fun h3 => ?_)
    · refine w_want rfl rfl (congrArg Value.bool h3) ?_; refine w_move (v := str _) e0_1 ?_; refine w_want rfl rfl (congrArg Value.bool h3) ?_; refine w_move (v := .int _ _) e1_1 ?_
      refine w_want rfl rfl (congrArg Value.bool h3) ?_; refine w_r (fun _ => R_addi rfl rfl (by omega)) rfl rfl ?_; refine w_want rfl rfl (congrArg Value.bool h3) ?_
      refine w_call (fun w => R_call Tryd.func17 rfl rfl rfl) rfl rfl (fun w h => rdigit_spec s ((numDot s (runTo digitB s i)) + 1) hs (by omega) w) ?_; refine w_r (v := .bool _) (fun _ => R_pickT (congrArg Value.bool h3) rfl) rfl rfl ?_
      refine w_nil ?_; refine k_on ?_
      refine c_cond rfl (fun h4 => ?_) (fun h4 => ?_)
      · refine c_seq ?_; refine c_region ?_; refine w_move (v := .int _ _) e1_1 ?_; refine w_r (fun _ => R_addi rfl rfl (by omega)) rfl rfl ?_; refine w_asg (v := .int _ _) rfl ?_
        refine w_nil ?_; refine k_on ?_; refine c_region ?_; refine w_move (v := str _) e0_1 ?_; refine w_move (v := .int _ _) rfl ?_
        have q1 := runTo_le (p := digitB) (s := s) (i := ((numDot s (runTo digitB s i)) + 1)) (by first | omega | (have := atP_lt (by assumption); omega))
        have q2 := runTo_ge digitB s ((numDot s (runTo digitB s i)) + 1)
        refine w_call (fun w => R_call Tryd.func29 rfl rfl rfl) rfl rfl (fun w h => rdigits_spec s ((numDot s (runTo digitB s i)) + 1) hs (by omega) w) ?_; refine w_asg (v := .int _ _) rfl ?_
        refine w_nil ?_
        have hT : numTens s (numDot s (runTo digitB s i)) = (runTo digitB s ((numDot s (runTo digitB s i)) + 1) - ((numDot s (runTo digitB s i)) + 1), runTo digitB s ((numDot s (runTo digitB s i)) + 1)) := by simp_all [numTens, at_pm]
        exact k_mid ⟨((numDot s (runTo digitB s i)) + 1), e0_1, by rw [g0, hT]; rfl, rfl, rfl, rfl, by rw [g0, hT]; exact runTo_ge _ _ _, by rw [g0, hT]⟩
      · refine c_seq ?_; refine c_region ?_; refine w_move (v := str _) e0_1 ?_; refine w_move (v := .int _ _) e1_1 ?_; refine w_call (fun w => R_call Tryd.func28 rfl rfl rfl) rfl rfl (fun w h => ris_spec s (numDot s (runTo digitB s i)) 101 hs (by omega) w) ?_
        refine w_move (v := .bool _) rfl ?_
        refine w_split (t := 41) rfl (fun h5 => ?_) (fun h5 => ?_)
        · refine w_want rfl rfl (congrArg Value.bool h5) ?_; refine w_move (v := str _) e0_1 ?_; refine w_want rfl rfl (congrArg Value.bool h5) ?_; refine w_move (v := .int _ _) e1_1 ?_
          refine w_want rfl rfl (congrArg Value.bool h5) ?_; refine w_r (fun _ => R_addi rfl rfl (by omega)) rfl rfl ?_; refine w_want rfl rfl (congrArg Value.bool h5) ?_
          refine w_call (fun w => R_call Tryd.func28 rfl rfl rfl) rfl rfl (fun w h => ris_spec s ((numDot s (runTo digitB s i)) + 1) 43 hs (by omega) w) ?_; refine w_want rfl rfl (congrArg Value.bool h5) ?_
          refine w_move (v := .bool _) rfl ?_
          refine w_split (t := 46) rfl (fun h6 => ?_) (fun h6 => ?_)
          · refine w_skip rfl rfl (congrArg Value.bool h6) ?_; refine w_skip rfl rfl (congrArg Value.bool h6) ?_; refine w_skip rfl rfl (congrArg Value.bool h6) ?_; refine w_skip rfl rfl (congrArg Value.bool h6) ?_
            refine w_want rfl rfl (congrArg Value.bool h5) ?_; refine w_r (v := .bool _) (fun _ => R_pickT (congrArg Value.bool h6) rfl) rfl rfl ?_; refine w_r (v := .bool _) (fun _ => R_pickT (congrArg Value.bool h5) rfl) rfl rfl ?_
            refine w_move (v := .bool _) rfl ?_; refine w_want rfl rfl rfl ?_; refine w_move (v := str _) e0_1 ?_; refine w_want rfl rfl rfl ?_; refine w_move (v := .int _ _) e1_1 ?_
            refine w_want rfl rfl rfl ?_; refine w_r (fun _ => R_addi rfl rfl (by omega)) rfl rfl ?_; refine w_want rfl rfl rfl ?_; refine w_call (fun w => R_call Tryd.func17 rfl rfl rfl) rfl rfl (fun w h => rdigit_spec s ((numDot s (runTo digitB s i)) + 2) hs (by omega) w) ?_
            refine w_r (v := .bool _) (fun _ => R_pickT rfl rfl) rfl rfl ?_; refine w_nil ?_; refine k_on ?_
            refine c_cond rfl (fun h7 => ?_) (fun h7 => ?_)
            · refine c_seq ?_; refine c_region ?_; refine w_move (v := .int _ _) e1_1 ?_; refine w_r (fun _ => R_addi rfl rfl (by omega)) rfl rfl ?_; refine w_asg (v := .int _ _) rfl ?_
              refine w_nil ?_; refine k_on ?_; refine c_region ?_; refine w_move (v := str _) e0_1 ?_; refine w_move (v := .int _ _) rfl ?_
              have q1 := runTo_le (p := digitB) (s := s) (i := ((numDot s (runTo digitB s i)) + 2)) (by first | omega | (have := atP_lt (by assumption); omega))
              have q2 := runTo_ge digitB s ((numDot s (runTo digitB s i)) + 2)
              refine w_call (fun w => R_call Tryd.func29 rfl rfl rfl) rfl rfl (fun w h => rdigits_spec s ((numDot s (runTo digitB s i)) + 2) hs (by omega) w) ?_; refine w_asg (v := .int _ _) rfl ?_
              refine w_nil ?_
              have hT : numTens s (numDot s (runTo digitB s i)) = (runTo digitB s ((numDot s (runTo digitB s i)) + 2) - ((numDot s (runTo digitB s i)) + 2), runTo digitB s ((numDot s (runTo digitB s i)) + 2)) := by simp_all [numTens, at_pm]
              exact k_mid ⟨((numDot s (runTo digitB s i)) + 2), e0_1, by rw [g0, hT]; rfl, rfl, rfl, rfl, by rw [g0, hT]; exact runTo_ge _ _ _, by rw [g0, hT]⟩
            · refine c_skip ?_
              have hT : numTens s (numDot s (runTo digitB s i)) = (0, (numDot s (runTo digitB s i))) := by simp_all [numTens, at_pm]
              exact k_mid ⟨(numDot s (runTo digitB s i)), e0_1, by rw [g0, hT]; exact e1_1, rfl, rfl, rfl, by rw [g0, hT]; exact Nat.le_refl _, by rw [g0, hT]; simp⟩
          · refine w_want rfl rfl (congrArg Value.bool h6) ?_; refine w_move (v := str _) e0_1 ?_; refine w_want rfl rfl (congrArg Value.bool h6) ?_; refine w_move (v := .int _ _) e1_1 ?_
            refine w_want rfl rfl (congrArg Value.bool h6) ?_; refine w_r (fun _ => R_addi rfl rfl (by omega)) rfl rfl ?_; refine w_want rfl rfl (congrArg Value.bool h6) ?_
            refine w_call (fun w => R_call Tryd.func28 rfl rfl rfl) rfl rfl (fun w h => ris_spec s ((numDot s (runTo digitB s i)) + 1) 45 hs (by omega) w) ?_; refine w_want rfl rfl (congrArg Value.bool h5) ?_
            refine w_r (v := .bool _) (fun _ => R_pickF (congrArg Value.bool h6) rfl) rfl rfl ?_; refine w_r (v := .bool _) (fun _ => R_pickT (congrArg Value.bool h5) rfl) rfl rfl ?_
            refine w_move (v := .bool _) rfl ?_
            refine w_split (t := 53) rfl (fun h8 => ?_) (fun h8 => ?_)
            · refine w_want rfl rfl (congrArg Value.bool h8) ?_; refine w_move (v := str _) e0_1 ?_; refine w_want rfl rfl (congrArg Value.bool h8) ?_; refine w_move (v := .int _ _) e1_1 ?_
              refine w_want rfl rfl (congrArg Value.bool h8) ?_; refine w_r (fun _ => R_addi rfl rfl (by omega)) rfl rfl ?_; refine w_want rfl rfl (congrArg Value.bool h8) ?_
              refine w_call (fun w => R_call Tryd.func17 rfl rfl rfl) rfl rfl (fun w h => rdigit_spec s ((numDot s (runTo digitB s i)) + 2) hs (by omega) w) ?_; refine w_r (v := .bool _) (fun _ => R_pickT (congrArg Value.bool h8) rfl) rfl rfl ?_
              refine w_nil ?_; refine k_on ?_
              refine c_cond rfl (fun h9 => ?_) (fun h9 => ?_)
              · refine c_seq ?_; refine c_region ?_; refine w_move (v := .int _ _) e1_1 ?_; refine w_r (fun _ => R_addi rfl rfl (by omega)) rfl rfl ?_; refine w_asg (v := .int _ _) rfl ?_
                refine w_nil ?_; refine k_on ?_; refine c_region ?_; refine w_move (v := str _) e0_1 ?_; refine w_move (v := .int _ _) rfl ?_
                have q1 := runTo_le (p := digitB) (s := s) (i := ((numDot s (runTo digitB s i)) + 2)) (by first | omega | (have := atP_lt (by assumption); omega))
                have q2 := runTo_ge digitB s ((numDot s (runTo digitB s i)) + 2)
                refine w_call (fun w => R_call Tryd.func29 rfl rfl rfl) rfl rfl (fun w h => rdigits_spec s ((numDot s (runTo digitB s i)) + 2) hs (by omega) w) ?_; refine w_asg (v := .int _ _) rfl ?_
                refine w_nil ?_
                have hT : numTens s (numDot s (runTo digitB s i)) = (runTo digitB s ((numDot s (runTo digitB s i)) + 2) - ((numDot s (runTo digitB s i)) + 2), runTo digitB s ((numDot s (runTo digitB s i)) + 2)) := by simp_all [numTens, at_pm]
                exact k_mid ⟨((numDot s (runTo digitB s i)) + 2), e0_1, by rw [g0, hT]; rfl, rfl, rfl, rfl, by rw [g0, hT]; exact runTo_ge _ _ _, by rw [g0, hT]⟩
              · refine c_skip ?_
                have hT : numTens s (numDot s (runTo digitB s i)) = (0, (numDot s (runTo digitB s i))) := by simp_all [numTens, at_pm]
                exact k_mid ⟨(numDot s (runTo digitB s i)), e0_1, by rw [g0, hT]; exact e1_1, rfl, rfl, rfl, by rw [g0, hT]; exact Nat.le_refl _, by rw [g0, hT]; simp⟩
            · refine w_skip rfl rfl (congrArg Value.bool h8) ?_; refine w_skip rfl rfl (congrArg Value.bool h8) ?_; refine w_skip rfl rfl (congrArg Value.bool h8) ?_; refine w_skip rfl rfl (congrArg Value.bool h8) ?_
              refine w_r (v := .bool _) (fun _ => R_pickF (congrArg Value.bool h8) rfl) rfl rfl ?_; refine w_nil ?_; refine k_on ?_; refine c_condF rfl ?_; refine c_skip ?_
              have hT : numTens s (numDot s (runTo digitB s i)) = (0, (numDot s (runTo digitB s i))) := by simp_all [numTens, at_pm]
              exact k_mid ⟨(numDot s (runTo digitB s i)), e0_1, by rw [g0, hT]; exact e1_1, rfl, rfl, rfl, by rw [g0, hT]; exact Nat.le_refl _, by rw [g0, hT]; simp⟩
        · refine w_skip rfl rfl (congrArg Value.bool h5) ?_; refine w_skip rfl rfl (congrArg Value.bool h5) ?_; refine w_skip rfl rfl (congrArg Value.bool h5) ?_; refine w_skip rfl rfl (congrArg Value.bool h5) ?_
          refine w_skip rfl rfl (congrArg Value.bool h5) ?_; refine w_skipU rfl rfl rfl ?_; refine w_skipU rfl rfl rfl ?_; refine w_skipU rfl rfl rfl ?_; refine w_skipU rfl rfl rfl ?_
          refine w_skip rfl rfl (congrArg Value.bool h5) ?_; refine w_r (v := .bool _) (fun _ => R_pickF (congrArg Value.bool h5) rfl) rfl rfl ?_; refine w_move (v := .bool _) rfl ?_
          refine w_skip rfl rfl rfl ?_; refine w_skip rfl rfl rfl ?_; refine w_skip rfl rfl rfl ?_; refine w_skip rfl rfl rfl ?_; refine w_r (v := .bool _) (fun _ => R_pickF rfl rfl) rfl rfl ?_
          refine w_nil ?_; refine k_on ?_; refine c_condF rfl ?_; refine c_skip ?_
          have hT : numTens s (numDot s (runTo digitB s i)) = (0, (numDot s (runTo digitB s i))) := by simp_all [numTens, at_pm]
          exact k_mid ⟨(numDot s (runTo digitB s i)), e0_1, by rw [g0, hT]; exact e1_1, rfl, rfl, rfl, by rw [g0, hT]; exact Nat.le_refl _, by rw [g0, hT]; simp⟩
    · refine w_skip rfl rfl (congrArg Value.bool h3) ?_; refine w_skip rfl rfl (congrArg Value.bool h3) ?_; refine w_skip rfl rfl (congrArg Value.bool h3) ?_; refine w_skip rfl rfl (congrArg Value.bool h3) ?_
      refine w_r (v := .bool _) (fun _ => R_pickF (congrArg Value.bool h3) rfl) rfl rfl ?_; refine w_nil ?_; refine k_on ?_; refine c_condF rfl ?_; refine c_seq ?_; refine c_region ?_
      refine w_move (v := str _) e0_1 ?_; refine w_move (v := .int _ _) e1_1 ?_; refine w_call (fun w => R_call Tryd.func28 rfl rfl rfl) rfl rfl (fun w h => ris_spec s (numDot s (runTo digitB s i)) 101 hs (by omega) w) ?_
      refine w_move (v := .bool _) rfl ?_
      refine w_split (t := 41) rfl (fun h10 => ?_) (fun h10 => ?_)
      · refine w_want rfl rfl (congrArg Value.bool h10) ?_; refine w_move (v := str _) e0_1 ?_; refine w_want rfl rfl (congrArg Value.bool h10) ?_; refine w_move (v := .int _ _) e1_1 ?_
        refine w_want rfl rfl (congrArg Value.bool h10) ?_; refine w_r (fun _ => R_addi rfl rfl (by omega)) rfl rfl ?_; refine w_want rfl rfl (congrArg Value.bool h10) ?_
        refine w_call (fun w => R_call Tryd.func28 rfl rfl rfl) rfl rfl (fun w h => ris_spec s ((numDot s (runTo digitB s i)) + 1) 43 hs (by omega) w) ?_; refine w_want rfl rfl (congrArg Value.bool h10) ?_
        refine w_move (v := .bool _) rfl ?_
        refine w_split (t := 46) rfl (fun h11 => ?_) (fun h11 => ?_)
        · refine w_skip rfl rfl (congrArg Value.bool h11) ?_; refine w_skip rfl rfl (congrArg Value.bool h11) ?_; refine w_skip rfl rfl (congrArg Value.bool h11) ?_; refine w_skip rfl rfl (congrArg Value.bool h11) ?_
          refine w_want rfl rfl (congrArg Value.bool h10) ?_; refine w_r (v := .bool _) (fun _ => R_pickT (congrArg Value.bool h11) rfl) rfl rfl ?_; refine w_r (v := .bool _) (fun _ => R_pickT (congrArg Value.bool h10) rfl) rfl rfl ?_
          refine w_move (v := .bool _) rfl ?_; refine w_want rfl rfl rfl ?_; refine w_move (v := str _) e0_1 ?_; refine w_want rfl rfl rfl ?_; refine w_move (v := .int _ _) e1_1 ?_
          refine w_want rfl rfl rfl ?_; refine w_r (fun _ => R_addi rfl rfl (by omega)) rfl rfl ?_; refine w_want rfl rfl rfl ?_; refine w_call (fun w => R_call Tryd.func17 rfl rfl rfl) rfl rfl (fun w h => rdigit_spec s ((numDot s (runTo digitB s i)) + 2) hs (by omega) w) ?_
          refine w_r (v := .bool _) (fun _ => R_pickT rfl rfl) rfl rfl ?_; refine w_nil ?_; refine k_on ?_
          refine c_cond rfl (fun h12 => ?_) (fun h12 => ?_)
          · refine c_seq ?_; refine c_region ?_; refine w_move (v := .int _ _) e1_1 ?_; refine w_r (fun _ => R_addi rfl rfl (by omega)) rfl rfl ?_; refine w_asg (v := .int _ _) rfl ?_
            refine w_nil ?_; refine k_on ?_; refine c_region ?_; refine w_move (v := str _) e0_1 ?_; refine w_move (v := .int _ _) rfl ?_
            have q1 := runTo_le (p := digitB) (s := s) (i := ((numDot s (runTo digitB s i)) + 2)) (by first | omega | (have := atP_lt (by assumption); omega))
            have q2 := runTo_ge digitB s ((numDot s (runTo digitB s i)) + 2)
            refine w_call (fun w => R_call Tryd.func29 rfl rfl rfl) rfl rfl (fun w h => rdigits_spec s ((numDot s (runTo digitB s i)) + 2) hs (by omega) w) ?_; refine w_asg (v := .int _ _) rfl ?_
            refine w_nil ?_
            have hT : numTens s (numDot s (runTo digitB s i)) = (runTo digitB s ((numDot s (runTo digitB s i)) + 2) - ((numDot s (runTo digitB s i)) + 2), runTo digitB s ((numDot s (runTo digitB s i)) + 2)) := by simp_all [numTens, at_pm]
            exact k_mid ⟨((numDot s (runTo digitB s i)) + 2), e0_1, by rw [g0, hT]; rfl, rfl, rfl, rfl, by rw [g0, hT]; exact runTo_ge _ _ _, by rw [g0, hT]⟩
          · refine c_skip ?_
            have hT : numTens s (numDot s (runTo digitB s i)) = (0, (numDot s (runTo digitB s i))) := by simp_all [numTens, at_pm]
            exact k_mid ⟨(numDot s (runTo digitB s i)), e0_1, by rw [g0, hT]; exact e1_1, rfl, rfl, rfl, by rw [g0, hT]; exact Nat.le_refl _, by rw [g0, hT]; simp⟩
        · refine w_want rfl rfl (congrArg Value.bool h11) ?_; refine w_move (v := str _) e0_1 ?_; refine w_want rfl rfl (congrArg Value.bool h11) ?_; refine w_move (v := .int _ _) e1_1 ?_
          refine w_want rfl rfl (congrArg Value.bool h11) ?_; refine w_r (fun _ => R_addi rfl rfl (by omega)) rfl rfl ?_; refine w_want rfl rfl (congrArg Value.bool h11) ?_
          refine w_call (fun w => R_call Tryd.func28 rfl rfl rfl) rfl rfl (fun w h => ris_spec s ((numDot s (runTo digitB s i)) + 1) 45 hs (by omega) w) ?_; refine w_want rfl rfl (congrArg Value.bool h10) ?_
          refine w_r (v := .bool _) (fun _ => R_pickF (congrArg Value.bool h11) rfl) rfl rfl ?_; refine w_r (v := .bool _) (fun _ => R_pickT (congrArg Value.bool h10) rfl) rfl rfl ?_
          refine w_move (v := .bool _) rfl ?_
          refine w_split (t := 53) rfl (fun h13 => ?_) (fun h13 => ?_)
          · refine w_want rfl rfl (congrArg Value.bool h13) ?_; refine w_move (v := str _) e0_1 ?_; refine w_want rfl rfl (congrArg Value.bool h13) ?_; refine w_move (v := .int _ _) e1_1 ?_
            refine w_want rfl rfl (congrArg Value.bool h13) ?_; refine w_r (fun _ => R_addi rfl rfl (by omega)) rfl rfl ?_; refine w_want rfl rfl (congrArg Value.bool h13) ?_
            refine w_call (fun w => R_call Tryd.func17 rfl rfl rfl) rfl rfl (fun w h => rdigit_spec s ((numDot s (runTo digitB s i)) + 2) hs (by omega) w) ?_; refine w_r (v := .bool _) (fun _ => R_pickT (congrArg Value.bool h13) rfl) rfl rfl ?_
            refine w_nil ?_; refine k_on ?_
            refine c_cond rfl (fun h14 => ?_) (fun h14 => ?_)
            · refine c_seq ?_; refine c_region ?_; refine w_move (v := .int _ _) e1_1 ?_; refine w_r (fun _ => R_addi rfl rfl (by omega)) rfl rfl ?_; refine w_asg (v := .int _ _) rfl ?_
              refine w_nil ?_; refine k_on ?_; refine c_region ?_; refine w_move (v := str _) e0_1 ?_; refine w_move (v := .int _ _) rfl ?_
              have q1 := runTo_le (p := digitB) (s := s) (i := ((numDot s (runTo digitB s i)) + 2)) (by first | omega | (have := atP_lt (by assumption); omega))
              have q2 := runTo_ge digitB s ((numDot s (runTo digitB s i)) + 2)
              refine w_call (fun w => R_call Tryd.func29 rfl rfl rfl) rfl rfl (fun w h => rdigits_spec s ((numDot s (runTo digitB s i)) + 2) hs (by omega) w) ?_; refine w_asg (v := .int _ _) rfl ?_
              refine w_nil ?_
              have hT : numTens s (numDot s (runTo digitB s i)) = (runTo digitB s ((numDot s (runTo digitB s i)) + 2) - ((numDot s (runTo digitB s i)) + 2), runTo digitB s ((numDot s (runTo digitB s i)) + 2)) := by simp_all [numTens, at_pm]
              exact k_mid ⟨((numDot s (runTo digitB s i)) + 2), e0_1, by rw [g0, hT]; rfl, rfl, rfl, rfl, by rw [g0, hT]; exact runTo_ge _ _ _, by rw [g0, hT]⟩
            · refine c_skip ?_
              have hT : numTens s (numDot s (runTo digitB s i)) = (0, (numDot s (runTo digitB s i))) := by simp_all [numTens, at_pm]
              exact k_mid ⟨(numDot s (runTo digitB s i)), e0_1, by rw [g0, hT]; exact e1_1, rfl, rfl, rfl, by rw [g0, hT]; exact Nat.le_refl _, by rw [g0, hT]; simp⟩
          · refine w_skip rfl rfl (congrArg Value.bool h13) ?_; refine w_skip rfl rfl (congrArg Value.bool h13) ?_; refine w_skip rfl rfl (congrArg Value.bool h13) ?_; refine w_skip rfl rfl (congrArg Value.bool h13) ?_
            refine w_r (v := .bool _) (fun _ => R_pickF (congrArg Value.bool h13) rfl) rfl rfl ?_; refine w_nil ?_; refine k_on ?_; refine c_condF rfl ?_; refine c_skip ?_
            have hT : numTens s (numDot s (runTo digitB s i)) = (0, (numDot s (runTo digitB s i))) := by simp_all [numTens, at_pm]
            exact k_mid ⟨(numDot s (runTo digitB s i)), e0_1, by rw [g0, hT]; exact e1_1, rfl, rfl, rfl, by rw [g0, hT]; exact Nat.le_refl _, by rw [g0, hT]; simp⟩
      · refine w_skip rfl rfl (congrArg Value.bool h10) ?_; refine w_skip rfl rfl (congrArg Value.bool h10) ?_; refine w_skip rfl rfl (congrArg Value.bool h10) ?_; refine w_skip rfl rfl (congrArg Value.bool h10) ?_
        refine w_skip rfl rfl (congrArg Value.bool h10) ?_; refine w_skipU rfl rfl rfl ?_; refine w_skipU rfl rfl rfl ?_; refine w_skipU rfl rfl rfl ?_; refine w_skipU rfl rfl rfl ?_
        refine w_skip rfl rfl (congrArg Value.bool h10) ?_; refine w_r (v := .bool _) (fun _ => R_pickF (congrArg Value.bool h10) rfl) rfl rfl ?_; refine w_move (v := .bool _) rfl ?_
        refine w_skip rfl rfl rfl ?_; refine w_skip rfl rfl rfl ?_; refine w_skip rfl rfl rfl ?_; refine w_skip rfl rfl rfl ?_; refine w_r (v := .bool _) (fun _ => R_pickF rfl rfl) rfl rfl ?_
        refine w_nil ?_; refine k_on ?_; refine c_condF rfl ?_; refine c_skip ?_
        have hT : numTens s (numDot s (runTo digitB s i)) = (0, (numDot s (runTo digitB s i))) := by simp_all [numTens, at_pm]
        exact k_mid ⟨(numDot s (runTo digitB s i)), e0_1, by rw [g0, hT]; exact e1_1, rfl, rfl, rfl, by rw [g0, hT]; exact Nat.le_refl _, by rw [g0, hT]; simp⟩
  rintro e B L ⟨q, e0_2, e1_2, e6_2, rfl, rfl, hq, hf⟩
  refine c_seq ?_; refine c_region ?_; refine w_move (v := .int _ _) e1_2 ?_; refine w_move (v := .int _ _) e1_2 ?_; refine w_move (v := .int _ _) e6_2 ?_; refine w_r (fun _ => R_subi rfl rfl (by omega)) rfl rfl ?_
  refine w_r (fun _ => R_le rfl rfl) rfl rfl ?_; refine w_move (v := .bool _) rfl ?_
  refine w_splitD (t := 69) rfl (fun h15 => ?_) (fun h15 => ?_)
  · refine w_want rfl rfl (congrArg Value.bool (decide_eq_true h15)) ?_; refine w_move (v := str _) e0_2 ?_; refine w_want rfl rfl (congrArg Value.bool (decide_eq_true h15)) ?_
    refine w_move (v := .int _ _) e1_2 ?_; refine w_want rfl rfl (congrArg Value.bool (decide_eq_true h15)) ?_; refine w_call (fun w => R_call Tryd.func16 rfl rfl rfl) rfl rfl (fun w h => rletter_spec s (numEnd s i) hs (by omega) w) ?_
    refine w_want rfl rfl (congrArg Value.bool (decide_eq_true h15)) ?_; refine w_r (fun _ => R_not rfl) rfl rfl ?_; refine w_r (v := .bool _) (fun _ => R_pickT (congrArg Value.bool (decide_eq_true h15)) rfl) rfl rfl ?_
    refine w_move (v := .bool _) rfl ?_
    refine w_split (t := 75) rfl (fun h16 => ?_) (fun h16 => ?_)
    · refine w_want rfl rfl (congrArg Value.bool h16) ?_; refine w_move (v := str _) e0_2 ?_; refine w_want rfl rfl (congrArg Value.bool h16) ?_; refine w_move (v := .int _ _) e1_2 ?_
      refine w_want rfl rfl (congrArg Value.bool h16) ?_; refine w_call (fun w => R_call Tryd.func17 rfl rfl rfl) rfl rfl (fun w h => rdigit_spec s (numEnd s i) hs (by omega) w) ?_
      refine w_want rfl rfl (congrArg Value.bool h16) ?_; refine w_r (fun _ => R_not rfl) rfl rfl ?_; refine w_r (v := .bool _) (fun _ => R_pickT (congrArg Value.bool h16) rfl) rfl rfl ?_
      refine w_move (v := .bool _) rfl ?_
      refine w_split (t := 81) rfl (fun h17 => ?_) (fun h17 => ?_)
      · refine w_want rfl rfl (congrArg Value.bool h17) ?_; refine w_move (v := str _) e0_2 ?_; refine w_want rfl rfl (congrArg Value.bool h17) ?_; refine w_move (v := .int _ _) e1_2 ?_
        refine w_want rfl rfl (congrArg Value.bool h17) ?_; refine w_call (fun w => R_call Tryd.func28 rfl rfl rfl) rfl rfl (fun w h => ris_spec s (numEnd s i) 46 hs (by omega) w) ?_
        refine w_want rfl rfl (congrArg Value.bool h17) ?_; refine w_r (fun _ => R_not rfl) rfl rfl ?_; refine w_r (v := .bool _) (fun _ => R_pickT (congrArg Value.bool h17) rfl) rfl rfl ?_
        refine w_asg (v := .int _ _) rfl ?_; refine w_asg (v := .bool _) rfl ?_; refine w_nil ?_; refine k_on ?_; refine c_ret ?_
        have hx : decide (numEnd s i - q ≤ 4) = decide (((numEnd s i : Nat) : Int) - (q : Int) ≤ 4) := by congr 1; apply propext; omega
        refine r_two (v := .int _ _) (v2 := .bool _) rfl rfl rfl rfl rfl ?_
        exact fun w' hw => ⟨by rw [numFine, hf, at_tail, hx]; clear hx hf g0 g3; first | (simp_all; done) | (simp_all; intros; omega), hw.fr _ (.head _)⟩
      · refine w_skip rfl rfl (congrArg Value.bool h17) ?_; refine w_skip rfl rfl (congrArg Value.bool h17) ?_; refine w_skip rfl rfl (congrArg Value.bool h17) ?_; refine w_skip rfl rfl (congrArg Value.bool h17) ?_
        refine w_r (v := .bool _) (fun _ => R_pickF (congrArg Value.bool h17) rfl) rfl rfl ?_; refine w_asg (v := .int _ _) rfl ?_; refine w_asg (v := .bool _) rfl ?_
        refine w_nil ?_; refine k_on ?_; refine c_ret ?_
        have hx : decide (numEnd s i - q ≤ 4) = decide (((numEnd s i : Nat) : Int) - (q : Int) ≤ 4) := by congr 1; apply propext; omega
        refine r_two (v := .int _ _) (v2 := .bool _) rfl rfl rfl rfl rfl ?_
        exact fun w' hw => ⟨by rw [numFine, hf, at_tail, hx]; clear hx hf g0 g3; first | (simp_all; done) | (simp_all; intros; omega), hw.fr _ (.head _)⟩
    · refine w_skip rfl rfl (congrArg Value.bool h16) ?_; refine w_skip rfl rfl (congrArg Value.bool h16) ?_; refine w_skip rfl rfl (congrArg Value.bool h16) ?_; refine w_skip rfl rfl (congrArg Value.bool h16) ?_
      refine w_r (v := .bool _) (fun _ => R_pickF (congrArg Value.bool h16) rfl) rfl rfl ?_; refine w_move (v := .bool _) rfl ?_; refine w_skip rfl rfl rfl ?_; refine w_skip rfl rfl rfl ?_
      refine w_skip rfl rfl rfl ?_; refine w_skip rfl rfl rfl ?_; refine w_r (v := .bool _) (fun _ => R_pickF rfl rfl) rfl rfl ?_; refine w_asg (v := .int _ _) rfl ?_
      refine w_asg (v := .bool _) rfl ?_; refine w_nil ?_; refine k_on ?_; refine c_ret ?_
      have hx : decide (numEnd s i - q ≤ 4) = decide (((numEnd s i : Nat) : Int) - (q : Int) ≤ 4) := by congr 1; apply propext; omega
      refine r_two (v := .int _ _) (v2 := .bool _) rfl rfl rfl rfl rfl ?_
      exact fun w' hw => ⟨by rw [numFine, hf, at_tail, hx]; clear hx hf g0 g3; first | (simp_all; done) | (simp_all; intros; omega), hw.fr _ (.head _)⟩
  · refine w_skip rfl rfl (congrArg Value.bool (decide_eq_false h15)) ?_; refine w_skip rfl rfl (congrArg Value.bool (decide_eq_false h15)) ?_; refine w_skip rfl rfl (congrArg Value.bool (decide_eq_false h15)) ?_
    refine w_skip rfl rfl (congrArg Value.bool (decide_eq_false h15)) ?_; refine w_r (v := .bool _) (fun _ => R_pickF (congrArg Value.bool (decide_eq_false h15)) rfl) rfl rfl ?_
    refine w_move (v := .bool _) rfl ?_; refine w_skip rfl rfl rfl ?_; refine w_skip rfl rfl rfl ?_; refine w_skip rfl rfl rfl ?_; refine w_skip rfl rfl rfl ?_; refine w_r (v := .bool _) (fun _ => R_pickF rfl rfl) rfl rfl ?_
    refine w_move (v := .bool _) rfl ?_; refine w_skip rfl rfl rfl ?_; refine w_skip rfl rfl rfl ?_; refine w_skip rfl rfl rfl ?_; refine w_skip rfl rfl rfl ?_; refine w_r (v := .bool _) (fun _ => R_pickF rfl rfl) rfl rfl ?_
    refine w_asg (v := .int _ _) rfl ?_; refine w_asg (v := .bool _) rfl ?_; refine w_nil ?_; refine k_on ?_; refine c_ret ?_
    have hx : decide (numEnd s i - q ≤ 4) = decide (((numEnd s i : Nat) : Int) - (q : Int) ≤ 4) := by congr 1; apply propext; omega
    refine r_two (v := .int _ _) (v2 := .bool _) rfl rfl rfl rfl rfl ?_
    exact fun w' hw => ⟨by rw [numFine, hf, at_tail, hx]; clear hx hf g0 g3; first | (simp_all; done) | (simp_all; intros; omega), hw.fr _ (.head _)⟩

set_option maxRecDepth 100000 in
set_option maxHeartbeats 400000 in
theorem rsign_spec (s : List UInt8) (i : Nat) (hs : s.length ≤ 100000) (hi : i < s.length) (w : World) :
    Ret Tryd.prog 19 #[str s, .int .i64 (i : Nat)] w (fun v w' => v = .int .i64 (signLen s i : Nat) ∧ Ext w w') := by
  refine enter (S := No) (l := [_, _]) (L := []) 46 Tryd.func19 rfl rfl rfl (St.start w No) ?_
  refine c_seq ?_; refine c_region ?_; refine w_asg (v := .int _ _) rfl ?_; refine w_nil ?_; refine k_on ?_; refine c_seq ?_; refine c_region ?_
  refine w_bslice slt56 (by decide) rfl rfl (fun fb gfb ufb => ?_)
  refine w_asg (v := .slice _ _ _) rfl ?_; refine w_nil ?_; refine k_on ?_; refine c_seq ?_; refine c_seq ?_; refine c_region ?_; refine w_asg (v := .int _ _) rfl ?_
  refine w_nil ?_; refine k_on ?_; refine c_block ?_
  refine c_loop (fun m e B L => ∃ (k : Nat), e 0 = str s ∧ e 1 = .int .i64 (i : Nat) ∧ e 5 = .slice (some ⟨fb, 0, none⟩) 5 5 ∧ e 6 = .int .i64 (k : Nat) ∧ B = [(w, No)] ∧ L = [(fb, cel [str [61, 61], str [33, 61], str [60, 61], str [62, 61], str [43, 61]] 9)] ∧ k ≤ 5 ∧ (signsL.take k).find? (fun t => t.isPrefixOf (s.drop i)) = none ∧ m = 5 - k) _ ⟨0, rfl, rfl, rfl, rfl, rfl, rfl, by omega, rfl, rfl⟩ ?_
  rintro m e B L ⟨k, e0_1, e1_1, e5_1, e6_1, rfl, rfl, hk, hn, rfl⟩
  refine c_seq ?_; refine c_seq ?_; refine c_region ?_; refine w_move (v := .int _ _) e6_1 ?_; refine w_move (v := .slice _ _ _) e5_1 ?_; refine w_r (fun _ => R_len sl56 rfl) rfl rfl ?_
  refine w_r (fun _ => R_lt rfl rfl) rfl rfl ?_; refine w_nil ?_; refine k_on ?_
  refine c_condD rfl (fun h1 => ?_) (fun h1 => ?_)
  · refine c_skip ?_; refine k_on ?_; refine c_seq ?_; refine c_block ?_; refine c_seq ?_; refine c_draw mixed (by kernel_rfl) ?_; refine w_move (v := .int _ _) e1_1 ?_
    refine w_r (fun _ => R_addi rfl rfl (by omega)) rfl rfl ?_; refine w_move (v := str _) e0_1 ?_; refine w_r (fun _ => R_slen st9 rfl (by omega)) rfl rfl ?_; refine w_r (fun _ => R_le rfl rfl) rfl rfl ?_
    refine w_move (v := .bool _) rfl ?_
    refine w_splitD (t := 21) rfl (fun h2 => ?_) (fun h2 => ?_)
    · refine w_want rfl rfl (congrArg Value.bool (decide_eq_true h2)) ?_; refine w_move (v := str _) e0_1 ?_; refine w_want rfl rfl (congrArg Value.bool (decide_eq_true h2)) ?_
      refine w_move (v := .int _ _) e1_1 ?_; refine w_want rfl rfl (congrArg Value.bool (decide_eq_true h2)) ?_; refine w_move (v := .int _ _) e1_1 ?_; refine w_want rfl rfl (congrArg Value.bool (decide_eq_true h2)) ?_
      refine w_r (fun _ => R_addi rfl rfl (by omega)) rfl rfl ?_; refine w_want rfl rfl (congrArg Value.bool (decide_eq_true h2)) ?_; refine w_r (fun _ => R_sslN (l := i) (h := (i + 2)) st9 rfl rfl rfl (by omega) (by omega)) rfl rfl ?_
      refine w_want rfl rfl (congrArg Value.bool (decide_eq_true h2)) ?_; refine w_move (v := .slice _ _ _) e5_1 ?_; refine w_want rfl rfl (congrArg Value.bool (decide_eq_true h2)) ?_
      refine w_move (v := .int _ _) e6_1 ?_; refine w_want rfl rfl (congrArg Value.bool (decide_eq_true h2)) ?_; refine w_r (fun _ => R_iaN (i := k) sl56 rfl rfl (by first | omega | decide)) rfl rfl ?_
      refine w_want rfl rfl (congrArg Value.bool (decide_eq_true h2)) ?_; refine w_load z9 rfl (fun _ h => by first | exact cel_own 0 rfl rfl h | exact cel_own 0 rfl (two_at (by omega)) h) ?_
      refine w_want rfl rfl (congrArg Value.bool (decide_eq_true h2)) ?_; refine w_r (fun _ => R_seq rfl rfl) rfl rfl ?_; refine w_r (v := .bool _) (fun _ => R_pickT (congrArg Value.bool (decide_eq_true h2)) rfl) rfl rfl ?_
      refine w_nil ?_; refine k_on ?_
      refine c_condD rfl (fun h3 => ?_) (fun h3 => ?_)
      · refine c_seq ?_; refine c_region ?_; refine w_asg (v := .int _ _) rfl ?_; refine w_nil ?_; refine k_on ?_; refine c_ret ?_; refine b_ret (k_ret (k_ret (b_ret (k_ret (?_)))))
        have r2 := sig_found (by omega) hn (show (signsL.getD k []).isPrefixOf (s.drop i) = true by rw [pre_two _ (sig_two k (by omega)), Bool.and_eq_true, decide_eq_true_eq, decide_eq_true_eq]; rw [show i + 2 - i = 2 by omega] at h3; exact ⟨by omega, h3⟩)
        refine r_one (v := .int _ _) rfl rfl rfl ?_
        exact fun w' hw => ⟨by rw [r2, sig_two k (by omega)]; rfl, hw.fr _ (.head _)⟩
      · refine c_skip ?_; refine b_on (k_on ?_); refine c_region ?_; refine w_move (v := .int _ _) e6_1 ?_; refine w_r (fun _ => R_addi rfl rfl (by omega)) rfl rfl ?_; refine w_asg (v := .int _ _) rfl ?_
        refine w_nil ?_
        exact k_again _ (by omega) ⟨k + 1, e0_1, e1_1, e5_1, rfl, rfl, rfl, by omega, sig_step (by omega) hn (by rw [pre_two _ (sig_two k (by omega))]; simp only [Bool.and_eq_false_iff, decide_eq_false_iff_not]; first | exact .inl (by omega) | exact .inr (by rw [show i + 2 - i = 2 by omega] at h3; exact h3)), rfl⟩
    · refine w_skip rfl rfl (congrArg Value.bool (decide_eq_false h2)) ?_; refine w_skip rfl rfl (congrArg Value.bool (decide_eq_false h2)) ?_; refine w_skip rfl rfl (congrArg Value.bool (decide_eq_false h2)) ?_
      refine w_skip rfl rfl (congrArg Value.bool (decide_eq_false h2)) ?_; refine w_skip rfl rfl (congrArg Value.bool (decide_eq_false h2)) ?_; refine w_skip rfl rfl (congrArg Value.bool (decide_eq_false h2)) ?_
      refine w_skip rfl rfl (congrArg Value.bool (decide_eq_false h2)) ?_; refine w_skip rfl rfl (congrArg Value.bool (decide_eq_false h2)) ?_; refine w_skip rfl rfl (congrArg Value.bool (decide_eq_false h2)) ?_
      refine w_skip rfl rfl (congrArg Value.bool (decide_eq_false h2)) ?_; refine w_r (v := .bool _) (fun _ => R_pickF (congrArg Value.bool (decide_eq_false h2)) rfl) rfl rfl ?_
      refine w_nil ?_; refine k_on ?_; refine c_condF rfl ?_; refine c_skip ?_; refine b_on (k_on ?_); refine c_region ?_; refine w_move (v := .int _ _) e6_1 ?_; refine w_r (fun _ => R_addi rfl rfl (by omega)) rfl rfl ?_
      refine w_asg (v := .int _ _) rfl ?_; refine w_nil ?_
      exact k_again _ (by omega) ⟨k + 1, e0_1, e1_1, e5_1, rfl, rfl, rfl, by omega, sig_step (by omega) hn (by rw [pre_two _ (sig_two k (by omega))]; simp only [Bool.and_eq_false_iff, decide_eq_false_iff_not]; first | exact .inl (by omega) | exact .inr (by rw [show i + 2 - i = 2 by omega] at h3; exact h3)), rfl⟩
  · refine c_exit ?_; refine k_exit (k_exit (b_here rfl (k_on ?_))); refine c_seq ?_; refine c_region ?_; refine w_asg (v := str _) rfl ?_; refine w_nil ?_; refine k_on ?_
    refine c_seq ?_; refine c_seq ?_; refine c_region ?_; refine w_asg (v := .int _ _) rfl ?_; refine w_nil ?_; refine k_on ?_; refine c_block ?_
    obtain rfl : k = 5 := by omega
    refine c_loop (fun m e B L => ∃ (k : Nat), e 0 = str s ∧ e 1 = .int .i64 (i : Nat) ∧ e 7 = str oneT ∧ e 8 = .int .i64 (k : Nat) ∧ B = [(w, No)] ∧ L = [(fb, cel [str [61, 61], str [33, 61], str [60, 61], str [62, 61], str [43, 61]] 9)] ∧ k ≤ 17 ∧ (signsL.take (5 + k)).find? (fun t => t.isPrefixOf (s.drop i)) = none ∧ m = 17 - k) _ ⟨0, e0_1, e1_1, rfl, rfl, rfl, rfl, by omega, hn, rfl⟩ ?_
    rintro m e B L ⟨k, e0_2, e1_2, e7_2, e8_2, rfl, rfl, hk, hn, rfl⟩
    have hL : oneT.length = 17 := rfl
    refine c_seq ?_; refine c_seq ?_; refine c_region ?_; refine w_move (v := .int _ _) e8_2 ?_; refine w_move (v := str _) e7_2 ?_; refine w_r (fun _ => R_slen st9 rfl (by omega)) rfl rfl ?_
    refine w_r (fun _ => R_lt rfl rfl) rfl rfl ?_; refine w_nil ?_; refine k_on ?_
    refine c_condD rfl (fun h4 => ?_) (fun h4 => ?_)
    · have hkl : k < oneT.length := by omega
      refine c_skip ?_; refine k_on ?_; refine c_seq ?_; refine c_block ?_; refine c_seq ?_; refine c_draw mixed (by kernel_rfl) ?_; refine w_move (v := str _) e0_2 ?_; refine w_move (v := .int _ _) e1_2 ?_
      refine w_sidx st9 rfl rfl (by omega) ?_; refine w_move (v := str _) e7_2 ?_; refine w_move (v := .int _ _) e8_2 ?_; refine w_sidx st9 rfl rfl (by omega) ?_; refine w_r (fun _ => R_eq rfl rfl) rfl rfl ?_
      refine w_nil ?_; refine k_on ?_
      refine c_condD rfl (fun h5 => ?_) (fun h5 => ?_)
      · refine c_seq ?_; refine c_region ?_; refine w_asg (v := .int _ _) rfl ?_; refine w_nil ?_; refine k_on ?_; refine c_ret ?_; refine b_ret (k_ret (k_ret (b_ret (k_ret (?_)))))
        have r2 := sig_found (k := 5 + k) (by omega) hn (by rw [sig_one k (by omega), pre_one _ hi]; simpa [List.getD_eq_getElem?_getD, hkl] using h5)
        refine r_one (v := .int _ _) rfl rfl rfl ?_
        exact fun w' hw => ⟨by rw [r2, sig_one k (by omega)]; rfl, hw.fr _ (.head _)⟩
      · refine c_skip ?_; refine b_on (k_on ?_); refine c_region ?_; refine w_move (v := .int _ _) e8_2 ?_; refine w_r (fun _ => R_addi rfl rfl (by omega)) rfl rfl ?_; refine w_asg (v := .int _ _) rfl ?_
        refine w_nil ?_
        exact k_again _ (by omega) ⟨k + 1, e0_2, e1_2, e7_2, rfl, rfl, rfl, by omega, sig_step (k := 5 + k) (by omega) hn (by rw [sig_one k (by omega), pre_one _ hi]; simpa [List.getD_eq_getElem?_getD, hkl] using h5), rfl⟩
    · refine c_exit ?_; refine k_exit (k_exit (b_here rfl (k_on ?_))); refine c_seq ?_; refine c_region ?_; refine w_asg (v := .int _ _) rfl ?_; refine w_nil ?_; refine k_on ?_
      refine c_ret ?_
      have r2 := sig_none (k := 5 + k) (by omega) hn
      refine r_one (v := .int _ _) rfl rfl rfl ?_
      exact fun w' hw => ⟨by rw [r2]; rfl, hw.fr _ (.head _)⟩
end Go.Proofs.YtmcajoiembfjiaaDoor
