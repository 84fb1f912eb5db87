import Derived.Test.YtmcajoiembfjiaaDoorLaw1T
import Derived.Test.YtmcajoiembfjiaaDoorTok4
namespace Go.Proofs.YtmcajoiembfjiaaDoor
open Go.RowKit Go.Sx
open Go.Tok

set_option maxRecDepth 100000 in
set_option maxHeartbeats 400000 in
theorem reads_law (s : List UInt8) (hs : s.length ≤ 9223372036854775807) (w : World) (ht : Tb w) (hgs : 1 < w.heap.size) :
    Ret Tryd.prog 3 #[str s] w (fun v w' => v = .bool true ∧ Ext w w') := by
  refine enter (S := No) (l := [_]) (L := []) 32 Tryd.func3 rfl rfl rfl (St.start w No) ?_
  refine c_seq ?_; refine c_region ?_; refine w_asg (v := .bool _) rfl ?_; refine w_nil ?_; refine k_on ?_; refine c_seq ?_; refine c_seq ?_; refine c_region ?_; refine w_move (v := str _) rfl ?_
  refine w_r (fun _ => R_slen st9 rfl (by omega)) rfl rfl ?_; refine w_r (fun _ => R_gt rfl rfl) rfl rfl ?_; refine w_nil ?_; refine k_on ?_
  refine c_condD rfl (fun h1 => ?_) (fun h1 => ?_)
  · refine c_seq ?_; refine c_region ?_; refine w_call (fun w => R_call Tryd.func8 rfl rfl rfl) rfl rfl (fun w h => head_spec w (ht.fr (h.fr _ (.head _)) (fun x => x)) (Nat.le_trans hgs (h.fr _ (.head _)).size)) ?_
    refine w_asg (v := .bool _) rfl ?_; refine w_nil ?_; refine k_on ?_; refine c_ret ?_; refine k_ret (?_)
    refine r_one (v := .bool _) rfl rfl rfl ?_
    exact fun w' hw => ⟨rfl, hw.fr _ (.head _)⟩
  · refine c_skip ?_; refine k_on ?_; refine c_seq ?_; refine c_region ?_; refine w_move (v := str _) rfl ?_
    refine w_callW (R := RdV (readP s)) (fun w => R_call Tryd.func9 rfl rfl rfl) rfl rfl (fun w h => Read_spec s (by omega) w (ht.fr (h.fr _ (.head _)) (fun x => x)) (Nat.le_trans hgs (h.fr _ (.head _)).size)) ?_
    refine fun u W1 hR1 => w_st (fun w h => h.perm List.perm_append_comm) ?_
    obtain ⟨a1, c1, rfl, hT1⟩ := hR1
    refine w_move rfl ?_; refine w_r (fun _ => R_extract rfl rfl) rfl rfl ?_; refine w_r (fun _ => R_extract rfl rfl) rfl rfl ?_
    refine w_alloc zr26 (fun t4b gt4b ut4b => ?_)
    refine w_asg (v := .slice _ _ _) rfl ?_; refine w_store 0 rfl z26 rfl rfl rfl rfl rfl rfl rfl ?_; refine w_nil ?_; refine k_on ?_; refine c_seq ?_; refine c_region ?_
    refine w_move (v := str _) rfl ?_
    refine w_callW (R := RdV (readP s)) (fun w => R_call Tryd.func10 rfl rfl rfl) rfl rfl (fun w h => rRead_spec s (by omega) w) ?_
    refine fun u W2 hR2 => w_st (fun w h => h.perm List.perm_append_comm) ?_
    obtain ⟨a2, c2, rfl, hT2⟩ := hR2
    refine w_move rfl ?_; refine w_r (fun _ => R_extract rfl rfl) rfl rfl ?_; refine w_r (fun _ => R_extract rfl rfl) rfl rfl ?_
    refine w_alloc zr26 (fun t6b gt6b ut6b => ?_)
    refine w_asg (v := .slice _ _ _) rfl ?_; refine w_store 0 rfl z26 rfl rfl rfl rfl rfl rfl rfl ?_; refine w_nil ?_; refine k_on ?_; refine c_seq ?_; refine c_region ?_
    refine w_move (v := .slice _ _ _) rfl ?_; refine w_move (v := .slice _ _ _) rfl ?_; refine w_call (fun w => R_call Tryd.func11 rfl rfl rfl) rfl rfl (fun w h => rSame_spec _ _ _ _ _ W1 W2 hT1 hT2 (readP_len s) w (fun p hp => h.own p (by simp [hp])) (fun p hp => h.own p (by simp [hp]))) ?_
    refine w_move (v := .bool _) rfl ?_; refine w_want rfl rfl rfl ?_; refine w_loadA z26 rfl (fun _ h => h.at_ 1 rfl) rfl ?_; refine w_want rfl rfl rfl ?_; refine w_loadA z26 rfl (fun _ h => h.at_ 0 rfl) rfl ?_
    refine w_want rfl rfl rfl ?_; refine w_r (fun _ => R_eqS fl26 rfl rfl (eq2_run (n := 9998) fl26 z24 z3 un24 un3)) rfl rfl ?_; refine w_r (v := .bool _) (fun _ => R_pickT rfl rfl) rfl rfl ?_
    refine w_move (v := .bool _) rfl ?_
    refine w_split (t := 29) rfl (fun h4 => ?_) (fun h4 => ?_)
    · refine w_want rfl rfl (congrArg Value.bool h4) ?_; refine w_call (fun w => R_call Tryd.func8 rfl rfl rfl) rfl rfl (fun w h => head_spec w (ht.fr (h.fr _ (.head _)) (fun x => x)) (Nat.le_trans hgs (h.fr _ (.head _)).size)) ?_
      refine w_r (v := .bool _) (fun _ => R_pickT (congrArg Value.bool h4) rfl) rfl rfl ?_; refine w_asg (v := .bool _) rfl ?_; refine w_nil ?_; refine k_on ?_; refine c_ret ?_
      refine r_one (v := .bool _) rfl rfl rfl ?_
      exact fun w' hw => ⟨rfl, hw.fr _ (.head _)⟩
    · first | exact absurd (by first | rfl | decide) h4 | exact absurd h4 (by decide) | (simp at h4)

set_option maxRecDepth 100000 in
set_option maxHeartbeats 400000 in
theorem place_law (s : List UInt8) (a : Int) (hs : s.length ≤ 9223372036854775807) (w : World) (ht : Tb w) (hgs : 1 < w.heap.size) :
    Ret Tryd.prog 4 #[str s, .int .i64 a] w (fun v w' => v = .bool true ∧ Ext w w') := by
  refine enter (S := No) (l := [_, _]) (L := []) 36 Tryd.func4 rfl rfl rfl (St.start w No) ?_
  refine c_seq ?_; refine c_region ?_; refine w_asg (v := .bool _) rfl ?_; refine w_nil ?_; refine k_on ?_; refine c_seq ?_; refine c_seq ?_; refine c_region ?_; refine w_move (v := str _) rfl ?_
  refine w_r (fun _ => R_slen st9 rfl (by omega)) rfl rfl ?_; refine w_r (fun _ => R_gt rfl rfl) rfl rfl ?_; refine w_nil ?_; refine k_on ?_
  refine c_condD rfl (fun h1 => ?_) (fun h1 => ?_)
  · refine c_seq ?_; refine c_region ?_; refine w_call (fun w => R_call Tryd.func8 rfl rfl rfl) rfl rfl (fun w h => head_spec w (ht.fr (h.fr _ (.head _)) (fun x => x)) (Nat.le_trans hgs (h.fr _ (.head _)).size)) ?_
    refine w_asg (v := .bool _) rfl ?_; refine w_nil ?_; refine k_on ?_; refine c_ret ?_; refine k_ret (?_)
    refine r_one (v := .bool _) rfl rfl rfl ?_
    exact fun w' hw => ⟨rfl, hw.fr _ (.head _)⟩
  · refine c_skip ?_; refine k_on ?_; refine c_seq ?_; refine c_region ?_; refine w_move (v := str _) rfl ?_; refine w_move (v := .int _ _) rfl ?_; refine w_call (fun w => R_call Tryd.func12 rfl rfl rfl) rfl rfl (fun w h => Place_spec s a (by omega) w) ?_
    refine w_move rfl ?_; refine w_r (fun _ => R_extract rfl rfl) rfl rfl ?_; refine w_r (fun _ => R_extract rfl rfl) rfl rfl ?_; refine w_asg (v := .int _ _) rfl ?_
    refine w_asg (v := .int _ _) rfl ?_; refine w_nil ?_; refine k_on ?_; refine c_seq ?_; refine c_region ?_; refine w_move (v := str _) rfl ?_; refine w_move (v := .int _ _) rfl ?_
    refine w_call (fun w => R_call Tryd.func13 rfl rfl rfl) rfl rfl (fun w h => rPlace_spec s a (by omega) w) ?_; refine w_move rfl ?_; refine w_r (fun _ => R_extract rfl rfl) rfl rfl ?_
    refine w_r (fun _ => R_extract rfl rfl) rfl rfl ?_; refine w_asg (v := .int _ _) rfl ?_; refine w_asg (v := .int _ _) rfl ?_; refine w_nil ?_; refine k_on ?_; refine c_seq ?_
    refine c_region ?_; refine w_move (v := .int _ _) rfl ?_; refine w_move (v := .int _ _) rfl ?_; refine w_r (fun _ => R_eq rfl rfl) rfl rfl ?_; refine w_move (v := .bool _) rfl ?_
    refine w_splitD (t := 28) rfl (fun h2 => ?_) (fun h2 => ?_)
    · refine w_want rfl rfl (congrArg Value.bool (decide_eq_true h2)) ?_; refine w_move (v := .int _ _) rfl ?_; refine w_want rfl rfl (congrArg Value.bool (decide_eq_true h2)) ?_
      refine w_move (v := .int _ _) rfl ?_; refine w_want rfl rfl (congrArg Value.bool (decide_eq_true h2)) ?_; refine w_r (fun _ => R_eq rfl rfl) rfl rfl ?_; refine w_r (v := .bool _) (fun _ => R_pickT (congrArg Value.bool (decide_eq_true h2)) rfl) rfl rfl ?_
      refine w_move (v := .bool _) rfl ?_
      refine w_splitD (t := 33) rfl (fun h3 => ?_) (fun h3 => ?_)
      · refine w_want rfl rfl (congrArg Value.bool (decide_eq_true h3)) ?_; refine w_call (fun w => R_call Tryd.func8 rfl rfl rfl) rfl rfl (fun w h => head_spec w (ht.fr (h.fr _ (.head _)) (fun x => x)) (Nat.le_trans hgs (h.fr _ (.head _)).size)) ?_
        refine w_r (v := .bool _) (fun _ => R_pickT (congrArg Value.bool (decide_eq_true h3)) rfl) rfl rfl ?_; refine w_asg (v := .bool _) rfl ?_; refine w_nil ?_; refine k_on ?_
        refine c_ret ?_
        refine r_one (v := .bool _) rfl rfl rfl ?_
        exact fun w' hw => ⟨rfl, hw.fr _ (.head _)⟩
      · first | exact absurd (by first | rfl | decide) h3 | exact absurd h3 (by decide) | (simp at h3)
    · first | exact absurd (by first | rfl | decide) h2 | exact absurd h2 (by decide) | (simp at h2)
end Go.Proofs.YtmcajoiembfjiaaDoor
