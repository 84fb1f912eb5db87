/- For every program and every number, of a bulk of at most 1048576, the law TreeOwn holds of the given program. Part 13 of 13. -/
import Derived.Test.YtcmcdgkjipnfnaaDoorO02
import Derived.Test.YtcmcdgkjipnfnaaDoorO12
import Derived.Test.YtcmcdgkjipnfnaaDoorO10
import Derived.Test.YtcmcdgkjipnfnaaDoorO06
import Derived.ChangeArms
import Derived.OpenShut
import Derived.Test.YtcmcdgkjipnfnaaDoorRows
import Derived.Deep.DeepHandedRow
import Derived.ProofKit
import Derived.LaidMore
import Derived.Shelf.Vars
import Derived.Carry
import Derived.JoinedCond
import Derived.Deep.DeepWitnessRowRef
import Derived.Stop.Joined
import Derived.Test.YtcmcdgkjipnfnaaDoorTie
import Derived.Test.YtcmcdgkjipnfnaaDoorCards
import Derived.SevenTiedAt
section
namespace Go.Proofs.YtcmcdgkjipnfnaaDoor
open Go.RowKit Go.Sx
open Go.Tok Go.Tree


theorem pg_one {w : World} {N : Nat → Prop} {p : List Bk} {cs : List Value} (h : pgM w N p cs) : cs.all Value.oneCell' = true := by
  rw [List.all_eq_true]
  intro v hv
  obtain ⟨j, hj⟩ := List.getElem?_of_mem hv
  have hlt := (List.getElem?_eq_some_iff.1 hj).1
  have hl := h.len
  obtain ⟨b, hb⟩ : ∃ b, p[j / 3]? = some b := ⟨_, List.getElem?_eq_getElem (by rw [h.six]; omega)⟩
  obtain ⟨da, dc, sa, sc, he, _, _⟩ := h.one _ b hb
  have hq : ((cs.drop (j / 3 * 3)).take 3)[j % 3]? = some v := by
    rw [List.getElem?_take, if_pos (Nat.mod_lt _ (by decide)), List.getElem?_drop, ← hj]; congr 1; omega
  rw [he] at hq
  have hm := List.mem_of_getElem? hq
  simp only [List.mem_cons, List.not_mem_nil, or_false] at hm
  rcases hm with rfl | rfl | rfl <;> rfl
theorem pgM_set {w : World} {N : Nat → Prop} {p : List Bk} {cs : List Value} {i : Nat} {b : Bk} (h : pgM w N p cs) (hb : p[i]? = some b) : pgM w N (setIs p i b) (cs.set (i * 3) (.bool true)) := by
  have hi := (List.getElem?_eq_some_iff.1 hb).1
  have h6 := h.six
  have hl := h.len
  refine ⟨by unfold setIs; rw [List.length_set]; exact h6, by rw [List.length_set]; exact hl, fun j x hx => ?_⟩
  by_cases hj : j = i
  · subst hj
    have h1 : (setIs p j b)[j]? = some { b with is := true } := by unfold setIs; rw [List.getElem?_set_self hi]
    obtain rfl := Option.some.inj (h1.symm.trans hx)
    obtain ⟨da, dc, sa, sc, he, hd, hs⟩ := h.one j b hb
    refine ⟨da, dc, sa, sc, ?_, hd, hs⟩
    rw [List.drop_set, if_neg (by omega), Nat.sub_self, List.take_set, he]; rfl
  · have h1 : (setIs p i b)[j]? = p[j]? := by unfold setIs; rw [List.getElem?_set_ne (by omega)]
    obtain ⟨da, dc, sa, sc, he, hd, hs⟩ := h.one j x (h1.symm.trans hx)
    refine ⟨da, dc, sa, sc, ?_, hd, hs⟩
    rw [← he, List.drop_set]
    split
    · rfl
    · rw [List.take_set_of_le (by omega)]
theorem setIs_W {p : List Bk} {i : Nat} {b : Bk} {m : Nat} (hp : ∀ b ∈ p, bkW b ≤ m) (hb : p[i]? = some b) : ∀ x ∈ setIs p i b, bkW x ≤ m := by
  intro x hx
  rcases List.mem_or_eq_of_mem_set hx with h | rfl
  · exact hp x h
  · exact hp b (List.mem_of_getElem? hb)

set_option maxRecDepth 100000 in
set_option maxHeartbeats 4000000 in
theorem own_law (pg : List Bk) (cs : List Value) (N : Nat → Prop) (u : Nat) (hu : u < 256) (w : World) (hW : Wd w) (hp : ∀ b ∈ pg, bkW b ≤ 1048576) (hm : pgM w N pg cs) :
    Ret Tryd.prog 5 #[.agg cs.toArray, .int .u8 (u : Nat)] w (fun v w' => v = .bool true ∧ Ext w w') := by
  have hlen := pgT_len hp
  have hi6 : u % 6 < 6 := Nat.mod_lt _ (by decide)
  obtain ⟨b, hb⟩ : ∃ b, pg[u % 6]? = some b := ⟨_, List.getElem?_eq_getElem (by rw [hm.six]; exact hi6)⟩
  obtain ⟨da, dc, sa, sc, hcb, hds, hss⟩ := hm.one _ b hb
  have hself := pgSame_refl pg
  have hl1 : (if pgOk pg = true then textT (pgT pg) else []).length ≤ 1000000000 := by split <;> first | exact hlen.2 | exact Nat.zero_le _
  refine enter (S := No) (l := [_, _]) (L := []) 102 Tryd.func5 rfl rfl rfl (St.start w No) ?_
  refine c_seq ?_; refine c_region ?_
  refine w_boxA rfl (fun t2b gt2b ut2b => ?_)
  refine w_asg (v := .bool _) rfl ?_; refine w_nil ?_; refine k_on ?_; refine c_seq ?_; refine c_seq ?_; refine c_region ?_
  refine w_loadW z30 rfl (fun _ h => h.at_ 0 rfl) hm.len ?_
  refine w_call (fun w => R_call Tryd.func9 rfl rfl rfl) rfl rfl (fun w h => Small_spec pg cs N w (fun b hb => Nat.lt_of_le_of_lt (hp b hb) (by decide)) (hm.now (fun _ _ hh => hh) (.head _) h)) ?_
  refine w_r (fun _ => R_not rfl) rfl rfl ?_; refine w_nil ?_; refine k_on ?_
  refine c_condN rfl (fun h2 => ?_) (fun h2 => ?_)
  · refine c_seq ?_; refine c_region ?_; refine w_call (fun w => R_call Tryd.func6 rfl rfl rfl) rfl rfl (fun w h => thead_spec w (hW.now (.head _) h)) ?_; refine w_asg (v := .bool _) rfl ?_
    refine w_nil ?_; refine k_on ?_; refine c_ret ?_; refine k_ret (?_)
    refine r_one (v := .bool _) rfl rfl rfl ?_
    exact fun w' hw => ⟨by first | rfl | (simp_all; done), hw.fr _ (.head _)⟩
  · refine c_skip ?_; refine k_on ?_; refine c_seq ?_; refine c_region ?_
    refine w_loadW z30 rfl (fun _ h => h.at_ 0 rfl) hm.len ?_
    refine w_call (fun w => R_call Tryd.func10 rfl rfl rfl) rfl rfl (fun w h => Write_spec pg _ N w (fun b hb => Nat.lt_of_le_of_lt (hp b hb) (by decide)) (hm.now (fun _ _ hh => hh) (.head _) h) (hW.now (.head _) h) hlen.1 hlen.2) ?_
    refine w_move rfl ?_; refine w_r (fun _ => R_extract rfl rfl) rfl rfl ?_; refine w_r (fun _ => R_extract rfl rfl) rfl rfl ?_; refine w_asg (v := str _) rfl ?_
    refine w_asg (v := .int _ _) rfl ?_; refine w_nil ?_; refine k_on ?_; refine c_seq ?_; refine c_region ?_
    refine w_loadW z30 rfl (fun _ h => h.at_ 0 rfl) hm.len ?_
    refine w_call (fun w => R_call Tryd.func13 rfl rfl rfl) rfl rfl (fun w h => Nodes_spec pg cs N w (fun b hb => Nat.lt_of_le_of_lt (hp b hb) (by decide)) (hm.now (fun _ _ hh => hh) (.head _) h)) ?_
    refine w_asg (v := .int _ _) rfl ?_; refine w_nil ?_; refine k_on ?_; refine c_seq ?_; refine c_region ?_
    refine w_loadW z30 rfl (fun _ h => h.at_ 0 rfl) hm.len ?_
    refine w_alloc zr30 (fun t8b gt8b ut8b => ?_)
    refine w_store (cs' := cs) 0 rfl z30 rfl rfl rfl hm.len (pg_one hm) rfl (by simp) ?_
    refine w_nil ?_; refine k_on ?_; refine c_seq ?_; refine c_region ?_; refine w_move (v := .int _ _) rfl ?_; refine w_r (fun _ => R_convN (n := u) un5 un3 rfl (by omega)) rfl rfl ?_
    refine w_r (fun _ => R_remN (n := u) (m := 6) rfl rfl (by decide)) rfl rfl ?_; refine w_asg (v := .int _ _) rfl ?_; refine w_nil ?_; refine k_on ?_; refine c_seq ?_
    refine c_seq ?_; refine c_region ?_; refine w_move (v := .int _ _) rfl ?_; refine w_fa fa30_0 rfl ?_; refine w_r (fun _ => R_iaA (i := (u % 6)) ara28 (by decide) rfl rfl (by first | omega | decide)) rfl rfl ?_
    refine w_fa fa27_0 rfl ?_
    refine w_load (v := .bool b.is) z4 rfl (fun w h => cel_own 0 rfl (sub_get hcb (j := 0) rfl) h) ?_
    refine w_nil ?_; refine k_on ?_
    refine c_cond rfl (fun h4 => ?_) (fun h4 => ?_)
    · refine c_seq ?_; refine c_region ?_
      refine w_loadW z30 rfl (fun _ h => h.at_ 1 rfl) hm.len ?_
      refine w_call (fun w => R_call Tryd.func10 rfl rfl rfl) rfl rfl (fun w h => Write_spec pg _ N w (fun b hb => Nat.lt_of_le_of_lt (hp b hb) (by decide)) (hm.now (fun _ _ hh => hh) (.head _) h) (hW.now (.head _) h) hlen.1 hlen.2) ?_
      refine w_move rfl ?_; refine w_r (fun _ => R_extract rfl rfl) rfl rfl ?_; refine w_r (fun _ => R_extract rfl rfl) rfl rfl ?_; refine w_asg (v := str _) rfl ?_
      refine w_asg (v := .int _ _) rfl ?_; refine w_nil ?_; refine k_on ?_; refine c_seq ?_; refine c_region ?_; refine w_move (v := str _) rfl ?_; refine w_move (v := str _) rfl ?_
      refine w_r (fun _ => R_seq rfl rfl) rfl rfl ?_; refine w_move (v := .bool _) rfl ?_
      refine w_splitD (t := 42) rfl (fun h5 => ?_) (fun h5 => ?_)
      · refine w_want rfl rfl (congrArg Value.bool (decide_eq_true h5)) ?_; refine w_move (v := .int _ _) rfl ?_; refine w_want rfl rfl (congrArg Value.bool (decide_eq_true h5)) ?_
        refine w_move (v := .int _ _) rfl ?_; refine w_want rfl rfl (congrArg Value.bool (decide_eq_true h5)) ?_; refine w_r (fun _ => R_eq rfl rfl) rfl rfl ?_; refine w_r (v := .bool _) (fun _ => R_pickT (congrArg Value.bool (decide_eq_true h5)) rfl) rfl rfl ?_
        refine w_move (v := .bool _) rfl ?_
        refine w_splitD (t := 47) rfl (fun h6 => ?_) (fun h6 => ?_)
        · refine w_want rfl rfl (congrArg Value.bool (decide_eq_true h6)) ?_; refine w_move (v := .int _ _) rfl ?_; refine w_want rfl rfl (congrArg Value.bool (decide_eq_true h6)) ?_
          refine w_loadW z30 rfl (fun _ h => h.at_ 1 rfl) hm.len ?_
          refine w_want rfl rfl (congrArg Value.bool (decide_eq_true h6)) ?_; refine w_call (fun w => R_call Tryd.func13 rfl rfl rfl) rfl rfl (fun w h => Nodes_spec pg cs N w (fun b hb => Nat.lt_of_le_of_lt (hp b hb) (by decide)) (hm.now (fun _ _ hh => hh) (.head _) h)) ?_
          refine w_want rfl rfl (congrArg Value.bool (decide_eq_true h6)) ?_; refine w_r (fun _ => R_eq rfl rfl) rfl rfl ?_; refine w_r (v := .bool _) (fun _ => R_pickT (congrArg Value.bool (decide_eq_true h6)) rfl) rfl rfl ?_
          refine w_move (v := .bool _) rfl ?_
          refine w_splitD (t := 53) rfl (fun h7 => ?_) (fun h7 => ?_)
          · refine w_want rfl rfl (congrArg Value.bool (decide_eq_true h7)) ?_
            refine w_loadW z30 rfl (fun _ h => h.at_ 1 rfl) hm.len ?_
            refine w_want rfl rfl (congrArg Value.bool (decide_eq_true h7)) ?_
            refine w_loadW z30 rfl (fun _ h => h.at_ 1 rfl) hm.len ?_
            refine w_want rfl rfl (congrArg Value.bool (decide_eq_true h7)) ?_; refine w_call (fun w => R_call Tryd.func11 rfl rfl rfl) rfl rfl (fun w h => Same_spec pg pg cs cs N w (fun b hb => Nat.lt_of_le_of_lt (hp b hb) (by decide)) (hm.now (fun _ _ hh => hh) (.head _) h) (hm.now (fun _ _ hh => hh) (.head _) h)) ?_
            refine w_r (v := .bool _) (fun _ => R_pickT (congrArg Value.bool (decide_eq_true h7)) rfl) rfl rfl ?_; refine w_move (v := .bool _) rfl ?_
            refine w_split (t := 58) rfl (fun h8 => ?_) (fun h8 => ?_)
            · refine w_want rfl rfl (congrArg Value.bool h8) ?_; refine w_call (fun w => R_call Tryd.func6 rfl rfl rfl) rfl rfl (fun w h => thead_spec w (hW.now (.head _) h)) ?_
              refine w_r (v := .bool _) (fun _ => R_pickT (congrArg Value.bool h8) rfl) rfl rfl ?_; refine w_asg (v := .bool _) rfl ?_; refine w_nil ?_; refine k_on ?_; refine c_ret ?_
              refine k_ret (?_)
              refine r_one (v := .bool _) rfl rfl rfl ?_
              exact fun w' hw => ⟨by first | rfl | (simp_all; done), hw.fr _ (.head _)⟩
            · refine w_skip rfl rfl (congrArg Value.bool h8) ?_; refine w_r (v := .bool _) (fun _ => R_pickF (congrArg Value.bool h8) rfl) rfl rfl ?_; refine w_asg (v := .bool _) rfl ?_
              refine w_nil ?_; refine k_on ?_; refine c_ret ?_; refine k_ret (?_)
              refine r_one (v := .bool _) rfl rfl rfl ?_
              exact fun w' hw => ⟨by first | rfl | (simp_all; done), hw.fr _ (.head _)⟩
          · refine w_skip rfl rfl (congrArg Value.bool (decide_eq_false h7)) ?_; refine w_skip rfl rfl (congrArg Value.bool (decide_eq_false h7)) ?_; refine w_skip rfl rfl (congrArg Value.bool (decide_eq_false h7)) ?_
            refine w_r (v := .bool _) (fun _ => R_pickF (congrArg Value.bool (decide_eq_false h7)) rfl) rfl rfl ?_; refine w_move (v := .bool _) rfl ?_; refine w_skip rfl rfl rfl ?_
            refine w_r (v := .bool _) (fun _ => R_pickF rfl rfl) rfl rfl ?_; refine w_asg (v := .bool _) rfl ?_; refine w_nil ?_; refine k_on ?_; refine c_ret ?_; refine k_ret (?_)
            refine r_one (v := .bool _) rfl rfl rfl ?_
            exact fun w' hw => ⟨by first | rfl | (simp_all; done), hw.fr _ (.head _)⟩
        · refine w_skip rfl rfl (congrArg Value.bool (decide_eq_false h6)) ?_; refine w_skip rfl rfl (congrArg Value.bool (decide_eq_false h6)) ?_; refine w_skip rfl rfl (congrArg Value.bool (decide_eq_false h6)) ?_
          refine w_skip rfl rfl (congrArg Value.bool (decide_eq_false h6)) ?_; refine w_r (v := .bool _) (fun _ => R_pickF (congrArg Value.bool (decide_eq_false h6)) rfl) rfl rfl ?_
          refine w_move (v := .bool _) rfl ?_; refine w_skip rfl rfl rfl ?_; refine w_skip rfl rfl rfl ?_; refine w_skip rfl rfl rfl ?_; refine w_r (v := .bool _) (fun _ => R_pickF rfl rfl) rfl rfl ?_
          refine w_move (v := .bool _) rfl ?_; refine w_skip rfl rfl rfl ?_; refine w_r (v := .bool _) (fun _ => R_pickF rfl rfl) rfl rfl ?_; refine w_asg (v := .bool _) rfl ?_
          refine w_nil ?_; refine k_on ?_; refine c_ret ?_; refine k_ret (?_)
          refine r_one (v := .bool _) rfl rfl rfl ?_
          exact fun w' hw => ⟨by first | rfl | (simp_all; done), hw.fr _ (.head _)⟩
      · refine w_skip rfl rfl (congrArg Value.bool (decide_eq_false h5)) ?_; refine w_skip rfl rfl (congrArg Value.bool (decide_eq_false h5)) ?_; refine w_skip rfl rfl (congrArg Value.bool (decide_eq_false h5)) ?_
        refine w_r (v := .bool _) (fun _ => R_pickF (congrArg Value.bool (decide_eq_false h5)) rfl) rfl rfl ?_; refine w_move (v := .bool _) rfl ?_; refine w_skip rfl rfl rfl ?_
        refine w_skip rfl rfl rfl ?_; refine w_skip rfl rfl rfl ?_; refine w_skip rfl rfl rfl ?_; refine w_r (v := .bool _) (fun _ => R_pickF rfl rfl) rfl rfl ?_; refine w_move (v := .bool _) rfl ?_
        refine w_skip rfl rfl rfl ?_; refine w_skip rfl rfl rfl ?_; refine w_skip rfl rfl rfl ?_; refine w_r (v := .bool _) (fun _ => R_pickF rfl rfl) rfl rfl ?_; refine w_move (v := .bool _) rfl ?_
        refine w_skip rfl rfl rfl ?_; refine w_r (v := .bool _) (fun _ => R_pickF rfl rfl) rfl rfl ?_; refine w_asg (v := .bool _) rfl ?_; refine w_nil ?_; refine k_on ?_
        refine c_ret ?_; refine k_ret (?_)
        refine r_one (v := .bool _) rfl rfl rfl ?_
        exact fun w' hw => ⟨by first | rfl | (simp_all; done), hw.fr _ (.head _)⟩
    · have hbf : b.is = false := (by simpa using h4); have hon := own_nodes hb; have hos := own_same hb hbf; have hol := own_longer hi6 hb hbf; have hmq := pgM_set hm hb; have hq := setIs_W hp hb; have hlq := pgT_len hq; have hl2 : (if pgOk (setIs pg (u % 6) b) = true then textT (pgT (setIs pg (u % 6) b)) else []).length ≤ 1000000000 := (by split <;> first | exact hlq.2 | exact Nat.zero_le _)
      refine c_skip ?_; refine k_on ?_; refine c_seq ?_; refine c_region ?_; refine w_move (v := .int _ _) rfl ?_; refine w_fa fa30_0 rfl ?_; refine w_r (fun _ => R_iaA (i := (u % 6)) ara28 (by decide) rfl rfl (by first | omega | decide)) rfl rfl ?_
      refine w_fa fa27_0 rfl ?_
      refine w_store (cs' := cs.set (u % 6 * 3) (.bool true)) (vs := [.bool true]) 0 rfl z4 rfl rfl rfl rfl rfl (by rw [Nat.ble_eq, hm.len]; omega) (by have := hm.len; rw [List.set_eq_take_append_cons_drop, if_pos (by omega)]; simp) ?_
      refine w_nil ?_; refine k_on ?_; refine c_seq ?_; refine c_region ?_
      refine w_loadW z30 rfl (fun _ h => h.at_ 0 rfl) hmq.len ?_
      refine w_call (fun w => R_call Tryd.func10 rfl rfl rfl) rfl rfl (fun w h => Write_spec (setIs pg (u % 6) b) _ N w (fun b hb => Nat.lt_of_le_of_lt (hq b hb) (by decide)) (hmq.now (fun _ _ hh => hh) (.head _) h) (hW.now (.head _) h) hlq.1 hlq.2) ?_
      refine w_move rfl ?_; refine w_r (fun _ => R_extract rfl rfl) rfl rfl ?_; refine w_r (fun _ => R_extract rfl rfl) rfl rfl ?_; refine w_asg (v := str _) rfl ?_
      refine w_asg (v := .int _ _) rfl ?_; refine w_nil ?_; refine k_on ?_; refine c_seq ?_; refine c_seq ?_; refine c_region ?_; refine w_move (v := .int _ _) rfl ?_; refine w_r (fun _ => R_ne rfl rfl) rfl rfl ?_
      refine w_move (v := .bool _) rfl ?_
      refine w_splitD (t := 72) rfl (fun h9 => ?_) (fun h9 => ?_)
      · refine w_skip rfl rfl (congrArg Value.bool (decide_eq_true h9)) ?_; refine w_skip rfl rfl (congrArg Value.bool (decide_eq_true h9)) ?_; refine w_r (v := .bool _) (fun _ => R_pickT (congrArg Value.bool (decide_eq_true h9)) rfl) rfl rfl ?_
        refine w_nil ?_; refine k_on ?_; refine c_condT rfl ?_; refine c_seq ?_; refine c_region ?_; refine w_call (fun w => R_call Tryd.func6 rfl rfl rfl) rfl rfl (fun w h => thead_spec w (hW.now (.head _) h)) ?_
        refine w_asg (v := .bool _) rfl ?_; refine w_nil ?_; refine k_on ?_; refine c_ret ?_; refine k_ret (?_)
        refine r_one (v := .bool _) rfl rfl rfl ?_
        exact fun w' hw => ⟨by first | rfl | (simp_all; done), hw.fr _ (.head _)⟩
      · refine w_want rfl rfl (congrArg Value.bool (decide_eq_false h9)) ?_; refine w_move (v := .int _ _) rfl ?_; refine w_want rfl rfl (congrArg Value.bool (decide_eq_false h9)) ?_
        refine w_r (fun _ => R_ne rfl rfl) rfl rfl ?_; refine w_r (v := .bool _) (fun _ => R_pickF (congrArg Value.bool (decide_eq_false h9)) rfl) rfl rfl ?_; refine w_nil ?_
        refine k_on ?_
        refine c_condD rfl (fun h10 => ?_) (fun h10 => ?_)
        · refine c_seq ?_; refine c_region ?_; refine w_call (fun w => R_call Tryd.func6 rfl rfl rfl) rfl rfl (fun w h => thead_spec w (hW.now (.head _) h)) ?_; refine w_asg (v := .bool _) rfl ?_
          refine w_nil ?_; refine k_on ?_; refine c_ret ?_; refine k_ret (?_)
          refine r_one (v := .bool _) rfl rfl rfl ?_
          exact fun w' hw => ⟨by first | rfl | (simp_all; done), hw.fr _ (.head _)⟩
        · refine c_skip ?_; refine k_on ?_; refine c_seq ?_; refine c_region ?_; refine w_move (v := str _) rfl ?_; refine w_move (v := str _) rfl ?_; refine w_r (fun _ => R_sne rfl rfl) rfl rfl ?_
          refine w_move (v := .bool _) rfl ?_
          refine w_splitD (t := 80) rfl (fun h11 => ?_) (fun h11 => ?_)
          · refine w_want rfl rfl (congrArg Value.bool (decide_eq_true h11)) ?_; refine w_move (v := str _) rfl ?_; refine w_want rfl rfl (congrArg Value.bool (decide_eq_true h11)) ?_
            refine w_r (fun _ => R_slen st9 rfl (by omega)) rfl rfl ?_; refine w_want rfl rfl (congrArg Value.bool (decide_eq_true h11)) ?_; refine w_move (v := str _) rfl ?_
            refine w_want rfl rfl (congrArg Value.bool (decide_eq_true h11)) ?_; refine w_r (fun _ => R_slen st9 rfl (by omega)) rfl rfl ?_; refine w_want rfl rfl (congrArg Value.bool (decide_eq_true h11)) ?_
            refine w_r (fun _ => R_gt rfl rfl) rfl rfl ?_; refine w_r (v := .bool _) (fun _ => R_pickT (congrArg Value.bool (decide_eq_true h11)) rfl) rfl rfl ?_; refine w_move (v := .bool _) rfl ?_
            refine w_splitD (t := 87) rfl (fun h12 => ?_) (fun h12 => ?_)
            · refine w_want rfl rfl (congrArg Value.bool (decide_eq_true h12)) ?_
              refine w_loadW z30 rfl (fun _ h => h.at_ 1 rfl) hm.len ?_
              refine w_want rfl rfl (congrArg Value.bool (decide_eq_true h12)) ?_
              refine w_loadW z30 rfl (fun _ h => h.at_ 0 rfl) hmq.len ?_
              refine w_want rfl rfl (congrArg Value.bool (decide_eq_true h12)) ?_; refine w_call (fun w => R_call Tryd.func11 rfl rfl rfl) rfl rfl (fun w h => Same_spec pg (setIs pg (u % 6) b) cs _ N w (fun b hb => Nat.lt_of_le_of_lt (hp b hb) (by decide)) (hm.now (fun _ _ hh => hh) (.head _) h) (hmq.now (fun _ _ hh => hh) (.head _) h)) ?_
              refine w_want rfl rfl (congrArg Value.bool (decide_eq_true h12)) ?_; refine w_r (fun _ => R_not rfl) rfl rfl ?_; refine w_r (v := .bool _) (fun _ => R_pickT (congrArg Value.bool (decide_eq_true h12)) rfl) rfl rfl ?_
              refine w_move (v := .bool _) rfl ?_
              refine w_split (t := 93) rfl (fun h13 => ?_) (fun h13 => ?_)
              · refine w_want rfl rfl (congrArg Value.bool h13) ?_
                refine w_loadW z30 rfl (fun _ h => h.at_ 0 rfl) hmq.len ?_
                refine w_want rfl rfl (congrArg Value.bool h13) ?_; refine w_call (fun w => R_call Tryd.func13 rfl rfl rfl) rfl rfl (fun w h => Nodes_spec (setIs pg (u % 6) b) _ N w (fun b hb => Nat.lt_of_le_of_lt (hq b hb) (by decide)) (hmq.now (fun _ _ hh => hh) (.head _) h)) ?_
                refine w_want rfl rfl (congrArg Value.bool h13) ?_; refine w_move (v := .int _ _) rfl ?_; refine w_want rfl rfl (congrArg Value.bool h13) ?_; refine w_r (fun _ => R_eq rfl rfl) rfl rfl ?_
                refine w_r (v := .bool _) (fun _ => R_pickT (congrArg Value.bool h13) rfl) rfl rfl ?_; refine w_move (v := .bool _) rfl ?_
                refine w_splitD (t := 99) rfl (fun h14 => ?_) (fun h14 => ?_)
                · refine w_want rfl rfl (congrArg Value.bool (decide_eq_true h14)) ?_; refine w_call (fun w => R_call Tryd.func6 rfl rfl rfl) rfl rfl (fun w h => thead_spec w (hW.now (.head _) h)) ?_
                  refine w_r (v := .bool _) (fun _ => R_pickT (congrArg Value.bool (decide_eq_true h14)) rfl) rfl rfl ?_; refine w_asg (v := .bool _) rfl ?_; refine w_nil ?_
                  refine k_on ?_; refine c_ret ?_
                  refine r_one (v := .bool _) rfl rfl rfl ?_
                  exact fun w' hw => ⟨by first | rfl | (simp_all; done), hw.fr _ (.head _)⟩
                · refine w_skip rfl rfl (congrArg Value.bool (decide_eq_false h14)) ?_; refine w_r (v := .bool _) (fun _ => R_pickF (congrArg Value.bool (decide_eq_false h14)) rfl) rfl rfl ?_
                  refine w_asg (v := .bool _) rfl ?_; refine w_nil ?_; refine k_on ?_; refine c_ret ?_
                  refine r_one (v := .bool _) rfl rfl rfl ?_
                  exact fun w' hw => ⟨by first | rfl | (simp_all; done), hw.fr _ (.head _)⟩
              · refine w_skip rfl rfl (congrArg Value.bool h13) ?_; refine w_skip rfl rfl (congrArg Value.bool h13) ?_; refine w_skip rfl rfl (congrArg Value.bool h13) ?_; refine w_skip rfl rfl (congrArg Value.bool h13) ?_
                refine w_r (v := .bool _) (fun _ => R_pickF (congrArg Value.bool h13) rfl) rfl rfl ?_; refine w_move (v := .bool _) rfl ?_; refine w_skip rfl rfl rfl ?_; refine w_r (v := .bool _) (fun _ => R_pickF rfl rfl) rfl rfl ?_
                refine w_asg (v := .bool _) rfl ?_; refine w_nil ?_; refine k_on ?_; refine c_ret ?_
                refine r_one (v := .bool _) rfl rfl rfl ?_
                exact fun w' hw => ⟨by first | rfl | (simp_all; done), hw.fr _ (.head _)⟩
            · refine w_skip rfl rfl (congrArg Value.bool (decide_eq_false h12)) ?_; refine w_skip rfl rfl (congrArg Value.bool (decide_eq_false h12)) ?_; refine w_skip rfl rfl (congrArg Value.bool (decide_eq_false h12)) ?_
              refine w_skip rfl rfl (congrArg Value.bool (decide_eq_false h12)) ?_; refine w_r (v := .bool _) (fun _ => R_pickF (congrArg Value.bool (decide_eq_false h12)) rfl) rfl rfl ?_
              refine w_move (v := .bool _) rfl ?_; refine w_skip rfl rfl rfl ?_; refine w_skip rfl rfl rfl ?_; refine w_skip rfl rfl rfl ?_; refine w_skip rfl rfl rfl ?_; refine w_r (v := .bool _) (fun _ => R_pickF rfl rfl) rfl rfl ?_
              refine w_move (v := .bool _) rfl ?_; refine w_skip rfl rfl rfl ?_; refine w_r (v := .bool _) (fun _ => R_pickF rfl rfl) rfl rfl ?_; refine w_asg (v := .bool _) rfl ?_
              refine w_nil ?_; refine k_on ?_; refine c_ret ?_
              refine r_one (v := .bool _) rfl rfl rfl ?_
              exact fun w' hw => ⟨by first | rfl | (simp_all; done), hw.fr _ (.head _)⟩
          · refine w_skip rfl rfl (congrArg Value.bool (decide_eq_false h11)) ?_; refine w_skip rfl rfl (congrArg Value.bool (decide_eq_false h11)) ?_; refine w_skip rfl rfl (congrArg Value.bool (decide_eq_false h11)) ?_
            refine w_skip rfl rfl (congrArg Value.bool (decide_eq_false h11)) ?_; refine w_skip rfl rfl (congrArg Value.bool (decide_eq_false h11)) ?_; refine w_r (v := .bool _) (fun _ => R_pickF (congrArg Value.bool (decide_eq_false h11)) rfl) rfl rfl ?_
            refine w_move (v := .bool _) rfl ?_; refine w_skip rfl rfl rfl ?_; refine w_skip rfl rfl rfl ?_; refine w_skip rfl rfl rfl ?_; refine w_skip rfl rfl rfl ?_; refine w_r (v := .bool _) (fun _ => R_pickF rfl rfl) rfl rfl ?_
            refine w_move (v := .bool _) rfl ?_; refine w_skip rfl rfl rfl ?_; refine w_skip rfl rfl rfl ?_; refine w_skip rfl rfl rfl ?_; refine w_skip rfl rfl rfl ?_; refine w_r (v := .bool _) (fun _ => R_pickF rfl rfl) rfl rfl ?_
            refine w_move (v := .bool _) rfl ?_; refine w_skip rfl rfl rfl ?_; refine w_r (v := .bool _) (fun _ => R_pickF rfl rfl) rfl rfl ?_; refine w_asg (v := .bool _) rfl ?_
            refine w_nil ?_; refine k_on ?_; refine c_ret ?_
            refine r_one (v := .bool _) rfl rfl rfl ?_
            exact fun w' hw => ⟨by first | rfl | (simp_all; done), hw.fr _ (.head _)⟩
end Go.Proofs.YtcmcdgkjipnfnaaDoor
end

section
/- Trees that are handed in: a reading of an argument opened into a tree in memory. -/
namespace Go.Sx
open Go.RowKit Go.Tree
theorem at_of {w : World} {base b o n k : Nat} {cs : List Value} (h : w.cells? base ((⟨b, o, none⟩ : Addr).add n) k = some cs) : At w (fun _ => True) (some ⟨b, o, none⟩) n cs := by
  obtain ⟨_, hl, hc⟩ := World.cells?_some h
  refine ⟨b, o, rfl, trivial, fun j v hj => ?_⟩
  have hj2 := (List.getElem?_eq_some_iff.1 hj).1
  have := hc j (by omega)
  rw [hj] at this
  rw [← this]
  congr 1
  unfold Addr.add
  by_cases h1 : n = 0 <;> by_cases h2 : j = 0 <;> simp [h1, h2, Nat.add_assoc]
theorem spot_of {w : World} {base k : Nat} {a : Addr} {cs : List Value} (hk : 0 < k) (h : w.cells? base (a.add 0) k = some cs) : a.spot = none := by
  obtain ⟨_, hl, hc⟩ := World.cells?_some h
  have h0 := hc 0 hk
  rw [List.getElem?_eq_getElem (by omega)] at h0
  simpa [Addr.add] using World.cell?_spot h0
theorem list_of {α : Type} {Q : Nat → α → Prop} : ∀ {n : Nat}, (∀ i, i < n → ∃ z, Q i z) → ∃ l : List α, l.length = n ∧ ∀ i z, l[i]? = some z → Q i z
  | 0, _ => ⟨[], rfl, fun i z h => by simp at h⟩
  | n + 1, h => by
    obtain ⟨l, hl, hq⟩ := list_of (n := n) (fun i hi => h i (by omega))
    obtain ⟨z, hz⟩ := h n (by omega)
    refine ⟨l ++ [z], by simp [hl], fun i y hy => ?_⟩
    by_cases hi : i < l.length
    · rw [List.getElem?_append_left hi] at hy
      exact hq i y hy
    · rw [List.getElem?_append_right (by omega)] at hy
      have h1 := (List.getElem?_eq_some_iff.1 hy).1
      have h2 : i = n := by simp at h1; omega
      subst h2
      rw [hl, Nat.sub_self] at hy
      obtain rfl : z = y := by simpa using hy
      exact hz
theorem sum_le {α β : Type} {f : α → Nat} {g : β → Nat} : ∀ (l : List α) (m : List β), l.length = m.length → (∀ (i : Nat) (z : α) (y : β), l[i]? = some z → m[i]? = some y → f z + 1 ≤ g y) → l.length + (l.map f).sum ≤ (m.map g).sum
  | [], [], _, _ => Nat.zero_le _
  | [], _ :: _, h, _ => by simp at h
  | _ :: _, [], h, _ => by simp at h
  | x :: l, y :: m, h, hq => by
    have h1 := hq 0 x y rfl rfl
    have h2 := sum_le l m (by simpa using h) (fun i z u hz hu => hq (i + 1) z u (by simpa using hz) (by simpa using hu))
    simp only [List.length_cons, List.map_cons, List.sum_cons]; omega
section
variable {H : Type} {enc : TypeId × Value → H} {P : Program} {w : World} {sp : Nat → Bool} {hd : Bool}
theorem open_list {α : Type} {R : α → List Value → Prop} {wt : α → Nat} {bk : DataW H → Nat} (hbs : ∀ es rs, (es.map bk).sum ≤ bk (.slice es rs)) {t e k fuel : Nat} {cs : List Value} {x : DataW H × List MemPlace}
    (ht : P.underlying t = some (.slice e)) (hk : P.cellsOf e = k) (hk0 : 0 < k) (h : DataW.trod enc P w 0 sp hd fuel t cs = some x)
    (ih : ∀ n cs y, n < fuel → DataW.trod enc P w 0 sp hd n e cs = some y → ∃ z, R z cs ∧ wt z + 1 ≤ bk y.1) :
    ∃ (l : List α) (a : Option Addr) (c : Nat), cs = [.slice a l.length c] ∧ l.length ≤ c ∧ l.length + (l.map wt).sum ≤ bk x.1 ∧ ∀ i z, l[i]? = some z → ∃ cs', At w (fun _ => True) a (i * k) cs' ∧ R z cs' := by
  rcases DataW.trod_slice ht h with ⟨rfl, rfl⟩ | ⟨a, len, cap, elems, rest, n, rfl, rfl, rfl, hb, hl, hm, hlen, hel, _, _⟩
  · exact ⟨[], none, 0, rfl, Nat.zero_le _, by simp, fun i z hz => by simp at hz⟩
  rw [hk] at hel
  obtain ⟨l, hll, hq⟩ := list_of (n := len) (Q := fun i z => ∃ cs' y, w.cells? 0 (a.add (i * k)) k = some cs' ∧ elems[i]? = some y ∧ R z cs' ∧ wt z + 1 ≤ bk y.1) (fun i hi => by
    have h1 := hel i hi
    rw [List.getElem?_eq_getElem (by omega)] at h1
    obtain ⟨cs', h2, h3⟩ := Option.bind_eq_some_iff.1 h1
    obtain ⟨z, h4, h5⟩ := ih n cs' _ (Nat.lt_succ_self n) h3
    exact ⟨z, cs', _, h2, List.getElem?_eq_getElem (by omega), h4, h5⟩)
  refine ⟨l, some a, cap, by rw [hll], by omega, ?_, fun i z hz => ?_⟩
  · refine Nat.le_trans ?_ (hbs _ _)
    rw [List.map_map]
    refine sum_le l elems (by omega) (fun i z y hz hy => ?_)
    obtain ⟨_, y', _, h2, _, h4⟩ := hq i z hz
    rw [hy] at h2
    obtain rfl := Option.some.inj h2
    exact h4
  · have hi := (List.getElem?_eq_some_iff.1 hz).1
    have hs : a.spot = none := by
      obtain ⟨z0, hz0⟩ : ∃ z, l[0]? = some z := ⟨_, List.getElem?_eq_getElem (by omega)⟩
      obtain ⟨cs', _, h1, _⟩ := hq 0 z0 hz0
      rw [Nat.zero_mul] at h1
      exact spot_of hk0 h1
    obtain ⟨b, o, s⟩ := a
    simp only at hs
    subst hs
    obtain ⟨cs', _, h1, _, h3, _⟩ := hq i z hz
    exact ⟨cs', at_of h1, h3⟩
end
theorem len3 {α : Type} {l : List α} (h : l.length = 3) : ∃ a b c, l = [a, b, c] := by
  match l, h with
  | [a, b, c], _ => exact ⟨a, b, c, rfl⟩
theorem len4 {α : Type} {l : List α} (h : l.length = 4) : ∃ a b c d, l = [a, b, c, d] := by
  match l, h with
  | [a, b, c, d], _ => exact ⟨a, b, c, d, rfl⟩
theorem len6 {α : Type} {l : List α} (h : l.length = 6) : ∃ a b c d e f, l = [a, b, c, d, e, f] := by
  match l, h with
  | [a, b, c, d, e, f], _ => exact ⟨a, b, c, d, e, f, rfl⟩
theorem len7 {α : Type} {l : List α} (h : l.length = 7) : ∃ a b c d e f g, l = [a, b, c, d, e, f, g] := by
  match l, h with
  | [a, b, c, d, e, f, g], _ => exact ⟨a, b, c, d, e, f, g, rfl⟩
theorem exsM_of {w : World} {N : Nat → Prop} {a : Option Addr} : ∀ (l : List Ex) (i0 : Nat), (∀ i z, l[i]? = some z → ∃ cs, At w N a (i0 + i * 4) cs ∧ exM w N z cs) → exsM w N l a i0
  | [], _, _ => by unfold exsM; trivial
  | x :: l, i0, h => by
    unfold exsM
    refine ⟨by simpa using h 0 x rfl, exsM_of l (i0 + 4) (fun i z hz => ?_)⟩
    have := h (i + 1) z (by simpa using hz)
    rwa [show i0 + (i + 1) * 4 = i0 + 4 + i * 4 by omega] at this
theorem smsM_of {w : World} {N : Nat → Prop} {a : Option Addr} : ∀ (l : List Sm) (i0 : Nat), (∀ i z, l[i]? = some z → ∃ cs, At w N a (i0 + i * 6) cs ∧ smM w N z cs) → smsM w N l a i0
  | [], _, _ => by unfold smsM; trivial
  | x :: l, i0, h => by
    unfold smsM
    refine ⟨by simpa using h 0 x rfl, smsM_of l (i0 + 6) (fun i z hz => ?_)⟩
    have := h (i + 1) z (by simpa using hz)
    rwa [show i0 + (i + 1) * 6 = i0 + 6 + i * 6 by omega] at this
theorem exsW_sum : ∀ l : List Ex, exsW l = (l.map exW).sum
  | [] => rfl
  | x :: l => by rw [exsW, exsW_sum l]; rfl
theorem smsW_sum : ∀ l : List Sm, smsW l = (l.map smW).sum
  | [] => rfl
  | x :: l => by rw [smsW, smsW_sum l]; rfl
theorem dcsW_sum : ∀ l : List Dc, dcsW l = (l.map dcW).sum
  | [] => rfl
  | x :: l => by rw [dcsW, dcsW_sum l]; rfl
end Go.Sx
end

section
namespace Go.Proofs.YtcmcdgkjipnfnaaDoor
open Go.RowKit Go.Sx
open Go.Tok Go.Tree

theorem cel5 : Tryd.prog.cellsOf 5 = 1 := by kernel_rfl
theorem cel3 : Tryd.prog.cellsOf 3 = 1 := by kernel_rfl
theorem cel9 : Tryd.prog.cellsOf 9 = 1 := by kernel_rfl
theorem cel4 : Tryd.prog.cellsOf 4 = 1 := by kernel_rfl
theorem cel36 : Tryd.prog.cellsOf 36 = 1 := by kernel_rfl
theorem cel25 : Tryd.prog.cellsOf 25 = 1 := by kernel_rfl
theorem cel24 : Tryd.prog.cellsOf 24 = 1 := by kernel_rfl
theorem cel49 : Tryd.prog.cellsOf 49 = 4 := by kernel_rfl
theorem cel38 : Tryd.prog.cellsOf 38 = 6 := by kernel_rfl
theorem cel53 : Tryd.prog.cellsOf 53 = 7 := by kernel_rfl
theorem cel27 : Tryd.prog.cellsOf 27 = 3 := by kernel_rfl
theorem cel28 : Tryd.prog.cellsOf 28 = 18 := by kernel_rfl
theorem cel30 : Tryd.prog.cellsOf 30 = 18 := by kernel_rfl

section
variable {H : Type} {enc : TypeId × Value → H} {W : World} {sp : Nat → Bool} {hd : Bool}

theorem le_sum_mem {a : Nat} : ∀ {l : List Nat}, a ∈ l → a ≤ l.sum
  | x :: l, h => by
    rw [List.sum_cons]
    rcases List.mem_cons.1 h with rfl | h
    · omega
    · have := le_sum_mem h; omega
theorem bulkAll_sum : ∀ l : List (DataW H), Rows.uptoBulkAll l = (l.map Rows.uptoBulk).sum
  | [] => by simp [Rows.uptoBulkAll]
  | d :: l => by rw [Rows.uptoBulkAll, bulkAll_sum l]; simp
theorem bulk_slice (es rs : List (DataW H)) : (es.map Rows.uptoBulk).sum ≤ Rows.uptoBulk (.slice es rs) := by rw [Rows.uptoBulk, bulkAll_sum]; omega
theorem bulk_lit (l : Lit) : 1 ≤ Rows.uptoBulk (H := H) (.lit l) := by cases l <;> simp [Rows.uptoBulk]

theorem open_ex : ∀ (fuel : Nat) (cs : List Value) (x : DataW H × List MemPlace), DataW.trod enc Tryd.prog W 0 sp hd fuel 49 cs = some x → ∃ z : Ex, exM W (fun _ => True) z cs ∧ exW z + 1 ≤ Rows.uptoBulk x.1 := by
  intro fuel
  induction fuel using Nat.strongRecOn with | _ fuel ih => ?_
  intro cs x h
  obtain ⟨xs, n, rfl, rfl, hl, hxl, hf⟩ := DataW.trod_struct Tryd.underlying49 h
  have hl := hl.trans cel49
  obtain ⟨c0, c1, c2, c3, rfl⟩ := len4 hl
  obtain ⟨y0, y1, y2, y3, rfl⟩ := len4 (hxl.trans rfl)
  have h0 : DataW.trod enc Tryd.prog W 0 sp hd n 5 (([c0, c1, c2, c3].drop 0).take (Tryd.prog.cellsOf 5)) = some y0 := hf 0 _ rfl
  rw [cel5] at h0
  obtain ⟨n0, e0, rfl, wf0⟩ := DataW.trod_int Tryd.underlying5 h0; obtain rfl : _ = _ := (List.cons.inj e0).1
  have h1 : DataW.trod enc Tryd.prog W 0 sp hd n 3 (([_, c1, c2, c3].drop 1).take (Tryd.prog.cellsOf 3)) = some y1 := hf 1 _ rfl
  rw [cel3] at h1
  obtain ⟨n1, e1, rfl, wf1⟩ := DataW.trod_int Tryd.underlying3 h1; obtain rfl : _ = _ := (List.cons.inj e1).1
  have h2 : DataW.trod enc Tryd.prog W 0 sp hd n 9 (([_, _, c2, c3].drop 2).take (Tryd.prog.cellsOf 9)) = some y2 := hf 2 _ rfl
  rw [cel9] at h2
  obtain ⟨s2, e2, rfl, wf2⟩ := DataW.trod_string Tryd.underlying9 h2; obtain rfl : _ = _ := (List.cons.inj e2).1
  have h3 : DataW.trod enc Tryd.prog W 0 sp hd n 36 (([_, _, _, c3].drop 3).take (Tryd.prog.cellsOf 36)) = some y3 := hf 3 _ rfl
  rw [cel36] at h3
  obtain ⟨l3, a3, k3, e3, hk3, hb3, hl3⟩ := open_list (R := exM W (fun _ => True)) (wt := exW) bulk_slice Tryd.underlying36 cel49 (by decide) h3 (fun m cs y hm hy => ih m (by omega) cs y hy); obtain rfl : _ = _ := (List.cons.inj e3).1
  have w0 := bounds_u8 wf0; obtain ⟨m0, rfl⟩ : ∃ m : Nat, n0 = m := ⟨n0.toNat, by omega⟩
  refine ⟨.mk m0 n1 s2.data.toList l3, ?_, ?_⟩
  · unfold exM; exact ⟨a3, k3, by simp [str], hk3, exsM_of _ 0 (fun i z hz => by rw [Nat.zero_add]; exact hl3 i z hz)⟩
  · unfold exW; rw [exsW_sum]
    simp only [List.map_cons, List.map_nil, Rows.uptoBulk, Rows.uptoBulkAll]
    omega

theorem open_exs (fuel : Nat) {cs : List Value} {x : DataW H × List MemPlace} (h : DataW.trod enc Tryd.prog W 0 sp hd fuel 36 cs = some x) : ∃ (l : List Ex) (a : Option Addr) (c : Nat), cs = [.slice a l.length c] ∧ l.length ≤ c ∧ l.length + (l.map exW).sum ≤ Rows.uptoBulk x.1 ∧ ∀ i z, l[i]? = some z → ∃ cs', At W (fun _ => True) a (i * 4) cs' ∧ exM W (fun _ => True) z cs' :=
  open_list bulk_slice Tryd.underlying36 cel49 (by decide) h (fun m cs y _ hy => open_ex m cs y hy)

theorem open_sm : ∀ (fuel : Nat) (cs : List Value) (x : DataW H × List MemPlace), DataW.trod enc Tryd.prog W 0 sp hd fuel 38 cs = some x → ∃ z : Sm, smM W (fun _ => True) z cs ∧ smW z + 1 ≤ Rows.uptoBulk x.1 := by
  intro fuel
  induction fuel using Nat.strongRecOn with | _ fuel ih => ?_
  intro cs x h
  obtain ⟨xs, n, rfl, rfl, hl, hxl, hf⟩ := DataW.trod_struct Tryd.underlying38 h
  have hl := hl.trans cel38
  obtain ⟨c0, c1, c2, c3, c4, c5, rfl⟩ := len6 hl
  obtain ⟨y0, y1, y2, y3, y4, y5, rfl⟩ := len6 (hxl.trans rfl)
  have h0 : DataW.trod enc Tryd.prog W 0 sp hd n 5 (([c0, c1, c2, c3, c4, c5].drop 0).take (Tryd.prog.cellsOf 5)) = some y0 := hf 0 _ rfl
  rw [cel5] at h0
  obtain ⟨n0, e0, rfl, wf0⟩ := DataW.trod_int Tryd.underlying5 h0; obtain rfl : _ = _ := (List.cons.inj e0).1
  have h1 : DataW.trod enc Tryd.prog W 0 sp hd n 3 (([_, c1, c2, c3, c4, c5].drop 1).take (Tryd.prog.cellsOf 3)) = some y1 := hf 1 _ rfl
  rw [cel3] at h1
  obtain ⟨n1, e1, rfl, wf1⟩ := DataW.trod_int Tryd.underlying3 h1; obtain rfl : _ = _ := (List.cons.inj e1).1
  have h2 : DataW.trod enc Tryd.prog W 0 sp hd n 9 (([_, _, c2, c3, c4, c5].drop 2).take (Tryd.prog.cellsOf 9)) = some y2 := hf 2 _ rfl
  rw [cel9] at h2
  obtain ⟨s2, e2, rfl, wf2⟩ := DataW.trod_string Tryd.underlying9 h2; obtain rfl : _ = _ := (List.cons.inj e2).1
  have h3 : DataW.trod enc Tryd.prog W 0 sp hd n 36 (([_, _, _, c3, c4, c5].drop 3).take (Tryd.prog.cellsOf 36)) = some y3 := hf 3 _ rfl
  rw [cel36] at h3
  obtain ⟨l3, a3, k3, e3, hk3, hb3, hl3⟩ := open_exs n h3; obtain rfl : _ = _ := (List.cons.inj e3).1
  have h4 : DataW.trod enc Tryd.prog W 0 sp hd n 25 (([_, _, _, _, c4, c5].drop 4).take (Tryd.prog.cellsOf 25)) = some y4 := hf 4 _ rfl
  rw [cel25] at h4
  obtain ⟨l4, a4, k4, e4, hk4, hb4, hl4⟩ := open_list (R := smM W (fun _ => True)) (wt := smW) bulk_slice Tryd.underlying25 cel38 (by decide) h4 (fun m cs y hm hy => ih m (by omega) cs y hy); obtain rfl : _ = _ := (List.cons.inj e4).1
  have h5 : DataW.trod enc Tryd.prog W 0 sp hd n 25 (([_, _, _, _, _, c5].drop 5).take (Tryd.prog.cellsOf 25)) = some y5 := hf 5 _ rfl
  rw [cel25] at h5
  obtain ⟨l5, a5, k5, e5, hk5, hb5, hl5⟩ := open_list (R := smM W (fun _ => True)) (wt := smW) bulk_slice Tryd.underlying25 cel38 (by decide) h5 (fun m cs y hm hy => ih m (by omega) cs y hy); obtain rfl : _ = _ := (List.cons.inj e5).1
  have w0 := bounds_u8 wf0; obtain ⟨m0, rfl⟩ : ∃ m : Nat, n0 = m := ⟨n0.toNat, by omega⟩
  refine ⟨.mk m0 n1 s2.data.toList l3 l4 l5, ?_, ?_⟩
  · unfold smM; exact ⟨a3, k3, a4, k4, a5, k5, by simp [str], hk3, exsM_of _ 0 (fun i z hz => by rw [Nat.zero_add]; exact hl3 i z hz), smsM_of _ 0 (fun i z hz => by rw [Nat.zero_add]; exact hl4 i z hz), smsM_of _ 0 (fun i z hz => by rw [Nat.zero_add]; exact hl5 i z hz)⟩
  · unfold smW; rw [exsW_sum, smsW_sum, smsW_sum]
    simp only [List.map_cons, List.map_nil, Rows.uptoBulk, Rows.uptoBulkAll]
    omega

theorem open_sms (fuel : Nat) {cs : List Value} {x : DataW H × List MemPlace} (h : DataW.trod enc Tryd.prog W 0 sp hd fuel 25 cs = some x) : ∃ (l : List Sm) (a : Option Addr) (c : Nat), cs = [.slice a l.length c] ∧ l.length ≤ c ∧ l.length + (l.map smW).sum ≤ Rows.uptoBulk x.1 ∧ ∀ i z, l[i]? = some z → ∃ cs', At W (fun _ => True) a (i * 6) cs' ∧ smM W (fun _ => True) z cs' :=
  open_list bulk_slice Tryd.underlying25 cel38 (by decide) h (fun m cs y _ hy => open_sm m cs y hy)

theorem open_dc : ∀ (fuel : Nat) (cs : List Value) (x : DataW H × List MemPlace), DataW.trod enc Tryd.prog W 0 sp hd fuel 53 cs = some x → ∃ z : Dc, dcM W (fun _ => True) z cs ∧ dcW z + 1 ≤ Rows.uptoBulk x.1 := by
  intro fuel
  induction fuel using Nat.strongRecOn with | _ fuel ih => ?_
  intro cs x h
  obtain ⟨xs, n, rfl, rfl, hl, hxl, hf⟩ := DataW.trod_struct Tryd.underlying53 h
  have hl := hl.trans cel53
  obtain ⟨c0, c1, c2, c3, c4, c5, c6, rfl⟩ := len7 hl
  obtain ⟨y0, y1, y2, y3, y4, y5, y6, rfl⟩ := len7 (hxl.trans rfl)
  have h0 : DataW.trod enc Tryd.prog W 0 sp hd n 5 (([c0, c1, c2, c3, c4, c5, c6].drop 0).take (Tryd.prog.cellsOf 5)) = some y0 := hf 0 _ rfl
  rw [cel5] at h0
  obtain ⟨n0, e0, rfl, wf0⟩ := DataW.trod_int Tryd.underlying5 h0; obtain rfl : _ = _ := (List.cons.inj e0).1
  have h1 : DataW.trod enc Tryd.prog W 0 sp hd n 3 (([_, c1, c2, c3, c4, c5, c6].drop 1).take (Tryd.prog.cellsOf 3)) = some y1 := hf 1 _ rfl
  rw [cel3] at h1
  obtain ⟨n1, e1, rfl, wf1⟩ := DataW.trod_int Tryd.underlying3 h1; obtain rfl : _ = _ := (List.cons.inj e1).1
  have h2 : DataW.trod enc Tryd.prog W 0 sp hd n 9 (([_, _, c2, c3, c4, c5, c6].drop 2).take (Tryd.prog.cellsOf 9)) = some y2 := hf 2 _ rfl
  rw [cel9] at h2
  obtain ⟨s2, e2, rfl, wf2⟩ := DataW.trod_string Tryd.underlying9 h2; obtain rfl : _ = _ := (List.cons.inj e2).1
  have h3 : DataW.trod enc Tryd.prog W 0 sp hd n 36 (([_, _, _, c3, c4, c5, c6].drop 3).take (Tryd.prog.cellsOf 36)) = some y3 := hf 3 _ rfl
  rw [cel36] at h3
  obtain ⟨l3, a3, k3, e3, hk3, hb3, hl3⟩ := open_exs n h3; obtain rfl : _ = _ := (List.cons.inj e3).1
  have h4 : DataW.trod enc Tryd.prog W 0 sp hd n 36 (([_, _, _, _, c4, c5, c6].drop 4).take (Tryd.prog.cellsOf 36)) = some y4 := hf 4 _ rfl
  rw [cel36] at h4
  obtain ⟨l4, a4, k4, e4, hk4, hb4, hl4⟩ := open_exs n h4; obtain rfl : _ = _ := (List.cons.inj e4).1
  have h5 : DataW.trod enc Tryd.prog W 0 sp hd n 36 (([_, _, _, _, _, c5, c6].drop 5).take (Tryd.prog.cellsOf 36)) = some y5 := hf 5 _ rfl
  rw [cel36] at h5
  obtain ⟨l5, a5, k5, e5, hk5, hb5, hl5⟩ := open_exs n h5; obtain rfl : _ = _ := (List.cons.inj e5).1
  have h6 : DataW.trod enc Tryd.prog W 0 sp hd n 36 (([_, _, _, _, _, _, c6].drop 6).take (Tryd.prog.cellsOf 36)) = some y6 := hf 6 _ rfl
  rw [cel36] at h6
  obtain ⟨l6, a6, k6, e6, hk6, hb6, hl6⟩ := open_exs n h6; obtain rfl : _ = _ := (List.cons.inj e6).1
  have w0 := bounds_u8 wf0; obtain ⟨m0, rfl⟩ : ∃ m : Nat, n0 = m := ⟨n0.toNat, by omega⟩
  refine ⟨⟨m0, n1, s2.data.toList, l3, l4, l5, l6⟩, ?_, ?_⟩
  · unfold dcM; exact ⟨a3, k3, a4, k4, a5, k5, a6, k6, by simp [str], exsM_of _ 0 (fun i z hz => by rw [Nat.zero_add]; exact hl3 i z hz), exsM_of _ 0 (fun i z hz => by rw [Nat.zero_add]; exact hl4 i z hz), exsM_of _ 0 (fun i z hz => by rw [Nat.zero_add]; exact hl5 i z hz), exsM_of _ 0 (fun i z hz => by rw [Nat.zero_add]; exact hl6 i z hz)⟩
  · unfold dcW; rw [exsW_sum, exsW_sum, exsW_sum, exsW_sum]
    simp only [List.map_cons, List.map_nil, Rows.uptoBulk, Rows.uptoBulkAll]
    omega

theorem open_dcs (fuel : Nat) {cs : List Value} {x : DataW H × List MemPlace} (h : DataW.trod enc Tryd.prog W 0 sp hd fuel 24 cs = some x) : ∃ (l : List Dc) (a : Option Addr) (c : Nat), cs = [.slice a l.length c] ∧ l.length ≤ c ∧ l.length + (l.map dcW).sum ≤ Rows.uptoBulk x.1 ∧ ∀ i z, l[i]? = some z → ∃ cs', At W (fun _ => True) a (i * 7) cs' ∧ dcM W (fun _ => True) z cs' :=
  open_list bulk_slice Tryd.underlying24 cel53 (by decide) h (fun m cs y _ hy => open_dc m cs y hy)

theorem open_bk : ∀ (fuel : Nat) (cs : List Value) (x : DataW H × List MemPlace), DataW.trod enc Tryd.prog W 0 sp hd fuel 27 cs = some x → ∃ z : Bk, bkM W (fun _ => True) z cs ∧ bkW z + 1 ≤ Rows.uptoBulk x.1 := by
  intro fuel
  induction fuel using Nat.strongRecOn with | _ fuel ih => ?_
  intro cs x h
  obtain ⟨xs, n, rfl, rfl, hl, hxl, hf⟩ := DataW.trod_struct Tryd.underlying27 h
  have hl := hl.trans cel27
  obtain ⟨c0, c1, c2, rfl⟩ := len3 hl
  obtain ⟨y0, y1, y2, rfl⟩ := len3 (hxl.trans rfl)
  have h0 : DataW.trod enc Tryd.prog W 0 sp hd n 4 (([c0, c1, c2].drop 0).take (Tryd.prog.cellsOf 4)) = some y0 := hf 0 _ rfl
  rw [cel4] at h0
  obtain ⟨q0, e0, rfl⟩ := DataW.trod_bool Tryd.underlying4 h0; obtain rfl : _ = _ := (List.cons.inj e0).1
  have h1 : DataW.trod enc Tryd.prog W 0 sp hd n 24 (([_, c1, c2].drop 1).take (Tryd.prog.cellsOf 24)) = some y1 := hf 1 _ rfl
  rw [cel24] at h1
  obtain ⟨l1, a1, k1, e1, hk1, hb1, hl1⟩ := open_dcs n h1; obtain rfl : _ = _ := (List.cons.inj e1).1
  have h2 : DataW.trod enc Tryd.prog W 0 sp hd n 25 (([_, _, c2].drop 2).take (Tryd.prog.cellsOf 25)) = some y2 := hf 2 _ rfl
  rw [cel25] at h2
  obtain ⟨l2, a2, k2, e2, hk2, hb2, hl2⟩ := open_sms n h2; obtain rfl : _ = _ := (List.cons.inj e2).1
  skip
  refine ⟨⟨q0, l1, l2⟩, ?_, ?_⟩
  · unfold bkM; exact ⟨a1, k1, a2, k2, rfl, hl1, smsM_of _ 0 (fun i z hz => by rw [Nat.zero_add]; exact hl2 i z hz)⟩
  · unfold bkW; rw [dcsW_sum, smsW_sum]
    simp only [List.map_cons, List.map_nil, Rows.uptoBulk, Rows.uptoBulkAll]
    omega

theorem open_pg (fuel : Nat) (cs : List Value) (x : DataW H × List MemPlace) (h : DataW.trod enc Tryd.prog W 0 sp hd fuel 30 cs = some x) : ∃ p : List Bk, pgM W (fun _ => True) p cs ∧ ∀ b ∈ p, bkW b ≤ Rows.uptoBulk x.1 := by
  obtain ⟨xs, n, rfl, rfl, hl, hxl, hf⟩ := DataW.trod_struct Tryd.underlying30 h
  have hl := hl.trans cel30
  obtain ⟨y, rfl⟩ := List.length_eq_one_iff.1 (hxl.trans rfl)
  have h0 : DataW.trod enc Tryd.prog W 0 sp hd n 28 ((cs.drop 0).take (Tryd.prog.cellsOf 28)) = some y := hf 0 _ rfl
  rw [cel28, List.drop_zero] at h0
  rw [show cs.take 18 = cs from List.take_of_length_le (by omega)] at h0
  obtain ⟨zs, m, rfl, hy, hl2, hzl, hg⟩ := DataW.trod_array Tryd.underlying28 h0
  obtain rfl : y = _ := hy
  obtain ⟨l, hll, hq⟩ := list_of (n := 6) (Q := fun i z => bkM W (fun _ => True) z ((cs.drop (i * 3)).take 3) ∧ ∃ y, zs[i]? = some y ∧ bkW z + 1 ≤ Rows.uptoBulk y.1) (fun i hi => by
    have h1 := hg i hi
    rw [cel27] at h1
    rw [List.getElem?_eq_getElem (by omega)] at h1
    obtain ⟨z, h4, h5⟩ := open_bk m _ _ h1
    exact ⟨z, h4, _, List.getElem?_eq_getElem (by omega), h5⟩)
  refine ⟨l, ⟨hll, hl, fun i b hb => (hq i b hb).1⟩, fun b hb => ?_⟩
  obtain ⟨i, hi⟩ := List.getElem?_of_mem hb
  obtain ⟨_, y, h1, h2⟩ := hq i b hi
  have h3 : Rows.uptoBulk y.1 ≤ ((zs.map (·.1)).map Rows.uptoBulk).sum := le_sum_mem (List.mem_map_of_mem (List.mem_map_of_mem (List.mem_of_getElem? h1)))
  simp only [List.map_cons, List.map_nil, Rows.uptoBulk, Rows.uptoBulkAll, bulkAll_sum, List.sum_cons, List.sum_nil]
  omega
end
end Go.Proofs.YtcmcdgkjipnfnaaDoor
end

section
namespace Go.Proofs.YtcmcdgkjipnfnaaDoor
open Go.ChangeShapes Go.WideShapes Go.ChangeAt Go.RowKit Go.Sx
open Go.ChangeMaps (open_string)
theorem own : ownKnob Tryd.prog.godebug = none := by kernel_rfl
theorem below_ext {w w' : World} (h : Ext w w') : Below w.heap.size w w' := ⟨h.os, h.tape, h.output, h.size, fun k hk => h.blk k hk (fun x => x)⟩
section
variable {H : Type} {enc : TypeId × Value → H} {P : Program}
theorem post_ext2 {f : Func} {s : ChangeSpec} {apart fresh handsOn : Bool} {W W' : World} {args : Array Value} {v : Value} {ds gs : List (DataW H)} {before pa pv : List MemPlace}
    (hW : DataW.Whole enc P f.params.toList s.vars apart W args.toList ds gs before)
    (hres : ∀ (b : Nat) (sp : Nat → Bool) (hd : Bool), DataW.TrodAll enc P W' b sp hd f.resultTypes.toList (v.resultList f.resultTypes.size) (s.fn H (ds ++ gs)).results [])
    (hargs : DataW.TrodAll enc P W' 0 (fun b => decide (b < W.heap.size)) true f.params.toList args.toList (s.fn H (ds ++ gs)).args pa)
    (hvars : ∀ sp : Nat → Bool, (∀ p ∈ before, sp p.block = true) → DataW.TrodVars enc P W' sp s.vars (s.fn H (ds ++ gs)).vars pv)
    (hps : before = pa ++ pv) (hb : Below W.heap.size W W') : s.post enc P f apart fresh handsOn false W args v W' := by
  have hold : ∀ p ∈ before, (fun b => decide (b < W.heap.size)) p.block = true := fun p hp => by simpa using hW.lt p hp
  exact ⟨ds, gs, before, [], pa, pv, hW, hres _ _ _, hargs, hvars _ hold, hb.frame _, fun h => by cases h⟩
end
theorem agg_of {v : Value} {n : Nat} (h : v.cells.toList.length = n + 2) : v = .agg v.cells.toList.toArray := by
  cases v <;> first | rfl | (simp [Value.cells] at h)
theorem laidB : laidOutB Tryd.prog = true := by kernel_rfl
theorem door_met (os : Os) (args : Array Value) : laidMetH Tryd.prog Rows.treeOwnUptoRow.laid ((World.doorLaid Tryd.prog 400 os).forCall (fun _ _ => 0) ⟨#[], args, []⟩).memory :=
  laidMetH_of_parts3 (fuel := 8) (laidMet_of_run' 8 (by kernel_rfl) (by kernel_rfl)) (by kernel_rfl) (by kernel_rfl)
set_option maxRecDepth 100000 in
theorem tb_of_laid {W : World} (h : laidMetH Tryd.prog Rows.treeOwnUptoRow.laid W) : Tb W := by
  rw [MakeChecks.laidMetH_plain _ _ _ (by kernel_rfl)] at h
  obtain ⟨ps, ⟨g0, t0, cs0, f0, p0, q0, hg0, ht0, hv0, hd0, ⟨g1, t1, cs1, f1, p1, q1, hg1, ht1, hv1, hd1, hr1, hq0⟩, hps⟩, hn, hm⟩ := h
  refine Tb.of (Lib.tabIs_of_head (g := 0) (t := 88) (e := 5) (n := 256) (rest := []) (by kernel_rfl) (by kernel_rfl) Tryd.underlying88 Tryd.underlying5 (by kernel_rfl) (by kernel_rfl) (W := W) ⟨q0, ⟨g1, t1, cs1, f1, p1, q1, hg1, ht1, hv1, hd1, hr1, hq0⟩, ?_, ?_⟩)
  · rw [hps] at hn; exact (List.nodup_append.1 hn).2.1
  · exact fun b off hx => hm b off (by rw [hps]; exact List.mem_append.2 (.inr hx))

set_option maxRecDepth 100000 in
theorem treeOwn_reads (os : Os) {H : Type} (enc : TypeId × Value → H) : DataW.whole enc Tryd.prog ((World.doorLaid Tryd.prog 400 os).forCall (fun _ _ => 0) ⟨#[], #[(.agg #[.bool false, .slice none 0 0, .slice none 0 0, .bool false, .slice none 0 0, .slice none 0 0, .bool false, .slice none 0 0, .slice none 0 0, .bool false, .slice none 0 0, .slice none 0 0, .bool false, .slice none 0 0, .slice none 0 0, .bool false, .slice none 0 0, .slice none 0 0]), .int .u8 0], []⟩).memory Tryd.f5.params.toList Rows.treeOwnSpec.vars false #[(.agg #[.bool false, .slice none 0 0, .slice none 0 0, .bool false, .slice none 0 0, .slice none 0 0, .bool false, .slice none 0 0, .slice none 0 0, .bool false, .slice none 0 0, .slice none 0 0, .bool false, .slice none 0 0, .slice none 0 0, .bool false, .slice none 0 0, .slice none 0 0]), .int .u8 0].toList 8 = some ([.agg [.agg [.agg [.lit (.bool false), .nil, .nil], .agg [.lit (.bool false), .nil, .nil], .agg [.lit (.bool false), .nil, .nil], .agg [.lit (.bool false), .nil, .nil], .agg [.lit (.bool false), .nil, .nil], .agg [.lit (.bool false), .nil, .nil]]], .lit (.int .u8 0)], [], []) := by kernel_rfl
set_option maxRecDepth 100000 in
theorem treeOwn_lifted (os : Os) (started : os.Started) (H : Type) (enc : TypeId × Value → H) (F : Stop.Interp) :
    ReturnsInHanded {} Tryd.checked os 5 .any ((Rows.OpenSpec.upto Rows.treeOwnSpec).preRow enc Tryd.prog Tryd.f5 Rows.treeOwnUptoRow.domain false Rows.treeOwnUptoRow.laid) (((Rows.OpenSpec.upto Rows.treeOwnSpec).at F).post enc Tryd.prog Tryd.f5 false true false false) := by
  refine returnsInHanded_of_row (C := Tryd.checked) (s := Rows.OpenSpec.upto Rows.treeOwnSpec) own started (by kernel_rfl) Tryd.func5
    (witness_row_atRef (enc := enc) (C := Tryd.checked) false (World.doorLaid Tryd.prog 400 os) #[(.agg #[.bool false, .slice none 0 0, .slice none 0 0, .bool false, .slice none 0 0, .slice none 0 0, .bool false, .slice none 0 0, .slice none 0 0, .bool false, .slice none 0 0, .slice none 0 0, .bool false, .slice none 0 0, .slice none 0 0, .bool false, .slice none 0 0, .slice none 0 0]), .int .u8 0] rfl (by kernel_rfl) (by kernel_rfl) (by kernel_rfl)
      (OpenSpec.preRow_of_cond 8 (treeOwn_reads os enc) (by rfl) (fun k hkk => by cases hkk; kernel_rfl) (by kernel_rfl) (door_met os _))) ?_
  intro W base args ds gs before hval0 hW _ hcond _ hL hsh _
  have hval : ∀ (j : Nat) t v, Tryd.f5.params[j]? = some t → args[j]? = some v → Value.okWide Tryd.prog W .any base t v := hval0
  have hW' := hW
  have hlt : ∀ y ∈ before, y.block < W.heap.size := fun y hy => by simpa using hW'.lt y hy
  obtain ⟨p, q, hA0, hV, rfl, _, _⟩ := hW
  have hA : DataW.TrodAll enc Tryd.prog W 0 (fun _ => true) true Tryd.f5.params.toList args.toList ds p := hA0
  rw [Tryd.params5] at hA hval
  obtain ⟨v0, v1, d0, d1, p0, p1, rfl, rfl, rfl, h0, h1⟩ := trodAll_two hA
  obtain ⟨rfl, rfl⟩ := trodVars_none hV
  have hk0 := h0
  obtain ⟨f0, ht0⟩ := h0
  obtain ⟨x0, hm0, hb0⟩ := open_pg f0 _ _ ht0
  have ha0 := agg_of (n := 16) (hm0.len)
  obtain ⟨cs0, hcs0⟩ : ∃ cs, cs = v0.cells.toList := ⟨_, rfl⟩
  rw [← hcs0] at ha0 hm0
  dsimp only at hb0
  obtain ⟨x1, rfl, rfl, rfl, wx1⟩ := open_int Tryd.underlying5 (hval 1 5 v1 rfl rfl) h1; have wy1 := wx1
  have wx1 := bounds_u8 wx1; obtain ⟨u1, rfl⟩ : ∃ m : Nat, x1 = m := ⟨x1.toNat, by omega⟩
  have hbk := of_decide_eq_true (hcond _ rfl)
  simp only [Rows.uptoBulkAll, List.cons_append, List.nil_append] at hbk
  have ht := tb_of_laid hL
  have hml := cell_of_shapedOpen_int hsh (zero := #[.int .i64 0]) (g := 2) (t := 3) (by decide) (by kernel_rfl) rfl (by kernel_rfl) (by kernel_rfl) Tryd.underlying3
  clear hA0 hval0
  simp only [List.append_nil] at hW' hlt
  subst ha0
  refine Calls.mono (own_law x0 cs0 _ u1 (by omega) W ⟨ht, ht.lt, hml⟩ (fun b hb => by have := hb0 b hb; omega) hm0) fun e W' ⟨v, he, hv, hx⟩ => ?_
  subst he; subst hv
  exact ⟨_, rfl, post_ext2 (pv := []) hW' (fun _ _ _ => trodAll_mk1 (shut_bool Tryd.underlying4 _)) (trodAll_mk2 (Below.trod laidB (by kernel_rfl) (of_decide_eq_true (by kernel_rfl)) hk0 (below_ext hx) (fun y hy => hlt y (by simp [hy]))) (shut_int Tryd.underlying5 wy1)) (fun _ _ => rfl) (by simp) (below_ext hx)⟩
theorem treeOwnUpto_holds : Rows.TreeOwnUptoSaid :=
  OpenClaim.holds_of_cond 5 Tryd.f5 rfl rfl rfl rfl rfl rfl rfl ⟨rfl, rfl, rfl, rfl, rfl⟩ rfl rfl rfl rfl rfl (by kernel_rfl) Tryd.func5 (by kernel_rfl)
    (of_decide_eq_true (by kernel_rfl)) (by unfold Func.isWrapper; first | (rw [if_pos (by decide +kernel)]; kernel_rfl) | (rw [if_neg (by decide +kernel)]; exact ⟨rfl, rfl⟩))
    (fun os started H enc _ F => by rw [OpenClaim.pre_eq_preRow]; exact treeOwn_lifted os started H enc F)
end Go.Proofs.YtcmcdgkjipnfnaaDoor
end

section
namespace Go.Proofs.YtcmcdgkjipnfnaaDoor
open Go
theorem treeOwnUpto_card : Rows.TreeOwnUptoCardSaid :=
  Claim7.holds_tied_plain_at .later [] [.listed, .data] true (true, "614634e4812a1ceafbd0abe881a854bc591947a8d3d568739848297dd729f6be") false
    treeOwnUpto_holds (fun _ h => by cases h) (by kernel_rfl) (fun _ h => by cases h) treeOwnUpto_row_tie rfl ⟨rfl, rfl⟩ (by kernel_rfl) rfl
    (fun f fn hf hfn => by
      obtain rfl : f = 5 := Option.some.inj ((show Tryd.prog.funcNamed "stepstone/stepstonelaw12.TreeOwn" = some 5 by kernel_rfl).symm.trans hf) |>.symm
      obtain rfl : fn = Tryd.f5 := (Option.some.inj (Tryd.func5.symm.trans hfn)).symm
      exact ⟨by kernel_rfl, fun j t ht => by
        rw [Tryd.params5] at ht
        rcases j with _ | _ | j
        · obtain rfl : t = 30 := by simpa using ht.symm
          exact (show Tryd.prog.wantsStandIn 30 = false by kernel_rfl)
        · obtain rfl : t = 5 := by simpa using ht.symm
          exact (show Tryd.prog.wantsStandIn 5 = false by kernel_rfl)
        · simp at ht⟩)
    (by kernel_rfl)
end Go.Proofs.YtcmcdgkjipnfnaaDoor
end
