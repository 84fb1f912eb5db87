/- For every two expressions, of a bulk of at most 1048576, the law TreeExprs holds of the given program. Part 5 of 15. -/
import Derived.Test.YtcmcdgkjipnfnaaGreatDoorE02
import Derived.Test.YtcmcdgkjipnfnaaGreatDoorE04
section
namespace Go.Proofs.YtcmcdgkjipnfnaaGreatDoor
open Go.RowKit Go.Sx
open Go.Tok Go.Tree
theorem Toks.cellS {l : List Tk} {a : Option Addr} {c k : Nat} {W : Heap} (h : Toks (.slice a l.length c) l W) (hk : k < l.length) : ∃ b, a = some ⟨b, 0, none⟩ ∧ ∀ (B : Base) (L : Heap) (w : World), (∀ p ∈ W, p ∈ L) → St B L w → ∀ (t : Tk), l[k]? = some t → ∀ (j : Nat) u, (tkC t)[j]? = some u → w.cell? ⟨b, 0 + k * 3 + j, none⟩ = some u := by
  obtain ⟨b, rfl, hc⟩ := Own.cell h hk
  exact ⟨b, rfl, fun B L w hW hw t ht j u hu => by rw [Nat.zero_add]; exact hc B L w hW hw _ u (tks_at l k t ht j u hu)⟩
/-- what the world must have: the tables of Go's library -/
structure Wd (w : World) : Prop where
  tb : Tb w
  gs : 0 < w.heap.size
  ml : ∃ m, w.cell? ⟨2, 0, none⟩ = some (.int .i64 m)
theorem Wd.ext {w w' : World} (h : Wd w) (k : Ext w w') : Wd w' := ⟨h.tb.fr k (fun x => x), Nat.le_trans h.gs k.size, by obtain ⟨m, hm⟩ := h.ml; exact ⟨m, k.cell hm (fun x => x)⟩⟩
theorem Wd.now {w w' : World} {B : Base} {L : Heap} (h : Wd w) (hx : (w, No) ∈ B) (hw : St B L w') : Wd w' := h.ext (hw.fr _ hx)
theorem Contains_spec (s t : List UInt8) (w : World) (hs : s.length < 4294967281) (hw : Wd w) : Ret Tryz.prog 51 #[str s, str t] w fun v w' => v = .bool (Lib.contains s t) ∧ Ext w w' := by
  obtain ⟨m, hm⟩ := hw.ml
  exact Calls.mono (Tryz.strings_Contains ⟨s.toArray⟩ ⟨t.toArray⟩ m w hs hm) fun e w' ⟨h1, h2⟩ => ⟨_, h1, by simp, by rw [h2]; exact Fr.refl _ _⟩

set_option maxRecDepth 100000 in
set_option maxHeartbeats 400000 in
theorem one_spec (s : Str) (k : Nat) (hs : s.length ≤ 10000000) (w : World) (hW : Wd w) :
    Ret Tryz.prog 50 #[str s, .int .u8 (k : Nat)] w (fun v w' => v = .bool (oneB k s) ∧ Ext w w') := by
  have ht := hW.tb
  have hgs := hW.gs
  refine enter (S := No) (l := [_, _]) (L := []) 36 Tryz.func50 rfl rfl rfl (St.start w No) ?_
  refine c_seq ?_; refine c_region ?_; refine w_asg (v := .bool _) rfl ?_; refine w_nil ?_; refine k_on ?_; refine c_seq ?_; refine c_region ?_; refine w_move (v := str _) rfl ?_
  refine w_callW (R := RdV (readP s)) (fun w => R_call Tryz.func87 rfl rfl rfl) rfl rfl (fun w h => Read_spec s hs w (ht.fr (h.fr _ (.head _)) (fun x => x)) (Nat.le_trans hgs (h.fr _ (.head _)).size)) ?_
  refine fun u W1 hR1 => w_st (fun w h => h.perm List.perm_append_comm) ?_
  obtain ⟨a1, c1, rfl, hT1⟩ := hR1
  refine w_move rfl ?_; refine w_r (fun _ => R_extract rfl rfl) rfl rfl ?_; refine w_r (fun _ => R_extract rfl rfl) rfl rfl ?_
  refine w_alloc zr115 (fun t6b gt6b ut6b => ?_)
  refine w_asg (v := .slice _ _ _) rfl ?_; refine w_store 0 rfl z115 rfl rfl rfl rfl rfl rfl rfl ?_; refine w_nil ?_; refine k_on ?_; refine c_seq ?_; refine c_region ?_
  refine w_fa fa115_0 rfl ?_; refine w_load z27 rfl (fun _ h => cel_own 0 rfl rfl h) ?_; refine w_r (fun _ => R_eq rfl rfl) rfl rfl ?_; refine w_move (v := .bool _) rfl ?_
  refine w_splitD (t := 15) rfl (fun h2 => ?_) (fun h2 => ?_)
  · refine w_want rfl rfl (bT h2) ?_; refine w_move (v := .slice _ _ _) rfl ?_; refine w_want rfl rfl (bT h2) ?_
    refine w_r (fun _ => R_len sl113 rfl) rfl rfl ?_; refine w_want rfl rfl (bT h2) ?_; refine w_r (fun _ => R_eq rfl rfl) rfl rfl ?_
    refine w_r (v := .bool _) (fun _ => R_pickT (bT h2) rfl) rfl rfl ?_; refine w_move (v := .bool _) rfl ?_
    refine w_splitD (t := 20) rfl (fun h3 => ?_) (fun h3 => ?_)
    · obtain ⟨b1, rfl, hc1⟩ := hT1.cellS (k := 0) (by omega); obtain ⟨t, q1⟩ : ∃ t, (readP s).1[0]? = some t := ⟨_, List.getElem?_eq_getElem (by omega)⟩; have e1 := oneB_at (k := k) (by omega) q1 (by omega)
      refine w_want rfl rfl (bT h3) ?_; refine w_move (v := .slice _ _ _) rfl ?_; refine w_want rfl rfl (bT h3) ?_
      refine w_r (fun _ => R_iaN (i := 0) sl113 rfl rfl (by first | omega | decide)) rfl rfl ?_; refine w_want rfl rfl (bT h3) ?_
      refine w_fa fa119_0 rfl ?_; refine w_want rfl rfl (bT h3) ?_; refine w_load z5 rfl (fun _ h => by first | exact cel_own 0 rfl rfl h | exact hc1 _ _ _ (fun p hp => by simp [hp]) h _ q1 _ _ rfl) ?_
      refine w_want rfl rfl (bT h3) ?_; refine w_move (v := .int _ _) rfl ?_; refine w_want rfl rfl (bT h3) ?_
      refine w_r (fun _ => R_eq rfl rfl) rfl rfl ?_; refine w_r (v := .bool _) (fun _ => R_pickT (bT h3) rfl) rfl rfl ?_; refine w_move (v := .bool _) rfl ?_
      refine w_splitD (t := 28) rfl (fun h4 => ?_) (fun h4 => ?_)
      · refine w_want rfl rfl (bT h4) ?_; refine w_move (v := .slice _ _ _) rfl ?_; refine w_want rfl rfl (bT h4) ?_
        refine w_r (fun _ => R_iaN (i := 0) sl113 rfl rfl (by first | omega | decide)) rfl rfl ?_; refine w_want rfl rfl (bT h4) ?_
        refine w_fa fa119_1 rfl ?_; refine w_want rfl rfl (bT h4) ?_; refine w_load z9 rfl (fun _ h => by first | exact cel_own 0 rfl rfl h | exact hc1 _ _ _ (fun p hp => by simp [hp]) h _ q1 _ _ rfl) ?_
        refine w_want rfl rfl (bT h4) ?_; refine w_move (v := str _) rfl ?_; refine w_want rfl rfl (bT h4) ?_
        refine w_r (fun _ => R_seq rfl rfl) rfl rfl ?_; refine w_r (v := .bool _) (fun _ => R_pickT (bT h4) rfl) rfl rfl ?_; refine w_asg (v := .bool _) rfl ?_
        refine w_nil ?_; refine k_on ?_; refine c_ret ?_
        refine r_one (v := .bool _) rfl rfl rfl ?_
        exact fun w' hw => ⟨by rw [e1, decide_eq_true h4]; rfl, hw.fr _ (.head _)⟩
      · refine w_skip rfl rfl (bF h4) ?_; refine w_skip rfl rfl (bF h4) ?_; refine w_skip rfl rfl (bF h4) ?_
        refine w_skip rfl rfl (bF h4) ?_; refine w_skip rfl rfl (bF h4) ?_; refine w_skip rfl rfl (bF h4) ?_
        refine w_r (v := .bool _) (fun _ => R_pickF (bF h4) rfl) rfl rfl ?_; refine w_asg (v := .bool _) rfl ?_; refine w_nil ?_
        refine k_on ?_; refine c_ret ?_
        refine r_one (v := .bool _) rfl rfl rfl ?_
        exact fun w' hw => ⟨by rw [e1, decide_eq_false h4]; rfl, hw.fr _ (.head _)⟩
    · refine w_skip rfl rfl (bF h3) ?_; refine w_skip rfl rfl (bF h3) ?_; refine w_skip rfl rfl (bF h3) ?_
      refine w_skip rfl rfl (bF h3) ?_; refine w_skip rfl rfl (bF h3) ?_; refine w_skip rfl rfl (bF h3) ?_
      refine w_r (v := .bool _) (fun _ => R_pickF (bF h3) rfl) rfl rfl ?_; refine w_move (v := .bool _) rfl ?_; refine w_skip rfl rfl rfl ?_
      refine w_skip rfl rfl rfl ?_; refine w_skip rfl rfl rfl ?_; refine w_skip rfl rfl rfl ?_; refine w_skip rfl rfl rfl ?_; refine w_skip rfl rfl rfl ?_; refine w_r (v := .bool _) (fun _ => R_pickF rfl rfl) rfl rfl ?_
      refine w_asg (v := .bool _) rfl ?_; refine w_nil ?_; refine k_on ?_; refine c_ret ?_
      refine r_one (v := .bool _) rfl rfl rfl ?_
      exact fun w' hw => ⟨by rw [oneB_len (by omega)], hw.fr _ (.head _)⟩
  · refine w_skip rfl rfl (bF h2) ?_; refine w_skip rfl rfl (bF h2) ?_; refine w_skip rfl rfl (bF h2) ?_
    refine w_r (v := .bool _) (fun _ => R_pickF (bF h2) rfl) rfl rfl ?_; refine w_move (v := .bool _) rfl ?_; refine w_skip rfl rfl rfl ?_
    refine w_skip rfl rfl rfl ?_; refine w_skip rfl rfl rfl ?_; refine w_skip rfl rfl rfl ?_; refine w_skip rfl rfl rfl ?_; refine w_skip rfl rfl rfl ?_; refine w_r (v := .bool _) (fun _ => R_pickF rfl rfl) rfl rfl ?_
    refine w_move (v := .bool _) rfl ?_; refine w_skip rfl rfl rfl ?_; refine w_skip rfl rfl rfl ?_; refine w_skip rfl rfl rfl ?_; refine w_skip rfl rfl rfl ?_; refine w_skip rfl rfl rfl ?_
    refine w_skip rfl rfl rfl ?_; refine w_r (v := .bool _) (fun _ => R_pickF rfl rfl) rfl rfl ?_; refine w_asg (v := .bool _) rfl ?_; refine w_nil ?_; refine k_on ?_
    refine c_ret ?_
    refine r_one (v := .bool _) rfl rfl rfl ?_
    exact fun w' hw => ⟨by rw [oneB_E (by omega)], hw.fr _ (.head _)⟩

set_option maxRecDepth 100000 in
set_option maxHeartbeats 400000 in
theorem Name_spec (s : Str) (hs : s.length ≤ 10000000) (w : World) (hW : Wd w) :
    Ret Tryz.prog 24 #[str s] w (fun v w' => v = .bool (nameOk s) ∧ Ext w w') := by
  refine enter (S := No) (l := [_]) (L := []) 12 Tryz.func24 rfl rfl rfl (St.start w No) ?_
  refine c_seq ?_; refine c_region ?_; refine w_asg (v := .bool _) rfl ?_; refine w_nil ?_; refine k_on ?_; refine c_seq ?_; refine c_region ?_; refine w_move (v := str _) rfl ?_
  refine w_call (fun w => R_call Tryz.func50 rfl rfl rfl) rfl rfl (fun w h => one_spec _ 1 (by omega) w (hW.now (.head _) h)) ?_; refine w_move (v := .bool _) rfl ?_
  refine w_split (t := 5) rfl (fun h1 => ?_) (fun h1 => ?_)
  · refine w_want rfl rfl (bV h1) ?_; refine w_move (v := str _) rfl ?_; refine w_want rfl rfl (bV h1) ?_; refine w_r (fun _ => R_cat rfl rfl (by simp only [List.length_append, List.length_cons, List.length_nil]; omega)) rfl rfl ?_
    refine w_want rfl rfl (bV h1) ?_; refine w_r (fun _ => R_cat rfl rfl (by simp only [List.length_append, List.length_cons, List.length_nil]; omega)) rfl rfl ?_
    refine w_want rfl rfl (bV h1) ?_; refine w_call (fun w => R_call Tryz.func51 rfl rfl rfl) rfl rfl (fun w h => Contains_spec wordsT ([32] ++ s ++ [32]) w (by decide) (hW.now (.head _) h)) ?_
    refine w_want rfl rfl (bV h1) ?_; refine w_r (fun _ => R_not rfl) rfl rfl ?_; refine w_r (v := .bool _) (fun _ => R_pickT (bV h1) rfl) rfl rfl ?_
    refine w_asg (v := .bool _) rfl ?_; refine w_nil ?_; refine k_on ?_; refine c_ret ?_
    refine r_one (v := .bool _) rfl rfl rfl ?_
    exact fun w' hw => ⟨by rw [nameOk_one h1], hw.fr _ (.head _)⟩
  · refine w_skip rfl rfl (bV h1) ?_; refine w_skip rfl rfl (bV h1) ?_; refine w_skip rfl rfl (bV h1) ?_; refine w_skip rfl rfl (bV h1) ?_
    refine w_skip rfl rfl (bV h1) ?_; refine w_r (v := .bool _) (fun _ => R_pickF (bV h1) rfl) rfl rfl ?_; refine w_asg (v := .bool _) rfl ?_
    refine w_nil ?_; refine k_on ?_; refine c_ret ?_
    refine r_one (v := .bool _) rfl rfl rfl ?_
    exact fun w' hw => ⟨by rw [nameOk_no h1], hw.fr _ (.head _)⟩

set_option maxRecDepth 100000 in
set_option maxHeartbeats 400000 in
theorem expr1_spec (w : World) (hW : Wd w) (p1 : Nat) (bare : Bool) (hq1 : w.heap[p1]? = some (cel [.bool bare] 4)) (p2 : Nat) (n : Nat) (hq2 : w.heap[p2]? = some (cel [.int .i64 (n : Nat)] 3)) :
    Ret Tryz.prog 52 #[.pointer (some ⟨p1, 0, none⟩), .pointer (some ⟨p2, 0, none⟩)] w (fun v w' => v = .bool (bare && decide (n = 2)) ∧ Ext w w') := by
  refine enter (S := No) (l := [_, _]) (L := []) 8 Tryz.func52 rfl rfl rfl (St.start w No) ?_
  refine c_seq ?_; refine c_region ?_; refine w_asg (v := .bool _) rfl ?_; refine w_nil ?_; refine k_on ?_; refine c_seq ?_; refine c_region ?_; refine w_load z4 rfl (fun _ h => cel_oldb hq1 (.head _) id rfl h) ?_
  refine w_move (v := .bool _) rfl ?_
  refine w_split (t := 4) rfl (fun h1 => ?_) (fun h1 => ?_)
  · refine w_want rfl rfl (bV h1) ?_; refine w_load z3 rfl (fun _ h => cel_oldb hq2 (.head _) id rfl h) ?_; refine w_want rfl rfl (bV h1) ?_
    refine w_r (fun _ => R_eq rfl rfl) rfl rfl ?_; refine w_r (v := .bool _) (fun _ => R_pickT (bV h1) rfl) rfl rfl ?_; refine w_asg (v := .bool _) rfl ?_
    refine w_nil ?_; refine k_on ?_; refine c_ret ?_
    refine r_one (v := .bool _) rfl rfl rfl ?_
    exact fun w' hw => ⟨by simp_all <;> omega, hw.fr _ (.head _)⟩
  · refine w_skip rfl rfl (bV h1) ?_; refine w_skip rfl rfl (bV h1) ?_; refine w_r (v := .bool _) (fun _ => R_pickF (bV h1) rfl) rfl rfl ?_
    refine w_asg (v := .bool _) rfl ?_; refine w_nil ?_; refine k_on ?_; refine c_ret ?_
    refine r_one (v := .bool _) rfl rfl rfl ?_
    exact fun w' hw => ⟨by simp_all <;> omega, hw.fr _ (.head _)⟩

set_option maxRecDepth 100000 in
set_option maxHeartbeats 400000 in
theorem expr2_spec (w : World) (hW : Wd w) (p2 : Nat) (n : Nat) (hq2 : w.heap[p2]? = some (cel [.int .i64 (n : Nat)] 3)) (p3 : Nat) (op : Nat) (at_ : Int) (nm : Str) (v4 : Value) (hq3 : w.heap[p3]? = some (cel [.int .u8 (op : Nat), .int .i64 at_, str nm, v4] 24)) (hs : nm.length ≤ 10000000) :
    Ret Tryz.prog 53 #[.pointer (some ⟨p2, 0, none⟩), .pointer (some ⟨p3, 0, none⟩)] w (fun v w' => v = .bool (decide (n = 0) && oneB 2 nm) ∧ Ext w w') := by
  refine enter (S := No) (l := [_, _]) (L := []) 10 Tryz.func53 rfl rfl rfl (St.start w No) ?_
  refine c_seq ?_; refine c_region ?_; refine w_asg (v := .bool _) rfl ?_; refine w_nil ?_; refine k_on ?_; refine c_seq ?_; refine c_region ?_; refine w_load z3 rfl (fun _ h => cel_oldb hq2 (.head _) id rfl h) ?_
  refine w_r (fun _ => R_eq rfl rfl) rfl rfl ?_; refine w_move (v := .bool _) rfl ?_
  refine w_splitD (t := 5) rfl (fun h1 => ?_) (fun h1 => ?_)
  · refine w_want rfl rfl (bT h1) ?_; refine w_fa fa24_2 rfl ?_; refine w_want rfl rfl (bT h1) ?_
    refine w_load z9 rfl (fun _ h => cel_oldb hq3 (.head _) id rfl h) ?_; refine w_want rfl rfl (bT h1) ?_; refine w_call (fun w => R_call Tryz.func50 rfl rfl rfl) rfl rfl (fun w h => one_spec _ 2 (by omega) w (hW.now (.head _) h)) ?_
    refine w_r (v := .bool _) (fun _ => R_pickT (bT h1) rfl) rfl rfl ?_; refine w_asg (v := .bool _) rfl ?_; refine w_nil ?_; refine k_on ?_
    refine c_ret ?_
    refine r_one (v := .bool _) rfl rfl rfl ?_
    exact fun w' hw => ⟨by simp_all <;> omega, hw.fr _ (.head _)⟩
  · refine w_skip rfl rfl (bF h1) ?_; refine w_skip rfl rfl (bF h1) ?_; refine w_skip rfl rfl (bF h1) ?_
    refine w_r (v := .bool _) (fun _ => R_pickF (bF h1) rfl) rfl rfl ?_; refine w_asg (v := .bool _) rfl ?_; refine w_nil ?_
    refine k_on ?_; refine c_ret ?_
    refine r_one (v := .bool _) rfl rfl rfl ?_
    exact fun w' hw => ⟨by simp_all <;> omega, hw.fr _ (.head _)⟩

set_option maxRecDepth 100000 in
set_option maxHeartbeats 400000 in
theorem expr3_spec (w : World) (hW : Wd w) (p2 : Nat) (n : Nat) (hq2 : w.heap[p2]? = some (cel [.int .i64 (n : Nat)] 3)) (p3 : Nat) (op : Nat) (at_ : Int) (nm : Str) (v4 : Value) (hq3 : w.heap[p3]? = some (cel [.int .u8 (op : Nat), .int .i64 at_, str nm, v4] 24)) (hs : nm.length ≤ 10000000) :
    Ret Tryz.prog 54 #[.pointer (some ⟨p2, 0, none⟩), .pointer (some ⟨p3, 0, none⟩)] w (fun v w' => v = .bool (decide (n = 0) && nameOk nm) ∧ Ext w w') := by
  refine enter (S := No) (l := [_, _]) (L := []) 10 Tryz.func54 rfl rfl rfl (St.start w No) ?_
  refine c_seq ?_; refine c_region ?_; refine w_asg (v := .bool _) rfl ?_; refine w_nil ?_; refine k_on ?_; refine c_seq ?_; refine c_region ?_; refine w_load z3 rfl (fun _ h => cel_oldb hq2 (.head _) id rfl h) ?_
  refine w_r (fun _ => R_eq rfl rfl) rfl rfl ?_; refine w_move (v := .bool _) rfl ?_
  refine w_splitD (t := 5) rfl (fun h1 => ?_) (fun h1 => ?_)
  · refine w_want rfl rfl (bT h1) ?_; refine w_fa fa24_2 rfl ?_; refine w_want rfl rfl (bT h1) ?_
    refine w_load z9 rfl (fun _ h => cel_oldb hq3 (.head _) id rfl h) ?_; refine w_want rfl rfl (bT h1) ?_; refine w_call (fun w => R_call Tryz.func24 rfl rfl rfl) rfl rfl (fun w h => Name_spec _ (by omega) w (hW.now (.head _) h)) ?_
    refine w_r (v := .bool _) (fun _ => R_pickT (bT h1) rfl) rfl rfl ?_; refine w_asg (v := .bool _) rfl ?_; refine w_nil ?_; refine k_on ?_
    refine c_ret ?_
    refine r_one (v := .bool _) rfl rfl rfl ?_
    exact fun w' hw => ⟨by simp_all <;> omega, hw.fr _ (.head _)⟩
  · refine w_skip rfl rfl (bF h1) ?_; refine w_skip rfl rfl (bF h1) ?_; refine w_skip rfl rfl (bF h1) ?_
    refine w_r (v := .bool _) (fun _ => R_pickF (bF h1) rfl) rfl rfl ?_; refine w_asg (v := .bool _) rfl ?_; refine w_nil ?_
    refine k_on ?_; refine c_ret ?_
    refine r_one (v := .bool _) rfl rfl rfl ?_
    exact fun w' hw => ⟨by simp_all <;> omega, hw.fr _ (.head _)⟩

set_option maxRecDepth 100000 in
set_option maxHeartbeats 400000 in
theorem expr4_spec (w : World) (hW : Wd w) (p2 : Nat) (n : Nat) (hq2 : w.heap[p2]? = some (cel [.int .i64 (n : Nat)] 3)) (p3 : Nat) (op : Nat) (at_ : Int) (nm : Str) (v4 : Value) (hq3 : w.heap[p3]? = some (cel [.int .u8 (op : Nat), .int .i64 at_, str nm, v4] 24)) (hs : nm.length ≤ 10000000) :
    Ret Tryz.prog 55 #[.pointer (some ⟨p2, 0, none⟩), .pointer (some ⟨p3, 0, none⟩)] w (fun v w' => v = .bool (decide (n = 1) && nameOk nm) ∧ Ext w w') := by
  refine enter (S := No) (l := [_, _]) (L := []) 10 Tryz.func55 rfl rfl rfl (St.start w No) ?_
  refine c_seq ?_; refine c_region ?_; refine w_asg (v := .bool _) rfl ?_; refine w_nil ?_; refine k_on ?_; refine c_seq ?_; refine c_region ?_; refine w_load z3 rfl (fun _ h => cel_oldb hq2 (.head _) id rfl h) ?_
  refine w_r (fun _ => R_eq rfl rfl) rfl rfl ?_; refine w_move (v := .bool _) rfl ?_
  refine w_splitD (t := 5) rfl (fun h1 => ?_) (fun h1 => ?_)
  · refine w_want rfl rfl (bT h1) ?_; refine w_fa fa24_2 rfl ?_; refine w_want rfl rfl (bT h1) ?_
    refine w_load z9 rfl (fun _ h => cel_oldb hq3 (.head _) id rfl h) ?_; refine w_want rfl rfl (bT h1) ?_; refine w_call (fun w => R_call Tryz.func24 rfl rfl rfl) rfl rfl (fun w h => Name_spec _ (by omega) w (hW.now (.head _) h)) ?_
    refine w_r (v := .bool _) (fun _ => R_pickT (bT h1) rfl) rfl rfl ?_; refine w_asg (v := .bool _) rfl ?_; refine w_nil ?_; refine k_on ?_
    refine c_ret ?_
    refine r_one (v := .bool _) rfl rfl rfl ?_
    exact fun w' hw => ⟨by simp_all <;> omega, hw.fr _ (.head _)⟩
  · refine w_skip rfl rfl (bF h1) ?_; refine w_skip rfl rfl (bF h1) ?_; refine w_skip rfl rfl (bF h1) ?_
    refine w_r (v := .bool _) (fun _ => R_pickF (bF h1) rfl) rfl rfl ?_; refine w_asg (v := .bool _) rfl ?_; refine w_nil ?_
    refine k_on ?_; refine c_ret ?_
    refine r_one (v := .bool _) rfl rfl rfl ?_
    exact fun w' hw => ⟨by simp_all <;> omega, hw.fr _ (.head _)⟩

set_option maxRecDepth 100000 in
set_option maxHeartbeats 400000 in
theorem expr5_spec (w : World) (hW : Wd w) (p3 : Nat) (op : Nat) (at_ : Int) (nm : Str) (v4 : Value) (hq3 : w.heap[p3]? = some (cel [.int .u8 (op : Nat), .int .i64 at_, str nm, v4] 24)) (hs : nm.length ≤ 10000000) :
    Ret Tryz.prog 56 #[.pointer (some ⟨p3, 0, none⟩)] w (fun v w' => v = .bool (nameOk nm) ∧ Ext w w') := by
  refine enter (S := No) (l := [_]) (L := []) 5 Tryz.func56 rfl rfl rfl (St.start w No) ?_
  refine c_seq ?_; refine c_region ?_; refine w_asg (v := .bool _) rfl ?_; refine w_nil ?_; refine k_on ?_; refine c_seq ?_; refine c_region ?_; refine w_fa fa24_2 rfl ?_
  refine w_load z9 rfl (fun _ h => cel_oldb hq3 (.head _) id rfl h) ?_; refine w_call (fun w => R_call Tryz.func24 rfl rfl rfl) rfl rfl (fun w h => Name_spec _ (by omega) w (hW.now (.head _) h)) ?_
  refine w_asg (v := .bool _) rfl ?_; refine w_nil ?_; refine k_on ?_; refine c_ret ?_
  refine r_one (v := .bool _) rfl rfl rfl ?_
  exact fun w' hw => ⟨by simp_all <;> omega, hw.fr _ (.head _)⟩

set_option maxRecDepth 100000 in
set_option maxHeartbeats 400000 in
theorem expr6_spec (w : World) (hW : Wd w) (p1 : Nat) (bare : Bool) (hq1 : w.heap[p1]? = some (cel [.bool bare] 4)) (p2 : Nat) (n : Nat) (hq2 : w.heap[p2]? = some (cel [.int .i64 (n : Nat)] 3)) :
    Ret Tryz.prog 57 #[.pointer (some ⟨p1, 0, none⟩), .pointer (some ⟨p2, 0, none⟩)] w (fun v w' => v = .bool (bare && decide (n = 1)) ∧ Ext w w') := by
  refine enter (S := No) (l := [_, _]) (L := []) 8 Tryz.func57 rfl rfl rfl (St.start w No) ?_
  refine c_seq ?_; refine c_region ?_; refine w_asg (v := .bool _) rfl ?_; refine w_nil ?_; refine k_on ?_; refine c_seq ?_; refine c_region ?_; refine w_load z4 rfl (fun _ h => cel_oldb hq1 (.head _) id rfl h) ?_
  refine w_move (v := .bool _) rfl ?_
  refine w_split (t := 4) rfl (fun h1 => ?_) (fun h1 => ?_)
  · refine w_want rfl rfl (bV h1) ?_; refine w_load z3 rfl (fun _ h => cel_oldb hq2 (.head _) id rfl h) ?_; refine w_want rfl rfl (bV h1) ?_
    refine w_r (fun _ => R_eq rfl rfl) rfl rfl ?_; refine w_r (v := .bool _) (fun _ => R_pickT (bV h1) rfl) rfl rfl ?_; refine w_asg (v := .bool _) rfl ?_
    refine w_nil ?_; refine k_on ?_; refine c_ret ?_
    refine r_one (v := .bool _) rfl rfl rfl ?_
    exact fun w' hw => ⟨by simp_all <;> omega, hw.fr _ (.head _)⟩
  · refine w_skip rfl rfl (bV h1) ?_; refine w_skip rfl rfl (bV h1) ?_; refine w_r (v := .bool _) (fun _ => R_pickF (bV h1) rfl) rfl rfl ?_
    refine w_asg (v := .bool _) rfl ?_; refine w_nil ?_; refine k_on ?_; refine c_ret ?_
    refine r_one (v := .bool _) rfl rfl rfl ?_
    exact fun w' hw => ⟨by simp_all <;> omega, hw.fr _ (.head _)⟩


/-- expr tells of all that are smaller -/
def ExprH (n : Nat) : Prop := ∀ (x : Ex) (cs : List Value) (N : Nat → Prop) (w : World), exW x < n → exM w N x cs → Wd w → Ret Tryz.prog 25 #[.agg cs.toArray] w fun v w' => v = .bool (exOk x) ∧ Ext w w'

set_option maxRecDepth 100000 in
set_option maxHeartbeats 400000 in
theorem exprsC_spec (n : Nat) (ih : ExprH n) (hn : n ≤ 10000000) (x : Ex) (cs : List Value) (N : Nat → Prop) (w : World) (hx : exW x < n) (hm : exM w N x cs) (hW : Wd w) :
    Ret Tryz.prog 90 #[.agg cs.toArray] w (fun v w' => v = .bool (!exOk x) ∧ Ext w w') := by
  obtain ⟨op, at_, nm, ks⟩ := x
  have hm2 := hm
  unfold exM at hm2
  obtain ⟨ka, kc, rfl, hkc, hks⟩ := hm2
  have hx2 := hx
  unfold exW at hx2
  refine enter (S := No) (l := [_]) (L := []) 6 Tryz.func90 rfl rfl rfl (St.start w No) ?_
  refine c_seq ?_; refine c_region ?_
  refine w_boxA rfl (fun b1 gb1 ub1 => ?_)
  refine w_asg (v := .bool _) rfl ?_; refine w_nil ?_; refine k_on ?_; refine c_seq ?_; refine c_region ?_; refine w_loadA z24 rfl (fun _ h => h.at_ 0 rfl) rfl ?_; refine w_call (fun w => R_call Tryz.func25 rfl rfl rfl) rfl rfl (fun w h => ih _ _ N w hx (hm.now (fun _ _ hh => hh) (.head _) h) (hW.now (.head _) h)) ?_
  refine w_r (fun _ => R_not rfl) rfl rfl ?_; refine w_asg (v := .bool _) rfl ?_; refine w_nil ?_; refine k_on ?_; refine c_ret ?_
  refine r_one (v := .bool _) rfl rfl rfl ?_
  exact fun w' hw => ⟨rfl, hw.fr _ (.head _)⟩

set_option maxRecDepth 100000 in
set_option maxHeartbeats 400000 in
theorem idxE_spec (n : Nat) (ih : ExprH n) (hn : n ≤ 10000000) (l : List Ex) (a : Option Addr) (c : Nat) (N : Nat → Prop) (w : World) (hl : ∀ x ∈ l, exW x < n) (hll : l.length ≤ 10000000) (hm : exsM w N l a 0) (hW : Wd w) :
    Ret Tryz.prog 108 #[.slice a l.length c, .func (.func 90) #[] #[]] w (fun v w' => v = .int .i64 (firstI (fun x => !exOk x) l) ∧ Ext w w') := by
  refine enter (S := No) (l := [_, _]) (L := []) 19 Tryz.func108 rfl rfl rfl (St.start w No) ?_
  refine c_seq ?_; refine c_region ?_; refine w_asg (v := .int _ _) rfl ?_; refine w_nil ?_; refine k_on ?_; refine c_seq ?_; refine c_seq ?_; refine c_region ?_; refine w_move (v := .slice _ _ _) rfl ?_
  refine w_r (fun _ => R_len sl22 rfl) rfl rfl ?_; refine w_move (v := .int _ _) rfl ?_; refine w_nil ?_; refine k_on ?_; refine c_block ?_
  refine c_loop (fun m e B L => ∃ (k : Nat), e 0 = .slice a l.length c ∧ e 1 = .func (.func 90) #[] #[] ∧ e 7 = .int .i64 (l.length : Nat) ∧ e 8 = .int .i64 (k : Nat) ∧ B = [(w, No)] ∧ L = [] ∧ k ≤ l.length ∧ (∀ y ∈ l.take k, (!exOk y) = false) ∧ m = l.length - k) _ ⟨0, rfl, rfl, rfl, rfl, rfl, rfl, Nat.zero_le _, (by simp), rfl⟩ ?_
  rintro m e B L ⟨k, e0_1, e1_1, e7_1, e8_1, rfl, rfl, hk, hy, rfl⟩
  refine c_seq ?_; refine c_region ?_; refine w_r (fun _ => R_lt e8_1 e7_1) rfl rfl ?_; refine w_nil ?_; refine k_on ?_; refine c_seq ?_
  refine c_condD rfl (fun h1 => ?_) (fun h1 => ?_)
  · have hlt : k < l.length := (by omega); obtain ⟨x, hxk⟩ : ∃ x, l[k]? = some x := ⟨_, List.getElem?_eq_getElem hlt⟩; obtain ⟨cs, hA, hE⟩ := hm.get0 hxk; have hxn := hl x (List.mem_of_getElem? hxk); obtain ⟨b1, o1, rfl⟩ := hA.ptr; obtain ⟨op, at_, nm, ks⟩ := x; have hE2 := hE; unfold exM at hE2; obtain ⟨ka, kc, rfl, hkc, hks⟩ := hE2
    refine c_skip ?_; refine k_on ?_; refine c_seq ?_; refine c_block ?_; refine c_seq ?_; refine c_region ?_; refine w_move (v := .int _ _) e8_1 ?_; refine w_asg (v := .int _ _) rfl ?_
    refine w_nil ?_; refine k_on ?_; refine c_seq ?_; refine c_region ?_; refine w_move e1_1 ?_; refine w_move (v := .slice _ _ _) e0_1 ?_; refine w_move (v := .int _ _) rfl ?_
    refine w_r (fun _ => R_iaN (i := k) sl22 rfl rfl (by first | omega | decide)) rfl rfl ?_
    refine w_loadC (l := [.int .u8 (op : Nat), .int .i64 at_, str nm, .slice ka ks.length kc]) z24 rfl rfl (fun w h j v hj => hA.cell (fun _ _ hh => hh) (.head _) h j v hj) ?_
    refine w_call (fun w => R_callv rfl Tryz.func90 rfl rfl) rfl rfl (fun w h => exprsC_spec n ih hn _ _ N w hxn (hE.now (fun _ _ hh => hh) (.head _) h) (hW.now (.head _) h)) ?_
    refine w_nil ?_; refine k_on ?_
    refine c_cond rfl (fun h2 => ?_) (fun h2 => ?_)
    · refine c_seq ?_; refine c_region ?_; refine w_move (v := .int _ _) rfl ?_; refine w_asg (v := .int _ _) rfl ?_; refine w_nil ?_; refine k_on ?_; refine c_ret ?_; refine b_ret (k_ret (k_ret (b_ret (k_ret (?_)))))
      refine r_one (v := .int _ _) rfl rfl rfl ?_
      exact fun w' hw => ⟨by rw [firstI_at hy hxk h2], hw.fr _ (.head _)⟩
    · refine c_skip ?_; refine b_on (k_on ?_); refine c_region ?_; refine w_r (fun _ => R_addi e8_1 rfl (by omega)) rfl rfl ?_; refine w_move (v := .int _ _) rfl ?_; refine w_nil ?_
      exact k_again _ (by omega) ⟨k + 1, e0_1, e1_1, e7_1, rfl, rfl, rfl, by omega, take_all hy hxk h2, rfl⟩
  · refine c_exit ?_; refine k_exit (k_exit (b_here rfl (k_on ?_))); refine c_seq ?_; refine c_region ?_; refine w_asg (v := .int _ _) rfl ?_; refine w_nil ?_; refine k_on ?_
    refine c_ret ?_
    obtain rfl : k = l.length := by omega
    rw [List.take_length] at hy
    refine r_one (v := .int _ _) rfl rfl rfl ?_
    exact fun w' hw => ⟨by rw [firstI_no hy], hw.fr _ (.head _)⟩

set_option maxRecDepth 100000 in
set_option maxHeartbeats 400000 in
theorem hasE_spec (n : Nat) (ih : ExprH n) (hn : n ≤ 10000000) (l : List Ex) (a : Option Addr) (c : Nat) (N : Nat → Prop) (w : World) (hl : ∀ x ∈ l, exW x < n) (hll : l.length ≤ 10000000) (hm : exsM w N l a 0) (hW : Wd w) :
    Ret Tryz.prog 89 #[.slice a l.length c, .func (.func 90) #[] #[]] w (fun v w' => v = .bool (l.any fun x => !exOk x) ∧ Ext w w') := by
  refine enter (S := No) (l := [_, _]) (L := []) 9 Tryz.func89 rfl rfl rfl (St.start w No) ?_
  refine c_seq ?_; refine c_region ?_; refine w_asg (v := .bool _) rfl ?_; refine w_nil ?_; refine k_on ?_; refine c_seq ?_; refine c_region ?_; refine w_move (v := .slice _ _ _) rfl ?_
  refine w_move rfl ?_; refine w_call (fun w => R_call Tryz.func108 rfl rfl rfl) rfl rfl (fun w h => idxE_spec n ih hn l a c N w hl hll (hm.now (fun _ _ hh => hh) (.head _) h) (hW.now (.head _) h)) ?_
  refine w_r (fun _ => R_ge rfl rfl) rfl rfl ?_; refine w_asg (v := .bool _) rfl ?_; refine w_nil ?_; refine k_on ?_; refine c_ret ?_
  refine r_one (v := .bool _) rfl rfl rfl ?_
  exact fun w' hw => ⟨by rw [← firstI_ge], hw.fr _ (.head _)⟩

set_option maxRecDepth 100000 in
set_option maxHeartbeats 400000 in
theorem exprs_spec (n : Nat) (ih : ExprH n) (hn : n ≤ 10000000) (l : List Ex) (a : Option Addr) (c : Nat) (N : Nat → Prop) (w : World) (hl : ∀ x ∈ l, exW x < n) (hll : l.length ≤ 10000000) (hm : exsM w N l a 0) (hW : Wd w) :
    Ret Tryz.prog 58 #[.slice a l.length c] w (fun v w' => v = .bool (exsOk l) ∧ Ext w w') := by
  refine enter (S := No) (l := [_]) (L := []) 6 Tryz.func58 rfl rfl rfl (St.start w No) ?_
  refine c_seq ?_; refine c_region ?_; refine w_asg (v := .bool _) rfl ?_; refine w_nil ?_; refine k_on ?_; refine c_seq ?_; refine c_region ?_; refine w_move (v := .slice _ _ _) rfl ?_
  refine w_call (fun w => R_call Tryz.func89 rfl rfl rfl) rfl rfl (fun w h => hasE_spec n ih hn l a c N w hl hll (hm.now (fun _ _ hh => hh) (.head _) h) (hW.now (.head _) h)) ?_
  refine w_r (fun _ => R_not rfl) rfl rfl ?_; refine w_asg (v := .bool _) rfl ?_; refine w_nil ?_; refine k_on ?_; refine c_ret ?_
  refine r_one (v := .bool _) rfl rfl rfl ?_
  exact fun w' hw => ⟨by rw [any_not, exsOk_all], hw.fr _ (.head _)⟩

set_option maxRecDepth 100000 in
set_option maxHeartbeats 4000000 in
theorem expr_step (n : Nat) (ih : ExprH n) (hn : n ≤ 10000000) (x : Ex) (cs : List Value) (N : Nat → Prop) (w : World) (hx : exW x < n + 1) (hm : exM w N x cs) (hW : Wd w) :
    Ret Tryz.prog 25 #[.agg cs.toArray] w (fun v w' => v = .bool (exOk x) ∧ Ext w w') := by
  obtain ⟨op, at_, nm, ks⟩ := x
  have hm2 := hm
  unfold exM at hm2
  obtain ⟨ka, kc, rfl, hkc, hks⟩ := hm2
  have hx2 := hx
  unfold exW at hx2
  have hkl : ∀ x ∈ ks, exW x < n := fun x hx => by have := exsW_mem hx; omega
  refine enter (S := No) (l := [_]) (L := []) 41 Tryz.func25 rfl rfl rfl (St.start w No) ?_
  refine c_seq ?_; refine c_region ?_
  refine w_boxA rfl (fun t1b gt1b ut1b => ?_)
  refine w_asg (v := .bool _) rfl ?_; refine w_nil ?_; refine k_on ?_; refine c_seq ?_; refine c_region ?_; refine w_fa fa24_3 rfl ?_; refine w_load z22 rfl (fun _ h => cel_own 0 rfl rfl h) ?_
  refine w_r (fun _ => R_len sl22 rfl) rfl rfl ?_
  refine w_alloc zr3 (fun t3b gt3b ut3b => ?_)
  refine w_store 0 rfl z3 rfl rfl rfl rfl rfl rfl rfl ?_; refine w_nil ?_; refine k_on ?_; refine c_seq ?_; refine c_region ?_; refine w_fa fa24_2 rfl ?_; refine w_load z9 rfl (fun _ h => cel_own 1 rfl rfl h) ?_
  refine w_r (fun _ => R_seq rfl rfl) rfl rfl ?_
  refine w_alloc zr4 (fun t4b gt4b ut4b => ?_)
  refine w_store 0 rfl z4 rfl rfl rfl rfl rfl rfl rfl ?_; refine w_nil ?_; refine k_on ?_; refine c_seq ?_; refine c_region ?_; refine w_r (fun _ => R_makeFunc) rfl rfl ?_
  refine w_asg rfl ?_; refine w_nil ?_; refine k_on ?_; refine c_seq ?_; refine c_region ?_
  refine w_makeMap (k := .u8) (fun mb gmb umb => ?_)
  refine w_r (fun _ => R_makeFunc) rfl rfl ?_; refine w_insI 0 rfl unm83 unk5 rfl rfl rfl rfl ?_; refine w_r (fun _ => R_makeFunc) rfl rfl ?_; refine w_insI 0 rfl unm83 unk5 rfl rfl rfl rfl ?_
  refine w_r (fun _ => R_makeFunc) rfl rfl ?_; refine w_insI 0 rfl unm83 unk5 rfl rfl rfl rfl ?_; refine w_r (fun _ => R_makeFunc) rfl rfl ?_; refine w_insI 0 rfl unm83 unk5 rfl rfl rfl rfl ?_
  refine w_r (fun _ => R_makeFunc) rfl rfl ?_; refine w_insI 0 rfl unm83 unk5 rfl rfl rfl rfl ?_; refine w_move rfl ?_; refine w_insI 0 rfl unm83 unk5 rfl rfl rfl rfl ?_
  refine w_move rfl ?_; refine w_insI 0 rfl unm83 unk5 rfl rfl rfl rfl ?_; refine w_move rfl ?_; refine w_insI 0 rfl unm83 unk5 rfl rfl rfl rfl ?_; refine w_move rfl ?_
  refine w_insI 0 rfl unm83 unk5 rfl rfl rfl rfl ?_; refine w_move rfl ?_; refine w_asg rfl ?_; refine w_nil ?_; refine k_on ?_; refine c_seq ?_; refine c_region ?_; refine w_move rfl ?_
  refine w_fa fa24_0 rfl ?_
  rcases op_cases9 op with rfl | rfl | rfl | rfl | rfl | rfl | rfl | rfl | rfl | hop
  · refine w_load z5 rfl (fun _ h => cel_own 3 rfl rfl h) ?_; refine w_lookI 0 (v := .func (.func 53) _ _) rfl unm83 unk5 zr26 rfl rfl rfl ?_; refine w_asg rfl ?_
    refine w_nil ?_; refine k_on ?_; refine c_seq ?_; refine c_region ?_; refine w_move rfl ?_; refine w_r (fun _ => R_fne unf26 rfl rfl) rfl rfl ?_; refine w_move (v := .bool _) rfl ?_
    refine w_want rfl rfl rfl ?_; refine w_move rfl ?_; refine w_want rfl rfl rfl ?_; refine w_call (fun w => R_callv rfl Tryz.func53 rfl rfl) rfl rfl (fun w h => expr2_spec w (hW.now (.head _) h) t3b _ (h.at_ 2 rfl) t1b _ _ _ _ (h.at_ 3 rfl) (by omega)) ?_
    refine w_r (v := .bool _) (fun _ => R_pickT rfl rfl) rfl rfl ?_; refine w_move (v := .bool _) rfl ?_
    refine w_split (t := 36) rfl (fun h4 => ?_) (fun h4 => ?_)
    · refine w_want rfl rfl (bV h4) ?_; refine w_fa fa24_3 rfl ?_; refine w_want rfl rfl (bV h4) ?_; refine w_load z22 rfl (fun _ h => cel_own 3 rfl rfl h) ?_
      refine w_want rfl rfl (bV h4) ?_; refine w_call (fun w => R_call Tryz.func58 rfl rfl rfl) rfl rfl (fun w h => exprs_spec n ih hn ks ka kc N w hkl (by omega) (hks.now (fun _ _ hh => hh) (.head _) h) (hW.now (.head _) h)) ?_
      refine w_r (v := .bool _) (fun _ => R_pickT (bV h4) rfl) rfl rfl ?_; refine w_asg (v := .bool _) rfl ?_; refine w_nil ?_; refine k_on ?_; refine c_ret ?_
      refine r_one (v := .bool _) rfl rfl rfl ?_
      exact fun w' hw => ⟨by first | (simp_all [exOk, ruleOk]; done) | (unfold exOk; rw [rule_miss hop]; rfl), hw.fr _ (.head _)⟩
    · refine w_skip rfl rfl (bV h4) ?_; refine w_skip rfl rfl (bV h4) ?_; refine w_skip rfl rfl (bV h4) ?_; refine w_r (v := .bool _) (fun _ => R_pickF (bV h4) rfl) rfl rfl ?_
      refine w_asg (v := .bool _) rfl ?_; refine w_nil ?_; refine k_on ?_; refine c_ret ?_
      refine r_one (v := .bool _) rfl rfl rfl ?_
      exact fun w' hw => ⟨by first | (simp_all [exOk, ruleOk]; done) | (unfold exOk; rw [rule_miss hop]; rfl), hw.fr _ (.head _)⟩
  · refine w_load z5 rfl (fun _ h => cel_own 3 rfl rfl h) ?_; refine w_lookI 0 (v := .func (.func 54) _ _) rfl unm83 unk5 zr26 rfl rfl rfl ?_; refine w_asg rfl ?_
    refine w_nil ?_; refine k_on ?_; refine c_seq ?_; refine c_region ?_; refine w_move rfl ?_; refine w_r (fun _ => R_fne unf26 rfl rfl) rfl rfl ?_; refine w_move (v := .bool _) rfl ?_
    refine w_want rfl rfl rfl ?_; refine w_move rfl ?_; refine w_want rfl rfl rfl ?_; refine w_call (fun w => R_callv rfl Tryz.func54 rfl rfl) rfl rfl (fun w h => expr3_spec w (hW.now (.head _) h) t3b _ (h.at_ 2 rfl) t1b _ _ _ _ (h.at_ 3 rfl) (by omega)) ?_
    refine w_r (v := .bool _) (fun _ => R_pickT rfl rfl) rfl rfl ?_; refine w_move (v := .bool _) rfl ?_
    refine w_split (t := 36) rfl (fun h5 => ?_) (fun h5 => ?_)
    · refine w_want rfl rfl (bV h5) ?_; refine w_fa fa24_3 rfl ?_; refine w_want rfl rfl (bV h5) ?_; refine w_load z22 rfl (fun _ h => cel_own 3 rfl rfl h) ?_
      refine w_want rfl rfl (bV h5) ?_; refine w_call (fun w => R_call Tryz.func58 rfl rfl rfl) rfl rfl (fun w h => exprs_spec n ih hn ks ka kc N w hkl (by omega) (hks.now (fun _ _ hh => hh) (.head _) h) (hW.now (.head _) h)) ?_
      refine w_r (v := .bool _) (fun _ => R_pickT (bV h5) rfl) rfl rfl ?_; refine w_asg (v := .bool _) rfl ?_; refine w_nil ?_; refine k_on ?_; refine c_ret ?_
      refine r_one (v := .bool _) rfl rfl rfl ?_
      exact fun w' hw => ⟨by first | (simp_all [exOk, ruleOk]; done) | (unfold exOk; rw [rule_miss hop]; rfl), hw.fr _ (.head _)⟩
    · refine w_skip rfl rfl (bV h5) ?_; refine w_skip rfl rfl (bV h5) ?_; refine w_skip rfl rfl (bV h5) ?_; refine w_r (v := .bool _) (fun _ => R_pickF (bV h5) rfl) rfl rfl ?_
      refine w_asg (v := .bool _) rfl ?_; refine w_nil ?_; refine k_on ?_; refine c_ret ?_
      refine r_one (v := .bool _) rfl rfl rfl ?_
      exact fun w' hw => ⟨by first | (simp_all [exOk, ruleOk]; done) | (unfold exOk; rw [rule_miss hop]; rfl), hw.fr _ (.head _)⟩
  · refine w_load z5 rfl (fun _ h => cel_own 3 rfl rfl h) ?_; refine w_lookI 0 (v := .func (.func 55) _ _) rfl unm83 unk5 zr26 rfl rfl rfl ?_; refine w_asg rfl ?_
    refine w_nil ?_; refine k_on ?_; refine c_seq ?_; refine c_region ?_; refine w_move rfl ?_; refine w_r (fun _ => R_fne unf26 rfl rfl) rfl rfl ?_; refine w_move (v := .bool _) rfl ?_
    refine w_want rfl rfl rfl ?_; refine w_move rfl ?_; refine w_want rfl rfl rfl ?_; refine w_call (fun w => R_callv rfl Tryz.func55 rfl rfl) rfl rfl (fun w h => expr4_spec w (hW.now (.head _) h) t3b _ (h.at_ 2 rfl) t1b _ _ _ _ (h.at_ 3 rfl) (by omega)) ?_
    refine w_r (v := .bool _) (fun _ => R_pickT rfl rfl) rfl rfl ?_; refine w_move (v := .bool _) rfl ?_
    refine w_split (t := 36) rfl (fun h6 => ?_) (fun h6 => ?_)
    · refine w_want rfl rfl (bV h6) ?_; refine w_fa fa24_3 rfl ?_; refine w_want rfl rfl (bV h6) ?_; refine w_load z22 rfl (fun _ h => cel_own 3 rfl rfl h) ?_
      refine w_want rfl rfl (bV h6) ?_; refine w_call (fun w => R_call Tryz.func58 rfl rfl rfl) rfl rfl (fun w h => exprs_spec n ih hn ks ka kc N w hkl (by omega) (hks.now (fun _ _ hh => hh) (.head _) h) (hW.now (.head _) h)) ?_
      refine w_r (v := .bool _) (fun _ => R_pickT (bV h6) rfl) rfl rfl ?_; refine w_asg (v := .bool _) rfl ?_; refine w_nil ?_; refine k_on ?_; refine c_ret ?_
      refine r_one (v := .bool _) rfl rfl rfl ?_
      exact fun w' hw => ⟨by first | (simp_all [exOk, ruleOk]; done) | (unfold exOk; rw [rule_miss hop]; rfl), hw.fr _ (.head _)⟩
    · refine w_skip rfl rfl (bV h6) ?_; refine w_skip rfl rfl (bV h6) ?_; refine w_skip rfl rfl (bV h6) ?_; refine w_r (v := .bool _) (fun _ => R_pickF (bV h6) rfl) rfl rfl ?_
      refine w_asg (v := .bool _) rfl ?_; refine w_nil ?_; refine k_on ?_; refine c_ret ?_
      refine r_one (v := .bool _) rfl rfl rfl ?_
      exact fun w' hw => ⟨by first | (simp_all [exOk, ruleOk]; done) | (unfold exOk; rw [rule_miss hop]; rfl), hw.fr _ (.head _)⟩
  · refine w_load z5 rfl (fun _ h => cel_own 3 rfl rfl h) ?_; refine w_lookI 0 (v := .func (.func 56) _ _) rfl unm83 unk5 zr26 rfl rfl rfl ?_; refine w_asg rfl ?_
    refine w_nil ?_; refine k_on ?_; refine c_seq ?_; refine c_region ?_; refine w_move rfl ?_; refine w_r (fun _ => R_fne unf26 rfl rfl) rfl rfl ?_; refine w_move (v := .bool _) rfl ?_
    refine w_want rfl rfl rfl ?_; refine w_move rfl ?_; refine w_want rfl rfl rfl ?_; refine w_call (fun w => R_callv rfl Tryz.func56 rfl rfl) rfl rfl (fun w h => expr5_spec w (hW.now (.head _) h) t1b _ _ _ _ (h.at_ 3 rfl) (by omega)) ?_
    refine w_r (v := .bool _) (fun _ => R_pickT rfl rfl) rfl rfl ?_; refine w_move (v := .bool _) rfl ?_
    refine w_split (t := 36) rfl (fun h7 => ?_) (fun h7 => ?_)
    · refine w_want rfl rfl (bV h7) ?_; refine w_fa fa24_3 rfl ?_; refine w_want rfl rfl (bV h7) ?_; refine w_load z22 rfl (fun _ h => cel_own 3 rfl rfl h) ?_
      refine w_want rfl rfl (bV h7) ?_; refine w_call (fun w => R_call Tryz.func58 rfl rfl rfl) rfl rfl (fun w h => exprs_spec n ih hn ks ka kc N w hkl (by omega) (hks.now (fun _ _ hh => hh) (.head _) h) (hW.now (.head _) h)) ?_
      refine w_r (v := .bool _) (fun _ => R_pickT (bV h7) rfl) rfl rfl ?_; refine w_asg (v := .bool _) rfl ?_; refine w_nil ?_; refine k_on ?_; refine c_ret ?_
      refine r_one (v := .bool _) rfl rfl rfl ?_
      exact fun w' hw => ⟨by first | (simp_all [exOk, ruleOk]; done) | (unfold exOk; rw [rule_miss hop]; rfl), hw.fr _ (.head _)⟩
    · refine w_skip rfl rfl (bV h7) ?_; refine w_skip rfl rfl (bV h7) ?_; refine w_skip rfl rfl (bV h7) ?_; refine w_r (v := .bool _) (fun _ => R_pickF (bV h7) rfl) rfl rfl ?_
      refine w_asg (v := .bool _) rfl ?_; refine w_nil ?_; refine k_on ?_; refine c_ret ?_
      refine r_one (v := .bool _) rfl rfl rfl ?_
      exact fun w' hw => ⟨by first | (simp_all [exOk, ruleOk]; done) | (unfold exOk; rw [rule_miss hop]; rfl), hw.fr _ (.head _)⟩
  · refine w_load z5 rfl (fun _ h => cel_own 3 rfl rfl h) ?_; refine w_lookI 0 (v := .func (.func 57) _ _) rfl unm83 unk5 zr26 rfl rfl rfl ?_; refine w_asg rfl ?_
    refine w_nil ?_; refine k_on ?_; refine c_seq ?_; refine c_region ?_; refine w_move rfl ?_; refine w_r (fun _ => R_fne unf26 rfl rfl) rfl rfl ?_; refine w_move (v := .bool _) rfl ?_
    refine w_want rfl rfl rfl ?_; refine w_move rfl ?_; refine w_want rfl rfl rfl ?_; refine w_call (fun w => R_callv rfl Tryz.func57 rfl rfl) rfl rfl (fun w h => expr6_spec w (hW.now (.head _) h) t4b _ (h.at_ 1 rfl) t3b _ (h.at_ 2 rfl)) ?_
    refine w_r (v := .bool _) (fun _ => R_pickT rfl rfl) rfl rfl ?_; refine w_move (v := .bool _) rfl ?_
    refine w_split (t := 36) rfl (fun h8 => ?_) (fun h8 => ?_)
    · refine w_want rfl rfl (bV h8) ?_; refine w_fa fa24_3 rfl ?_; refine w_want rfl rfl (bV h8) ?_; refine w_load z22 rfl (fun _ h => cel_own 3 rfl rfl h) ?_
      refine w_want rfl rfl (bV h8) ?_; refine w_call (fun w => R_call Tryz.func58 rfl rfl rfl) rfl rfl (fun w h => exprs_spec n ih hn ks ka kc N w hkl (by omega) (hks.now (fun _ _ hh => hh) (.head _) h) (hW.now (.head _) h)) ?_
      refine w_r (v := .bool _) (fun _ => R_pickT (bV h8) rfl) rfl rfl ?_; refine w_asg (v := .bool _) rfl ?_; refine w_nil ?_; refine k_on ?_; refine c_ret ?_
      refine r_one (v := .bool _) rfl rfl rfl ?_
      exact fun w' hw => ⟨by first | (simp_all [exOk, ruleOk]; done) | (unfold exOk; rw [rule_miss hop]; rfl), hw.fr _ (.head _)⟩
    · refine w_skip rfl rfl (bV h8) ?_; refine w_skip rfl rfl (bV h8) ?_; refine w_skip rfl rfl (bV h8) ?_; refine w_r (v := .bool _) (fun _ => R_pickF (bV h8) rfl) rfl rfl ?_
      refine w_asg (v := .bool _) rfl ?_; refine w_nil ?_; refine k_on ?_; refine c_ret ?_
      refine r_one (v := .bool _) rfl rfl rfl ?_
      exact fun w' hw => ⟨by first | (simp_all [exOk, ruleOk]; done) | (unfold exOk; rw [rule_miss hop]; rfl), hw.fr _ (.head _)⟩
  · refine w_load z5 rfl (fun _ h => cel_own 3 rfl rfl h) ?_; refine w_lookI 0 (v := .func (.func 52) _ _) rfl unm83 unk5 zr26 rfl rfl rfl ?_; refine w_asg rfl ?_
    refine w_nil ?_; refine k_on ?_; refine c_seq ?_; refine c_region ?_; refine w_move rfl ?_; refine w_r (fun _ => R_fne unf26 rfl rfl) rfl rfl ?_; refine w_move (v := .bool _) rfl ?_
    refine w_want rfl rfl rfl ?_; refine w_move rfl ?_; refine w_want rfl rfl rfl ?_; refine w_call (fun w => R_callv rfl Tryz.func52 rfl rfl) rfl rfl (fun w h => expr1_spec w (hW.now (.head _) h) t4b _ (h.at_ 1 rfl) t3b _ (h.at_ 2 rfl)) ?_
    refine w_r (v := .bool _) (fun _ => R_pickT rfl rfl) rfl rfl ?_; refine w_move (v := .bool _) rfl ?_
    refine w_split (t := 36) rfl (fun h9 => ?_) (fun h9 => ?_)
    · refine w_want rfl rfl (bV h9) ?_; refine w_fa fa24_3 rfl ?_; refine w_want rfl rfl (bV h9) ?_; refine w_load z22 rfl (fun _ h => cel_own 3 rfl rfl h) ?_
      refine w_want rfl rfl (bV h9) ?_; refine w_call (fun w => R_call Tryz.func58 rfl rfl rfl) rfl rfl (fun w h => exprs_spec n ih hn ks ka kc N w hkl (by omega) (hks.now (fun _ _ hh => hh) (.head _) h) (hW.now (.head _) h)) ?_
      refine w_r (v := .bool _) (fun _ => R_pickT (bV h9) rfl) rfl rfl ?_; refine w_asg (v := .bool _) rfl ?_; refine w_nil ?_; refine k_on ?_; refine c_ret ?_
      refine r_one (v := .bool _) rfl rfl rfl ?_
      exact fun w' hw => ⟨by first | (simp_all [exOk, ruleOk]; done) | (unfold exOk; rw [rule_miss hop]; rfl), hw.fr _ (.head _)⟩
    · refine w_skip rfl rfl (bV h9) ?_; refine w_skip rfl rfl (bV h9) ?_; refine w_skip rfl rfl (bV h9) ?_; refine w_r (v := .bool _) (fun _ => R_pickF (bV h9) rfl) rfl rfl ?_
      refine w_asg (v := .bool _) rfl ?_; refine w_nil ?_; refine k_on ?_; refine c_ret ?_
      refine r_one (v := .bool _) rfl rfl rfl ?_
      exact fun w' hw => ⟨by first | (simp_all [exOk, ruleOk]; done) | (unfold exOk; rw [rule_miss hop]; rfl), hw.fr _ (.head _)⟩
  · refine w_load z5 rfl (fun _ h => cel_own 3 rfl rfl h) ?_; refine w_lookI 0 (v := .func (.func 52) _ _) rfl unm83 unk5 zr26 rfl rfl rfl ?_; refine w_asg rfl ?_
    refine w_nil ?_; refine k_on ?_; refine c_seq ?_; refine c_region ?_; refine w_move rfl ?_; refine w_r (fun _ => R_fne unf26 rfl rfl) rfl rfl ?_; refine w_move (v := .bool _) rfl ?_
    refine w_want rfl rfl rfl ?_; refine w_move rfl ?_; refine w_want rfl rfl rfl ?_; refine w_call (fun w => R_callv rfl Tryz.func52 rfl rfl) rfl rfl (fun w h => expr1_spec w (hW.now (.head _) h) t4b _ (h.at_ 1 rfl) t3b _ (h.at_ 2 rfl)) ?_
    refine w_r (v := .bool _) (fun _ => R_pickT rfl rfl) rfl rfl ?_; refine w_move (v := .bool _) rfl ?_
    refine w_split (t := 36) rfl (fun h10 => ?_) (fun h10 => ?_)
    · refine w_want rfl rfl (bV h10) ?_; refine w_fa fa24_3 rfl ?_; refine w_want rfl rfl (bV h10) ?_; refine w_load z22 rfl (fun _ h => cel_own 3 rfl rfl h) ?_
      refine w_want rfl rfl (bV h10) ?_; refine w_call (fun w => R_call Tryz.func58 rfl rfl rfl) rfl rfl (fun w h => exprs_spec n ih hn ks ka kc N w hkl (by omega) (hks.now (fun _ _ hh => hh) (.head _) h) (hW.now (.head _) h)) ?_
      refine w_r (v := .bool _) (fun _ => R_pickT (bV h10) rfl) rfl rfl ?_; refine w_asg (v := .bool _) rfl ?_; refine w_nil ?_; refine k_on ?_; refine c_ret ?_
      refine r_one (v := .bool _) rfl rfl rfl ?_
      exact fun w' hw => ⟨by first | (simp_all [exOk, ruleOk]; done) | (unfold exOk; rw [rule_miss hop]; rfl), hw.fr _ (.head _)⟩
    · refine w_skip rfl rfl (bV h10) ?_; refine w_skip rfl rfl (bV h10) ?_; refine w_skip rfl rfl (bV h10) ?_; refine w_r (v := .bool _) (fun _ => R_pickF (bV h10) rfl) rfl rfl ?_
      refine w_asg (v := .bool _) rfl ?_; refine w_nil ?_; refine k_on ?_; refine c_ret ?_
      refine r_one (v := .bool _) rfl rfl rfl ?_
      exact fun w' hw => ⟨by first | (simp_all [exOk, ruleOk]; done) | (unfold exOk; rw [rule_miss hop]; rfl), hw.fr _ (.head _)⟩
  · refine w_load z5 rfl (fun _ h => cel_own 3 rfl rfl h) ?_; refine w_lookI 0 (v := .func (.func 52) _ _) rfl unm83 unk5 zr26 rfl rfl rfl ?_; refine w_asg rfl ?_
    refine w_nil ?_; refine k_on ?_; refine c_seq ?_; refine c_region ?_; refine w_move rfl ?_; refine w_r (fun _ => R_fne unf26 rfl rfl) rfl rfl ?_; refine w_move (v := .bool _) rfl ?_
    refine w_want rfl rfl rfl ?_; refine w_move rfl ?_; refine w_want rfl rfl rfl ?_; refine w_call (fun w => R_callv rfl Tryz.func52 rfl rfl) rfl rfl (fun w h => expr1_spec w (hW.now (.head _) h) t4b _ (h.at_ 1 rfl) t3b _ (h.at_ 2 rfl)) ?_
    refine w_r (v := .bool _) (fun _ => R_pickT rfl rfl) rfl rfl ?_; refine w_move (v := .bool _) rfl ?_
    refine w_split (t := 36) rfl (fun h11 => ?_) (fun h11 => ?_)
    · refine w_want rfl rfl (bV h11) ?_; refine w_fa fa24_3 rfl ?_; refine w_want rfl rfl (bV h11) ?_; refine w_load z22 rfl (fun _ h => cel_own 3 rfl rfl h) ?_
      refine w_want rfl rfl (bV h11) ?_; refine w_call (fun w => R_call Tryz.func58 rfl rfl rfl) rfl rfl (fun w h => exprs_spec n ih hn ks ka kc N w hkl (by omega) (hks.now (fun _ _ hh => hh) (.head _) h) (hW.now (.head _) h)) ?_
      refine w_r (v := .bool _) (fun _ => R_pickT (bV h11) rfl) rfl rfl ?_; refine w_asg (v := .bool _) rfl ?_; refine w_nil ?_; refine k_on ?_; refine c_ret ?_
      refine r_one (v := .bool _) rfl rfl rfl ?_
      exact fun w' hw => ⟨by first | (simp_all [exOk, ruleOk]; done) | (unfold exOk; rw [rule_miss hop]; rfl), hw.fr _ (.head _)⟩
    · refine w_skip rfl rfl (bV h11) ?_; refine w_skip rfl rfl (bV h11) ?_; refine w_skip rfl rfl (bV h11) ?_; refine w_r (v := .bool _) (fun _ => R_pickF (bV h11) rfl) rfl rfl ?_
      refine w_asg (v := .bool _) rfl ?_; refine w_nil ?_; refine k_on ?_; refine c_ret ?_
      refine r_one (v := .bool _) rfl rfl rfl ?_
      exact fun w' hw => ⟨by first | (simp_all [exOk, ruleOk]; done) | (unfold exOk; rw [rule_miss hop]; rfl), hw.fr _ (.head _)⟩
  · refine w_load z5 rfl (fun _ h => cel_own 3 rfl rfl h) ?_; refine w_lookI 0 (v := .func (.func 52) _ _) rfl unm83 unk5 zr26 rfl rfl rfl ?_; refine w_asg rfl ?_
    refine w_nil ?_; refine k_on ?_; refine c_seq ?_; refine c_region ?_; refine w_move rfl ?_; refine w_r (fun _ => R_fne unf26 rfl rfl) rfl rfl ?_; refine w_move (v := .bool _) rfl ?_
    refine w_want rfl rfl rfl ?_; refine w_move rfl ?_; refine w_want rfl rfl rfl ?_; refine w_call (fun w => R_callv rfl Tryz.func52 rfl rfl) rfl rfl (fun w h => expr1_spec w (hW.now (.head _) h) t4b _ (h.at_ 1 rfl) t3b _ (h.at_ 2 rfl)) ?_
    refine w_r (v := .bool _) (fun _ => R_pickT rfl rfl) rfl rfl ?_; refine w_move (v := .bool _) rfl ?_
    refine w_split (t := 36) rfl (fun h12 => ?_) (fun h12 => ?_)
    · refine w_want rfl rfl (bV h12) ?_; refine w_fa fa24_3 rfl ?_; refine w_want rfl rfl (bV h12) ?_; refine w_load z22 rfl (fun _ h => cel_own 3 rfl rfl h) ?_
      refine w_want rfl rfl (bV h12) ?_; refine w_call (fun w => R_call Tryz.func58 rfl rfl rfl) rfl rfl (fun w h => exprs_spec n ih hn ks ka kc N w hkl (by omega) (hks.now (fun _ _ hh => hh) (.head _) h) (hW.now (.head _) h)) ?_
      refine w_r (v := .bool _) (fun _ => R_pickT (bV h12) rfl) rfl rfl ?_; refine w_asg (v := .bool _) rfl ?_; refine w_nil ?_; refine k_on ?_; refine c_ret ?_
      refine r_one (v := .bool _) rfl rfl rfl ?_
      exact fun w' hw => ⟨by first | (simp_all [exOk, ruleOk]; done) | (unfold exOk; rw [rule_miss hop]; rfl), hw.fr _ (.head _)⟩
    · refine w_skip rfl rfl (bV h12) ?_; refine w_skip rfl rfl (bV h12) ?_; refine w_skip rfl rfl (bV h12) ?_; refine w_r (v := .bool _) (fun _ => R_pickF (bV h12) rfl) rfl rfl ?_
      refine w_asg (v := .bool _) rfl ?_; refine w_nil ?_; refine k_on ?_; refine c_ret ?_
      refine r_one (v := .bool _) rfl rfl rfl ?_
      exact fun w' hw => ⟨by first | (simp_all [exOk, ruleOk]; done) | (unfold exOk; rw [rule_miss hop]; rfl), hw.fr _ (.head _)⟩
  · refine w_load z5 rfl (fun _ h => cel_own 3 rfl rfl h) ?_; refine w_lookI 0 (v := .nilFunc) rfl unm83 unk5 zr26 rfl rfl (look_none _ _ _ (by simp; omega)) ?_
    refine w_asg rfl ?_; refine w_nil ?_; refine k_on ?_; refine c_seq ?_; refine c_region ?_; refine w_move rfl ?_; refine w_r (fun _ => R_nne unf26 rfl rfl) rfl rfl ?_
    refine w_move (v := .bool _) rfl ?_; refine w_skip rfl rfl rfl ?_; refine w_skip rfl rfl rfl ?_; refine w_r (v := .bool _) (fun _ => R_pickF rfl rfl) rfl rfl ?_
    refine w_move (v := .bool _) rfl ?_; refine w_skip rfl rfl rfl ?_; refine w_skip rfl rfl rfl ?_; refine w_skip rfl rfl rfl ?_; refine w_r (v := .bool _) (fun _ => R_pickF rfl rfl) rfl rfl ?_
    refine w_asg (v := .bool _) rfl ?_; refine w_nil ?_; refine k_on ?_; refine c_ret ?_
    refine r_one (v := .bool _) rfl rfl rfl ?_
    exact fun w' hw => ⟨by first | (simp_all [exOk, ruleOk]; done) | (unfold exOk; rw [rule_miss hop]; rfl), hw.fr _ (.head _)⟩


theorem expr_all : ∀ n : Nat, n ≤ 10000000 → ExprH n
  | 0, _ => fun _ _ _ _ h _ _ => absurd h (Nat.not_lt_zero _)
  | n + 1, hn => fun x cs N w hx hm hW => expr_step n (expr_all n (by omega)) (by omega) x cs N w hx hm hW
theorem expr_ok (x : Ex) (cs : List Value) (N : Nat → Prop) (w : World) (hx : exW x < 10000000) (hm : exM w N x cs) (hW : Wd w) : Ret Tryz.prog 25 #[.agg cs.toArray] w fun v w' => v = .bool (exOk x) ∧ Ext w w' := expr_all _ (Nat.le_refl _) x cs N w hx hm hW
theorem exprs_ok (l : List Ex) (a : Option Addr) (c : Nat) (N : Nat → Prop) (w : World) (hl : exsW l < 10000000) (hll : l.length ≤ 10000000) (hm : exsM w N l a 0) (hW : Wd w) : Ret Tryz.prog 58 #[.slice a l.length c] w fun v w' => v = .bool (exsOk l) ∧ Ext w w' :=
  exprs_spec _ (expr_all _ (Nat.le_refl _)) (Nat.le_refl _) l a c N w (fun _ hx => Nat.lt_of_le_of_lt (exsW_mem hx) hl) hll hm hW
end Go.Proofs.YtcmcdgkjipnfnaaGreatDoor
end
