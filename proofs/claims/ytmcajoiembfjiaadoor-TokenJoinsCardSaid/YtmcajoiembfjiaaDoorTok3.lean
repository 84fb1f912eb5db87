import Derived.Test.YtmcajoiembfjiaaDoorTok3T
import Derived.Test.YtmcajoiembfjiaaDoorTok2
import Derived.Test.YtmcajoiembfjiaaDoorTokR
namespace Go.Proofs.YtmcajoiembfjiaaDoor
open Go.RowKit Go.Sx
open Go.Tok
def rdPs : Array Go.Tmp := #[18, 19]
def rdAs : Go.Code := (Go.Code.seq (Go.Code.region 7 #[(Go.Oper.mk (some 7) (Go.Op.alloc 35) 0 "token.go:123" #[] none), (Go.Oper.mk none (Go.Op.store 35 (Go.Operand.tmp 7) (Go.Operand.tmp 18)) 0 "token.go:123" #[(Go.Edge.mk 0 Go.Ground.data), (Go.Edge.mk 0 Go.Ground.phase)] none)] false) (Go.Code.region 8 #[(Go.Oper.mk (some 8) (Go.Op.assign (Go.Operand.tmp 19)) 4 "token.go:123" #[] none)] false))
def rdBo : Go.Code := (Go.Code.block 1 (Go.Code.seq (Go.Code.block 2 (Go.Code.seq (Go.Code.region 9 #[(Go.Oper.mk (some 21) (Go.Op.move (Go.Operand.tmp 8)) 4 "token.go:125" #[] none), (Go.Oper.mk (some 22) (Go.Op.unOp Go.UnOp.not 4 (Go.Operand.tmp 21)) 4 "token.go:125" #[(Go.Edge.mk 0 Go.Ground.data)] none), (Go.Oper.mk (some 20) (Go.Op.assign (Go.Operand.tmp 22)) 4 "token.go:125" #[(Go.Edge.mk 1 Go.Ground.data)] none)] false) (Go.Code.cond (Go.Operand.tmp 20) (Go.Code.seq (Go.Code.region 10 #[(Go.Oper.mk (some 23) (Go.Op.fieldAddr 35 (Go.Operand.tmp 7) 2) 0 "token.go:126" #[] none), (Go.Oper.mk (some 24) (Go.Op.load 3 (Go.Operand.tmp 23)) 3 "token.go:126" #[(Go.Edge.mk 0 Go.Ground.data)] none), (Go.Oper.mk (some 25) (Go.Op.build 26 #[(0, (Go.Operand.const (Go.Value.int Go.IntKind.i64 110))), (1, (Go.Operand.tmp 24))]) 26 "token.go:126" #[(Go.Edge.mk 1 Go.Ground.data)] none), (Go.Oper.mk none (Go.Op.store 26 (Go.Operand.tmp 6) (Go.Operand.tmp 25)) 0 "token.go:126" #[(Go.Edge.mk 2 Go.Ground.data), (Go.Edge.mk 0 Go.Ground.phase), (Go.Edge.mk 1 Go.Ground.phase), (Go.Edge.mk 2 Go.Ground.phase)] none)] false) (Go.Code.exit 0)) (Go.Code.seq (Go.Code.region 11 #[(Go.Oper.mk (some 27) (Go.Op.load 23 (Go.Operand.tmp 5)) 23 "token.go:128" #[] none), (Go.Oper.mk (some 28) (Go.Op.call (Go.Call.mk (Go.Callee.builtin Go.Builtin.len) #[(Go.Operand.tmp 27)] #[23])) 3 "token.go:128" #[(Go.Edge.mk 0 Go.Ground.data)] none), (Go.Oper.mk (some 29) (Go.Op.binOp Go.BinOp.eql 3 (Go.Operand.tmp 28) (Go.Operand.const (Go.Value.int Go.IntKind.i64 6000)) 3) 4 "token.go:128" #[(Go.Edge.mk 1 Go.Ground.data)] none), (Go.Oper.mk (some 26) (Go.Op.assign (Go.Operand.tmp 29)) 4 "token.go:128" #[(Go.Edge.mk 2 Go.Ground.data)] none)] false) (Go.Code.cond (Go.Operand.tmp 26) (Go.Code.seq (Go.Code.region 12 #[(Go.Oper.mk (some 30) (Go.Op.fieldAddr 35 (Go.Operand.tmp 7) 2) 0 "token.go:129" #[] none), (Go.Oper.mk (some 31) (Go.Op.load 3 (Go.Operand.tmp 30)) 3 "token.go:129" #[(Go.Edge.mk 0 Go.Ground.data)] none), (Go.Oper.mk (some 32) (Go.Op.build 26 #[(0, (Go.Operand.const (Go.Value.int Go.IntKind.i64 6))), (1, (Go.Operand.tmp 31))]) 26 "token.go:129" #[(Go.Edge.mk 1 Go.Ground.data)] none), (Go.Oper.mk none (Go.Op.store 26 (Go.Operand.tmp 6) (Go.Operand.tmp 32)) 0 "token.go:129" #[(Go.Edge.mk 2 Go.Ground.data), (Go.Edge.mk 0 Go.Ground.phase), (Go.Edge.mk 1 Go.Ground.phase), (Go.Edge.mk 2 Go.Ground.phase)] none)] false) (Go.Code.exit 0)) Go.Code.skip))))) (Go.Code.region 13 #[(Go.Oper.mk (some 33) (Go.Op.load 23 (Go.Operand.tmp 5)) 23 "token.go:132" #[] none), (Go.Oper.mk (some 34) (Go.Op.load 35 (Go.Operand.tmp 7)) 35 "token.go:132" #[] none), (Go.Oper.mk (some 35) (Go.Op.buildSlice 23 1 #[(0, (Go.Operand.tmp 34))]) 23 "token.go:132" #[(Go.Edge.mk 1 Go.Ground.data)] none), (Go.Oper.mk (some 36) (Go.Op.call (Go.Call.mk (Go.Callee.builtin Go.Builtin.append) #[(Go.Operand.tmp 33), (Go.Operand.tmp 35)] #[23, 23])) 23 "token.go:132" #[(Go.Edge.mk 0 Go.Ground.data), (Go.Edge.mk 2 Go.Ground.data)] none), (Go.Oper.mk none (Go.Op.store 23 (Go.Operand.tmp 5) (Go.Operand.tmp 36)) 0 "token.go:132" #[(Go.Edge.mk 3 Go.Ground.data), (Go.Edge.mk 3 Go.Ground.chain), (Go.Edge.mk 0 Go.Ground.phase), (Go.Edge.mk 1 Go.Ground.phase), (Go.Edge.mk 2 Go.Ground.phase), (Go.Edge.mk 3 Go.Ground.phase)] none)] false)))

def tkC (t : Tk) : List Value := [.int .u8 (t.1 : Nat), str t.2.1, .int .i64 (t.2.2 : Nat)]
def tksC (l : List Tk) : List Value := l.flatMap tkC
abbrev Toks (v : Value) (l : List Tk) (W : Heap) : Prop := Own 35 3 v (tksC l) l.length W
theorem Toks.more {v : Value} {l : List Tk} {t : Tk} {W : Heap} (h : Own 35 3 v (tksC l ++ tkC t) (l.length + 1) W) : Toks v (l ++ [t]) W := by
  have e1 : tksC (l ++ [t]) = tksC l ++ tkC t := by simp [tksC]
  have e2 : (l ++ [t]).length = l.length + 1 := by simp
  unfold Toks; rw [e1, e2]; exact h
def rdL (t5b t6b l : Nat) (v : Value) (fc fa : Nat) (ob : Obj) (W : Heap) : Heap := (t5b, cel [v] 23) :: (t6b, cel [.int .i64 (fc : Nat), .int .i64 (fa : Nat)] 26) :: (l, ob) :: W
def rdO (e : Env) (fn : FuncId) (r : Nat) : Bool → Obj
  | true => lpO .ready none fn ⟨43, [], none⟩ e rdPs rdAs rdBo r
  | false => lpO .done (some (.exit 0)) fn ⟨43, [], none⟩ e rdPs rdAs rdBo r
def RdJ (e : Env) (fn : FuncId) (r l t5b t6b : Nat) (g : Bool) (x : Rd) (Lc : Heap) : Prop :=
  ∃ a c W, Toks (.slice a x.1.length c) x.1 W ∧ x.1.length ≤ 6000 ∧ (g = true → x.2 = (0, 0)) ∧ (g = false → x.2.1 ≠ 0) ∧ Lc = rdL t5b t6b l (.slice a x.1.length c) x.2.1 x.2.2 (rdO e fn r g) W
/-- what Read hands back -/
def RdV (r : Rd) (v : Value) (W : Heap) : Prop := ∃ a c, v = .tuple #[.slice a r.1.length c, .agg #[.int .i64 (r.2.1 : Nat), .int .i64 (r.2.2 : Nat)]] ∧ Toks (.slice a r.1.length c) r.1 W

set_option maxRecDepth 100000 in
set_option maxHeartbeats 400000 in
theorem all_spec (p : Nat) (w : World) :
    Ret Tryd.prog 14 #[.pointer (some ⟨p, 0, none⟩)] w (fun v w' => ∃ W, (∃ vb, v = .func (.func 22) #[] #[.pointer (some ⟨vb, 0, none⟩)] ∧ W = [(vb, cel [.pointer (some ⟨p, 0, none⟩)] 40)]) ∧ New w w' W) := by
  refine enter (S := No) (l := [_]) (L := []) 4 Tryd.func14 rfl rfl rfl (St.start w No) ?_
  refine c_seq ?_; refine c_region ?_
  refine w_box rfl (fun vb gvb uvb => ?_)
  refine w_asg rfl ?_; refine w_nil ?_; refine k_on ?_; refine c_seq ?_; refine c_region ?_; refine w_r (fun _ => R_makeFunc) rfl rfl ?_; refine w_asg rfl ?_; refine w_nil ?_
  refine k_on ?_; refine c_ret ?_
  refine r_one rfl rfl rfl ?_
  exact fun w' hw => ⟨_, ⟨vb, rfl, rfl⟩, St.made (A := []) hw⟩

set_option maxRecDepth 100000 in
set_option maxHeartbeats 400000 in
theorem Read_round (e : Env) (fn r l t5b t6b : Nat) (he5 : e 5 = .pointer (some ⟨t5b, 0, none⟩)) (he6 : e 6 = .pointer (some ⟨t6b, 0, none⟩)) : Rounds (RdJ e fn r l t5b t6b) readN l := by
  intro x k t a b Lc Lr B w htx hJ hw
  obtain ⟨a0, c0, W, hO, hx6, hxt, -, rfl⟩ := hJ
  have hx0 := hxt rfl
  refine yield_round 2 (L := rdL t5b t6b l _ _ _ _ _ ++ Lr) hw rfl rfl ?_
  refine c_seq ?_; refine c_region ?_
  refine w_alloc zr35 (fun t7b gt7b ut7b => ?_)
  refine w_store 0 rfl z35 rfl rfl rfl rfl rfl rfl rfl ?_; refine w_nil ?_; refine k_on ?_; refine c_region ?_; refine w_asg (v := .bool _) rfl ?_; refine w_nil ?_
  refine k_begin (l' := 0) 3 rfl ?_; refine c_block ?_; refine c_seq ?_; refine c_block ?_; refine c_seq ?_; refine c_region ?_; refine w_move (v := .bool _) rfl ?_; refine w_r (fun _ => R_not rfl) rfl rfl ?_
  refine w_asg (v := .bool _) rfl ?_; refine w_nil ?_; refine k_on ?_
  refine c_condN rfl (fun h2 => ?_) (fun h2 => ?_)
  · refine c_seq ?_; refine c_region ?_; refine w_fa fa35_2 rfl ?_; refine w_load z3 rfl (fun _ h => cel_own 0 rfl rfl h) ?_; refine w_r (fun _ => R_build bt26 rfl) rfl rfl ?_
    refine w_store 2 rfl z26 he6 rfl rfl rfl rfl rfl rfl ?_; refine w_nil ?_; refine k_on ?_; refine c_exit ?_; refine b_past rfl (k_exit (b_past rfl (?_)))
    refine k_roundX 3 rfl ?_
    subst h2
    exact fun w h => ⟨_, rfl, rdL t5b t6b l (.slice a0 x.1.length c0) 110 a (rdO e fn r false) W, rfl, ⟨a0, c0, W, hO, hx6, (fun h => by cases h), fun _ => by simp [readN], rfl⟩, h.drop (List.sublist_cons_self _ _)⟩
  · refine c_seq ?_; refine c_region ?_; refine w_load z23 he5 (fun _ h => cel_own 1 rfl rfl h) ?_; refine w_r (fun _ => R_len sl23 rfl) rfl rfl ?_; refine w_r (fun _ => R_eq rfl rfl) rfl rfl ?_
    refine w_asg (v := .bool _) rfl ?_; refine w_nil ?_; refine k_on ?_
    refine c_condD rfl (fun h3 => ?_) (fun h3 => ?_)
    · refine c_seq ?_; refine c_region ?_; refine w_fa fa35_2 rfl ?_; refine w_load z3 rfl (fun _ h => cel_own 0 rfl rfl h) ?_; refine w_r (fun _ => R_build bt26 rfl) rfl rfl ?_
      refine w_store 2 rfl z26 he6 rfl rfl rfl rfl rfl rfl ?_; refine w_nil ?_; refine k_on ?_; refine c_exit ?_; refine b_past rfl (k_exit (b_past rfl (?_)))
      refine k_roundX 3 rfl ?_
      subst h2
      have hN : readN x k t a true = ((x.1, 6, a), false) := by rw [readN, if_neg (by decide), if_pos (by omega)]
      exact fun w h => ⟨_, rfl, rdL t5b t6b l (.slice a0 x.1.length c0) 6 a (rdO e fn r false) W, by rw [hN], by rw [hN]; exact ⟨a0, c0, W, hO, hx6, (fun h => by cases h), fun _ => by simp [readN], rfl⟩, h.drop (List.sublist_cons_self _ _)⟩
    · refine c_skip ?_; refine b_on (k_on ?_); refine c_region ?_; refine w_load z23 he5 (fun _ h => cel_own 1 rfl rfl h) ?_; refine w_loadA z35 rfl (fun _ h => h.at_ 0 rfl) rfl ?_
      refine w_bslice slt23 (by decide) rfl rfl (fun bs gbs ubs => ?_)
      refine w_app [(bs, _), (t7b, _), (t5b, _), (t6b, _), (l, _)] (news := tkC (k, t, a)) slt23 (by decide) rfl hO rfl rfl (row_own 0 rfl (fun _ _ h => h)) rfl (by decide) (by omega) (by omega) (fun v2 W2 hO2 => ?_)
      obtain ⟨a2, c2, rfl⟩ := hO2.slice
      refine w_store 2 rfl z23 he5 rfl rfl rfl rfl rfl rfl ?_; refine w_nil ?_; refine b_on (?_)
      refine k_round 4 rfl ?_
      subst h2
      have hN : readN x k t a true = ((x.1 ++ [(k, t, a)], x.2), true) := by rw [readN, if_neg (by decide), if_neg (by omega)]
      exact fun w h => ⟨_, rfl, rdL t5b t6b l (.slice a2 (x.1.length + 1) c2) x.2.1 x.2.2 (rdO e fn r true) W2, by rw [hN], by rw [hN]; exact ⟨a2, c2, W2, by simpa using Toks.more hO2, by simp; omega, fun _ => hx0, (fun h => by cases h), by simp⟩, h.drop (.cons _ (.cons _ (List.Sublist.refl _)))⟩

set_option maxRecDepth 100000 in
set_option maxHeartbeats 400000 in
theorem Read_spec (s : List UInt8) (hs : s.length ≤ 100000) (w : World) (ht : Tb w) (hgs : 1 < w.heap.size) :
    Ret Tryd.prog 9 #[str s] w (fun v w' => ∃ W, RdV (readP s) v W ∧ New w w' W) := by
  refine enterM (S := No) (l := [_]) (L := []) 43 Tryd.func9 rfl rfl rfl (St.start w No) ?_
  refine c_seq ?_; refine c_region ?_; refine w_asg (v := .slice _ _ _) rfl ?_
  refine w_alloc zr26 (fun t3b gt3b ut3b => ?_)
  refine w_nil ?_; refine k_on ?_; refine c_scope ?_; refine c_seq ?_; refine c_seq ?_; refine c_region ?_; refine w_move (v := str _) rfl ?_; refine w_r (fun _ => R_slen st9 rfl (by omega)) rfl rfl ?_
  refine w_r (fun _ => R_gt rfl rfl) rfl rfl ?_; refine w_nil ?_; refine k_on ?_
  refine c_condD rfl (fun h2 => ?_) (fun h2 => ?_)
  · refine c_seq ?_; refine c_region ?_; refine w_r (fun _ => R_build bt26 rfl) rfl rfl ?_; refine w_asg (v := .slice _ _ _) rfl ?_; refine w_store 0 rfl z26 rfl rfl rfl rfl rfl rfl rfl ?_
    refine w_nil ?_; refine k_on ?_; refine c_ret ?_; refine k_ret (g_ret (?_))
    refine r_finM (.inl rfl) rfl (.tmp rfl rfl (.agg rfl rfl z26 (fun _ h => h.at_ 0 rfl) rfl .nil)) ?_
    exact fun w' hw => ⟨[], by rw [readP_long (by omega)]; exact ⟨none, 0, rfl, Own.nil _ _⟩, .none (hw.fr _ (.head _))⟩
  · refine c_skip ?_; refine k_on ?_; refine c_seq ?_; refine c_region ?_; refine w_move (v := str _) rfl ?_; refine w_r (fun _ => R_build bt42 rfl) rfl rfl ?_
    refine w_box rfl (fun p gp up => ?_)
    refine w_asg (v := .pointer _) rfl ?_; refine w_nil ?_; refine k_on ?_; refine c_seq ?_; refine c_region ?_
    refine w_alloc zr23 (fun t5b gt5b ut5b => ?_)
    refine w_nil ?_; refine k_on ?_; refine c_seq ?_; refine c_region ?_
    refine w_alloc zr26 (fun t6b gt6b ut6b => ?_)
    refine w_nil ?_; refine k_on ?_; refine c_seq ?_; refine c_label ?_; refine k_on ?_; refine c_seq ?_; refine c_seq ?_; refine c_region ?_; refine w_move (v := .pointer _) rfl ?_
    refine w_callW (fun w => R_call Tryd.func14 rfl rfl rfl) rfl rfl (fun w _ => all_spec p w) ?_
    rintro u W0 ⟨vb, rfl, rfl⟩
    refine w_nil ?_; refine k_on ?_; refine c_block ?_
    refine c_gen fun e he => ?_
    have he3 : e 3 = .pointer (some ⟨t3b, 0, none⟩) := congrFun he 3
    have he5 : e 5 = .pointer (some ⟨t5b, 0, none⟩) := congrFun he 5
    have he6 : e 6 = .pointer (some ⟨t6b, 0, none⟩) := congrFun he 6
    have he17 : e 17 = .func (.func 22) #[] #[.pointer (some ⟨vb, 0, none⟩)] := congrFun he 17
    refine c_range (f := 22) (fi := []) (ca := [.pointer (some ⟨vb, 0, none⟩)]) he17 rfl rfl rfl (fun r l fn w' => ∃ (g : Bool) (j : Nat) (Lc' : Heap), RdJ e fn r l t5b t6b g (readS s) Lc' ∧ St [(w, No)] ((vb, cel [.pointer (some ⟨p, 0, none⟩)] 40) :: (p, cel [str s, .int .i64 (j : Nat)] 42) :: (Lc' ++ [(r, .deferred (some [])), (t3b, cel [.int .i64 0, .int .i64 0] 26)])) w') ?_ ?_
    · intro fn r l hr1 hr2 hl w1 hw1
      refine (all1_spec (RdJ e fn r l t5b t6b) readN readN_no l p vb s (by omega) (Read_round e fn r l t5b t6b he5 he6) w No ht (fun h => h) (Nat.le_trans hgs (up (w, No) (.head _))) ([], 0, 0) (rdL t5b t6b l (.slice none 0 0) 0 0 (rdO e fn r true) []) [(r, .deferred (some [])), (t3b, cel [.int .i64 0, .int .i64 0] 26)] [(w, No)] (.head _) ⟨none, 0, [], Own.nil _ _, Nat.zero_le _, fun _ => rfl, (fun h => by cases h), rfl⟩ w1 (hw1.pick [2, 5, 4, 3, 0, 1, 6] (by decide))).mono ?_
      rintro v w2 ⟨rfl, j, g, Lc', hJ, hs⟩
      exact ⟨g, j, Lc', hJ, hs⟩
    · rintro fn r l hr1 hr2 hl w1 ⟨g, j, Lc', ⟨a0, c0, W, hO, h6, hg1, hg0, rfl⟩, hs⟩
      have hs2 := St.pickT [(vb, cel [.pointer (some ⟨p, 0, none⟩)] 40), (p, cel [str s, .int .i64 (j : Nat)] 42), (t5b, cel [.slice a0 (readS s).1.length c0] 23), (t6b, cel [.int .i64 ((readS s).2.1 : Nat), .int .i64 ((readS s).2.2 : Nat)] 26), (l, rdO e fn r g), (r, .deferred (some [])), (t3b, cel [.int .i64 0, .int .i64 0] 26)] (hs.perm (.cons _ (.cons _ (.cons _ (.cons _ (.cons _ List.perm_append_comm)))))) [4, 2, 3, 5, 6] (by decide)
      cases g
      · have hz : (readS s).2.1 ≠ 0 := hg0 rfl
        refine ⟨_, _, .done, some (.exit 0), (fun h => by cases h), hs2, ?_⟩
        refine c_exit ?_; refine b_here rfl (k_on ?_); refine c_seq ?_; refine c_seq ?_; refine c_region ?_; refine w_fa fa26_0 he6 ?_; refine w_load z24 rfl (fun _ h => cel_own 2 rfl rfl h) ?_
        refine w_r (fun _ => R_ne rfl rfl) rfl rfl ?_; refine w_nil ?_; refine k_on ?_
        refine c_condD rfl (fun h6 => ?_) (fun h6 => ?_)
        · refine c_seq ?_; refine c_tail 2 mixed (by kernel_rfl) ?_; refine w_loadA z26 he6 (fun _ h => h.at_ 2 rfl) rfl ?_; refine w_asg (v := .slice _ _ _) rfl ?_; refine w_tailst 4 rfl z26 he3 rfl rfl rfl rfl rfl rfl ?_
          refine k_on ?_; refine c_ret ?_; refine k_ret (g_ret (?_))
          refine r_finM1 3 rfl (.inl rfl) rfl (.tmp rfl rfl (.agg rfl he3 z26 (fun _ h => h.at_ 4 rfl) rfl .nil)) ?_
          exact fun w' hw => ⟨[], by rw [readP_bad (by omega) hz]; exact ⟨none, 0, rfl, Own.nil _ _⟩, .none (hw.fr _ (.head _))⟩
        · exfalso; omega
      · have hz : (readS s).2.1 = 0 := by rw [hg1 rfl]
        refine ⟨_, _, .ready, none, (fun h => by cases h), hs2, ?_⟩
        refine b_on (k_on ?_); refine c_seq ?_; refine c_seq ?_; refine c_region ?_; refine w_fa fa26_0 he6 ?_; refine w_load z24 rfl (fun _ h => cel_own 2 rfl rfl h) ?_
        refine w_r (fun _ => R_ne rfl rfl) rfl rfl ?_; refine w_nil ?_; refine k_on ?_
        refine c_condD rfl (fun h7 => ?_) (fun h7 => ?_)
        · exfalso; omega
        · refine c_skip ?_; refine k_on ?_; refine c_seq ?_; refine c_region ?_; refine w_load z23 he5 (fun _ h => cel_own 1 rfl rfl h) ?_; refine w_r (fun _ => R_build bt26 rfl) rfl rfl ?_
          refine w_asg (v := .slice _ _ _) rfl ?_; refine w_store 4 rfl z26 he3 rfl rfl rfl rfl rfl rfl ?_; refine w_nil ?_; refine k_on ?_; refine c_ret ?_; refine g_ret (?_)
          refine r_finM1 3 rfl (.inl rfl) rfl (.tmp rfl rfl (.agg rfl he3 z26 (fun _ h => h.at_ 4 rfl) rfl .nil)) ?_
          exact fun w' hw => ⟨W, by rw [readP_fine (by omega) hz]; exact ⟨a0, c0, rfl, hO⟩, St.made (A := []) (hw.drop (.cons _ (.cons _ (.cons _ (.cons _ (.cons _ (List.Sublist.refl _)))))))⟩
end Go.Proofs.YtmcajoiembfjiaaDoor
