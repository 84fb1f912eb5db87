/- Layer 13, ParseReads. Part 14 of 16. -/
import Derived.Test.YtaniogadknakoaaGreatDoorR13
set_option maxRecDepth 100000
set_option maxHeartbeats 16000000
section
namespace Go.Proofs.YtaniogadknakoaaGreatDoor
open Go.RowKit Go.Sx
open Go.Tok Go.Tree Go.Prs
abbrev kl (T : List Tk) : R3 → Prop := fun s => s.k ≤ T.length
def exsV7 (W : World) (N : Nat → Prop) (l : List Ex) (b : Option Addr × Nat) : Prop := l.length ≤ 1000000 ∧ exsV W N l b
theorem TL.exs7 : TL exsV7 := ⟨fun h hf hn => ⟨h.1, TL.exs.fr h.2 hf hn⟩, fun h hn => ⟨h.1, TL.exs.mono h.2 hn⟩⟩
theorem bind_id {α : Type} {X : Option α} {g : α} (h : X = some g) : X.bind some = some g := by rw [h]; rfl
theorem levL_x {T : List Tk} {z lev q a b : Nat} {x y : Str} {e : Ex} {s : R3} {p : Ex × R3} (hL : ∀ s, opL T z lev s = opR T z s x y a b) (h : rLevL T z (q + 1) lev e s = some p) (hb : badR s = false) (hx : isR T s x = true) (ha : a ≠ 0) : (rLev T z q (lev + 1) (wantR T z s x)).bind (fun p => rLevL T z q lev (pair a e p.1) p.2) = some p := by
  rw [rLevL_eq, if_neg (nf hb), hL, opR, if_pos hx] at h
  exact (if_neg ha).symm.trans h
theorem levL_y {T : List Tk} {z lev q a b : Nat} {x y : Str} {e : Ex} {s : R3} {p : Ex × R3} (hL : ∀ s, opL T z lev s = opR T z s x y a b) (h : rLevL T z (q + 1) lev e s = some p) (hb : badR s = false) (hx : isR T s x = false) (hy : isR T s y = true) (ha : b ≠ 0) : (rLev T z q (lev + 1) (wantR T z s y)).bind (fun p => rLevL T z q lev (pair b e p.1) p.2) = some p := by
  rw [rLevL_eq, if_neg (nf hb), hL, opR, if_neg (nf hx), if_pos hy] at h
  exact (if_neg ha).symm.trans h
theorem levL_no {T : List Tk} {z lev q a b : Nat} {x y : Str} {e : Ex} {s : R3} {p : Ex × R3} (hL : ∀ s, opL T z lev s = opR T z s x y a b) (h : rLevL T z (q + 1) lev e s = some p) (hb : badR s = false) (hx : isR T s x = false) (hy : isR T s y = false) : some (e, s) = some p := by
  rw [rLevL_eq, if_neg (nf hb), hL, opR, if_neg (nf hx), if_neg (nf hy)] at h
  exact h
theorem levL_b {T : List Tk} {z lev q : Nat} {e : Ex} {s : R3} {p : Ex × R3} (h : rLevL T z (q + 1) lev e s = some p) (hb : badR s = true) : some (e, s) = some p := by
  rw [rLevL_eq, if_pos hb] at h
  exact h
def LevH (T : List Tk) (z : Nat) (sv : Value) (n : Nat) : Prop := ∀ (lev : Nat) (s : R3) (rb : Nat) (w : World) (a : _) (s1 : R3), Pe w rb T z sv → w.heap[rb]? = some (Rr sv z s) → s.k ≤ T.length → n ≤ 1000000 → 1 ≤ lev → lev ≤ 3 → rLev T z n lev s = some (a, s1) →
    Ret Tryz.prog 72 #[.pointer (some ⟨rb, 0, none⟩), .int .i64 (lev : Nat)] w (QT (Rr sv z) (kl T) rb (fun e b => .agg (exE e b).toArray) exT a s1 w)
def SumHr (T : List Tk) (z : Nat) (sv : Value) (n : Nat) : Prop := ∀ (s : R3) (rb : Nat) (w : World) (a : _) (s1 : R3), Pe w rb T z sv → w.heap[rb]? = some (Rr sv z s) → s.k ≤ T.length → n ≤ 1000000 → rSum T z n s = some (a, s1) →
    Ret Tryz.prog 35 #[.pointer (some ⟨rb, 0, none⟩)] w (QT (Rr sv z) (kl T) rb (fun e b => .agg (exE e b).toArray) exT a s1 w)
def SignHr (T : List Tk) (z : Nat) (sv : Value) (n : Nat) : Prop := ∀ (s : R3) (rb : Nat) (w : World) (a : _) (s1 : R3), Pe w rb T z sv → w.heap[rb]? = some (Rr sv z s) → s.k ≤ T.length → n ≤ 1000000 → rSign T z n s = some (a, s1) →
    Ret Tryz.prog 115 #[.pointer (some ⟨rb, 0, none⟩)] w (QT (Rr sv z) (kl T) rb (fun e b => .agg (exE e b).toArray) exT a s1 w)
def SumsHr (T : List Tk) (z : Nat) (sv : Value) (n : Nat) : Prop := ∀ (s : R3) (rb : Nat) (w : World) (a : _) (s1 : R3), Pe w rb T z sv → w.heap[rb]? = some (Rr sv z s) → s.k ≤ T.length → n ≤ 1000000 → rSums T z n s = some (a, s1) →
    Ret Tryz.prog 67 #[.pointer (some ⟨rb, 0, none⟩)] w (QT (Rr sv z) (kl T) rb (fun (l : List Ex) (b : Ad) => .slice b.1 l.length b.2) exsV7 a s1 w)

theorem sum_r (T : List Tk) (z : Nat) (sv : Value) (u : Nat) (ih : LevH T z sv u) (s : R3) (rb : Nat) (w : World) (a9 : Ex) (s9 : R3) (hP : Pe w rb T z sv) (hb : w.heap[rb]? = some (Rr sv z s)) (hk : s.k ≤ T.length) (hu : u + 1 ≤ 1000000) (h0 : rSum T z (u + 1) s = some (a9, s9)) :
    Ret Tryz.prog 35 #[.pointer (some ⟨rb, 0, none⟩)] w (QT (Rr sv z) (kl T) rb (fun e b => .agg (exE e b).toArray) exT a9 s9 w) := by
  have hlen := hP.len
  have hG := bind_id (rSum_eq.symm.trans h0)
  refine enter (S := (fun j => j = rb)) (l := [_]) (L := [(rb, Rr sv z s)]) 5 Tryz.func35 rfl rfl rfl (St.start1 w hb rfl) (yA (zA zr39 (fun t2b gt2b ut2b => yC (mP rfl (w_rt (rb := rb) (ob := Rr sv z) (ok := kl T) (V := (fun e b => .agg (exE e b).toArray)) 1 rfl zm0 TL.ext hG (fun w => zR Tryz.func72 rfl rfl rfl) rfl rfl (fun a s9 hX w h => ih 1 s rb w a s9 (hP.now zm0 h) (h.at_ 1 rfl) hk (by omega) (by decide) (by decide) hX) (fun e2 s2 b2 w2 hX2 hG2 hk2 hK2 => ?_))))))
  try dsimp only at hG2
  refine zV 0 rfl z39 rfl rfl rfl rfl rfl rfl rfl (yB (ze ?_))
  obtain ⟨rfl, rfl⟩ := injP hG2
  refine r_fin (.inl rfl) rfl (.agg rfl rfl z39 (fun _ h => h.at_ 0 rfl) rfl .nil) ?_; exact fun w' hw => ⟨b2, rfl, hk2, (hK2.fin TL.ext zm0 hw), hw.fr _ zm1, hw.at_ 1 rfl⟩

theorem level_r (T : List Tk) (z : Nat) (sv : Value) (u : Nat) (lev : Nat) (ih : ∀ q, q ≤ u → LevH T z sv q) (ihS : SignHr T z sv u) (hl1 : 1 ≤ lev) (hl3 : lev ≤ 3) (s : R3) (rb : Nat) (w : World) (a9 : Ex) (s9 : R3) (hP : Pe w rb T z sv) (hb : w.heap[rb]? = some (Rr sv z s)) (hk : s.k ≤ T.length) (hu : u + 1 ≤ 1000000) (h0 : rLev T z (u + 1) lev s = some (a9, s9)) :
    Ret Tryz.prog 72 #[.pointer (some ⟨rb, 0, none⟩), .int .i64 (lev : Nat)] w (QT (Rr sv z) (kl T) rb (fun e b => .agg (exE e b).toArray) exT a9 s9 w) := by
  have hlen := hP.len
  have hG := rLev_eq.symm.trans h0
  refine enter (S := (fun j => j = rb)) (l := [_, _]) (L := [(rb, Rr sv z s)]) 60 Tryz.func72 rfl rfl rfl (St.start1 w hb rfl) (yA (zA zr39 (fun t4b gt4b ut4b => yB (zq (yA (mI rfl (zg (fun _ => R_eq rfl rfl) (yB ?_)))))))); refine zD rfl (fun h2 => ?_) (fun h2 => ?_)
  · have hG3 := bind_id ((if_pos (by omega)).symm.trans hG)
    try dsimp only at hG3
    refine yA (mP rfl (w_rt (rb := rb) (ob := Rr sv z) (ok := kl T) (V := (fun e b => .agg (exE e b).toArray)) 1 rfl zm0 TL.ext hG3 (fun w => zR Tryz.func115 rfl rfl rfl) rfl rfl (fun a s9 hX w h => ihS s rb w a s9 (hP.now zm0 h) (h.at_ 1 rfl) hk (by omega) hX) (fun e4 s4 b4 w4 hX4 hG4 hk4 hK4 => ?_)))
    try dsimp only at hG4
    refine zV 0 rfl z39 rfl rfl rfl rfl rfl rfl rfl (yB (ze (zt (?_))))
    obtain ⟨rfl, rfl⟩ := injP hG4
    refine r_fin (.inl rfl) rfl (.agg rfl rfl z39 (fun _ h => h.at_ 0 rfl) rfl .nil) ?_; exact fun w' hw => ⟨b4, rfl, hk4, (hK4.fin TL.ext zm0 hw), hw.fr _ zm1, hw.at_ 1 rfl⟩
  · have hG5 := (if_neg (by omega)).symm.trans hG
    try dsimp only at hG5
    refine zi (zk (yA (zS slt56 (by decide) rfl rfl (fun b6 gb6 ub6 => zS slt55 (by decide) rfl rfl (fun b7 gb7 ub7 => za (v := .slice _ _ _) rfl (za (v := .slice _ _ _) rfl (yB ?_))))))); refine c_cut (fun e B L => ∃ (sgb opb : Nat) (x y : Str) (a b : Nat), e 0 = .pointer (some ⟨rb, 0, none⟩) ∧ e 1 = .int .i64 (lev : Nat) ∧ e 4 = .pointer (some ⟨t4b, 0, none⟩) ∧ e 5 = .slice (some ⟨sgb, 0, none⟩) 2 2 ∧ e 6 = .slice (some ⟨opb, 0, none⟩) 2 2 ∧ B = [(w, (fun j => j = rb))] ∧ L = [(opb, cel [.int .u8 (a : Nat), .int .u8 (b : Nat)] 5), (sgb, cel [str x, str y] 9), (t4b, cel [.int .u8 0, .int .i64 0, str [], .slice none 0 0] 39), (rb, Rr sv z s)] ∧ (∀ s, opL T z lev s = opR T z s x y a b) ∧ a ≠ 0 ∧ b ≠ 0 ∧ a ≠ 2 ∧ a ≠ 3 ∧ b ≠ 2 ∧ b ≠ 3 ∧ a < 256 ∧ b < 256) ?_ ?_
    · refine yA (mI rfl (zg (fun _ => R_eq rfl rfl) (yB ?_))); refine zD rfl (fun h8 => ?_) (fun h8 => ?_)
      · refine zr (zS slt56 (by decide) rfl rfl (fun b9 gb9 ub9 => zS slt55 (by decide) rfl rfl (fun b10 gb10 ub10 => za (v := .slice _ _ _) rfl (za (v := .slice _ _ _) rfl (zn (zK (fun w' h => h.pick [0, 1, 4, 5] (by decide)) ?_)))))); exact k_mid ⟨b9, b10, [42], [47], 8, 9, rfl, rfl, rfl, rfl, rfl, rfl, rfl, (fun s => if_pos (by omega)), (by decide)⟩
      · refine zi (zK (fun w' h => h.pick [0, 1, 2, 3] (by decide)) ?_); exact k_mid ⟨b6, b7, [43], [45], 6, 7, rfl, rfl, rfl, rfl, rfl, rfl, rfl, (fun s => if_neg (by omega)), (by decide)⟩
    rintro e B L ⟨sgb, opb, x, y, a, b, e0_1, e1_1, e4_1, e5_1, e6_1, rfl, rfl, hL, hxy⟩
    refine yA (mP e0_1 (mI e1_1 (zg (fun _ => R_addi rfl rfl (by omega)) (w_rt (rb := rb) (ob := Rr sv z) (ok := kl T) (V := (fun e b => .agg (exE e b).toArray)) 3 rfl zm0 TL.ext hG5 (fun w => zR Tryz.func72 rfl rfl rfl) rfl rfl (fun a s9 hX w h => ih u (by omega) (lev + 1) s rb w a s9 (hP.now zm0 h) (h.at_ 3 rfl) hk (by omega) (by omega) (by omega) hX) (fun e11 s11 b11 w11 hX11 hG11 hk11 hK11 => ?_)))))
    try dsimp only at hG11
    refine zA zr39 (fun t7b gt7b ut7b => zV 0 rfl z39 rfl rfl rfl rfl rfl rfl rfl (yB (zq (zB (c_loop (fun m e B L => ∃ (q : Nat) (e1 : Ex) (s1 : R3) (b1 : Ad) (xb : Bw), e 0 = .pointer (some ⟨rb, 0, none⟩) ∧ e 1 = .int .i64 (lev : Nat) ∧ e 4 = .pointer (some ⟨t4b, 0, none⟩) ∧ e 5 = .slice (some ⟨sgb, 0, none⟩) 2 2 ∧ e 6 = .slice (some ⟨opb, 0, none⟩) 2 2 ∧ e 7 = .pointer (some ⟨t7b, 0, none⟩) ∧ B = [xb, (w, fun j => j = rb)] ∧ L = [(t7b, cel (exE e1 b1) 39), (opb, cel [.int .u8 (a : Nat), .int .u8 (b : Nat)] 5), (sgb, cel [str x, str y] 9), (t4b, cel [.int .u8 0, .int .i64 0, str [], .slice none 0 0] 39), (rb, Rr sv z s1)] ∧ q ≤ u ∧ rLevL T z q lev e1 s1 = some (a9, s9) ∧ Kt xb w.heap.size exT e1 b1 ∧ s1.k ≤ T.length ∧ m = q + 1) _ ⟨u, e11, s11, b11, _, e0_1, e1_1, e4_1, e5_1, e6_1, rfl, rfl, rfl, Nat.le_refl _, hG11, hK11, hk11, rfl⟩ ?_)))))
    rintro m e B L ⟨q, e1, s1, b1, xb, e0_2, e1_2, e4_2, e5_2, e6_2, e7_2, rfl, rfl, hqm, hG0, hK, hk1, rfl⟩
    obtain ⟨q', rfl⟩ : ∃ q', q = q' + 1 := (by cases q with | zero => (rw [rLevL] at hG0; cases hG0) | succ q' => exact ⟨q', rfl⟩)
    refine zq (yA (mP e0_2 (zC (fun w => zR Tryz.func25 rfl rfl rfl) rfl rfl (fun w h => bad_r T z sv s1 rb w (hP.now zm1 h) (h.at_ 4 rfl) hk1) ?_)))
    cases hi13 : badR s1
    · have hbf := hi13
      refine zg (fun _ => R_not rfl) (yB (zE rfl (zi (zk (zB (yA (aI rfl (yB (zq (yA (aI rfl (yB (zB (c_rounds 3 (zq (yA (mI rfl (zg (fun _ => R_lt rfl rfl) (mB rfl (zw rfl rfl (congrArg Value.bool (decide_eq_true (by decide))) (mI rfl (zw rfl rfl (congrArg Value.bool (decide_eq_true (by decide))) (zg (fun _ => R_eq rfl rfl) (zg (v := .bool _) (fun _ => zT (congrArg Value.bool (decide_eq_true (by decide))) rfl) (yB (zE (congrArg Value.bool (decide_eq_true (by decide))) (zi (zk (zq (zB (yA (mP e0_2 (mS e5_2 (mI rfl (zg (fun _ => R_iaN (i := 0) sl56 rfl rfl (by omega)) (zl z9 rfl (fun _ h => by exact zc 2 rfl rfl h) ?_)))))))))))))))))))))))))))))))))))); refine zQ (T := T) (s := s1) (s1 := wantR T z s1 x) (x := x) (ob := Rr sv z) 4 rfl (fun w => zR Tryz.func61 rfl rfl rfl) rfl rfl (fun w h => may_r T z sv s1 rb w (hP.now zm1 h) (h.at_ 4 rfl) hk1 x) (fun hi14 => ?_) (fun hi14 => ?_)
      · have hG15 := levL_x hL hG0 hbf hi14 hxy.1
        try dsimp only at hG15
        have hlt14 := isR_lt hi14; have hkw14 : (wantR T z s1 x).k ≤ T.length := wantR_k hk1
        refine yB (zE rfl (zr (mS e6_2 (mI rfl (zg (fun _ => R_iaN (i := 0) sl55 rfl rfl (by omega)) (zl z5 rfl (fun _ h => by exact zc 1 rfl rfl h) (aI rfl (zn (zO (zk (zr (mI rfl (zg (fun _ => R_addi rfl rfl (by omega)) (aI rfl (zn (k_rounds (zq (yA (mI rfl (zg (fun _ => R_lt rfl rfl) (mB rfl (zw rfl rfl (congrArg Value.bool (decide_eq_true (by decide))) (mI rfl (zw rfl rfl (congrArg Value.bool (decide_eq_true (by decide))) (zg (fun _ => R_eq rfl rfl) (zg (v := .bool _) (fun _ => zT (congrArg Value.bool (decide_eq_true (by decide))) rfl) (yB ?_))))))))))))))))))))))))))); refine zD rfl (fun h16 => ?_) (fun h16 => ?_)
        · exfalso; omega
        · refine zX (zx (zx (b_here rfl (zk (zq (yA (mI rfl (zg (fun _ => R_eq rfl rfl) (yB ?_))))))))); refine zD rfl (fun h17 => ?_) (fun h17 => ?_)
          · exfalso; omega
          · refine zi (zk (yA (mP e0_2 (mI e1_2 (zg (fun _ => R_addi rfl rfl (by omega)) (w_rt (rb := rb) (ob := Rr sv z) (ok := kl T) (V := (fun e b => .agg (exE e b).toArray)) 4 rfl zm1 TL.ext hG15 (fun w => zR Tryz.func72 rfl rfl rfl) rfl rfl (fun a s9 hX w h => ih q' (by omega) (lev + 1) (wantR T z s1 x) rb w a s9 (hP.now zm1 h) (h.at_ 4 rfl) hkw14 (by omega) (by omega) (by omega) hX) (fun e18 s18 b18 w18 hX18 hG18 hk18 hK18 => ?_)))))))
            try dsimp only at hG18
            refine zA zr39 (fun t10b gt10b ut10b => zV 0 rfl z39 rfl rfl rfl rfl rfl rfl rfl (yB (zr (mI rfl (zf fa39_1 e7_2 (zL 1 z3 rfl rfl rfl (zY z39 e7_2 (fun _ h => h.at_ 1 rfl) rfl (zY z39 rfl (fun _ h => h.at_ 0 rfl) rfl (zS slt37 (by decide) rfl rfl (fun kb gkb ukb => zg (fun _ => R_build bt39 rfl) (zV 2 rfl z39 e7_2 rfl rfl rfl rfl rfl rfl (zn (zO ((zK (fun w' h => h.pick [0, 2, 3, 4, 5, 6] (by decide)) (k_let (fun w7 h7 hN7 => ?_)))))))))))))))))
            have h8 := h7.drop (List.sublist_cons_self _ _)
            have hK7 : Kt (w7, inL _) w.heap.size exT (pair a e1 e18) (some ⟨kb, 0, none⟩, 2) := ⟨Nat.le_refl _, kid2 (hK.now TL.ext zm1 h8) (hK18.now TL.ext zm0 h8) (h7.at_ 0 rfl) (hN7 _ (ukb (w, fun j => j = rb) (by simp))), fun h => absurd (show a = 2 from h) (by omega), fun h => absurd (show a = 3 from h) (by omega)⟩
            refine zK (fun w' h => h.keep2 zm2) ?_; exact k_again _ (by omega) ⟨q', _, s18, _, _, e0_2, e1_2, e4_2, e5_2, e6_2, e7_2, rfl, rfl, by omega, hG18, hK7, hk18, rfl⟩
      · refine yB (zG rfl (zi (zO (zk (zr (mI rfl (zg (fun _ => R_addi rfl rfl (by omega)) (aI rfl (zn (k_rounds (zq (yA (mI rfl (zg (fun _ => R_lt rfl rfl) (mB rfl (zw rfl rfl (congrArg Value.bool (decide_eq_true (by decide))) (mI rfl (zw rfl rfl (congrArg Value.bool (decide_eq_true (by decide))) (zg (fun _ => R_eq rfl rfl) (zg (v := .bool _) (fun _ => zT (congrArg Value.bool (decide_eq_true (by decide))) rfl) (yB (zE (congrArg Value.bool (decide_eq_true (by decide))) (zi (zk (zq (zB (yA (mP e0_2 (mS e5_2 (mI rfl (zg (fun _ => R_iaN (i := 1) sl56 rfl rfl (by omega)) (zl z9 rfl (fun _ h => by exact zc 2 rfl rfl h) ?_)))))))))))))))))))))))))))))))); refine zQ (T := T) (s := s1) (s1 := wantR T z s1 y) (x := y) (ob := Rr sv z) 4 rfl (fun w => zR Tryz.func61 rfl rfl rfl) rfl rfl (fun w h => may_r T z sv s1 rb w (hP.now zm1 h) (h.at_ 4 rfl) hk1 y) (fun hi20 => ?_) (fun hi20 => ?_)
        · have hG21 := levL_y hL hG0 hbf hi14 hi20 hxy.2.1
          try dsimp only at hG21
          have hlt20 := isR_lt hi20; have hkw20 : (wantR T z s1 y).k ≤ T.length := wantR_k hk1
          refine yB (zE rfl (zr (mS e6_2 (mI rfl (zg (fun _ => R_iaN (i := 1) sl55 rfl rfl (by omega)) (zl z5 rfl (fun _ h => by exact zc 1 rfl rfl h) (aI rfl (zn (zO (zk (zr (mI rfl (zg (fun _ => R_addi rfl rfl (by omega)) (aI rfl (zn (k_rounds (zq (yA (mI rfl (zg (fun _ => R_lt rfl rfl) (mB rfl (zs rfl rfl (congrArg Value.bool (decide_eq_false (by decide))) (zs rfl rfl (congrArg Value.bool (decide_eq_false (by decide))) (zg (v := .bool _) (fun _ => zF (congrArg Value.bool (decide_eq_false (by decide))) rfl) (yB (zG rfl (zX (zx (zx (b_here rfl (zk (zq (yA (mI rfl (zg (fun _ => R_eq rfl rfl) (yB ?_)))))))))))))))))))))))))))))))))))); refine zD rfl (fun h22 => ?_) (fun h22 => ?_)
          · exfalso; omega
          · refine zi (zk (yA (mP e0_2 (mI e1_2 (zg (fun _ => R_addi rfl rfl (by omega)) (w_rt (rb := rb) (ob := Rr sv z) (ok := kl T) (V := (fun e b => .agg (exE e b).toArray)) 4 rfl zm1 TL.ext hG21 (fun w => zR Tryz.func72 rfl rfl rfl) rfl rfl (fun a s9 hX w h => ih q' (by omega) (lev + 1) (wantR T z s1 y) rb w a s9 (hP.now zm1 h) (h.at_ 4 rfl) hkw20 (by omega) (by omega) (by omega) hX) (fun e23 s23 b23 w23 hX23 hG23 hk23 hK23 => ?_)))))))
            try dsimp only at hG23
            refine zA zr39 (fun t10b gt10b ut10b => zV 0 rfl z39 rfl rfl rfl rfl rfl rfl rfl (yB (zr (mI rfl (zf fa39_1 e7_2 (zL 1 z3 rfl rfl rfl (zY z39 e7_2 (fun _ h => h.at_ 1 rfl) rfl (zY z39 rfl (fun _ h => h.at_ 0 rfl) rfl (zS slt37 (by decide) rfl rfl (fun kb gkb ukb => zg (fun _ => R_build bt39 rfl) (zV 2 rfl z39 e7_2 rfl rfl rfl rfl rfl rfl (zn (zO ((zK (fun w' h => h.pick [0, 2, 3, 4, 5, 6] (by decide)) (k_let (fun w7 h7 hN7 => ?_)))))))))))))))))
            have h8 := h7.drop (List.sublist_cons_self _ _)
            have hK7 : Kt (w7, inL _) w.heap.size exT (pair b e1 e23) (some ⟨kb, 0, none⟩, 2) := ⟨Nat.le_refl _, kid2 (hK.now TL.ext zm1 h8) (hK23.now TL.ext zm0 h8) (h7.at_ 0 rfl) (hN7 _ (ukb (w, fun j => j = rb) (by simp))), fun h => absurd (show b = 2 from h) (by omega), fun h => absurd (show b = 3 from h) (by omega)⟩
            refine zK (fun w' h => h.keep2 zm2) ?_; exact k_again _ (by omega) ⟨q', _, s23, _, _, e0_2, e1_2, e4_2, e5_2, e6_2, e7_2, rfl, rfl, by omega, hG23, hK7, hk23, rfl⟩
        · have hG25 := levL_no hL hG0 hbf hi14 hi20
          try dsimp only at hG25
          refine yB (zG rfl (zi (zO (zk (zr (mI rfl (zg (fun _ => R_addi rfl rfl (by omega)) (aI rfl (zn (k_rounds (zq (yA (mI rfl (zg (fun _ => R_lt rfl rfl) (mB rfl (zs rfl rfl (congrArg Value.bool (decide_eq_false (by decide))) (zs rfl rfl (congrArg Value.bool (decide_eq_false (by decide))) (zg (v := .bool _) (fun _ => zF (congrArg Value.bool (decide_eq_false (by decide))) rfl) (yB (zG rfl (zX (zx (zx (b_here rfl (zk (zq (yA (mI rfl (zg (fun _ => R_eq rfl rfl) (yB (zE (congrArg Value.bool (decide_eq_true (by decide))) (zX (zx (b_past rfl (zx (b_here rfl (zk (yA (zY z39 e7_2 (fun _ h => h.at_ 0 rfl) rfl (zV 3 rfl z39 e4_2 rfl rfl rfl rfl rfl rfl (yB (ze ?_))))))))))))))))))))))))))))))))))))))))))
          obtain ⟨rfl, rfl⟩ := injP hG25
          refine r_fin (.inl rfl) rfl (.agg rfl e4_2 z39 (fun _ h => h.at_ 3 rfl) rfl .nil) ?_; exact fun w' hw => ⟨b1, rfl, hk1, hK.fin TL.ext zm0 hw, hw.fr _ zm1, hw.at_ 4 rfl⟩
    · have hG26 := levL_b hG0 hi13
      try dsimp only at hG26
      refine zg (fun _ => R_not rfl) (yB (zG rfl (zX (zx (zx (b_here rfl (zk (yA (zY z39 e7_2 (fun _ h => h.at_ 0 rfl) rfl (zV 3 rfl z39 e4_2 rfl rfl rfl rfl rfl rfl (yB (ze ?_))))))))))))
      obtain ⟨rfl, rfl⟩ := injP hG26
      refine r_fin (.inl rfl) rfl (.agg rfl e4_2 z39 (fun _ h => h.at_ 3 rfl) rfl .nil) ?_; exact fun w' hw => ⟨b1, rfl, hk1, hK.fin TL.ext zm0 hw, hw.fr _ zm1, hw.at_ 4 rfl⟩

theorem numR_at {T : List Tk} {z : Nat} {s : R3} (hb : badR s = false) (h : s.k < T.length) : isNumR T z s = decide (T[s.k].1 = 2) := by
  unfold isNumR
  rw [hb, drop_at h]; rfl
theorem numR_end {T : List Tk} {z : Nat} {s : R3} (h : T.length ≤ s.k) : isNumR T z s = false := by
  unfold isNumR
  rw [List.drop_eq_nil_of_le h, Bool.and_eq_false_iff]; exact .inr rfl

theorem sign_r (T : List Tk) (z : Nat) (sv : Value) (u : Nat) (ihS : SignHr T z sv u) (ihP : SumHr T z sv u) (ihL : SumsHr T z sv u) (s : R3) (rb : Nat) (w : World) (a9 : Ex) (s9 : R3) (hP : Pe w rb T z sv) (hb : w.heap[rb]? = some (Rr sv z s)) (hk : s.k ≤ T.length) (hu : u + 1 ≤ 1000000) (h0 : rSign T z (u + 1) s = some (a9, s9)) :
    Ret Tryz.prog 115 #[.pointer (some ⟨rb, 0, none⟩)] w (QT (Rr sv z) (kl T) rb (fun e b => .agg (exE e b).toArray) exT a9 s9 w) := by
  have hlen := hP.len
  obtain ⟨ta, tc, hsv, htk⟩ := hP.tk
  have htok : s.k < T.length → ∃ (h : s.k < T.length) (tb t0 : Nat), ta = some ⟨tb, t0, none⟩ ∧ tb ≠ rb ∧ ∀ (j : Nat) v, (tkC T[s.k])[j]? = some v → w.cell? ⟨tb, t0 + s.k * 3 + j, none⟩ = some v := (fun h => by obtain ⟨b, o, h1, h0, h2⟩ := htk s.k T[s.k] (List.getElem?_eq_getElem h); exact ⟨h, b, o, h1, h0, h2⟩)
  have hpb := place_b (k := s.k) hP
  have hG := rSign_eq.symm.trans h0
  refine enter (S := (fun j => j = rb)) (l := [_]) (L := [(rb, Rr sv z s)]) 129 Tryz.func115 rfl rfl rfl (St.start1 w hb rfl) (yA (zA zr39 (fun t2b gt2b ut2b => yC (mP rfl (zC (fun w => zR Tryz.func63 rfl rfl rfl) rfl rfl (fun w h => place_r T z sv s rb w (hP.now zm0 h) (h.at_ 1 rfl) hk) (aI rfl (yB (zq (yA (mP rfl (zC (fun w => zR Tryz.func25 rfl rfl rfl) rfl rfl (fun w h => bad_r T z sv s rb w (hP.now zm0 h) (h.at_ 1 rfl) hk) ?_)))))))))))
  cases hi2 : badR s
  · have hG3 := (if_neg (nf hi2)).symm.trans hG
    try dsimp only at hG3
    have hbf := hi2
    refine yB (zG rfl (zi (zk (zq (yA (mP rfl (zC (fun w => zR Tryz.func29 rfl rfl rfl) rfl rfl (fun w h => is_r T z sv s rb w (hP.now zm0 h) (h.at_ 1 rfl) hk [45]) ?_)))))))
    cases hi4 : isR T s [45]
    · have hG5 := (if_neg (nf hi4)).symm.trans hG3
      try dsimp only at hG5
      refine yB (zG rfl (zi (zk (zq (yA (mP rfl ?_)))))); refine zQ (T := T) (s := s) (s1 := wantR T z s [40]) (x := [40]) (ob := Rr sv z) 1 rfl (fun w => zR Tryz.func61 rfl rfl rfl) rfl rfl (fun w h => may_r T z sv s rb w (hP.now zm0 h) (h.at_ 1 rfl) hk [40]) (fun hi6 => ?_) (fun hi6 => ?_)
      · have hG7 := (if_pos hi6).symm.trans hG5
        try dsimp only at hG7
        have hlt6 := isR_lt hi6; have hkw6 : (wantR T z s [40]).k ≤ T.length := wantR_k hk
        refine yB (zE rfl (yA (mP rfl (w_rt (rb := rb) (ob := Rr sv z) (ok := kl T) (V := (fun e b => .agg (exE e b).toArray)) 1 rfl zm0 TL.ext hG7 (fun w => zR Tryz.func35 rfl rfl rfl) rfl rfl (fun a s9 hX w h => ihP (wantR T z s [40]) rb w a s9 (hP.now zm0 h) (h.at_ 1 rfl) hkw6 (by omega) hX) (fun e8 s8 b8 w8 hX8 hG8 hk8 hK8 => ?_)))))
        try dsimp only at hG8
        refine zA zr39 (fun t5b gt5b ut5b => zV 0 rfl z39 rfl rfl rfl rfl rfl rfl rfl (yC (mP rfl (zW (ob := Rr sv z) (s1 := (wantR T z s8 [41])) (v0 := .tuple #[]) 2 rfl (fun w => zR Tryz.func27 rfl rfl rfl) rfl rfl (fun w h => want_r T z sv s8 rb w (hP.now zm1 h) (h.at_ 2 rfl) hk8 [41]) ?_))))
        have hk10 : (wantR T z s8 [41]).k ≤ T.length := (wantR_k hk8)
        refine yC (mI rfl (zf fa39_1 rfl (zV 0 rfl z3 rfl rfl rfl rfl rfl rfl rfl (yC (zY z39 rfl (fun _ h => h.at_ 0 rfl) rfl (zV 1 rfl z39 rfl rfl rfl rfl rfl rfl rfl (yB (ze (zt (?_))))))))))
        obtain ⟨rfl, rfl⟩ := injP hG8
        refine r_fin (.inl rfl) rfl (.agg rfl rfl z39 (fun _ h => h.at_ 1 rfl) rfl .nil) ?_; exact fun w' hw => ⟨b8, rfl, hk10, ((hK8.fin TL.ext zm0 hw).setAt _), hw.fr _ zm1, hw.at_ 2 rfl⟩
      · have hG11 := (if_neg (nf hi6)).symm.trans hG5
        try dsimp only at hG11
        refine yB (zG rfl (zi (zk ?_))); refine c_cut (fun e B L => e 0 = .pointer (some ⟨rb, 0, none⟩) ∧ e 2 = .pointer (some ⟨t2b, 0, none⟩) ∧ e 3 = .int .i64 ((place z (T.drop s.k)) : Nat) ∧ B = [(w, (fun j => j = rb))] ∧ L = [(t2b, cel [.int .u8 0, .int .i64 0, str [], .slice none 0 0] 39), (rb, Rr sv z s)] ∧ isNumR T z s = false) ?_ ?_
        · refine zq (c_draw mixed (by kernel_rfl) (mP rfl (zC (fun w => zR Tryz.func25 rfl rfl rfl) rfl rfl (fun w h => bad_r T z sv s rb w (hP.now zm0 h) (h.at_ 1 rfl) hk) (zg (fun _ => R_not (congrArg Value.bool hbf)) (mB rfl (zw rfl rfl rfl (mP rfl (zw rfl rfl rfl (zI rfl (zw rfl rfl rfl (zf fa69_1 rfl (zw rfl rfl rfl (zL 1 z3 rfl rfl rfl (zw rfl rfl rfl (mP rfl (zw rfl rfl rfl (zI rfl (zw rfl rfl rfl (zf fa69_0 rfl (zw rfl rfl rfl (zl (v := sv) z50 rfl (fun _ h => zc 1 rfl rfl h) (zw rfl rfl rfl (zg (fun _ => R_len sl50 hsv) (zw rfl rfl rfl (zg (fun _ => R_lt rfl rfl) (zg (v := .bool _) (fun _ => zT rfl rfl) (mB rfl ?_))))))))))))))))))))))))))); refine zd (t := 63) rfl (fun h12 => ?_) (fun h12 => ?_)
          · obtain ⟨hlt, tb, t0, rfl, hnb, htc⟩ := htok (by omega); have htx := txt_at hlt; have hcx : w.cell? ⟨tb, t0 + s.k * 3 + 1, none⟩ = some (str (txt (T.drop s.k))) := (by rw [htx]; exact htc 1 _ rfl); have hnl : (txt (T.drop s.k)).length ≤ 10000000 := (by rw [htx]; exact (hP.tb T[s.k] (List.getElem_mem hlt)).1); have hnr := numR_at (z := z) hbf hlt
            refine zw rfl rfl (bT h12) (mP rfl (zw rfl rfl (bT h12) (zI rfl (zw rfl rfl (bT h12) (zf fa69_0 rfl (zw rfl rfl (bT h12) (zl (v := sv) z50 rfl (fun _ h => zc 1 rfl rfl h) (zw rfl rfl (bT h12) (mP rfl (zw rfl rfl (bT h12) (zI rfl (zw rfl rfl (bT h12) (zf fa69_1 rfl (zw rfl rfl (bT h12) (zL 1 z3 rfl rfl rfl (zw rfl rfl (bT h12) (zg (fun _ => R_iaN (i := (s).k) sl50 hsv rfl (by omega)) (zw rfl rfl (bT h12) (zf fa58_0 rfl (zw rfl rfl (bT h12) (zl z5 rfl (fun _ h => cel_old zm0 (htc 0 _ rfl) hnb h) (zw rfl rfl (bT h12) (zg (fun _ => R_eq rfl rfl) (zg (v := .bool _) (fun _ => zT (bT h12) rfl) (yB ?_))))))))))))))))))))))))); refine zD rfl (fun h13 => ?_) (fun h13 => ?_)
            · have hG14 := (if_pos (by rw [hnr]; exact decide_eq_true (by omega))).symm.trans hG11
              try dsimp only at hG14
              refine zq (c_draw mixed (by kernel_rfl) (mP rfl (zI rfl (zf fa69_0 rfl (zl (v := sv) z50 rfl (fun _ h => zc 1 rfl rfl h) (mP rfl (zI rfl (zf fa69_1 rfl (zL 1 z3 rfl rfl rfl (zg (fun _ => R_iaN (i := (s).k) sl50 hsv rfl (by omega)) (zf fa58_1 rfl (zl (v := str (txt (T.drop s.k))) z9 rfl (fun _ h => cel_old zm0 hcx hnb h) (za (v := str (txt (T.drop s.k))) rfl (yB (zq (yA (zm (v := str (txt (T.drop s.k))) rfl (zg (fun _ => R_slen st9 rfl (by omega)) (zg (fun _ => R_gt rfl rfl) (yB ?_)))))))))))))))))))); refine zD rfl (fun h15 => ?_) (fun h15 => ?_)
              · rw [if_pos (show 400 < (txt (T.drop s.k)).length by omega)] at hG14
                refine zr (mP rfl (zW (ob := Rr sv z) (s1 := (failR T z s 3)) (v0 := .tuple #[]) 1 rfl (fun w => zR Tryz.func31 rfl rfl rfl) rfl rfl (fun w h => fail_r T z sv s rb w (hP.now zm0 h) (h.at_ 1 rfl) hk 3) ?_))
                have hk16 : (failR T z s 3).k ≤ T.length := (by rw [failR_k]; exact hk)
                refine yC (mP rfl (zI rfl (zf fa69_1 rfl (zL 1 z3 rfl rfl rfl (zg (fun _ => R_addi rfl rfl (by omega)) (zI rfl (zf fa69_1 rfl (zV 1 rfl z3 rfl rfl rfl rfl rfl rfl rfl ?_))))))))
                have hk17 : (nxtR (failR T z s 3)).k ≤ T.length := (by show (failR T z s 3).k + 1 ≤ T.length; (try simp only [moreR_k, failR_k]); omega)
                refine w_st (B' := _) (L' := [_, (rb, Rr sv z (nxtR (failR T z s 3)))]) (fun w h => h) (yC (mI rfl (zm (v := str (txt (T.drop s.k))) rfl (zg (fun _ => R_build bt39 rfl) (zV 0 rfl z39 rfl rfl rfl rfl rfl rfl rfl (yB (ze (zt (?_)))))))))
                obtain ⟨rfl, rfl⟩ := injP hG14
                refine r_fin (.inl rfl) rfl (.agg rfl rfl z39 (fun _ h => h.at_ 0 rfl) rfl .nil) ?_; exact fun w' hw => ⟨(none, 0), rfl, hk17, ⟨Nat.le_refl _, by unfold exsM; trivial, fun h => absurd (show (1 : Nat) = 2 from h) (by decide), fun h => absurd (show (1 : Nat) = 3 from h) (by decide)⟩, hw.fr _ zm0, hw.at_ 1 rfl⟩
              · rw [if_neg (show ¬ 400 < (txt (T.drop s.k)).length by omega)] at hG14
                refine zi (zk (yA (mP rfl (zI rfl (zf fa69_1 rfl (zL 1 z3 rfl rfl rfl (zg (fun _ => R_addi rfl rfl (by omega)) (zI rfl (zf fa69_1 rfl (zV 1 rfl z3 rfl rfl rfl rfl rfl rfl rfl ?_))))))))))
                have hk18 : (nxtR s).k ≤ T.length := (by show s.k + 1 ≤ T.length; (try simp only [moreR_k, failR_k]); omega)
                refine w_st (B' := _) (L' := [_, (rb, Rr sv z (nxtR s))]) (fun w h => h) (yC (mI rfl (zm (v := str (txt (T.drop s.k))) rfl (zg (fun _ => R_build bt39 rfl) (zV 0 rfl z39 rfl rfl rfl rfl rfl rfl rfl (yB (ze (zt (?_)))))))))
                obtain ⟨rfl, rfl⟩ := injP hG14
                refine r_fin (.inl rfl) rfl (.agg rfl rfl z39 (fun _ h => h.at_ 0 rfl) rfl .nil) ?_; exact fun w' hw => ⟨(none, 0), rfl, hk18, ⟨Nat.le_refl _, by unfold exsM; trivial, fun h => absurd (show (1 : Nat) = 2 from h) (by decide), fun h => absurd (show (1 : Nat) = 3 from h) (by decide)⟩, hw.fr _ zm0, hw.at_ 1 rfl⟩
            · refine zi ?_; exact k_mid ⟨rfl, rfl, rfl, rfl, rfl, (by rw [hnr]; exact decide_eq_false (by omega))⟩
          · refine zs rfl rfl (bF h12) (zs rfl rfl (bF h12) (zs rfl rfl (bF h12) (zs rfl rfl (bF h12) (zs rfl rfl (bF h12) (zs rfl rfl (bF h12) (zs rfl rfl (bF h12) (zs rfl rfl (bF h12) (zs rfl rfl (bF h12) (zs rfl rfl (bF h12) (zs rfl rfl (bF h12) (zs rfl rfl (bF h12) (zg (v := .bool _) (fun _ => zF (bF h12) rfl) (yB (zG rfl (zi ?_))))))))))))))); exact k_mid ⟨rfl, rfl, rfl, rfl, rfl, numR_end (by omega)⟩
        rintro e B L ⟨e0_1, e2_1, e3_1, rfl, rfl, hnum⟩
        have hG19 := (if_neg (nf hnum)).symm.trans hG11
        try dsimp only at hG19
        refine yA (mP e0_1 (zW (ob := Rr sv z) (s1 := (nameR T z s).2) (v0 := str (nameR T z s).1) 1 rfl (fun w => zR Tryz.func64 rfl rfl rfl) rfl rfl (fun w h => name_r T z sv s rb w (hP.now zm0 h) (h.at_ 1 rfl) hk) ?_))
        have hk20 : (nameR T z s).2.k ≤ T.length := (nameR_k hk)
        refine za (v := str (nameR T z s).1) rfl (yB (zq (yA (mP e0_1 ?_)))); refine zQ (T := T) (s := (nameR T z s).2) (s1 := wantR T z (nameR T z s).2 [91]) (x := [91]) (ob := Rr sv z) 1 rfl (fun w => zR Tryz.func61 rfl rfl rfl) rfl rfl (fun w h => may_r T z sv (nameR T z s).2 rb w (hP.now zm0 h) (h.at_ 1 rfl) hk20 [91]) (fun hi21 => ?_) (fun hi21 => ?_)
        · have hG22 := (if_pos hi21).symm.trans hG19
          try dsimp only at hG22
          have hlt21 := isR_lt hi21; have hkw21 : (wantR T z (nameR T z s).2 [91]).k ≤ T.length := wantR_k hk20
          refine yB (zE rfl (yA (mP e0_1 (w_rt (rb := rb) (ob := Rr sv z) (ok := kl T) (V := (fun e b => .agg (exE e b).toArray)) 1 rfl zm0 TL.ext hG22 (fun w => zR Tryz.func35 rfl rfl rfl) rfl rfl (fun a s9 hX w h => ihP (wantR T z (nameR T z s).2 [91]) rb w a s9 (hP.now zm0 h) (h.at_ 1 rfl) hkw21 (by omega) hX) (fun e23 s23 b23 w23 hX23 hG23 hk23 hK23 => ?_)))))
          try dsimp only at hG23
          refine zA zr39 (fun t8b gt8b ut8b => zV 0 rfl z39 rfl rfl rfl rfl rfl rfl rfl (yC (mP e0_1 (zW (ob := Rr sv z) (s1 := (wantR T z s23 [93])) (v0 := .tuple #[]) 2 rfl (fun w => zR Tryz.func27 rfl rfl rfl) rfl rfl (fun w h => want_r T z sv s23 rb w (hP.now zm1 h) (h.at_ 2 rfl) hk23 [93]) ?_))))
          have hk25 : (wantR T z s23 [93]).k ≤ T.length := (wantR_k hk23)
          refine yC (mI e3_1 (zm (v := str (nameR T z s).1) rfl (zY z39 rfl (fun _ h => h.at_ 0 rfl) rfl (zS slt37 (by decide) rfl rfl (fun sb gsb usb => ?_)))))
          have hsb : w.heap.size ≤ sb := usb (w, fun j => j = rb) (by simp)
          refine zg (fun _ => R_build bt39 rfl) (zV 2 rfl z39 e2_1 rfl rfl rfl rfl rfl rfl (yB (ze (zt (?_)))))
          obtain ⟨rfl, rfl⟩ := injP hG23
          refine r_fin (.inl rfl) rfl (.agg rfl e2_1 z39 (fun _ h => h.at_ 2 rfl) rfl .nil) ?_; exact fun w' hw => ⟨(some ⟨sb, 0, none⟩, 1), rfl, hk25, ⟨Nat.le_refl _, kid1 (hK23.fin TL.ext zm0 hw) (hw.at_ 0 rfl) ⟨hsb, lt_of_blk (hw.at_ 0 rfl)⟩, fun h => absurd (show (3 : Nat) = 2 from h) (by decide), fun _ => ⟨rfl, sb, rfl⟩⟩, hw.fr _ zm1, hw.at_ 3 rfl⟩
        · have hG26 := (if_neg (nf hi21)).symm.trans hG19
          try dsimp only at hG26
          refine yB (zG rfl (zi (zk (zq (yA (mP e0_1 ?_)))))); refine zQ (T := T) (s := (nameR T z s).2) (s1 := wantR T z (nameR T z s).2 [40]) (x := [40]) (ob := Rr sv z) 1 rfl (fun w => zR Tryz.func61 rfl rfl rfl) rfl rfl (fun w h => may_r T z sv (nameR T z s).2 rb w (hP.now zm0 h) (h.at_ 1 rfl) hk20 [40]) (fun hi27 => ?_) (fun hi27 => ?_)
          · have hG28 := (if_pos hi27).symm.trans hG26
            try dsimp only at hG28
            have hlt27 := isR_lt hi27; have hkw27 : (wantR T z (nameR T z s).2 [40]).k ≤ T.length := wantR_k hk20
            refine yB (zE rfl (yA (mP e0_1 (w_rt (rb := rb) (ob := Rr sv z) (ok := kl T) (V := (fun (l : List Ex) (b : Ad) => .slice b.1 l.length b.2)) 1 rfl zm0 TL.exs7 hG28 (fun w => zR Tryz.func67 rfl rfl rfl) rfl rfl (fun a s9 hX w h => ihL (wantR T z (nameR T z s).2 [40]) rb w a s9 (hP.now zm0 h) (h.at_ 1 rfl) hkw27 (by omega) hX) (fun e29 s29 b29 w29 hX29 hG29 hk29 hK29 => ?_)))))
            try dsimp only at hG29
            refine za (v := .slice _ _ _) rfl (yC (mP e0_1 (zW (ob := Rr sv z) (s1 := (wantR T z s29 [41])) (v0 := .tuple #[]) 1 rfl (fun w => zR Tryz.func27 rfl rfl rfl) rfl rfl (fun w h => want_r T z sv s29 rb w (hP.now zm1 h) (h.at_ 1 rfl) hk29 [41]) ?_)))
            have hk30 : (wantR T z s29 [41]).k ≤ T.length := (wantR_k hk29)
            refine yC (mI e3_1 (zm (v := str (nameR T z s).1) rfl (mS rfl (zg (fun _ => R_build bt39 rfl) (zV 0 rfl z39 e2_1 rfl rfl rfl rfl rfl rfl (yB (ze (zt (?_)))))))))
            obtain ⟨rfl, rfl⟩ := injP hG29
            refine r_fin (.inl rfl) rfl (.agg rfl e2_1 z39 (fun _ h => h.at_ 0 rfl) rfl .nil) ?_; exact fun w' hw => ⟨b29, rfl, hk30, ⟨(hK29.fin TL.exs7 zm0 hw).2.1, (hK29.fin TL.exs7 zm0 hw).2.2, fun h => absurd (show (4 : Nat) = 2 from h) (by decide), fun h => absurd (show (4 : Nat) = 3 from h) (by decide)⟩, hw.fr _ zm1, hw.at_ 1 rfl⟩
          · have hG31 := (if_neg (nf hi27)).symm.trans hG26
            try dsimp only at hG31
            refine yB (zG rfl (zi (zk (yA (mI e3_1 (zm (v := str (nameR T z s).1) rfl (zg (fun _ => R_build bt39 rfl) (zV 0 rfl z39 e2_1 rfl rfl rfl rfl rfl rfl (yB (ze ?_))))))))))
            obtain ⟨rfl, rfl⟩ := injP hG31
            refine r_fin (.inl rfl) rfl (.agg rfl e2_1 z39 (fun _ h => h.at_ 0 rfl) rfl .nil) ?_; exact fun w' hw => ⟨(none, 0), rfl, hk20, ⟨Nat.le_refl _, by unfold exsM; trivial, fun _ => ⟨rfl, rfl⟩, fun h => absurd (show (2 : Nat) = 3 from h) (by decide)⟩, hw.fr _ zm0, hw.at_ 1 rfl⟩
    · have hG32 := (if_pos hi4).symm.trans hG3
      try dsimp only at hG32
      have hlt := isR_lt hi4
      refine yB (zE rfl (yA (mP rfl (zW (ob := Rr sv z) (s1 := (moreR T z s)) (v0 := .tuple #[]) 1 rfl (fun w => zR Tryz.func62 rfl rfl rfl) rfl rfl (fun w h => more_r T z sv s rb w (hP.now zm0 h) (h.at_ 1 rfl) hk) ?_))))
      have hk33 : (moreR T z s).k ≤ T.length := (by rw [moreR_k]; exact hk)
      refine yC (mP rfl (zI rfl (zf fa69_1 rfl (zL 1 z3 rfl rfl rfl (zg (fun _ => R_addi rfl rfl (by omega)) (zI rfl (zf fa69_1 rfl (zV 1 rfl z3 rfl rfl rfl rfl rfl rfl rfl ?_))))))))
      have hk34 : (nxtR (moreR T z s)).k ≤ T.length := (by show (moreR T z s).k + 1 ≤ T.length; (try simp only [moreR_k, failR_k]); omega)
      refine w_st (B' := _) (L' := [_, (rb, Rr sv z (nxtR (moreR T z s)))]) (fun w h => h) (yC (mP rfl (w_rt (rb := rb) (ob := Rr sv z) (ok := kl T) (V := (fun e b => .agg (exE e b).toArray)) 1 rfl zm0 TL.ext hG32 (fun w => zR Tryz.func115 rfl rfl rfl) rfl rfl (fun a s9 hX w h => ihS (nxtR (moreR T z s)) rb w a s9 (hP.now zm0 h) (h.at_ 1 rfl) hk34 (by omega) hX) (fun e35 s35 b35 w35 hX35 hG35 hk35 hK35 => ?_))))
      try dsimp only at hG35
      refine zA zr39 (fun t4b gt4b ut4b => zV 0 rfl z39 rfl rfl rfl rfl rfl rfl rfl (yC (mP rfl (zI rfl (zf fa69_3 rfl (zL 2 z3 rfl rfl rfl (zg (fun _ => R_sub rfl rfl) (zI rfl (zf fa69_3 rfl (zV 2 rfl z3 rfl rfl rfl rfl rfl rfl rfl ?_))))))))))
      have hk37 : (decR s35).k ≤ T.length := hk35
      refine w_st (B' := _) (L' := [_, _, (rb, Rr sv z (decR s35))]) (fun w h => h) (yC (mI rfl (zY z39 rfl (fun _ h => h.at_ 0 rfl) rfl (zS slt37 (by decide) rfl rfl (fun sb gsb usb => ?_)))))
      have hsb : w.heap.size ≤ sb := usb (w, fun j => j = rb) (by simp)
      refine zg (fun _ => R_build bt39 rfl) (zV 2 rfl z39 rfl rfl rfl rfl rfl rfl rfl (yB (ze (zt (?_)))))
      obtain ⟨rfl, rfl⟩ := injP hG35
      refine r_fin (.inl rfl) rfl (.agg rfl rfl z39 (fun _ h => h.at_ 2 rfl) rfl .nil) ?_; exact fun w' hw => ⟨(some ⟨sb, 0, none⟩, 1), rfl, hk37, ⟨Nat.le_refl _, kid1 (hK35.fin TL.ext zm0 hw) (hw.at_ 0 rfl) ⟨hsb, lt_of_blk (hw.at_ 0 rfl)⟩, fun h => absurd (show (5 : Nat) = 2 from h) (by decide), fun h => absurd (show (5 : Nat) = 3 from h) (by decide)⟩, hw.fr _ zm1, hw.at_ 3 rfl⟩
  · have hG38 := (if_pos hi2).symm.trans hG
    try dsimp only at hG38
    refine yB (zE rfl (yA (zg (fun _ => R_build bt39 rfl) (zV 0 rfl z39 rfl rfl rfl rfl rfl rfl rfl (yB (ze (zt (?_))))))))
    obtain ⟨rfl, rfl⟩ := injP hG38
    refine r_fin (.inl rfl) rfl (.agg rfl rfl z39 (fun _ h => h.at_ 0 rfl) rfl .nil) ?_; exact fun w' hw => ⟨(none, 0), rfl, hk, ⟨Nat.le_refl _, by unfold exsM; trivial, fun h => absurd (show (0 : Nat) = 2 from h) (by decide), fun h => absurd (show (0 : Nat) = 3 from h) (by decide)⟩, hw.fr _ zm0, hw.at_ 1 rfl⟩

theorem sums_r (T : List Tk) (z : Nat) (sv : Value) (u : Nat) (ih : ∀ q, q ≤ u → SumHr T z sv q) (s : R3) (rb : Nat) (w : World) (a9 : List Ex) (s9 : R3) (hP : Pe w rb T z sv) (hb : w.heap[rb]? = some (Rr sv z s)) (hk : s.k ≤ T.length) (hu : u + 1 ≤ 1000000) (h0 : rSums T z (u + 1) s = some (a9, s9)) :
    Ret Tryz.prog 67 #[.pointer (some ⟨rb, 0, none⟩)] w (QT (Rr sv z) (kl T) rb (fun (l : List Ex) (b : Ad) => .slice b.1 l.length b.2) exsV7 a9 s9 w) := by
  have hlen := hP.len
  have hG := rSums_eq.symm.trans h0
  refine enter (S := (fun j => j = rb)) (l := [_]) (L := [(rb, Rr sv z s)]) 20 Tryz.func67 rfl rfl rfl (St.start1 w hb rfl) (yA (za (v := .slice _ _ _) rfl (yC (za (v := .slice _ _ _) rfl (yB (zq (yA (mP rfl (zC (fun w => zR Tryz.func29 rfl rfl rfl) rfl rfl (fun w h => is_r T z sv s rb w (hP.now zm0 h) (h.at_ 0 rfl) hk [41]) ?_)))))))))
  cases hi1 : isR T s [41]
  · have hG2 := (if_neg (nf hi1)).symm.trans hG
    try dsimp only at hG2
    refine yB (zG rfl (zi (zk (yA (mS rfl (mP rfl (w_rt (rb := rb) (ob := Rr sv z) (ok := kl T) (V := (fun e b => .agg (exE e b).toArray)) 0 rfl zm0 TL.ext hG2 (fun w => zR Tryz.func35 rfl rfl rfl) rfl rfl (fun a s9 hX w h => ih u (by omega) s rb w a s9 (hP.now zm0 h) (h.at_ 0 rfl) hk (by omega) hX) (fun e3 s3 b3 w3 hX3 hG3 hk3 hK3 => ?_))))))))
    try dsimp only at hG3
    refine zS slt37 (by decide) rfl rfl (fun sb gsb usb => ?_)
    have hsb : w.heap.size ≤ sb := usb (w, fun j => j = rb) (by simp)
    refine w_st (B' := _) (L' := [(sb, cel (exE e3 b3) 39), (rb, Rr sv z s3)] ++ ([] ++ [])) (fun w h => h) (w_app (L := []) (W := []) (news := exE e3 b3) [_, _] slt37 (by decide) rfl (Own.nil _ _) rfl rfl (row_own 0 rfl (fun j u h => h)) rfl (by decide) (by omega) (by omega) (fun v2 W2 hO2 => za (v := v2) rfl (yB (zq (zB ?_))))); refine c_st (B' := _) (L' := (rb, Rr sv z s3) :: W2) (fun w h => by rw [List.append_nil] at h; exact h.drop (List.sublist_cons_self _ _)) ?_; refine c_base (fun w9 h9 => ?_)
    refine c_st (fun w' h => h.keep2 zm1) (c_loop (fun m e B L => ∃ (q : Nat) (s1 : R3) (l : List Ex) (v : Value) (xs : List Value) (W : Heap) (xb : Bw), e 0 = .pointer (some ⟨rb, 0, none⟩) ∧ e 3 = v ∧ B = [xb, (w, fun j => j = rb)] ∧ L = (rb, Rr sv z s1) :: W ∧ q ≤ u ∧ rSumsL T z q l s1 = some (a9, s9) ∧ Own 39 4 v xs l.length W ∧ Kt xb w.heap.size (Mc 4 exC) l xs ∧ l.length + q ≤ u + 1 ∧ s1.k ≤ T.length ∧ m = q + 1) _ ⟨u, s3, [e3], v2, _, W2, _, rfl, rfl, rfl, rfl, Nat.le_refl _, hG3, (by rw [show [e3].length = 0 + 1 from rfl]; exact hO2), (hK3.now TL.ext zm0 h9).one, (by rw [List.length_singleton]; omega), hk3, rfl⟩ ?_)
    rintro m e B L ⟨q, s1, l, v, xs, W, xb, e0_1, e3_1, rfl, rfl, hqm, hG0, hO, hKl, hll, hk1, rfl⟩
    obtain ⟨q', rfl⟩ : ∃ q', q = q' + 1 := (by cases q with | zero => (rw [rSumsL] at hG0; cases hG0) | succ q' => exact ⟨q', rfl⟩)
    have hG4 := rSumsL_eq.symm.trans hG0
    try dsimp only at hG4
    refine zq (yA (mP e0_1 ?_)); refine zQ (T := T) (s := s1) (s1 := wantR T z s1 [44]) (x := [44]) (ob := Rr sv z) 0 rfl (fun w => zR Tryz.func61 rfl rfl rfl) rfl rfl (fun w h => may_r T z sv s1 rb w (hP.now zm1 h) (h.at_ 0 rfl) hk1 [44]) (fun hi5 => ?_) (fun hi5 => ?_)
    · have hG6 := (if_pos hi5).symm.trans hG4
      try dsimp only at hG6
      have hlt5 := isR_lt hi5; have hkw5 : (wantR T z s1 [44]).k ≤ T.length := wantR_k hk1
      refine yB (zE rfl (zi (zk (zB (zr (zm (v := v) e3_1 (mP e0_1 (w_rt (rb := rb) (ob := Rr sv z) (ok := kl T) (V := (fun e b => .agg (exE e b).toArray)) 0 rfl zm1 TL.ext hG6 (fun w => zR Tryz.func35 rfl rfl rfl) rfl rfl (fun a s9 hX w h => ih q' (by omega) (wantR T z s1 [44]) rb w a s9 (hP.now zm1 h) (h.at_ 0 rfl) hkw5 (by omega) hX) (fun e7 s7 b7 w7 hX7 hG7 hk7 hK7 => ?_)))))))))
      try dsimp only at hG7
      refine zS slt37 (by decide) rfl rfl (fun sb gsb usb => ?_)
      have hsb : w.heap.size ≤ sb := usb (w, fun j => j = rb) (by simp)
      refine w_st (B' := _) (L' := [(sb, cel (exE e7 b7) 39), (rb, Rr sv z s7)] ++ (W ++ [])) (fun w h => by rw [List.append_nil]; exact h) (w_app (L := []) (W := W) (news := exE e7 b7) [_, _] slt37 (by decide) rfl hO rfl rfl (row_own 0 rfl (fun j u h => h)) rfl (by decide) (by omega) (by omega) (fun v2 W2 hO2 => za (v := v2) rfl (zn (zO (?_)))))
      refine zK (B' := _) (L' := (rb, Rr sv z s7) :: W2) (fun w h => by rw [List.append_nil] at h; exact h.drop (List.sublist_cons_self _ _)) ?_; refine k_base (fun w9 h9 => ?_)
      refine zK (fun w' h => h.keep2 zm2) ?_; exact k_again _ (by omega) ⟨q', s7, l ++ [e7], v2, _, W2, _, e0_1, rfl, rfl, rfl, by omega, hG7, (by rw [List.length_append]; exact hO2), (hKl.now (TL.cells TL.exc) zm1 h9).snoc (hK7.now TL.ext zm0 h9) hO.1, (by rw [List.length_append, List.length_singleton]; omega), hk7, rfl⟩
    · have hG8 := (if_neg (nf hi5)).symm.trans hG4
      try dsimp only at hG8
      refine yB (zG rfl (zX (zx (zx (b_here rfl (zk (yA (zm (v := v) e3_1 (za (v := v) rfl (yB (ze ?_)))))))))))
      obtain ⟨rfl, rfl⟩ := injP hG8
      refine zo (v := v) rfl rfl rfl ?_; exact fun w' hw => by obtain ⟨b, rfl, hv⟩ := own_exs hO (fun p hp => hw.own p (by simp [hp])) (fun p hp => (⟨St.fresh (A := [(rb, Rr sv z _)]) hw zm1 zm0 p hp, lt_of_blk (hw.own p (by simp [hp]))⟩ : Nn w w' p.1)) (fun j e he => (hKl.fin (TL.cells TL.exc) zm0 hw j e he).M); exact ⟨b, rfl, hk1, ⟨by omega, hv⟩, hw.fr _ zm1, hw.at_ 0 rfl⟩
  · have hG9 := (if_pos hi1).symm.trans hG
    try dsimp only at hG9
    refine yB (zE rfl (yA (mS rfl (za (v := .slice _ _ _) rfl (yB (ze (zt (?_))))))))
    obtain ⟨rfl, rfl⟩ := injP hG9
    refine zo (v := .slice _ _ _) rfl rfl rfl ?_; exact fun w' hw => ⟨(none, 0), rfl, hk, ⟨Nat.zero_le _, Nat.le_refl _, by unfold exsM; trivial⟩, hw.fr _ zm0, hw.at_ 0 rfl⟩

theorem exr_all (T : List Tk) (z : Nat) (sv : Value) : ∀ n, LevH T z sv n ∧ SumHr T z sv n ∧ SignHr T z sv n ∧ SumsHr T z sv n := by
  intro n
  induction n using Nat.strongRecOn with
  | _ n ih =>
    cases n with
    | zero =>
      refine ⟨fun lev s rb w a s1 _ _ _ _ _ _ h => ?_, fun s rb w a s1 _ _ _ _ h => ?_, fun s rb w a s1 _ _ _ _ h => ?_, fun s rb w a s1 _ _ _ _ h => ?_⟩
      · rw [rLev] at h; cases h
      · rw [rSum] at h; cases h
      · rw [rSign] at h; cases h
      · rw [rSums] at h; cases h
    | succ u =>
      have h1 := ih u (by omega)
      exact ⟨fun lev s rb w a s1 hP hb hk hu hl1 hl3 h => level_r T z sv u lev (fun q hq => (ih q (by omega)).1) h1.2.2.1 hl1 hl3 s rb w a s1 hP hb hk hu h, fun s rb w a s1 hP hb hk hu h => sum_r T z sv u h1.1 s rb w a s1 hP hb hk hu h,
        fun s rb w a s1 hP hb hk hu h => sign_r T z sv u h1.2.2.1 h1.2.1 h1.2.2.2 s rb w a s1 hP hb hk hu h, fun s rb w a s1 hP hb hk hu h => sums_r T z sv u (fun q hq => (ih q (by omega)).2.1) s rb w a s1 hP hb hk hu h⟩
end Go.Proofs.YtaniogadknakoaaGreatDoor
end

section
namespace Go.Proofs.YtaniogadknakoaaGreatDoor
open Go.RowKit Go.Sx
open Go.Tok Go.Tree Go.Prs
abbrev zSt : List Value := [.int .u8 0, .int .i64 0, str [], .slice none 0 0, .slice none 0 0, .slice none 0 0]
def StmtHr (T : List Tk) (z : Nat) (sv : Value) (n : Nat) : Prop := ∀ (s : R3) (rb : Nat) (w : World) (a : _) (s1 : R3), Pe w rb T z sv → w.heap[rb]? = some (Rr sv z s) → s.k ≤ T.length → n ≤ 1000000 → rStmt T z n s = some (a, s1) →
    Ret Tryz.prog 30 #[.pointer (some ⟨rb, 0, none⟩)] w (QT (Rr sv z) (kl T) rb (fun s b => .agg (smE s b).toArray) smT a s1 w)
def BodyHr (T : List Tk) (z : Nat) (sv : Value) (n : Nat) : Prop := ∀ (s : R3) (rb : Nat) (w : World) (a : _) (s1 : R3), Pe w rb T z sv → w.heap[rb]? = some (Rr sv z s) → s.k ≤ T.length → n ≤ 1000000 → rBody T z n s = some (a, s1) →
    Ret Tryz.prog 65 #[.pointer (some ⟨rb, 0, none⟩)] w (QT (Rr sv z) (kl T) rb (fun (l : List Sm) (b : Ad) => .slice b.1 l.length b.2) smsV a s1 w)

section
variable {T : List Tk} {z q i op : Nat} {l : List Sm} {s : R3} {x : Str} {α : Type} {F : List Sm × R3 → Option α} {a : α}
theorem stm_b (h : (rStmts T z (q + 1) l s).bind F = some a) (hb : badR s = true) : F (l, s) = some a := by rw [rStmts_eq, if_pos hb] at h; exact h
theorem stm_e (h : (rStmts T z (q + 1) l s).bind F = some a) (hb : badR s = false) (he : isR T s [125] = true) : F (l, s) = some a := by rw [rStmts_eq, if_neg (nf hb), if_pos he] at h; exact h
theorem stm_m (h : (rStmts T z (q + 1) l s).bind F = some a) (hb : badR s = false) (he : isR T s [125] = false) : (rStmt T z q s).bind (fun p => (rStmts T z q (l ++ [p.1]) p.2).bind F) = some a := by
  rw [rStmts_eq, if_neg (nf hb), if_neg (nf he), Option.bind_assoc] at h; exact h
theorem stm_0 (h : (rStmts T z 0 l s).bind F = some a) : False := by rw [rStmts] at h; cases h
theorem opC_hit (h : 0 = opC T s i) (hx : cmpS[i]? = some x) (hi : isR T s x = true) : 10 + i = opC T s (i + 1) := by
  unfold isR at hi
  rw [Bool.and_eq_true, Bool.not_eq_true'] at hi
  unfold opC at h ⊢
  rw [if_neg (nf hi.1)] at h ⊢
  exact cmpU_hit h hx hi.2
theorem opC_miss (h : 0 = opC T s i) (hx : cmpS[i]? = some x) (hi : isR T s x = false) : 0 = opC T s (i + 1) := by
  unfold opC at h ⊢
  cases hb : badR s with
  | true => rw [if_pos rfl]
  | false =>
    rw [hb, if_neg Bool.false_ne_true] at h
    rw [if_neg Bool.false_ne_true]
    refine cmpU_miss h hx ?_
    unfold isR at hi
    rw [hb] at hi; exact hi
theorem opC_stay {j : Nat} (h : op = opC T s i) (h0 : op ≠ 0) (hj : i ≤ j) : op = opC T s j := by
  induction j with
  | zero => obtain rfl : i = 0 := by omega
            exact h
  | succ j ih =>
    rcases Nat.lt_or_ge i (j + 1) with h1 | h1
    · have h2 := ih (by omega)
      unfold opC at h2 ⊢
      cases hb : badR s with
      | true => rw [hb, if_pos rfl] at h2; exact absurd h2 h0
      | false =>
        rw [hb, if_neg Bool.false_ne_true] at h2
        rw [if_neg Bool.false_ne_true]
        exact cmpU_had h2 h0
    · obtain rfl : i = j + 1 := by omega
      exact h
theorem opC_ge : opC T s i = 0 ∨ 10 ≤ opC T s i := by
  unfold opC
  split
  · exact .inl rfl
  · exact cmpU_ge i _
theorem stC_hit (hx : cmpS[i]? = some x) : stC T z s (10 + i) = wantR T z s x := by
  unfold stC
  rw [if_neg (by omega), Nat.add_sub_cancel_left, List.getD_eq_getElem?_getD, hx]; rfl
theorem cmpR_no (h : op = opC T s 6) (h0 : op = 0) : failR T z (stC T z s op) 130 = cmpR T z s := by
  subst h0
  unfold cmpR
  rw [if_pos h.symm]; rfl
theorem cmpR_yes (h : op = opC T s 6) (h0 : op ≠ 0) : stC T z s op = cmpR T z s := by
  unfold cmpR
  rw [← h, if_neg h0]
theorem wrap8b (h : i < 6) : IntKind.u8.wrap (10 + (i : Int)) = ((10 + i : Nat) : Int) := by
  have : i = 0 ∨ i = 1 ∨ i = 2 ∨ i = 3 ∨ i = 4 ∨ i = 5 := by omega
  rcases this with rfl | rfl | rfl | rfl | rfl | rfl <;> rfl
end
theorem Mc.cons4 {W : World} {N : Nat → Prop} {e : Ex} {b : Option Addr × Nat} {l : List Ex} {news : List Value} (h : exM W N e (exE e b)) (hl : Mc 4 exM W N l news) : Mc 4 exM W N (e :: l) (exE e b ++ news) := fun j u hu => by
  cases j with
  | zero =>
    obtain rfl : e = u := by simpa using hu
    exact h
  | succ j =>
    have := hl j u (by simpa using hu)
    rw [show (j + 1) * 4 = (exE e b).length + j * 4 by show (j + 1) * 4 = 4 + j * 4; omega, ← List.drop_drop, List.drop_left]
    exact this

theorem stmts_r (T : List Tk) (z : Nat) (sv : Value) (u : Nat) (ih : ∀ q, q ≤ u → StmtHr T z sv q) (s : R3) (rb : Nat) (w : World) (a9 : List Sm) (s9 : R3) (hP : Pe w rb T z sv) (hb : w.heap[rb]? = some (Rr sv z s)) (hk : s.k ≤ T.length) (hu : u + 1 ≤ 1000000) (h0 : rBody T z (u + 1) s = some (a9, s9)) :
    Ret Tryz.prog 65 #[.pointer (some ⟨rb, 0, none⟩)] w (QT (Rr sv z) (kl T) rb (fun (l : List Sm) (b : Ad) => .slice b.1 l.length b.2) smsV a9 s9 w) := by
  have hlen := hP.len
  have hG := rBody_eq.symm.trans h0
  refine enter (S := (fun j => j = rb)) (l := [_]) (L := [(rb, Rr sv z s)]) 22 Tryz.func65 rfl rfl rfl (St.start1 w hb rfl) (yA (za (v := .slice _ _ _) rfl (yC (mP rfl (zW (ob := Rr sv z) (s1 := (wantR T z s [123])) (v0 := .tuple #[]) 0 rfl (fun w => zR Tryz.func27 rfl rfl rfl) rfl rfl (fun w h => want_r T z sv s rb w (hP.now zm0 h) (h.at_ 0 rfl) hk [123]) ?_)))))
  have hk1 : (wantR T z s [123]).k ≤ T.length := (wantR_k hk)
  refine yC (za (v := .slice _ _ _) rfl (yB (zq (zB (c_base (fun w9 h9 => c_st (B' := _) (L' := (rb, Rr sv z (wantR T z s [123])) :: []) (fun w' h => h) (c_loop (fun m e B L => ∃ (q : Nat) (s1 : R3) (l : List Sm) (v : Value) (xs : List Value) (W : Heap) (xb : Bw), e 0 = .pointer (some ⟨rb, 0, none⟩) ∧ e 3 = v ∧ B = [xb, (w, fun j => j = rb)] ∧ L = (rb, Rr sv z s1) :: W ∧ q ≤ u ∧ (rStmts T z q l s1).bind (fun p => some (p.1, wantR T z p.2 [125])) = some (a9, s9) ∧ Own 76 6 v xs l.length W ∧ Kt xb w.heap.size (Mc 6 smC) l xs ∧ l.length + q ≤ u ∧ s1.k ≤ T.length ∧ m = q + 1) _ ⟨u, _, [], _, [], [], _, rfl, rfl, rfl, rfl, Nat.le_refl _, hG, Own.nil _ _, Mc.nil, (by rw [List.length_nil]; omega), hk1, rfl⟩ ?_)))))))
  rintro m e B L ⟨q, s1, l, v, xs, W, xb, e0_1, e3_1, rfl, rfl, hqm, hG0, hO, hKl, hll, hk1, rfl⟩
  obtain ⟨q', rfl⟩ : ∃ q', q = q' + 1 := (by cases q with | zero => exact (stm_0 hG0).elim | succ q' => exact ⟨q', rfl⟩)
  refine zq (yA (mP e0_1 (zC (fun w => zR Tryz.func25 rfl rfl rfl) rfl rfl (fun w h => bad_r T z sv s1 rb w (hP.now zm1 h) (h.at_ 0 rfl) hk1) ?_)))
  cases hi2 : badR s1
  · have hbf := hi2
    refine zg (fun _ => R_not rfl) (mB rfl (zw rfl rfl rfl (mP e0_1 (zw rfl rfl rfl (zC (fun w => zR Tryz.func29 rfl rfl rfl) rfl rfl (fun w h => is_r T z sv s1 rb w (hP.now zm1 h) (h.at_ 0 rfl) hk1 [125]) ?_)))))
    cases hi3 : isR T s1 [125]
    · have hG4 := stm_m hG0 hbf hi3
      try dsimp only at hG4
      refine zw rfl rfl rfl (zg (fun _ => R_not rfl) (zg (v := .bool _) (fun _ => zT rfl rfl) (yB (zE rfl (zi (zk (zB (zr (zm (v := v) e3_1 (mP e0_1 (w_rt (rb := rb) (ob := Rr sv z) (ok := kl T) (V := (fun s b => .agg (smE s b).toArray)) 0 rfl zm1 TL.smt hG4 (fun w => zR Tryz.func30 rfl rfl rfl) rfl rfl (fun a s9 hX w h => ih q' (by omega) s1 rb w a s9 (hP.now zm1 h) (h.at_ 0 rfl) hk1 (by omega) hX) (fun e5 s5 b5 w5 hX5 hG5 hk5 hK5 => ?_))))))))))))
      try dsimp only at hG5
      refine zS slt24 (by decide) rfl rfl (fun sb gsb usb => ?_)
      have hsb : w.heap.size ≤ sb := usb (w, fun j => j = rb) (by simp)
      refine w_st (B' := _) (L' := [(sb, cel (smE e5 b5) 76), (rb, Rr sv z s5)] ++ (W ++ [])) (fun w h => by rw [List.append_nil]; exact h) (w_app (L := []) (W := W) (news := smE e5 b5) [_, _] slt24 (by decide) rfl hO rfl rfl (row_own 0 rfl (fun j u h => h)) rfl (by decide) (by omega) (by omega) (fun v2 W2 hO2 => za (v := v2) rfl (zn (zO (?_)))))
      refine zK (B' := _) (L' := (rb, Rr sv z s5) :: W2) (fun w h => by rw [List.append_nil] at h; exact h.drop (List.sublist_cons_self _ _)) ?_; refine k_base (fun w9 h9 => ?_)
      refine zK (fun w' h => h.keep2 zm2) ?_; exact k_again _ (by omega) ⟨q', s5, l ++ [e5], v2, _, W2, _, e0_1, rfl, rfl, rfl, by omega, hG5, (by rw [List.length_append]; exact hO2), (hKl.now (TL.cells TL.smc) zm1 h9).snocS (hK5.now TL.smt zm0 h9) hO.1, (by rw [List.length_append, List.length_singleton]; omega), hk5, rfl⟩
    · have hG6 := stm_e hG0 hbf hi3
      try dsimp only at hG6
      refine zw rfl rfl rfl (zg (fun _ => R_not rfl) (zg (v := .bool _) (fun _ => zT rfl rfl) (yB (zG rfl (zX (zx (zx (b_here rfl (zk (yA (mP e0_1 (zW (ob := Rr sv z) (s1 := (wantR T z s1 [125])) (v0 := .tuple #[]) 0 rfl (fun w => zR Tryz.func27 rfl rfl rfl) rfl rfl (fun w h => want_r T z sv s1 rb w (hP.now zm1 h) (h.at_ 0 rfl) hk1 [125]) ?_))))))))))))
      have hk7 : (wantR T z s1 [125]).k ≤ T.length := (wantR_k hk1)
      refine yC (zm (v := v) e3_1 (za (v := v) rfl (yB (ze ?_))))
      obtain ⟨rfl, rfl⟩ := injP hG6
      refine zo (v := v) rfl rfl rfl ?_; exact fun w' hw => by obtain ⟨b, rfl, hv⟩ := own_sms hO (fun p hp => hw.own p (by simp [hp])) (fun p hp => (⟨St.fresh (A := [(rb, Rr sv z _)]) hw zm1 zm0 p hp, lt_of_blk (hw.own p (by simp [hp]))⟩ : Nn w w' p.1)) (fun j e he => (hKl.fin (TL.cells TL.smc) zm0 hw j e he).M); exact ⟨b, rfl, hk7, hv, hw.fr _ zm1, hw.at_ 0 rfl⟩
  · have hG8 := stm_b hG0 hi2
    try dsimp only at hG8
    refine zg (fun _ => R_not rfl) (mB rfl ?_); (iterate 3 refine zs rfl rfl rfl ?_); refine zg (v := .bool _) (fun _ => zF rfl rfl) (yB (zG rfl (zX (zx (zx (b_here rfl (zk ?_)))))))
    refine yA (mP e0_1 (zW (ob := Rr sv z) (s1 := (wantR T z s1 [125])) (v0 := .tuple #[]) 0 rfl (fun w => zR Tryz.func27 rfl rfl rfl) rfl rfl (fun w h => want_r T z sv s1 rb w (hP.now zm1 h) (h.at_ 0 rfl) hk1 [125]) ?_))
    have hk9 : (wantR T z s1 [125]).k ≤ T.length := (wantR_k hk1)
    refine yC (zm (v := v) e3_1 (za (v := v) rfl (yB (ze ?_))))
    obtain ⟨rfl, rfl⟩ := injP hG8
    refine zo (v := v) rfl rfl rfl ?_; exact fun w' hw => by obtain ⟨b, rfl, hv⟩ := own_sms hO (fun p hp => hw.own p (by simp [hp])) (fun p hp => (⟨St.fresh (A := [(rb, Rr sv z _)]) hw zm1 zm0 p hp, lt_of_blk (hw.own p (by simp [hp]))⟩ : Nn w w' p.1)) (fun j e he => (hKl.fin (TL.cells TL.smc) zm0 hw j e he).M); exact ⟨b, rfl, hk9, hv, hw.fr _ zm1, hw.at_ 0 rfl⟩

theorem stmt_r (T : List Tk) (z : Nat) (sv : Value) (u : Nat) (ihB : BodyHr T z sv u) (s : R3) (rb : Nat) (w : World) (a9 : Sm) (s9 : R3) (hP : Pe w rb T z sv) (hb : w.heap[rb]? = some (Rr sv z s)) (hk : s.k ≤ T.length) (hu : u + 1 ≤ 1000000) (h0 : rStmt T z (u + 1) s = some (a9, s9)) :
    Ret Tryz.prog 30 #[.pointer (some ⟨rb, 0, none⟩)] w (QT (Rr sv z) (kl T) rb (fun s b => .agg (smE s b).toArray) smT a9 s9 w) := by
  have hlen := hP.len
  have hpb := place_b (k := s.k) hP
  have hG := rStmt_eq.symm.trans h0
  refine enter (S := (fun j => j = rb)) (l := [_]) (L := [(rb, Rr sv z s)]) 170 Tryz.func30 rfl rfl rfl (St.start1 w hb rfl) (yA (zA zr76 (fun t2b gt2b ut2b => yC (mP rfl (zC (fun w => zR Tryz.func63 rfl rfl rfl) rfl rfl (fun w h => place_r T z sv s rb w (hP.now zm0 h) (h.at_ 1 rfl) hk) (zg (fun _ => R_build bt76 rfl) (zA zr76 (fun t3b gt3b ut3b => zV 0 rfl z76 rfl rfl rfl rfl rfl rfl rfl (yB (zq (yA (mP rfl ?_)))))))))))); refine zQ (T := T) (s := s) (s1 := wantR T z s [116, 97, 114, 103, 101, 116]) (x := [116, 97, 114, 103, 101, 116]) (ob := Rr sv z) 2 rfl (fun w => zR Tryz.func61 rfl rfl rfl) rfl rfl (fun w h => may_r T z sv s rb w (hP.now zm0 h) (h.at_ 2 rfl) hk [116, 97, 114, 103, 101, 116]) (fun hi3 => ?_) (fun hi3 => ?_)
  · have hG4 := (if_pos hi3).symm.trans hG
    try dsimp only at hG4
    unfold rAdd at hG4
    try dsimp only at hG4
    have hlt3 := isR_lt hi3; have hkw3 : (wantR T z s [116, 97, 114, 103, 101, 116]).k ≤ T.length := wantR_k hk
    refine yB (zE rfl (yA (zf fa76_0 rfl (zV 0 rfl z5 rfl rfl rfl rfl rfl rfl rfl (yC (mP rfl (zW (ob := Rr sv z) (s1 := (wantR T z (wantR T z s [116, 97, 114, 103, 101, 116]) [43, 61])) (v0 := .tuple #[]) 2 rfl (fun w => zR Tryz.func27 rfl rfl rfl) rfl rfl (fun w h => want_r T z sv (wantR T z s [116, 97, 114, 103, 101, 116]) rb w (hP.now zm0 h) (h.at_ 2 rfl) hkw3 [43, 61]) ?_)))))))
    have hk5 : (wantR T z (wantR T z s [116, 97, 114, 103, 101, 116]) [43, 61]).k ≤ T.length := (wantR_k hkw3)
    refine yC (mP rfl (w_rt (rb := rb) (ob := Rr sv z) (ok := kl T) (V := (fun e b => .agg (exE e b).toArray)) 2 rfl zm0 TL.ext hG4 (fun w => zR Tryz.func35 rfl rfl rfl) rfl rfl (fun a s9 hX w h => (exr_all T z sv u).2.1 (wantR T z (wantR T z s [116, 97, 114, 103, 101, 116]) [43, 61]) rb w a s9 (hP.now zm0 h) (h.at_ 2 rfl) hk5 (by omega) hX) (fun e6 s6 b6 w6 hX6 hG6 hk6 hK6 => ?_)))
    try dsimp only at hG6
    refine zS slt37 (by decide) rfl rfl (fun sb gsb usb => ?_)
    have hsb : w.heap.size ≤ sb := usb (w, fun j => j = rb) (by simp)
    refine zf fa76_3 rfl (zV 1 rfl z37 rfl rfl rfl rfl rfl rfl rfl (yC (mP rfl (zW (ob := Rr sv z) (s1 := (wantR T z s6 [59])) (v0 := .tuple #[]) 3 rfl (fun w => zR Tryz.func27 rfl rfl rfl) rfl rfl (fun w h => want_r T z sv s6 rb w (hP.now zm1 h) (h.at_ 3 rfl) hk6 [59]) ?_))))
    have hk7 : (wantR T z s6 [59]).k ≤ T.length := (wantR_k hk6)
    refine yC (zY z76 rfl (fun _ h => h.at_ 1 rfl) rfl (zV 2 rfl z76 rfl rfl rfl rfl rfl rfl rfl (yB (ze (zt (?_))))))
    obtain ⟨rfl, rfl⟩ := injP hG6
    refine r_fin (.inl rfl) rfl (.agg rfl rfl z76 (fun _ h => h.at_ 2 rfl) rfl .nil) ?_; exact fun w' hw => ⟨((some ⟨sb, 0, none⟩, 1), (none, 0), (none, 0)), rfl, hk7, ⟨exsV.one (hK6.fin TL.ext zm0 hw) (hw.at_ 0 rfl) ⟨hsb, lt_of_blk (hw.at_ 0 rfl)⟩, smsV.nil, smsV.nil⟩, hw.fr _ zm1, hw.at_ 3 rfl⟩
  · have hG8 := (if_neg (nf hi3)).symm.trans hG
    try dsimp only at hG8
    refine yB (zG rfl (zi (zk (zq (yA (mP rfl ?_)))))); refine zQ (T := T) (s := s) (s1 := wantR T z s [102, 111, 114]) (x := [102, 111, 114]) (ob := Rr sv z) 2 rfl (fun w => zR Tryz.func61 rfl rfl rfl) rfl rfl (fun w h => may_r T z sv s rb w (hP.now zm0 h) (h.at_ 2 rfl) hk [102, 111, 114]) (fun hi9 => ?_) (fun hi9 => ?_)
    · have hG10 := (if_pos hi9).symm.trans hG8
      try dsimp only at hG10
      unfold rLoop rLoopA at hG10
      try dsimp only at hG10
      have hlt9 := isR_lt hi9; have hkw9 : (wantR T z s [102, 111, 114]).k ≤ T.length := wantR_k hk
      refine yB (zE rfl (yA (zf fa76_0 rfl (zV 0 rfl z5 rfl rfl rfl rfl rfl rfl rfl (yC (mP rfl (zW (ob := Rr sv z) (s1 := (wantR T z (wantR T z s [102, 111, 114]) [40])) (v0 := .tuple #[]) 2 rfl (fun w => zR Tryz.func27 rfl rfl rfl) rfl rfl (fun w h => want_r T z sv (wantR T z s [102, 111, 114]) rb w (hP.now zm0 h) (h.at_ 2 rfl) hkw9 [40]) ?_)))))))
      have hk11 : (wantR T z (wantR T z s [102, 111, 114]) [40]).k ≤ T.length := (wantR_k hkw9)
      refine yC (mP rfl (zW (ob := Rr sv z) (s1 := (nameR T z (wantR T z (wantR T z s [102, 111, 114]) [40])).2) (v0 := str (nameR T z (wantR T z (wantR T z s [102, 111, 114]) [40])).1) 2 rfl (fun w => zR Tryz.func64 rfl rfl rfl) rfl rfl (fun w h => name_r T z sv (wantR T z (wantR T z s [102, 111, 114]) [40]) rb w (hP.now zm0 h) (h.at_ 2 rfl) hk11) ?_))
      have hk12 : (nameR T z (wantR T z (wantR T z s [102, 111, 114]) [40])).2.k ≤ T.length := (nameR_k hk11)
      refine zf fa76_2 rfl (zV 0 rfl z9 rfl rfl rfl rfl rfl rfl rfl (yC (mP rfl (zW (ob := Rr sv z) (s1 := (wantR T z (nameR T z (wantR T z (wantR T z s [102, 111, 114]) [40])).2 [105, 110])) (v0 := .tuple #[]) 2 rfl (fun w => zR Tryz.func27 rfl rfl rfl) rfl rfl (fun w h => want_r T z sv (nameR T z (wantR T z (wantR T z s [102, 111, 114]) [40])).2 rb w (hP.now zm0 h) (h.at_ 2 rfl) hk12 [105, 110]) ?_))))
      have hk13 : (wantR T z (nameR T z (wantR T z (wantR T z s [102, 111, 114]) [40])).2 [105, 110]).k ≤ T.length := (wantR_k hk12)
      refine yC (mP rfl (w_rt (rb := rb) (ob := Rr sv z) (ok := kl T) (V := (fun e b => .agg (exE e b).toArray)) 2 rfl zm0 TL.ext hG10 (fun w => zR Tryz.func35 rfl rfl rfl) rfl rfl (fun a s9 hX w h => (exr_all T z sv u).2.1 (wantR T z (nameR T z (wantR T z (wantR T z s [102, 111, 114]) [40])).2 [105, 110]) rb w a s9 (hP.now zm0 h) (h.at_ 2 rfl) hk13 (by omega) hX) (fun e14 s14 b14 w14 hX14 hG14 hk14 hK14 => ?_)))
      try dsimp only at hG14
      refine zA zr39 (fun t4b gt4b ut4b => zV 0 rfl z39 rfl rfl rfl rfl rfl rfl rfl (yC (mP rfl (zW (ob := Rr sv z) (s1 := (wantR T z s14 [58])) (v0 := .tuple #[]) 3 rfl (fun w => zR Tryz.func27 rfl rfl rfl) rfl rfl (fun w h => want_r T z sv s14 rb w (hP.now zm1 h) (h.at_ 3 rfl) hk14 [58]) ?_))))
      have hk16 : (wantR T z s14 [58]).k ≤ T.length := (wantR_k hk14)
      refine yC (mP rfl (w_rt (rb := rb) (ob := Rr sv z) (ok := kl T) (V := (fun e b => .agg (exE e b).toArray)) 3 rfl zm1 TL.ext hG14 (fun w => zR Tryz.func35 rfl rfl rfl) rfl rfl (fun a s9 hX w h => (exr_all T z sv u).2.1 (wantR T z s14 [58]) rb w a s9 (hP.now zm1 h) (h.at_ 3 rfl) hk16 (by omega) hX) (fun e17 s17 b17 w17 hX17 hG17 hk17 hK17 => ?_)))
      try dsimp only at hG17
      refine zA zr39 (fun t5b gt5b ut5b => zV 0 rfl z39 rfl rfl rfl rfl rfl rfl rfl (yC (mP rfl (zW (ob := Rr sv z) (s1 := (wantR T z s17 [41])) (v0 := .tuple #[]) 4 rfl (fun w => zR Tryz.func27 rfl rfl rfl) rfl rfl (fun w h => want_r T z sv s17 rb w (hP.now zm2 h) (h.at_ 4 rfl) hk17 [41]) ?_))))
      have hk19 : (wantR T z s17 [41]).k ≤ T.length := (wantR_k hk17)
      refine yC (zY z39 rfl (fun _ h => h.at_ 1 rfl) rfl (zY z39 rfl (fun _ h => h.at_ 0 rfl) rfl (zS slt37 (by decide) rfl rfl (fun sb gsb usb => ?_))))
      have hsb : w.heap.size ≤ sb := usb (w, fun j => j = rb) (by simp)
      refine zf fa76_3 rfl (zV 3 rfl z37 rfl rfl rfl rfl rfl rfl rfl (yC (mP rfl (w_rt (rb := rb) (ob := Rr sv z) (ok := kl T) (V := (fun (l : List Sm) (b : Ad) => .slice b.1 l.length b.2)) 5 rfl zm2 TL.sms hG17 (fun w => zR Tryz.func65 rfl rfl rfl) rfl rfl (fun a s9 hX w h => ihB (wantR T z s17 [41]) rb w a s9 (hP.now zm2 h) (h.at_ 5 rfl) hk19 (by omega) hX) (fun e20 s20 b20 w20 hX20 hG20 hk20 hK20 => ?_)))))
      try dsimp only at hG20
      refine zf fa76_4 rfl (zV 3 rfl z24 rfl rfl rfl rfl rfl rfl rfl (yC (zY z76 rfl (fun _ h => h.at_ 3 rfl) rfl (zV 4 rfl z76 rfl rfl rfl rfl rfl rfl rfl (yB (ze (zt (?_))))))))
      obtain ⟨rfl, rfl⟩ := injP hG20
      refine r_fin (.inl rfl) rfl (.agg rfl rfl z76 (fun _ h => h.at_ 4 rfl) rfl .nil) ?_; exact fun w' hw => ⟨((some ⟨sb, 0, none⟩, 2), b20, (none, 0)), rfl, hk20, ⟨exsV.two (hK14.fin TL.ext zm2 hw) (hK17.fin TL.ext zm1 hw) (hw.at_ 0 rfl) ⟨hsb, lt_of_blk (hw.at_ 0 rfl)⟩, (hK20.fin TL.sms zm0 hw), smsV.nil⟩, hw.fr _ zm3, hw.at_ 5 rfl⟩
    · have hG21 := (if_neg (nf hi9)).symm.trans hG8
      try dsimp only at hG21
      refine yB (zG rfl (zi (zk (zq (yA (mP rfl ?_)))))); refine zQ (T := T) (s := s) (s1 := wantR T z s [105, 102]) (x := [105, 102]) (ob := Rr sv z) 2 rfl (fun w => zR Tryz.func61 rfl rfl rfl) rfl rfl (fun w h => may_r T z sv s rb w (hP.now zm0 h) (h.at_ 2 rfl) hk [105, 102]) (fun hi22 => ?_) (fun hi22 => ?_)
      · have hG23 := (if_pos hi22).symm.trans hG21
        try dsimp only at hG23
        unfold rChoice at hG23
        try dsimp only at hG23
        have hlt22 := isR_lt hi22; have hkw22 : (wantR T z s [105, 102]).k ≤ T.length := wantR_k hk
        refine yB (zE rfl (yA (zf fa76_0 rfl (zV 0 rfl z5 rfl rfl rfl rfl rfl rfl rfl (yC (mP rfl (zW (ob := Rr sv z) (s1 := (wantR T z (wantR T z s [105, 102]) [40])) (v0 := .tuple #[]) 2 rfl (fun w => zR Tryz.func27 rfl rfl rfl) rfl rfl (fun w h => want_r T z sv (wantR T z s [105, 102]) rb w (hP.now zm0 h) (h.at_ 2 rfl) hkw22 [40]) ?_)))))))
        have hk24 : (wantR T z (wantR T z s [105, 102]) [40]).k ≤ T.length := (wantR_k hkw22)
        refine yC (mP rfl (w_rt (rb := rb) (ob := Rr sv z) (ok := kl T) (V := (fun e b => .agg (exE e b).toArray)) 2 rfl zm0 TL.ext hG23 (fun w => zR Tryz.func35 rfl rfl rfl) rfl rfl (fun a s9 hX w h => (exr_all T z sv u).2.1 (wantR T z (wantR T z s [105, 102]) [40]) rb w a s9 (hP.now zm0 h) (h.at_ 2 rfl) hk24 (by omega) hX) (fun e25 s25 b25 w25 hX25 hG25 hk25 hK25 => ?_)))
        try dsimp only at hG25
        obtain ⟨ea, rfl⟩ : ∃ q, q = e25 := ⟨_, rfl⟩
        obtain ⟨ba, rfl⟩ : ∃ q, q = b25 := ⟨_, rfl⟩
        obtain ⟨sa, rfl⟩ : ∃ q, q = s25 := ⟨_, rfl⟩
        refine zA zr39 (fun t6b gt6b ut6b => zV 0 rfl z39 rfl rfl rfl rfl rfl rfl rfl (yC (aI rfl (yC (zS slt56 (by decide) rfl rfl (fun gb ggb ugb => za (v := .slice _ _ _) rfl (yB ?_))))))); refine c_cut (fun e B L => ∃ (op : Nat) (xb : Bw), e 0 = .pointer (some ⟨rb, 0, none⟩) ∧ e 2 = .pointer (some ⟨t2b, 0, none⟩) ∧ e 3 = .pointer (some ⟨t3b, 0, none⟩) ∧ e 6 = .pointer (some ⟨t6b, 0, none⟩) ∧ e 7 = .int .u8 (op : Nat) ∧ B = [xb, (w, fun j => j = rb)] ∧ L = [(gb, cel (cmpS.map str) 9), (t6b, cel (exE ea ba) 39), (t3b, cel [.int .u8 5, .int .i64 ((place z (T.drop s.k)) : Nat), str [], .slice none 0 0, .slice none 0 0, .slice none 0 0] 76), (t2b, cel zSt 76), (rb, Rr sv z (stC T z sa op))] ∧ op = opC T sa 6 ∧ Kt xb w.heap.size exT ea ba ∧ (stC T z sa op).k ≤ T.length) ?_ ?_
        · refine yA (aI rfl (yB (zB ?_)))
          have hKx := hK25
          refine c_st (B' := _) (L' := [(gb, cel (cmpS.map str) 9), (t6b, cel (exE ea ba) 39), (t3b, cel [.int .u8 5, .int .i64 ((place z (T.drop s.k)) : Nat), str [], .slice none 0 0, .slice none 0 0, .slice none 0 0] 76), (t2b, cel zSt 76), (rb, Rr sv z (stC T z sa 0))]) (fun w h => h) (c_loop (fun m e B L => ∃ (i op : Nat) (xb : Bw), e 0 = .pointer (some ⟨rb, 0, none⟩) ∧ e 2 = .pointer (some ⟨t2b, 0, none⟩) ∧ e 3 = .pointer (some ⟨t3b, 0, none⟩) ∧ e 6 = .pointer (some ⟨t6b, 0, none⟩) ∧ e 7 = .int .u8 (op : Nat) ∧ e 8 = .slice (some ⟨gb, 0, none⟩) 6 6 ∧ e 9 = .int .i64 (i : Nat) ∧ B = [xb, (w, fun j => j = rb)] ∧ L = [(gb, cel (cmpS.map str) 9), (t6b, cel (exE ea ba) 39), (t3b, cel [.int .u8 5, .int .i64 ((place z (T.drop s.k)) : Nat), str [], .slice none 0 0, .slice none 0 0, .slice none 0 0] 76), (t2b, cel zSt 76), (rb, Rr sv z (stC T z sa op))] ∧ i ≤ 6 ∧ op = opC T sa i ∧ Kt xb w.heap.size exT ea ba ∧ (stC T z sa op).k ≤ T.length ∧ m = 6 - i) _ ⟨0, 0, _, rfl, rfl, rfl, rfl, rfl, rfl, rfl, rfl, rfl, Nat.zero_le _, (by unfold opC; split <;> rfl), hKx, hk25, rfl⟩ ?_)
          rintro m e B L ⟨i, op, xb, e0_2, e2_2, e3_2, e6_2, e7_2, e8_2, e9_2, rfl, rfl, hi6, hop, hKx, hks, rfl⟩
          refine zq (yA (mI e9_2 (zg (fun _ => R_lt rfl rfl) (mB rfl ?_)))); refine zd (t := 64) rfl (fun h27 => ?_) (fun h27 => ?_)
          · refine zw rfl rfl (bT h27) (mI e7_2 (zw rfl rfl (bT h27) (zg (fun _ => R_eq rfl rfl) (zg (v := .bool _) (fun _ => zT (bT h27) rfl) (yB ?_))))); refine zD rfl (fun h28 => ?_) (fun h28 => ?_)
            · obtain rfl : op = 0 := (by omega); refine c_st (B' := _) (L' := [_, _, _, _, (rb, Rr sv z sa)]) (fun w h => h) ?_
              obtain ⟨x0, hx0⟩ : ∃ x0, cmpS[i]? = some x0 := ⟨_, List.getElem?_eq_getElem (by show i < 6; omega)⟩; have hx0s := map_at hx0
              refine zi (zk (zq (zB (yA (mP e0_2 (mS e8_2 (mI e9_2 (zg (fun _ => R_iaN (i := i) sl56 rfl rfl (by omega)) (zl (v := str x0) z9 rfl (fun _ h => zc 0 rfl hx0s h) ?_))))))))); refine zQ (T := T) (s := sa) (s1 := wantR T z sa x0) (x := x0) (ob := Rr sv z) 4 rfl (fun w => zR Tryz.func61 rfl rfl rfl) rfl rfl (fun w h => may_r T z sv sa rb w (hP.now zm1 h) (h.at_ 4 rfl) hks x0) (fun hi29 => ?_) (fun hi29 => ?_)
              · have hlt29 := isR_lt hi29; have hkw29 : (wantR T z sa x0).k ≤ T.length := wantR_k hks
                refine yB (zE rfl (zr (mI e9_2 (zg (fun _ => R_addi rfl rfl (by omega)) (zg (fun _ => R_convI un3 un5 rfl) (aI rfl (zn (zO (zk (zr (mI e9_2 (zg (fun _ => R_addi rfl rfl (by omega)) (aI rfl (zn ?_)))))))))))))); exact k_again _ (by omega) ⟨i + 1, 10 + i, _, e0_2, e2_2, e3_2, e6_2, (congrArg (Value.int .u8) (wrap8b (by omega))), e8_2, rfl, rfl, (by rw [stC_hit hx0]; rfl), by omega, opC_hit hop hx0 hi29, hKx, (by rw [stC_hit hx0]; exact hkw29), rfl⟩
              · refine yB (zG rfl (zi (zO (zk (zr (mI e9_2 (zg (fun _ => R_addi rfl rfl (by omega)) (aI rfl (zn ?_))))))))); exact k_again _ (by omega) ⟨i + 1, 0, _, e0_2, e2_2, e3_2, e6_2, e7_2, e8_2, rfl, rfl, rfl, by omega, opC_miss hop hx0 hi29, hKx, hks, rfl⟩
            · refine zX (zx (zx (b_here rfl (?_))))
              exact k_mid ⟨op, _, e0_2, e2_2, e3_2, e6_2, e7_2, rfl, rfl, opC_stay hop (by omega) hi6, hKx, hks⟩
          · refine zs rfl rfl (bF h27) (zs rfl rfl (bF h27) (zg (v := .bool _) (fun _ => zF (bF h27) rfl) (yB (zG rfl (zX (zx (zx (b_here rfl (?_)))))))))
            exact k_mid ⟨op, _, e0_2, e2_2, e3_2, e6_2, e7_2, rfl, rfl, (by obtain rfl : i = 6 := (by omega); exact hop), hKx, hks⟩
        rintro e B L ⟨op, xb, e0_1, e2_1, e3_1, e6_1, e7_1, rfl, rfl, hop, hKx, hks⟩
        refine c_cut (fun e B L => ∃ (xb : Bw), e 0 = .pointer (some ⟨rb, 0, none⟩) ∧ e 2 = .pointer (some ⟨t2b, 0, none⟩) ∧ e 3 = .pointer (some ⟨t3b, 0, none⟩) ∧ e 6 = .pointer (some ⟨t6b, 0, none⟩) ∧ e 7 = .int .u8 (op : Nat) ∧ B = [xb, (w, fun j => j = rb)] ∧ L = [(gb, cel (cmpS.map str) 9), (t6b, cel (exE ea ba) 39), (t3b, cel [.int .u8 5, .int .i64 ((place z (T.drop s.k)) : Nat), str [], .slice none 0 0, .slice none 0 0, .slice none 0 0] 76), (t2b, cel zSt 76), (rb, Rr sv z (cmpR T z sa))] ∧ Kt xb w.heap.size exT ea ba ∧ (cmpR T z sa).k ≤ T.length) ?_ ?_
        · refine yA (mI e7_1 (zg (fun _ => R_eq rfl rfl) (yB ?_))); refine zD rfl (fun h30 => ?_) (fun h30 => ?_)
          · refine zr (mP e0_1 (zW (ob := Rr sv z) (s1 := (failR T z (stC T z sa op) 130)) (v0 := .tuple #[]) 4 rfl (fun w => zR Tryz.func31 rfl rfl rfl) rfl rfl (fun w h => fail_r T z sv (stC T z sa op) rb w (hP.now zm1 h) (h.at_ 4 rfl) hks 130) ?_))
            have hk31 : (failR T z (stC T z sa op) 130).k ≤ T.length := (by rw [failR_k]; exact hks)
            refine zn ?_; exact k_mid ⟨_, e0_1, e2_1, e3_1, e6_1, e7_1, rfl, (by rw [cmpR_no hop (by omega)]; rfl), hKx, (by rw [← cmpR_no (z := z) hop (by omega)]; exact hk31)⟩
          · refine zi ?_; exact k_mid ⟨_, e0_1, e2_1, e3_1, e6_1, e7_1, rfl, (by rw [cmpR_yes hop (by omega)]), hKx, (by rw [← cmpR_yes hop (by omega)]; exact hks)⟩
        rintro e B L ⟨xb, e0_3, e2_3, e3_3, e6_3, e7_3, rfl, rfl, hKx, hkc⟩
        subst hop
        refine yA (mP e0_3 (w_rt (rb := rb) (ob := Rr sv z) (ok := kl T) (V := (fun e b => .agg (exE e b).toArray)) 4 rfl zm1 TL.ext hG25 (fun w => zR Tryz.func35 rfl rfl rfl) rfl rfl (fun a s9 hX w h => (exr_all T z sv u).2.1 (cmpR T z sa) rb w a s9 (hP.now zm1 h) (h.at_ 4 rfl) hkc (by omega) hX) (fun e32 s32 b32 w32 hX32 hG32 hk32 hK32 => ?_)))
        try dsimp only at hG32
        refine zA zr39 (fun t10b gt10b ut10b => zV 0 rfl z39 rfl rfl rfl rfl rfl rfl rfl (yC (mI e7_3 (zf fa39_1 e6_3 (zL 2 z3 rfl rfl rfl (zY z39 e6_3 (fun _ h => h.at_ 2 rfl) rfl (zY z39 rfl (fun _ h => h.at_ 0 rfl) rfl (zS slt37 (by decide) rfl rfl (fun kb gkb ukb => ?_)))))))))
        have hkb : w.heap.size ≤ kb := ukb (w, fun j => j = rb) (by simp)
        refine zg (fun _ => R_build bt39 rfl) (zS slt37 (by decide) rfl rfl (fun kb2 gkb2 ukb2 => ?_))
        have hkb2 : w.heap.size ≤ kb2 := ukb2 (w, fun j => j = rb) (by simp)
        refine zf fa76_3 e3_3 (zV 5 rfl z37 rfl rfl rfl rfl rfl rfl rfl (yC (mP e0_3 (zW (ob := Rr sv z) (s1 := (wantR T z s32 [41])) (v0 := .tuple #[]) 7 rfl (fun w => zR Tryz.func27 rfl rfl rfl) rfl rfl (fun w h => want_r T z sv s32 rb w (hP.now zm2 h) (h.at_ 7 rfl) hk32 [41]) ?_))))
        have hk34 : (wantR T z s32 [41]).k ≤ T.length := (wantR_k hk32)
        refine yC (mP e0_3 (w_rt (rb := rb) (ob := Rr sv z) (ok := kl T) (V := (fun (l : List Sm) (b : Ad) => .slice b.1 l.length b.2)) 7 rfl zm2 TL.sms hG32 (fun w => zR Tryz.func65 rfl rfl rfl) rfl rfl (fun a s9 hX w h => ihB (wantR T z s32 [41]) rb w a s9 (hP.now zm2 h) (h.at_ 7 rfl) hk34 (by omega) hX) (fun e35 s35 b35 w35 hX35 hG35 hk35 hK35 => ?_)))
        try dsimp only at hG35
        refine zf fa76_4 e3_3 (zV 5 rfl z24 rfl rfl rfl rfl rfl rfl rfl (yB (zq (yA (mP e0_3 ?_)))))
        unfold rChoiceB at hG35
        try dsimp only at hG35
        refine zQ (T := T) (s := s35) (s1 := wantR T z s35 [101, 108, 115, 101]) (x := [101, 108, 115, 101]) (ob := Rr sv z) 7 rfl (fun w => zR Tryz.func61 rfl rfl rfl) rfl rfl (fun w h => may_r T z sv s35 rb w (hP.now zm3 h) (h.at_ 7 rfl) hk35 [101, 108, 115, 101]) (fun hi36 => ?_) (fun hi36 => ?_)
        · have hG37 := (if_pos hi36).symm.trans hG35
          try dsimp only at hG37
          have hlt36 := isR_lt hi36; have hkw36 : (wantR T z s35 [101, 108, 115, 101]).k ≤ T.length := wantR_k hk35
          refine yB (zE rfl (zr (mP e0_3 (w_rt (rb := rb) (ob := Rr sv z) (ok := kl T) (V := (fun (l : List Sm) (b : Ad) => .slice b.1 l.length b.2)) 7 rfl zm3 TL.sms hG37 (fun w => zR Tryz.func65 rfl rfl rfl) rfl rfl (fun a s9 hX w h => ihB (wantR T z s35 [101, 108, 115, 101]) rb w a s9 (hP.now zm3 h) (h.at_ 7 rfl) hkw36 (by omega) hX) (fun e38 s38 b38 w38 hX38 hG38 hk38 hK38 => ?_)))))
          try dsimp only at hG38
          refine zf fa76_5 e3_3 (zV 5 rfl z24 rfl rfl rfl rfl rfl rfl rfl (yC (zY z76 e3_3 (fun _ h => h.at_ 5 rfl) rfl (zV 6 rfl z76 e2_3 rfl rfl rfl rfl rfl rfl (yB (ze (zt (?_))))))))
          obtain ⟨rfl, rfl⟩ := injP hG38
          refine r_fin (.inl rfl) rfl (.agg rfl e2_3 z76 (fun _ h => h.at_ 6 rfl) rfl .nil) ?_; exact fun w' hw => ⟨((some ⟨kb2, 0, none⟩, 1), b35, b38), rfl, hk38, ⟨exsV.one (exT.pair (by have := opC_ge (T := T) (s := sa) (i := 6); omega) (hKx.fin TL.ext zm3 hw) (hK32.fin TL.ext zm2 hw) (hw.at_ 1 rfl) ⟨hkb, lt_of_blk (hw.at_ 1 rfl)⟩) (hw.at_ 0 rfl) ⟨hkb2, lt_of_blk (hw.at_ 0 rfl)⟩, (hK35.fin TL.sms zm1 hw), (hK38.fin TL.sms zm0 hw)⟩, hw.fr _ zm4, hw.at_ 7 rfl⟩
        · have hG39 := (if_neg (nf hi36)).symm.trans hG35
          try dsimp only at hG39
          refine yB (zG rfl (zi (zk (yA (zY z76 e3_3 (fun _ h => h.at_ 5 rfl) rfl (zV 6 rfl z76 e2_3 rfl rfl rfl rfl rfl rfl (yB (ze (zt (?_))))))))))
          obtain ⟨rfl, rfl⟩ := injP hG39
          refine r_fin (.inl rfl) rfl (.agg rfl e2_3 z76 (fun _ h => h.at_ 6 rfl) rfl .nil) ?_; exact fun w' hw => ⟨((some ⟨kb2, 0, none⟩, 1), b35, (none, 0)), rfl, hk35, ⟨exsV.one (exT.pair (by have := opC_ge (T := T) (s := sa) (i := 6); omega) (hKx.fin TL.ext zm2 hw) (hK32.fin TL.ext zm1 hw) (hw.at_ 1 rfl) ⟨hkb, lt_of_blk (hw.at_ 1 rfl)⟩) (hw.at_ 0 rfl) ⟨hkb2, lt_of_blk (hw.at_ 0 rfl)⟩, (hK35.fin TL.sms zm0 hw), smsV.nil⟩, hw.fr _ zm3, hw.at_ 7 rfl⟩
      · have hG40 := (if_neg (nf hi22)).symm.trans hG21
        try dsimp only at hG40
        refine yB (zG rfl (zi (zk (zq (yA (mP rfl (zC (fun w => zR Tryz.func29 rfl rfl rfl) rfl rfl (fun w h => is_r T z sv s rb w (hP.now zm0 h) (h.at_ 2 rfl) hk [123]) ?_)))))))
        cases hi41 : isR T s [123]
        · have hG42 := (if_neg (nf hi41)).symm.trans hG40
          try dsimp only at hG42
          unfold rPlain at hG42
          try dsimp only at hG42
          refine yB (zG rfl (zi (zk (yA (mP rfl (zC (fun w => zR Tryz.func66 rfl rfl rfl) rfl rfl (fun w h => isName_r T z sv s rb w (hP.now zm0 h) (h.at_ 2 rfl) hk) (za (v := .bool (isNameR T s)) rfl (yC (mP rfl (w_rt (rb := rb) (ob := Rr sv z) (ok := kl T) (V := (fun e b => .agg (exE e b).toArray)) 2 rfl zm0 TL.ext hG42 (fun w => zR Tryz.func35 rfl rfl rfl) rfl rfl (fun a s9 hX w h => (exr_all T z sv u).2.1 s rb w a s9 (hP.now zm0 h) (h.at_ 2 rfl) hk (by omega) hX) (fun e44 s44 b44 w44 hX44 hG44 hk44 hK44 => ?_)))))))))))
          try dsimp only at hG44
          obtain ⟨ea, rfl⟩ : ∃ q, q = e44 := ⟨_, rfl⟩
          obtain ⟨ba, rfl⟩ : ∃ q, q = b44 := ⟨_, rfl⟩
          obtain ⟨sa, rfl⟩ : ∃ q, q = s44 := ⟨_, rfl⟩
          have hKx := hK44
          refine zA zr39 (fun t12b gt12b ut12b => zV 0 rfl z39 rfl rfl rfl rfl rfl rfl rfl (yB (zq ?_))); refine c_cut (fun e B L => ∃ (bq : Bool) (sq : R3) (xb : Bw), e 0 = .pointer (some ⟨rb, 0, none⟩) ∧ e 2 = .pointer (some ⟨t2b, 0, none⟩) ∧ e 3 = .pointer (some ⟨t3b, 0, none⟩) ∧ e 12 = .pointer (some ⟨t12b, 0, none⟩) ∧ e 130 = .bool bq ∧ B = [xb, (w, fun j => j = rb)] ∧ L = [(t12b, cel (exE ea ba) 39), (t3b, cel [.int .u8 0, .int .i64 ((place z (T.drop s.k)) : Nat), str [], .slice none 0 0, .slice none 0 0, .slice none 0 0] 76), (t2b, cel zSt 76), (rb, Rr sv z sq)] ∧ (bq = true → (isNameR T s = true ∧ (ea.op = 2 ∨ ea.op = 3)) ∧ isR T sa [61] = true ∧ wantR T z sa [61] = sq) ∧ (bq = false → (((isNameR T s && (decide (ea.op = 2) || decide (ea.op = 3))) && isR T sa [61]) = false) ∧ sa = sq) ∧ Kt xb w.heap.size exT ea ba ∧ sq.k ≤ T.length) ?_ ?_
          · refine zr (zm (v := .bool (isNameR T s)) rfl (zm (v := .bool (isNameR T s)) rfl ?_)); refine zp (t := 117) rfl (fun h46 => ?_) (fun h46 => ?_)
            · have hnm : isNameR T s = true := h46
              refine zw rfl rfl (bV h46) (zf fa39_0 rfl (zw rfl rfl (bV h46) (zL 0 z5 rfl rfl rfl (zw rfl rfl (bV h46) (zg (fun _ => R_eq rfl rfl) (zw rfl rfl (bV h46) (mB rfl ?_))))))); refine zd (t := 121) rfl (fun h47 => ?_) (fun h47 => ?_)
              · refine zs rfl rfl (bT h47) (zs rfl rfl (bT h47) (zs rfl rfl (bT h47) (zw rfl rfl (bV h46) (zg (v := .bool _) (fun _ => zT (bT h47) rfl) (zg (v := .bool _) (fun _ => zT (bV h46) rfl) (mB rfl (zw rfl rfl rfl (mP rfl (zw rfl rfl rfl ?_))))))))); refine zQ (T := T) (s := sa) (s1 := wantR T z sa [61]) (x := [61]) (ob := Rr sv z) 3 rfl (fun w => zR Tryz.func61 rfl rfl rfl) rfl rfl (fun w h => may_r T z sv sa rb w (hP.now zm1 h) (h.at_ 3 rfl) hk44 [61]) (fun hi48 => ?_) (fun hi48 => ?_)
                · have hlt48 := isR_lt hi48; have hkw48 : (wantR T z sa [61]).k ≤ T.length := wantR_k hk44
                  refine zg (v := .bool _) (fun _ => zT rfl rfl) (zn ?_); exact k_mid ⟨true, (wantR T z sa [61]), _, rfl, rfl, rfl, rfl, rfl, rfl, rfl, (fun _ => ⟨⟨hnm, by omega⟩, hi48, rfl⟩), (fun h => absurd h (by decide)), hKx, hkw48⟩
                · refine zg (v := .bool _) (fun _ => zT rfl rfl) (zn ?_); exact k_mid ⟨false, sa, _, rfl, rfl, rfl, rfl, rfl, rfl, rfl, (fun h => absurd h (by decide)), (fun _ => ⟨(by rw [hi48, Bool.and_false]), rfl⟩), hKx, hk44⟩
              · refine zw rfl rfl (bF h47) (zf fa39_0 rfl (zw rfl rfl (bF h47) (zL 0 z5 rfl rfl rfl (zw rfl rfl (bF h47) (zg (fun _ => R_eq rfl rfl) (zw rfl rfl (bV h46) (zg (v := .bool _) (fun _ => zF (bF h47) rfl) (zg (v := .bool _) (fun _ => zT (bV h46) rfl) (mB rfl ?_))))))))); refine zd (t := 127) rfl (fun h49 => ?_) (fun h49 => ?_)
                · refine zw rfl rfl (bT h49) (mP rfl (zw rfl rfl (bT h49) ?_)); refine zQ (T := T) (s := sa) (s1 := wantR T z sa [61]) (x := [61]) (ob := Rr sv z) 3 rfl (fun w => zR Tryz.func61 rfl rfl rfl) rfl rfl (fun w h => may_r T z sv sa rb w (hP.now zm1 h) (h.at_ 3 rfl) hk44 [61]) (fun hi50 => ?_) (fun hi50 => ?_)
                  · have hlt50 := isR_lt hi50; have hkw50 : (wantR T z sa [61]).k ≤ T.length := wantR_k hk44
                    refine zg (v := .bool _) (fun _ => zT (bT h49) rfl) (zn ?_); exact k_mid ⟨true, (wantR T z sa [61]), _, rfl, rfl, rfl, rfl, rfl, rfl, rfl, (fun _ => ⟨⟨hnm, by omega⟩, hi50, rfl⟩), (fun h => absurd h (by decide)), hKx, hkw50⟩
                  · refine zg (v := .bool _) (fun _ => zT (bT h49) rfl) (zn ?_); exact k_mid ⟨false, sa, _, rfl, rfl, rfl, rfl, rfl, rfl, rfl, (fun h => absurd h (by decide)), (fun _ => ⟨(by rw [hi50, Bool.and_false]), rfl⟩), hKx, hk44⟩
                · refine zs rfl rfl (bF h49) (zs rfl rfl (bF h49) (zg (v := .bool _) (fun _ => zF (bF h49) rfl) (zn ?_))); exact k_mid ⟨false, sa, _, rfl, rfl, rfl, rfl, rfl, rfl, rfl, (fun h => absurd h (by decide)), (fun _ => ⟨(by rw [decide_eq_false (show ¬ ea.op = 2 by omega), decide_eq_false (show ¬ ea.op = 3 by omega), Bool.or_false, Bool.and_false, Bool.false_and]), rfl⟩), hKx, hk44⟩
            · have hnf : isNameR T s = false := h46
              refine zs rfl rfl (bV h46) (zs rfl rfl (bV h46) (zs rfl rfl (bV h46) (zs rfl rfl (bV h46) (zU rfl rfl rfl (zU rfl rfl rfl (zU rfl rfl rfl (zs rfl rfl (bV h46) (zg (v := .bool _) (fun _ => zF (bV h46) rfl) (mB rfl ?_))))))))); (iterate 2 refine zs rfl rfl rfl ?_); refine zg (v := .bool _) (fun _ => zF rfl rfl) (zn ?_); exact k_mid ⟨false, sa, _, rfl, rfl, rfl, rfl, rfl, rfl, rfl, (fun h => absurd h (by decide)), (fun _ => ⟨(by rw [hnf, Bool.false_and, Bool.false_and]), rfl⟩), hKx, hk44⟩
          rintro e B L ⟨bq, sq, xb, e0_4, e2_4, e3_4, e12_4, e130_4, rfl, rfl, hbt, hbn, hKx, hksq⟩
          refine c_cond e130_4 (fun h51 => ?_) (fun h51 => ?_)
          · obtain ⟨⟨hnm, hop23⟩, hi61, rfl⟩ := hbt h51
            have hG52 := (if_pos (by rw [hnm, hi61, Bool.true_and, Bool.and_true, Bool.or_eq_true, decide_eq_true_eq, decide_eq_true_eq]; exact hop23)).symm.trans hG44
            try dsimp only at hG52
            have hkl : ea.kids.length ≤ 1 := hop23.elim (fun h => by rw [(hKx.nm h).1]; decide) (fun h => by rw [(hKx.ix h).1]; exact Nat.le_refl 1)
            refine yA (zf fa76_0 e3_4 (zV 1 rfl z5 rfl rfl rfl rfl rfl rfl rfl (yC (zf fa39_2 e12_4 (zL 0 z9 rfl rfl rfl (zf fa76_2 e3_4 (zV 1 rfl z9 rfl rfl rfl rfl rfl rfl rfl (yC (zf fa76_3 e3_4 (zL 1 z37 rfl rfl rfl (zf fa39_3 e12_4 (zL 0 z37 rfl rfl rfl (w_exs (W := []) (ys := ea.kids) (b := ba) slt37 rfl (Own.nil _ _) rfl (⟨hKx.le, hKx.ks⟩ : Kt _ w.heap.size exsV ea.kids ba) zm0 (by omega) (by decide) (fun news v2 W2 hKs hks hO2 => ?_))))))))))))))
            have hO1 : Own 39 4 v2 news ea.kids.length W2 := (by rw [Nat.zero_add] at hO2; exact hO2)
            obtain ⟨a2, c2, rfl⟩ := hO1.slice
            refine w_st (B' := _) (L' := [_, _, _, _] ++ W2) (fun w h => h) (zf fa76_3 e3_4 (zV 1 rfl z37 rfl rfl rfl rfl rfl rfl rfl (yB (zq (c_held (fun _ => True) mixed (zh2 0 rfl rfl (fun _ _ => trivial) (fun w h => R_fa fa76_3 e3_4) (zh2 2 rfl rfl (fun _ _ => trivial) (fun w h => R_move e0_4) ?_))))))); refine h_two 1 3 (by kernel_rfl) (fun _ _ => trivial) ?_ ?_
            · refine o_run rfl rfl rfl (fun w h => R_ld1 z37 rfl (zc 1 rfl rfl h)) (zH2 3 (fun _ _ => trivial) (o_rt (rb := rb) (ob := Rr sv z) (ok := kl T) (V := (fun e b => .agg (exE e b).toArray)) 3 rfl rfl zm1 TL.ext hG52 (fun w => zR Tryz.func35 rfl rfl rfl) rfl rfl (fun a s9 hX w h => (exr_all T z sv u).2.1 (wantR T z sa [61]) rb w a s9 (hP.now zm1 h) (h.at_ 3 rfl) hksq (by omega) hX) (fun e53 s53 b53 w53 hX53 hG53 hk53 hK53 => ?_)))
              try dsimp only at hG53
              refine zH2 4 (fun _ _ => trivial) (o_bslice rfl slt37 (by decide) rfl rfl (fun sb gsb usb => ?_))
              have hsb : w.heap.size ≤ sb := usb (w, fun j => j = rb) (by simp)
              refine zH2 5 (fun _ _ => trivial) (o_st (B' := _) (L' := [(sb, cel (exE e53 b53) 39), _, _, _, _] ++ (W2 ++ [])) (fun w h => by rw [List.append_nil]; exact h) (o_app (L := []) (W := W2) (news := exE e53 b53) [_, _, _, _, _] rfl slt37 (by decide) rfl hO1 rfl rfl (row_own 0 rfl (fun j u h => h)) rfl (by decide) (by omega) (by omega) (fun v3 W3 hO3 => ?_)))
              replace hO3 : Own 39 4 v3 (news ++ exE e53 b53) (ea.kids ++ [e53]).length W3 := (by rw [List.length_append]; exact hO3)
              obtain ⟨a3, c3, rfl⟩ := hO3.slice
              refine h_st (B' := _) (L' := [_, _, _, _, _] ++ W3) (fun w h => by rw [List.append_nil] at h; exact h) (zh2 6 rfl rfl (fun _ _ => trivial) (fun w h => R_fa fa76_3 e3_4) (zH2 7 (fun _ _ => trivial) (zJ 2 rfl rfl z37 rfl rfl rfl rfl rfl rfl rfl (zN2 (fun _ _ => trivial) (zk (yA (mP e0_4 (zW (ob := Rr sv z) (s1 := (wantR T z s53 [59])) (v0 := .tuple #[]) 4 rfl (fun w => zR Tryz.func27 rfl rfl rfl) rfl rfl (fun w h => want_r T z sv s53 rb w (hP.now zm2 h) (h.at_ 4 rfl) hk53 [59]) ?_))))))))
              have hk54 : (wantR T z s53 [59]).k ≤ T.length := (wantR_k hk53)
              refine yC (zY z76 e3_4 (fun _ h => h.at_ 2 rfl) rfl (zV 3 rfl z76 e2_4 rfl rfl rfl rfl rfl rfl (yB (ze (zt ((zK (B' := _) (L' := [_, _, _, _, _] ++ W3) (fun w h => by exact h) ?_)))))))
              obtain ⟨rfl, rfl⟩ := injP hG53
              refine r_fin (.inl rfl) rfl (.agg rfl e2_4 z76 (fun _ h => h.at_ 3 rfl) rfl .nil) ?_; exact fun w' hw => by obtain ⟨⟨_, _⟩, hb9, hv⟩ := own_exs hO3 (fun p hp => hw.own p (List.mem_append_right _ hp)) (fun p hp => (⟨St.fresh hw zm2 zm4 p hp, lt_of_blk (hw.own p (List.mem_append_right _ hp))⟩ : Nn w w' p.1)) (Mc.snoc (Kt.fin (M := Mc 4 exM) hKs TL.exc4 zm1 hw) hks rfl (hK53.fin TL.ext zm0 hw).M); cases hb9; exact ⟨((_, _), (none, 0), (none, 0)), rfl, hk54, ⟨hv, smsV.nil, smsV.nil⟩, hw.fr _ zm2, hw.at_ 4 rfl⟩
            · refine o_rt (rb := rb) (ob := Rr sv z) (ok := kl T) (V := (fun e b => .agg (exE e b).toArray)) 3 rfl rfl zm1 TL.ext hG52 (fun w => zR Tryz.func35 rfl rfl rfl) rfl rfl (fun a s9 hX w h => (exr_all T z sv u).2.1 (wantR T z sa [61]) rb w a s9 (hP.now zm1 h) (h.at_ 3 rfl) hksq (by omega) hX) (fun e55 s55 b55 w55 hX55 hG55 hk55 hK55 => ?_)
              try dsimp only at hG55
              refine h_two 1 4 (by kernel_rfl) (fun _ _ => trivial) ?_ ?_
              · refine o_run rfl rfl rfl (fun w h => R_ld1 z37 rfl (zc 1 rfl rfl h)) (zH2 4 (fun _ _ => trivial) (o_bslice rfl slt37 (by decide) rfl rfl (fun sb gsb usb => ?_)))
                have hsb : w.heap.size ≤ sb := usb (w, fun j => j = rb) (by simp)
                refine zH2 5 (fun _ _ => trivial) (o_st (B' := _) (L' := [(sb, cel (exE e55 b55) 39), _, _, _, _] ++ (W2 ++ [])) (fun w h => by rw [List.append_nil]; exact h) (o_app (L := []) (W := W2) (news := exE e55 b55) [_, _, _, _, _] rfl slt37 (by decide) rfl hO1 rfl rfl (row_own 0 rfl (fun j u h => h)) rfl (by decide) (by omega) (by omega) (fun v3 W3 hO3 => ?_)))
                replace hO3 : Own 39 4 v3 (news ++ exE e55 b55) (ea.kids ++ [e55]).length W3 := (by rw [List.length_append]; exact hO3)
                obtain ⟨a3, c3, rfl⟩ := hO3.slice
                refine h_st (B' := _) (L' := [_, _, _, _, _] ++ W3) (fun w h => by rw [List.append_nil] at h; exact h) (zh2 6 rfl rfl (fun _ _ => trivial) (fun w h => R_fa fa76_3 e3_4) (zH2 7 (fun _ _ => trivial) (zJ 2 rfl rfl z37 rfl rfl rfl rfl rfl rfl rfl (zN2 (fun _ _ => trivial) (zk (yA (mP e0_4 (zW (ob := Rr sv z) (s1 := (wantR T z s55 [59])) (v0 := .tuple #[]) 4 rfl (fun w => zR Tryz.func27 rfl rfl rfl) rfl rfl (fun w h => want_r T z sv s55 rb w (hP.now zm2 h) (h.at_ 4 rfl) hk55 [59]) ?_))))))))
                have hk56 : (wantR T z s55 [59]).k ≤ T.length := (wantR_k hk55)
                refine yC (zY z76 e3_4 (fun _ h => h.at_ 2 rfl) rfl (zV 3 rfl z76 e2_4 rfl rfl rfl rfl rfl rfl (yB (ze (zt ((zK (B' := _) (L' := [_, _, _, _, _] ++ W3) (fun w h => by exact h) ?_)))))))
                obtain ⟨rfl, rfl⟩ := injP hG55
                refine r_fin (.inl rfl) rfl (.agg rfl e2_4 z76 (fun _ h => h.at_ 3 rfl) rfl .nil) ?_; exact fun w' hw => by obtain ⟨⟨_, _⟩, hb9, hv⟩ := own_exs hO3 (fun p hp => hw.own p (List.mem_append_right _ hp)) (fun p hp => (⟨St.fresh hw zm2 zm4 p hp, lt_of_blk (hw.own p (List.mem_append_right _ hp))⟩ : Nn w w' p.1)) (Mc.snoc (Kt.fin (M := Mc 4 exM) hKs TL.exc4 zm1 hw) hks rfl (hK55.fin TL.ext zm0 hw).M); cases hb9; exact ⟨((_, _), (none, 0), (none, 0)), rfl, hk56, ⟨hv, smsV.nil, smsV.nil⟩, hw.fr _ zm2, hw.at_ 4 rfl⟩
              · refine o_bslice rfl slt37 (by decide) rfl rfl (fun sb gsb usb => ?_)
                have hsb : w.heap.size ≤ sb := usb (w, fun j => j = rb) (by simp)
                refine zH2 1 (fun _ _ => trivial) (o_run rfl rfl rfl (fun w h => R_ld1 z37 rfl (zc 2 rfl rfl h)) (zH2 5 (fun _ _ => trivial) (o_st (B' := _) (L' := [(sb, cel (exE e55 b55) 39), _, _, _, _] ++ (W2 ++ [])) (fun w h => by rw [List.append_nil]; exact h) (o_app (L := []) (W := W2) (news := exE e55 b55) [_, _, _, _, _] rfl slt37 (by decide) rfl hO1 rfl rfl (row_own 0 rfl (fun j u h => h)) rfl (by decide) (by omega) (by omega) (fun v3 W3 hO3 => ?_)))))
                replace hO3 : Own 39 4 v3 (news ++ exE e55 b55) (ea.kids ++ [e55]).length W3 := (by rw [List.length_append]; exact hO3)
                obtain ⟨a3, c3, rfl⟩ := hO3.slice
                refine h_st (B' := _) (L' := [_, _, _, _, _] ++ W3) (fun w h => by rw [List.append_nil] at h; exact h) (zh2 6 rfl rfl (fun _ _ => trivial) (fun w h => R_fa fa76_3 e3_4) (zH2 7 (fun _ _ => trivial) (zJ 2 rfl rfl z37 rfl rfl rfl rfl rfl rfl rfl (zN2 (fun _ _ => trivial) (zk (yA (mP e0_4 (zW (ob := Rr sv z) (s1 := (wantR T z s55 [59])) (v0 := .tuple #[]) 4 rfl (fun w => zR Tryz.func27 rfl rfl rfl) rfl rfl (fun w h => want_r T z sv s55 rb w (hP.now zm2 h) (h.at_ 4 rfl) hk55 [59]) ?_))))))))
                have hk57 : (wantR T z s55 [59]).k ≤ T.length := (wantR_k hk55)
                refine yC (zY z76 e3_4 (fun _ h => h.at_ 2 rfl) rfl (zV 3 rfl z76 e2_4 rfl rfl rfl rfl rfl rfl (yB (ze (zt ((zK (B' := _) (L' := [_, _, _, _, _] ++ W3) (fun w h => by exact h) ?_)))))))
                obtain ⟨rfl, rfl⟩ := injP hG55
                refine r_fin (.inl rfl) rfl (.agg rfl e2_4 z76 (fun _ h => h.at_ 3 rfl) rfl .nil) ?_; exact fun w' hw => by obtain ⟨⟨_, _⟩, hb9, hv⟩ := own_exs hO3 (fun p hp => hw.own p (List.mem_append_right _ hp)) (fun p hp => (⟨St.fresh hw zm2 zm4 p hp, lt_of_blk (hw.own p (List.mem_append_right _ hp))⟩ : Nn w w' p.1)) (Mc.snoc (Kt.fin (M := Mc 4 exM) hKs TL.exc4 zm1 hw) hks rfl (hK55.fin TL.ext zm0 hw).M); cases hb9; exact ⟨((_, _), (none, 0), (none, 0)), rfl, hk57, ⟨hv, smsV.nil, smsV.nil⟩, hw.fr _ zm2, hw.at_ 4 rfl⟩
          · obtain ⟨hcf, rfl⟩ := hbn h51
            have hG58 := (if_neg (nf hcf)).symm.trans hG44
            try dsimp only at hG58
            unfold rPlainB at hG58
            try dsimp only at hG58
            refine zi (zk (yA (mP e0_4 (zW (ob := Rr sv z) (s1 := (wantR T z sa [126])) (v0 := .tuple #[]) 3 rfl (fun w => zR Tryz.func27 rfl rfl rfl) rfl rfl (fun w h => want_r T z sv sa rb w (hP.now zm1 h) (h.at_ 3 rfl) hksq [126]) ?_))))
            have hk59 : (wantR T z sa [126]).k ≤ T.length := (wantR_k hksq)
            refine yC (zf fa76_0 e3_4 (zV 1 rfl z5 rfl rfl rfl rfl rfl rfl rfl (yC (mP e0_4 (zW (ob := Rr sv z) (s1 := (nameR T z (wantR T z sa [126])).2) (v0 := str (nameR T z (wantR T z sa [126])).1) 3 rfl (fun w => zR Tryz.func64 rfl rfl rfl) rfl rfl (fun w h => name_r T z sv (wantR T z sa [126]) rb w (hP.now zm1 h) (h.at_ 3 rfl) hk59) ?_)))))
            have hk60 : (nameR T z (wantR T z sa [126])).2.k ≤ T.length := (nameR_k hk59)
            refine zf fa76_2 e3_4 (zV 1 rfl z9 rfl rfl rfl rfl rfl rfl rfl (yC (mP e0_4 (zW (ob := Rr sv z) (s1 := (wantR T z (nameR T z (wantR T z sa [126])).2 [40])) (v0 := .tuple #[]) 3 rfl (fun w => zR Tryz.func27 rfl rfl rfl) rfl rfl (fun w h => want_r T z sv (nameR T z (wantR T z sa [126])).2 rb w (hP.now zm1 h) (h.at_ 3 rfl) hk60 [40]) ?_))))
            have hk61 : (wantR T z (nameR T z (wantR T z sa [126])).2 [40]).k ≤ T.length := (wantR_k hk60)
            refine yB (zq (c_held (fun w => w.heap[t12b]? = some (cel (exE ea ba) 39)) mixed (zh2 0 rfl rfl (fun w h => h.at_ 0 rfl) (fun w h => R_ldb z39 e12_4 h rfl) (zh2 2 rfl rfl (fun w h => h.at_ 0 rfl) (fun w h => R_move e0_4) ?_)))); refine h_two 1 3 (by kernel_rfl) (fun w h => h.at_ 0 rfl) ?_ ?_
            · refine o_bslice rfl slt37 (by decide) rfl rfl (fun lb glb ulb => zH2 3 (fun w h => h.at_ 1 rfl) (o_rt (rb := rb) (ob := Rr sv z) (ok := kl T) (V := (fun (l : List Ex) (b : Ad) => .slice b.1 l.length b.2)) 4 rfl rfl zm1 TL.exs7 hG58 (fun w => zR Tryz.func67 rfl rfl rfl) rfl rfl (fun a s9 hX w h => (exr_all T z sv u).2.2.2 (wantR T z (nameR T z (wantR T z sa [126])).2 [40]) rb w a s9 (hP.now zm1 h) (h.at_ 4 rfl) hk61 (by omega) hX) (fun e62 s62 b62 w62 hX62 hG62 hk62 hK62 => ?_)))
              try dsimp only at hG62
              refine zH2 4 (fun w h => h.at_ 1 rfl) (o_st (B' := _) (L' := [(lb, cel (exE ea ba) 39)] ++ [_, _, _, _]) (fun w h => h) (o_exs rfl slt37 rfl (own_lit rfl) rfl hK62.2 zm0 (by have := hK62.1; omega) (by decide) (fun news v3 W3 hKn hnl hO3 => ?_)))
              replace hO3 : Own 39 4 v3 (exE ea ba ++ news) (ea :: e62).length W3 := (by rw [List.length_cons, Nat.add_comm]; exact hO3)
              obtain ⟨a3, c3, rfl⟩ := hO3.slice
              refine zh2 5 rfl rfl (fun w h => h.at_ 0 rfl) (fun w h => R_fa fa76_3 e3_4) (zH2 6 (fun w h => h.at_ 0 rfl) (zJ 1 rfl rfl z37 rfl rfl rfl rfl rfl rfl rfl (zN2 (fun w h => h.at_ 0 rfl) (zk (yA (mP e0_4 (zW (ob := Rr sv z) (s1 := (wantR T z s62 [41])) (v0 := .tuple #[]) 3 rfl (fun w => zR Tryz.func27 rfl rfl rfl) rfl rfl (fun w h => want_r T z sv s62 rb w (hP.now zm2 h) (h.at_ 3 rfl) hk62 [41]) ?_)))))))
              have hk63 : (wantR T z s62 [41]).k ≤ T.length := (wantR_k hk62)
              refine yC (mP e0_4 (zW (ob := Rr sv z) (s1 := (wantR T z (wantR T z s62 [41]) [59])) (v0 := .tuple #[]) 3 rfl (fun w => zR Tryz.func27 rfl rfl rfl) rfl rfl (fun w h => want_r T z sv (wantR T z s62 [41]) rb w (hP.now zm2 h) (h.at_ 3 rfl) hk63 [59]) ?_))
              have hk64 : (wantR T z (wantR T z s62 [41]) [59]).k ≤ T.length := (wantR_k hk63)
              refine yC (zY z76 e3_4 (fun _ h => h.at_ 1 rfl) rfl (zV 2 rfl z76 e2_4 rfl rfl rfl rfl rfl rfl (yB (ze (zK (B' := _) (L' := [_, _, _, _] ++ W3) (fun w h => by exact h) ?_)))))
              obtain ⟨rfl, rfl⟩ := injP hG62
              refine r_fin (.inl rfl) rfl (.agg rfl e2_4 z76 (fun _ h => h.at_ 2 rfl) rfl .nil) ?_; exact fun w' hw => by obtain ⟨⟨_, _⟩, hb9, hv⟩ := own_exs hO3 (fun p hp => hw.own p (List.mem_append_right _ hp)) (fun p hp => (⟨St.fresh hw zm2 zm3 p hp, lt_of_blk (hw.own p (List.mem_append_right _ hp))⟩ : Nn w w' p.1)) (Mc.cons4 (hKx.fin TL.ext zm1 hw).M (Kt.fin (M := Mc 4 exM) hKn TL.exc4 zm0 hw)); cases hb9; exact ⟨((_, _), (none, 0), (none, 0)), rfl, hk64, ⟨hv, smsV.nil, smsV.nil⟩, hw.fr _ zm2, hw.at_ 3 rfl⟩
            · refine o_rt (rb := rb) (ob := Rr sv z) (ok := kl T) (V := (fun (l : List Ex) (b : Ad) => .slice b.1 l.length b.2)) 3 rfl rfl zm1 TL.exs7 hG58 (fun w => zR Tryz.func67 rfl rfl rfl) rfl rfl (fun a s9 hX w h => (exr_all T z sv u).2.2.2 (wantR T z (nameR T z (wantR T z sa [126])).2 [40]) rb w a s9 (hP.now zm1 h) (h.at_ 3 rfl) hk61 (by omega) hX) (fun e65 s65 b65 w65 hX65 hG65 hk65 hK65 => ?_)
              try dsimp only at hG65
              refine zH2 1 (fun w h => h.at_ 0 rfl) (o_bslice rfl slt37 (by decide) rfl rfl (fun lb glb ulb => zH2 4 (fun w h => h.at_ 1 rfl) (o_st (B' := _) (L' := [(lb, cel (exE ea ba) 39)] ++ [_, _, _, _]) (fun w h => h) (o_exs rfl slt37 rfl (own_lit rfl) rfl hK65.2 zm0 (by have := hK65.1; omega) (by decide) (fun news v3 W3 hKn hnl hO3 => ?_)))))
              replace hO3 : Own 39 4 v3 (exE ea ba ++ news) (ea :: e65).length W3 := (by rw [List.length_cons, Nat.add_comm]; exact hO3)
              obtain ⟨a3, c3, rfl⟩ := hO3.slice
              refine zh2 5 rfl rfl (fun w h => h.at_ 0 rfl) (fun w h => R_fa fa76_3 e3_4) (zH2 6 (fun w h => h.at_ 0 rfl) (zJ 1 rfl rfl z37 rfl rfl rfl rfl rfl rfl rfl (zN2 (fun w h => h.at_ 0 rfl) (zk (yA (mP e0_4 (zW (ob := Rr sv z) (s1 := (wantR T z s65 [41])) (v0 := .tuple #[]) 3 rfl (fun w => zR Tryz.func27 rfl rfl rfl) rfl rfl (fun w h => want_r T z sv s65 rb w (hP.now zm2 h) (h.at_ 3 rfl) hk65 [41]) ?_)))))))
              have hk66 : (wantR T z s65 [41]).k ≤ T.length := (wantR_k hk65)
              refine yC (mP e0_4 (zW (ob := Rr sv z) (s1 := (wantR T z (wantR T z s65 [41]) [59])) (v0 := .tuple #[]) 3 rfl (fun w => zR Tryz.func27 rfl rfl rfl) rfl rfl (fun w h => want_r T z sv (wantR T z s65 [41]) rb w (hP.now zm2 h) (h.at_ 3 rfl) hk66 [59]) ?_))
              have hk67 : (wantR T z (wantR T z s65 [41]) [59]).k ≤ T.length := (wantR_k hk66)
              refine yC (zY z76 e3_4 (fun _ h => h.at_ 1 rfl) rfl (zV 2 rfl z76 e2_4 rfl rfl rfl rfl rfl rfl (yB (ze (zK (B' := _) (L' := [_, _, _, _] ++ W3) (fun w h => by exact h) ?_)))))
              obtain ⟨rfl, rfl⟩ := injP hG65
              refine r_fin (.inl rfl) rfl (.agg rfl e2_4 z76 (fun _ h => h.at_ 2 rfl) rfl .nil) ?_; exact fun w' hw => by obtain ⟨⟨_, _⟩, hb9, hv⟩ := own_exs hO3 (fun p hp => hw.own p (List.mem_append_right _ hp)) (fun p hp => (⟨St.fresh hw zm2 zm3 p hp, lt_of_blk (hw.own p (List.mem_append_right _ hp))⟩ : Nn w w' p.1)) (Mc.cons4 (hKx.fin TL.ext zm1 hw).M (Kt.fin (M := Mc 4 exM) hKn TL.exc4 zm0 hw)); cases hb9; exact ⟨((_, _), (none, 0), (none, 0)), rfl, hk67, ⟨hv, smsV.nil, smsV.nil⟩, hw.fr _ zm2, hw.at_ 3 rfl⟩
        · have hG68 := (if_pos hi41).symm.trans hG40
          try dsimp only at hG68
          refine yB (zE rfl (yA (zf fa76_0 rfl (zV 0 rfl z5 rfl rfl rfl rfl rfl rfl rfl (yC (mP rfl (w_rt (rb := rb) (ob := Rr sv z) (ok := kl T) (V := (fun (l : List Sm) (b : Ad) => .slice b.1 l.length b.2)) 2 rfl zm0 TL.sms hG68 (fun w => zR Tryz.func65 rfl rfl rfl) rfl rfl (fun a s9 hX w h => ihB s rb w a s9 (hP.now zm0 h) (h.at_ 2 rfl) hk (by omega) hX) (fun e69 s69 b69 w69 hX69 hG69 hk69 hK69 => ?_))))))))
          try dsimp only at hG69
          refine zf fa76_4 rfl (zV 0 rfl z24 rfl rfl rfl rfl rfl rfl rfl (yC (zY z76 rfl (fun _ h => h.at_ 0 rfl) rfl (zV 1 rfl z76 rfl rfl rfl rfl rfl rfl rfl (yB (ze (zt (?_))))))))
          obtain ⟨rfl, rfl⟩ := injP hG69
          refine r_fin (.inl rfl) rfl (.agg rfl rfl z76 (fun _ h => h.at_ 1 rfl) rfl .nil) ?_; exact fun w' hw => ⟨((none, 0), b69, (none, 0)), rfl, hk69, ⟨exsV.nil, (hK69.fin TL.sms zm0 hw), smsV.nil⟩, hw.fr _ zm1, hw.at_ 2 rfl⟩

theorem smr_all (T : List Tk) (z : Nat) (sv : Value) : ∀ n, StmtHr T z sv n ∧ BodyHr T z sv n := by
  intro n
  induction n using Nat.strongRecOn with
  | _ n ih =>
    cases n with
    | zero =>
      refine ⟨fun s rb w a s1 _ _ _ _ h => ?_, fun s rb w a s1 _ _ _ _ h => ?_⟩
      · rw [rStmt] at h; cases h
      · rw [rBody] at h; cases h
    | succ u =>
      exact ⟨fun s rb w a s1 hP hb hk hu h => stmt_r T z sv u (ih u (by omega)).2 s rb w a s1 hP hb hk hu h, fun s rb w a s1 hP hb hk hu h => stmts_r T z sv u (fun q hq => (ih q (by omega)).1) s rb w a s1 hP hb hk hu h⟩
end Go.Proofs.YtaniogadknakoaaGreatDoor
end
