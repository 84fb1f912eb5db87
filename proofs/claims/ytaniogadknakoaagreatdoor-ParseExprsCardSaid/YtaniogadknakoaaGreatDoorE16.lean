/- Layer 13, ParseExprs: Expr tells the tree of the document, with its places, or its fault (the card of the statement); without conditions. Part 16 of 16. -/
import Derived.Test.YtaniogadknakoaaGreatDoorE04
import Derived.Test.YtaniogadknakoaaGreatDoorE15
import Derived.Test.YtaniogadknakoaaGreatDoorE03
import Derived.Test.YtaniogadknakoaaGreatDoorE05
import Derived.Test.YtaniogadknakoaaGreatDoorE10
import Derived.Test.YtaniogadknakoaaGreatDoorE14
import Derived.Test.YtaniogadknakoaaGreatDoorE02
import Derived.HandedShaped
import Derived.Handed
import Derived.Test.YtaniogadknakoaaGreatDoorRows
import Derived.Deep.DeepHandedRow
import Derived.ProofKit
import Derived.LaidMore
import Derived.OpenShut
import Derived.Shelf.Vars
import Derived.Stop.Joined
import Derived.Test.YtaniogadknakoaaGreatDoorTie
import Derived.Test.YtaniogadknakoaaGreatDoorCards
import Derived.SevenTiedAt
section
namespace Go.Proofs.YtaniogadknakoaaGreatDoor
open Go.RowKit Go.Sx
open Go.Tok Go.Tree Go.Prs
abbrev kl (T : List Tk) : R3 → Prop := fun s => s.k ≤ T.length
def exsV7 (W : World) (N : Nat → Prop) (l : List Ex) (b : Option Addr × Nat) : Prop := l.length ≤ 1000000 ∧ exsV W N l b
theorem TL.exs7 : TL exsV7 := ⟨fun h hf hn => ⟨h.1, TL.exs.fr h.2 hf hn⟩, fun h hn => ⟨h.1, TL.exs.mono h.2 hn⟩⟩
theorem bind_id {α : Type} {X : Option α} {g : α} (h : X = some g) : X.bind some = some g := by rw [h]; rfl
theorem levL_x {T : List Tk} {z lev q a b : Nat} {x y : Str} {e : Ex} {s : R3} {p : Ex × R3} (hL : ∀ s, opL T z lev s = opR T z s x y a b) (h : rLevL T z (q + 1) lev e s = some p) (hb : badR s = false) (hx : isR T s x = true) (ha : a ≠ 0) : (rLev T z q (lev + 1) (wantR T z s x)).bind (fun p => rLevL T z q lev (pair a e p.1) p.2) = some p := by
  rw [rLevL_eq, if_neg (nf hb), hL, opR, if_pos hx] at h
  exact (if_neg ha).symm.trans h
theorem levL_y {T : List Tk} {z lev q a b : Nat} {x y : Str} {e : Ex} {s : R3} {p : Ex × R3} (hL : ∀ s, opL T z lev s = opR T z s x y a b) (h : rLevL T z (q + 1) lev e s = some p) (hb : badR s = false) (hx : isR T s x = false) (hy : isR T s y = true) (ha : b ≠ 0) : (rLev T z q (lev + 1) (wantR T z s y)).bind (fun p => rLevL T z q lev (pair b e p.1) p.2) = some p := by
  rw [rLevL_eq, if_neg (nf hb), hL, opR, if_neg (nf hx), if_pos hy] at h
  exact (if_neg ha).symm.trans h
theorem levL_no {T : List Tk} {z lev q a b : Nat} {x y : Str} {e : Ex} {s : R3} {p : Ex × R3} (hL : ∀ s, opL T z lev s = opR T z s x y a b) (h : rLevL T z (q + 1) lev e s = some p) (hb : badR s = false) (hx : isR T s x = false) (hy : isR T s y = false) : some (e, s) = some p := by
  rw [rLevL_eq, if_neg (nf hb), hL, opR, if_neg (nf hx), if_neg (nf hy)] at h
  exact h
theorem levL_b {T : List Tk} {z lev q : Nat} {e : Ex} {s : R3} {p : Ex × R3} (h : rLevL T z (q + 1) lev e s = some p) (hb : badR s = true) : some (e, s) = some p := by
  rw [rLevL_eq, if_pos hb] at h
  exact h
def LevH (T : List Tk) (z : Nat) (sv : Value) (n : Nat) : Prop := ∀ (lev : Nat) (s : R3) (rb : Nat) (w : World) (a : _) (s1 : R3), Pe w rb T z sv → w.heap[rb]? = some (Rr sv z s) → s.k ≤ T.length → n ≤ 1000000 → 1 ≤ lev → lev ≤ 3 → rLev T z n lev s = some (a, s1) →
    Ret Tryz.prog 72 #[.pointer (some ⟨rb, 0, none⟩), .int .i64 (lev : Nat)] w (QT (Rr sv z) (kl T) rb (fun e b => .agg (exE e b).toArray) exT a s1 w)
def SumHr (T : List Tk) (z : Nat) (sv : Value) (n : Nat) : Prop := ∀ (s : R3) (rb : Nat) (w : World) (a : _) (s1 : R3), Pe w rb T z sv → w.heap[rb]? = some (Rr sv z s) → s.k ≤ T.length → n ≤ 1000000 → rSum T z n s = some (a, s1) →
    Ret Tryz.prog 35 #[.pointer (some ⟨rb, 0, none⟩)] w (QT (Rr sv z) (kl T) rb (fun e b => .agg (exE e b).toArray) exT a s1 w)
def SignHr (T : List Tk) (z : Nat) (sv : Value) (n : Nat) : Prop := ∀ (s : R3) (rb : Nat) (w : World) (a : _) (s1 : R3), Pe w rb T z sv → w.heap[rb]? = some (Rr sv z s) → s.k ≤ T.length → n ≤ 1000000 → rSign T z n s = some (a, s1) →
    Ret Tryz.prog 115 #[.pointer (some ⟨rb, 0, none⟩)] w (QT (Rr sv z) (kl T) rb (fun e b => .agg (exE e b).toArray) exT a s1 w)
def SumsHr (T : List Tk) (z : Nat) (sv : Value) (n : Nat) : Prop := ∀ (s : R3) (rb : Nat) (w : World) (a : _) (s1 : R3), Pe w rb T z sv → w.heap[rb]? = some (Rr sv z s) → s.k ≤ T.length → n ≤ 1000000 → rSums T z n s = some (a, s1) →
    Ret Tryz.prog 67 #[.pointer (some ⟨rb, 0, none⟩)] w (QT (Rr sv z) (kl T) rb (fun (l : List Ex) (b : Ad) => .slice b.1 l.length b.2) exsV7 a s1 w)

set_option maxRecDepth 100000 in
set_option maxHeartbeats 2000000 in
theorem sum_r (T : List Tk) (z : Nat) (sv : Value) (u : Nat) (ih : LevH T z sv u) (s : R3) (rb : Nat) (w : World) (a9 : Ex) (s9 : R3) (hP : Pe w rb T z sv) (hb : w.heap[rb]? = some (Rr sv z s)) (hk : s.k ≤ T.length) (hu : u + 1 ≤ 1000000) (h0 : rSum T z (u + 1) s = some (a9, s9)) :
    Ret Tryz.prog 35 #[.pointer (some ⟨rb, 0, none⟩)] w (QT (Rr sv z) (kl T) rb (fun e b => .agg (exE e b).toArray) exT a9 s9 w) := by
  have hlen := hP.len
  have hG := bind_id (rSum_eq.symm.trans h0)
  refine enter (S := (fun j => j = rb)) (l := [_]) (L := [(rb, Rr sv z s)]) 5 Tryz.func35 rfl rfl rfl (St.start1 w hb rfl) ?_; refine yA ?_; refine w_alloc zr39 (fun t2b gt2b ut2b => ?_)
  refine yC ?_; refine mP rfl ?_; refine w_rt (rb := rb) (ob := Rr sv z) (ok := kl T) (V := (fun e b => .agg (exE e b).toArray)) 1 rfl (.head _) TL.ext hG (fun w => zR Tryz.func72 rfl rfl rfl) rfl rfl (fun a s9 hX w h => ih 1 s rb w a s9 (hP.now (.head _) h) (h.at_ 1 rfl) hk (by omega) (by decide) (by decide) hX) (fun e2 s2 b2 w2 hX2 hG2 hk2 hK2 => ?_)
  try dsimp only at hG2
  refine w_store 0 rfl z39 rfl rfl rfl rfl rfl rfl rfl ?_; refine yB ?_; refine ze ?_
  obtain ⟨rfl, rfl⟩ : a9 = _ ∧ s9 = _ := (by have := Option.some.inj hG2; exact ⟨(congrArg Prod.fst this).symm, (congrArg Prod.snd this).symm⟩)
  refine r_fin (.inl rfl) rfl (.agg rfl rfl z39 (fun _ h => h.at_ 0 rfl) rfl .nil) ?_; exact fun w' hw => ⟨b2, rfl, hk2, (hK2.fin TL.ext (.head _) hw), hw.fr _ (.tail _ (.head _)), hw.at_ 1 rfl⟩

set_option maxRecDepth 100000 in
set_option maxHeartbeats 8000000 in
theorem level_r (T : List Tk) (z : Nat) (sv : Value) (u : Nat) (lev : Nat) (ih : ∀ q, q ≤ u → LevH T z sv q) (ihS : SignHr T z sv u) (hl1 : 1 ≤ lev) (hl3 : lev ≤ 3) (s : R3) (rb : Nat) (w : World) (a9 : Ex) (s9 : R3) (hP : Pe w rb T z sv) (hb : w.heap[rb]? = some (Rr sv z s)) (hk : s.k ≤ T.length) (hu : u + 1 ≤ 1000000) (h0 : rLev T z (u + 1) lev s = some (a9, s9)) :
    Ret Tryz.prog 72 #[.pointer (some ⟨rb, 0, none⟩), .int .i64 (lev : Nat)] w (QT (Rr sv z) (kl T) rb (fun e b => .agg (exE e b).toArray) exT a9 s9 w) := by
  have hlen := hP.len
  have hG := rLev_eq.symm.trans h0
  refine enter (S := (fun j => j = rb)) (l := [_, _]) (L := [(rb, Rr sv z s)]) 60 Tryz.func72 rfl rfl rfl (St.start1 w hb rfl) ?_; refine yA ?_; refine w_alloc zr39 (fun t4b gt4b ut4b => ?_)
  refine yB ?_; refine zq ?_; refine yA ?_; refine mI rfl ?_; refine w_r (fun _ => R_eq rfl rfl) rfl rfl ?_; refine yB ?_; refine zD rfl (fun h2 => ?_) (fun h2 => ?_)
  · have hG3 := bind_id ((if_pos (by omega)).symm.trans hG)
    try dsimp only at hG3
    refine yA ?_; refine mP rfl ?_; refine w_rt (rb := rb) (ob := Rr sv z) (ok := kl T) (V := (fun e b => .agg (exE e b).toArray)) 1 rfl (.head _) TL.ext hG3 (fun w => zR Tryz.func115 rfl rfl rfl) rfl rfl (fun a s9 hX w h => ihS s rb w a s9 (hP.now (.head _) h) (h.at_ 1 rfl) hk (by omega) hX) (fun e4 s4 b4 w4 hX4 hG4 hk4 hK4 => ?_)
    try dsimp only at hG4
    refine w_store 0 rfl z39 rfl rfl rfl rfl rfl rfl rfl ?_; refine yB ?_; refine ze ?_; refine zt (?_)
    obtain ⟨rfl, rfl⟩ : a9 = _ ∧ s9 = _ := (by have := Option.some.inj hG4; exact ⟨(congrArg Prod.fst this).symm, (congrArg Prod.snd this).symm⟩)
    refine r_fin (.inl rfl) rfl (.agg rfl rfl z39 (fun _ h => h.at_ 0 rfl) rfl .nil) ?_; exact fun w' hw => ⟨b4, rfl, hk4, (hK4.fin TL.ext (.head _) hw), hw.fr _ (.tail _ (.head _)), hw.at_ 1 rfl⟩
  · have hG5 := (if_neg (by omega)).symm.trans hG
    try dsimp only at hG5
    refine zi ?_; refine zk ?_; refine yA ?_; refine zS slt56 (by decide) rfl rfl (fun b6 gb6 ub6 => ?_)
    refine zS slt55 (by decide) rfl rfl (fun b7 gb7 ub7 => ?_)
    refine za (v := .slice _ _ _) rfl ?_; refine za (v := .slice _ _ _) rfl ?_; refine yB ?_; refine c_cut (fun e B L => ∃ (sgb opb : Nat) (x y : Str) (a b : Nat), e 0 = .pointer (some ⟨rb, 0, none⟩) ∧ e 1 = .int .i64 (lev : Nat) ∧ e 4 = .pointer (some ⟨t4b, 0, none⟩) ∧ e 5 = .slice (some ⟨sgb, 0, none⟩) 2 2 ∧ e 6 = .slice (some ⟨opb, 0, none⟩) 2 2 ∧ B = [(w, (fun j => j = rb))] ∧ L = [(opb, cel [.int .u8 (a : Nat), .int .u8 (b : Nat)] 5), (sgb, cel [str x, str y] 9), (t4b, cel [.int .u8 0, .int .i64 0, str [], .slice none 0 0] 39), (rb, Rr sv z s)] ∧ (∀ s, opL T z lev s = opR T z s x y a b) ∧ a ≠ 0 ∧ b ≠ 0 ∧ a ≠ 2 ∧ a ≠ 3 ∧ b ≠ 2 ∧ b ≠ 3 ∧ a < 256 ∧ b < 256) ?_ ?_
    · refine yA ?_; refine mI rfl ?_; refine w_r (fun _ => R_eq rfl rfl) rfl rfl ?_; refine yB ?_; refine zD rfl (fun h8 => ?_) (fun h8 => ?_)
      · refine zr ?_; refine zS slt56 (by decide) rfl rfl (fun b9 gb9 ub9 => ?_)
        refine zS slt55 (by decide) rfl rfl (fun b10 gb10 ub10 => ?_)
        refine za (v := .slice _ _ _) rfl ?_; refine za (v := .slice _ _ _) rfl ?_; refine zn ?_; refine k_st (fun w' h => h.pick [0, 1, 4, 5] (by decide)) ?_; exact k_mid ⟨b9, b10, [42], [47], 8, 9, rfl, rfl, rfl, rfl, rfl, rfl, rfl, (fun s => if_pos (by omega)), (by decide)⟩
      · refine zi ?_; refine k_st (fun w' h => h.pick [0, 1, 2, 3] (by decide)) ?_; exact k_mid ⟨b6, b7, [43], [45], 6, 7, rfl, rfl, rfl, rfl, rfl, rfl, rfl, (fun s => if_neg (by omega)), (by decide)⟩
    rintro e B L ⟨sgb, opb, x, y, a, b, e0_1, e1_1, e4_1, e5_1, e6_1, rfl, rfl, hL, hxy⟩
    refine yA ?_; refine mP e0_1 ?_; refine mI e1_1 ?_; refine w_r (fun _ => R_addi rfl rfl (by omega)) rfl rfl ?_; refine w_rt (rb := rb) (ob := Rr sv z) (ok := kl T) (V := (fun e b => .agg (exE e b).toArray)) 3 rfl (.head _) TL.ext hG5 (fun w => zR Tryz.func72 rfl rfl rfl) rfl rfl (fun a s9 hX w h => ih u (by omega) (lev + 1) s rb w a s9 (hP.now (.head _) h) (h.at_ 3 rfl) hk (by omega) (by omega) (by omega) hX) (fun e11 s11 b11 w11 hX11 hG11 hk11 hK11 => ?_)
    try dsimp only at hG11
    refine w_alloc zr39 (fun t7b gt7b ut7b => ?_)
    refine w_store 0 rfl z39 rfl rfl rfl rfl rfl rfl rfl ?_; refine yB ?_; refine zq ?_; refine zB ?_; refine c_loop (fun m e B L => ∃ (q : Nat) (e1 : Ex) (s1 : R3) (b1 : Ad) (xb : Bw), e 0 = .pointer (some ⟨rb, 0, none⟩) ∧ e 1 = .int .i64 (lev : Nat) ∧ e 4 = .pointer (some ⟨t4b, 0, none⟩) ∧ e 5 = .slice (some ⟨sgb, 0, none⟩) 2 2 ∧ e 6 = .slice (some ⟨opb, 0, none⟩) 2 2 ∧ e 7 = .pointer (some ⟨t7b, 0, none⟩) ∧ B = [xb, (w, fun j => j = rb)] ∧ L = [(t7b, cel (exE e1 b1) 39), (opb, cel [.int .u8 (a : Nat), .int .u8 (b : Nat)] 5), (sgb, cel [str x, str y] 9), (t4b, cel [.int .u8 0, .int .i64 0, str [], .slice none 0 0] 39), (rb, Rr sv z s1)] ∧ q ≤ u ∧ rLevL T z q lev e1 s1 = some (a9, s9) ∧ Kt xb w.heap.size exT e1 b1 ∧ s1.k ≤ T.length ∧ m = q + 1) _ ⟨u, e11, s11, b11, _, e0_1, e1_1, e4_1, e5_1, e6_1, rfl, rfl, rfl, Nat.le_refl _, hG11, hK11, hk11, rfl⟩ ?_
    rintro m e B L ⟨q, e1, s1, b1, xb, e0_2, e1_2, e4_2, e5_2, e6_2, e7_2, rfl, rfl, hqm, hG0, hK, hk1, rfl⟩
    obtain ⟨q', rfl⟩ : ∃ q', q = q' + 1 := (by cases q with | zero => (rw [rLevL] at hG0; cases hG0) | succ q' => exact ⟨q', rfl⟩)
    refine zq ?_; refine yA ?_; refine mP e0_2 ?_; refine zC (fun w => zR Tryz.func25 rfl rfl rfl) rfl rfl (fun w h => bad_r T z sv s1 rb w (hP.now (.tail _ (.head _)) h) (h.at_ 4 rfl) hk1) ?_
    cases hi13 : badR s1
    · have hbf := hi13
      refine w_r (fun _ => R_not rfl) rfl rfl ?_; refine yB ?_; refine zE rfl ?_; refine zi ?_; refine zk ?_; refine zB ?_; refine yA ?_; refine aI rfl ?_; refine yB ?_; refine zq ?_; refine yA ?_; refine aI rfl ?_; refine yB ?_; refine zB ?_; refine c_rounds 3 ?_; refine zq ?_; refine yA ?_; refine mI rfl ?_; refine w_r (fun _ => R_lt rfl rfl) rfl rfl ?_; refine mB rfl ?_; refine zw rfl rfl (congrArg Value.bool (decide_eq_true (by decide))) ?_; refine mI rfl ?_; refine zw rfl rfl (congrArg Value.bool (decide_eq_true (by decide))) ?_
      refine w_r (fun _ => R_eq rfl rfl) rfl rfl ?_; refine w_r (v := .bool _) (fun _ => zT (congrArg Value.bool (decide_eq_true (by decide))) rfl) rfl rfl ?_; refine yB ?_; refine zE (congrArg Value.bool (decide_eq_true (by decide))) ?_; refine zi ?_; refine zk ?_; refine zq ?_; refine zB ?_; refine yA ?_; refine mP e0_2 ?_; refine mS e5_2 ?_; refine mI rfl ?_; refine w_r (fun _ => R_iaN (i := 0) sl56 rfl rfl (by first | omega | decide)) rfl rfl ?_; refine zl z9 rfl (fun _ h => by first | exact zc 0 rfl rfl h | exact zc 1 rfl rfl h | exact zc 2 rfl rfl h | exact zc 3 rfl rfl h | exact zc 4 rfl rfl h) ?_
      refine w_rm (T := T) (s := s1) (s1 := wantR T z s1 x) (x := x) (ob := Rr sv z) 4 rfl (fun w => zR Tryz.func61 rfl rfl rfl) rfl rfl (fun w h => may_r T z sv s1 rb w (hP.now (.tail _ (.head _)) h) (h.at_ 4 rfl) hk1 x) (fun hi14 => ?_) (fun hi14 => ?_)
      · have hG15 := levL_x hL hG0 hbf hi14 hxy.1
        try dsimp only at hG15
        have hlt14 := isR_lt hi14; have hkw14 : (wantR T z s1 x).k ≤ T.length := wantR_k hk1
        refine yB ?_; refine zE rfl ?_; refine zr ?_; refine mS e6_2 ?_; refine mI rfl ?_; refine w_r (fun _ => R_iaN (i := 0) sl55 rfl rfl (by first | omega | decide)) rfl rfl ?_; refine zl z5 rfl (fun _ h => by first | exact zc 0 rfl rfl h | exact zc 1 rfl rfl h | exact zc 2 rfl rfl h | exact zc 3 rfl rfl h | exact zc 4 rfl rfl h) ?_; refine aI rfl ?_; refine zn ?_; refine b_on (zk ?_); refine zr ?_; refine mI rfl ?_; refine w_r (fun _ => R_addi rfl rfl (by omega)) rfl rfl ?_; refine aI rfl ?_; refine zn ?_; refine k_rounds ?_; refine zq ?_; refine yA ?_; refine mI rfl ?_
        refine w_r (fun _ => R_lt rfl rfl) rfl rfl ?_; refine mB rfl ?_; refine zw rfl rfl (congrArg Value.bool (decide_eq_true (by decide))) ?_; refine mI rfl ?_; refine zw rfl rfl (congrArg Value.bool (decide_eq_true (by decide))) ?_; refine w_r (fun _ => R_eq rfl rfl) rfl rfl ?_; refine w_r (v := .bool _) (fun _ => zT (congrArg Value.bool (decide_eq_true (by decide))) rfl) rfl rfl ?_; refine yB ?_; refine zD rfl (fun h16 => ?_) (fun h16 => ?_)
        · exfalso; omega
        · refine c_exit ?_; refine zx (zx (b_here rfl (zk ?_))); refine zq ?_; refine yA ?_; refine mI rfl ?_; refine w_r (fun _ => R_eq rfl rfl) rfl rfl ?_; refine yB ?_; refine zD rfl (fun h17 => ?_) (fun h17 => ?_)
          · exfalso; omega
          · refine zi ?_; refine zk ?_; refine yA ?_; refine mP e0_2 ?_; refine mI e1_2 ?_; refine w_r (fun _ => R_addi rfl rfl (by omega)) rfl rfl ?_; refine w_rt (rb := rb) (ob := Rr sv z) (ok := kl T) (V := (fun e b => .agg (exE e b).toArray)) 4 rfl (.tail _ (.head _)) TL.ext hG15 (fun w => zR Tryz.func72 rfl rfl rfl) rfl rfl (fun a s9 hX w h => ih q' (by omega) (lev + 1) (wantR T z s1 x) rb w a s9 (hP.now (.tail _ (.head _)) h) (h.at_ 4 rfl) hkw14 (by omega) (by omega) (by omega) hX) (fun e18 s18 b18 w18 hX18 hG18 hk18 hK18 => ?_)
            try dsimp only at hG18
            refine w_alloc zr39 (fun t10b gt10b ut10b => ?_)
            refine w_store 0 rfl z39 rfl rfl rfl rfl rfl rfl rfl ?_; refine yB ?_; refine zr ?_; refine mI rfl ?_; refine zf fa39_1 e7_2 ?_; refine zl z3 rfl (fun _ h => zc 1 rfl rfl h) ?_; refine w_loadA z39 e7_2 (fun _ h => h.at_ 1 rfl) rfl ?_; refine w_loadA z39 rfl (fun _ h => h.at_ 0 rfl) rfl ?_; refine zS slt37 (by decide) rfl rfl (fun kb gkb ukb => ?_)
            refine w_r (fun _ => R_build bt39 rfl) rfl rfl ?_; refine w_store 2 rfl z39 e7_2 rfl rfl rfl rfl rfl rfl ?_; refine zn ?_; refine b_on (?_)
            refine k_st (fun w' h => h.pick [0, 2, 3, 4, 5, 6] (by decide)) ?_; refine k_let (fun w7 h7 hN7 => ?_)
            have h8 := h7.drop (List.sublist_cons_self _ _)
            have hK7 : Kt (w7, inL _) w.heap.size exT (pair a e1 e18) (some ⟨kb, 0, none⟩, 2) := ⟨Nat.le_refl _, kid2 (hK.now TL.ext (.tail _ (.head _)) h8) (hK18.now TL.ext (.head _) h8) (h7.at_ 0 rfl) (hN7 _ (by have := ukb (w, fun j => j = rb) (by simp); exact this)), fun h => absurd (show a = 2 from h) (by omega), fun h => absurd (show a = 3 from h) (by omega)⟩
            refine k_st (fun w' h => h.keep2 (.tail _ (.tail _ (.head _)))) ?_; exact k_again _ (by omega) ⟨q', _, s18, _, _, e0_2, e1_2, e4_2, e5_2, e6_2, e7_2, rfl, rfl, by omega, hG18, hK7, hk18, rfl⟩
      · refine yB ?_; refine c_condF rfl ?_; refine zi ?_; refine b_on (zk ?_); refine zr ?_; refine mI rfl ?_; refine w_r (fun _ => R_addi rfl rfl (by omega)) rfl rfl ?_; refine aI rfl ?_; refine zn ?_; refine k_rounds ?_; refine zq ?_; refine yA ?_; refine mI rfl ?_; refine w_r (fun _ => R_lt rfl rfl) rfl rfl ?_; refine mB rfl ?_; refine zw rfl rfl (congrArg Value.bool (decide_eq_true (by decide))) ?_; refine mI rfl ?_; refine zw rfl rfl (congrArg Value.bool (decide_eq_true (by decide))) ?_; refine w_r (fun _ => R_eq rfl rfl) rfl rfl ?_
        refine w_r (v := .bool _) (fun _ => zT (congrArg Value.bool (decide_eq_true (by decide))) rfl) rfl rfl ?_; refine yB ?_; refine zE (congrArg Value.bool (decide_eq_true (by decide))) ?_; refine zi ?_; refine zk ?_; refine zq ?_; refine zB ?_; refine yA ?_; refine mP e0_2 ?_; refine mS e5_2 ?_; refine mI rfl ?_; refine w_r (fun _ => R_iaN (i := 1) sl56 rfl rfl (by first | omega | decide)) rfl rfl ?_; refine zl z9 rfl (fun _ h => by first | exact zc 0 rfl rfl h | exact zc 1 rfl rfl h | exact zc 2 rfl rfl h | exact zc 3 rfl rfl h | exact zc 4 rfl rfl h) ?_
        refine w_rm (T := T) (s := s1) (s1 := wantR T z s1 y) (x := y) (ob := Rr sv z) 4 rfl (fun w => zR Tryz.func61 rfl rfl rfl) rfl rfl (fun w h => may_r T z sv s1 rb w (hP.now (.tail _ (.head _)) h) (h.at_ 4 rfl) hk1 y) (fun hi20 => ?_) (fun hi20 => ?_)
        · have hG21 := levL_y hL hG0 hbf hi14 hi20 hxy.2.1
          try dsimp only at hG21
          have hlt20 := isR_lt hi20; have hkw20 : (wantR T z s1 y).k ≤ T.length := wantR_k hk1
          refine yB ?_; refine zE rfl ?_; refine zr ?_; refine mS e6_2 ?_; refine mI rfl ?_; refine w_r (fun _ => R_iaN (i := 1) sl55 rfl rfl (by first | omega | decide)) rfl rfl ?_; refine zl z5 rfl (fun _ h => by first | exact zc 0 rfl rfl h | exact zc 1 rfl rfl h | exact zc 2 rfl rfl h | exact zc 3 rfl rfl h | exact zc 4 rfl rfl h) ?_; refine aI rfl ?_; refine zn ?_; refine b_on (zk ?_); refine zr ?_; refine mI rfl ?_; refine w_r (fun _ => R_addi rfl rfl (by omega)) rfl rfl ?_; refine aI rfl ?_; refine zn ?_; refine k_rounds ?_; refine zq ?_; refine yA ?_; refine mI rfl ?_
          refine w_r (fun _ => R_lt rfl rfl) rfl rfl ?_; refine mB rfl ?_; refine zs rfl rfl (congrArg Value.bool (decide_eq_false (by decide))) ?_; refine zs rfl rfl (congrArg Value.bool (decide_eq_false (by decide))) ?_; refine w_r (v := .bool _) (fun _ => zF (congrArg Value.bool (decide_eq_false (by decide))) rfl) rfl rfl ?_; refine yB ?_; refine c_condF rfl ?_; refine c_exit ?_; refine zx (zx (b_here rfl (zk ?_))); refine zq ?_; refine yA ?_; refine mI rfl ?_; refine w_r (fun _ => R_eq rfl rfl) rfl rfl ?_; refine yB ?_; refine zD rfl (fun h22 => ?_) (fun h22 => ?_)
          · exfalso; omega
          · refine zi ?_; refine zk ?_; refine yA ?_; refine mP e0_2 ?_; refine mI e1_2 ?_; refine w_r (fun _ => R_addi rfl rfl (by omega)) rfl rfl ?_; refine w_rt (rb := rb) (ob := Rr sv z) (ok := kl T) (V := (fun e b => .agg (exE e b).toArray)) 4 rfl (.tail _ (.head _)) TL.ext hG21 (fun w => zR Tryz.func72 rfl rfl rfl) rfl rfl (fun a s9 hX w h => ih q' (by omega) (lev + 1) (wantR T z s1 y) rb w a s9 (hP.now (.tail _ (.head _)) h) (h.at_ 4 rfl) hkw20 (by omega) (by omega) (by omega) hX) (fun e23 s23 b23 w23 hX23 hG23 hk23 hK23 => ?_)
            try dsimp only at hG23
            refine w_alloc zr39 (fun t10b gt10b ut10b => ?_)
            refine w_store 0 rfl z39 rfl rfl rfl rfl rfl rfl rfl ?_; refine yB ?_; refine zr ?_; refine mI rfl ?_; refine zf fa39_1 e7_2 ?_; refine zl z3 rfl (fun _ h => zc 1 rfl rfl h) ?_; refine w_loadA z39 e7_2 (fun _ h => h.at_ 1 rfl) rfl ?_; refine w_loadA z39 rfl (fun _ h => h.at_ 0 rfl) rfl ?_; refine zS slt37 (by decide) rfl rfl (fun kb gkb ukb => ?_)
            refine w_r (fun _ => R_build bt39 rfl) rfl rfl ?_; refine w_store 2 rfl z39 e7_2 rfl rfl rfl rfl rfl rfl ?_; refine zn ?_; refine b_on (?_)
            refine k_st (fun w' h => h.pick [0, 2, 3, 4, 5, 6] (by decide)) ?_; refine k_let (fun w7 h7 hN7 => ?_)
            have h8 := h7.drop (List.sublist_cons_self _ _)
            have hK7 : Kt (w7, inL _) w.heap.size exT (pair b e1 e23) (some ⟨kb, 0, none⟩, 2) := ⟨Nat.le_refl _, kid2 (hK.now TL.ext (.tail _ (.head _)) h8) (hK23.now TL.ext (.head _) h8) (h7.at_ 0 rfl) (hN7 _ (by have := ukb (w, fun j => j = rb) (by simp); exact this)), fun h => absurd (show b = 2 from h) (by omega), fun h => absurd (show b = 3 from h) (by omega)⟩
            refine k_st (fun w' h => h.keep2 (.tail _ (.tail _ (.head _)))) ?_; exact k_again _ (by omega) ⟨q', _, s23, _, _, e0_2, e1_2, e4_2, e5_2, e6_2, e7_2, rfl, rfl, by omega, hG23, hK7, hk23, rfl⟩
        · have hG25 := levL_no hL hG0 hbf hi14 hi20
          try dsimp only at hG25
          refine yB ?_; refine c_condF rfl ?_; refine zi ?_; refine b_on (zk ?_); refine zr ?_; refine mI rfl ?_; refine w_r (fun _ => R_addi rfl rfl (by omega)) rfl rfl ?_; refine aI rfl ?_; refine zn ?_; refine k_rounds ?_; refine zq ?_; refine yA ?_; refine mI rfl ?_; refine w_r (fun _ => R_lt rfl rfl) rfl rfl ?_; refine mB rfl ?_; refine zs rfl rfl (congrArg Value.bool (decide_eq_false (by decide))) ?_; refine zs rfl rfl (congrArg Value.bool (decide_eq_false (by decide))) ?_; refine w_r (v := .bool _) (fun _ => zF (congrArg Value.bool (decide_eq_false (by decide))) rfl) rfl rfl ?_
          refine yB ?_; refine c_condF rfl ?_; refine c_exit ?_; refine zx (zx (b_here rfl (zk ?_))); refine zq ?_; refine yA ?_; refine mI rfl ?_; refine w_r (fun _ => R_eq rfl rfl) rfl rfl ?_; refine yB ?_; refine zE (congrArg Value.bool (decide_eq_true (by decide))) ?_; refine c_exit ?_; refine zx (b_past rfl (zx (b_here rfl (zk ?_)))); refine yA ?_; refine w_loadA z39 e7_2 (fun _ h => h.at_ 0 rfl) rfl ?_; refine w_store 3 rfl z39 e4_2 rfl rfl rfl rfl rfl rfl ?_; refine yB ?_; refine ze ?_
          obtain ⟨rfl, rfl⟩ : a9 = _ ∧ s9 = _ := (by have := Option.some.inj hG25; exact ⟨(congrArg Prod.fst this).symm, (congrArg Prod.snd this).symm⟩)
          refine r_fin (.inl rfl) rfl (.agg rfl e4_2 z39 (fun _ h => h.at_ 3 rfl) rfl .nil) ?_; exact fun w' hw => ⟨b1, rfl, hk1, hK.fin TL.ext (.head _) hw, hw.fr _ (.tail _ (.head _)), hw.at_ 4 rfl⟩
    · have hG26 := levL_b hG0 hi13
      try dsimp only at hG26
      refine w_r (fun _ => R_not rfl) rfl rfl ?_; refine yB ?_; refine c_condF rfl ?_; refine c_exit ?_; refine zx (zx (b_here rfl (zk ?_)))
      refine yA ?_; refine w_loadA z39 e7_2 (fun _ h => h.at_ 0 rfl) rfl ?_; refine w_store 3 rfl z39 e4_2 rfl rfl rfl rfl rfl rfl ?_; refine yB ?_; refine ze ?_
      obtain ⟨rfl, rfl⟩ : a9 = _ ∧ s9 = _ := (by have := Option.some.inj hG26; exact ⟨(congrArg Prod.fst this).symm, (congrArg Prod.snd this).symm⟩)
      refine r_fin (.inl rfl) rfl (.agg rfl e4_2 z39 (fun _ h => h.at_ 3 rfl) rfl .nil) ?_; exact fun w' hw => ⟨b1, rfl, hk1, hK.fin TL.ext (.head _) hw, hw.fr _ (.tail _ (.head _)), hw.at_ 4 rfl⟩

theorem numR_at {T : List Tk} {z : Nat} {s : R3} (hb : badR s = false) (h : s.k < T.length) : isNumR T z s = decide (T[s.k].1 = 2) := by
  unfold isNumR
  rw [hb, drop_at h]; rfl
theorem numR_end {T : List Tk} {z : Nat} {s : R3} (h : T.length ≤ s.k) : isNumR T z s = false := by
  unfold isNumR
  rw [List.drop_eq_nil_of_le h, Bool.and_eq_false_iff]; exact .inr rfl

set_option maxRecDepth 100000 in
set_option maxHeartbeats 8000000 in
theorem sign_r (T : List Tk) (z : Nat) (sv : Value) (u : Nat) (ihS : SignHr T z sv u) (ihP : SumHr T z sv u) (ihL : SumsHr T z sv u) (s : R3) (rb : Nat) (w : World) (a9 : Ex) (s9 : R3) (hP : Pe w rb T z sv) (hb : w.heap[rb]? = some (Rr sv z s)) (hk : s.k ≤ T.length) (hu : u + 1 ≤ 1000000) (h0 : rSign T z (u + 1) s = some (a9, s9)) :
    Ret Tryz.prog 115 #[.pointer (some ⟨rb, 0, none⟩)] w (QT (Rr sv z) (kl T) rb (fun e b => .agg (exE e b).toArray) exT a9 s9 w) := by
  have hlen := hP.len
  obtain ⟨ta, tc, hsv, htk⟩ := hP.tk
  have htok : s.k < T.length → ∃ (h : s.k < T.length) (tb t0 : Nat), ta = some ⟨tb, t0, none⟩ ∧ tb ≠ rb ∧ ∀ (j : Nat) v, (tkC T[s.k])[j]? = some v → w.cell? ⟨tb, t0 + s.k * 3 + j, none⟩ = some v := (fun h => by obtain ⟨b, o, h1, h0, h2⟩ := htk s.k T[s.k] (List.getElem?_eq_getElem h); exact ⟨h, b, o, h1, h0, h2⟩)
  have hpb := place_b (k := s.k) hP
  have hG := rSign_eq.symm.trans h0
  refine enter (S := (fun j => j = rb)) (l := [_]) (L := [(rb, Rr sv z s)]) 129 Tryz.func115 rfl rfl rfl (St.start1 w hb rfl) ?_; refine yA ?_; refine w_alloc zr39 (fun t2b gt2b ut2b => ?_)
  refine yC ?_; refine mP rfl ?_; refine zC (fun w => zR Tryz.func63 rfl rfl rfl) rfl rfl (fun w h => place_r T z sv s rb w (hP.now (.head _) h) (h.at_ 1 rfl) hk) ?_; refine aI rfl ?_; refine yB ?_; refine zq ?_; refine yA ?_; refine mP rfl ?_; refine zC (fun w => zR Tryz.func25 rfl rfl rfl) rfl rfl (fun w h => bad_r T z sv s rb w (hP.now (.head _) h) (h.at_ 1 rfl) hk) ?_
  cases hi2 : badR s
  · have hG3 := (if_neg (nf hi2)).symm.trans hG
    try dsimp only at hG3
    have hbf := hi2
    refine yB ?_; refine c_condF rfl ?_; refine zi ?_; refine zk ?_; refine zq ?_; refine yA ?_; refine mP rfl ?_; refine zC (fun w => zR Tryz.func29 rfl rfl rfl) rfl rfl (fun w h => is_r T z sv s rb w (hP.now (.head _) h) (h.at_ 1 rfl) hk [45]) ?_
    cases hi4 : isR T s [45]
    · have hG5 := (if_neg (nf hi4)).symm.trans hG3
      try dsimp only at hG5
      refine yB ?_; refine c_condF rfl ?_; refine zi ?_; refine zk ?_; refine zq ?_; refine yA ?_; refine mP rfl ?_; refine w_rm (T := T) (s := s) (s1 := wantR T z s [40]) (x := [40]) (ob := Rr sv z) 1 rfl (fun w => zR Tryz.func61 rfl rfl rfl) rfl rfl (fun w h => may_r T z sv s rb w (hP.now (.head _) h) (h.at_ 1 rfl) hk [40]) (fun hi6 => ?_) (fun hi6 => ?_)
      · have hG7 := (if_pos hi6).symm.trans hG5
        try dsimp only at hG7
        have hlt6 := isR_lt hi6; have hkw6 : (wantR T z s [40]).k ≤ T.length := wantR_k hk
        refine yB ?_; refine zE rfl ?_; refine yA ?_; refine mP rfl ?_; refine w_rt (rb := rb) (ob := Rr sv z) (ok := kl T) (V := (fun e b => .agg (exE e b).toArray)) 1 rfl (.head _) TL.ext hG7 (fun w => zR Tryz.func35 rfl rfl rfl) rfl rfl (fun a s9 hX w h => ihP (wantR T z s [40]) rb w a s9 (hP.now (.head _) h) (h.at_ 1 rfl) hkw6 (by omega) hX) (fun e8 s8 b8 w8 hX8 hG8 hk8 hK8 => ?_)
        try dsimp only at hG8
        refine w_alloc zr39 (fun t5b gt5b ut5b => ?_)
        refine w_store 0 rfl z39 rfl rfl rfl rfl rfl rfl rfl ?_; refine yC ?_; refine mP rfl ?_; refine w_rv (ob := Rr sv z) (s1 := (wantR T z s8 [41])) (v0 := .tuple #[]) 2 rfl (fun w => zR Tryz.func27 rfl rfl rfl) rfl rfl (fun w h => want_r T z sv s8 rb w (hP.now (.tail _ (.head _)) h) (h.at_ 2 rfl) hk8 [41]) ?_
        have hk10 : (wantR T z s8 [41]).k ≤ T.length := (wantR_k hk8)
        refine yC ?_; refine mI rfl ?_; refine zf fa39_1 rfl ?_; refine w_store 0 rfl z3 rfl rfl rfl rfl rfl rfl rfl ?_; refine yC ?_; refine w_loadA z39 rfl (fun _ h => h.at_ 0 rfl) rfl ?_; refine w_store 1 rfl z39 rfl rfl rfl rfl rfl rfl rfl ?_; refine yB ?_; refine ze ?_; refine zt (?_)
        obtain ⟨rfl, rfl⟩ : a9 = _ ∧ s9 = _ := (by have := Option.some.inj hG8; exact ⟨(congrArg Prod.fst this).symm, (congrArg Prod.snd this).symm⟩)
        refine r_fin (.inl rfl) rfl (.agg rfl rfl z39 (fun _ h => h.at_ 1 rfl) rfl .nil) ?_; exact fun w' hw => ⟨b8, rfl, hk10, ((hK8.fin TL.ext (.head _) hw).setAt _), hw.fr _ (.tail _ (.head _)), hw.at_ 2 rfl⟩
      · have hG11 := (if_neg (nf hi6)).symm.trans hG5
        try dsimp only at hG11
        refine yB ?_; refine c_condF rfl ?_; refine zi ?_; refine zk ?_; refine c_cut (fun e B L => e 0 = .pointer (some ⟨rb, 0, none⟩) ∧ e 2 = .pointer (some ⟨t2b, 0, none⟩) ∧ e 3 = .int .i64 ((place z (T.drop s.k)) : Nat) ∧ B = [(w, (fun j => j = rb))] ∧ L = [(t2b, cel [.int .u8 0, .int .i64 0, str [], .slice none 0 0] 39), (rb, Rr sv z s)] ∧ isNumR T z s = false) ?_ ?_
        · refine zq ?_; refine c_draw mixed (by kernel_rfl) ?_; refine mP rfl ?_; refine zC (fun w => zR Tryz.func25 rfl rfl rfl) rfl rfl (fun w h => bad_r T z sv s rb w (hP.now (.head _) h) (h.at_ 1 rfl) hk) ?_; refine w_r (fun _ => R_not (congrArg Value.bool hbf)) rfl rfl ?_; refine mB rfl ?_; refine zw rfl rfl rfl ?_; refine mP rfl ?_; refine zw rfl rfl rfl ?_; refine w_nilc rfl ?_; refine zw rfl rfl rfl ?_; refine zf fa69_1 rfl ?_; refine zw rfl rfl rfl ?_; refine zl z3 rfl (fun _ h => zc 1 rfl rfl h) ?_; refine zw rfl rfl rfl ?_; refine mP rfl ?_; refine zw rfl rfl rfl ?_; refine w_nilc rfl ?_; refine zw rfl rfl rfl ?_; refine zf fa69_0 rfl ?_
          refine zw rfl rfl rfl ?_; refine zl (v := sv) z50 rfl (fun _ h => zc 1 rfl rfl h) ?_; refine zw rfl rfl rfl ?_; refine w_r (fun _ => R_len sl50 hsv) rfl rfl ?_; refine zw rfl rfl rfl ?_; refine w_r (fun _ => R_lt rfl rfl) rfl rfl ?_; refine w_r (v := .bool _) (fun _ => zT rfl rfl) rfl rfl ?_; refine mB rfl ?_; refine zd (t := 63) rfl (fun h12 => ?_) (fun h12 => ?_)
          · obtain ⟨hlt, tb, t0, rfl, hnb, htc⟩ := htok (by omega); have htx := txt_at hlt; have hcx : w.cell? ⟨tb, t0 + s.k * 3 + 1, none⟩ = some (str (txt (T.drop s.k))) := (by rw [htx]; exact htc 1 _ rfl); have hnl : (txt (T.drop s.k)).length ≤ 10000000 := (by rw [htx]; exact (hP.tb T[s.k] (List.getElem_mem hlt)).1); have hnr := numR_at (z := z) hbf hlt
            refine zw rfl rfl (bT h12) ?_; refine mP rfl ?_; refine zw rfl rfl (bT h12) ?_; refine w_nilc rfl ?_; refine zw rfl rfl (bT h12) ?_; refine zf fa69_0 rfl ?_; refine zw rfl rfl (bT h12) ?_; refine zl (v := sv) z50 rfl (fun _ h => zc 1 rfl rfl h) ?_; refine zw rfl rfl (bT h12) ?_; refine mP rfl ?_; refine zw rfl rfl (bT h12) ?_; refine w_nilc rfl ?_; refine zw rfl rfl (bT h12) ?_; refine zf fa69_1 rfl ?_; refine zw rfl rfl (bT h12) ?_; refine zl z3 rfl (fun _ h => zc 1 rfl rfl h) ?_; refine zw rfl rfl (bT h12) ?_; refine w_r (fun _ => R_iaN (i := (s).k) sl50 hsv rfl (by first | omega | decide)) rfl rfl ?_; refine zw rfl rfl (bT h12) ?_; refine zf fa58_0 rfl ?_; refine zw rfl rfl (bT h12) ?_; refine zl z5 rfl (fun _ h => cel_old (.head _) (htc 0 _ rfl) hnb h) ?_
            refine zw rfl rfl (bT h12) ?_; refine w_r (fun _ => R_eq rfl rfl) rfl rfl ?_; refine w_r (v := .bool _) (fun _ => zT (bT h12) rfl) rfl rfl ?_; refine yB ?_; refine zD rfl (fun h13 => ?_) (fun h13 => ?_)
            · have hG14 := (if_pos (by rw [hnr]; exact decide_eq_true (by omega))).symm.trans hG11
              try dsimp only at hG14
              refine zq ?_; refine c_draw mixed (by kernel_rfl) ?_; refine mP rfl ?_; refine w_nilc rfl ?_; refine zf fa69_0 rfl ?_; refine zl (v := sv) z50 rfl (fun _ h => zc 1 rfl rfl h) ?_; refine mP rfl ?_; refine w_nilc rfl ?_; refine zf fa69_1 rfl ?_; refine zl z3 rfl (fun _ h => zc 1 rfl rfl h) ?_; refine w_r (fun _ => R_iaN (i := (s).k) sl50 hsv rfl (by first | omega | decide)) rfl rfl ?_; refine zf fa58_1 rfl ?_; refine zl (v := str (txt (T.drop s.k))) z9 rfl (fun _ h => cel_old (.head _) hcx hnb h) ?_; refine za (v := str (txt (T.drop s.k))) rfl ?_; refine yB ?_; refine zq ?_; refine yA ?_; refine zm (v := str (txt (T.drop s.k))) rfl ?_
              refine w_r (fun _ => R_slen st9 rfl (by omega)) rfl rfl ?_; refine w_r (fun _ => R_gt rfl rfl) rfl rfl ?_; refine yB ?_; refine zD rfl (fun h15 => ?_) (fun h15 => ?_)
              · rw [if_pos (show 400 < (txt (T.drop s.k)).length by omega)] at hG14
                refine zr ?_; refine mP rfl ?_; refine w_rv (ob := Rr sv z) (s1 := (failR T z s 3)) (v0 := .tuple #[]) 1 rfl (fun w => zR Tryz.func31 rfl rfl rfl) rfl rfl (fun w h => fail_r T z sv s rb w (hP.now (.head _) h) (h.at_ 1 rfl) hk 3) ?_
                have hk16 : (failR T z s 3).k ≤ T.length := (by rw [failR_k]; exact hk)
                refine yC ?_; refine mP rfl ?_; refine w_nilc rfl ?_; refine zf fa69_1 rfl ?_; refine zl z3 rfl (fun _ h => zc 1 rfl rfl h) ?_; refine w_r (fun _ => R_addi rfl rfl (by omega)) rfl rfl ?_; refine w_nilc rfl ?_; refine zf fa69_1 rfl ?_; refine w_store 1 rfl z3 rfl rfl rfl rfl rfl rfl rfl ?_
                have hk17 : (nxtR (failR T z s 3)).k ≤ T.length := (by show (failR T z s 3).k + 1 ≤ T.length; (try simp only [moreR_k, failR_k]); omega)
                refine w_st (B' := _) (L' := [_, (rb, Rr sv z (nxtR (failR T z s 3)))]) (fun w h => h) ?_; refine yC ?_; refine mI rfl ?_; refine zm (v := str (txt (T.drop s.k))) rfl ?_; refine w_r (fun _ => R_build bt39 rfl) rfl rfl ?_; refine w_store 0 rfl z39 rfl rfl rfl rfl rfl rfl rfl ?_; refine yB ?_; refine ze ?_; refine zt (?_)
                obtain ⟨rfl, rfl⟩ : a9 = _ ∧ s9 = _ := (by have := Option.some.inj hG14; exact ⟨(congrArg Prod.fst this).symm, (congrArg Prod.snd this).symm⟩)
                refine r_fin (.inl rfl) rfl (.agg rfl rfl z39 (fun _ h => h.at_ 0 rfl) rfl .nil) ?_; exact fun w' hw => ⟨(none, 0), rfl, hk17, ⟨Nat.le_refl _, by unfold exsM; trivial, fun h => absurd (show (1 : Nat) = 2 from h) (by decide), fun h => absurd (show (1 : Nat) = 3 from h) (by decide)⟩, hw.fr _ (.head _), hw.at_ 1 rfl⟩
              · rw [if_neg (show ¬ 400 < (txt (T.drop s.k)).length by omega)] at hG14
                refine zi ?_; refine zk ?_; refine yA ?_; refine mP rfl ?_; refine w_nilc rfl ?_; refine zf fa69_1 rfl ?_; refine zl z3 rfl (fun _ h => zc 1 rfl rfl h) ?_; refine w_r (fun _ => R_addi rfl rfl (by omega)) rfl rfl ?_; refine w_nilc rfl ?_; refine zf fa69_1 rfl ?_; refine w_store 1 rfl z3 rfl rfl rfl rfl rfl rfl rfl ?_
                have hk18 : (nxtR s).k ≤ T.length := (by show s.k + 1 ≤ T.length; (try simp only [moreR_k, failR_k]); omega)
                refine w_st (B' := _) (L' := [_, (rb, Rr sv z (nxtR s))]) (fun w h => h) ?_; refine yC ?_; refine mI rfl ?_; refine zm (v := str (txt (T.drop s.k))) rfl ?_; refine w_r (fun _ => R_build bt39 rfl) rfl rfl ?_; refine w_store 0 rfl z39 rfl rfl rfl rfl rfl rfl rfl ?_; refine yB ?_; refine ze ?_; refine zt (?_)
                obtain ⟨rfl, rfl⟩ : a9 = _ ∧ s9 = _ := (by have := Option.some.inj hG14; exact ⟨(congrArg Prod.fst this).symm, (congrArg Prod.snd this).symm⟩)
                refine r_fin (.inl rfl) rfl (.agg rfl rfl z39 (fun _ h => h.at_ 0 rfl) rfl .nil) ?_; exact fun w' hw => ⟨(none, 0), rfl, hk18, ⟨Nat.le_refl _, by unfold exsM; trivial, fun h => absurd (show (1 : Nat) = 2 from h) (by decide), fun h => absurd (show (1 : Nat) = 3 from h) (by decide)⟩, hw.fr _ (.head _), hw.at_ 1 rfl⟩
            · refine zi ?_; exact k_mid ⟨rfl, rfl, rfl, rfl, rfl, (by rw [hnr]; exact decide_eq_false (by omega))⟩
          · refine zs rfl rfl (bF h12) ?_; refine zs rfl rfl (bF h12) ?_; refine zs rfl rfl (bF h12) ?_; refine zs rfl rfl (bF h12) ?_; refine zs rfl rfl (bF h12) ?_; refine zs rfl rfl (bF h12) ?_; refine zs rfl rfl (bF h12) ?_; refine zs rfl rfl (bF h12) ?_; refine zs rfl rfl (bF h12) ?_; refine zs rfl rfl (bF h12) ?_; refine zs rfl rfl (bF h12) ?_; refine zs rfl rfl (bF h12) ?_; refine w_r (v := .bool _) (fun _ => zF (bF h12) rfl) rfl rfl ?_; refine yB ?_; refine c_condF rfl ?_; refine zi ?_; exact k_mid ⟨rfl, rfl, rfl, rfl, rfl, numR_end (by omega)⟩
        rintro e B L ⟨e0_1, e2_1, e3_1, rfl, rfl, hnum⟩
        have hG19 := (if_neg (nf hnum)).symm.trans hG11
        try dsimp only at hG19
        refine yA ?_; refine mP e0_1 ?_; refine w_rv (ob := Rr sv z) (s1 := (nameR T z s).2) (v0 := str (nameR T z s).1) 1 rfl (fun w => zR Tryz.func64 rfl rfl rfl) rfl rfl (fun w h => name_r T z sv s rb w (hP.now (.head _) h) (h.at_ 1 rfl) hk) ?_
        have hk20 : (nameR T z s).2.k ≤ T.length := (nameR_k hk)
        refine za (v := str (nameR T z s).1) rfl ?_; refine yB ?_; refine zq ?_; refine yA ?_; refine mP e0_1 ?_; refine w_rm (T := T) (s := (nameR T z s).2) (s1 := wantR T z (nameR T z s).2 [91]) (x := [91]) (ob := Rr sv z) 1 rfl (fun w => zR Tryz.func61 rfl rfl rfl) rfl rfl (fun w h => may_r T z sv (nameR T z s).2 rb w (hP.now (.head _) h) (h.at_ 1 rfl) hk20 [91]) (fun hi21 => ?_) (fun hi21 => ?_)
        · have hG22 := (if_pos hi21).symm.trans hG19
          try dsimp only at hG22
          have hlt21 := isR_lt hi21; have hkw21 : (wantR T z (nameR T z s).2 [91]).k ≤ T.length := wantR_k hk20
          refine yB ?_; refine zE rfl ?_; refine yA ?_; refine mP e0_1 ?_; refine w_rt (rb := rb) (ob := Rr sv z) (ok := kl T) (V := (fun e b => .agg (exE e b).toArray)) 1 rfl (.head _) TL.ext hG22 (fun w => zR Tryz.func35 rfl rfl rfl) rfl rfl (fun a s9 hX w h => ihP (wantR T z (nameR T z s).2 [91]) rb w a s9 (hP.now (.head _) h) (h.at_ 1 rfl) hkw21 (by omega) hX) (fun e23 s23 b23 w23 hX23 hG23 hk23 hK23 => ?_)
          try dsimp only at hG23
          refine w_alloc zr39 (fun t8b gt8b ut8b => ?_)
          refine w_store 0 rfl z39 rfl rfl rfl rfl rfl rfl rfl ?_; refine yC ?_; refine mP e0_1 ?_; refine w_rv (ob := Rr sv z) (s1 := (wantR T z s23 [93])) (v0 := .tuple #[]) 2 rfl (fun w => zR Tryz.func27 rfl rfl rfl) rfl rfl (fun w h => want_r T z sv s23 rb w (hP.now (.tail _ (.head _)) h) (h.at_ 2 rfl) hk23 [93]) ?_
          have hk25 : (wantR T z s23 [93]).k ≤ T.length := (wantR_k hk23)
          refine yC ?_; refine mI e3_1 ?_; refine zm (v := str (nameR T z s).1) rfl ?_; refine w_loadA z39 rfl (fun _ h => h.at_ 0 rfl) rfl ?_; refine zS slt37 (by decide) rfl rfl (fun sb gsb usb => ?_)
          have hsb : w.heap.size ≤ sb := (by have := usb (w, fun j => j = rb) (by simp); exact this)
          refine w_r (fun _ => R_build bt39 rfl) rfl rfl ?_; refine w_store 2 rfl z39 e2_1 rfl rfl rfl rfl rfl rfl ?_; refine yB ?_; refine ze ?_; refine zt (?_)
          obtain ⟨rfl, rfl⟩ : a9 = _ ∧ s9 = _ := (by have := Option.some.inj hG23; exact ⟨(congrArg Prod.fst this).symm, (congrArg Prod.snd this).symm⟩)
          refine r_fin (.inl rfl) rfl (.agg rfl e2_1 z39 (fun _ h => h.at_ 2 rfl) rfl .nil) ?_; exact fun w' hw => ⟨(some ⟨sb, 0, none⟩, 1), rfl, hk25, ⟨Nat.le_refl _, kid1 (hK23.fin TL.ext (.head _) hw) (hw.at_ 0 rfl) ⟨hsb, lt_of_blk (hw.at_ 0 rfl)⟩, fun h => absurd (show (3 : Nat) = 2 from h) (by decide), fun _ => ⟨rfl, sb, rfl⟩⟩, hw.fr _ (.tail _ (.head _)), hw.at_ 3 rfl⟩
        · have hG26 := (if_neg (nf hi21)).symm.trans hG19
          try dsimp only at hG26
          refine yB ?_; refine c_condF rfl ?_; refine zi ?_; refine zk ?_; refine zq ?_; refine yA ?_; refine mP e0_1 ?_; refine w_rm (T := T) (s := (nameR T z s).2) (s1 := wantR T z (nameR T z s).2 [40]) (x := [40]) (ob := Rr sv z) 1 rfl (fun w => zR Tryz.func61 rfl rfl rfl) rfl rfl (fun w h => may_r T z sv (nameR T z s).2 rb w (hP.now (.head _) h) (h.at_ 1 rfl) hk20 [40]) (fun hi27 => ?_) (fun hi27 => ?_)
          · have hG28 := (if_pos hi27).symm.trans hG26
            try dsimp only at hG28
            have hlt27 := isR_lt hi27; have hkw27 : (wantR T z (nameR T z s).2 [40]).k ≤ T.length := wantR_k hk20
            refine yB ?_; refine zE rfl ?_; refine yA ?_; refine mP e0_1 ?_; refine w_rt (rb := rb) (ob := Rr sv z) (ok := kl T) (V := (fun (l : List Ex) (b : Ad) => .slice b.1 l.length b.2)) 1 rfl (.head _) TL.exs7 hG28 (fun w => zR Tryz.func67 rfl rfl rfl) rfl rfl (fun a s9 hX w h => ihL (wantR T z (nameR T z s).2 [40]) rb w a s9 (hP.now (.head _) h) (h.at_ 1 rfl) hkw27 (by omega) hX) (fun e29 s29 b29 w29 hX29 hG29 hk29 hK29 => ?_)
            try dsimp only at hG29
            refine za (v := .slice _ _ _) rfl ?_; refine yC ?_; refine mP e0_1 ?_; refine w_rv (ob := Rr sv z) (s1 := (wantR T z s29 [41])) (v0 := .tuple #[]) 1 rfl (fun w => zR Tryz.func27 rfl rfl rfl) rfl rfl (fun w h => want_r T z sv s29 rb w (hP.now (.tail _ (.head _)) h) (h.at_ 1 rfl) hk29 [41]) ?_
            have hk30 : (wantR T z s29 [41]).k ≤ T.length := (wantR_k hk29)
            refine yC ?_; refine mI e3_1 ?_; refine zm (v := str (nameR T z s).1) rfl ?_; refine mS rfl ?_; refine w_r (fun _ => R_build bt39 rfl) rfl rfl ?_; refine w_store 0 rfl z39 e2_1 rfl rfl rfl rfl rfl rfl ?_; refine yB ?_; refine ze ?_; refine zt (?_)
            obtain ⟨rfl, rfl⟩ : a9 = _ ∧ s9 = _ := (by have := Option.some.inj hG29; exact ⟨(congrArg Prod.fst this).symm, (congrArg Prod.snd this).symm⟩)
            refine r_fin (.inl rfl) rfl (.agg rfl e2_1 z39 (fun _ h => h.at_ 0 rfl) rfl .nil) ?_; exact fun w' hw => ⟨b29, rfl, hk30, ⟨(hK29.fin TL.exs7 (.head _) hw).2.1, (hK29.fin TL.exs7 (.head _) hw).2.2, fun h => absurd (show (4 : Nat) = 2 from h) (by decide), fun h => absurd (show (4 : Nat) = 3 from h) (by decide)⟩, hw.fr _ (.tail _ (.head _)), hw.at_ 1 rfl⟩
          · have hG31 := (if_neg (nf hi27)).symm.trans hG26
            try dsimp only at hG31
            refine yB ?_; refine c_condF rfl ?_; refine zi ?_; refine zk ?_; refine yA ?_; refine mI e3_1 ?_; refine zm (v := str (nameR T z s).1) rfl ?_; refine w_r (fun _ => R_build bt39 rfl) rfl rfl ?_; refine w_store 0 rfl z39 e2_1 rfl rfl rfl rfl rfl rfl ?_; refine yB ?_; refine ze ?_
            obtain ⟨rfl, rfl⟩ : a9 = _ ∧ s9 = _ := (by have := Option.some.inj hG31; exact ⟨(congrArg Prod.fst this).symm, (congrArg Prod.snd this).symm⟩)
            refine r_fin (.inl rfl) rfl (.agg rfl e2_1 z39 (fun _ h => h.at_ 0 rfl) rfl .nil) ?_; exact fun w' hw => ⟨(none, 0), rfl, hk20, ⟨Nat.le_refl _, by unfold exsM; trivial, fun _ => ⟨rfl, rfl⟩, fun h => absurd (show (2 : Nat) = 3 from h) (by decide)⟩, hw.fr _ (.head _), hw.at_ 1 rfl⟩
    · have hG32 := (if_pos hi4).symm.trans hG3
      try dsimp only at hG32
      have hlt := isR_lt hi4
      refine yB ?_; refine zE rfl ?_; refine yA ?_; refine mP rfl ?_; refine w_rv (ob := Rr sv z) (s1 := (moreR T z s)) (v0 := .tuple #[]) 1 rfl (fun w => zR Tryz.func62 rfl rfl rfl) rfl rfl (fun w h => more_r T z sv s rb w (hP.now (.head _) h) (h.at_ 1 rfl) hk) ?_
      have hk33 : (moreR T z s).k ≤ T.length := (by rw [moreR_k]; exact hk)
      refine yC ?_; refine mP rfl ?_; refine w_nilc rfl ?_; refine zf fa69_1 rfl ?_; refine zl z3 rfl (fun _ h => zc 1 rfl rfl h) ?_; refine w_r (fun _ => R_addi rfl rfl (by omega)) rfl rfl ?_; refine w_nilc rfl ?_; refine zf fa69_1 rfl ?_; refine w_store 1 rfl z3 rfl rfl rfl rfl rfl rfl rfl ?_
      have hk34 : (nxtR (moreR T z s)).k ≤ T.length := (by show (moreR T z s).k + 1 ≤ T.length; (try simp only [moreR_k, failR_k]); omega)
      refine w_st (B' := _) (L' := [_, (rb, Rr sv z (nxtR (moreR T z s)))]) (fun w h => h) ?_; refine yC ?_; refine mP rfl ?_; refine w_rt (rb := rb) (ob := Rr sv z) (ok := kl T) (V := (fun e b => .agg (exE e b).toArray)) 1 rfl (.head _) TL.ext hG32 (fun w => zR Tryz.func115 rfl rfl rfl) rfl rfl (fun a s9 hX w h => ihS (nxtR (moreR T z s)) rb w a s9 (hP.now (.head _) h) (h.at_ 1 rfl) hk34 (by omega) hX) (fun e35 s35 b35 w35 hX35 hG35 hk35 hK35 => ?_)
      try dsimp only at hG35
      refine w_alloc zr39 (fun t4b gt4b ut4b => ?_)
      refine w_store 0 rfl z39 rfl rfl rfl rfl rfl rfl rfl ?_; refine yC ?_; refine mP rfl ?_; refine w_nilc rfl ?_; refine zf fa69_3 rfl ?_; refine zl z3 rfl (fun _ h => zc 2 rfl rfl h) ?_; refine w_r (fun _ => R_sub rfl rfl) rfl rfl ?_; refine w_nilc rfl ?_; refine zf fa69_3 rfl ?_; refine w_store 2 rfl z3 rfl rfl rfl rfl rfl rfl rfl ?_
      have hk37 : (decR s35).k ≤ T.length := hk35
      refine w_st (B' := _) (L' := [_, _, (rb, Rr sv z (decR s35))]) (fun w h => h) ?_; refine yC ?_; refine mI rfl ?_; refine w_loadA z39 rfl (fun _ h => h.at_ 0 rfl) rfl ?_; refine zS slt37 (by decide) rfl rfl (fun sb gsb usb => ?_)
      have hsb : w.heap.size ≤ sb := (by have := usb (w, fun j => j = rb) (by simp); exact this)
      refine w_r (fun _ => R_build bt39 rfl) rfl rfl ?_; refine w_store 2 rfl z39 rfl rfl rfl rfl rfl rfl rfl ?_; refine yB ?_; refine ze ?_; refine zt (?_)
      obtain ⟨rfl, rfl⟩ : a9 = _ ∧ s9 = _ := (by have := Option.some.inj hG35; exact ⟨(congrArg Prod.fst this).symm, (congrArg Prod.snd this).symm⟩)
      refine r_fin (.inl rfl) rfl (.agg rfl rfl z39 (fun _ h => h.at_ 2 rfl) rfl .nil) ?_; exact fun w' hw => ⟨(some ⟨sb, 0, none⟩, 1), rfl, hk37, ⟨Nat.le_refl _, kid1 (hK35.fin TL.ext (.head _) hw) (hw.at_ 0 rfl) ⟨hsb, lt_of_blk (hw.at_ 0 rfl)⟩, fun h => absurd (show (5 : Nat) = 2 from h) (by decide), fun h => absurd (show (5 : Nat) = 3 from h) (by decide)⟩, hw.fr _ (.tail _ (.head _)), hw.at_ 3 rfl⟩
  · have hG38 := (if_pos hi2).symm.trans hG
    try dsimp only at hG38
    refine yB ?_; refine zE rfl ?_; refine yA ?_; refine w_r (fun _ => R_build bt39 rfl) rfl rfl ?_; refine w_store 0 rfl z39 rfl rfl rfl rfl rfl rfl rfl ?_; refine yB ?_; refine ze ?_; refine zt (?_)
    obtain ⟨rfl, rfl⟩ : a9 = _ ∧ s9 = _ := (by have := Option.some.inj hG38; exact ⟨(congrArg Prod.fst this).symm, (congrArg Prod.snd this).symm⟩)
    refine r_fin (.inl rfl) rfl (.agg rfl rfl z39 (fun _ h => h.at_ 0 rfl) rfl .nil) ?_; exact fun w' hw => ⟨(none, 0), rfl, hk, ⟨Nat.le_refl _, by unfold exsM; trivial, fun h => absurd (show (0 : Nat) = 2 from h) (by decide), fun h => absurd (show (0 : Nat) = 3 from h) (by decide)⟩, hw.fr _ (.head _), hw.at_ 1 rfl⟩

set_option maxRecDepth 100000 in
set_option maxHeartbeats 4000000 in
theorem sums_r (T : List Tk) (z : Nat) (sv : Value) (u : Nat) (ih : ∀ q, q ≤ u → SumHr T z sv q) (s : R3) (rb : Nat) (w : World) (a9 : List Ex) (s9 : R3) (hP : Pe w rb T z sv) (hb : w.heap[rb]? = some (Rr sv z s)) (hk : s.k ≤ T.length) (hu : u + 1 ≤ 1000000) (h0 : rSums T z (u + 1) s = some (a9, s9)) :
    Ret Tryz.prog 67 #[.pointer (some ⟨rb, 0, none⟩)] w (QT (Rr sv z) (kl T) rb (fun (l : List Ex) (b : Ad) => .slice b.1 l.length b.2) exsV7 a9 s9 w) := by
  have hlen := hP.len
  have hG := rSums_eq.symm.trans h0
  refine enter (S := (fun j => j = rb)) (l := [_]) (L := [(rb, Rr sv z s)]) 20 Tryz.func67 rfl rfl rfl (St.start1 w hb rfl) ?_; refine yA ?_; refine za (v := .slice _ _ _) rfl ?_; refine yC ?_; refine za (v := .slice _ _ _) rfl ?_; refine yB ?_; refine zq ?_; refine yA ?_; refine mP rfl ?_; refine zC (fun w => zR Tryz.func29 rfl rfl rfl) rfl rfl (fun w h => is_r T z sv s rb w (hP.now (.head _) h) (h.at_ 0 rfl) hk [41]) ?_
  cases hi1 : isR T s [41]
  · have hG2 := (if_neg (nf hi1)).symm.trans hG
    try dsimp only at hG2
    refine yB ?_; refine c_condF rfl ?_; refine zi ?_; refine zk ?_; refine yA ?_; refine mS rfl ?_; refine mP rfl ?_; refine w_rt (rb := rb) (ob := Rr sv z) (ok := kl T) (V := (fun e b => .agg (exE e b).toArray)) 0 rfl (.head _) TL.ext hG2 (fun w => zR Tryz.func35 rfl rfl rfl) rfl rfl (fun a s9 hX w h => ih u (by omega) s rb w a s9 (hP.now (.head _) h) (h.at_ 0 rfl) hk (by omega) hX) (fun e3 s3 b3 w3 hX3 hG3 hk3 hK3 => ?_)
    try dsimp only at hG3
    refine zS slt37 (by decide) rfl rfl (fun sb gsb usb => ?_)
    have hsb : w.heap.size ≤ sb := (by have := usb (w, fun j => j = rb) (by simp); exact this)
    refine w_st (B' := _) (L' := [(sb, cel (exE e3 b3) 39), (rb, Rr sv z s3)] ++ ([] ++ [])) (fun w h => h) ?_; refine w_app (L := []) (W := []) (news := exE e3 b3) [_, _] slt37 (by decide) rfl (Own.nil _ _) rfl rfl (row_own 0 rfl (fun j u h => h)) rfl (by decide) (by omega) (by omega) (fun v2 W2 hO2 => ?_)
    refine za (v := v2) rfl ?_; refine yB ?_; refine zq ?_; refine zB ?_; refine c_st (B' := _) (L' := (rb, Rr sv z s3) :: W2) (fun w h => by rw [List.append_nil] at h; exact h.drop (List.sublist_cons_self _ _)) ?_; refine c_base (fun w9 h9 => ?_)
    refine c_st (fun w' h => h.keep2 (.tail _ (.head _))) ?_; refine c_loop (fun m e B L => ∃ (q : Nat) (s1 : R3) (l : List Ex) (v : Value) (xs : List Value) (W : Heap) (xb : Bw), e 0 = .pointer (some ⟨rb, 0, none⟩) ∧ e 3 = v ∧ B = [xb, (w, fun j => j = rb)] ∧ L = (rb, Rr sv z s1) :: W ∧ q ≤ u ∧ rSumsL T z q l s1 = some (a9, s9) ∧ Own 39 4 v xs l.length W ∧ Kt xb w.heap.size (Mc 4 exC) l xs ∧ l.length + q ≤ u + 1 ∧ s1.k ≤ T.length ∧ m = q + 1) _ ⟨u, s3, [e3], v2, _, W2, _, rfl, rfl, rfl, rfl, Nat.le_refl _, hG3, (by rw [show [e3].length = 0 + 1 from rfl]; exact hO2), (hK3.now TL.ext (.head _) h9).one, (by rw [List.length_singleton]; omega), hk3, rfl⟩ ?_
    rintro m e B L ⟨q, s1, l, v, xs, W, xb, e0_1, e3_1, rfl, rfl, hqm, hG0, hO, hKl, hll, hk1, rfl⟩
    obtain ⟨q', rfl⟩ : ∃ q', q = q' + 1 := (by cases q with | zero => (rw [rSumsL] at hG0; cases hG0) | succ q' => exact ⟨q', rfl⟩)
    have hG4 := rSumsL_eq.symm.trans hG0
    try dsimp only at hG4
    refine zq ?_; refine yA ?_; refine mP e0_1 ?_; refine w_rm (T := T) (s := s1) (s1 := wantR T z s1 [44]) (x := [44]) (ob := Rr sv z) 0 rfl (fun w => zR Tryz.func61 rfl rfl rfl) rfl rfl (fun w h => may_r T z sv s1 rb w (hP.now (.tail _ (.head _)) h) (h.at_ 0 rfl) hk1 [44]) (fun hi5 => ?_) (fun hi5 => ?_)
    · have hG6 := (if_pos hi5).symm.trans hG4
      try dsimp only at hG6
      have hlt5 := isR_lt hi5; have hkw5 : (wantR T z s1 [44]).k ≤ T.length := wantR_k hk1
      refine yB ?_; refine zE rfl ?_; refine zi ?_; refine zk ?_; refine zB ?_; refine zr ?_; refine zm (v := v) e3_1 ?_; refine mP e0_1 ?_; refine w_rt (rb := rb) (ob := Rr sv z) (ok := kl T) (V := (fun e b => .agg (exE e b).toArray)) 0 rfl (.tail _ (.head _)) TL.ext hG6 (fun w => zR Tryz.func35 rfl rfl rfl) rfl rfl (fun a s9 hX w h => ih q' (by omega) (wantR T z s1 [44]) rb w a s9 (hP.now (.tail _ (.head _)) h) (h.at_ 0 rfl) hkw5 (by omega) hX) (fun e7 s7 b7 w7 hX7 hG7 hk7 hK7 => ?_)
      try dsimp only at hG7
      refine zS slt37 (by decide) rfl rfl (fun sb gsb usb => ?_)
      have hsb : w.heap.size ≤ sb := (by have := usb (w, fun j => j = rb) (by simp); exact this)
      refine w_st (B' := _) (L' := [(sb, cel (exE e7 b7) 39), (rb, Rr sv z s7)] ++ (W ++ [])) (fun w h => by rw [List.append_nil]; exact h) ?_; refine w_app (L := []) (W := W) (news := exE e7 b7) [_, _] slt37 (by decide) rfl hO rfl rfl (row_own 0 rfl (fun j u h => h)) rfl (by decide) (by omega) (by omega) (fun v2 W2 hO2 => ?_)
      refine za (v := v2) rfl ?_; refine zn ?_; refine b_on (?_)
      refine k_st (B' := _) (L' := (rb, Rr sv z s7) :: W2) (fun w h => by rw [List.append_nil] at h; exact h.drop (List.sublist_cons_self _ _)) ?_; refine k_base (fun w9 h9 => ?_)
      refine k_st (fun w' h => h.keep2 (.tail _ (.tail _ (.head _)))) ?_; exact k_again _ (by omega) ⟨q', s7, l ++ [e7], v2, _, W2, _, e0_1, rfl, rfl, rfl, by omega, hG7, (by rw [List.length_append]; exact hO2), (hKl.now (TL.cells TL.exc) (.tail _ (.head _)) h9).snoc (hK7.now TL.ext (.head _) h9) hO.1, (by rw [List.length_append, List.length_singleton]; omega), hk7, rfl⟩
    · have hG8 := (if_neg (nf hi5)).symm.trans hG4
      try dsimp only at hG8
      refine yB ?_; refine c_condF rfl ?_; refine c_exit ?_; refine zx (zx (b_here rfl (zk ?_))); refine yA ?_; refine zm (v := v) e3_1 ?_; refine za (v := v) rfl ?_; refine yB ?_; refine ze ?_
      obtain ⟨rfl, rfl⟩ : a9 = _ ∧ s9 = _ := (by have := Option.some.inj hG8; exact ⟨(congrArg Prod.fst this).symm, (congrArg Prod.snd this).symm⟩)
      refine zo (v := v) rfl rfl rfl ?_; exact fun w' hw => by obtain ⟨b, rfl, hv⟩ := own_exs hO (fun p hp => hw.own p (by simp [hp])) (fun p hp => (⟨St.fresh (A := [(rb, Rr sv z _)]) hw (.tail _ (.head _)) (.head _) p hp, lt_of_blk (hw.own p (by simp [hp]))⟩ : Nn w w' p.1)) (fun j e he => (hKl.fin (TL.cells TL.exc) (.head _) hw j e he).M); exact ⟨b, rfl, hk1, ⟨by omega, hv⟩, hw.fr _ (.tail _ (.head _)), hw.at_ 0 rfl⟩
  · have hG9 := (if_pos hi1).symm.trans hG
    try dsimp only at hG9
    refine yB ?_; refine zE rfl ?_; refine yA ?_; refine mS rfl ?_; refine za (v := .slice _ _ _) rfl ?_; refine yB ?_; refine ze ?_; refine zt (?_)
    obtain ⟨rfl, rfl⟩ : a9 = _ ∧ s9 = _ := (by have := Option.some.inj hG9; exact ⟨(congrArg Prod.fst this).symm, (congrArg Prod.snd this).symm⟩)
    refine zo (v := .slice _ _ _) rfl rfl rfl ?_; exact fun w' hw => ⟨(none, 0), rfl, hk, ⟨Nat.zero_le _, Nat.le_refl _, by unfold exsM; trivial⟩, hw.fr _ (.head _), hw.at_ 0 rfl⟩

theorem exr_all (T : List Tk) (z : Nat) (sv : Value) : ∀ n, LevH T z sv n ∧ SumHr T z sv n ∧ SignHr T z sv n ∧ SumsHr T z sv n := by
  intro n
  induction n using Nat.strongRecOn with
  | _ n ih =>
    cases n with
    | zero =>
      refine ⟨fun lev s rb w a s1 _ _ _ _ _ _ h => ?_, fun s rb w a s1 _ _ _ _ h => ?_, fun s rb w a s1 _ _ _ _ h => ?_, fun s rb w a s1 _ _ _ _ h => ?_⟩
      · rw [rLev] at h; cases h
      · rw [rSum] at h; cases h
      · rw [rSign] at h; cases h
      · rw [rSums] at h; cases h
    | succ u =>
      have h1 := ih u (by omega)
      exact ⟨fun lev s rb w a s1 hP hb hk hu hl1 hl3 h => level_r T z sv u lev (fun q hq => (ih q (by omega)).1) h1.2.2.1 hl1 hl3 s rb w a s1 hP hb hk hu h, fun s rb w a s1 hP hb hk hu h => sum_r T z sv u h1.1 s rb w a s1 hP hb hk hu h,
        fun s rb w a s1 hP hb hk hu h => sign_r T z sv u h1.2.2.1 h1.2.1 h1.2.2.2 s rb w a s1 hP hb hk hu h, fun s rb w a s1 hP hb hk hu h => sums_r T z sv u (fun q hq => (ih q (by omega)).2.1) s rb w a s1 hP hb hk hu h⟩
end Go.Proofs.YtaniogadknakoaaGreatDoor
end

section
namespace Go.Proofs.YtaniogadknakoaaGreatDoor
open Go.RowKit Go.Sx
open Go.Tok Go.Tree Go.Prs
def StmtHr (T : List Tk) (z : Nat) (sv : Value) (n : Nat) : Prop := ∀ (s : R3) (rb : Nat) (w : World) (a : _) (s1 : R3), Pe w rb T z sv → w.heap[rb]? = some (Rr sv z s) → s.k ≤ T.length → n ≤ 1000000 → rStmt T z n s = some (a, s1) →
  Ret Tryz.prog 30 #[.pointer (some ⟨rb, 0, none⟩)] w (QT (Rr sv z) (kl T) rb (fun s b => .agg (smE s b).toArray) smT a s1 w)
def BodyHr (T : List Tk) (z : Nat) (sv : Value) (n : Nat) : Prop := ∀ (s : R3) (rb : Nat) (w : World) (a : _) (s1 : R3), Pe w rb T z sv → w.heap[rb]? = some (Rr sv z s) → s.k ≤ T.length → n ≤ 1000000 → rBody T z n s = some (a, s1) →
  Ret Tryz.prog 65 #[.pointer (some ⟨rb, 0, none⟩)] w (QT (Rr sv z) (kl T) rb (fun (l : List Sm) (b : Ad) => .slice b.1 l.length b.2) smsV a s1 w)

section
variable {T : List Tk} {z q i op : Nat} {l : List Sm} {s : R3} {x : Str} {α : Type} {F : List Sm × R3 → Option α} {a : α}
end
end Go.Proofs.YtaniogadknakoaaGreatDoor
end

section
namespace Go.Proofs.YtaniogadknakoaaGreatDoor
open Go.RowKit Go.Sx
open Go.Tok Go.Tree Go.Prs

end Go.Proofs.YtaniogadknakoaaGreatDoor
end

section
namespace Go.Proofs.YtaniogadknakoaaGreatDoor
open Go.RowKit Go.Sx
open Go.Tok Go.Tree Go.Prs

theorem endS_yes {T : List Tk} {z : Nat} {s : R3} (hb : badR s = false) (h : s.k < T.length) : endS T z s = failR T z s 130 := by
 unfold endS
 rw [if_pos (by rw [hb, decide_eq_true h]; rfl)]
theorem endS_no {T : List Tk} {z : Nat} {s : R3} (h : ¬ s.k < T.length) : endS T z s = s := by
 unfold endS
 rw [decide_eq_false h, Bool.and_false, if_neg Bool.false_ne_true]
theorem resR_b {α : Type} {T : List Tk} {z : Nat} {e : α} {p : α × R3} {r : α × Fl} (h : resR T z e p = r) (hb : badR (endS T z p.2) = true) : r = (e, (endS T z p.2).f) := by rw [← h, resR, if_pos hb]
theorem resR_g {α : Type} {T : List Tk} {z : Nat} {e : α} {p : α × R3} {r : α × Fl} (h : resR T z e p = r) (hb : badR (endS T z p.2) = false) : r = (p.1, (0, 0)) := by rw [← h, resR, if_neg (nf hb)]

set_option maxRecDepth 100000 in
set_option maxHeartbeats 8000000 in
theorem rExpr_ok (src : Str) (hs : src.length ≤ 10000000) (hne : ∀ fl, exprP src = .error fl → fl.1 ≠ 0) (T : List Tk) (hTe : (readP src).1 = T) (w : World) (hW : Wd w) (hng : 4 ≤ w.heap.size) :
  Ret Tryz.prog 14 #[str src] w (fun v w' => ∃ b, v = .tuple #[.agg (exE (resOf noEx (exprP src)).1 b).toArray, .agg #[.int .i64 ((resOf noEx (exprP src)).2.1 : Nat), .int .i64 ((resOf noEx (exprP src)).2.2 : Nat)]] ∧ exT w' (Nn w w') (resOf noEx (exprP src)).1 b ∧ Ext w w') := by
 refine enter (S := No) (l := [_]) (L := []) 48 Tryz.func14 rfl rfl rfl (St.start w No) ?_; refine yA ?_; refine w_alloc zr39 (fun t2b gt2b ut2b => ?_)
 refine w_alloc zr32 (fun t3b gt3b ut3b => ?_)
 refine yC ?_; refine zm (v := str _) rfl ?_; refine w_callW (R := fun v W => ∃ a c, v = .tuple #[.slice a T.length c, .agg #[.int .i64 ((readP src).2.1 : Nat), .int .i64 ((readP src).2.2 : Nat)]] ∧ Toks (.slice a T.length c) T W) (fun w => zR Tryz.func20 rfl rfl rfl) rfl rfl (fun w h => by subst hTe; exact rRead_spec src hs w) ?_
 rintro v W0 ⟨ta, tc, rfl, hO⟩
 refine w_st (fun w h => h.perm List.perm_append_comm) ?_; refine zm rfl ?_; refine w_r (fun _ => R_extract rfl rfl) rfl rfl ?_; refine w_r (fun _ => R_extract rfl rfl) rfl rfl ?_; refine w_alloc zr32 (fun t5b gt5b ut5b => ?_)
 refine za (v := .slice _ _ _) rfl ?_; refine w_store 0 rfl z32 rfl rfl rfl rfl rfl rfl rfl ?_; refine yB ?_; refine zq ?_; refine yA ?_; refine zf fa32_0 rfl ?_; refine zl z30 rfl (fun _ h => zc 0 rfl rfl h) ?_; refine w_r (fun _ => R_ne rfl rfl) rfl rfl ?_; refine yB ?_; refine zD rfl (fun h4 => ?_) (fun h4 => ?_)
 ·refine zq ?_; refine c_held (fun w => w.heap[t5b]? = some (cel [.int .i64 ((readP src).2.1 : Nat), .int .i64 ((readP src).2.2 : Nat)] 32)) mixed ?_; refine zh 0 rfl (by kernel_rfl) rfl rfl (fun w h => h.at_ 0 rfl) (fun w h => R_build bt39 rfl) ?_; refine zh 1 rfl (by kernel_rfl) rfl rfl (fun w h => h.at_ 0 rfl) (fun w h => R_ldb z32 rfl h rfl) ?_; refine h_one 2 (by kernel_rfl) (fun w h => h.at_ 0 rfl) ?_; refine o_store 2 rfl rfl z39 rfl rfl rfl rfl rfl rfl rfl ?_; refine h_one 3 (by kernel_rfl) (fun w h => h.at_ 0 rfl) ?_; refine o_store 1 rfl rfl z32 rfl rfl rfl rfl rfl rfl rfl ?_; refine h_done (by kernel_rfl) (fun w h => h.at_ 0 rfl) ?_; refine zk ?_; refine ze ?_; refine zt (?_)
  refine r_fin (.inl rfl) rfl (.agg rfl rfl z39 (fun _ h => h.at_ 2 rfl) rfl (.agg rfl rfl z32 (fun _ h => h.at_ 1 rfl) rfl .nil)) ?_; exact fun w' hw => by rw [show exprP src = .error (readP src).2 from face_bad (by omega)]; exact ⟨_, rfl, exT.none, hw.fr _ (.head _)⟩
 ·refine zi ?_; refine zk ?_; refine yA ?_; refine mS rfl ?_; refine zm (v := str _) rfl ?_; refine w_r (fun _ => R_slen st9 rfl (by omega)) rfl rfl ?_; refine w_r (fun _ => R_build bt69 rfl) rfl rfl ?_; refine w_boxA rfl (fun rb grb urb => ?_)
  obtain ⟨z, hz⟩ : ∃ z, z = src.length := ⟨_, rfl⟩; obtain ⟨sv, hsv⟩ : ∃ sv, sv = Value.slice ta T.length tc := ⟨_, rfl⟩
  refine w_st (B' := _) (L' := [(rb, Rr sv z (S0 0 0)), _, _, _] ++ W0) (fun w h => by rw [hz, hsv]; exact h) ?_
  have hPe : ∀ w', Wd w' → (∀ p ∈ W0, w'.heap[p.1]? = some p.2) → Pe w' rb T z sv := fun w' h1 h2 => ⟨h1, Nat.le_trans hng (urb (w, No) (by simp)), ⟨ta, tc, hsv, fun k t hk => toks_at hO h2 (fun p hp => Nat.ne_of_lt (grb p (by simp [hp]))) hk⟩, by rw [← hTe]; exact readP_len src, by omega, fun t ht => ⟨Nat.le_trans (readP_tx src t (by rw [hTe]; exact ht)) hs, Nat.le_trans ((readP_at src).1 t (by rw [hTe]; exact ht)) hs⟩⟩
  have hlen : T.length ≤ 6000 := (by rw [← hTe]; exact readP_len src)
  have hz0 : (readP src).2.1 = 0 := (by omega)
  obtain ⟨p9, hp9, hr9⟩ := expr_sim (s := src) hz0 hne (m := (4 * fuel T + 24)) (by rw [hTe]; exact Nat.le_refl _); rw [hTe, ← hz] at hp9 hr9
  have hMM : (4 * fuel T + 24) ≤ 1000000 := (by unfold fuel; omega)
  have hGs := bind_id hp9
  refine za (v := .pointer _) rfl ?_; refine yC ?_; refine mP rfl ?_; refine w_rt (rb := rb) (ob := Rr sv z) (ok := kl T) (V := (fun e b => .agg (exE e b).toArray)) 0 rfl (.head _) TL.ext hGs (fun w => zR Tryz.func35 rfl rfl rfl) rfl rfl (fun a s9 hX w h => (exr_all T z sv (4 * fuel T + 24)).2.1 (S0 0 0) rb w a s9 (hPe w (hW.now (.head _) h) (fun p hp => h.own p (by simp [hp]))) (h.at_ 0 rfl) (Nat.zero_le _) hMM hX) (fun e5 s5 b5 w5 hX5 hG5 hk5 hK5 => ?_)
  try dsimp only at hG5
  obtain ⟨e1, rfl⟩ : ∃ q, q = e5 := ⟨_, rfl⟩; obtain ⟨s1, rfl⟩ : ∃ q, q = s5 := ⟨_, rfl⟩; obtain ⟨b1, rfl⟩ : ∃ q, q = b5 := ⟨_, rfl⟩; obtain rfl : p9 = (e1, s1) := (Option.some.inj hG5).symm; have hK1 := hK5; have hk1 : s1.k ≤ T.length := hk5
  refine w_alloc zr39 (fun t7b gt7b ut7b => ?_)
  refine w_store 0 rfl z39 rfl rfl rfl rfl rfl rfl rfl ?_; refine yB ?_; refine c_cut (fun e B L => ∃ (xb : Bw), e 0 = str src ∧ e 2 = .pointer (some ⟨t2b, 0, none⟩) ∧ e 3 = .pointer (some ⟨t3b, 0, none⟩) ∧ e 4 = .slice ta T.length tc ∧ e 5 = .pointer (some ⟨t5b, 0, none⟩) ∧ e 6 = .pointer (some ⟨rb, 0, none⟩) ∧ e 7 = .pointer (some ⟨t7b, 0, none⟩) ∧ B = [xb, (w, No)] ∧ L = [(t7b, cel (exE e1 b1) 39), (rb, Rr sv z (endS T z s1)), (t5b, cel [.int .i64 ((readP src).2.1 : Nat), .int .i64 ((readP src).2.2 : Nat)] 32), (t3b, cel [.int .i64 0, .int .i64 0] 32), (t2b, cel [.int .u8 0, .int .i64 0, str [], .slice none 0 0] 39)] ++ W0 ∧ (endS T z s1).k ≤ T.length ∧ Kt xb w.heap.size exT e1 b1) ?_ ?_
  ·refine yA ?_; refine mP rfl ?_; refine zC (fun w => zR Tryz.func25 rfl rfl rfl) rfl rfl (fun w h => bad_r T z sv s1 rb w (hPe w (hW.now (.tail _ (.head _)) h) (fun p hp => h.own p (by simp [hp]))) (h.at_ 1 rfl) hk1) ?_
   cases hi7 : badR s1
   ·refine w_r (fun _ => R_not rfl) rfl rfl ?_; refine mB rfl ?_; refine zw rfl rfl rfl ?_; refine mP rfl ?_; refine zw rfl rfl rfl ?_; refine w_nilc rfl ?_; refine zw rfl rfl rfl ?_; refine zf fa69_1 rfl ?_; refine zw rfl rfl rfl ?_; refine zl z3 rfl (fun _ h => zc 1 rfl rfl h) ?_; refine zw rfl rfl rfl ?_; refine mS rfl ?_; refine zw rfl rfl rfl ?_; refine w_r (fun _ => R_len sl50 rfl) rfl rfl ?_; refine zw rfl rfl rfl ?_; refine w_r (fun _ => R_lt rfl rfl) rfl rfl ?_; refine w_r (v := .bool _) (fun _ => zT rfl rfl) rfl rfl ?_; refine yB ?_; refine zD rfl (fun h8 => ?_) (fun h8 => ?_)
    ·refine zr ?_; refine mP rfl ?_; refine w_rv (ob := Rr sv z) (s1 := (failR T z s1 130)) (v0 := .tuple #[]) 1 rfl (fun w => zR Tryz.func31 rfl rfl rfl) rfl rfl (fun w h => fail_r T z sv s1 rb w (hPe w (hW.now (.tail _ (.head _)) h) (fun p hp => h.own p (by simp [hp]))) (h.at_ 1 rfl) hk1 130) ?_
     have hk9 : (failR T z s1 130).k ≤ T.length := (by rw [failR_k]; exact hk1)
     refine zn ?_; exact k_mid ⟨_, rfl, rfl, rfl, rfl, rfl, rfl, rfl, rfl, (by rw [endS_yes hi7 (by omega)]; first | done | rfl), (by rw [endS_yes hi7 (by omega)]; exact hk9), hK1⟩
    ·refine zi ?_; exact k_mid ⟨_, rfl, rfl, rfl, rfl, rfl, rfl, rfl, rfl, (by rw [endS_no (by omega)]; first | done | rfl), (by rw [endS_no (by omega)]; exact hk1), hK1⟩
   ·refine w_r (fun _ => R_not rfl) rfl rfl ?_; refine mB rfl ?_; (iterate 7 refine zs rfl rfl rfl ?_); refine w_r (v := .bool _) (fun _ => zF rfl rfl) rfl rfl ?_; refine yB ?_; refine c_condF rfl ?_; refine zi ?_; exact k_mid ⟨_, rfl, rfl, rfl, rfl, rfl, rfl, rfl, rfl, (by rw [endS_bad hi7]; first | done | rfl), (by rw [endS_bad hi7]; exact hk1), hK1⟩
  rintro e B L ⟨xb, e0_1, e2_1, e3_1, e4_1, e5_1, e6_1, e7_1, rfl, rfl, hke, hKe⟩
  refine zq ?_; refine yA ?_; refine mP e6_1 ?_; refine zC (fun w => zR Tryz.func25 rfl rfl rfl) rfl rfl (fun w h => bad_r T z sv (endS T z s1) rb w (hPe w (hW.now (.tail _ (.head _)) h) (fun p hp => h.own p (by simp [hp]))) (h.at_ 1 rfl) hke) ?_
  cases hi10 : badR (endS T z s1)
  ·refine yB ?_; refine c_condF rfl ?_; refine zi ?_; refine zk ?_; refine yA ?_; refine w_loadA z39 e7_1 (fun _ h => h.at_ 0 rfl) rfl ?_; refine w_r (fun _ => R_build bt32 rfl) rfl rfl ?_; refine w_store 4 rfl z39 e2_1 rfl rfl rfl rfl rfl rfl ?_; refine w_store 3 rfl z32 e3_1 rfl rfl rfl rfl rfl rfl ?_; refine yB ?_; refine ze ?_; refine r_fin (.inl rfl) rfl (.agg rfl e2_1 z39 (fun _ h => h.at_ 4 rfl) rfl (.agg rfl e3_1 z32 (fun _ h => h.at_ 3 rfl) rfl .nil)) ?_; exact fun w' hw => by rw [resR_g hr9 hi10]; exact ⟨b1, rfl, (hKe.fin TL.ext (.head _) hw), hw.fr _ (.tail _ (.head _))⟩
  ·refine yB ?_; refine zE rfl ?_; refine zq ?_; refine c_held (fun w => w.heap[rb]? = some (Rr sv z (endS T z s1))) mixed ?_; refine zh 0 rfl (by kernel_rfl) rfl rfl (fun w h => h.at_ 1 rfl) (fun w h => R_build bt39 rfl) ?_; refine zh 1 rfl (by kernel_rfl) rfl rfl (fun w h => h.at_ 1 rfl) (fun w h => R_move e6_1) ?_; refine zh 2 rfl (by kernel_rfl) rfl rfl (fun w h => h.at_ 1 rfl) (fun w h => R_nil rfl) ?_; refine zh 3 rfl (by kernel_rfl) rfl rfl (fun w h => h.at_ 1 rfl) (fun w h => R_fa fa69_4 rfl) ?_; refine zh 4 rfl (by kernel_rfl) rfl rfl (fun w h => h.at_ 1 rfl) (fun w h => R_ldb z32 rfl h rfl) ?_; refine h_one 5 (by kernel_rfl) (fun w h => h.at_ 1 rfl) ?_; refine o_store 4 rfl rfl z39 e2_1 rfl rfl rfl rfl rfl rfl ?_; refine h_one 6 (by kernel_rfl) (fun w h => h.at_ 1 rfl) ?_
   refine o_store 3 rfl rfl z32 e3_1 rfl rfl rfl rfl rfl rfl ?_; refine h_done (by kernel_rfl) (fun w h => h.at_ 1 rfl) ?_; refine zk ?_; refine ze ?_; refine zt (?_)
   refine r_fin (.inl rfl) rfl (.agg rfl e2_1 z39 (fun _ h => h.at_ 4 rfl) rfl (.agg rfl e3_1 z32 (fun _ h => h.at_ 3 rfl) rfl .nil)) ?_; exact fun w' hw => by rw [resR_b hr9 hi10]; exact ⟨(none, 0), rfl, exT.none, hw.fr _ (.tail _ (.head _))⟩
end Go.Proofs.YtaniogadknakoaaGreatDoor
end

section
namespace Go.Proofs.YtaniogadknakoaaGreatDoor
open Go.RowKit Go.Sx
open Go.Tok Go.Tree

def SameAtH (n : Nat) : Prop := ∀ (l : List Ex) (a b : Option Addr) (c d : Nat) (N : Nat → Prop) (w : World), exsW l < n → l.length ≤ 10000000 → exsM w N l a 0 → exsM w N l b 0 → Ret Tryz.prog 15 #[.slice a l.length c, .slice b l.length d] w fun v w' => v = .bool true ∧ Ext w w'
def SameStH (n : Nat) : Prop := ∀ (l : List Sm) (a b : Option Addr) (c d : Nat) (N : Nat → Prop) (w : World), smsW l < n → l.length ≤ 10000000 → smsM w N l a 0 → smsM w N l b 0 → Ret Tryz.prog 32 #[.slice a l.length c, .slice b l.length d] w fun v w' => v = .bool true ∧ Ext w w'

set_option maxRecDepth 100000 in
set_option maxHeartbeats 4000000 in
theorem sameAt_step (n : Nat) (ih : SameAtH n) (hN : n ≤ 10000000) (l : List Ex) (a b : Option Addr) (c d : Nat) (N : Nat → Prop) (w : World) (hl : exsW l < n + 1) (hll : l.length ≤ 10000000) (hm : exsM w N l a 0) (hm2 : exsM w N l b 0) :
    Ret Tryz.prog 15 #[.slice a l.length c, .slice b l.length d] w (fun v w' => v = .bool true ∧ Ext w w') := by
  refine enter (S := No) (l := [_, _]) (L := []) 68 Tryz.func15 rfl rfl rfl (St.start w No) ?_; refine yA ?_; refine aB rfl ?_; refine yB ?_; refine zq ?_; refine yA ?_; refine mS rfl ?_; refine w_r (fun _ => R_len sl37 rfl) rfl rfl ?_; refine mS rfl ?_; refine w_r (fun _ => R_len sl37 rfl) rfl rfl ?_; refine w_r (fun _ => R_ne rfl rfl) rfl rfl ?_; refine yB ?_; refine zD rfl (fun h1 => ?_) (fun h1 => ?_)
  · exact absurd rfl h1
  · refine zi ?_; refine zk ?_; refine zq ?_; refine yA ?_; refine aI rfl ?_; refine yB ?_; refine zB ?_; refine c_loop (fun m e B L => ∃ (k : Nat), e 0 = .slice a l.length c ∧ e 1 = .slice b l.length d ∧ e 5 = .int .i64 (k : Nat) ∧ B = [(w, No)] ∧ L = [] ∧ k ≤ l.length ∧ m = l.length - k) _ ⟨0, rfl, rfl, rfl, rfl, rfl, Nat.zero_le _, rfl⟩ ?_
    rintro m e B L ⟨k, e0_1, e1_1, e5_1, rfl, rfl, hk, rfl⟩
    refine zq ?_; refine yA ?_; refine mI e5_1 ?_; refine mS e0_1 ?_; refine w_r (fun _ => R_len sl37 rfl) rfl rfl ?_; refine w_r (fun _ => R_lt rfl rfl) rfl rfl ?_; refine yB ?_; refine zD rfl (fun h2 => ?_) (fun h2 => ?_)
    · have hlt : k < l.length := (by omega); obtain ⟨x, hxk⟩ : ∃ x, l[k]? = some x := ⟨_, List.getElem?_eq_getElem hlt⟩; obtain ⟨cs, hA, hE⟩ := hm.get0 hxk; obtain ⟨ds, hA2, hE2⟩ := hm2.get0 hxk; obtain ⟨b1, o1, rfl⟩ := hA.ptr; obtain ⟨b3, o3, rfl⟩ := hA2.ptr; have hEx := hE; have hEz := hE2; have hxn := exsW_mem (List.mem_of_getElem? hxk); obtain ⟨op, at_, nm, ks⟩ := x; unfold exM at hEx hEz; obtain ⟨ka, kc, rfl, hkc, hks⟩ := hEx; obtain ⟨ka2, kc2, rfl, hkc2, hks2⟩ := hEz; unfold exW at hxn
      refine zi ?_; refine zk ?_; refine zq ?_; refine zB ?_; refine zq ?_; refine c_draw mixed (by kernel_rfl) ?_; refine mS e0_1 ?_; refine mI e5_1 ?_; refine w_r (fun _ => R_iaN (i := k) sl37 rfl rfl (by first | omega | decide)) rfl rfl ?_; refine zf fa39_0 rfl ?_; refine zl z5 rfl (fun _ h => hA.cell (fun _ _ hh => hh) (.head _) h 0 _ rfl) ?_; refine mS e1_1 ?_; refine mI e5_1 ?_; refine w_r (fun _ => R_iaN (i := k) sl37 rfl rfl (by first | omega | decide)) rfl rfl ?_; refine zf fa39_0 rfl ?_; refine zl z5 rfl (fun _ h => hA2.cell (fun _ _ hh => hh) (.head _) h 0 _ rfl) ?_; refine w_r (fun _ => R_ne rfl rfl) rfl rfl ?_; refine mB rfl ?_; refine zd (t := 28) rfl (fun h3 => ?_) (fun h3 => ?_)
      · exact absurd rfl h3
      · refine zw rfl rfl (bF h3) ?_; refine mS e0_1 ?_; refine zw rfl rfl (bF h3) ?_; refine mI e5_1 ?_; refine zw rfl rfl (bF h3) ?_; refine w_r (fun _ => R_iaN (i := k) sl37 rfl rfl (by first | omega | decide)) rfl rfl ?_; refine zw rfl rfl (bF h3) ?_; refine zf fa39_1 rfl ?_; refine zw rfl rfl (bF h3) ?_; refine zl z3 rfl (fun _ h => hA.cell (fun _ _ hh => hh) (.head _) h 1 _ rfl) ?_; refine zw rfl rfl (bF h3) ?_; refine mS e1_1 ?_; refine zw rfl rfl (bF h3) ?_; refine mI e5_1 ?_; refine zw rfl rfl (bF h3) ?_; refine w_r (fun _ => R_iaN (i := k) sl37 rfl rfl (by first | omega | decide)) rfl rfl ?_; refine zw rfl rfl (bF h3) ?_; refine zf fa39_1 rfl ?_; refine zw rfl rfl (bF h3) ?_
        refine zl z3 rfl (fun _ h => hA2.cell (fun _ _ hh => hh) (.head _) h 1 _ rfl) ?_; refine zw rfl rfl (bF h3) ?_; refine w_r (fun _ => R_ne rfl rfl) rfl rfl ?_; refine w_r (v := .bool _) (fun _ => zF (bF h3) rfl) rfl rfl ?_; refine mB rfl ?_; refine zd (t := 41) rfl (fun h4 => ?_) (fun h4 => ?_)
        · exact absurd rfl h4
        · refine zw rfl rfl (bF h4) ?_; refine mS e0_1 ?_; refine zw rfl rfl (bF h4) ?_; refine mI e5_1 ?_; refine zw rfl rfl (bF h4) ?_; refine w_r (fun _ => R_iaN (i := k) sl37 rfl rfl (by first | omega | decide)) rfl rfl ?_; refine zw rfl rfl (bF h4) ?_; refine zf fa39_2 rfl ?_; refine zw rfl rfl (bF h4) ?_; refine zl z9 rfl (fun _ h => hA.cell (fun _ _ hh => hh) (.head _) h 2 _ rfl) ?_; refine zw rfl rfl (bF h4) ?_; refine mS e1_1 ?_; refine zw rfl rfl (bF h4) ?_; refine mI e5_1 ?_; refine zw rfl rfl (bF h4) ?_; refine w_r (fun _ => R_iaN (i := k) sl37 rfl rfl (by first | omega | decide)) rfl rfl ?_; refine zw rfl rfl (bF h4) ?_; refine zf fa39_2 rfl ?_; refine zw rfl rfl (bF h4) ?_
          refine zl z9 rfl (fun _ h => hA2.cell (fun _ _ hh => hh) (.head _) h 2 _ rfl) ?_; refine zw rfl rfl (bF h4) ?_; refine w_r (fun _ => R_sne rfl rfl) rfl rfl ?_; refine w_r (v := .bool _) (fun _ => zF (bF h4) rfl) rfl rfl ?_; refine mB rfl ?_; refine zd (t := 54) rfl (fun h5 => ?_) (fun h5 => ?_)
          · exact absurd rfl h5
          · refine zw rfl rfl (bF h5) ?_; refine mS e0_1 ?_; refine zw rfl rfl (bF h5) ?_; refine mI e5_1 ?_; refine zw rfl rfl (bF h5) ?_; refine w_r (fun _ => R_iaN (i := k) sl37 rfl rfl (by first | omega | decide)) rfl rfl ?_; refine zw rfl rfl (bF h5) ?_; refine zf fa39_3 rfl ?_; refine zw rfl rfl (bF h5) ?_; refine zl z37 rfl (fun _ h => hA.cell (fun _ _ hh => hh) (.head _) h 3 _ rfl) ?_; refine zw rfl rfl (bF h5) ?_; refine mS e1_1 ?_; refine zw rfl rfl (bF h5) ?_; refine mI e5_1 ?_; refine zw rfl rfl (bF h5) ?_; refine w_r (fun _ => R_iaN (i := k) sl37 rfl rfl (by first | omega | decide)) rfl rfl ?_; refine zw rfl rfl (bF h5) ?_; refine zf fa39_3 rfl ?_; refine zw rfl rfl (bF h5) ?_
            refine zl z37 rfl (fun _ h => hA2.cell (fun _ _ hh => hh) (.head _) h 3 _ rfl) ?_; refine zw rfl rfl (bF h5) ?_; refine zC (fun w => zR Tryz.func15 rfl rfl rfl) rfl rfl (fun w h => ih ks ka ka2 kc kc2 N w (by omega) (by omega) (hks.now (fun _ _ hh => hh) (.head _) h) (hks2.now (fun _ _ hh => hh) (.head _) h)) ?_; refine zw rfl rfl (bF h5) ?_; refine w_r (fun _ => R_not rfl) rfl rfl ?_; refine w_r (v := .bool _) (fun _ => zF (bF h5) rfl) rfl rfl ?_; refine yB ?_; refine c_condF rfl ?_; refine zi ?_; refine b_on (zk ?_); refine zr ?_; refine mI e5_1 ?_; refine w_r (fun _ => R_addi rfl rfl (by omega)) rfl rfl ?_; refine aI rfl ?_; refine zn ?_; exact k_again _ (by omega) ⟨k + 1, e0_1, e1_1, rfl, rfl, rfl, by omega, rfl⟩
    · refine c_exit ?_; refine zx (zx (b_here rfl (zk ?_))); refine yA ?_; refine aB rfl ?_; refine yB ?_; refine ze ?_; refine zo (v := .bool _) rfl rfl rfl ?_; exact fun w' hw => ⟨rfl, hw.fr _ (.head _)⟩

theorem sameAt_all : ∀ n : Nat, n ≤ 10000000 → SameAtH n
  | 0, _ => fun _ _ _ _ _ _ _ h => absurd h (Nat.not_lt_zero _)
  | n + 1, h => sameAt_step n (sameAt_all n (by omega)) (by omega)
theorem sameAt_ok : SameAtH 10000000 := sameAt_all _ (Nat.le_refl _)

end Go.Proofs.YtaniogadknakoaaGreatDoor
end

section
namespace Go.Prs
open Go.Tok Go.Tree
theorem resE_W (s : Str) : exW (resOf noEx (exprP s)).1 ≤ tw (readP s).1 + 1 := by
  have h0 : exW noEx ≤ 1 := by unfold noEx; rw [exW_mk, exsW_nil]; simp
  by_cases hz : (readP s).2.1 = 0
  · have e : exprP s = andR (pSum s.length (fuel (readP s).1) (readP s).1 0) endR := face_go hz
    rw [e]
    cases hX : pSum s.length (fuel (readP s).1) (readP s).1 0 with
    | error fl => exact Nat.le_trans h0 (by omega)
    | ok q =>
      obtain ⟨a, r⟩ := q
      have h1 := sum_W (z := s.length) (n := fuel (readP s).1) (readP s).1 0 _ hX
      cases r with
      | nil => show exW a ≤ _; dsimp only at h1; omega
      | cons t r => exact Nat.le_trans h0 (by omega)
  · rw [show exprP s = .error (readP s).2 from face_bad hz]
    exact Nat.le_trans h0 (by omega)
end Go.Prs
end

section
namespace Go.Proofs.YtaniogadknakoaaGreatDoor
open Go.RowKit Go.Sx
open Go.Tok Go.Tree Go.Prs

set_option maxRecDepth 100000 in
set_option maxHeartbeats 8000000 in
theorem exprs13_walk (s : Str) (hs : s.length ≤ 9223372036854775807) (w : World) (hW : Wd w) (hng : 4 ≤ w.heap.size) :
  Ret Tryz.prog 4 #[str s] w (fun v w' => v = .bool true ∧ Ext w w') := by
 have hew := resE_W s
 have htw := readP_tw s
 refine enter (S := No) (l := [_]) (L := []) 34 Tryz.func4 rfl rfl rfl (St.start w No) ?_; refine yA ?_; refine aB rfl ?_; refine yB ?_; refine zq ?_; refine yA ?_; refine zm (v := str _) rfl ?_; refine w_r (fun _ => R_slen st9 rfl (by omega)) rfl rfl ?_; refine w_r (fun _ => R_gt rfl rfl) rfl rfl ?_; refine yB ?_; refine zD rfl (fun h1 => ?_) (fun h1 => ?_)
 ·refine yA ?_; refine zC (fun w => zR Tryz.func9 rfl rfl rfl) rfl rfl (fun w h => head13_ok w (hW.now (.head _) h) (Nat.le_trans hng (h.fr _ (.head _)).size)) ?_; refine aB rfl ?_; refine yB ?_; refine ze ?_; refine zt (?_)
  refine zo (v := .bool _) rfl rfl rfl ?_; exact fun w' hw => ⟨rfl, hw.fr _ (.head _)⟩
 ·refine zi ?_; refine zk ?_; refine yA ?_; refine zm (v := str _) rfl ?_; refine w_callR (fun w => zR Tryz.func13 rfl rfl rfl) rfl rfl (fun w h => Expr_ok s (by omega) w (hW.now (.head _) h) (Nat.le_trans hng (h.fr _ (.head _)).size)) ?_
  rintro wa hwa v x1 ⟨b1, rfl, hM, hne, hx⟩
  refine ⟨_, _, (hwa.ext hx).base1, ?_⟩
  have hK1 : Kt (x1, inL _) w.heap.size exT _ b1 := Kt.new hM TL.ext hwa (hwa.fr _ (.head _)).size; clear hM hx hwa
  refine zm rfl ?_; refine w_r (fun _ => R_extract rfl rfl) rfl rfl ?_; refine w_r (fun _ => R_extract rfl rfl) rfl rfl ?_; refine w_alloc zr39 (fun e1b ge1b ue1b => ?_)
  refine w_alloc zr32 (fun f1b gf1b uf1b => ?_)
  refine w_store 1 rfl z39 rfl rfl rfl rfl rfl rfl rfl ?_; refine w_store 0 rfl z32 rfl rfl rfl rfl rfl rfl rfl ?_; refine yC ?_; refine zm (v := str _) rfl ?_; refine w_callR (fun w => zR Tryz.func14 rfl rfl rfl) rfl rfl (fun w h => rExpr_ok s (by omega) hne _ rfl w (hW.now (.tail _ (.head _)) h) (Nat.le_trans hng (h.fr _ (.tail _ (.head _))).size)) ?_
  rintro wa hwa v x2 ⟨b2, rfl, hM, hx⟩
  refine ⟨_, _, (hwa.ext hx).base1, ?_⟩
  have hK2 : Kt (x2, inL _) w.heap.size exT _ b2 := Kt.new hM TL.ext hwa (hwa.fr _ (.tail _ (.head _))).size; clear hM hx hwa
  refine zm rfl ?_; refine w_r (fun _ => R_extract rfl rfl) rfl rfl ?_; refine w_r (fun _ => R_extract rfl rfl) rfl rfl ?_; refine w_alloc zr39 (fun e2b ge2b ue2b => ?_)
  refine w_alloc zr32 (fun f2b gf2b uf2b => ?_)
  refine w_store 1 rfl z39 rfl rfl rfl rfl rfl rfl rfl ?_; refine w_store 0 rfl z32 rfl rfl rfl rfl rfl rfl rfl ?_; refine yC ?_; refine w_loadA z39 rfl (fun _ h => h.at_ 3 rfl) rfl ?_; refine zS slt37 (by decide) rfl rfl (fun s1b gs1b us1b => ?_)
  refine w_loadA z39 rfl (fun _ h => h.at_ 2 rfl) rfl ?_; refine zS slt37 (by decide) rfl rfl (fun s2b gs2b us2b => ?_)
  refine zC (fun w => zR Tryz.func15 rfl rfl rfl) rfl rfl (fun w h => sameAt_ok [(resOf noEx (exprP s)).1] _ _ 1 1 (fun _ => True) w (by rw [exsW_one1]; omega) (by rw [List.length_singleton]; decide) (kid1 (TL.ext.mono (hK1.at TL.ext (.tail _ (.head _)) h) (fun _ _ => trivial)) (h.at_ 1 rfl) trivial) (kid1 (TL.ext.mono (hK2.at TL.ext (.head _) h) (fun _ _ => trivial)) (h.at_ 0 rfl) trivial)) ?_; refine mB rfl ?_; refine zw rfl rfl rfl ?_; refine w_loadA z32 rfl (fun _ h => h.at_ 4 rfl) rfl ?_; refine zw rfl rfl rfl ?_; refine w_loadA z32 rfl (fun _ h => h.at_ 2 rfl) rfl ?_; refine zw rfl rfl rfl ?_; refine w_r (fun _ => R_eqS fl32 rfl rfl (eq2_run (n := 9998) fl32 z30 z3 un30 un3)) rfl rfl ?_; refine w_r (v := .bool _) (fun _ => zT rfl rfl) rfl rfl ?_; refine mB rfl ?_
  refine zp (t := 31) rfl (fun h6 => ?_) (fun h6 => ?_)
  ·refine zw rfl rfl (bV h6) ?_; refine zC (fun w => zR Tryz.func9 rfl rfl rfl) rfl rfl (fun w h => head13_ok w (hW.now (.tail _ (.tail _ (.head _))) h) (Nat.le_trans hng (h.fr _ (.tail _ (.tail _ (.head _)))).size)) ?_; refine w_r (v := .bool _) (fun _ => zT (bV h6) rfl) rfl rfl ?_; refine aB rfl ?_; refine yB ?_; refine ze ?_; refine zo (v := .bool _) rfl rfl rfl ?_; exact fun w' hw => ⟨rfl, hw.fr _ (.tail _ (.tail _ (.head _)))⟩
  ·first | exact absurd (by first | rfl | decide) h6 | (simp at h6)
end Go.Proofs.YtaniogadknakoaaGreatDoor
end

section
namespace Go.Sx
theorem handed_and_shaped {H : Type} {enc : TypeId × Value → H} {a : Assume} {C : Checked} {os : Os} {f : FuncId} {fn : Func} {s : ChangeSpec} {conds : List PathCond} {apart fresh handsOn again : Bool} {X : World → Array Value → Prop}
    (hX : ∀ (w w' : World) (args : Array Value), w.heap = w'.heap → X w args → X w' args)
    (own : ownKnob C.prog.godebug = none) (started : os.Started) (noInit : C.prog.inits.idxOf? f = none) (hfn : C.prog.funcs[f]? = some fn)
    (witness : ∃ (w : World) (tape : Tape) (i : Input), w.os = os ∧ (w.forCall tape i).Shaped C.prog ∧ i.vars = [] ∧ Input.okWide C.prog (w.forCall tape i) .any w.heap.size f i ∧
      ((s.pre enc C.prog fn conds apart (w.forCall tape i).memory i.args ∧ X (w.forCall tape i).memory i.args) ∧ sizedMet enc C.prog fn (OpenSpec.ofChange s) apart (w.forCall tape i).memory i.args) ∧ a.holds C.prog (lone (Frame.enter C.prog f i.args .normal) [] (w.forCall tape i)))
    (contract : ∀ (W : World) (base : Nat) (args : Array Value) (ds gs : List (DataW H)) (before : List MemPlace),
      (∀ (j : Nat) t v, fn.params[j]? = some t → args[j]? = some v → Value.okWide C.prog W .any base t v) →
      DataW.Whole enc C.prog fn.params.toList s.vars apart W args.toList ds gs before →
      X W args → W.ShapedOpen C.prog →
      Calls C.prog f args W fun e W' => ∃ v, e = .returned v ∧ s.post enc C.prog fn apart fresh handsOn again W args v W') :
    ReturnsInHanded a C os f .any (fun w args => (s.pre enc C.prog fn conds apart w args ∧ X w args) ∧ sizedMet enc C.prog fn (OpenSpec.ofChange s) apart w args) (s.post enc C.prog fn apart fresh handsOn again) := by
  refine returnsInHanded_of_calls own started noInit witness ?_
  intro w tape i _ hsh _ hok hpre hholds
  obtain ⟨_, _, _, fn', hfn', _, _, _, _, hval⟩ := hok
  have e : fn' = fn := Option.some.inj (hfn'.symm.trans hfn)
  subst e
  obtain ⟨⟨⟨ds, gs, before, hw, hc⟩, hx⟩, hz⟩ := hpre
  have hw' := DataW.Whole.of_heap (w' := w.forCall tape i) (by rfl) hw
  refine (contract (w.forCall tape i) w.heap.size i.args ds gs before hval hw' (hX _ _ _ (by rfl) hx) hsh).mono fun e W' ⟨v, he, hp⟩ => ?_
  subst he
  exact ChangeSpec.post_blind hp
end Go.Sx
end

section
namespace Go.Proofs.YtaniogadknakoaaGreatDoor
open Go.ChangeShapes Go.WideShapes Go.ChangeAt Go.RowKit Go.Sx
open Go.ChangeMaps (open_string)
theorem own : ownKnob Tryz.prog.godebug = none := by kernel_rfl
theorem below_ext {w w' : World} (h : Ext w w') : Below w.heap.size w w' := ⟨h.os, h.tape, h.output, h.size, fun k hk => h.blk k hk (fun x => x)⟩
section
variable {H : Type} {enc : TypeId × Value → H} {P : Program}
theorem post_ext {f : Func} {s : ChangeSpec} {apart fresh handsOn : Bool} {W W' : World} {args : Array Value} {v : Value} {ds gs : List (DataW H)} {before pa pv : List MemPlace}
    (hW : DataW.Whole enc P f.params.toList s.vars apart W args.toList ds gs before)
    (hres : ∀ (b : Nat) (sp : Nat → Bool) (hd : Bool), DataW.TrodAll enc P W' b sp hd f.resultTypes.toList (v.resultList f.resultTypes.size) (s.fn H (ds ++ gs)).results [])
    (hargs : ∀ sp : Nat → Bool, (∀ p ∈ before, sp p.block = true) → DataW.TrodAll enc P W' 0 sp true f.params.toList args.toList (s.fn H (ds ++ gs)).args pa)
    (hvars : ∀ sp : Nat → Bool, (∀ p ∈ before, sp p.block = true) → DataW.TrodVars enc P W' sp s.vars (s.fn H (ds ++ gs)).vars pv)
    (hps : before = pa ++ pv) (hb : Below W.heap.size W W') : s.post enc P f apart fresh handsOn false W args v W' := by
  have hold : ∀ p ∈ before, (fun b => decide (b < W.heap.size)) p.block = true := fun p hp => by simpa using hW.lt p hp
  exact ⟨ds, gs, before, [], pa, pv, hW, hres _ _ _, hargs _ hold, hvars _ hold, hb.frame _, fun h => by cases h⟩
end
theorem door_met (os : Os) (args : Array Value) : laidMetH Tryz.prog Rows.parseExprsRow.laid ((World.doorLaid Tryz.prog 400 os).forCall (fun _ _ => 0) ⟨#[], args, []⟩).memory :=
  laidMetH_of_parts3 (fuel := 8) (laidMet_of_run' 8 (by kernel_rfl) (by kernel_rfl)) (by kernel_rfl) (by kernel_rfl)
set_option maxRecDepth 100000 in
theorem tb_of_laid {W : World} (h : laidMetH Tryz.prog Rows.parseExprsRow.laid W) : Tb W := by
  rw [MakeChecks.laidMetH_plain _ _ _ (by kernel_rfl)] at h
  obtain ⟨ps, ⟨g0, t0, cs0, f0, p0, q0, hg0, ht0, hv0, hd0, ⟨g1, t1, cs1, f1, p1, q1, hg1, ht1, hv1, hd1, hr1, hq0⟩, hps⟩, hn, hm⟩ := h
  refine Tb.of (Lib.tabIs_of_head (g := 0) (t := 115) (e := 5) (n := 256) (rest := []) (by kernel_rfl) (by kernel_rfl) Tryz.underlying115 Tryz.underlying5 (by kernel_rfl) (by kernel_rfl) (W := W) ⟨q0, ⟨g1, t1, cs1, f1, p1, q1, hg1, ht1, hv1, hd1, hr1, hq0⟩, ?_, ?_⟩)
  · rw [hps] at hn; exact (List.nodup_append.1 hn).2.1
  · exact fun b off hx => hm b off (by rw [hps]; exact List.mem_append.2 (.inr hx))
theorem size_of_shaped {P : Program} {w : World} {g : Nat} (h : w.ShapedOpen P) (hg : g < P.globals.size) (h0 : (((begin P (fun _ _ => 0) default).world.heap[g]?).bind Obj.row?).isSome = true) : g < w.heap.size := by
  obtain ⟨⟨zero, t⟩, h1⟩ := Option.isSome_iff_exists.1 h0
  obtain ⟨cs, hh, _⟩ := h.1 g zero t hg h1
  exact (Array.getElem?_eq_some_iff.1 hh).1

set_option maxRecDepth 100000 in
theorem parseExprs_lifted (os : Os) (started : os.Started) (H : Type) (enc : TypeId × Value → H) :
    ReturnsInHanded {} Tryz.checked os 4 .any (fun w args => (Rows.parseExprsSpec.pre enc Tryz.prog Tryz.f4 [] false w args ∧ laidMetH Tryz.prog Rows.parseExprsRow.laid w) ∧ sizedMet enc Tryz.prog Tryz.f4 (OpenSpec.ofChange Rows.parseExprsSpec) false w args)
      (Rows.parseExprsSpec.post enc Tryz.prog Tryz.f4 false true false false) := by
  refine handed_and_shaped (C := Tryz.checked) (X := fun w _ => laidMetH Tryz.prog Rows.parseExprsRow.laid w) (fun _ _ _ hh h => h.of_heap hh) own started (by kernel_rfl) Tryz.func4
    (ChangeSpec.witness_shaped (enc := enc) (C := Tryz.checked) (os := os) (X := fun w _ => laidMetH Tryz.prog Rows.parseExprsRow.laid w) false (World.doorLaid Tryz.prog 400 os) #[.string ⟨#[]⟩] 8 rfl (World.shaped_of_RefB (by kernel_rfl) (by kernel_rfl)) (by kernel_rfl) (by kernel_rfl) (by kernel_rfl) (door_met os _)) ?_
  intro W base args ds gs before hval0 hW hL hsh
  have hval : ∀ (j : Nat) t v, Tryz.f4.params[j]? = some t → args[j]? = some v → Value.okWide Tryz.prog W .any base t v := hval0
  have hW' := hW
  obtain ⟨p, q, hA0, hV, rfl, _, _⟩ := hW
  have hA : DataW.TrodAll enc Tryz.prog W 0 (fun _ => true) true Tryz.f4.params.toList args.toList ds p := hA0
  rw [Tryz.params4] at hA hval
  obtain ⟨v0, d0, rfl, rfl, h0⟩ := trodAll_one hA
  obtain ⟨rfl, rfl⟩ := trodVars_none hV
  obtain ⟨x0, rfl, rfl, rfl, wx0⟩ := open_string Tryz.underlying9 (hval 0 9 v0 rfl rfl) h0
  have ht := tb_of_laid hL
  clear hA0 hval0
  simp only [List.append_nil] at hW'
  refine Calls.mono (exprs13_walk x0.data.toList (by have := wx0; unfold maxLen at this; simp; omega) W ⟨ht, ht.lt, cell_of_shapedOpen_int hsh (zero := #[.int .i64 0]) (g := 2) (t := 3) (by decide) (by kernel_rfl) rfl (by kernel_rfl) (by kernel_rfl) Tryz.underlying3⟩ (size_of_shaped hsh (g := 3) (by decide) (by kernel_rfl))) fun e W' ⟨v, he, hv, hx⟩ => ?_
  subst he; subst hv
  exact ⟨_, rfl, post_ext (pa := []) (pv := []) hW' (fun _ _ _ => trodAll_mk1 (shut_bool Tryz.underlying4 _)) (fun sp _ => trodAll_mk1 (ChangeMaps.shut_string Tryz.underlying9 wx0)) (fun _ _ => rfl) rfl (below_ext hx)⟩
theorem parseExprs_holds : Rows.ParseExprsSaid :=
  OpenClaim.holds_of_wide 4 Tryz.f4 rfl rfl rfl rfl rfl rfl rfl ⟨rfl, rfl, rfl, rfl, rfl⟩ rfl rfl rfl rfl rfl (by kernel_rfl) Tryz.func4 (by kernel_rfl)
    (of_decide_eq_true (by kernel_rfl)) (by unfold Func.isWrapper; first | (rw [if_pos (by decide +kernel)]; kernel_rfl) | (rw [if_neg (by decide +kernel)]; exact ⟨rfl, rfl⟩))
    (fun os started H enc _ => parseExprs_lifted os started H enc)
end Go.Proofs.YtaniogadknakoaaGreatDoor
end

section
namespace Go.Proofs.YtaniogadknakoaaGreatDoor
open Go
theorem parseExprs_card : Rows.ParseExprsCardSaid :=
  Claim7.holds_tied_plain_at .later [] [.listed, .data] true (true, "a9064e2a442c3b536780d827cf246cb9ffd59ece4e9a70045f3d8d8099ffcaba") true
    parseExprs_holds (fun _ h => by cases h) (by kernel_rfl) (fun _ h => by cases h) parseExprs_row_tie rfl ⟨rfl, rfl⟩ (by kernel_rfl) rfl
    (fun f fn hf hfn => by
      obtain rfl : f = 4 := Option.some.inj ((show Tryz.prog.funcNamed "stepstone/stepstonelaw13.ParseExprs" = some 4 by kernel_rfl).symm.trans hf) |>.symm
      obtain rfl : fn = Tryz.f4 := (Option.some.inj (Tryz.func4.symm.trans hfn)).symm
      exact ⟨by kernel_rfl, fun j t ht => by
        rw [Tryz.params4] at ht
        have ht3 : t = 9 := by
          rcases j with _ | j
          · simpa using ht.symm
          · simp at ht
        subst ht3
        exact (show Tryz.prog.wantsStandIn 9 = false by kernel_rfl)⟩)
    (by kernel_rfl)
end Go.Proofs.YtaniogadknakoaaGreatDoor
end
