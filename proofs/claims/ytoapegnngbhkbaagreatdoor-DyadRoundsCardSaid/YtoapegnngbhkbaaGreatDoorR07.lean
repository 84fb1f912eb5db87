/- Layer 5, DyadRounds: at every two small dyadic numbers and every way, the law of rounding, quotients, scales and grids answers true. Part 7 of 10. -/
import Derived.Test.YtoapegnngbhkbaaGreatDoorR06
section
namespace Go.Proofs.YtoapegnngbhkbaaGreatDoor
open Go.RowKit Go.Sx
open Go.Num
/-- a quotient, rounded down or up: what is told, and its sign -/
def QW (up : Bool) (x z : Int) : Int := fl (if up = true then -x else x) z
def bw (up : Bool) (x z : Int) : Bool := if up = true then !(ng (QW up x z)) else ng (QW up x z)
theorem way1_ok (up : Bool) (x z : Int) (ub : Nat) {a : Option Addr} {c : Nat} {a2 : Option Addr} {c2 : Nat} (w : World) (hA : Nm w a (sz x.natAbs) c x.natAbs) (hA2 : Nm w a2 (sz z.natAbs) c2 z.natAbs) (hs : sz x.natAbs ≤ 2000 ∧ sz z.natAbs ≤ 2000 ∧ z ≠ 0) (hu : w.cell? ⟨ub, 0, none⟩ = some (.bool up)) :
  Ret Tryz.prog 76 #[.agg #[.bool (ng x), .slice a (sz x.natAbs) c], .agg #[.bool (ng z), .slice a2 (sz z.natAbs) c2], .pointer (some ⟨ub, 0, none⟩)] w (Tel (fun a c => .tuple #[.agg #[.bool (bw up x z), .slice a (sz (QW up x z).natAbs) c], .int .i64 0]) (sz (QW up x z).natAbs) (QW up x z).natAbs w) := by
 unfold bw QW
 cases up
 ·have := wayF_ok x z ub w hA hA2 hs hu
  rw [iv_ng, iv_ng] at this
  exact this
 ·have := wayT_ok x z ub w hA hA2 hs hu
  rw [iv_not, iv_ng, iv_ng] at this
  exact this
theorem BX_neg (x k : Int) : BX (-x) k = -BX x k := by unfold BX; split; (rw [Int.neg_mul]); rfl
theorem bw_qt (up : Bool) (x z k : Int) : iv (bw up (BX x k) (BZ z k)) (QW up (BX x k) (BZ z k)).natAbs = qt x z k up := by
 unfold bw QW
 rw [iv_flip]
 unfold qt
 rw [← br_eq, ← br_eq, BX_neg]
 cases up <;> rfl
theorem fl_sz (x : Int) {y : Int} (hy : y ≠ 0) : sz (fl x y).natAbs ≤ sz x.natAbs + 1 := by
 rw [fl_sizes hy, iv_abs]
 have h1 : x.natAbs / y.natAbs ≤ x.natAbs := Nat.div_le_self _ _
 have h2 : sz (x.natAbs + 1) ≤ sz x.natAbs + 1 := sz_iff.2 (Nat.lt_of_le_of_lt (Nat.succ_le_of_lt (lt_sz x.natAbs)) (Nat.pow_lt_pow_right B_gt (Nat.lt_succ_self _)))
 refine Nat.le_trans (sz_mono ?_) h2
 split <;> omega
theorem QW_sz (up : Bool) (x : Int) {z : Int} (hz : z ≠ 0) : sz (QW up x z).natAbs ≤ sz x.natAbs + 1 := by
 unfold QW
 have := fl_sz (if up = true then -x else x) hz
 rwa [show (if up = true then -x else x).natAbs = x.natAbs by split <;> simp] at this
theorem BX_sz {x k : Int} (h : sz x.natAbs ≤ 100) (hk : k ≤ 10000) : sz (BX x k).natAbs ≤ 300 := by
 unfold BX
 split
 ·rw [← abs_shl]; have := sz_shl x.natAbs k.toNat; omega
 ·omega
theorem BZ_sz {x k : Int} (h : sz x.natAbs ≤ 100) (hk : -10000 ≤ k) : sz (BZ x k).natAbs ≤ 300 := by
 unfold BZ
 split
 ·omega
 ·rw [← abs_shl]; have := sz_shl x.natAbs (-k).toNat; omega
theorem BZ_ne {z : Int} (h : z ≠ 0) (k : Int) : BZ z k ≠ 0 := by
 unfold BZ
 split
 ·exact h
 ·exact Int.mul_ne_zero h (Int.natCast_ne_zero.2 (Nat.pos_iff_ne_zero.1 (Nat.pow_pos (by decide))))
theorem nb_nd (x e : Int) : bl (nd x e).1.natAbs = nb x := by
 unfold nb
 by_cases h : x = 0
 ·subst h; rw [nd_zero, show (0 : Int).natAbs = 0 from rfl, od_zero]
 ·rw [nd_of h]
  show bl (x.sign * (od x.natAbs : Int)).natAbs = _
  rw [Int.natAbs_mul, Int.natAbs_natCast, Int.natAbs_sign_of_ne_zero h, Nat.one_mul]
section
variable {A C : Int × Int} {p j : Nat} {up : Bool} {e0 : Int}
theorem div_here (hC : C.1 ≠ 0) (hp : 0 < p) (he : e0 = (bl A.1.natAbs : Int) + (A.2 - C.2) - bl C.1.natAbs - p) (hj : j ≤ 1) (hj1 : j = 1 → ¬ nb (qt A.1 C.1 (A.2 - C.2 - e0) up) ≤ p) (h : nb (qt A.1 C.1 (A.2 - C.2 - (e0 + (j : Int))) up) ≤ p) : nd (qt A.1 C.1 (A.2 - C.2 - (e0 + (j : Int))) up) (e0 + (j : Int)) = dv A C p up := by
 have hd := dv_prog (up := up) hC hp he
 rcases Nat.le_one_iff_eq_zero_or_eq_one.1 hj with rfl | rfl
 ·rw [Int.natCast_zero, Int.add_zero] at h ⊢; exact hd.1 h
 ·exact (hd.2 (hj1 rfl)).2
theorem div_on (hC : C.1 ≠ 0) (hp : 0 < p) (he : e0 = (bl A.1.natAbs : Int) + (A.2 - C.2) - bl C.1.natAbs - p) (hj : j ≤ 1) (hj1 : j = 1 → ¬ nb (qt A.1 C.1 (A.2 - C.2 - e0) up) ≤ p) (h : ¬ nb (qt A.1 C.1 (A.2 - C.2 - (e0 + (j : Int))) up) ≤ p) : j = 0 ∧ ¬ nb (qt A.1 C.1 (A.2 - C.2 - e0) up) ≤ p := by
 have hd := dv_prog (up := up) hC hp he
 rcases Nat.le_one_iff_eq_zero_or_eq_one.1 hj with rfl | rfl
 ·rw [Int.natCast_zero, Int.add_zero] at h; exact ⟨rfl, h⟩
 ·exact absurd (hd.2 (hj1 rfl)).1 h
end
theorem dTopN_ok {x : Int} (hx : x ≠ 0) (E : Int) {a : Option Addr} {c : Nat} (w : World) (hA : Nm w a (sz x.natAbs) c x.natAbs) (hs : sz x.natAbs ≤ 2047 ∧ -4611686018427387904 ≤ E ∧ E ≤ 4611686018427387904) : Ret Tryz.prog 40 #[.agg #[.bool (ng x), .slice a (sz x.natAbs) c, .int .i64 E]] w fun v w' => v = .int .i64 ((bl x.natAbs : Int) + E) ∧ Ext w w' := by
 have := dTop_ok (ng x) E w hA ⟨by omega, hs.1, hs.2.1, hs.2.2⟩
 rwa [if_neg (by omega)] at this
/-- what Div tells -/
def dvv (x z : Int × Int) (p : Int) (up : Bool) : Int × Int := if z.1 = 0 ∨ p < 1 ∨ x.1 = 0 then (0, 0) else dv x z p.toNat up
def dve (z : Int × Int) (p : Int) : Int := if z.1 = 0 ∨ p < 1 then 2 else 0
theorem nd1_zero {s : Bool} {n : Nat} {E : Int} : (nd (iv s n) E).1 = 0 ↔ n = 0 := by
 by_cases h : n = 0
 ·subst h; rw [iv_zero]; exact ⟨fun _ => rfl, fun _ => rfl⟩
 ·exact ⟨fun h0 => absurd (by have := (nd_all (s := s) E h).2.1; rw [h0] at this; exact this.symm) (od_ne h), fun h0 => absurd h0 h⟩
theorem bl_small {n : Nat} (h : sz n ≤ 10) : bl n ≤ 640 := by have := bl_sz h; omega
section
variable {P : Program} {ops : Array Oper} {Q : Exit → Act → World → Prop} {cf : Cf} {e : Env} {B : Base} {L : Heap} {rest : List Oper} {d : Nat} {o : Oper} {S : World → Prop} {fuel : Nat} {listed : Array Bool}
theorem w_bro {f : FuncId} {args : Array Value} {x z k : Int} {a0 : Option Addr} {a20 : Option Addr} {c0 c20 : Nat} {y1 y2 : World × (Nat → Prop)} (hK1 : Kn y1 a0 (sz x.natAbs) c0 x.natAbs) (hy1 : y1 ∈ B) (hK2 : Kn y2 a20 (sz z.natAbs) c20 z.natAbs) (hy2 : y2 ∈ B) (hr : ∀ w, RunE P o (ev cf.n e) w f args) (hg : plainB o = true) (hd : o.dst = some d)
  (hc : ∀ w, St B L w → Ret P f args w (BroR x z k a0 (sz x.natAbs) a20 (sz z.natAbs) w))
  (h : ∀ y a c a2 c2, Kn y a (sz (BX x k).natAbs) c (BX x k).natAbs → Kn y a2 (sz (BZ z k).natAbs) c2 (BZ z k).natAbs → WX .sq P ops cf Q rest (upd e d (.tuple #[.agg #[.bool (ng (BX x k)), .slice a (sz (BX x k).natAbs) c], .agg #[.bool (ng (BZ z k)), .slice a2 (sz (BZ z k).natAbs) c2], .int .i64 0])) (y :: B) L) : WX .sq P ops cf Q (o :: rest) e B L := by
 refine w_callR (R := fun w u w' => BroR x z k a0 (sz x.natAbs) a20 (sz z.natAbs) w u w') hr hg hd hc fun w hw v w' ⟨a, c', a2, c2, hv, hN, hN2, hF, hF2, hx⟩ => ?_
 subst hv
 exact ⟨_, L, hw.told hx, h _ a c' a2 c2 (Kn_or hN hF hK1 hy1 hw) (Kn_or hN2 hF2 hK2 hy2 hw)⟩
theorem o_way {f : FuncId} {args : Array Value} {i : Nat} {g : FuncId} {up : Bool} (hi : ops[i]? = some o) (hw : Region.wanted o (yielded ops (act cf e).tmps) = true) (hd : o.dst = some d) (hr : ∀ w, RunE P o (ev cf.n e) w f args)
  (hc : ∀ w, St B L w → Ret P f args w fun v w' => (∃ ub, v = .func (.func g) #[] #[.pointer (some ⟨ub, 0, none⟩)] ∧ w'.cell? ⟨ub, 0, none⟩ = some (.bool up) ∧ w.heap.size ≤ ub) ∧ Ext w w')
  (h : ∀ (x : World × (Nat → Prop)) ub, x.1.cell? ⟨ub, 0, none⟩ = some (.bool up) → ¬ x.2 ub → WH P ops cf Q S fuel (listed.setIfInBounds i true) (upd e d (.func (.func g) #[] #[.pointer (some ⟨ub, 0, none⟩)])) (x :: B) L) : WO P ops cf Q S fuel listed i e B L := by
 refine o_callV (R := fun w v w' => (∃ ub, v = .func (.func g) #[] #[.pointer (some ⟨ub, 0, none⟩)] ∧ w'.cell? ⟨ub, 0, none⟩ = some (.bool up) ∧ w.heap.size ≤ ub) ∧ Ext w w') (E := fun _ _ _ => False) hi hw hd hr (fun w hw => (hc w hw).toP) (fun w hw v w' ⟨⟨ub, hv, hcell, hub⟩, hx⟩ => ?_) (fun _ _ _ _ h => h.elim)
 subst hv
 refine ⟨_, L, hw.told hx, h _ ub hcell fun hm => ?_⟩
 obtain ⟨p, hp, hpu⟩ := List.mem_map.1 hm
 have := lt_of_blk (hw.own p hp)
 have hpu2 : p.1 = ub := hpu
 omega
end
set_option maxRecDepth 100000 in
set_option maxHeartbeats 4000000 in
theorem dDiv_ok (s t : Bool) (E F p9 : Int) (up : Bool) {a : Option Addr} {k c n : Nat} {a2 : Option Addr} {k2 c2 m : Nat} (w : World) (hA : Nm w a k c n) (hA2 : Nm w a2 k2 c2 m) (hs : k ≤ 1000 ∧ k2 ≤ 1000 ∧ sz n ≤ 10 ∧ sz m ≤ 10 ∧ (-1000 ≤ E ∧ E ≤ 1000) ∧ (-1000 ≤ F ∧ F ≤ 1000) ∧ p9 ≤ 1000) :
  Ret Tryz.prog 14 #[.agg #[.bool s, .slice a k c, .int .i64 E], .agg #[.bool t, .slice a2 k2 c2, .int .i64 F], .int .i64 p9, .bool up] w (Tel (fun a c => .tuple #[.agg #[.bool (ng ((dvv (nd (iv s n) E) (nd (iv t m) F) p9 up)).1), .slice a (sz ((dvv (nd (iv s n) E) (nd (iv t m) F) p9 up)).1.natAbs) c, .int .i64 ((dvv (nd (iv s n) E) (nd (iv t m) F) p9 up)).2], .int .i64 (dve (nd (iv t m) F) p9)]) (sz ((dvv (nd (iv s n) E) (nd (iv t m) F) p9 up)).1.natAbs) ((dvv (nd (iv s n) E) (nd (iv t m) F) p9 up)).1.natAbs w) := by
 have hos := od_sz (s := s) (n := n) E
 have hos2 := od_sz (s := t) (n := m) F
 have hmy : (mayE E && mayE F) = true := by rw [mayE_of (by omega), mayE_of (by omega)]; rfl
 have hbA := bl_small (Nat.le_trans hos hs.2.2.1)
 have hbC := bl_small (Nat.le_trans hos2 hs.2.2.2.1)
 have heA := nd_exp (s := s) (n := n) (E := E) (by omega) hs.2.2.2.2.1
 have heC := nd_exp (s := t) (n := m) (E := F) (by omega) hs.2.2.2.2.2.1
 refine enter (S := No) (l := [_, _, _, _]) (L := []) 96 Tryz.func14 rfl rfl rfl (St.start w No) ?_; refine yA ?_; refine w_boxA rfl (fun pa gpa upa => ?_)
 refine w_boxA rfl (fun q gq uq => ?_)
 refine w_alloc zr27 (fun r gr ur => ?_)
 refine aI rfl ?_; refine yB ?_; refine zq ?_; refine zB ?_; refine yA ?_; refine w_loadA z27 rfl (fun _ h => h.at_ 2 rfl) rfl ?_; refine w_loadA z27 rfl (fun _ h => h.at_ 1 rfl) rfl ?_; refine zS slt101 (by decide) rfl rfl (fun b4 gb4 ub4 => ?_)
 refine zC (fun w => zR Tryz.func38 rfl rfl rfl) rfl rfl (fun w h => may2_ok w (h.at_ 0 rfl) ((Kn.old hA).at_ 0 rfl h) ((Kn.old hA2).at_ 0 rfl h) ⟨⟨by omega, by omega⟩, by omega, by omega⟩) ?_; refine w_r (fun _ => R_not rfl) rfl rfl ?_; refine aB rfl ?_; refine yB ?_; refine c_condN rfl (fun h5 => ?_) (fun h5 => ?_)
 ·exact absurd (hmy.symm.trans h5) (by decide)
 ·refine yA ?_; refine w_loadA z27 rfl (fun _ h => h.at_ 2 rfl) rfl ?_; refine zC (fun w => zR Tryz.func24 rfl rfl rfl) rfl rfl (fun w h => dSign_ok _ _ w ((Kn.old hA2).at_ 0 rfl h) (by omega)) ?_; refine w_r (fun _ => R_eq rfl rfl) rfl rfl ?_; refine mB rfl ?_; refine zd (t := 28) rfl (fun h6 => ?_) (fun h6 => ?_)
  ·have hm0 : (nd (iv t m) F).1 = 0 := nd1_zero.2 (sign_iv0.1 h6)
   refine zs rfl rfl (bT h6) ?_; refine zs rfl rfl (bT h6) ?_; refine w_r (v := .bool _) (fun _ => zT (bT h6) rfl) rfl rfl ?_; refine mB rfl ?_; refine zs rfl rfl rfl ?_; refine zs rfl rfl rfl ?_; refine w_r (v := .bool _) (fun _ => zT rfl rfl) rfl rfl ?_; refine aB rfl ?_; refine yB ?_; refine zE rfl ?_; refine yA ?_; refine w_r (fun _ => R_build bt27 rfl) rfl rfl ?_; refine w_store 1 rfl z27 rfl rfl rfl rfl rfl rfl rfl ?_; refine aI rfl ?_; refine yB ?_; refine ze ?_; refine zb (zt (?_))
   rw [show dvv (nd (iv s n) E) (nd (iv t m) F) p9 up = (0, 0) from if_pos (.inl hm0), show dve (nd (iv t m) F) p9 = 2 from if_pos (.inl hm0)]
   refine r_fin (.inl rfl) rfl (.agg rfl rfl z27 (fun _ h => h.at_ 1 rfl) rfl (.tmp rfl rfl .nil)) ?_; exact fun w' hw => ⟨none, 0, rfl, Nm.nil _, Fsh.nil _ _, hw.fr (w, No) (.head _)⟩
  ·refine zw rfl rfl (bF h6) ?_; refine mI rfl ?_; refine zw rfl rfl (bF h6) ?_; refine w_r (fun _ => R_lt rfl rfl) rfl rfl ?_; refine w_r (v := .bool _) (fun _ => zF (bF h6) rfl) rfl rfl ?_; refine mB rfl ?_; refine zd (t := 32) rfl (fun h7 => ?_) (fun h7 => ?_)
   ·skip
    refine zs rfl rfl (bT h7) ?_; refine zs rfl rfl (bT h7) ?_; refine w_r (v := .bool _) (fun _ => zT (bT h7) rfl) rfl rfl ?_; refine aB rfl ?_; refine yB ?_; refine zE rfl ?_; refine yA ?_; refine w_r (fun _ => R_build bt27 rfl) rfl rfl ?_; refine w_store 1 rfl z27 rfl rfl rfl rfl rfl rfl rfl ?_; refine aI rfl ?_; refine yB ?_; refine ze ?_; refine zb (zt (?_))
    rw [show dvv (nd (iv s n) E) (nd (iv t m) F) p9 up = (0, 0) from if_pos (.inr (.inl h7)), show dve (nd (iv t m) F) p9 = 2 from if_pos (.inr h7)]
    refine r_fin (.inl rfl) rfl (.agg rfl rfl z27 (fun _ h => h.at_ 1 rfl) rfl (.tmp rfl rfl .nil)) ?_; exact fun w' hw => ⟨none, 0, rfl, Nm.nil _, Fsh.nil _ _, hw.fr (w, No) (.head _)⟩
   ·refine zw rfl rfl (bF h7) ?_; refine mI rfl ?_; refine zw rfl rfl (bF h7) ?_; refine w_r (fun _ => R_gt rfl rfl) rfl rfl ?_; refine w_r (v := .bool _) (fun _ => zF (bF h7) rfl) rfl rfl ?_; refine aB rfl ?_; refine yB ?_; refine zD rfl (fun h8 => ?_) (fun h8 => ?_)
    ·omega
    ·refine yA ?_; refine w_loadA z27 rfl (fun _ h => h.at_ 3 rfl) rfl ?_; refine zC (fun w => zR Tryz.func24 rfl rfl rfl) rfl rfl (fun w h => dSign_ok _ _ w ((Kn.old hA).at_ 0 rfl h) (by omega)) ?_; refine w_r (fun _ => R_eq rfl rfl) rfl rfl ?_; refine aB rfl ?_; refine yB ?_; refine zD rfl (fun h9 => ?_) (fun h9 => ?_)
     ·have hn0 : (nd (iv s n) E).1 = 0 := nd1_zero.2 (sign_iv0.1 h9); have hC1 : (nd (iv t m) F).1 ≠ 0 := fun h => h6 (sign_iv0.2 (nd1_zero.1 h))
      refine yA ?_; refine w_r (fun _ => R_build bt27 rfl) rfl rfl ?_; refine w_store 1 rfl z27 rfl rfl rfl rfl rfl rfl rfl ?_; refine aI rfl ?_; refine yB ?_; refine ze ?_; refine zb (zt (?_))
      rw [show dvv (nd (iv s n) E) (nd (iv t m) F) p9 up = (0, 0) from if_pos (.inr (.inr hn0)), show dve (nd (iv t m) F) p9 = 0 from if_neg (by rintro (h | h); (exact hC1 h); omega)]
      refine r_fin (.inl rfl) rfl (.agg rfl rfl z27 (fun _ h => h.at_ 1 rfl) rfl (.tmp rfl rfl .nil)) ?_; exact fun w' hw => ⟨none, 0, rfl, Nm.nil _, Fsh.nil _ _, hw.fr (w, No) (.head _)⟩
     ·have hC1 : (nd (iv t m) F).1 ≠ 0 := fun h => h6 (sign_iv0.2 (nd1_zero.1 h)); have hA1 : (nd (iv s n) E).1 ≠ 0 := fun h => h9 (sign_iv0.2 (nd1_zero.1 h)); obtain ⟨p, rfl⟩ : ∃ p : Nat, p9 = (p : Int) := ⟨p9.toNat, by omega⟩; have hp1 : 0 < p := (by omega); have hdv : dvv (nd (iv s n) E) (nd (iv t m) F) (p : Int) up = dv (nd (iv s n) E) (nd (iv t m) F) p up := (by unfold dvv; rw [if_neg (by rintro (h | h | h); (exact hC1 h); (omega); (exact hA1 h)), Int.toNat_natCast]); have hde : dve (nd (iv t m) F) (p : Int) = 0 := if_neg (by rintro (h | h); (exact hC1 h); omega)
      refine zi ?_; refine b_on (zk ?_)
      refine c_cut (fun e B L => ∃ (y1 y2 : BaseW) (a1 : Option Addr) (c1 : Nat) (a2' : Option Addr) (c2' : Nat), e 2 = .int .i64 (p : Nat) ∧ e 3 = .bool up ∧ e 4 = .pointer (some ⟨pa, 0, none⟩) ∧ e 5 = .pointer (some ⟨q, 0, none⟩) ∧ e 8 = .pointer (some ⟨r, 0, none⟩) ∧ e 9 = .int .i64 0 ∧ B = [y1, y2, (w, No)] ∧ L = [(r, cel [.bool false, .slice none 0 0, .int .i64 0] 27), (q, cel [.bool (ng (nd (iv t m) F).1), .slice a2' (sz (nd (iv t m) F).1.natAbs) c2', .int .i64 (nd (iv t m) F).2] 27), (pa, cel [.bool (ng (nd (iv s n) E).1), .slice a1 (sz (nd (iv s n) E).1.natAbs) c1, .int .i64 (nd (iv s n) E).2] 27)] ∧ Kn y1 a1 (sz (nd (iv s n) E).1.natAbs) c1 (nd (iv s n) E).1.natAbs ∧ Kn y2 a2' (sz (nd (iv t m) F).1.natAbs) c2' (nd (iv t m) F).1.natAbs) ?_ ?_
      ·refine c_heldI [0, 1] mixed ?_; refine h_two 0 2 (by kernel_rfl) (fun w h => (h).pick [0, 1] (by decide)) ?_ ?_
       ·refine o_run rfl rfl rfl (fun w h => R_ldb z27 rfl (h.at_ 3 rfl) rfl) ?_; refine h_two 1 2 (by kernel_rfl) (fun w h => (h).pick [0, 1] (by decide)) ?_ ?_
        ·refine o_tel rfl (wn_none rfl) rfl (fun w => zR Tryz.func39 rfl rfl rfl) (fun w h => bare_ok _ _ w ((Kn.old hA).at_ 0 rfl h) ⟨by omega, by omega, by omega, by omega⟩) (fun x10 a10 c10 hK10 hN10 => ?_)
         refine h_one 2 (by kernel_rfl) (fun w h => (h.unbase (fun x hx => .tail _ (hx))).pick [0, 1] (by decide)) ?_; refine o_run rfl rfl rfl (fun w h => R_ldb z27 rfl (h.at_ 2 rfl) rfl) ?_; refine h_one 3 (by kernel_rfl) (fun w h => (h.unbase (fun x hx => .tail _ (hx))).pick [0, 1] (by decide)) ?_; refine o_tel rfl (wn_none rfl) rfl (fun w => zR Tryz.func39 rfl rfl rfl) (fun w h => bare_ok _ _ w ((Kn.old hA2).at_ 1 rfl h) ⟨by omega, by omega, by omega, by omega⟩) (fun x11 a11 c11 hK11 hN11 => ?_)
         refine h_one 4 (by kernel_rfl) (fun w h => (h.unbase (fun x hx => .tail _ (.tail _ (hx)))).pick [0, 1] (by decide)) ?_; refine o_store 3 rfl rfl z27 rfl rfl rfl rfl rfl rfl rfl ?_; refine h_one 5 (by kernel_rfl) (fun w h => (h.unbase (fun x hx => .tail _ (.tail _ (hx)))).pick [0, 1] (by decide)) ?_; refine o_store 2 rfl rfl z27 rfl rfl rfl rfl rfl rfl rfl ?_; refine h_done (by kernel_rfl) (fun w h => (h.unbase (fun x hx => .tail _ (.tail _ (hx)))).pick [0, 1] (by decide)) ?_; refine k_st (B' := [x10, x11, (w, No)]) (L' := _) (fun w h => (h.pick [1, 2, 3] (by decide)).unbase (fun x hx => by rcases List.mem_cons.1 hx with rfl | hx; (exact (.tail _ (.head _))); rcases List.mem_cons.1 hx with rfl | hx; (exact (.head _)); rcases List.mem_cons.1 hx with rfl | hx; (exact (.tail _ (.tail _ (.head _)))); exact absurd hx (by simp))) ?_
         exact k_mid ⟨x10, x11, a10, c10, a11, c11, rfl, rfl, rfl, rfl, rfl, rfl, rfl, rfl, hK10, hK11⟩
        ·refine o_run rfl rfl rfl (fun w h => R_ldb z27 rfl (h.at_ 2 rfl) rfl) ?_; refine h_one 1 (by kernel_rfl) (fun w h => (h).pick [0, 1] (by decide)) ?_; refine o_tel rfl (wn_none rfl) rfl (fun w => zR Tryz.func39 rfl rfl rfl) (fun w h => bare_ok _ _ w ((Kn.old hA).at_ 0 rfl h) ⟨by omega, by omega, by omega, by omega⟩) (fun x12 a12 c12 hK12 hN12 => ?_)
         refine h_one 3 (by kernel_rfl) (fun w h => (h.unbase (fun x hx => .tail _ (hx))).pick [0, 1] (by decide)) ?_; refine o_tel rfl (wn_none rfl) rfl (fun w => zR Tryz.func39 rfl rfl rfl) (fun w h => bare_ok _ _ w ((Kn.old hA2).at_ 1 rfl h) ⟨by omega, by omega, by omega, by omega⟩) (fun x13 a13 c13 hK13 hN13 => ?_)
         refine h_one 4 (by kernel_rfl) (fun w h => (h.unbase (fun x hx => .tail _ (.tail _ (hx)))).pick [0, 1] (by decide)) ?_; refine o_store 3 rfl rfl z27 rfl rfl rfl rfl rfl rfl rfl ?_; refine h_one 5 (by kernel_rfl) (fun w h => (h.unbase (fun x hx => .tail _ (.tail _ (hx)))).pick [0, 1] (by decide)) ?_; refine o_store 2 rfl rfl z27 rfl rfl rfl rfl rfl rfl rfl ?_; refine h_done (by kernel_rfl) (fun w h => (h.unbase (fun x hx => .tail _ (.tail _ (hx)))).pick [0, 1] (by decide)) ?_; refine k_st (B' := [x12, x13, (w, No)]) (L' := _) (fun w h => (h.pick [1, 2, 3] (by decide)).unbase (fun x hx => by rcases List.mem_cons.1 hx with rfl | hx; (exact (.tail _ (.head _))); rcases List.mem_cons.1 hx with rfl | hx; (exact (.head _)); rcases List.mem_cons.1 hx with rfl | hx; (exact (.tail _ (.tail _ (.head _)))); exact absurd hx (by simp))) ?_
         exact k_mid ⟨x12, x13, a12, c12, a13, c13, rfl, rfl, rfl, rfl, rfl, rfl, rfl, rfl, hK12, hK13⟩
       ·refine o_run rfl rfl rfl (fun w h => R_ldb z27 rfl (h.at_ 2 rfl) rfl) ?_; refine h_one 0 (by kernel_rfl) (fun w h => (h).pick [0, 1] (by decide)) ?_; refine o_run rfl rfl rfl (fun w h => R_ldb z27 rfl (h.at_ 3 rfl) rfl) ?_; refine h_one 1 (by kernel_rfl) (fun w h => (h).pick [0, 1] (by decide)) ?_; refine o_tel rfl (wn_none rfl) rfl (fun w => zR Tryz.func39 rfl rfl rfl) (fun w h => bare_ok _ _ w ((Kn.old hA).at_ 0 rfl h) ⟨by omega, by omega, by omega, by omega⟩) (fun x14 a14 c14 hK14 hN14 => ?_)
        refine h_one 3 (by kernel_rfl) (fun w h => (h.unbase (fun x hx => .tail _ (hx))).pick [0, 1] (by decide)) ?_; refine o_tel rfl (wn_none rfl) rfl (fun w => zR Tryz.func39 rfl rfl rfl) (fun w h => bare_ok _ _ w ((Kn.old hA2).at_ 1 rfl h) ⟨by omega, by omega, by omega, by omega⟩) (fun x15 a15 c15 hK15 hN15 => ?_)
        refine h_one 4 (by kernel_rfl) (fun w h => (h.unbase (fun x hx => .tail _ (.tail _ (hx)))).pick [0, 1] (by decide)) ?_; refine o_store 3 rfl rfl z27 rfl rfl rfl rfl rfl rfl rfl ?_; refine h_one 5 (by kernel_rfl) (fun w h => (h.unbase (fun x hx => .tail _ (.tail _ (hx)))).pick [0, 1] (by decide)) ?_; refine o_store 2 rfl rfl z27 rfl rfl rfl rfl rfl rfl rfl ?_; refine h_done (by kernel_rfl) (fun w h => (h.unbase (fun x hx => .tail _ (.tail _ (hx)))).pick [0, 1] (by decide)) ?_; refine k_st (B' := [x14, x15, (w, No)]) (L' := _) (fun w h => (h.pick [1, 2, 3] (by decide)).unbase (fun x hx => by rcases List.mem_cons.1 hx with rfl | hx; (exact (.tail _ (.head _))); rcases List.mem_cons.1 hx with rfl | hx; (exact (.head _)); rcases List.mem_cons.1 hx with rfl | hx; (exact (.tail _ (.tail _ (.head _)))); exact absurd hx (by simp))) ?_
        exact k_mid ⟨x14, x15, a14, c14, a15, c15, rfl, rfl, rfl, rfl, rfl, rfl, rfl, rfl, hK14, hK15⟩
      rintro e B L ⟨y1, y2, a1, c1, a2', c2', e2_1, e3_1, e4_1, e5_1, e8_1, e9_1, rfl, rfl, hKa, hKc⟩
      refine zq ?_; refine c_heldS mixed ?_; refine h_loadA 0 rfl (by kernel_rfl) (fun w h => h) z27 e4_1 (fun _ h => h.at_ 2 rfl) rfl ?_; refine h_loadA 2 rfl (by kernel_rfl) (fun w h => h) z27 e5_1 (fun _ h => h.at_ 1 rfl) rfl ?_; refine zh (v := .int _ _) 5 rfl (by kernel_rfl) rfl rfl (fun w h => h) (fun w h => R_move e2_1) ?_; refine h_one 1 (by kernel_rfl) (fun w h => h) ?_; refine o_pureW rfl (wn_none rfl) rfl (fun w => zR Tryz.func40 rfl rfl rfl) (fun w h => dTopN_ok hA1 _ w (hKa.at_ 0 rfl h) ⟨by omega, by omega, by omega⟩) ?_; refine h_one 3 (by kernel_rfl) (fun w h => h) ?_; refine o_pureW rfl (wn_none rfl) rfl (fun w => zR Tryz.func40 rfl rfl rfl) (fun w h => dTopN_ok hC1 _ w (hKc.at_ 1 rfl h) ⟨by omega, by omega, by omega⟩) ?_; refine zh 4 rfl (by kernel_rfl) rfl rfl (fun w h => h) (fun w h => R_subi rfl rfl (by omega)) ?_
      refine zh 6 rfl (by kernel_rfl) rfl rfl (fun w h => h) (fun w h => R_subi rfl rfl (by omega)) ?_; refine zh (v := .int _ _) 7 rfl (by kernel_rfl) rfl rfl (fun w h => h) (fun w h => R_assign rfl) ?_; refine h_done (by kernel_rfl) (fun w h => h) ?_; refine zk ?_; refine zB ?_
      refine c_loop (fun m9 e B L => ∃ (j : Nat), e 2 = .int .i64 (p : Nat) ∧ e 3 = .bool up ∧ e 4 = .pointer (some ⟨pa, 0, none⟩) ∧ e 5 = .pointer (some ⟨q, 0, none⟩) ∧ e 8 = .pointer (some ⟨r, 0, none⟩) ∧ e 9 = .int .i64 0 ∧ e 10 = .int .i64 (((bl (nd (iv s n) E).1.natAbs : Int) + (nd (iv s n) E).2 - ((bl (nd (iv t m) F).1.natAbs : Int) + (nd (iv t m) F).2) - (p : Int)) + (j : Int)) ∧ B = [y1, y2, (w, No)] ∧ L = [(r, cel [.bool false, .slice none 0 0, .int .i64 0] 27), (q, cel [.bool (ng (nd (iv t m) F).1), .slice a2' (sz (nd (iv t m) F).1.natAbs) c2', .int .i64 (nd (iv t m) F).2] 27), (pa, cel [.bool (ng (nd (iv s n) E).1), .slice a1 (sz (nd (iv s n) E).1.natAbs) c1, .int .i64 (nd (iv s n) E).2] 27)] ∧ j ≤ 1 ∧ (j = 1 → ¬ nb (qt (nd (iv s n) E).1 (nd (iv t m) F).1 ((nd (iv s n) E).2 - (nd (iv t m) F).2 - ((bl (nd (iv s n) E).1.natAbs : Int) + (nd (iv s n) E).2 - ((bl (nd (iv t m) F).1.natAbs : Int) + (nd (iv t m) F).2) - (p : Int))) up) ≤ p) ∧ m9 = 2 - j) _ ⟨0, e2_1, e3_1, e4_1, e5_1, e8_1, e9_1, (congrArg (fun z : Int => Value.int .i64 z) (by omega)), rfl, rfl, Nat.zero_le _, fun h => absurd h (by decide), rfl⟩ ?_
      rintro m9 e B L ⟨j, e2_2, e3_2, e4_2, e5_2, e8_2, e9_2, e10_2, rfl, rfl, hj, hj1, rfl⟩
      have hX := BX_sz (x := (nd (iv s n) E).1) (k := ((nd (iv s n) E).2 - (nd (iv t m) F).2 - (((bl (nd (iv s n) E).1.natAbs : Int) + (nd (iv s n) E).2 - ((bl (nd (iv t m) F).1.natAbs : Int) + (nd (iv t m) F).2) - (p : Int)) + (j : Int)))) (by omega) (by omega)
      have hZ := BZ_sz (x := (nd (iv t m) F).1) (k := ((nd (iv s n) E).2 - (nd (iv t m) F).2 - (((bl (nd (iv s n) E).1.natAbs : Int) + (nd (iv s n) E).2 - ((bl (nd (iv t m) F).1.natAbs : Int) + (nd (iv t m) F).2) - (p : Int)) + (j : Int)))) (by omega) (by omega)
      have hQ := QW_sz up (BX (nd (iv s n) E).1 ((nd (iv s n) E).2 - (nd (iv t m) F).2 - (((bl (nd (iv s n) E).1.natAbs : Int) + (nd (iv s n) E).2 - ((bl (nd (iv t m) F).1.natAbs : Int) + (nd (iv t m) F).2) - (p : Int)) + (j : Int)))) (BZ_ne hC1 ((nd (iv s n) E).2 - (nd (iv t m) F).2 - (((bl (nd (iv s n) E).1.natAbs : Int) + (nd (iv s n) E).2 - ((bl (nd (iv t m) F).1.natAbs : Int) + (nd (iv t m) F).2) - (p : Int)) + (j : Int))))
      have hT := od_sz (s := (bw up (BX (nd (iv s n) E).1 ((nd (iv s n) E).2 - (nd (iv t m) F).2 - (((bl (nd (iv s n) E).1.natAbs : Int) + (nd (iv s n) E).2 - ((bl (nd (iv t m) F).1.natAbs : Int) + (nd (iv t m) F).2) - (p : Int)) + (j : Int)))) (BZ (nd (iv t m) F).1 ((nd (iv s n) E).2 - (nd (iv t m) F).2 - (((bl (nd (iv s n) E).1.natAbs : Int) + (nd (iv s n) E).2 - ((bl (nd (iv t m) F).1.natAbs : Int) + (nd (iv t m) F).2) - (p : Int)) + (j : Int)))))) (n := (QW up (BX (nd (iv s n) E).1 ((nd (iv s n) E).2 - (nd (iv t m) F).2 - (((bl (nd (iv s n) E).1.natAbs : Int) + (nd (iv s n) E).2 - ((bl (nd (iv t m) F).1.natAbs : Int) + (nd (iv t m) F).2) - (p : Int)) + (j : Int)))) (BZ (nd (iv t m) F).1 ((nd (iv s n) E).2 - (nd (iv t m) F).2 - (((bl (nd (iv s n) E).1.natAbs : Int) + (nd (iv s n) E).2 - ((bl (nd (iv t m) F).1.natAbs : Int) + (nd (iv t m) F).2) - (p : Int)) + (j : Int))))).natAbs) (((bl (nd (iv s n) E).1.natAbs : Int) + (nd (iv s n) E).2 - ((bl (nd (iv t m) F).1.natAbs : Int) + (nd (iv t m) F).2) - (p : Int)) + (j : Int))
      refine zq ?_; refine zB ?_; refine yA ?_; refine w_loadA z27 e4_2 (fun _ h => h.at_ 2 rfl) rfl ?_; refine w_loadA z27 e5_2 (fun _ h => h.at_ 1 rfl) rfl ?_; refine mI e10_2 ?_; refine w_bro (x := (nd (iv s n) E).1) (z := (nd (iv t m) F).1) (k := ((nd (iv s n) E).2 - (nd (iv t m) F).2 - (((bl (nd (iv s n) E).1.natAbs : Int) + (nd (iv s n) E).2 - ((bl (nd (iv t m) F).1.natAbs : Int) + (nd (iv t m) F).2) - (p : Int)) + (j : Int)))) hKa (.head _) hKc (.tail _ (.head _)) (fun w => zR Tryz.func41 rfl rfl rfl) rfl rfl (fun w h => brought_ok _ _ _ _ _ w (hKa.at_ 0 rfl h) (hKc.at_ 1 rfl h) ⟨by omega, by omega, by omega, by omega, by omega, by omega⟩) (fun y16 b16 d16 b16' d16' hB16 hB16' => ?_)
      refine zm rfl ?_; refine w_r (fun _ => R_extract rfl rfl) rfl rfl ?_; refine w_r (fun _ => R_extract rfl rfl) rfl rfl ?_; refine w_r (fun _ => R_extract rfl rfl) rfl rfl ?_; refine w_alloc zr25 (fun b17 gb17 ub17 => ?_)
      refine w_alloc zr25 (fun b18 gb18 ub18 => ?_)
      refine w_store 1 rfl z25 rfl rfl rfl rfl rfl rfl rfl ?_; refine w_store 0 rfl z25 rfl rfl rfl rfl rfl rfl rfl ?_; refine aI rfl ?_; refine yB ?_; refine zq ?_; refine yA ?_; refine mI rfl ?_; refine w_r (fun _ => R_ne rfl rfl) rfl rfl ?_; refine yB ?_; refine c_condF (congrArg Value.bool (decide_eq_false (by decide))) ?_; refine zi ?_; refine zk ?_; refine zq ?_; refine c_heldI [0, 1, 2, 3, 4] mixed ?_; refine zh (v := .bool _) 0 rfl (by kernel_rfl) rfl rfl (fun w h => (h).pick [0, 1, 2, 3, 4] (by decide)) (fun w h => R_move e3_2) ?_; refine h_loadA 2 rfl (by kernel_rfl) (fun w h => (h).pick [0, 1, 2, 3, 4] (by decide)) z25 rfl (fun _ h => h.at_ 1 rfl) rfl ?_
      refine h_loadA 3 rfl (by kernel_rfl) (fun w h => (h).pick [0, 1, 2, 3, 4] (by decide)) z25 rfl (fun _ h => h.at_ 0 rfl) rfl ?_; refine h_two 1 8 (by kernel_rfl) (fun w h => (h).pick [0, 1, 2, 3, 4] (by decide)) ?_ ?_
      ·refine o_way (g := 76) (up := up) rfl (wn_none rfl) rfl (fun w => zR Tryz.func42 rfl rfl rfl) (fun w h => way_ok up w) (fun xw ub hub hnu => ?_)
       refine h_two 4 8 (by kernel_rfl) (fun w h => (h.unbase (fun x hx => .tail _ (hx))).pick [0, 1, 2, 3, 4] (by decide)) ?_ ?_
       ·refine o_tel rfl (wn_none rfl) rfl (fun w => R_callv rfl Tryz.func76 rfl rfl) (fun w h => way1_ok up _ _ ub w (hB16.at_ 1 rfl h) (hB16'.at_ 1 rfl h) ⟨by omega, by omega, BZ_ne hC1 _⟩ ((h.fr xw (.head _)).cell hub hnu)) (fun x19 a19 c19 hK19 hN19 => ?_)
        refine zh 5 rfl (by kernel_rfl) rfl rfl (fun w h => (h.unbase (fun x hx => .tail _ (.tail _ (hx)))).pick [0, 1, 2, 3, 4] (by decide)) (fun w h => R_move rfl) ?_; refine zh 6 rfl (by kernel_rfl) rfl rfl (fun w h => (h.unbase (fun x hx => .tail _ (.tail _ (hx)))).pick [0, 1, 2, 3, 4] (by decide)) (fun w h => R_extract rfl rfl) ?_; refine zh 7 rfl (by kernel_rfl) rfl rfl (fun w h => (h.unbase (fun x hx => .tail _ (.tail _ (hx)))).pick [0, 1, 2, 3, 4] (by decide)) (fun w h => R_extract rfl rfl) ?_; refine h_one 8 (by kernel_rfl) (fun w h => (h.unbase (fun x hx => .tail _ (.tail _ (hx)))).pick [0, 1, 2, 3, 4] (by decide)) ?_; refine o_alloc rfl zr25 (fun b20 gb20 ub20 => ?_)
        refine h_one 9 (by kernel_rfl) (fun w h => (h.unbase (fun x hx => .tail _ (.tail _ (hx)))).pick [1, 2, 3, 4, 5] (by decide)) ?_; refine o_store 0 rfl rfl z25 rfl rfl rfl rfl rfl rfl rfl ?_; refine zh (v := .int _ _) 10 rfl (by kernel_rfl) rfl rfl (fun w h => (h.unbase (fun x hx => .tail _ (.tail _ (hx)))).pick [1, 2, 3, 4, 5] (by decide)) (fun w h => R_assign rfl) ?_; refine h_done (by kernel_rfl) (fun w h => (h.unbase (fun x hx => .tail _ (.tail _ (hx)))).pick [1, 2, 3, 4, 5] (by decide)) ?_; refine zk ?_; refine zq ?_; refine yA ?_; refine mI rfl ?_; refine w_r (fun _ => R_ne rfl rfl) rfl rfl ?_; refine zn ?_
        refine zk ?_; refine c_condF (congrArg Value.bool (decide_eq_false (by decide))) ?_; refine zi ?_; refine zk ?_; refine yA ?_; refine w_loadA z25 rfl (fun _ h => h.at_ 0 rfl) rfl ?_; refine mI e10_2 ?_; refine mI rfl ?_; refine w_tel (fun w => zR Tryz.func43 rfl rfl rfl) rfl rfl (fun w h => dtoldS_ok _ _ w (hK19.at_ 0 rfl h) ⟨by omega, by omega, by omega, by omega⟩) (fun x21 a21 c21 hK21 hN21 => ?_)
        refine zm rfl ?_; refine w_r (fun _ => R_extract rfl rfl) rfl rfl ?_; refine w_r (fun _ => R_extract rfl rfl) rfl rfl ?_; refine w_alloc zr27 (fun b22 gb22 ub22 => ?_)
        refine w_store 0 rfl z27 rfl rfl rfl rfl rfl rfl rfl ?_; refine aI rfl ?_; refine yC ?_; refine mI rfl ?_; refine w_r (fun _ => R_ne rfl rfl) rfl rfl ?_; refine mB rfl ?_; refine zw rfl rfl (congrArg Value.bool (decide_eq_false (by decide))) ?_; refine zf fa27_0 rfl ?_; refine zw rfl rfl (congrArg Value.bool (decide_eq_false (by decide))) ?_; refine zf fa25_1 rfl ?_; refine zw rfl rfl (congrArg Value.bool (decide_eq_false (by decide))) ?_; refine zl z23 rfl (fun _ h => zc 0 rfl rfl h) ?_; refine zw rfl rfl (congrArg Value.bool (decide_eq_false (by decide))) ?_; refine zC (fun w => zR Tryz.func44 rfl rfl rfl) rfl rfl (fun w h => Bits_ok w (hK21.at_ 0 rfl h) (by omega)) ?_
        refine zw rfl rfl (congrArg Value.bool (decide_eq_false (by decide))) ?_; refine mI e2_2 ?_; refine zw rfl rfl (congrArg Value.bool (decide_eq_false (by decide))) ?_
        refine w_r (fun _ => R_leN (a := (bl (((nd (iv (bw up (BX (nd (iv s n) E).1 ((nd (iv s n) E).2 - (nd (iv t m) F).2 - (((bl (nd (iv s n) E).1.natAbs : Int) + (nd (iv s n) E).2 - ((bl (nd (iv t m) F).1.natAbs : Int) + (nd (iv t m) F).2) - (p : Int)) + (j : Int)))) (BZ (nd (iv t m) F).1 ((nd (iv s n) E).2 - (nd (iv t m) F).2 - (((bl (nd (iv s n) E).1.natAbs : Int) + (nd (iv s n) E).2 - ((bl (nd (iv t m) F).1.natAbs : Int) + (nd (iv t m) F).2) - (p : Int)) + (j : Int))))) (QW up (BX (nd (iv s n) E).1 ((nd (iv s n) E).2 - (nd (iv t m) F).2 - (((bl (nd (iv s n) E).1.natAbs : Int) + (nd (iv s n) E).2 - ((bl (nd (iv t m) F).1.natAbs : Int) + (nd (iv t m) F).2) - (p : Int)) + (j : Int)))) (BZ (nd (iv t m) F).1 ((nd (iv s n) E).2 - (nd (iv t m) F).2 - (((bl (nd (iv s n) E).1.natAbs : Int) + (nd (iv s n) E).2 - ((bl (nd (iv t m) F).1.natAbs : Int) + (nd (iv t m) F).2) - (p : Int)) + (j : Int))))).natAbs) (((bl (nd (iv s n) E).1.natAbs : Int) + (nd (iv s n) E).2 - ((bl (nd (iv t m) F).1.natAbs : Int) + (nd (iv t m) F).2) - (p : Int)) + (j : Int)))).1.natAbs))) (b := p) rfl rfl) rfl rfl ?_
        refine w_r (v := .bool _) (fun _ => zF (congrArg Value.bool (decide_eq_false (by decide))) rfl) rfl rfl ?_; refine yB ?_; refine zD rfl (fun h23 => ?_) (fun h23 => ?_)
        ·have hnb : nb (qt (nd (iv s n) E).1 (nd (iv t m) F).1 ((nd (iv s n) E).2 - (nd (iv t m) F).2 - (((bl (nd (iv s n) E).1.natAbs : Int) + (nd (iv s n) E).2 - ((bl (nd (iv t m) F).1.natAbs : Int) + (nd (iv t m) F).2) - (p : Int)) + (j : Int))) up) ≤ p := (by rw [nb_nd, bw_qt] at h23; exact h23)
         refine yA ?_; refine w_loadA z27 rfl (fun _ h => h.at_ 0 rfl) rfl ?_; refine mI rfl ?_; refine w_store 4 rfl z27 e8_2 rfl rfl rfl rfl rfl rfl ?_; refine aI rfl ?_; refine yB ?_; refine ze ?_; refine zb (zt (zt (zb (?_))))
         rw [hdv, hde, ← div_here (e0 := ((bl (nd (iv s n) E).1.natAbs : Int) + (nd (iv s n) E).2 - ((bl (nd (iv t m) F).1.natAbs : Int) + (nd (iv t m) F).2) - (p : Int))) hC1 hp1 (by omega) hj hj1 hnb, ← bw_qt]
         refine r_fin (.inl rfl) rfl (.agg rfl e8_2 z27 (fun _ h => h.at_ 4 rfl) rfl (.tmp rfl rfl .nil)) ?_; exact fun w' hw => ⟨_, _, rfl, (hK21.at_ 0 rfl hw), (hN21 _ (.tail _ (.tail _ (.tail _ (.tail _ (.tail _ (.head _))))))), hw.fr (w, No) (.tail _ (.tail _ (.tail _ (.tail _ (.tail _ (.tail _ (.head _)))))))⟩
        ·have hon := div_on (up := up) (e0 := ((bl (nd (iv s n) E).1.natAbs : Int) + (nd (iv s n) E).2 - ((bl (nd (iv t m) F).1.natAbs : Int) + (nd (iv t m) F).2) - (p : Int))) hC1 hp1 (by omega) hj hj1 (fun h => h23 (by rw [nb_nd, bw_qt]; exact h))
         refine zi ?_; refine b_on (zk ?_); refine zr ?_; refine mI e10_2 ?_; refine w_r (fun _ => R_addi rfl rfl (by omega)) rfl rfl ?_; refine aI rfl ?_; refine zn ?_; refine k_st (B' := [y1, y2, (w, No)]) (L' := _) (fun w h => (h.pick [4, 5, 6] (by decide)).unbase (fun x hx => by rcases List.mem_cons.1 hx with rfl | hx; (exact (.tail _ (.tail _ (.tail _ (.tail _ (.head _)))))); rcases List.mem_cons.1 hx with rfl | hx; (exact (.tail _ (.tail _ (.tail _ (.tail _ (.tail _ (.head _))))))); rcases List.mem_cons.1 hx with rfl | hx; (exact (.tail _ (.tail _ (.tail _ (.tail _ (.tail _ (.tail _ (.head _)))))))); exact absurd hx (by simp))) ?_; exact k_again _ (by omega) ⟨j + 1, e2_2, e3_2, e4_2, e5_2, e8_2, e9_2, (congrArg (fun z : Int => Value.int .i64 z) (by omega)), rfl, rfl, by omega, fun _ => hon.2, rfl⟩
       ·refine o_alloc rfl zr25 (fun b24 gb24 ub24 => ?_)
        refine h_one 4 (by kernel_rfl) (fun w h => (h.unbase (fun x hx => .tail _ (hx))).pick [1, 2, 3, 4, 5] (by decide)) ?_; refine o_tel rfl (wn_none rfl) rfl (fun w => R_callv rfl Tryz.func76 rfl rfl) (fun w h => way1_ok up _ _ ub w (hB16.at_ 1 rfl h) (hB16'.at_ 1 rfl h) ⟨by omega, by omega, BZ_ne hC1 _⟩ ((h.fr xw (.head _)).cell hub hnu)) (fun x25 a25 c25 hK25 hN25 => ?_)
        refine zh 5 rfl (by kernel_rfl) rfl rfl (fun w h => (h.unbase (fun x hx => .tail _ (.tail _ (hx)))).pick [1, 2, 3, 4, 5] (by decide)) (fun w h => R_move rfl) ?_; refine zh 6 rfl (by kernel_rfl) rfl rfl (fun w h => (h.unbase (fun x hx => .tail _ (.tail _ (hx)))).pick [1, 2, 3, 4, 5] (by decide)) (fun w h => R_extract rfl rfl) ?_; refine zh 7 rfl (by kernel_rfl) rfl rfl (fun w h => (h.unbase (fun x hx => .tail _ (.tail _ (hx)))).pick [1, 2, 3, 4, 5] (by decide)) (fun w h => R_extract rfl rfl) ?_; refine h_one 9 (by kernel_rfl) (fun w h => (h.unbase (fun x hx => .tail _ (.tail _ (hx)))).pick [1, 2, 3, 4, 5] (by decide)) ?_; refine o_store 0 rfl rfl z25 rfl rfl rfl rfl rfl rfl rfl ?_; refine zh (v := .int _ _) 10 rfl (by kernel_rfl) rfl rfl (fun w h => (h.unbase (fun x hx => .tail _ (.tail _ (hx)))).pick [1, 2, 3, 4, 5] (by decide)) (fun w h => R_assign rfl) ?_
        refine h_done (by kernel_rfl) (fun w h => (h.unbase (fun x hx => .tail _ (.tail _ (hx)))).pick [1, 2, 3, 4, 5] (by decide)) ?_; refine zk ?_; refine zq ?_; refine yA ?_; refine mI rfl ?_; refine w_r (fun _ => R_ne rfl rfl) rfl rfl ?_; refine yB ?_; refine c_condF (congrArg Value.bool (decide_eq_false (by decide))) ?_; refine zi ?_; refine zk ?_; refine yA ?_; refine w_loadA z25 rfl (fun _ h => h.at_ 0 rfl) rfl ?_; refine mI e10_2 ?_; refine mI rfl ?_; refine w_tel (fun w => zR Tryz.func43 rfl rfl rfl) rfl rfl (fun w h => dtoldS_ok _ _ w (hK25.at_ 0 rfl h) ⟨by omega, by omega, by omega, by omega⟩) (fun x26 a26 c26 hK26 hN26 => ?_)
        refine zm rfl ?_; refine w_r (fun _ => R_extract rfl rfl) rfl rfl ?_; refine w_r (fun _ => R_extract rfl rfl) rfl rfl ?_; refine w_alloc zr27 (fun b27 gb27 ub27 => ?_)
        refine w_store 0 rfl z27 rfl rfl rfl rfl rfl rfl rfl ?_; refine aI rfl ?_; refine yC ?_; refine mI rfl ?_; refine w_r (fun _ => R_ne rfl rfl) rfl rfl ?_; refine mB rfl ?_; refine zw rfl rfl (congrArg Value.bool (decide_eq_false (by decide))) ?_; refine zf fa27_0 rfl ?_; refine zw rfl rfl (congrArg Value.bool (decide_eq_false (by decide))) ?_; refine zf fa25_1 rfl ?_; refine zw rfl rfl (congrArg Value.bool (decide_eq_false (by decide))) ?_; refine zl z23 rfl (fun _ h => zc 0 rfl rfl h) ?_; refine zw rfl rfl (congrArg Value.bool (decide_eq_false (by decide))) ?_; refine zC (fun w => zR Tryz.func44 rfl rfl rfl) rfl rfl (fun w h => Bits_ok w (hK26.at_ 0 rfl h) (by omega)) ?_
        refine zw rfl rfl (congrArg Value.bool (decide_eq_false (by decide))) ?_; refine mI e2_2 ?_; refine zw rfl rfl (congrArg Value.bool (decide_eq_false (by decide))) ?_
        refine w_r (fun _ => R_leN (a := (bl (((nd (iv (bw up (BX (nd (iv s n) E).1 ((nd (iv s n) E).2 - (nd (iv t m) F).2 - (((bl (nd (iv s n) E).1.natAbs : Int) + (nd (iv s n) E).2 - ((bl (nd (iv t m) F).1.natAbs : Int) + (nd (iv t m) F).2) - (p : Int)) + (j : Int)))) (BZ (nd (iv t m) F).1 ((nd (iv s n) E).2 - (nd (iv t m) F).2 - (((bl (nd (iv s n) E).1.natAbs : Int) + (nd (iv s n) E).2 - ((bl (nd (iv t m) F).1.natAbs : Int) + (nd (iv t m) F).2) - (p : Int)) + (j : Int))))) (QW up (BX (nd (iv s n) E).1 ((nd (iv s n) E).2 - (nd (iv t m) F).2 - (((bl (nd (iv s n) E).1.natAbs : Int) + (nd (iv s n) E).2 - ((bl (nd (iv t m) F).1.natAbs : Int) + (nd (iv t m) F).2) - (p : Int)) + (j : Int)))) (BZ (nd (iv t m) F).1 ((nd (iv s n) E).2 - (nd (iv t m) F).2 - (((bl (nd (iv s n) E).1.natAbs : Int) + (nd (iv s n) E).2 - ((bl (nd (iv t m) F).1.natAbs : Int) + (nd (iv t m) F).2) - (p : Int)) + (j : Int))))).natAbs) (((bl (nd (iv s n) E).1.natAbs : Int) + (nd (iv s n) E).2 - ((bl (nd (iv t m) F).1.natAbs : Int) + (nd (iv t m) F).2) - (p : Int)) + (j : Int)))).1.natAbs))) (b := p) rfl rfl) rfl rfl ?_
        refine w_r (v := .bool _) (fun _ => zF (congrArg Value.bool (decide_eq_false (by decide))) rfl) rfl rfl ?_; refine yB ?_; refine zD rfl (fun h28 => ?_) (fun h28 => ?_)
        ·have hnb : nb (qt (nd (iv s n) E).1 (nd (iv t m) F).1 ((nd (iv s n) E).2 - (nd (iv t m) F).2 - (((bl (nd (iv s n) E).1.natAbs : Int) + (nd (iv s n) E).2 - ((bl (nd (iv t m) F).1.natAbs : Int) + (nd (iv t m) F).2) - (p : Int)) + (j : Int))) up) ≤ p := (by rw [nb_nd, bw_qt] at h28; exact h28)
         refine yA ?_; refine w_loadA z27 rfl (fun _ h => h.at_ 0 rfl) rfl ?_; refine mI rfl ?_; refine w_store 4 rfl z27 e8_2 rfl rfl rfl rfl rfl rfl ?_; refine aI rfl ?_; refine yB ?_; refine ze ?_; refine zb (zt (zt (zb (?_))))
         rw [hdv, hde, ← div_here (e0 := ((bl (nd (iv s n) E).1.natAbs : Int) + (nd (iv s n) E).2 - ((bl (nd (iv t m) F).1.natAbs : Int) + (nd (iv t m) F).2) - (p : Int))) hC1 hp1 (by omega) hj hj1 hnb, ← bw_qt]
         refine r_fin (.inl rfl) rfl (.agg rfl e8_2 z27 (fun _ h => h.at_ 4 rfl) rfl (.tmp rfl rfl .nil)) ?_; exact fun w' hw => ⟨_, _, rfl, (hK26.at_ 0 rfl hw), (hN26 _ (.tail _ (.tail _ (.tail _ (.tail _ (.tail _ (.head _))))))), hw.fr (w, No) (.tail _ (.tail _ (.tail _ (.tail _ (.tail _ (.tail _ (.head _)))))))⟩
        ·have hon := div_on (up := up) (e0 := ((bl (nd (iv s n) E).1.natAbs : Int) + (nd (iv s n) E).2 - ((bl (nd (iv t m) F).1.natAbs : Int) + (nd (iv t m) F).2) - (p : Int))) hC1 hp1 (by omega) hj hj1 (fun h => h28 (by rw [nb_nd, bw_qt]; exact h))
         refine zi ?_; refine b_on (zk ?_); refine zr ?_; refine mI e10_2 ?_; refine w_r (fun _ => R_addi rfl rfl (by omega)) rfl rfl ?_; refine aI rfl ?_; refine zn ?_; refine k_st (B' := [y1, y2, (w, No)]) (L' := _) (fun w h => (h.pick [4, 5, 6] (by decide)).unbase (fun x hx => by rcases List.mem_cons.1 hx with rfl | hx; (exact (.tail _ (.tail _ (.tail _ (.tail _ (.head _)))))); rcases List.mem_cons.1 hx with rfl | hx; (exact (.tail _ (.tail _ (.tail _ (.tail _ (.tail _ (.head _))))))); rcases List.mem_cons.1 hx with rfl | hx; (exact (.tail _ (.tail _ (.tail _ (.tail _ (.tail _ (.tail _ (.head _)))))))); exact absurd hx (by simp))) ?_; exact k_again _ (by omega) ⟨j + 1, e2_2, e3_2, e4_2, e5_2, e8_2, e9_2, (congrArg (fun z : Int => Value.int .i64 z) (by omega)), rfl, rfl, by omega, fun _ => hon.2, rfl⟩
      ·refine o_alloc rfl zr25 (fun b29 gb29 ub29 => ?_)
       refine h_one 1 (by kernel_rfl) (fun w h => (h).pick [1, 2, 3, 4, 5] (by decide)) ?_; refine o_way (g := 76) (up := up) rfl (wn_none rfl) rfl (fun w => zR Tryz.func42 rfl rfl rfl) (fun w h => way_ok up w) (fun xw ub hub hnu => ?_)
       refine h_one 4 (by kernel_rfl) (fun w h => (h.unbase (fun x hx => .tail _ (hx))).pick [1, 2, 3, 4, 5] (by decide)) ?_; refine o_tel rfl (wn_none rfl) rfl (fun w => R_callv rfl Tryz.func76 rfl rfl) (fun w h => way1_ok up _ _ ub w (hB16.at_ 1 rfl h) (hB16'.at_ 1 rfl h) ⟨by omega, by omega, BZ_ne hC1 _⟩ ((h.fr xw (.head _)).cell hub hnu)) (fun x30 a30 c30 hK30 hN30 => ?_)
       refine zh 5 rfl (by kernel_rfl) rfl rfl (fun w h => (h.unbase (fun x hx => .tail _ (.tail _ (hx)))).pick [1, 2, 3, 4, 5] (by decide)) (fun w h => R_move rfl) ?_; refine zh 6 rfl (by kernel_rfl) rfl rfl (fun w h => (h.unbase (fun x hx => .tail _ (.tail _ (hx)))).pick [1, 2, 3, 4, 5] (by decide)) (fun w h => R_extract rfl rfl) ?_; refine zh 7 rfl (by kernel_rfl) rfl rfl (fun w h => (h.unbase (fun x hx => .tail _ (.tail _ (hx)))).pick [1, 2, 3, 4, 5] (by decide)) (fun w h => R_extract rfl rfl) ?_; refine h_one 9 (by kernel_rfl) (fun w h => (h.unbase (fun x hx => .tail _ (.tail _ (hx)))).pick [1, 2, 3, 4, 5] (by decide)) ?_; refine o_store 0 rfl rfl z25 rfl rfl rfl rfl rfl rfl rfl ?_; refine zh (v := .int _ _) 10 rfl (by kernel_rfl) rfl rfl (fun w h => (h.unbase (fun x hx => .tail _ (.tail _ (hx)))).pick [1, 2, 3, 4, 5] (by decide)) (fun w h => R_assign rfl) ?_
       refine h_done (by kernel_rfl) (fun w h => (h.unbase (fun x hx => .tail _ (.tail _ (hx)))).pick [1, 2, 3, 4, 5] (by decide)) ?_; refine zk ?_; refine zq ?_; refine yA ?_; refine mI rfl ?_; refine w_r (fun _ => R_ne rfl rfl) rfl rfl ?_; refine yB ?_; refine c_condF (congrArg Value.bool (decide_eq_false (by decide))) ?_; refine zi ?_; refine zk ?_; refine yA ?_; refine w_loadA z25 rfl (fun _ h => h.at_ 0 rfl) rfl ?_; refine mI e10_2 ?_; refine mI rfl ?_; refine w_tel (fun w => zR Tryz.func43 rfl rfl rfl) rfl rfl (fun w h => dtoldS_ok _ _ w (hK30.at_ 0 rfl h) ⟨by omega, by omega, by omega, by omega⟩) (fun x31 a31 c31 hK31 hN31 => ?_)
       refine zm rfl ?_; refine w_r (fun _ => R_extract rfl rfl) rfl rfl ?_; refine w_r (fun _ => R_extract rfl rfl) rfl rfl ?_; refine w_alloc zr27 (fun b32 gb32 ub32 => ?_)
       refine w_store 0 rfl z27 rfl rfl rfl rfl rfl rfl rfl ?_; refine aI rfl ?_; refine yC ?_; refine mI rfl ?_; refine w_r (fun _ => R_ne rfl rfl) rfl rfl ?_; refine mB rfl ?_; refine zw rfl rfl (congrArg Value.bool (decide_eq_false (by decide))) ?_; refine zf fa27_0 rfl ?_; refine zw rfl rfl (congrArg Value.bool (decide_eq_false (by decide))) ?_; refine zf fa25_1 rfl ?_; refine zw rfl rfl (congrArg Value.bool (decide_eq_false (by decide))) ?_; refine zl z23 rfl (fun _ h => zc 0 rfl rfl h) ?_; refine zw rfl rfl (congrArg Value.bool (decide_eq_false (by decide))) ?_; refine zC (fun w => zR Tryz.func44 rfl rfl rfl) rfl rfl (fun w h => Bits_ok w (hK31.at_ 0 rfl h) (by omega)) ?_
       refine zw rfl rfl (congrArg Value.bool (decide_eq_false (by decide))) ?_; refine mI e2_2 ?_; refine zw rfl rfl (congrArg Value.bool (decide_eq_false (by decide))) ?_
       refine w_r (fun _ => R_leN (a := (bl (((nd (iv (bw up (BX (nd (iv s n) E).1 ((nd (iv s n) E).2 - (nd (iv t m) F).2 - (((bl (nd (iv s n) E).1.natAbs : Int) + (nd (iv s n) E).2 - ((bl (nd (iv t m) F).1.natAbs : Int) + (nd (iv t m) F).2) - (p : Int)) + (j : Int)))) (BZ (nd (iv t m) F).1 ((nd (iv s n) E).2 - (nd (iv t m) F).2 - (((bl (nd (iv s n) E).1.natAbs : Int) + (nd (iv s n) E).2 - ((bl (nd (iv t m) F).1.natAbs : Int) + (nd (iv t m) F).2) - (p : Int)) + (j : Int))))) (QW up (BX (nd (iv s n) E).1 ((nd (iv s n) E).2 - (nd (iv t m) F).2 - (((bl (nd (iv s n) E).1.natAbs : Int) + (nd (iv s n) E).2 - ((bl (nd (iv t m) F).1.natAbs : Int) + (nd (iv t m) F).2) - (p : Int)) + (j : Int)))) (BZ (nd (iv t m) F).1 ((nd (iv s n) E).2 - (nd (iv t m) F).2 - (((bl (nd (iv s n) E).1.natAbs : Int) + (nd (iv s n) E).2 - ((bl (nd (iv t m) F).1.natAbs : Int) + (nd (iv t m) F).2) - (p : Int)) + (j : Int))))).natAbs) (((bl (nd (iv s n) E).1.natAbs : Int) + (nd (iv s n) E).2 - ((bl (nd (iv t m) F).1.natAbs : Int) + (nd (iv t m) F).2) - (p : Int)) + (j : Int)))).1.natAbs))) (b := p) rfl rfl) rfl rfl ?_
       refine w_r (v := .bool _) (fun _ => zF (congrArg Value.bool (decide_eq_false (by decide))) rfl) rfl rfl ?_; refine yB ?_; refine zD rfl (fun h33 => ?_) (fun h33 => ?_)
       ·have hnb : nb (qt (nd (iv s n) E).1 (nd (iv t m) F).1 ((nd (iv s n) E).2 - (nd (iv t m) F).2 - (((bl (nd (iv s n) E).1.natAbs : Int) + (nd (iv s n) E).2 - ((bl (nd (iv t m) F).1.natAbs : Int) + (nd (iv t m) F).2) - (p : Int)) + (j : Int))) up) ≤ p := (by rw [nb_nd, bw_qt] at h33; exact h33)
        refine yA ?_; refine w_loadA z27 rfl (fun _ h => h.at_ 0 rfl) rfl ?_; refine mI rfl ?_; refine w_store 4 rfl z27 e8_2 rfl rfl rfl rfl rfl rfl ?_; refine aI rfl ?_; refine yB ?_; refine ze ?_; refine zb (zt (zt (zb (?_))))
        rw [hdv, hde, ← div_here (e0 := ((bl (nd (iv s n) E).1.natAbs : Int) + (nd (iv s n) E).2 - ((bl (nd (iv t m) F).1.natAbs : Int) + (nd (iv t m) F).2) - (p : Int))) hC1 hp1 (by omega) hj hj1 hnb, ← bw_qt]
        refine r_fin (.inl rfl) rfl (.agg rfl e8_2 z27 (fun _ h => h.at_ 4 rfl) rfl (.tmp rfl rfl .nil)) ?_; exact fun w' hw => ⟨_, _, rfl, (hK31.at_ 0 rfl hw), (hN31 _ (.tail _ (.tail _ (.tail _ (.tail _ (.tail _ (.head _))))))), hw.fr (w, No) (.tail _ (.tail _ (.tail _ (.tail _ (.tail _ (.tail _ (.head _)))))))⟩
       ·have hon := div_on (up := up) (e0 := ((bl (nd (iv s n) E).1.natAbs : Int) + (nd (iv s n) E).2 - ((bl (nd (iv t m) F).1.natAbs : Int) + (nd (iv t m) F).2) - (p : Int))) hC1 hp1 (by omega) hj hj1 (fun h => h33 (by rw [nb_nd, bw_qt]; exact h))
        refine zi ?_; refine b_on (zk ?_); refine zr ?_; refine mI e10_2 ?_; refine w_r (fun _ => R_addi rfl rfl (by omega)) rfl rfl ?_; refine aI rfl ?_; refine zn ?_; refine k_st (B' := [y1, y2, (w, No)]) (L' := _) (fun w h => (h.pick [4, 5, 6] (by decide)).unbase (fun x hx => by rcases List.mem_cons.1 hx with rfl | hx; (exact (.tail _ (.tail _ (.tail _ (.tail _ (.head _)))))); rcases List.mem_cons.1 hx with rfl | hx; (exact (.tail _ (.tail _ (.tail _ (.tail _ (.tail _ (.head _))))))); rcases List.mem_cons.1 hx with rfl | hx; (exact (.tail _ (.tail _ (.tail _ (.tail _ (.tail _ (.tail _ (.head _)))))))); exact absurd hx (by simp))) ?_; exact k_again _ (by omega) ⟨j + 1, e2_2, e3_2, e4_2, e5_2, e8_2, e9_2, (congrArg (fun z : Int => Value.int .i64 z) (by omega)), rfl, rfl, by omega, fun _ => hon.2, rfl⟩
end Go.Proofs.YtoapegnngbhkbaaGreatDoor
end
section
/- An interface value held against nil (as in SxO, without what SxO asks). -/
namespace Go.Sx
open Go.RowKit
section
variable {P : Program} {ρ : Operand → Value} {w : World} {D : Option Tmp} {ty t yt ti tp : TypeId} {pos : String} {aft : Array Edge} {g : Option (Nat × Bool)} {x y : Operand} {v : Value}
theorem eq_in {ms : Array (String × TypeId)} (h : P.underlying t = some (.interface ms)) : (Op.equal t (.iface tp v) .nilIface).run P w = .ok false w := by
  unfold Op.equal Op.maxDepth
  rw [show 10000 = 9999 + 1 from rfl]
  unfold Op.equalIn
  simp only [Sem.run_bind, run_underlying h, Result.andThen]
  rfl
theorem eq_n0 {ms : Array (String × TypeId)} (h : P.underlying t = some (.interface ms)) : (Op.equal t .nilIface .nilIface).run P w = .ok true w := by
  unfold Op.equal Op.maxDepth
  rw [show 10000 = 9999 + 1 from rfl]
  unfold Op.equalIn
  simp only [Sem.run_bind, run_underlying h, Result.andThen]
  rfl
theorem R_ine {ms : Array (String × TypeId)} (h : P.underlying t = some (.interface ms)) (hx : ρ x = .iface tp v) (hy : ρ y = .nilIface) : Run P ⟨D, .binOp .neq t x y yt, ty, pos, aft, g⟩ ρ w (.bool true) w := by
  simp only [Run, execOp, hx, hy, eqGuard, binOp, Sem.run_bind, eq_in h, Result.andThen]
  rfl
theorem R_ine0 {ms : Array (String × TypeId)} (h : P.underlying t = some (.interface ms)) (hx : ρ x = .nilIface) (hk : ρ (.const .nilIface) = .nilIface) : Run P ⟨D, .binOp .neq t x (.const .nilIface) yt, ty, pos, aft, g⟩ ρ w (.bool false) w := by
  simp only [Run, execOp, hx, hk, eqGuard, binOp, Sem.run_bind, eq_n0 h, Result.andThen, Bool.or_true, if_true, Bool.not_true, Bool.false_eq_true, if_false]
  rfl
end
end Go.Sx
end
section
namespace Go.Proofs.YtoapegnngbhkbaaGreatDoor
open Go.RowKit Go.Sx
open Go.Num
theorem nd_one : nd 1 0 = (1, 0) := by
  rw [nd_of (by decide), show (1 : Int).natAbs = 1 from rfl, od_odd rfl, tz_odd rfl]; rfl
set_option maxRecDepth 100000 in
set_option maxHeartbeats 1000000 in
theorem dRound0_ok (s : Bool) (E p9 : Int) (up : Bool) {a : Option Addr} {k c n : Nat} (w : World) (hA : Nm w a k c n) (hs : k ≤ 1000 ∧ sz n ≤ 10 ∧ (-1000 ≤ E ∧ E ≤ 1000) ∧ p9 ≤ 1000) :
    Ret Tryz.prog 13 #[.agg #[.bool s, .slice a k c, .int .i64 E], .int .i64 p9, .bool up] w (Tel (fun a c => .tuple #[.agg #[.bool (ng ((dvv (nd (iv s n) E) (nd (iv (ng (nd 1 0).1) (nd 1 0).1.natAbs) (nd 1 0).2) p9 up)).1), .slice a (sz ((dvv (nd (iv s n) E) (nd (iv (ng (nd 1 0).1) (nd 1 0).1.natAbs) (nd 1 0).2) p9 up)).1.natAbs) c, .int .i64 ((dvv (nd (iv s n) E) (nd (iv (ng (nd 1 0).1) (nd 1 0).1.natAbs) (nd 1 0).2) p9 up)).2], .int .i64 (dve (nd (iv (ng (nd 1 0).1) (nd 1 0).1.natAbs) (nd 1 0).2) p9)]) (sz ((dvv (nd (iv s n) E) (nd (iv (ng (nd 1 0).1) (nd 1 0).1.natAbs) (nd 1 0).2) p9 up)).1.natAbs) ((dvv (nd (iv s n) E) (nd (iv (ng (nd 1 0).1) (nd 1 0).1.natAbs) (nd 1 0).2) p9 up)).1.natAbs w) := by
  have ho1 : sz (nd 1 0).1.natAbs ≤ 10 ∧ (nd 1 0).2 = 0 := by rw [nd_one]; exact ⟨by decide, rfl⟩
  refine enter (S := No) (l := [_, _, _]) (L := []) 15 Tryz.func13 rfl rfl rfl (St.start w No) ?_; refine yA ?_; refine w_boxA rfl (fun pa gpa upa => ?_)
  refine w_alloc zr27 (fun r gr ur => ?_)
  refine aI rfl ?_; refine yB ?_; refine zq ?_; refine c_heldI [1] mixed ?_; refine h_loadA 0 rfl (by kernel_rfl) (fun w h => (h).pick [1] (by decide)) z27 rfl (fun _ h => h.at_ 0 rfl) rfl ?_; refine zh (v := .int _ _) 2 rfl (by kernel_rfl) rfl rfl (fun w h => (h).pick [1] (by decide)) (fun w h => R_move rfl) ?_; refine zh (v := .bool _) 3 rfl (by kernel_rfl) rfl rfl (fun w h => (h).pick [1] (by decide)) (fun w h => R_move rfl) ?_; refine h_one 1 (by kernel_rfl) (fun w h => (h).pick [1] (by decide)) ?_; refine o_tel rfl (wn_none rfl) rfl (fun w => zR Tryz.func23 rfl rfl rfl) (fun w h => dOf_ok (x := 1) w ⟨by decide, by decide⟩) (fun x3 a3 c3 hK3 hN3 => ?_)
  refine h_one 4 (by kernel_rfl) (fun w h => (h.unbase (fun x hx => .tail _ (hx))).pick [1] (by decide)) ?_; refine o_tel rfl (wn_none rfl) rfl (fun w => zR Tryz.func14 rfl rfl rfl) (fun w h => dDiv_ok _ _ _ _ p9 up w ((Kn.old hA).at_ 1 rfl h) (hK3.at_ 0 rfl h) ⟨by omega, by omega, by omega, by omega, by omega, by omega, by omega⟩) (fun x4 a4 c4 hK4 hN4 => ?_)
  refine zh 5 rfl (by kernel_rfl) rfl rfl (fun w h => (h.unbase (fun x hx => .tail _ (.tail _ (hx)))).pick [1] (by decide)) (fun w h => R_extract rfl rfl) ?_; refine zh 6 rfl (by kernel_rfl) rfl rfl (fun w h => (h.unbase (fun x hx => .tail _ (.tail _ (hx)))).pick [1] (by decide)) (fun w h => R_extract rfl rfl) ?_; refine h_one 7 (by kernel_rfl) (fun w h => (h.unbase (fun x hx => .tail _ (.tail _ (hx)))).pick [1] (by decide)) ?_; refine o_store 0 rfl rfl z27 rfl rfl rfl rfl rfl rfl rfl ?_; refine zh (v := .int _ _) 8 rfl (by kernel_rfl) rfl rfl (fun w h => (h.unbase (fun x hx => .tail _ (.tail _ (hx)))).pick [1] (by decide)) (fun w h => R_assign rfl) ?_; refine h_done (by kernel_rfl) (fun w h => (h.unbase (fun x hx => .tail _ (.tail _ (hx)))).pick [1] (by decide)) ?_; refine zk ?_; refine ze ?_
  refine r_fin (.inl rfl) rfl (.agg rfl rfl z27 (fun _ h => h.at_ 0 rfl) rfl (.tmp rfl rfl .nil)) ?_; exact fun w' hw => ⟨_, _, rfl, (hK4.at_ 0 rfl hw), (hN4 _ (.tail _ (.head _))), hw.fr (w, No) (.tail _ (.tail _ (.head _)))⟩
theorem dRound_ok (s : Bool) (E p9 : Int) (up : Bool) {a : Option Addr} {k c n : Nat} (w : World) (hA : Nm w a k c n) (hs : k ≤ 1000 ∧ sz n ≤ 10 ∧ (-1000 ≤ E ∧ E ≤ 1000) ∧ p9 ≤ 1000) : Ret Tryz.prog 13 #[.agg #[.bool s, .slice a k c, .int .i64 E], .int .i64 p9, .bool up] w (Tel (fun a c => .tuple #[.agg #[.bool (ng ((dvv (nd (iv s n) E) (nd 1 0) p9 up)).1), .slice a (sz ((dvv (nd (iv s n) E) (nd 1 0) p9 up)).1.natAbs) c, .int .i64 ((dvv (nd (iv s n) E) (nd 1 0) p9 up)).2], .int .i64 (dve (nd 1 0) p9)]) (sz ((dvv (nd (iv s n) E) (nd 1 0) p9 up)).1.natAbs) ((dvv (nd (iv s n) E) (nd 1 0) p9 up)).1.natAbs w) := by
  have := dRound0_ok s E p9 up w hA hs
  rw [iv_ng, nd_idem] at this
  exact this
theorem fl_pos (x : Int) (q : Nat) : fl x ((2 ^ q : Nat) : Int) = x / ((2 ^ q : Nat) : Int) := by
  unfold fl
  rw [ng_false.2 (Int.natCast_nonneg _), if_neg (by decide), Int.natAbs_natCast]
theorem br_one (x k : Int) : br x 1 k = if 0 ≤ k then x * ((2 ^ k.toNat : Nat) : Int) else fl x ((2 ^ (-k).toNat : Nat) : Int) := by
  unfold br
  split
  · have := fl_pos (x * ((2 ^ k.toNat : Nat) : Int)) 0
    rw [Nat.pow_zero] at this
    rw [show (1 : Int) = ((1 : Nat) : Int) from rfl, this, show ((1 : Nat) : Int) = 1 from rfl, Int.ediv_one]
  · rw [Int.one_mul]
theorem iv_mul (s : Bool) (n q : Nat) : iv s (n * q) = iv s n * (q : Int) := by
  cases s
  · unfold iv; rw [if_neg (by decide), if_neg (by decide), Int.natCast_mul]
  · unfold iv; rw [if_pos rfl, if_pos rfl, Int.natCast_mul, Int.neg_mul]
theorem shr_fl (s : Bool) (n q : Nat) : ((s && decide (n ≠ 0)) && decide (shrN (s && decide (n ≠ 0)) n q ≠ 0)) = ng (fl (iv s n) ((2 ^ q : Nat) : Int)) ∧ shrN (s && decide (n ≠ 0)) n q = (fl (iv s n) ((2 ^ q : Nat) : Int)).natAbs := by
  have hp : 0 < 2 ^ q := Nat.pow_pos (by decide)
  have h := fl_sizes (x := iv s n) (y := ((2 ^ q : Nat) : Int)) (Int.natCast_ne_zero.2 (Nat.pos_iff_ne_zero.1 hp))
  rw [ng_false.2 (Int.natCast_nonneg _), Bool.bne_false, ng_iv, iv_abs, Int.natAbs_natCast] at h
  have h2 : shrN (s && decide (n ≠ 0)) n q = if (s && decide (n ≠ 0)) = true ∧ n % 2 ^ q ≠ 0 then n / 2 ^ q + 1 else n / 2 ^ q := by
    unfold shrN
    have hm := Nat.div_add_mod n (2 ^ q)
    rw [Nat.mul_comm] at hm
    have e : (n / 2 ^ q * 2 ^ q ≠ n) ↔ (n % 2 ^ q ≠ 0) := ⟨fun h h0 => h (by omega), fun h h0 => h (by omega)⟩
    by_cases hg : (s && decide (n ≠ 0)) = true ∧ n % 2 ^ q ≠ 0
    · rw [if_pos hg, if_pos ⟨hg.1, e.2 hg.2⟩]
    · rw [if_neg hg, if_neg (fun h => hg ⟨h.1, e.1 h.2⟩)]
  rw [← h2] at h
  rw [h, ng_iv, iv_abs]
  exact ⟨rfl, rfl⟩
theorem sz_shrN (g : Bool) (n q : Nat) : sz (shrN g n q) ≤ sz n + 1 := by
  refine Nat.le_trans (sz_mono (m := n + 1) ?_) (sz_iff.2 (Nat.lt_of_le_of_lt (Nat.succ_le_of_lt (lt_sz n)) (Nat.pow_lt_pow_right B_gt (Nat.lt_succ_self _))))
  unfold shrN
  have := Nat.div_le_self n (2 ^ q)
  split <;> omega
theorem shl_fl (s : Bool) (n q : Nat) : (s && decide (n * 2 ^ q ≠ 0)) = ng (iv s n * ((2 ^ q : Nat) : Int)) ∧ n * 2 ^ q = (iv s n * ((2 ^ q : Nat) : Int)).natAbs := by
  rw [← iv_mul, ng_iv, iv_abs]; exact ⟨rfl, rfl⟩
set_option maxRecDepth 100000 in
set_option maxHeartbeats 1000000 in
theorem gridU_ok (s : Bool) (E e9 : Int) (q : Nat) {a : Option Addr} {k c n : Nat} (w : World) (hA : Nm w a k c n) (hs : k ≤ 1000 ∧ sz n ≤ 10 ∧ (-1000 ≤ E ∧ E ≤ 1000) ∧ -1000 ≤ e9 ∧ e9 ≤ 1000) (hq : E - e9 = (q : Int)) :
    Ret Tryz.prog 16 #[.agg #[.bool s, .slice a k c, .int .i64 E], .int .i64 e9] w (Tel (fun a c => .tuple #[.agg #[.bool (ng (iv s n * ((2 ^ q : Nat) : Int))), .slice a (sz ((iv s n * ((2 ^ q : Nat) : Int))).natAbs) c], .int .i64 0]) (sz (iv s n * ((2 ^ q : Nat) : Int)).natAbs) (iv s n * ((2 ^ q : Nat) : Int)).natAbs w) := by
  have hmy : mayE E = true := mayE_of (by omega)
  have h1 := sz_shl n q
  have h2 := sz_shrN (s && decide (n ≠ 0)) n q
  refine enter (S := No) (l := [_, _]) (L := []) 47 Tryz.func16 rfl rfl rfl (St.start w No) ?_; refine yA ?_; refine w_boxA rfl (fun pa gpa upa => ?_)
  refine w_alloc zr25 (fun r gr ur => ?_)
  refine aI rfl ?_; refine yB ?_; refine zq ?_; refine yA ?_; refine w_loadA z27 rfl (fun _ h => h.at_ 1 rfl) rfl ?_; refine zS slt101 (by decide) rfl rfl (fun b3 gb3 ub3 => ?_)
  refine zC (fun w => zR Tryz.func38 rfl rfl rfl) rfl rfl (fun w h => may1_ok w (h.at_ 0 rfl) ((Kn.old hA).at_ 0 rfl h) ⟨by omega, by omega⟩) ?_; refine w_r (fun _ => R_not rfl) rfl rfl ?_; refine mB rfl ?_; refine zp (t := 14) rfl (fun h4 => ?_) (fun h4 => ?_)
  · rw [hmy] at h4; cases h4
  · refine zw rfl rfl (bV h4) ?_; refine mI rfl ?_; refine zw rfl rfl (bV h4) ?_; refine w_r (fun _ => R_lt rfl rfl) rfl rfl ?_; refine w_r (v := .bool _) (fun _ => zF (bV h4) rfl) rfl rfl ?_; refine mB rfl ?_; refine zd (t := 18) rfl (fun h5 => ?_) (fun h5 => ?_)
    · omega
    · refine zw rfl rfl (bF h5) ?_; refine mI rfl ?_; refine zw rfl rfl (bF h5) ?_; refine w_r (fun _ => R_gt rfl rfl) rfl rfl ?_; refine w_r (v := .bool _) (fun _ => zF (bF h5) rfl) rfl rfl ?_; refine yB ?_; refine zD rfl (fun h6 => ?_) (fun h6 => ?_)
      · omega
      · refine zi ?_; refine zk ?_; refine zq ?_; refine yA ?_; refine w_loadA z27 rfl (fun _ h => h.at_ 2 rfl) rfl ?_; refine zC (fun w => zR Tryz.func24 rfl rfl rfl) rfl rfl (fun w h => dSign_ok _ _ w ((Kn.old hA).at_ 0 rfl h) (by omega)) ?_; refine w_r (fun _ => R_eq rfl rfl) rfl rfl ?_; refine yB ?_; refine zD rfl (fun h7 => ?_) (fun h7 => ?_)
        · have hn0 : n = 0 := sign_iv0.1 h7; have hv0 : (iv s n * ((2 ^ q : Nat) : Int)) = 0 := by rw [hn0, iv_zero]; exact Int.zero_mul _
          refine yA ?_; refine w_r (fun _ => R_build bt25 rfl) rfl rfl ?_; refine w_store 1 rfl z25 rfl rfl rfl rfl rfl rfl rfl ?_; refine aI rfl ?_; refine yB ?_; refine ze ?_; refine zt (?_)
          rw [hv0]
          refine r_fin (.inl rfl) rfl (.agg rfl rfl z25 (fun _ h => h.at_ 1 rfl) rfl (.tmp rfl rfl .nil)) ?_; exact fun w' hw => ⟨none, 0, rfl, Nm.nil _, Fsh.nil _ _, hw.fr (w, No) (.head _)⟩
        · refine zi ?_; refine zk ?_; refine yA ?_; refine za rfl ?_; refine yC ?_; refine zf fa27_1 rfl ?_; refine zl z3 rfl (fun _ h => zc 2 rfl rfl h) ?_; refine mI rfl ?_; refine w_r (fun _ => R_subi rfl rfl (by omega)) rfl rfl ?_
          rw [hq]
          refine aI rfl ?_; refine yB ?_; refine zq ?_; refine yA ?_; refine mI rfl ?_; refine w_r (fun _ => R_ltN (a := q) (b := 0) rfl rfl) rfl rfl ?_; refine yB ?_; refine zD rfl (fun h8 => ?_) (fun h8 => ?_)
          · omega
          · refine zi ?_; refine zk ?_; refine yA ?_; refine zm rfl ?_; refine zf fa27_0 rfl ?_; refine w_loadA z25 rfl (fun _ h => h.at_ 2 rfl) rfl ?_; refine mI rfl ?_; refine w_tel (fun w => R_callv rfl Tryz.func45 rfl rfl) rfl rfl (fun w h => zShl_ok _ w ((Kn.old hA).at_ 0 rfl h) ⟨by omega, by omega, by omega, by omega⟩) (fun x9 a9 c9 hK9 hN9 => ?_)
            refine zm rfl ?_; refine w_r (fun _ => R_extract rfl rfl) rfl rfl ?_; refine w_r (fun _ => R_extract rfl rfl) rfl rfl ?_; refine w_alloc zr25 (fun b10 gb10 ub10 => ?_)
            refine w_store 0 rfl z25 rfl rfl rfl rfl rfl rfl rfl ?_; refine aI rfl ?_; refine yB ?_; refine zq ?_; refine yA ?_; refine mI rfl ?_; refine w_r (fun _ => R_ne rfl rfl) rfl rfl ?_; refine yB ?_; refine c_condF (congrArg Value.bool (decide_eq_false (by decide))) ?_; refine zi ?_; refine zk ?_; refine yA ?_; refine w_loadA z25 rfl (fun _ h => h.at_ 0 rfl) rfl ?_; refine w_store 2 rfl z25 rfl rfl rfl rfl rfl rfl rfl ?_; refine aI rfl ?_; refine yB ?_; refine ze ?_
            rw [← (shl_fl s n q).1, ← (shl_fl s n q).2]
            refine r_fin (.inl rfl) rfl (.agg rfl rfl z25 (fun _ h => h.at_ 2 rfl) rfl (.tmp rfl rfl .nil)) ?_; exact fun w' hw => ⟨_, _, rfl, (hK9.at_ 0 rfl hw), (hN9 _ (.head _)), hw.fr (w, No) (.tail _ (.head _))⟩
set_option maxRecDepth 100000 in
set_option maxHeartbeats 1000000 in
theorem gridD_ok (s : Bool) (E e9 : Int) (q : Nat) {a : Option Addr} {k c n : Nat} (w : World) (hA : Nm w a k c n) (hs : k ≤ 1000 ∧ sz n ≤ 10 ∧ (-1000 ≤ E ∧ E ≤ 1000) ∧ -1000 ≤ e9 ∧ e9 ≤ 1000) (hq : E - e9 = -(q : Int) ∧ q ≠ 0) :
    Ret Tryz.prog 16 #[.agg #[.bool s, .slice a k c, .int .i64 E], .int .i64 e9] w (Tel (fun a c => .tuple #[.agg #[.bool (ng (fl (iv s n) ((2 ^ q : Nat) : Int))), .slice a (sz ((fl (iv s n) ((2 ^ q : Nat) : Int))).natAbs) c], .int .i64 0]) (sz (fl (iv s n) ((2 ^ q : Nat) : Int)).natAbs) (fl (iv s n) ((2 ^ q : Nat) : Int)).natAbs w) := by
  obtain ⟨hq, hq0⟩ := hq
  have hmy : mayE E = true := mayE_of (by omega)
  have h1 := sz_shl n q
  have h2 := sz_shrN (s && decide (n ≠ 0)) n q
  refine enter (S := No) (l := [_, _]) (L := []) 47 Tryz.func16 rfl rfl rfl (St.start w No) ?_; refine yA ?_; refine w_boxA rfl (fun pa gpa upa => ?_)
  refine w_alloc zr25 (fun r gr ur => ?_)
  refine aI rfl ?_; refine yB ?_; refine zq ?_; refine yA ?_; refine w_loadA z27 rfl (fun _ h => h.at_ 1 rfl) rfl ?_; refine zS slt101 (by decide) rfl rfl (fun b3 gb3 ub3 => ?_)
  refine zC (fun w => zR Tryz.func38 rfl rfl rfl) rfl rfl (fun w h => may1_ok w (h.at_ 0 rfl) ((Kn.old hA).at_ 0 rfl h) ⟨by omega, by omega⟩) ?_; refine w_r (fun _ => R_not rfl) rfl rfl ?_; refine mB rfl ?_; refine zp (t := 14) rfl (fun h4 => ?_) (fun h4 => ?_)
  · rw [hmy] at h4; cases h4
  · refine zw rfl rfl (bV h4) ?_; refine mI rfl ?_; refine zw rfl rfl (bV h4) ?_; refine w_r (fun _ => R_lt rfl rfl) rfl rfl ?_; refine w_r (v := .bool _) (fun _ => zF (bV h4) rfl) rfl rfl ?_; refine mB rfl ?_; refine zd (t := 18) rfl (fun h5 => ?_) (fun h5 => ?_)
    · omega
    · refine zw rfl rfl (bF h5) ?_; refine mI rfl ?_; refine zw rfl rfl (bF h5) ?_; refine w_r (fun _ => R_gt rfl rfl) rfl rfl ?_; refine w_r (v := .bool _) (fun _ => zF (bF h5) rfl) rfl rfl ?_; refine yB ?_; refine zD rfl (fun h6 => ?_) (fun h6 => ?_)
      · omega
      · refine zi ?_; refine zk ?_; refine zq ?_; refine yA ?_; refine w_loadA z27 rfl (fun _ h => h.at_ 2 rfl) rfl ?_; refine zC (fun w => zR Tryz.func24 rfl rfl rfl) rfl rfl (fun w h => dSign_ok _ _ w ((Kn.old hA).at_ 0 rfl h) (by omega)) ?_; refine w_r (fun _ => R_eq rfl rfl) rfl rfl ?_; refine yB ?_; refine zD rfl (fun h7 => ?_) (fun h7 => ?_)
        · have hn0 : n = 0 := sign_iv0.1 h7; have hv0 : (fl (iv s n) ((2 ^ q : Nat) : Int)) = 0 := by rw [hn0, iv_zero]; rw [fl_pos]; exact Int.zero_ediv _
          refine yA ?_; refine w_r (fun _ => R_build bt25 rfl) rfl rfl ?_; refine w_store 1 rfl z25 rfl rfl rfl rfl rfl rfl rfl ?_; refine aI rfl ?_; refine yB ?_; refine ze ?_; refine zt (?_)
          rw [hv0]
          refine r_fin (.inl rfl) rfl (.agg rfl rfl z25 (fun _ h => h.at_ 1 rfl) rfl (.tmp rfl rfl .nil)) ?_; exact fun w' hw => ⟨none, 0, rfl, Nm.nil _, Fsh.nil _ _, hw.fr (w, No) (.head _)⟩
        · refine zi ?_; refine zk ?_; refine yA ?_; refine za rfl ?_; refine yC ?_; refine zf fa27_1 rfl ?_; refine zl z3 rfl (fun _ h => zc 2 rfl rfl h) ?_; refine mI rfl ?_; refine w_r (fun _ => R_subi rfl rfl (by omega)) rfl rfl ?_
          rw [hq]
          refine aI rfl ?_; refine yB ?_; refine zq ?_; refine yA ?_; refine mI rfl ?_; refine w_r (fun _ => R_lt rfl rfl) rfl rfl ?_; refine yB ?_; refine zD rfl (fun h8 => ?_) (fun h8 => ?_)
          · refine zr ?_; refine mI rfl ?_; refine w_r (fun _ => R_neg rfl) rfl rfl ?_
            rw [i64_negn (by omega)]
            refine za rfl ?_; refine aI rfl ?_; refine yC ?_; refine zm rfl ?_; refine zf fa27_0 rfl ?_; refine w_loadA z25 rfl (fun _ h => h.at_ 2 rfl) rfl ?_; refine mI rfl ?_; refine w_tel (fun w => R_callv rfl Tryz.func46 rfl rfl) rfl rfl (fun w h => zShr_ok _ w ((Kn.old hA).at_ 0 rfl h) ⟨by omega, by omega, by omega⟩) (fun x9 a9 c9 hK9 hN9 => ?_)
            refine zm rfl ?_; refine w_r (fun _ => R_extract rfl rfl) rfl rfl ?_; refine w_r (fun _ => R_extract rfl rfl) rfl rfl ?_; refine w_alloc zr25 (fun b10 gb10 ub10 => ?_)
            refine w_store 0 rfl z25 rfl rfl rfl rfl rfl rfl rfl ?_; refine aI rfl ?_; refine yB ?_; refine zq ?_; refine yA ?_; refine mI rfl ?_; refine w_r (fun _ => R_ne rfl rfl) rfl rfl ?_; refine yB ?_; refine c_condF (congrArg Value.bool (decide_eq_false (by decide))) ?_; refine zi ?_; refine zk ?_; refine yA ?_; refine w_loadA z25 rfl (fun _ h => h.at_ 0 rfl) rfl ?_; refine w_store 2 rfl z25 rfl rfl rfl rfl rfl rfl rfl ?_; refine aI rfl ?_; refine yB ?_; refine ze ?_
            rw [← (shr_fl s n q).1, ← (shr_fl s n q).2]
            refine r_fin (.inl rfl) rfl (.agg rfl rfl z25 (fun _ h => h.at_ 2 rfl) rfl (.tmp rfl rfl .nil)) ?_; exact fun w' hw => ⟨_, _, rfl, (hK9.at_ 0 rfl hw), (hN9 _ (.head _)), hw.fr (w, No) (.tail _ (.head _))⟩
          · omega
theorem grid_ok (s : Bool) (E e9 : Int) {a : Option Addr} {k c n : Nat} (w : World) (hA : Nm w a k c n) (hs : k ≤ 1000 ∧ sz n ≤ 10 ∧ (-1000 ≤ E ∧ E ≤ 1000) ∧ -1000 ≤ e9 ∧ e9 ≤ 1000) : Ret Tryz.prog 16 #[.agg #[.bool s, .slice a k c, .int .i64 E], .int .i64 e9] w (Tel (fun a c => .tuple #[.agg #[.bool (ng (br (iv s n) 1 (E - e9))), .slice a (sz ((br (iv s n) 1 (E - e9))).natAbs) c], .int .i64 0]) (sz (br (iv s n) 1 (E - e9)).natAbs) (br (iv s n) 1 (E - e9)).natAbs w) := by
  rw [br_one]
  rcases Int.lt_or_le (E - e9) 0 with h | h
  · obtain ⟨q, hq⟩ : ∃ q : Nat, E - e9 = -(q : Int) := ⟨(-(E - e9)).toNat, by omega⟩
    rw [if_neg (by omega), show (-(E - e9)).toNat = q by omega]
    exact gridD_ok s E e9 q w hA hs ⟨hq, by omega⟩
  · obtain ⟨q, hq⟩ : ∃ q : Nat, E - e9 = (q : Int) := ⟨(E - e9).toNat, by omega⟩
    rw [if_pos h, show (E - e9).toNat = q by omega]
    exact gridU_ok s E e9 q w hA hs hq
theorem gd_txt (x E : Int) : (gdE x E = 0 ∧ gd x E = nd x E ∧ txt x E = dt (nd x E)) ∨ (gdE x E ≠ 0 ∧ txt x E = []) := by
  by_cases h1 : E.natAbs ≤ mx
  · have e1 : mayE E = true := decide_eq_true h1
    rw [(gd_t e1).1, (gd_t e1).2]
    by_cases h2 : (nd x E).2.natAbs ≤ mx
    · have e2 : mayE (nd x E).2 = true := decide_eq_true h2
      rw [(fit_t e2).1, (fit_t e2).2]; exact .inl ⟨rfl, rfl, if_pos ⟨h1, h2⟩⟩
    · rw [(fit_f (decide_eq_false h2)).2]; exact .inr ⟨by decide, if_neg (fun h => h2 h.2)⟩
  · rw [(gd_f (decide_eq_false h1)).2]; exact .inr ⟨by decide, if_neg (fun h => h1 h.1)⟩
theorem nd2_le {x E : Int} (h : gdE x E = 0) : -1048576 ≤ (gd x E).2 ∧ (gd x E).2 ≤ 1048576 := by
  unfold gdE fitE at h
  by_cases h1 : mayE E = true
  · rw [if_pos h1] at h
    by_cases h2 : mayE (nd x E).2 = true
    · rw [(gd_t h1).1, (fit_t h2).1]; exact mayE_le h2
    · rw [if_neg h2] at h; cases h
  · rw [if_neg h1] at h; cases h
theorem gd_sz {s : Bool} {n : Nat} {E : Int} : sz (gd (iv s n) E).1.natAbs ≤ sz n := by
  unfold gd fit
  split
  · split
    · exact od_sz E
    · exact Nat.zero_le _
  · exact Nat.zero_le _
theorem itoa_len (x : Int) : (Lib.itoa x).length ≤ bl x.natAbs + 2 := by
  unfold Lib.itoa
  have := dec_len x.natAbs
  split
  · simp only [List.length_cons]; omega
  · rw [show x.toNat = x.natAbs by omega]; omega
theorem zTextI_ok (x : Int) {a : Option Addr} {c : Nat} (w : World) (hA : Nm w a (sz x.natAbs) c x.natAbs) (hs : sz x.natAbs ≤ 2047) : Ret Tryz.prog 26 #[.agg #[.bool (ng x), .slice a (sz x.natAbs) c]] w fun v w' => v = str (Lib.itoa x) ∧ Ext w w' := by
  have := zText_ok (ng x) w hA ⟨by omega, hs⟩
  rwa [iv_ng] at this
theorem bl_exp {e : Int} (h : -1048576 ≤ e ∧ e ≤ 1048576) : bl e.natAbs ≤ 21 := bl_iff.2 (by omega)
set_option maxRecDepth 100000 in
set_option maxHeartbeats 1000000 in
theorem dText_ok (s : Bool) (E : Int) {a : Option Addr} {k c n : Nat} (w : World) (hA : Nm w a k c n) (hW : Wn w) (hs : k ≤ 1000000 ∧ sz n ≤ 2047) :
    Ret Tryz.prog 7 #[.agg #[.bool s, .slice a k c, .int .i64 E]] w (fun v w' => v = str (txt (iv s n) E) ∧ Ext w w') := by
  have hgs := gd_sz (s := s) (n := n) (E := E)
  have hil := itoa_len (gd (iv s n) E).1
  have hbl := bl_sz (Nat.le_trans hgs hs.2)
  have hil2 := itoa_len (gd (iv s n) E).2
  refine enter (S := No) (l := [_]) (L := []) 19 Tryz.func7 rfl rfl rfl (St.start w No) ?_; refine yA ?_; refine w_boxA rfl (fun pa gpa upa => ?_)
  refine za (v := str _) rfl ?_; refine yC ?_; refine w_loadA z27 rfl (fun _ h => h.at_ 0 rfl) rfl ?_; refine w_tel (fun w => zR Tryz.func25 rfl rfl rfl) rfl rfl (fun w h => dNorm_ok _ _ w ((Kn.old hA).at_ 0 rfl h) ⟨by omega, by omega⟩) (fun x2 a2 c2 hK2 hN2 => ?_)
  refine zm rfl ?_; refine w_r (fun _ => R_extract rfl rfl) rfl rfl ?_; refine w_r (fun _ => R_extract rfl rfl) rfl rfl ?_; refine w_store 0 rfl z27 rfl rfl rfl rfl rfl rfl rfl ?_; refine aI rfl ?_; refine yB ?_; refine zq ?_; refine yA ?_; refine mI rfl ?_; refine w_r (fun _ => R_ne rfl rfl) rfl rfl ?_; refine yB ?_; refine zD rfl (fun h3 => ?_) (fun h3 => ?_)
  · have htx : txt (iv s n) E = [] := (by rcases gd_txt (iv s n) E with h | h; (exact absurd h.1 h3); (exact h.2))
    refine yA ?_; refine za (v := str _) rfl ?_; refine yB ?_; refine ze ?_; refine zt (?_)
    refine zo (v := str _) rfl rfl rfl ?_; exact fun w' hw => ⟨by rw [htx], hw.fr (w, No) (.tail _ (.head _))⟩
  · have hE0 : (gdE (iv s n) E) = 0 := (by omega); have hex := nd2_le hE0; have hb2 := bl_exp hex; have htx : txt (iv s n) E = dt (gd (iv s n) E) := (by rcases gd_txt (iv s n) E with h | h; (rw [h.2.1]; exact h.2.2); (exact absurd hE0 h.1))
    refine zi ?_; refine zk ?_; refine zq ?_; refine c_heldS mixed ?_; refine zh 0 rfl (by kernel_rfl) rfl rfl (fun w h => h) (fun w h => R_fa fa27_0 rfl) ?_; refine h_loadA 1 rfl (by kernel_rfl) (fun w h => h) z25 rfl (fun _ h => h.at_ 0 rfl) rfl ?_; refine zh 4 rfl (by kernel_rfl) rfl rfl (fun w h => h) (fun w h => R_fa fa27_1 rfl) ?_; refine zh (v := .int _ _) 5 rfl (by kernel_rfl) rfl rfl (fun w h => h) (fun w h => R_ld1 z3 rfl (zc 0 rfl rfl h)) ?_; refine h_one 2 (by kernel_rfl) (fun w h => h) ?_; refine o_pureW rfl (wn_none rfl) rfl (fun w => zR Tryz.func26 rfl rfl rfl) (fun w h => zTextI_ok _ w (hK2.at_ 0 rfl h) (by omega)) ?_; refine zh 3 rfl (by kernel_rfl) rfl rfl (fun w h => h) (fun w h => R_cat rfl rfl (by (try simp only [List.length_append, List.length_cons, List.length_nil]); omega)) ?_; refine h_one 6 (by kernel_rfl) (fun w h => h) ?_
    refine o_pureW rfl (wn_none rfl) rfl (fun w => zR Tryz.func27 rfl rfl rfl) (fun w h => Itoa_ok _ w ⟨by omega, by omega⟩ (hW.now (.tail _ (.head _)) h)) ?_; refine zh 7 rfl (by kernel_rfl) rfl rfl (fun w h => h) (fun w h => R_cat rfl rfl (by (try simp only [List.length_append, List.length_cons, List.length_nil]); omega)) ?_; refine zh (v := str _) 8 rfl (by kernel_rfl) rfl rfl (fun w h => h) (fun w h => R_assign rfl) ?_; refine h_done (by kernel_rfl) (fun w h => h) ?_; refine zk ?_; refine ze ?_; refine zo (v := str _) rfl rfl rfl ?_; exact fun w' hw => ⟨by rw [htx]; unfold dt; simp, hw.fr (w, No) (.tail _ (.head _))⟩
/-- how a text is read: the number, the error -/
def ppV (s : List UInt8) : Int × Int := (pp s).getD (0, 0)
def ppE (s : List UInt8) : Int := match pp s with | some _ => 0 | none => 5
theorem pp_no {s : List UInt8} (h : zpe (bef s) ≠ 0 ∨ ∀ e, Lib.atoiAll (aft s) ≠ .ok e) : ppV s = (0, 0) ∧ ppE s = 5 := by
  have : pp s = none := by
    unfold pp
    split
    · rename_i x e hx he
      rcases h with h | h
      · unfold zpe at h; rw [hx] at h; exact absurd rfl h
      · exact absurd he (h e)
    · rfl
  unfold ppV ppE; rw [this]; exact ⟨rfl, rfl⟩
theorem pp_got {s : List UInt8} {e : Int} (h : zpe (bef s) = 0) (h2 : Lib.atoiAll (aft s) = .ok e) : (txt ((zpv (bef s)).getD 0) e = s → ppV s = ((zpv (bef s)).getD 0, e) ∧ ppE s = 0) ∧ (txt ((zpv (bef s)).getD 0) e ≠ s → ppV s = (0, 0) ∧ ppE s = 5) := by
  unfold zpe at h
  cases hz : zpv (bef s) with
  | none => rw [hz] at h; cases h
  | some x =>
    have e1 : pp s = if txt x e = s then some (x, e) else none := by unfold pp; rw [hz, h2]
    rw [Option.getD_some]
    refine ⟨fun ht => ?_, fun ht => ?_⟩
    · unfold ppV ppE; rw [e1, if_pos ht]; exact ⟨rfl, rfl⟩
    · unfold ppV ppE; rw [e1, if_neg ht]; exact ⟨rfl, rfl⟩
theorem bef_len (s : List UInt8) : (bef s).length ≤ s.length := (List.takeWhile_sublist _).length_le
theorem aft_len (s : List UInt8) : (aft s).length ≤ s.length := by
  unfold aft; rw [List.length_tail]; exact Nat.le_trans (Nat.sub_le _ _) (List.dropWhile_sublist _).length_le
theorem zpv_sz {s : List UInt8} (h : s.length ≤ 200) : sz ((zpv s).getD 0).natAbs ≤ 200 := by
  rw [← (zp_all s).2.1]
  split
  · exact npv_sz (Nat.le_trans (cutm_len s) h)
  · exact Nat.zero_le _
theorem Atoi_yes {s : List UInt8} {e : Int} (w : World) (hs : s.length ≤ 1000) (hW : Wn w) (h : Lib.atoiAll s = .ok e) : Ret Tryz.prog 30 #[str s] w fun v w' => v = .tuple #[.int .i64 e, .nilIface] ∧ Ext w w' :=
  Calls.mono (Atoi_ok s w hs hW) fun u w' ⟨v, hv, ⟨r, ev, h1, h2⟩, h3⟩ => ⟨v, hv, by
    rcases h2 with ⟨e', h4, rfl, rfl⟩ | ⟨h4, _⟩
    · rw [h] at h4; cases h4; exact h1
    · exact absurd h (h4 e), h3⟩
theorem Atoi_no {s : List UInt8} (w : World) (hs : s.length ≤ 1000) (hW : Wn w) (h : ∀ e, Lib.atoiAll s ≠ .ok e) : Ret Tryz.prog 30 #[str s] w fun v w' => (∃ r t p, v = .tuple #[.int .i64 r, .iface t p]) ∧ Ext w w' :=
  Calls.mono (Atoi_ok s w hs hW) fun u w' ⟨v, hv, ⟨r, ev, h1, h2⟩, h3⟩ => ⟨v, hv, by
    rcases h2 with ⟨e', h4, _⟩ | ⟨_, t, p, rfl⟩
    · exact absurd h4 (h e')
    · exact ⟨r, t, p, h1⟩, h3⟩
theorem dTextI_ok (x E : Int) {a : Option Addr} {c : Nat} (w : World) (hA : Nm w a (sz x.natAbs) c x.natAbs) (hW : Wn w) (hs : sz x.natAbs ≤ 2047) : Ret Tryz.prog 7 #[.agg #[.bool (ng x), .slice a (sz x.natAbs) c, .int .i64 E]] w fun v w' => v = str (txt x E) ∧ Ext w w' := by
  have := dText_ok (ng x) E w hA hW ⟨by omega, hs⟩
  rwa [iv_ng] at this
set_option maxRecDepth 100000 in
set_option maxHeartbeats 1000000 in
theorem dParseY_ok (s : List UInt8) (e : Int) (w : World) (hW : Wn w) (hs : s.length ≤ 200) (hat : Lib.atoiAll (aft s) = .ok e) :
    Ret Tryz.prog 8 #[str s] w (Tel (fun a c => .tuple #[.agg #[.bool (ng (ppV s).1), .slice a (sz (ppV s).1.natAbs) c, .int .i64 (ppV s).2], .int .i64 (ppE s)]) (sz (ppV s).1.natAbs) (ppV s).1.natAbs w) := by
  have hbl := bef_len s
  have hal := aft_len s
  have hzs := zpv_sz (s := bef s) (by omega)
  refine enter (S := No) (l := [_]) (L := []) 44 Tryz.func8 rfl rfl rfl (St.start w No) ?_; refine yA ?_; refine w_alloc zr27 (fun r gr ur => ?_)
  refine aI rfl ?_; refine yC ?_; refine zm (v := str _) rfl ?_; refine zC (fun w => zR Tryz.func28 rfl rfl rfl) rfl rfl (fun w h => Cut_ok s w (by omega) (hW.now (.head _) h)) ?_; refine zm rfl ?_; refine w_r (fun _ => R_extract rfl rfl) rfl rfl ?_; refine w_r (fun _ => R_extract rfl rfl) rfl rfl ?_; refine w_r (fun _ => R_extract rfl rfl) rfl rfl ?_; refine za (v := str _) rfl ?_; refine za (v := str _) rfl ?_; refine aB rfl ?_; refine yC ?_; refine zm (v := str _) rfl ?_; refine w_tel (fun w => zR Tryz.func29 rfl rfl rfl) rfl rfl (fun w h => zParse_ok (bef s) w (by omega)) (fun x2 a2 c2 hK2 hN2 => ?_)
  refine zm rfl ?_; refine w_r (fun _ => R_extract rfl rfl) rfl rfl ?_; refine w_r (fun _ => R_extract rfl rfl) rfl rfl ?_; refine w_alloc zr25 (fun b3 gb3 ub3 => ?_)
  refine w_store 0 rfl z25 rfl rfl rfl rfl rfl rfl rfl ?_; refine aI rfl ?_; refine yC ?_; refine zm (v := str _) rfl ?_; refine zC (fun w => zR Tryz.func30 rfl rfl rfl) rfl rfl (fun w h => Atoi_yes w (by omega) (hW.now (.tail _ (.head _)) h) hat) ?_; refine zm rfl ?_; refine w_r (fun _ => R_extract rfl rfl) rfl rfl ?_; refine w_r (fun _ => R_extract rfl rfl) rfl rfl ?_; refine aI rfl ?_; refine za rfl ?_; refine yB ?_; refine zq ?_; refine yA ?_; refine mI rfl ?_; refine w_r (fun _ => R_ne rfl rfl) rfl rfl ?_; refine mB rfl ?_; refine zd (t := 30) rfl (fun h4 => ?_) (fun h4 => ?_)
  · have hz0 := h4
    refine zs rfl rfl (bT h4) ?_; refine zs rfl rfl (bT h4) ?_; refine w_r (v := .bool _) (fun _ => zT (bT h4) rfl) rfl rfl ?_; refine yB ?_; refine zE rfl ?_; refine yA ?_; refine w_r (fun _ => R_build bt27 rfl) rfl rfl ?_; refine w_store 1 rfl z27 rfl rfl rfl rfl rfl rfl rfl ?_; refine aI rfl ?_; refine yB ?_; refine ze ?_; refine zt (?_)
    rw [(pp_no (.inl hz0)).1, (pp_no (.inl hz0)).2]
    refine r_fin (.inl rfl) rfl (.agg rfl rfl z27 (fun _ h => h.at_ 1 rfl) rfl (.tmp rfl rfl .nil)) ?_; exact fun w' hw => ⟨none, 0, rfl, Nm.nil _, Fsh.nil _ _, hw.fr (w, No) (.tail _ (.head _))⟩
  · have hz1 : zpe (bef s) = 0 := (by omega)
    refine zw rfl rfl (bF h4) ?_; refine zm rfl ?_; refine zw rfl rfl (bF h4) ?_; refine w_r (fun _ => R_ine0 uni61 rfl rfl) rfl rfl ?_; refine w_r (v := .bool _) (fun _ => zF (bF h4) rfl) rfl rfl ?_; refine yB ?_; refine c_condF rfl ?_; refine zi ?_; refine zk ?_; refine yA ?_; refine w_loadA z25 rfl (fun _ h => h.at_ 0 rfl) rfl ?_; refine mI rfl ?_; refine w_r (fun _ => R_build bt27 rfl) rfl rfl ?_; refine w_alloc zr27 (fun b5 gb5 ub5 => ?_)
    refine w_store 0 rfl z27 rfl rfl rfl rfl rfl rfl rfl ?_; refine yB ?_; refine zq ?_; refine yA ?_; refine w_loadA z27 rfl (fun _ h => h.at_ 0 rfl) rfl ?_; refine zC (fun w => zR Tryz.func7 rfl rfl rfl) rfl rfl (fun w h => dTextI_ok _ _ w (hK2.at_ 0 rfl h) (hW.now (.tail _ (.head _)) h) (by omega)) ?_; refine zm (v := str _) rfl ?_; refine w_r (fun _ => R_sne rfl rfl) rfl rfl ?_; refine yB ?_; refine zD rfl (fun h6 => ?_) (fun h6 => ?_)
    · have htne := h6
      refine yA ?_; refine w_r (fun _ => R_build bt27 rfl) rfl rfl ?_; refine w_store 2 rfl z27 rfl rfl rfl rfl rfl rfl rfl ?_; refine aI rfl ?_; refine yB ?_; refine ze ?_; refine zt (?_)
      rw [((pp_got hz1 hat).2 htne).1, ((pp_got hz1 hat).2 htne).2]
      refine r_fin (.inl rfl) rfl (.agg rfl rfl z27 (fun _ h => h.at_ 2 rfl) rfl (.tmp rfl rfl .nil)) ?_; exact fun w' hw => ⟨none, 0, rfl, Nm.nil _, Fsh.nil _ _, hw.fr (w, No) (.tail _ (.head _))⟩
    · have hteq := Decidable.not_not.1 h6
      refine zi ?_; refine zk ?_; refine yA ?_; refine w_loadA z27 rfl (fun _ h => h.at_ 0 rfl) rfl ?_; refine w_store 2 rfl z27 rfl rfl rfl rfl rfl rfl rfl ?_; refine aI rfl ?_; refine yB ?_; refine ze ?_
      rw [((pp_got hz1 hat).1 hteq).1, ((pp_got hz1 hat).1 hteq).2]
      refine r_fin (.inl rfl) rfl (.agg rfl rfl z27 (fun _ h => h.at_ 2 rfl) rfl (.tmp rfl rfl .nil)) ?_; exact fun w' hw => ⟨_, _, rfl, (hK2.at_ 0 rfl hw), (hN2 _ (.head _)), hw.fr (w, No) (.tail _ (.head _))⟩
set_option maxRecDepth 100000 in
set_option maxHeartbeats 1000000 in
theorem dParseN_ok (s : List UInt8) (w : World) (hW : Wn w) (hs : s.length ≤ 200) (hat : ∀ e, Lib.atoiAll (aft s) ≠ .ok e) :
    Ret Tryz.prog 8 #[str s] w (Tel (fun a c => .tuple #[.agg #[.bool (ng (ppV s).1), .slice a (sz (ppV s).1.natAbs) c, .int .i64 (ppV s).2], .int .i64 (ppE s)]) (sz (ppV s).1.natAbs) (ppV s).1.natAbs w) := by
  have hbl := bef_len s
  have hal := aft_len s
  have hzs := zpv_sz (s := bef s) (by omega)
  refine enter (S := No) (l := [_]) (L := []) 44 Tryz.func8 rfl rfl rfl (St.start w No) ?_; refine yA ?_; refine w_alloc zr27 (fun r gr ur => ?_)
  refine aI rfl ?_; refine yC ?_; refine zm (v := str _) rfl ?_; refine zC (fun w => zR Tryz.func28 rfl rfl rfl) rfl rfl (fun w h => Cut_ok s w (by omega) (hW.now (.head _) h)) ?_; refine zm rfl ?_; refine w_r (fun _ => R_extract rfl rfl) rfl rfl ?_; refine w_r (fun _ => R_extract rfl rfl) rfl rfl ?_; refine w_r (fun _ => R_extract rfl rfl) rfl rfl ?_; refine za (v := str _) rfl ?_; refine za (v := str _) rfl ?_; refine aB rfl ?_; refine yC ?_; refine zm (v := str _) rfl ?_; refine w_tel (fun w => zR Tryz.func29 rfl rfl rfl) rfl rfl (fun w h => zParse_ok (bef s) w (by omega)) (fun x2 a2 c2 hK2 hN2 => ?_)
  refine zm rfl ?_; refine w_r (fun _ => R_extract rfl rfl) rfl rfl ?_; refine w_r (fun _ => R_extract rfl rfl) rfl rfl ?_; refine w_alloc zr25 (fun b3 gb3 ub3 => ?_)
  refine w_store 0 rfl z25 rfl rfl rfl rfl rfl rfl rfl ?_; refine aI rfl ?_; refine yC ?_; refine zm (v := str _) rfl ?_; refine w_callE (fun w => zR Tryz.func30 rfl rfl rfl) rfl rfl (fun w h => Atoi_no w (by omega) (hW.now (.tail _ (.head _)) h) hat) ?_
  rintro _ ⟨r9, t9, p9, rfl⟩
  refine zm rfl ?_; refine w_r (fun _ => R_extract rfl rfl) rfl rfl ?_; refine w_r (fun _ => R_extract rfl rfl) rfl rfl ?_; refine aI rfl ?_; refine za rfl ?_; refine yB ?_; refine zq ?_; refine yA ?_; refine mI rfl ?_; refine w_r (fun _ => R_ne rfl rfl) rfl rfl ?_; refine mB rfl ?_; refine zd (t := 30) rfl (fun h4 => ?_) (fun h4 => ?_)
  · have hz0 := h4
    refine zs rfl rfl (bT h4) ?_; refine zs rfl rfl (bT h4) ?_; refine w_r (v := .bool _) (fun _ => zT (bT h4) rfl) rfl rfl ?_; refine yB ?_; refine zE rfl ?_; refine yA ?_; refine w_r (fun _ => R_build bt27 rfl) rfl rfl ?_; refine w_store 1 rfl z27 rfl rfl rfl rfl rfl rfl rfl ?_; refine aI rfl ?_; refine yB ?_; refine ze ?_; refine zt (?_)
    rw [(pp_no (.inl hz0)).1, (pp_no (.inl hz0)).2]
    refine r_fin (.inl rfl) rfl (.agg rfl rfl z27 (fun _ h => h.at_ 1 rfl) rfl (.tmp rfl rfl .nil)) ?_; exact fun w' hw => ⟨none, 0, rfl, Nm.nil _, Fsh.nil _ _, hw.fr (w, No) (.tail _ (.head _))⟩
  · have hz1 : zpe (bef s) = 0 := (by omega)
    refine zw rfl rfl (bF h4) ?_; refine zm rfl ?_; refine zw rfl rfl (bF h4) ?_; refine w_r (fun _ => R_ine uni61 rfl rfl) rfl rfl ?_; refine w_r (v := .bool _) (fun _ => zF (bF h4) rfl) rfl rfl ?_; refine yB ?_; refine zE rfl ?_; refine yA ?_; refine w_r (fun _ => R_build bt27 rfl) rfl rfl ?_; refine w_store 1 rfl z27 rfl rfl rfl rfl rfl rfl rfl ?_; refine aI rfl ?_; refine yB ?_; refine ze ?_; refine zt (?_)
    rw [(pp_no (.inr hat)).1, (pp_no (.inr hat)).2]
    refine r_fin (.inl rfl) rfl (.agg rfl rfl z27 (fun _ h => h.at_ 1 rfl) rfl (.tmp rfl rfl .nil)) ?_; exact fun w' hw => ⟨none, 0, rfl, Nm.nil _, Fsh.nil _ _, hw.fr (w, No) (.tail _ (.head _))⟩
end Go.Proofs.YtoapegnngbhkbaaGreatDoor
end
section
namespace Go.Proofs.YtoapegnngbhkbaaGreatDoor
open Go.RowKit Go.Sx
open Go.Num
set_option maxRecDepth 100000 in
set_option maxHeartbeats 400000 in
theorem rNorm_ok {a : Option Addr} {k c n : Nat} (w : World) (hA : Nm w a k c n) (hk : k ≤ 4000000) :
  Ret Tryz.prog 69 #[.slice a k c] w (Tel (fun a c => .slice a (sz n) c) (sz n) n w) := by
 refine enter (S := No) (l := [_]) (L := []) 24 Tryz.func69 rfl rfl rfl (St.start w No) ?_; refine yA ?_; refine za (v := .slice _ _ _) rfl ?_; refine yC ?_; refine mS rfl ?_; refine w_r (fun _ => R_len sl23 rfl) rfl rfl ?_; refine aI rfl ?_; refine yB ?_; refine zq ?_; refine zB ?_; refine c_loop (fun m9 e B L => ∃ (j : Nat), e 0 = .slice a k c ∧ e 3 = .int .i64 (j : Nat) ∧ B = [(w, No)] ∧ L = [] ∧ j ≤ k ∧ n < Go.Num.B ^ j ∧ m9 = j + 1) _ ⟨k, rfl, rfl, rfl, rfl, Nat.le_refl _, hA.lt, rfl⟩ ?_
 rintro m9 e B L ⟨j, e0_1, e3_1, rfl, rfl, hj, hlt, rfl⟩
 refine zq ?_; refine yA ?_; refine mI e3_1 ?_; refine w_r (fun _ => R_gtN (a := j) (b := 0) rfl rfl) rfl rfl ?_; refine mB rfl ?_; refine zd (t := 9) rfl (fun h1 => ?_) (fun h1 => ?_)
 ·obtain ⟨i, rfl⟩ : ∃ i, j = i + 1 := ⟨j - 1, by omega⟩
  refine zw rfl rfl (bT h1) ?_; refine mS e0_1 ?_; refine zw rfl rfl (bT h1) ?_; refine mI e3_1 ?_; refine zw rfl rfl (bT h1) ?_; refine w_r (fun _ => R_subN (n := (i + 1)) (b := 1) rfl rfl (by omega) (by omega)) rfl rfl ?_; refine zw rfl rfl (bT h1) ?_; refine w_r (fun _ => R_iaK (i := ((i + 1) - 1)) sl23 rfl ((Kn.old hA).ptr (by omega)) rfl (by omega)) rfl rfl ?_; refine zw rfl rfl (bT h1) ?_; refine zl (v := .int .u64 ((dg Go.Num.B n ((i + 1) - 1)) : Nat)) z66 rfl (fun w h => (Kn.old hA).ca 0 rfl (by omega) h) ?_; refine zw rfl rfl (bT h1) ?_; refine w_r (fun _ => R_eqN (a := (dg Go.Num.B n ((i + 1) - 1))) (b := 0) rfl rfl) rfl rfl ?_; refine w_r (v := .bool _) (fun _ => zT (bT h1) rfl) rfl rfl ?_; refine yB ?_; refine zD rfl (fun h2 => ?_) (fun h2 => ?_)
  ·refine zi ?_; refine zk ?_; refine zB ?_; refine zr ?_; refine mI e3_1 ?_; refine w_r (fun _ => R_subN (n := (i + 1)) (b := 1) rfl rfl (by omega) (by omega)) rfl rfl ?_; refine aI rfl ?_; refine zn ?_; refine b_on (?_)
   exact k_again _ (by omega) ⟨i, e0_1, rfl, rfl, rfl, by omega, lt_of_dg hlt h2, rfl⟩
  ·have hz : i + 1 = sz n := (sz_of_top hlt h2).symm
   refine c_exit ?_; refine zx (zx (b_here rfl (zk ?_))); refine yA ?_; refine za (v := .slice _ _ _) rfl ?_; refine yC ?_; refine mS rfl ?_; refine mS e0_1 ?_; refine mI e3_1 ?_; refine w_r (fun _ => R_hiN (q := (i + 1)) sl23 rfl rfl (Nat.le_trans (by omega) (Kn.old hA).kc)) rfl rfl ?_; refine w_st (B' := _) (L' := [] ++ ([] ++ [])) (fun w h => h) ?_; refine w_appN (z := 0) (k := 0) [] slt23 rfl (Own.nil _ _) (by decide) rfl (fun w h => (((Kn.old hA).cut (q := (i + 1)) (by omega) hlt _ (Nat.le_trans (by omega) (Kn.old hA).kc)).at_ 0 rfl h)) (by omega) (fun v1 W1 hO1 => ?_)
   refine za (v := v1) rfl ?_; refine yB ?_; refine ze ?_
   rw [← hz]
   refine zo (v := v1) rfl rfl rfl ?_; exact fun w' hw => Own.tel (k := i + 1) (n := n) (by simpa using hO1) hlt [] [] (.head _) hw (fun a c h => h)
 ·have hz : j = sz n := (by have hj0 : j = 0 := (by omega); subst hj0; exact (sz_eq_zero.2 (by simpa using hlt)).symm)
  refine zs rfl rfl (bF h1) ?_; refine zs rfl rfl (bF h1) ?_; refine zs rfl rfl (bF h1) ?_; refine zs rfl rfl (bF h1) ?_; refine zs rfl rfl (bF h1) ?_; refine zs rfl rfl (bF h1) ?_; refine w_r (v := .bool _) (fun _ => zF (bF h1) rfl) rfl rfl ?_; refine yB ?_; refine c_condF rfl ?_; refine c_exit ?_; refine zx (zx (b_here rfl (zk ?_))); refine yA ?_; refine za (v := .slice _ _ _) rfl ?_; refine yC ?_; refine mS rfl ?_; refine mS e0_1 ?_; refine mI e3_1 ?_; refine w_r (fun _ => R_hiN (q := j) sl23 rfl rfl (Nat.le_trans (by omega) (Kn.old hA).kc)) rfl rfl ?_; refine w_st (B' := _) (L' := [] ++ ([] ++ [])) (fun w h => h) ?_
  refine w_appN (z := 0) (k := 0) [] slt23 rfl (Own.nil _ _) (by decide) rfl (fun w h => (((Kn.old hA).cut (q := j) (by omega) hlt _ (Nat.le_trans (by omega) (Kn.old hA).kc)).at_ 0 rfl h)) (by omega) (fun v1 W1 hO1 => ?_)
  refine za (v := v1) rfl ?_; refine yB ?_; refine ze ?_
  rw [← hz]
  refine zo (v := v1) rfl rfl rfl ?_; exact fun w' hw => Own.tel (k := j) (n := n) (by simpa using hO1) hlt [] [] (.head _) hw (fun a c h => h)
theorem bit_out {n k i : Nat} (hn : n < Go.Num.B ^ k) (h : k ≤ i / 64) : n / 2 ^ i % 2 = 0 := by
 rw [Nat.div_eq_of_lt, Nat.zero_mod]
 refine Nat.lt_of_lt_of_le hn ?_
 rw [B_pow]
 exact Nat.pow_le_pow_right (by decide) (by omega)
set_option maxRecDepth 100000 in
set_option maxHeartbeats 400000 in
theorem rbit_ok {a : Option Addr} {k c n : Nat} (w : World) (hA : Nm w a k c n) (i : Nat) (hs : k ≤ 4000000 ∧ i ≤ 1000000000) :
  Ret Tryz.prog 70 #[.slice a k c, .int .i64 (i : Nat)] w (fun v w' => v = .int .u64 (n / 2 ^ i % 2 : Nat) ∧ Ext w w') := by
 have hBv : Go.Num.B = 18446744073709551616 := rfl
 refine enter (S := No) (l := [_, _]) (L := []) 24 Tryz.func70 rfl rfl rfl (St.start w No) ?_; refine yA ?_; refine aI rfl ?_; refine yB ?_; refine zq ?_; refine yA ?_; refine mI rfl ?_; refine w_r (fun _ => R_ltN (a := i) (b := 0) rfl rfl) rfl rfl ?_; refine mB rfl ?_; refine zd (t := 7) rfl (fun h1 => ?_) (fun h1 => ?_)
 ·omega
 ·refine zw rfl rfl (bF h1) ?_; refine mI rfl ?_; refine zw rfl rfl (bF h1) ?_; refine w_r (fun _ => R_quoN (a := i) (b := 64) rfl rfl (by omega) (by omega)) rfl rfl ?_; refine zw rfl rfl (bF h1) ?_; refine mS rfl ?_; refine zw rfl rfl (bF h1) ?_; refine w_r (fun _ => R_len sl23 rfl) rfl rfl ?_; refine zw rfl rfl (bF h1) ?_; refine w_r (fun _ => R_geN (a := (i / 64)) (b := k) rfl rfl) rfl rfl ?_; refine w_r (v := .bool _) (fun _ => zF (bF h1) rfl) rfl rfl ?_; refine yB ?_; refine zD rfl (fun h2 => ?_) (fun h2 => ?_)
  ·have hz := bit_out hA.lt h2
   refine yA ?_; refine aI rfl ?_; refine yB ?_; refine ze ?_; refine zt (?_)
   refine zo (v := .int _ _) rfl rfl rfl ?_; exact fun w' hw => ⟨by rw [hz]; rfl, hw.fr (w, No) (.head _)⟩
  ·refine zi ?_; refine zk ?_; refine yA ?_; refine mS rfl ?_; refine mI rfl ?_; refine w_r (fun _ => R_quoN (a := i) (b := 64) rfl rfl (by omega) (by omega)) rfl rfl ?_; refine w_r (fun _ => R_iaK (i := (i / 64)) sl23 rfl ((Kn.old hA).ptr (by omega)) rfl (by omega)) rfl rfl ?_; refine zl (v := .int .u64 ((dg Go.Num.B n (i / 64)) : Nat)) z66 rfl (fun w h => (Kn.old hA).ca 0 rfl (by omega) h) ?_; refine mI rfl ?_; refine w_r (fun _ => R_remU (a := i) (b := 64) rfl rfl (by omega)) rfl rfl ?_; refine w_r (fun _ => R_convK (n := (i % 64)) un3 un99 rfl (wrap_u (by omega))) rfl rfl ?_
   refine w_r (fun _ => R_shrU (a := (dg Go.Num.B n (i / 64))) (n := (i % 64)) rfl rfl (by omega)) rfl rfl ?_; refine w_r (fun _ => R_and1 (a := ((dg Go.Num.B n (i / 64)) / 2 ^ (i % 64))) rfl rfl (by exact Nat.lt_of_le_of_lt (Nat.div_le_self _ _) (dg_lt B_pos _ _))) rfl rfl ?_; refine aI rfl ?_; refine yB ?_; refine ze ?_; refine zo (v := .int _ _) rfl rfl rfl ?_; exact fun w' hw => ⟨by rw [limb_bit], hw.fr (w, No) (.head _)⟩
set_option maxRecDepth 100000 in
set_option maxHeartbeats 400000 in
theorem rBit_ok {a : Option Addr} {k c n : Nat} (w : World) (hA : Nm w a k c n) (i : Nat) (hs : k ≤ 4000000 ∧ i ≤ 1000000000) :
  Ret Tryz.prog 36 #[.slice a k c, .int .i64 (i : Nat)] w (fun v w' => v = .bool (decide (n / 2 ^ i % 2 = 1)) ∧ Ext w w') := by
 refine enter (S := No) (l := [_, _]) (L := []) 9 Tryz.func36 rfl rfl rfl (St.start w No) ?_; refine yA ?_; refine aB rfl ?_; refine yC ?_; refine mS rfl ?_; refine mI rfl ?_; refine zC (fun w => zR Tryz.func70 rfl rfl rfl) rfl rfl (fun w h => rbit_ok w ((Kn.old hA).at_ 0 rfl h) i ⟨by omega, by omega⟩) ?_; refine w_r (fun _ => R_eqN (a := (n / 2 ^ i % 2)) (b := 1) rfl rfl) rfl rfl ?_; refine aB rfl ?_; refine yB ?_; refine ze ?_; refine zo (v := .bool _) rfl rfl rfl ?_; exact fun w' hw => ⟨rfl, hw.fr (w, No) (.head _)⟩
theorem bl_cap {n k : Nat} (h : n < Go.Num.B ^ k) : bl n ≤ 64 * k := bl_iff.2 (by rw [← B_pow]; exact h)
set_option maxRecDepth 100000 in
set_option maxHeartbeats 400000 in
theorem rBits_ok {a : Option Addr} {k c n : Nat} (w : World) (hA : Nm w a k c n) (hk : k ≤ 4000000) :
  Ret Tryz.prog 53 #[.slice a k c] w (fun v w' => v = .int .i64 (bl n : Nat) ∧ Ext w w') := by
 refine enter (S := No) (l := [_]) (L := []) 19 Tryz.func53 rfl rfl rfl (St.start w No) ?_; refine yA ?_; refine aI rfl ?_; refine yC ?_; refine mS rfl ?_; refine w_r (fun _ => R_len sl23 rfl) rfl rfl ?_; refine w_r (fun _ => R_mulN (n := 64) (b := k) rfl rfl (by omega)) rfl rfl ?_; refine aI rfl ?_; refine yB ?_; refine zq ?_; refine zB ?_; refine c_loop (fun m9 e B L => ∃ (j : Nat), e 0 = .slice a k c ∧ e 3 = .int .i64 (j : Nat) ∧ B = [(w, No)] ∧ L = [] ∧ j ≤ 64 * k ∧ bl n ≤ j ∧ m9 = j + 1) _ ⟨64 * k, rfl, rfl, rfl, rfl, Nat.le_refl _, bl_cap hA.lt, rfl⟩ ?_
 rintro m9 e B L ⟨j, e0_1, e3_1, rfl, rfl, hj, hlt, rfl⟩
 refine zq ?_; refine yA ?_; refine mI e3_1 ?_; refine w_r (fun _ => R_gtN (a := j) (b := 0) rfl rfl) rfl rfl ?_; refine mB rfl ?_; refine zd (t := 9) rfl (fun h1 => ?_) (fun h1 => ?_)
 ·obtain ⟨i, rfl⟩ : ∃ i, j = i + 1 := ⟨j - 1, by omega⟩
  refine zw rfl rfl (bT h1) ?_; refine mS e0_1 ?_; refine zw rfl rfl (bT h1) ?_; refine mI e3_1 ?_; refine zw rfl rfl (bT h1) ?_; refine w_r (fun _ => R_subN (n := (i + 1)) (b := 1) rfl rfl (by omega) (by omega)) rfl rfl ?_; refine zw rfl rfl (bT h1) ?_; refine zC (fun w => zR Tryz.func70 rfl rfl rfl) rfl rfl (fun w h => rbit_ok w ((Kn.old hA).at_ 0 rfl h) ((i + 1) - 1) ⟨by omega, by omega⟩) ?_; refine zw rfl rfl (bT h1) ?_; refine w_r (fun _ => R_eqN (a := (n / 2 ^ ((i + 1) - 1) % 2)) (b := 0) rfl rfl) rfl rfl ?_; refine w_r (v := .bool _) (fun _ => zT (bT h1) rfl) rfl rfl ?_; refine yB ?_; refine zD rfl (fun h2 => ?_) (fun h2 => ?_)
  ·refine zi ?_; refine zk ?_; refine zB ?_; refine zr ?_; refine mI e3_1 ?_; refine w_r (fun _ => R_subN (n := (i + 1)) (b := 1) rfl rfl (by omega) (by omega)) rfl rfl ?_; refine aI rfl ?_; refine zn ?_; refine b_on (?_)
   exact k_again _ (by omega) ⟨i, e0_1, rfl, rfl, rfl, by omega, bl_down hlt h2, rfl⟩
  ·have hz : bl n = i + 1 := bl_up hlt h2
   refine c_exit ?_; refine zx (zx (b_here rfl (zk ?_))); refine yA ?_; refine mI e3_1 ?_; refine aI rfl ?_; refine yB ?_; refine ze ?_; refine zo (v := .int _ _) rfl rfl rfl ?_; exact fun w' hw => ⟨by rw [hz], hw.fr (w, No) (.head _)⟩
 ·have hz : bl n = j := (by omega)
  refine zs rfl rfl (bF h1) ?_; refine zs rfl rfl (bF h1) ?_; refine zs rfl rfl (bF h1) ?_; refine zs rfl rfl (bF h1) ?_; refine zs rfl rfl (bF h1) ?_; refine w_r (v := .bool _) (fun _ => zF (bF h1) rfl) rfl rfl ?_; refine yB ?_; refine c_condF rfl ?_; refine c_exit ?_; refine zx (zx (b_here rfl (zk ?_))); refine yA ?_; refine mI e3_1 ?_; refine aI rfl ?_; refine yB ?_; refine ze ?_; refine zo (v := .int _ _) rfl rfl rfl ?_; exact fun w' hw => ⟨by rw [hz], hw.fr (w, No) (.head _)⟩
theorem dg32_out {n k i : Nat} (hn : n < Go.Num.B ^ k) (h : k ≤ i / 2) : dg b32 n i = 0 := by
 refine dg_out (Nat.lt_of_lt_of_le hn ?_)
 rw [B_b32]
 exact Nat.pow_le_pow_right b32_pos (by omega)
theorem dg32_even {i : Nat} (n : Nat) (h : i % 2 = 0) : dg Go.Num.B n (i / 2) % 4294967296 = dg b32 n i := by
 have := (dg_half n (i / 2)).1
 rw [show 2 * (i / 2) = i by omega] at this
 exact this.symm
theorem dg32_odd {i : Nat} (n : Nat) (h : ¬ i % 2 = 0) : dg Go.Num.B n (i / 2) / 4294967296 = dg b32 n i := by
 have := (dg_half n (i / 2)).2
 rw [show 2 * (i / 2) + 1 = i by omega] at this
 exact this.symm
set_option maxRecDepth 100000 in
set_option maxHeartbeats 400000 in
theorem rdigit_ok {a : Option Addr} {k c n : Nat} (w : World) (hA : Nm w a k c n) (i : Nat) (hs : k ≤ 4000000 ∧ i ≤ 1000000000) :
  Ret Tryz.prog 71 #[.slice a k c, .int .i64 (i : Nat)] w (fun v w' => v = .int .u64 (dg b32 n i : Nat) ∧ Ext w w') := by
 refine enter (S := No) (l := [_, _]) (L := []) 29 Tryz.func71 rfl rfl rfl (St.start w No) ?_; refine yA ?_; refine aI rfl ?_; refine yB ?_; refine zq ?_; refine yA ?_; refine mI rfl ?_; refine w_r (fun _ => R_ltN (a := i) (b := 0) rfl rfl) rfl rfl ?_; refine mB rfl ?_; refine zd (t := 7) rfl (fun h1 => ?_) (fun h1 => ?_)
 ·omega
 ·refine zw rfl rfl (bF h1) ?_; refine mI rfl ?_; refine zw rfl rfl (bF h1) ?_; refine w_r (fun _ => R_quoN (a := i) (b := 2) rfl rfl (by omega) (by omega)) rfl rfl ?_; refine zw rfl rfl (bF h1) ?_; refine mS rfl ?_; refine zw rfl rfl (bF h1) ?_; refine w_r (fun _ => R_len sl23 rfl) rfl rfl ?_; refine zw rfl rfl (bF h1) ?_; refine w_r (fun _ => R_geN (a := (i / 2)) (b := k) rfl rfl) rfl rfl ?_; refine w_r (v := .bool _) (fun _ => zF (bF h1) rfl) rfl rfl ?_; refine yB ?_; refine zD rfl (fun h2 => ?_) (fun h2 => ?_)
  ·refine yA ?_; refine aI rfl ?_; refine yB ?_; refine ze ?_; refine zt (?_)
   refine zo (v := .int _ _) rfl rfl rfl ?_; exact fun w' hw => ⟨by rw [dg32_out hA.lt h2]; rfl, hw.fr (w, No) (.head _)⟩
  ·refine zi ?_; refine zk ?_; refine zq ?_; refine yA ?_; refine mI rfl ?_; refine w_r (fun _ => R_remU (a := i) (b := 2) rfl rfl (by omega)) rfl rfl ?_; refine w_r (fun _ => R_eqN (a := (i % 2)) (b := 0) rfl rfl) rfl rfl ?_; refine yB ?_; refine zD rfl (fun h3 => ?_) (fun h3 => ?_)
   ·refine yA ?_; refine mS rfl ?_; refine mI rfl ?_; refine w_r (fun _ => R_quoN (a := i) (b := 2) rfl rfl (by omega) (by omega)) rfl rfl ?_; refine w_r (fun _ => R_iaK (i := (i / 2)) sl23 rfl ((Kn.old hA).ptr (by omega)) rfl (by omega)) rfl rfl ?_; refine zl (v := .int .u64 ((dg Go.Num.B n (i / 2)) : Nat)) z66 rfl (fun w h => (Kn.old hA).ca 0 rfl (by omega) h) ?_; refine w_r (fun _ => R_remU (a := (dg Go.Num.B n (i / 2))) (b := 4294967296) rfl rfl (by omega)) rfl rfl ?_; refine aI rfl ?_; refine yB ?_; refine ze ?_; refine zt (?_)
    refine zo (v := .int _ _) rfl rfl rfl ?_; exact fun w' hw => ⟨by rw [dg32_even n h3], hw.fr (w, No) (.head _)⟩
   ·refine zi ?_; refine zk ?_; refine yA ?_; refine mS rfl ?_; refine mI rfl ?_; refine w_r (fun _ => R_quoN (a := i) (b := 2) rfl rfl (by omega) (by omega)) rfl rfl ?_; refine w_r (fun _ => R_iaK (i := (i / 2)) sl23 rfl ((Kn.old hA).ptr (by omega)) rfl (by omega)) rfl rfl ?_; refine zl (v := .int .u64 ((dg Go.Num.B n (i / 2)) : Nat)) z66 rfl (fun w h => (Kn.old hA).ca 0 rfl (by omega) h) ?_; refine w_r (fun _ => R_quoU (a := (dg Go.Num.B n (i / 2))) (b := 4294967296) rfl rfl (by omega) (by exact dg_lt B_pos _ _)) rfl rfl ?_; refine aI rfl ?_; refine yB ?_; refine ze ?_; refine zo (v := .int _ _) rfl rfl rfl ?_; exact fun w' hw => ⟨by rw [dg32_odd n h3], hw.fr (w, No) (.head _)⟩
theorem ne_of_dg {n m i : Nat} (h : ¬ dg Go.Num.B n i = dg Go.Num.B m i) : n ≠ m := fun h0 => h (by rw [h0])
theorem eq_all {n m : Nat} (hs : sz n = sz m) (h : ∀ j, j < sz n → dg Go.Num.B n j = dg Go.Num.B m j) : n = m := lmV_inj (lt_sz n) (by rw [hs]; exact lt_sz m) h
set_option maxRecDepth 100000 in
set_option maxHeartbeats 400000 in
theorem rSame_ok {a : Option Addr} {c n : Nat} {a2 : Option Addr} {c2 m : Nat} (w : World) (hA : Nm w a (sz n) c n) (hA2 : Nm w a2 (sz m) c2 m) (hs : sz n ≤ 4000000 ∧ sz m ≤ 4000000) :
  Ret Tryz.prog 47 #[.slice a (sz n) c, .slice a2 (sz m) c2] w (fun v w' => v = .bool (decide (n = m)) ∧ Ext w w') := by
 refine enter (S := No) (l := [_, _]) (L := []) 38 Tryz.func47 rfl rfl rfl (St.start w No) ?_; refine yA ?_; refine aB rfl ?_; refine yB ?_; refine zq ?_; refine yA ?_; refine mS rfl ?_; refine w_r (fun _ => R_len sl23 rfl) rfl rfl ?_; refine mS rfl ?_; refine w_r (fun _ => R_len sl23 rfl) rfl rfl ?_; refine w_r (fun _ => R_neN (a := (sz n)) (b := (sz m)) rfl rfl) rfl rfl ?_; refine yB ?_; refine zD rfl (fun h1 => ?_) (fun h1 => ?_)
 ·refine yA ?_; refine aB rfl ?_; refine yB ?_; refine ze ?_; refine zt (?_)
  refine zo (v := .bool _) rfl rfl rfl ?_; exact fun w' hw => ⟨by rw [decide_eq_false (fun h => h1 (by rw [h]))], hw.fr (w, No) (.head _)⟩
 ·have hse : sz n = sz m := (by omega)
  refine zi ?_; refine zk ?_; refine zq ?_; refine yA ?_; refine aI rfl ?_; refine yB ?_; refine zB ?_; refine c_loop (fun m9 e B L => ∃ (i : Nat), e 0 = .slice a (sz n) c ∧ e 1 = .slice a2 (sz m) c2 ∧ e 5 = .int .i64 (i : Nat) ∧ B = [(w, No)] ∧ L = [] ∧ i ≤ sz n ∧ (∀ j, j < i → dg Go.Num.B n j = dg Go.Num.B m j) ∧ m9 = sz n - i) _ ⟨0, rfl, rfl, rfl, rfl, rfl, Nat.zero_le _, fun j hj => absurd hj (Nat.not_lt_zero j), rfl⟩ ?_
  rintro m9 e B L ⟨i, e0_1, e1_1, e5_1, rfl, rfl, hi, hd, rfl⟩
  refine zq ?_; refine yA ?_; refine mI e5_1 ?_; refine mS e0_1 ?_; refine w_r (fun _ => R_len sl23 rfl) rfl rfl ?_; refine w_r (fun _ => R_ltN (a := i) (b := (sz n)) rfl rfl) rfl rfl ?_; refine yB ?_; refine zD rfl (fun h2 => ?_) (fun h2 => ?_)
  ·refine zi ?_; refine zk ?_; refine zq ?_; refine zB ?_; refine zq ?_; refine c_heldS mixed ?_; refine zh (v := .slice _ _ _) 0 rfl (by kernel_rfl) rfl rfl (fun w h => h) (fun w h => R_move e0_1) ?_; refine zh (v := .int _ _) 1 rfl (by kernel_rfl) rfl rfl (fun w h => h) (fun w h => R_move e5_1) ?_; refine zh 2 rfl (by kernel_rfl) rfl rfl (fun w h => h) (fun w h => R_iaK (i := i) sl23 rfl ((Kn.old hA).ptr (by omega)) rfl (by omega)) ?_; refine zh (v := .int .u64 ((dg Go.Num.B n i) : Nat)) 3 rfl (by kernel_rfl) rfl rfl (fun w h => h) (fun w h => R_ld1 z66 rfl ((Kn.old hA).ca 0 rfl (by omega) h)) ?_; refine zh (v := .slice _ _ _) 4 rfl (by kernel_rfl) rfl rfl (fun w h => h) (fun w h => R_move e1_1) ?_; refine zh (v := .int _ _) 5 rfl (by kernel_rfl) rfl rfl (fun w h => h) (fun w h => R_move e5_1) ?_
   refine zh 6 rfl (by kernel_rfl) rfl rfl (fun w h => h) (fun w h => R_iaK (i := i) sl23 rfl ((Kn.old hA2).ptr (by omega)) rfl (by omega)) ?_; refine zh (v := .int .u64 ((dg Go.Num.B m i) : Nat)) 7 rfl (by kernel_rfl) rfl rfl (fun w h => h) (fun w h => R_ld1 z66 rfl ((Kn.old hA2).ca 0 rfl (by omega) h)) ?_; refine zh 8 rfl (by kernel_rfl) rfl rfl (fun w h => h) (fun w h => R_neN (a := (dg Go.Num.B n i)) (b := (dg Go.Num.B m i)) rfl rfl) ?_; refine h_done (by kernel_rfl) (fun w h => h) ?_; refine zk ?_; refine zD rfl (fun h3 => ?_) (fun h3 => ?_)
   ·refine yA ?_; refine aB rfl ?_; refine yB ?_; refine ze ?_; refine zb (zt (zt (zb (zt (?_)))))
    refine zo (v := .bool _) rfl rfl rfl ?_; exact fun w' hw => ⟨by rw [decide_eq_false (ne_of_dg h3)], hw.fr (w, No) (.head _)⟩
   ·have heq := Decidable.not_not.1 h3
    refine zi ?_; refine b_on (zk ?_); refine zr ?_; refine mI e5_1 ?_; refine w_r (fun _ => R_addN (n := i) (b := 1) rfl rfl (by omega)) rfl rfl ?_; refine aI rfl ?_; refine zn ?_; exact k_again _ (by omega) ⟨i + 1, e0_1, e1_1, rfl, rfl, rfl, by omega, fun j hj => (by rcases Nat.lt_succ_iff_lt_or_eq.1 hj with h | h; (exact hd j h); (subst h; exact heq)), rfl⟩
  ·have hnm := eq_all hse (fun j hj => hd j (by omega))
   refine c_exit ?_; refine zx (zx (b_here rfl (zk ?_))); refine yA ?_; refine mS e0_1 ?_; refine w_r (fun _ => R_len sl23 rfl) rfl rfl ?_; refine w_r (fun _ => R_eqN (a := (sz n)) (b := 0) rfl rfl) rfl rfl ?_; refine mB rfl ?_; refine zd (t := 29) rfl (fun h4 => ?_) (fun h4 => ?_)
   ·refine zs rfl rfl (bT h4) ?_; refine zs rfl rfl (bT h4) ?_; refine zs rfl rfl (bT h4) ?_; refine zs rfl rfl (bT h4) ?_; refine zs rfl rfl (bT h4) ?_; refine zs rfl rfl (bT h4) ?_; refine zs rfl rfl (bT h4) ?_; refine w_r (v := .bool _) (fun _ => zT (bT h4) rfl) rfl rfl ?_; refine aB rfl ?_; refine yB ?_; refine ze ?_; refine zo (v := .bool _) rfl rfl rfl ?_; exact fun w' hw => ⟨by rw [decide_eq_true hnm], hw.fr (w, No) (.head _)⟩
   ·have htn := top_ne (n := n) (fun h => h4 (by rw [h]; rfl))
    refine zw rfl rfl (bF h4) ?_; refine mS e0_1 ?_; refine zw rfl rfl (bF h4) ?_; refine mS e0_1 ?_; refine zw rfl rfl (bF h4) ?_; refine w_r (fun _ => R_len sl23 rfl) rfl rfl ?_; refine zw rfl rfl (bF h4) ?_; refine w_r (fun _ => R_subN (n := (sz n)) (b := 1) rfl rfl (by omega) (by omega)) rfl rfl ?_; refine zw rfl rfl (bF h4) ?_; refine w_r (fun _ => R_iaK (i := ((sz n) - 1)) sl23 rfl ((Kn.old hA).ptr (by omega)) rfl (by omega)) rfl rfl ?_; refine zw rfl rfl (bF h4) ?_; refine zl (v := .int .u64 ((dg Go.Num.B n ((sz n) - 1)) : Nat)) z66 rfl (fun w h => (Kn.old hA).ca 0 rfl (by omega) h) ?_; refine zw rfl rfl (bF h4) ?_; refine w_r (fun _ => R_neN (a := (dg Go.Num.B n ((sz n) - 1))) (b := 0) rfl rfl) rfl rfl ?_
    refine w_r (v := .bool _) (fun _ => zF (bF h4) rfl) rfl rfl ?_; refine aB rfl ?_; refine yB ?_; refine ze ?_; refine zo (v := .bool _) rfl rfl rfl ?_; exact fun w' hw => ⟨by rw [decide_eq_true hnm, decide_eq_true htn], hw.fr (w, No) (.head _)⟩
/-- a row of k digits of 32 bits, each in a limb of its own -/
def wid (n k : Nat) : Nat := vlb Go.Num.B (dgs b32 n k)
theorem dig_up (n k : Nat) : Dig Go.Num.B (dgs b32 n k) := fun x hx => Nat.lt_trans (dgs_dig b32_pos n k x hx) (by decide)
theorem wid_lt (n k : Nat) : wid n k < Go.Num.B ^ k := by have := vlb_lt (dig_up n k); rwa [dgs_len] at this
theorem wid_succ (n k : Nat) : wid n k + Go.Num.B ^ k * dg b32 n k = wid n (k + 1) := by unfold wid; rw [dgs_succ, vlb_snoc, dgs_len]
theorem wid_dg {n k i : Nat} (h : i < k) : dg Go.Num.B (wid n k) i = dg b32 n i := dg_vlb B_pos (dig_up n k) (dgs_get h)
theorem wid_congr {n m k : Nat} (h : ∀ i, i < k → dg b32 n i = dg b32 m i) : wid n k = wid m k := lmV_inj (wid_lt n k) (wid_lt m k) fun j hj => by rw [wid_dg hj, wid_dg hj, h j hj]
theorem wid_set {n k j d : Nat} (hd : d < b32) (hj : j < k) : setd Go.Num.B (wid n k) j d = wid (setd b32 n j d) k := by
 have hdB : d < Go.Num.B := Nat.lt_trans hd (by decide)
 refine lmV_inj (setd_lt B_pos hdB (wid_lt n k) hj) (wid_lt _ k) fun i hi => ?_
 rw [wid_dg hi]
 by_cases h : i = j
 ·subst h; rw [setd_same B_pos hdB, setd_same b32_pos hd]
 ·rw [setd_other B_pos hdB h, setd_other b32_pos hd h, wid_dg hi]
theorem made_e {N i k : Nat} (hi : i < k) (h : i % 2 = 0) : setd Go.Num.B (N % b32 ^ i) (i / 2) (dg Go.Num.B (wid N k) i) = N % b32 ^ (i + 1) := by
 have e : Go.Num.B ^ (i / 2) = b32 ^ i := by rw [B_b32, show 2 * (i / 2) = i by omega]
 rw [setd_zero (dg_out (by rw [e]; exact Nat.mod_lt _ (b32pow_pos i))), e, wid_dg hi, mod_step]
theorem made_o {N i k : Nat} (hi : i < k) (h : ¬ i % 2 = 0) : setd Go.Num.B (N % b32 ^ i) (i / 2) (dg Go.Num.B (N % b32 ^ i) (i / 2) + dg Go.Num.B (wid N k) i * 4294967296) = N % b32 ^ (i + 1) ∧ dg Go.Num.B (N % b32 ^ i) (i / 2) + dg Go.Num.B (wid N k) i * 4294967296 < Go.Num.B := by
 have e : Go.Num.B ^ (i / 2) * 4294967296 = b32 ^ i := by
  rw [B_b32, show (4294967296 : Nat) = b32 ^ 1 by decide, ← Nat.pow_add, show 2 * (i / 2) + 1 = i by omega]
 refine ⟨?_, ?_⟩
 ·rw [setd_add, Nat.mul_comm (dg _ _ i), ← Nat.mul_assoc, e, wid_dg hi, mod_step]
 ·have h1 : dg Go.Num.B (N % b32 ^ i) (i / 2) < 4294967296 := by
   unfold dg
   refine Nat.lt_of_le_of_lt (Nat.mod_le _ _) ((Nat.div_lt_iff_lt_mul (Bpow_pos _)).2 ?_)
   rw [Nat.mul_comm, e]; exact Nat.mod_lt _ (b32pow_pos i)
  have h2 : dg Go.Num.B (wid N k) i < 4294967296 := by rw [wid_dg hi]; exact dg_lt b32_pos _ _
  have hBv : Go.Num.B = 18446744073709551616 := rfl
  omega
theorem made_lti {N k i : Nat} (h : i ≤ k) : N % b32 ^ i < Go.Num.B ^ ((k + 1) / 2) := by
 refine Nat.lt_of_lt_of_le (Nat.mod_lt _ (b32pow_pos i)) ?_
 rw [B_b32]; exact Nat.pow_le_pow_right b32_pos (by omega)
section
variable {P : Program} {ops : Array Oper} {Q : Exit → Act → World → Prop} {c : Cf} {e : Env} {B : Base} {L : Heap} {S : World → Prop} {fuel : Nat} {listed : Array Bool} {x y : Operand} {z k : Nat} {t : TypeId}
theorem o_putU {T2 ty : TypeId} {b j dv z' q : Nat} {pp : String} {aa : Array Edge} (i : Nat) (ho : ops[q]? = some ⟨none, .store t x y, ty, pp, aa, none⟩) (hi : L[i]? = some (b, cel (lmV z k) T2)) (hz : szB P t 1 false = true) (hx : ev c.n e x = .pointer (some ⟨b, 0 + j * 1, none⟩)) (hy : ev c.n e y = .int .u64 (dv : Nat)) (hd : dv < Go.Num.B) (hj : j < k) (he : setd Go.Num.B z j dv = z')
  (h : WH P ops c Q S fuel (listed.setIfInBounds q true) e B (L.set i (b, cel (lmV z' k) T2))) : WO P ops c Q S fuel listed q e B L :=
 o_store (v := .int .u64 (dv : Nat)) (vs := [.int .u64 (dv : Nat)]) i ho hi hz hx hy rfl rfl rfl (by rw [lmV_len, Nat.ble_eq]; omega) (lmV_putE hd hj he) h
end
set_option maxRecDepth 100000 in
set_option maxHeartbeats 400000 in
theorem made_ok {a : Option Addr} {k c N : Nat} (w : World) (hA : Nm w a k c (wid N k)) (hk : k ≤ 4000000) :
  Ret Tryz.prog 72 #[.slice a k c] w (Tel (fun a c => .slice a (sz (N % b32 ^ k)) c) (sz (N % b32 ^ k)) (N % b32 ^ k) w) := by
 refine enter (S := No) (l := [_]) (L := []) 44 Tryz.func72 rfl rfl rfl (St.start w No) ?_; refine yA ?_; refine za (v := .slice _ _ _) rfl ?_; refine yC ?_; refine mS rfl ?_; refine w_r (fun _ => R_len sl22 rfl) rfl rfl ?_; refine w_r (fun _ => R_addN (n := k) (b := 1) rfl rfl (by omega)) rfl rfl ?_; refine w_r (fun _ => R_quoN (a := (k + 1)) (b := 2) rfl rfl (by omega) (by omega)) rfl rfl ?_; refine w_makeU (n := ((k + 1) / 2)) slt23 rfl rfl (by omega) (by omega) (fun ob gob uob => ?_)
 refine za (v := .slice _ _ _) rfl ?_; refine yB ?_; refine zq ?_; refine yA ?_; refine aI rfl ?_; refine yB ?_; refine zB ?_; refine c_st (B' := _) (L' := [(ob, cel (lmV (N % b32 ^ 0) ((k + 1) / 2)) 66)]) (fun w h => by rw [Nat.pow_zero, Nat.mod_one]; exact h) ?_; refine c_loop (fun m9 e B L => ∃ (i : Nat), e 0 = .slice a k c ∧ e 3 = .slice (some ⟨ob, 0, none⟩) ((k + 1) / 2) ((k + 1) / 2) ∧ e 4 = .int .i64 (i : Nat) ∧ B = [(w, No)] ∧ L = [(ob, cel (lmV (N % b32 ^ i) ((k + 1) / 2)) 66)] ∧ i ≤ k ∧ m9 = k - i) _ ⟨0, rfl, rfl, rfl, rfl, rfl, Nat.zero_le _, rfl⟩ ?_
 rintro m9 e B L ⟨i, e0_1, e3_1, e4_1, rfl, rfl, hi, rfl⟩
 refine zq ?_; refine yA ?_; refine mI e4_1 ?_; refine mS e0_1 ?_; refine w_r (fun _ => R_len sl22 rfl) rfl rfl ?_; refine w_r (fun _ => R_ltN (a := i) (b := k) rfl rfl) rfl rfl ?_; refine yB ?_; refine zD rfl (fun h1 => ?_) (fun h1 => ?_)
 ·have hik := h1
  refine zi ?_; refine zk ?_; refine zq ?_; refine zB ?_; refine yA ?_; refine mI e4_1 ?_; refine w_r (fun _ => R_remU (a := i) (b := 2) rfl rfl (by omega)) rfl rfl ?_; refine w_r (fun _ => R_eqN (a := (i % 2)) (b := 0) rfl rfl) rfl rfl ?_; refine yB ?_; refine zD rfl (fun h2 => ?_) (fun h2 => ?_)
  ·refine zr ?_; refine mS e3_1 ?_; refine mI e4_1 ?_; refine w_r (fun _ => R_quoN (a := i) (b := 2) rfl rfl (by omega) (by omega)) rfl rfl ?_; refine mS e0_1 ?_; refine mI e4_1 ?_; refine w_r (fun _ => R_iaK (i := i) sl22 rfl ((Kn.old hA).ptr (by omega)) rfl (by omega)) rfl rfl ?_; refine zl (v := .int .u64 ((dg Go.Num.B (wid N k) i) : Nat)) z66 rfl (fun w h => (Kn.old hA).ca 0 rfl (by omega) h) ?_; refine w_r (fun _ => R_iaN (i := (i / 2)) sl23 rfl rfl (by omega)) rfl rfl ?_; refine w_putU (dv := (dg Go.Num.B (wid N k) i)) (z' := (N % b32 ^ (i + 1))) (j := (i / 2)) 0 rfl z66 rfl rfl (by exact dg_lt B_pos _ _) (by omega) (made_e hik h2) ?_
   refine zn ?_; refine b_on (zk ?_); refine zr ?_; refine mI e4_1 ?_; refine w_r (fun _ => R_addN (n := i) (b := 1) rfl rfl (by omega)) rfl rfl ?_; refine aI rfl ?_; refine zn ?_; exact k_again _ (by omega) ⟨i + 1, e0_1, e3_1, rfl, rfl, rfl, by omega, rfl⟩
  ·have hmo := made_o (N := N) hik h2
   refine c_held (St [(w, No)] []) mixed ?_; refine zh (v := .slice _ _ _) 0 rfl (by kernel_rfl) rfl rfl (fun w h => (h).drop (List.nil_sublist _)) (fun w h => R_move e3_1) ?_; refine zh (v := .int _ _) 1 rfl (by kernel_rfl) rfl rfl (fun w h => (h).drop (List.nil_sublist _)) (fun w h => R_move e4_1) ?_; refine zh 2 rfl (by kernel_rfl) rfl rfl (fun w h => (h).drop (List.nil_sublist _)) (fun w h => R_quoN (a := i) (b := 2) rfl rfl (by omega) (by omega)) ?_; refine zh (v := .slice _ _ _) 3 rfl (by kernel_rfl) rfl rfl (fun w h => (h).drop (List.nil_sublist _)) (fun w h => R_move e3_1) ?_; refine zh (v := .int _ _) 4 rfl (by kernel_rfl) rfl rfl (fun w h => (h).drop (List.nil_sublist _)) (fun w h => R_move e4_1) ?_; refine zh 5 rfl (by kernel_rfl) rfl rfl (fun w h => (h).drop (List.nil_sublist _)) (fun w h => R_quoN (a := i) (b := 2) rfl rfl (by omega) (by omega)) ?_
   refine zh 6 rfl (by kernel_rfl) rfl rfl (fun w h => (h).drop (List.nil_sublist _)) (fun w h => R_iaN (i := (i / 2)) sl23 rfl rfl (by omega)) ?_; refine zh (v := .slice _ _ _) 8 rfl (by kernel_rfl) rfl rfl (fun w h => (h).drop (List.nil_sublist _)) (fun w h => R_move e0_1) ?_; refine zh (v := .int _ _) 9 rfl (by kernel_rfl) rfl rfl (fun w h => (h).drop (List.nil_sublist _)) (fun w h => R_move e4_1) ?_; refine zh 10 rfl (by kernel_rfl) rfl rfl (fun w h => (h).drop (List.nil_sublist _)) (fun w h => R_iaK (i := i) sl22 rfl ((Kn.old hA).ptr (by omega)) rfl (by omega)) ?_; refine zh (v := .int .u64 ((dg Go.Num.B (wid N k) i) : Nat)) 11 rfl (by kernel_rfl) rfl rfl (fun w h => (h).drop (List.nil_sublist _)) (fun w h => R_ld1 z66 rfl ((Kn.old hA).ca 0 rfl (by omega) h)) ?_
   refine zh 12 rfl (by kernel_rfl) rfl rfl (fun w h => (h).drop (List.nil_sublist _)) (fun w h => R_mulU (a := (dg Go.Num.B (wid N k) i)) (b := 4294967296) rfl rfl (by omega)) ?_; refine h_one 7 (by kernel_rfl) (fun w h => (h).drop (List.nil_sublist _)) ?_; refine o_run (v := .int .u64 ((dg Go.Num.B (N % b32 ^ i) (i / 2)) : Nat)) rfl rfl rfl (fun w h => R_ld1 z66 rfl (cel_lm 0 rfl (by omega) h)) ?_; refine zh 13 rfl (by kernel_rfl) rfl rfl (fun w h => (h).drop (List.nil_sublist _)) (fun w h => R_addU (a := (dg Go.Num.B (N % b32 ^ i) (i / 2))) (b := ((dg Go.Num.B (wid N k) i) * 4294967296)) rfl rfl (by omega)) ?_; refine zh 14 rfl (by kernel_rfl) rfl rfl (fun w h => (h).drop (List.nil_sublist _)) (fun w h => R_iaN (i := (i / 2)) sl23 rfl rfl (by omega)) ?_; refine h_one 15 (by kernel_rfl) (fun w h => (h).drop (List.nil_sublist _)) ?_
   refine o_putU (dv := ((dg Go.Num.B (N % b32 ^ i) (i / 2)) + ((dg Go.Num.B (wid N k) i) * 4294967296))) (z' := (N % b32 ^ (i + 1))) (j := (i / 2)) 0 rfl rfl z66 rfl rfl (by exact hmo.2) (by omega) (by exact hmo.1) ?_
   clear hmo
   refine h_done (by kernel_rfl) (fun w h => (h).drop (List.nil_sublist _)) ?_; refine b_on (zk ?_); refine zr ?_; refine mI e4_1 ?_; refine w_r (fun _ => R_addN (n := i) (b := 1) rfl rfl (by omega)) rfl rfl ?_; refine aI rfl ?_; refine zn ?_; exact k_again _ (by omega) ⟨i + 1, e0_1, e3_1, rfl, rfl, rfl, by omega, rfl⟩
 ·obtain rfl : i = k := (by omega)
  refine c_exit ?_; refine zx (zx (b_here rfl (zk ?_))); refine yA ?_; refine mS e3_1 ?_; refine w_tel (fun w => zR Tryz.func69 rfl rfl rfl) rfl rfl (fun w h => rNorm_ok w (Nm.own 0 rfl (made_lti (Nat.le_refl _)) (Nat.le_refl _) h) (by omega)) (fun x3 a3 c3 hK3 hN3 => ?_)
  refine za (v := .slice _ _ _) rfl ?_; refine yB ?_; refine ze ?_; refine zo (v := .slice _ _ _) rfl rfl rfl ?_; exact fun w' hw => ⟨_, _, rfl, (hK3.at_ 0 rfl hw), (hN3 _ (.head _)), hw.fr (w, No) (.tail _ (.head _))⟩
end Go.Proofs.YtoapegnngbhkbaaGreatDoor
end
