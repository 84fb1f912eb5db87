/- Layer 14, FeedReads: that Read tells the data, or the fault, that the document tells. Part 13 of 14. -/
import Derived.Test.YtikdkendinnalaaGreatDoorR12
set_option maxRecDepth 100000
set_option maxHeartbeats 16000000
section
namespace Go.Proofs.YtikdkendinnalaaGreatDoor
open Go.RowKit Go.Sx
open Go.Num Go.Feed Go.Tok Go.Prs Go.Tree
theorem iMulN_ok {a : Option Addr} {k c n : Nat} {a2 : Option Addr} {k2 c2 m : Nat} (w : World) (hA : Nm w a k c n) (hA2 : Nm w a2 k2 c2 m) (hs : k ≤ 1000 ∧ k2 ≤ 1000) : Ret Tryz.prog 110 #[.agg #[.bool false, .slice a k c], .agg #[.bool false, .slice a2 k2 c2]] w (Tel (fun a c => .agg #[.bool false, .slice a (sz (n * m)) c]) (sz (n * m)) (n * m) w) := by
  have h := iMul_ok false false w hA hA2 hs
  have e : iv false n * iv false m = ((n * m : Nat) : Int) := by simp [iv]
  rw [e, Int.natAbs_natCast, show ng ((n * m : Nat) : Int) = false from ng_false.2 (Int.natCast_nonneg _)] at h
  exact h
theorem iOfN_ok (n : Nat) (w : World) (hn : n ≤ 1000000) : Ret Tryz.prog 111 #[.int .i64 (n : Nat)] w (Tel (fun a c => .agg #[.bool false, .slice a (sz n) c]) (sz n) n w) := by
  have h := iOf_ok (x := (n : Int)) w (by omega)
  rw [Int.natAbs_natCast, show ng (n : Int) = false from ng_false.2 (Int.natCast_nonneg _)] at h
  exact h
theorem iParseD_ok (l : List UInt8) (w : World) (h : l.all isD = true) (h0 : l ≠ []) (hl : l.length ≤ 400) : Ret Tryz.prog 108 #[str l] w (Tel (fun a c => .tuple #[.agg #[.bool false, .slice a (sz (pv 0 l)) c], .int .i64 0]) (sz (pv 0 l)) (pv 0 l) w) := by
  have h1 := iParse_ok l w hl
  have h2 : l.head? ≠ some 45 := by
    cases l with
    | nil => simp
    | cons c l =>
      rw [List.all_cons, Bool.and_eq_true] at h
      intro he
      have hc : c = 45 := by simpa using he
      rw [hc] at h
      exact absurd h.1 (by decide)
  have h3 : npv l = some (pv 0 l) := by unfold npv; rw [if_neg (by rw [h]; simp [h0])]
  have h4 : zpv l = some ((pv 0 l : Nat) : Int) := by unfold zpv; rw [if_neg h2, h3]; rfl
  have h5 : zpe l = 0 := by unfold zpe; rw [h4]
  rw [h4, h5, Option.getD_some, Int.natAbs_natCast, show ng ((pv 0 l : Nat) : Int) = false from ng_false.2 (Int.natCast_nonneg _)] at h1
  exact h1
theorem Run.to {P : Program} {o : Oper} {ρ : Operand → Value} {w w' : World} {v v' : Value} (h : Run P o ρ w v w') (e : v = v') : Run P o ρ w v' w' := e ▸ h
theorem iPow_ok {a : Option Addr} {k c : Nat} (w : World) (hA : Nm w a k c 10) (e9 : Nat) (hs : k ≤ 1000 ∧ e9 ≤ 12000) :
    Ret Tryz.prog 149 #[.agg #[.bool false, .slice a k c], .int .i64 (e9 : Nat)] w (Tel (fun a c => .agg #[.bool false, .slice a (sz (10 ^ e9)) c]) (sz (10 ^ e9)) (10 ^ e9) w) := by
  refine enter (S := No) (l := [_, _]) (L := []) 17 Tryz.func149 rfl rfl rfl (St.start w No) ?_; refine yA ?_; refine w_boxA rfl (fun b2 gb2 ub2 => ?_)
  refine zA zr44 (fun b4 gb4 ub4 => ?_)
  refine yC ?_; refine w_tel (fun w => zR Tryz.func111 rfl rfl rfl) rfl rfl (fun w h => iOfN_ok 1 w (by decide)) (fun x0 a0 c0 hK0 hN0 => ?_)
  refine zA zr44 (fun b5 gb5 ub5 => ?_)
  refine jv 0 z44 rfl ?_; refine yB ?_; refine zq ?_; refine yA ?_; refine aI rfl ?_; refine yB ?_; refine zB ?_; refine c_loop (fun m9 e B L => ∃ (i : Nat) (xN : BaseW) (aN : Option Addr) (cN : Nat), e 1 = .int .i64 (e9 : Nat) ∧ e 2 = pX b2 ∧ e 4 = pX b4 ∧ e 5 = pX b5 ∧ e 6 = .int .i64 (i : Nat) ∧ B = [xN, (w, No)] ∧ L = [(b5, cel [.bool false, .slice aN (sz (10 ^ i)) cN] 44), (b4, cel [.bool false, .slice none 0 0] 44), (b2, cel [.bool false, .slice a k c] 44)] ∧ i ≤ e9 ∧ Kn xN aN (sz (10 ^ i)) cN (10 ^ i) ∧ New_ [(w, No)] aN (sz (10 ^ i)) ∧ m9 = e9 - i) _ ⟨0, x0, a0, c0, rfl, rfl, rfl, rfl, rfl, rfl, rfl, Nat.zero_le _, hK0, hN0, rfl⟩ ?_
  rintro m9 e B L ⟨i, xN, aN, cN, e1_1, e2_1, e4_1, e5_1, e6_1, rfl, rfl, hi, hKN, hNN, rfl⟩
  have hsz := sz_ten16 i
  refine zq ?_; refine yA ?_; refine mI e6_1 ?_; refine mI e1_1 ?_; refine zg (fun _ => R_ltN (a := i) (b := e9) rfl rfl) ?_; refine yB ?_; refine zD rfl (fun h5 => ?_) (fun h5 => ?_)
  · refine zi ?_; refine zk ?_; refine zq ?_; refine zB ?_; refine zr ?_; refine jy 0 z44 e5_1 rfl ?_; refine jy 2 z44 e2_1 rfl ?_; refine w_tel (fun w => zR Tryz.func110 rfl rfl rfl) rfl rfl (fun w h => (show 10 ^ (i + 1) = 10 ^ i * 10 from Nat.pow_succ 10 i) ▸ iMulN_ok w (hKN.at_ 0 rfl h) ((Kn.old hA).at_ 1 rfl h) ⟨by omega, by omega⟩) (fun x6 a6 c6 hK6 hN6 => ?_)
    refine ju 0 z44 e5_1 rfl rfl ?_; refine zn ?_; refine zO (zk ?_); refine zr ?_; refine mI e6_1 ?_; refine zg (fun _ => R_addN (n := i) (b := 1) rfl rfl (by omega)) ?_; refine aI rfl ?_; refine zn ?_; refine zK (B' := [x6, (w, No)]) (L' := [_, _, _]) (fun w h => h.unbase (fun x hx => by rcases List.mem_cons.1 hx with rfl | hx; (exact zm0); rcases List.mem_cons.1 hx with rfl | hx; (exact zm2); exact absurd hx (by simp))) ?_; exact k_again _ (by omega) ⟨i + 1, x6, a6, c6, e1_1, e2_1, e4_1, e5_1, rfl, rfl, rfl, by omega, hK6, fun y hy => hN6 y (.tail _ hy), rfl⟩
  obtain rfl : i = e9 := (by omega)
  refine zX ?_; refine zx (zx (b_here rfl (zk ?_))); refine yA ?_; refine jy 0 z44 e5_1 rfl ?_; refine ju 1 z44 e4_1 rfl rfl ?_; refine yB ?_; refine ze ?_; refine r_fin (.inl rfl) rfl (.agg rfl e4_1 z44 (fun _ h => h.at_ 1 rfl) rfl .nil) ?_; exact fun w' hw => ⟨aN, cN, rfl, hKN.at_ 0 rfl hw, hNN _ zm0, hw.fr (w, No) zm1⟩
theorem jTen_ok (w : World) (e9 : Nat) (hs : e9 ≤ 12000) :
    Ret Tryz.prog 109 #[.int .i64 (e9 : Nat)] w (Tel (fun a c => .agg #[.bool false, .slice a (sz (10 ^ e9)) c]) (sz (10 ^ e9)) (10 ^ e9) w) := by
  refine enter (S := No) (l := [_]) (L := []) 6 Tryz.func109 rfl rfl rfl (St.start w No) ?_; refine yA ?_; refine zA zr44 (fun r gr ur => ?_)
  refine yC ?_; refine w_tel (fun w => zR Tryz.func111 rfl rfl rfl) rfl rfl (fun w h => iOfN_ok 10 w (by decide)) (fun x2 a2 c2 hK2 hN2 => ?_)
  refine mI rfl ?_; refine w_tel (fun w => zR Tryz.func149 rfl rfl rfl) rfl rfl (fun w h => iPow_ok w (hK2.at_ 0 rfl h) e9 ⟨by decide, by omega⟩) (fun x3 a3 c3 hK3 hN3 => ?_)
  refine jv 0 z44 rfl ?_; refine yB ?_; refine ze ?_; refine r_fin (.inl rfl) rfl (.agg rfl rfl z44 (fun _ h => h.at_ 0 rfl) rfl .nil) ?_; exact fun w' hw => ⟨_, _, rfl, (hK3.at_ 0 rfl hw), (hN3 _ zm1), hw.fr (w, No) zm2⟩
theorem dg_y {s : List UInt8} {i : Nat} (h : i < s.length) (h1 : (((s[i]'h).toNat : Nat) : Int) ≥ 48) (h2 : (((s[i]'h).toNat : Nat) : Int) ≤ 57) : atP digitB s i = true := by
  rw [atP_in h]
  unfold digitB
  have h3 : (48 : UInt8) ≤ s[i] := UInt8.le_iff_toNat_le.2 (by have : (48 : UInt8).toNat = 48 := rfl; omega)
  have h4 : s[i] ≤ (57 : UInt8) := UInt8.le_iff_toNat_le.2 (by have : (57 : UInt8).toNat = 57 := rfl; omega)
  simp [h3, h4]
theorem dg_lo {s : List UInt8} {i : Nat} (h : i < s.length) (h1 : ¬ (((s[i]'h).toNat : Nat) : Int) ≥ 48) : atP digitB s i = false := by
  rw [atP_in h]
  unfold digitB
  have h3 : ¬ (48 : UInt8) ≤ s[i] := fun h3 => by have := UInt8.le_iff_toNat_le.1 h3; have h9 : (48 : UInt8).toNat = 48 := rfl; omega
  simp [h3]
theorem dg_hi {s : List UInt8} {i : Nat} (h : i < s.length) (h1 : ¬ (((s[i]'h).toNat : Nat) : Int) ≤ 57) : atP digitB s i = false := by
  rw [atP_in h]
  unfold digitB
  have h3 : ¬ s[i] ≤ (57 : UInt8) := fun h3 => by have := UInt8.le_iff_toNat_le.1 h3; have h9 : (57 : UInt8).toNat = 57 := rfl; omega
  simp [h3]
theorem jdigits_ok (s : List UInt8) (w : World) (hs : s.length ≤ 10000) :
    Ret Tryz.prog 107 #[str s] w (fun v w' => v = .int .i64 ((s.takeWhile digitB).length : Nat) ∧ Ext w w') := by
  rw [show (s.takeWhile digitB).length = runTo digitB s 0 by unfold runTo; rw [List.drop_zero, Nat.zero_add]]
  refine enter (S := No) (l := [_]) (L := []) 23 Tryz.func107 rfl rfl rfl (St.start w No) ?_; refine yA ?_; refine aI rfl ?_; refine yC ?_; refine aI rfl ?_; refine yB ?_; refine zq ?_; refine zB ?_; refine c_loop (fun m9 e B L => ∃ (n : Nat), e 0 = str s ∧ e 3 = .int .i64 (n : Nat) ∧ B = [(w, No)] ∧ L = [] ∧ n ≤ s.length ∧ runTo digitB s n = runTo digitB s 0 ∧ m9 = s.length - n) _ ⟨0, rfl, rfl, rfl, rfl, Nat.zero_le _, rfl, rfl⟩ ?_
  rintro m9 e B L ⟨n, e0_1, e3_1, rfl, rfl, hn, hr, rfl⟩
  refine zq ?_; refine yA ?_; refine mI e3_1 ?_; refine zm (v := str _) e0_1 ?_; refine zg (fun _ => R_slen st9 rfl (by omega)) ?_; refine jl rfl rfl ?_; refine mB rfl ?_; refine zd (t := 8) rfl (fun h1 => ?_) (fun h1 => ?_)
  · refine zw rfl rfl (bT h1) ?_; refine zm (v := str _) e0_1 ?_; refine zw rfl rfl (bT h1) ?_; refine mI e3_1 ?_; refine zw rfl rfl (bT h1) ?_; refine w_sidx st9 rfl rfl (by omega) ?_; refine zw rfl rfl (bT h1) ?_; refine jh rfl rfl ?_; refine jT (bT h1) rfl ?_; refine mB rfl ?_; refine zd (t := 14) rfl (fun h2 => ?_) (fun h2 => ?_)
    · refine zw rfl rfl (bT h2) ?_; refine zm (v := str _) e0_1 ?_; refine zw rfl rfl (bT h2) ?_; refine mI e3_1 ?_; refine zw rfl rfl (bT h2) ?_; refine w_sidx st9 rfl rfl (by omega) ?_; refine zw rfl rfl (bT h2) ?_; refine jm rfl rfl ?_; refine jT (bT h2) rfl ?_; refine yB ?_; refine zD rfl (fun h3 => ?_) (fun h3 => ?_)
      · refine zi ?_; refine zk ?_; refine zB ?_; refine zr ?_; refine mI e3_1 ?_; refine zg (fun _ => R_addN (n := n) (b := 1) rfl rfl (by omega)) ?_; refine aI rfl ?_; refine zn ?_; refine zO (?_)
        have hst : atP digitB s n = true := dg_y (by omega) (by assumption) h3
        exact k_again _ (by omega) ⟨n + 1, e0_1, rfl, rfl, rfl, by omega, by rw [← hr, runTo_step hst], rfl⟩
      have hst : atP digitB s n = false := dg_hi (by omega) h3
      refine zX ?_; refine zx (zx (b_here rfl (zk ?_))); refine yA ?_; refine mI e3_1 ?_; refine aI rfl ?_; refine yB ?_; refine ze ?_
      rw [← hr, runTo_stop hst]
      refine zo (v := .int _ _) rfl rfl rfl ?_; exact fun w' hw => ⟨rfl, hw.fr (w, No) zm0⟩
    have hst : atP digitB s n = false := dg_lo (by omega) h2
    refine zs rfl rfl (bF h2) ?_; refine zs rfl rfl (bF h2) ?_; refine zs rfl rfl (bF h2) ?_; refine zs rfl rfl (bF h2) ?_; refine jF (bF h2) rfl ?_; refine yB ?_; refine zG rfl ?_; refine zX ?_; refine zx (zx (b_here rfl (zk ?_))); refine yA ?_; refine mI e3_1 ?_; refine aI rfl ?_; refine yB ?_; refine ze ?_
    rw [← hr, runTo_stop hst]
    refine zo (v := .int _ _) rfl rfl rfl ?_; exact fun w' hw => ⟨rfl, hw.fr (w, No) zm0⟩
  have hst : atP digitB s n = false := atP_out (by omega)
  refine zs rfl rfl (bF h1) ?_; refine zs rfl rfl (bF h1) ?_; refine zs rfl rfl (bF h1) ?_; refine zs rfl rfl (bF h1) ?_; refine jF (bF h1) rfl ?_; refine mB rfl ?_; (iterate 4 refine zs rfl rfl rfl ?_); refine jF rfl rfl ?_; refine yB ?_; refine zG rfl ?_; refine zX ?_; refine zx (zx (b_here rfl (zk ?_))); refine yA ?_; refine mI e3_1 ?_; refine aI rfl ?_; refine yB ?_; refine ze ?_
  rw [← hr, runTo_stop hst]
  refine zo (v := .int _ _) rfl rfl rfl ?_; exact fun w' hw => ⟨rfl, hw.fr (w, No) zm0⟩
end Go.Proofs.YtikdkendinnalaaGreatDoor
end
section
namespace Go.Proofs.YtikdkendinnalaaGreatDoor
open Go.RowKit Go.Sx
open Go.Num Go.Feed Go.Tok Go.Prs Go.Tree
theorem ix_el {s : List UInt8} {i : Nat} (h0 : 0 < (s.drop i).length) : ∃ hi : i < s.length, (s.drop i)[0]'h0 = s[i]'hi := by
 have hi : i < s.length := by rw [List.length_drop] at h0; omega
 exact ⟨hi, by simp⟩
theorem ix_y {s : List UInt8} {i : Nat} {c : UInt8} {n : Nat} (hn : c.toNat = n) (h0 : 0 < (s.drop i).length) (h : ((((s.drop i)[0]'h0).toNat : Nat) : Int) = (n : Int)) : atP (eqB c) s i = true := by
 obtain ⟨hi, he⟩ := ix_el h0
 rw [he] at h
 rw [atP_in hi]
 unfold eqB
 rw [beq_iff_eq]
 exact UInt8.toNat_inj.1 (by omega)
theorem ix_n {s : List UInt8} {i : Nat} {c : UInt8} {n : Nat} (hn : c.toNat = n) (h0 : 0 < (s.drop i).length) (h : ¬ ((((s.drop i)[0]'h0).toNat : Nat) : Int) = (n : Int)) : atP (eqB c) s i = false := by
 obtain ⟨hi, he⟩ := ix_el h0
 rw [he] at h
 rw [atP_in hi]
 unfold eqB
 rw [beq_eq_false_iff_ne]
 intro h9
 rw [h9] at h
 omega
theorem ix_d {s : List UInt8} {i : Nat} {c : UInt8} {n : Nat} (hn : c.toNat = n) (h0 : 0 < (s.drop i).length) : decide (((((s.drop i)[0]'h0).toNat : Nat) : Int) = (n : Int)) = atP (eqB c) s i := by
 by_cases h : ((((s.drop i)[0]'h0).toNat : Nat) : Int) = (n : Int)
 ·rw [decide_eq_true h, ix_y hn h0 h]
 ·rw [decide_eq_false h, ix_n hn h0 h]
theorem k0_ge (s : Str) : i2 s + 1 ≤ k0 s := by unfold k0; split <;> omega
theorem ix_o {s : List UInt8} {i : Nat} {c : UInt8} (h0 : (s.drop i).length = 0) : atP (eqB c) s i = false := atP_out (by rw [List.length_drop] at h0; omega)
theorem tw_run (s : List UInt8) (i : Nat) : ((s.drop i).takeWhile digitB).length = runTo digitB s i - i := by unfold runTo; omega
def pdot (s : Str) : Int := if dotB s = true then -((i2 s - (i1 s + 1) : Nat) : Int) else 0
theorem pdot_b {s : Str} (h : NumT s) : -(s.length : Int) ≤ pdot s ∧ pdot s ≤ 0 := by
 have := h.le
 unfold pdot
 split <;> omega
theorem powr_p (s : Str) : powr s = pdot s + (if exB s = true then iv (mnB s) (expo s) else 0) := rfl
theorem pv_le4 {l : Str} (h : l.all isD = true) (hl : l.length ≤ 4) : pv 0 l ≤ 9999 := by
 have h1 := pv_lt l h
 have : 10 ^ l.length ≤ 10 ^ 4 := Nat.pow_le_pow_right (by decide) hl
 omega
theorem all_tk {l : Str} (h : l.all isD = true) (i : Nat) : (l.take i).all isD = true := List.all_eq_true.2 fun x hx => List.all_eq_true.1 h x (List.mem_of_mem_take hx)
theorem pv_step {l : Str} {i : Nat} {c : UInt8} (hc : l[i]? = some c) : pv 0 (l.take (i + 1)) = 10 * pv 0 (l.take i) + (c.toNat - 48) := by
 rw [List.take_add_one, hc]
 show pv 0 (l.take i ++ [c]) = _
 rw [pv_app, Nat.mul_comm]; rfl
theorem isD_nat {c : UInt8} (h : isD c = true) : 48 ≤ c.toNat ∧ c.toNat ≤ 57 := by
 revert h
 exact byte_all (fun c => isD c = true → 48 ≤ c.toNat ∧ c.toNat ≤ 57) (by decide +kernel) _
theorem jNumeral_ok (s : List UInt8) (w : World) (hs : s.length ≤ 400) (hT : NumT s) :
  Ret Tryz.prog 70 #[str s] w (Tel2 (fun a c a2 c2 => .tuple #[.agg #[.bool (ng (numV s).1), .slice a (sz (numV s).1.natAbs) c, .slice a2 (sz (numV s).2) c2], .int .i64 0]) (sz (numV s).1.natAbs) (numV s).1.natAbs (sz (numV s).2) (numV s).2 w) := by
 have hle := hT.le
 have hdg := hT.dig
 have hpd := pdot_b hT
 have ha1 := hT.a
 have hlni1s : (s.drop (i1 s)).length = s.length - (i1 s) := List.length_drop; have hlni2s : (s.drop (i2 s)).length = s.length - (i2 s) := List.length_drop; have hlnk0s : (s.drop (k0 s)).length = s.length - (k0 s) := List.length_drop
 have hpl := hT.pow_le hs
 have hsN : sz (pv 0 (digs s)) ≤ 400 := Nat.le_trans (sz_ten (pv_lt _ hdg.1)) (by omega)
 have hsM := sz_ten16 (powr s).natAbs
 have hM0 : (10 ^ (powr s).natAbs) ≠ 0 := Nat.pos_iff_ne_zero.1 (Nat.pow_pos (by decide))
 have hsP := mul_szF (pv 0 (digs s)) (10 ^ (powr s).natAbs)
 have hs1 : sz 1 = 1 := rfl
 refine enter (S := No) (l := [_]) (L := []) 138 Tryz.func70 rfl rfl rfl (St.start w No) ?_; refine yA ?_; refine zA zr46 (fun r gr ur => ?_)
 refine aI rfl ?_; refine yB ?_; refine zq ?_; refine yA ?_; refine zm (v := str _) rfl ?_; refine zg (fun _ => R_slen st9 rfl (by omega)) ?_; refine jg rfl rfl ?_; refine yB ?_; refine zD rfl (fun h2 => ?_) (fun h2 => ?_)
 ·omega
 ·refine zi ?_; refine zk ?_; refine yA ?_; refine zm (v := str _) rfl ?_; refine jD (v := .int .i64 ((i1 s : Nat) : Int)) Tryz.func107 (fun w h => by have h9 := jdigits_ok s w (by first | omega | (rw [List.length_drop]; omega)); rw [show (List.takeWhile digitB s).length = i1 s from by have h9 := tw_run s 0; rw [List.drop_zero, Nat.sub_zero] at h9; exact h9] at h9; exact h9) ?_; refine aI rfl ?_; refine yB ?_; refine zq ?_; refine yA ?_; refine mI rfl ?_; refine zg (fun _ => R_eqN (a := (i1 s)) (b := 0) rfl rfl) ?_; refine yB ?_; refine zD rfl (fun h3 => ?_) (fun h3 => ?_)
  ·omega
  ·refine zi ?_; refine zk ?_; refine yA ?_; refine zm (v := str _) rfl ?_; refine mI rfl ?_; refine zg (fun _ => R_ssl_hiN (h := i1 s) st9 rfl rfl (by omega)) ?_; refine za (v := str _) rfl ?_; refine yC ?_; refine zm (v := str _) rfl ?_; refine mI rfl ?_; refine zg (fun _ => Run.to (R_ssl_loN (l := i1 s) st9 rfl rfl (by omega)) (congrArg str (show _ = s.drop (i1 s) from rfl))) ?_; refine za (v := str _) rfl ?_; refine yC ?_; refine aI rfl ?_; refine yB ?_
   refine c_cut (fun e B L => e 2 = pX r ∧ e 5 = str (digs s) ∧ e 0 = str (s.drop (i2 s)) ∧ e 6 = .int .i64 (pdot s) ∧ B = [(w, No)] ∧ L = [(r, cel [.bool false, .slice none 0 0, .slice none 0 0] 46)]) ?_ ?_
   ·refine yA ?_; refine zm (v := str _) rfl ?_; refine zg (fun _ => R_slen st9 rfl (by omega)) ?_; refine jg rfl rfl ?_; refine mB rfl ?_; refine zd (t := 30) rfl (fun h4 => ?_) (fun h4 => ?_)
    ·refine zw rfl rfl (bT h4) ?_; refine zm (v := str _) rfl ?_; refine zw rfl rfl (bT h4) ?_; refine w_sidx (i := 0) st9 rfl rfl (by omega) ?_; refine zw rfl rfl (bT h4) ?_; refine je rfl rfl ?_; refine jT (bT h4) rfl ?_; refine yB ?_; refine zD rfl (fun h5 => ?_) (fun h5 => ?_)
     ·have hdot : dotB s = true := ix_y (c := 46) rfl (by omega) h5; have hb := hT.b hdot; have hi2 := i2_yes hdot
      refine yA ?_; refine zm (v := str _) rfl ?_; refine zg (fun _ => Run.to (R_ssl_loN (l := 1) st9 rfl rfl (by omega)) (congrArg str (show _ = s.drop (i1 s + 1) from List.drop_drop))) ?_; refine jD (v := .int .i64 ((i2 s - (i1 s + 1) : Nat) : Int)) Tryz.func107 (fun w h => by have h9 := jdigits_ok (s.drop (i1 s + 1)) w (by first | omega | (rw [List.length_drop]; omega)); rw [show (List.takeWhile digitB (s.drop (i1 s + 1))).length = i2 s - (i1 s + 1) from by rw [tw_run, i2_yes hdot]] at h9; exact h9) ?_; refine aI rfl ?_; refine yB ?_; refine zq ?_; refine yA ?_; refine mI rfl ?_; refine zg (fun _ => R_eqN (a := (i2 s - (i1 s + 1))) (b := 0) rfl rfl) ?_; refine yB ?_
      refine zD rfl (fun h6 => ?_) (fun h6 => ?_)
      ·omega
      ·refine zi ?_; refine zk ?_; refine yA ?_; refine zm (v := str _) rfl ?_; refine zm (v := str _) rfl ?_; refine mI rfl ?_; refine zg (fun _ => R_addN (n := 1) (b := (i2 s - (i1 s + 1))) rfl rfl (by omega)) ?_; refine zg (fun _ => Run.to (R_sslN (l := 1) (h := 1 + (i2 s - (i1 s + 1))) st9 rfl rfl rfl (by omega) (by omega)) (congrArg str (show _ = cutS s (i1 s + 1) (i2 s) from by unfold cutS; rw [List.drop_drop, Nat.add_sub_cancel_left]))) ?_; refine zg (fun _ => Run.to (R_cat rfl rfl (by rw [cutS_len (by omega), List.length_take]; omega)) (congrArg str (show _ = digs s from by rw [digs_yes hdot, cut_zero]))) ?_; refine za (v := str _) rfl ?_; refine yC ?_; refine mI rfl ?_; refine zg (fun _ => R_neg rfl) ?_
       rw [wrap_i64 (by omega) (by omega)]
       refine aI rfl ?_; refine yB ?_; refine zr ?_; refine zm (v := str _) rfl ?_; refine mI rfl ?_; refine zg (fun _ => R_addN (n := 1) (b := (i2 s - (i1 s + 1))) rfl rfl (by omega)) ?_; refine zg (fun _ => Run.to (R_ssl_loN (l := 1 + (i2 s - (i1 s + 1))) st9 rfl rfl (by omega)) (congrArg str (show _ = s.drop (i2 s) from by rw [List.drop_drop]; congr 1; omega))) ?_; refine za (v := str _) rfl ?_; refine zn ?_; exact k_mid ⟨rfl, rfl, rfl, (congrArg (fun z : Int => Value.int .i64 z) (by unfold pdot; rw [hdot, if_pos rfl])), rfl, rfl⟩
     ·have hdot : dotB s = false := ix_n (c := 46) rfl (by omega) h5; have hi2 := i2_no hdot
      refine zi ?_; exact k_mid ⟨rfl, (congrArg str (by rw [digs_no hdot, cut_zero])), (congrArg str (by rw [hi2])), (congrArg (fun z : Int => Value.int .i64 z) (by unfold pdot; rw [hdot]; rfl)), rfl, rfl⟩
    ·have hdot : dotB s = false := ix_o (by omega); have hi2 := i2_no hdot
     refine zs rfl rfl (bF h4) ?_; refine zs rfl rfl (bF h4) ?_; refine zs rfl rfl (bF h4) ?_; refine jF (bF h4) rfl ?_; refine yB ?_; refine zG rfl ?_; refine zi ?_; exact k_mid ⟨rfl, (congrArg str (by rw [digs_no hdot, cut_zero])), (congrArg str (by rw [hi2])), (congrArg (fun z : Int => Value.int .i64 z) (by unfold pdot; rw [hdot]; rfl)), rfl, rfl⟩
   rintro e B L ⟨e2_1, e5_1, e0_1, e6_1, rfl, rfl⟩
   refine c_cut (fun e B L => e 2 = pX r ∧ e 5 = str (digs s) ∧ e 0 = str [] ∧ e 6 = .int .i64 (powr s) ∧ B = [(w, No)] ∧ L = [(r, cel [.bool false, .slice none 0 0, .slice none 0 0] 46)]) ?_ ?_
   ·refine yA ?_; refine zm (v := str _) e0_1 ?_; refine zg (fun _ => R_slen st9 rfl (by omega)) ?_; refine jg rfl rfl ?_; refine mB rfl ?_; refine zd (t := 56) rfl (fun h7 => ?_) (fun h7 => ?_)
    ·refine zw rfl rfl (bT h7) ?_; refine zm (v := str _) e0_1 ?_; refine zw rfl rfl (bT h7) ?_; refine w_sidx (i := 0) st9 rfl rfl (by omega) ?_; refine zw rfl rfl (bT h7) ?_; refine je rfl rfl ?_; refine jT (bT h7) rfl ?_; refine yB ?_; refine zD rfl (fun h8 => ?_) (fun h8 => ?_)
     ·have hex : exB s = true := ix_y (c := 101) rfl (by omega) h8; have hx := hT.c hex; have hxl := hT.expo_lt hex; have hxe := hT.exp hex; have he2 := atP_lt (show atP (eqB 101) s (i2 s) = true from hex); have hkg := k0_ge s; have hlq : (s.drop (i2 s + 1)).length = s.length - (i2 s + 1) := List.length_drop
      refine yA ?_; refine zm (v := str _) e0_1 ?_; refine zg (fun _ => Run.to (R_ssl_loN (l := 1) st9 rfl rfl (by omega)) (congrArg str (show _ = s.drop (i2 s + 1) from List.drop_drop))) ?_; refine za (v := str _) rfl ?_; refine yC ?_; refine zm (v := str _) rfl ?_; refine zg (fun _ => R_slen st9 rfl (by omega)) ?_; refine jg rfl rfl ?_; refine mB rfl ?_; refine zd (t := 66) rfl (fun h9 => ?_) (fun h9 => ?_)
      ·refine zw rfl rfl (bT h9) ?_; refine zm (v := str _) rfl ?_; refine zw rfl rfl (bT h9) ?_; refine w_sidx (i := 0) st9 rfl rfl (by omega) ?_; refine zw rfl rfl (bT h9) ?_; refine zg (fun _ => Run.to (R_eq rfl rfl) (congrArg Value.bool (show _ = mnB s from ix_d (c := 45) rfl (by omega)))) ?_; refine jT (bT h9) rfl ?_; refine aB rfl ?_; refine yB ?_; refine c_cut (fun e B L => e 2 = pX r ∧ e 5 = str (digs s) ∧ e 0 = str (s.drop (k0 s)) ∧ e 6 = .int .i64 (pdot s) ∧ e 7 = .bool (mnB s) ∧ B = [(w, No)] ∧ L = [(r, cel [.bool false, .slice none 0 0, .slice none 0 0] 46)]) ?_ ?_
       ·refine yA ?_; refine zm (v := str _) rfl ?_; refine zg (fun _ => R_slen st9 rfl (by omega)) ?_; refine jg rfl rfl ?_; refine mB rfl ?_; refine zd (t := 74) rfl (fun h10 => ?_) (fun h10 => ?_)
        ·refine zw rfl rfl (bT h10) ?_; refine zm (v := str _) rfl ?_; refine zw rfl rfl (bT h10) ?_; refine w_sidx (i := 0) st9 rfl rfl (by omega) ?_; refine zw rfl rfl (bT h10) ?_; refine zg (fun _ => Run.to (R_eq rfl rfl) (congrArg Value.bool (show _ = mnB s from ix_d (c := 45) rfl (by omega)))) ?_; refine zw rfl rfl (bT h10) ?_; refine mB rfl ?_; refine zp (t := 78) rfl (fun h11 => ?_) (fun h11 => ?_)
         ·have hk0 := k0_mn h11; have hm9 : mnB s = true := h11
          refine zs rfl rfl (bV h11) ?_; refine zs rfl rfl (bV h11) ?_; refine zs rfl rfl (bV h11) ?_; refine zw rfl rfl (bT h10) ?_; refine jT (bV h11) rfl ?_; refine jT (bT h10) rfl ?_; refine yB ?_; refine zE rfl ?_; refine zr ?_; refine zm (v := str _) rfl ?_; refine zg (fun _ => Run.to (R_ssl_loN (l := 1) st9 rfl rfl (by omega)) (congrArg str (show _ = s.drop (k0 s) from by rw [List.drop_drop, hk0]))) ?_; refine za (v := str _) rfl ?_; refine zn ?_; exact k_mid ⟨e2_1, e5_1, rfl, e6_1, rfl, rfl, rfl⟩
         ·have hm9 : mnB s = false := h11
          refine zw rfl rfl (bV h11) ?_; refine zm (v := str _) rfl ?_; refine zw rfl rfl (bV h11) ?_; refine w_sidx (i := 0) st9 rfl rfl (by omega) ?_; refine zw rfl rfl (bV h11) ?_; refine zg (fun _ => Run.to (R_eq rfl rfl) (congrArg Value.bool (show _ = plB s from ix_d (c := 43) rfl (by omega)))) ?_; refine zw rfl rfl (bT h10) ?_; refine jF (bV h11) rfl ?_; refine jT (bT h10) rfl ?_; refine yB ?_; refine c_cond rfl (fun h12 => ?_) (fun h12 => ?_)
          ·have hk0 := (k0_pl h12).1
           refine zr ?_; refine zm (v := str _) rfl ?_; refine zg (fun _ => Run.to (R_ssl_loN (l := 1) st9 rfl rfl (by omega)) (congrArg str (show _ = s.drop (k0 s) from by rw [List.drop_drop, hk0]))) ?_; refine za (v := str _) rfl ?_; refine zn ?_; exact k_mid ⟨e2_1, e5_1, rfl, e6_1, rfl, rfl, rfl⟩
          ·have hk0 := k0_no h12 hm9
           refine zi ?_; exact k_mid ⟨e2_1, e5_1, (congrArg str (by rw [hk0])), e6_1, rfl, rfl, rfl⟩
        ·omega
       rintro e B L ⟨e2_3, e5_3, e0_3, e6_3, e7_3, rfl, rfl⟩
       refine yA ?_; refine zm (v := str _) e0_3 ?_; refine jD (v := .int .i64 ((k1 s - k0 s : Nat) : Int)) Tryz.func107 (fun w h => by have h9 := jdigits_ok (s.drop (k0 s)) w (by first | omega | (rw [List.length_drop]; omega)); rw [show (List.takeWhile digitB (s.drop (k0 s))).length = k1 s - k0 s from by rw [tw_run]; rfl] at h9; exact h9) ?_; refine aI rfl ?_; refine yB ?_; refine zq ?_; refine yA ?_; refine mI rfl ?_; refine zg (fun _ => R_eqN (a := (k1 s - k0 s)) (b := 0) rfl rfl) ?_; refine mB rfl ?_; refine zd (t := 90) rfl (fun h13 => ?_) (fun h13 => ?_)
       ·omega
       ·refine zw rfl rfl (bF h13) ?_; refine mI rfl ?_; refine zw rfl rfl (bF h13) ?_; refine zg (fun _ => R_gtN (a := (k1 s - k0 s)) (b := 4) rfl rfl) ?_; refine jF (bF h13) rfl ?_; refine yB ?_; refine zD rfl (fun h14 => ?_) (fun h14 => ?_)
        ·omega
        ·refine zi ?_; refine zk ?_; refine yA ?_; refine aI rfl ?_; refine yB ?_; refine zq ?_; refine yA ?_; refine aI rfl ?_; refine yB ?_; refine zB ?_; refine c_loop (fun m9 e B L => ∃ (i : Nat), e 2 = pX r ∧ e 5 = str (digs s) ∧ e 0 = str (s.drop (k0 s)) ∧ e 4 = .int .i64 ((k1 s - k0 s) : Nat) ∧ e 6 = .int .i64 (pdot s) ∧ e 7 = .bool (mnB s) ∧ e 8 = .int .i64 ((pv 0 (((s.drop (k0 s)).take (k1 s - k0 s)).take i)) : Nat) ∧ e 9 = .int .i64 (i : Nat) ∧ B = [(w, No)] ∧ L = [(r, cel [.bool false, .slice none 0 0, .slice none 0 0] 46)] ∧ i ≤ k1 s - k0 s ∧ m9 = k1 s - k0 s - i) _ ⟨0, e2_3, e5_3, e0_3, rfl, e6_3, e7_3, rfl, rfl, rfl, rfl, Nat.zero_le _, rfl⟩ ?_
         rintro m9 e B L ⟨i, e2_4, e5_4, e0_4, e4_4, e6_4, e7_4, e8_4, e9_4, rfl, rfl, hi, rfl⟩
         refine zq ?_; refine yA ?_; refine mI e9_4 ?_; refine mI e4_4 ?_; refine zg (fun _ => R_ltN (a := i) (b := (k1 s - k0 s)) rfl rfl) ?_; refine yB ?_; refine zD rfl (fun h15 => ?_) (fun h15 => ?_)
         ·have hih : i < (s.drop (k0 s)).length := (by omega); obtain ⟨ch, hch⟩ : ∃ c, (s.drop (k0 s))[i]? = some c := ⟨_, List.getElem?_eq_getElem hih⟩; have hct : ((s.drop (k0 s)).take (k1 s - k0 s))[i]? = some ch := (by rw [List.getElem?_take, if_pos (by omega)]; exact hch); have hcd := isD_nat (List.all_eq_true.1 hxe.1 ch (List.mem_of_getElem? hct)); have hpb := pv_le4 (all_tk hxe.1 i) (Nat.le_trans (List.length_take_le' _ _) hxe.2.2); have hpc : cutS s (k0 s) (k1 s) = ((s.drop (k0 s)).take (k1 s - k0 s)) := rfl; rw [hpc] at hpb; have hps := pv_step hct
          refine zi ?_; refine zk ?_; refine zq ?_; refine zB ?_; refine zr ?_; refine mI e8_4 ?_; refine zg (fun _ => R_mulN (n := 10) (b := (pv 0 (((s.drop (k0 s)).take (k1 s - k0 s)).take i))) rfl rfl (by omega)) ?_; refine zm (v := str _) e0_4 ?_; refine mI e9_4 ?_; refine w_sidx (a := s.drop (k0 s)) (i := i) st9 rfl rfl (by omega) ?_
          rw [show (s.drop (k0 s))[i] = ch from (List.getElem?_eq_some_iff.1 hch).2]
          refine zg (fun _ => R_subB (a := ch.toNat) (b := 48) rfl rfl (by omega) (by omega)) ?_; refine zg (fun _ => R_convK (n := (ch.toNat - 48)) un5 un3 rfl (wrap_i (by omega))) ?_; refine zg (fun _ => R_addN (n := (10 * (pv 0 (((s.drop (k0 s)).take (k1 s - k0 s)).take i)))) (b := (ch.toNat - 48)) rfl rfl (by omega)) ?_; refine aI rfl ?_; refine zn ?_; refine zO (zk ?_); refine zr ?_; refine mI e9_4 ?_; refine zg (fun _ => R_addN (n := i) (b := 1) rfl rfl (by omega)) ?_; refine aI rfl ?_; refine zn ?_; exact k_again _ (by omega) ⟨i + 1, e2_4, e5_4, e0_4, e4_4, e6_4, e7_4, (congrArg (fun z : Nat => Value.int .i64 (z : Nat)) hps.symm), rfl, rfl, rfl, by omega, rfl⟩
         ·obtain rfl : i = k1 s - k0 s := (by omega); have hexp : pv 0 (((s.drop (k0 s)).take (k1 s - k0 s)).take (k1 s - k0 s)) = expo s := (by rw [List.take_take, Nat.min_self]; rfl)
          refine zX ?_; refine zx (zx (b_here rfl (zk ?_))); refine zq ?_; refine yA ?_
          cases hmn : mnB s
          ·refine zm (v := .bool false) (e7_4.trans (congrArg Value.bool hmn)) ?_; refine yB ?_; refine zG rfl ?_; refine zi ?_; refine zk ?_; refine yA ?_; refine mI e6_4 ?_; refine mI e8_4 ?_; refine ji rfl rfl (by omega) ?_; refine aI rfl ?_; refine yB ?_; refine zr ?_; refine zm (v := str _) e0_4 ?_; refine mI e4_4 ?_; refine zg (fun _ => Run.to (R_ssl_loN (l := k1 s - k0 s) st9 rfl rfl (by omega)) (congrArg str (show _ = s.drop (k1 s) from by rw [List.drop_drop]; congr 1; omega))) ?_; refine za (v := str _) rfl ?_; refine zn ?_
           exact k_mid ⟨e2_4, e5_4, (congrArg str (by rw [show k1 s = s.length from hx.2.2]; exact List.drop_length)), (congrArg (fun z : Int => Value.int .i64 z) (by rw [powr_p, hex, if_pos rfl, hmn]; simp [iv, hexp])), rfl, rfl⟩
          ·refine zm (v := .bool true) (e7_4.trans (congrArg Value.bool hmn)) ?_; refine yB ?_; refine zE rfl ?_; refine zr ?_; refine mI e8_4 ?_; refine zg (fun _ => R_neg rfl) ?_
           rw [wrap_i64 (by omega) (by omega)]
           refine aI rfl ?_; refine yC ?_; refine mI e6_4 ?_; refine mI rfl ?_; refine ji rfl rfl (by omega) ?_; refine aI rfl ?_; refine yB ?_; refine zr ?_; refine zm (v := str _) e0_4 ?_; refine mI e4_4 ?_; refine zg (fun _ => Run.to (R_ssl_loN (l := k1 s - k0 s) st9 rfl rfl (by omega)) (congrArg str (show _ = s.drop (k1 s) from by rw [List.drop_drop]; congr 1; omega))) ?_; refine za (v := str _) rfl ?_; refine zn ?_; exact k_mid ⟨e2_4, e5_4, (congrArg str (by rw [show k1 s = s.length from hx.2.2]; exact List.drop_length)), (congrArg (fun z : Int => Value.int .i64 z) (by rw [powr_p, hex, if_pos rfl, hmn]; simp [iv, hexp])), rfl, rfl⟩
      ·omega
     ·have hex : exB s = false := ix_n (c := 101) rfl (by omega) h8; have hend := hT.d hex
      refine zi ?_; exact k_mid ⟨e2_1, e5_1, (e0_1.trans (congrArg str (by rw [hend]; exact List.drop_length))), (e6_1.trans (congrArg (fun z : Int => Value.int .i64 z) (by rw [powr_p, hex]; simp))), rfl, rfl⟩
    ·have hex : exB s = false := ix_o (by omega); have hend := hT.d hex
     refine zs rfl rfl (bF h7) ?_; refine zs rfl rfl (bF h7) ?_; refine zs rfl rfl (bF h7) ?_; refine jF (bF h7) rfl ?_; refine yB ?_; refine zG rfl ?_; refine zi ?_; exact k_mid ⟨e2_1, e5_1, (e0_1.trans (congrArg str (by rw [hend]; exact List.drop_length))), (e6_1.trans (congrArg (fun z : Int => Value.int .i64 z) (by rw [powr_p, hex]; simp))), rfl, rfl⟩
   rintro e B L ⟨e2_2, e5_2, e0_2, e6_2, rfl, rfl⟩
   refine zq ?_; refine yA ?_; refine zm (v := str _) e0_2 ?_; refine zg (fun _ => R_sne rfl rfl) ?_; refine yB ?_; refine zD rfl (fun h16 => ?_) (fun h16 => ?_)
   ·exact absurd rfl h16
   ·refine zi ?_; refine zk ?_; refine yA ?_; refine zm (v := str _) e5_2 ?_; refine w_tel (fun w => zR Tryz.func108 rfl rfl rfl) rfl rfl (fun w h => iParseD_ok (digs s) w hdg.1 hdg.2.1 (by omega)) (fun x17 a17 c17 hK17 hN17 => ?_)
    refine zm rfl ?_; refine jx rfl rfl ?_; refine jx rfl rfl ?_; refine zA zr44 (fun b10 gb10 ub10 => ?_)
    refine jv 0 z44 rfl ?_; refine aI rfl ?_; refine yB ?_; refine zq ?_; refine yA ?_; refine mI e6_2 ?_; refine jl rfl rfl ?_; refine yB ?_; refine zD rfl (fun h19 => ?_) (fun h19 => ?_)
    ·have hpw : powr s < 0 := h19
     refine zq ?_; refine c_heldI [0] mixed ?_; refine h_loadA 0 rfl (by kernel_rfl) (pk [0]) z44 rfl (fun _ h => h.at_ 0 rfl) rfl ?_; refine zh (v := .int _ _) 1 rfl (by kernel_rfl) rfl rfl (pk [0]) (fun w h => R_move e6_2) ?_; refine zh2 2 rfl rfl (pk [0]) (fun w h => Run.to (R_neg rfl) (congrArg (fun z : Int => Value.int .i64 z) (show _ = (((powr s).natAbs : Nat) : Int) from by rw [wrap_i64 (by omega) (by omega)]; omega))) ?_; refine zH2 3 (pk [0]) ?_; refine o_tel rfl (wn_none rfl) rfl (fun w => zR Tryz.func109 rfl rfl rfl) (fun w h => jTen_ok w (powr s).natAbs (by omega)) (fun x20 a20 c20 hK20 hN20 => ?_)
     refine zH2 4 (fun w h => (h.unbase (fun x hx => .tail _ (hx))).pick [0] (by decide)) ?_; refine o_tel2 rfl (wn_none rfl) rfl (fun w => zR Tryz.func43 rfl rfl rfl) (fun w h => jMake_ok false w (hK17.at_ 1 rfl h) (hK20.at_ 0 rfl h) ⟨by omega, by omega, hM0⟩) (fun x21 a21 c21 a21' c21' hK21 hN21 hK21' hN21' => ?_)
     refine zH2 5 (fun w h => (h.unbase (fun x hx => .tail _ (.tail _ (hx)))).pick [0] (by decide)) ?_; refine zJ 1 rfl rfl z46 e2_2 rfl rfl rfl rfl rfl rfl ?_; refine zh (v := .int _ _) 6 rfl (by kernel_rfl) rfl rfl (fun w h => (h.unbase (fun x hx => .tail _ (.tail _ (hx)))).pick [0] (by decide)) (fun w h => R_assign rfl) ?_; refine zN2 (fun w h => (h.unbase (fun x hx => .tail _ (.tail _ (hx)))).pick [0] (by decide)) ?_; refine zk ?_; refine ze ?_; refine zt (?_)
     have hv : numV s = (mkR false (pv 0 (digs s)) (10 ^ (powr s).natAbs)) := by unfold numV; rw [if_pos hpw]
     rw [hv]
     refine r_fin (.inl rfl) rfl (.agg rfl e2_2 z46 (fun _ h => h.at_ 1 rfl) rfl (.tmp rfl rfl .nil)) ?_; exact fun w' hw => ⟨_, _, _, _, rfl, (hK21.at_ 0 rfl hw), (hK21'.at_ 0 rfl hw), (hN21 _ zm2), (hN21' _ zm2), hw.fr (w, No) zm3⟩
    ·have hpw : ¬ powr s < 0 := h19
     refine zi ?_; refine zk ?_; refine zq ?_; refine c_heldI [0] mixed ?_; refine h_loadA 0 rfl (by kernel_rfl) (pk [0]) z44 rfl (fun _ h => h.at_ 0 rfl) rfl ?_; refine zh2 1 rfl rfl (pk [0]) (fun w h => Run.to (R_move e6_2) (congrArg (fun z : Int => Value.int .i64 z) (show _ = (((powr s).natAbs : Nat) : Int) from by omega))) ?_; refine zH2 2 (pk [0]) ?_; refine o_tel rfl (wn_none rfl) rfl (fun w => zR Tryz.func109 rfl rfl rfl) (fun w h => jTen_ok w (powr s).natAbs (by omega)) (fun x22 a22 c22 hK22 hN22 => ?_)
     refine zH2 3 (fun w h => (h.unbase (fun x hx => .tail _ (hx))).pick [0] (by decide)) ?_; refine o_tel rfl (wn_none rfl) rfl (fun w => zR Tryz.func110 rfl rfl rfl) (fun w h => iMulN_ok w (hK17.at_ 1 rfl h) (hK22.at_ 0 rfl h) ⟨by omega, by omega⟩) (fun x23 a23 c23 hK23 hN23 => ?_)
     refine zH2 4 (fun w h => (h.unbase (fun x hx => .tail _ (.tail _ (hx)))).pick [0] (by decide)) ?_; refine o_tel rfl (wn_none rfl) rfl (fun w => zR Tryz.func111 rfl rfl rfl) (fun w h => iOfN_ok 1 w (by decide)) (fun x24 a24 c24 hK24 hN24 => ?_)
     refine zH2 5 (fun w h => (h.unbase (fun x hx => .tail _ (.tail _ (.tail _ (hx))))).pick [0] (by decide)) ?_; refine o_tel2 rfl (wn_none rfl) rfl (fun w => zR Tryz.func43 rfl rfl rfl) (fun w h => jMake_ok false w (hK23.at_ 1 rfl h) (hK24.at_ 0 rfl h) ⟨by omega, by omega, by decide⟩) (fun x25 a25 c25 a25' c25' hK25 hN25 hK25' hN25' => ?_)
     refine zH2 6 (fun w h => (h.unbase (fun x hx => .tail _ (.tail _ (.tail _ (.tail _ (hx)))))).pick [0] (by decide)) ?_; refine zJ 1 rfl rfl z46 e2_2 rfl rfl rfl rfl rfl rfl ?_; refine zh (v := .int _ _) 7 rfl (by kernel_rfl) rfl rfl (fun w h => (h.unbase (fun x hx => .tail _ (.tail _ (.tail _ (.tail _ (hx)))))).pick [0] (by decide)) (fun w h => R_assign rfl) ?_; refine zN2 (fun w h => (h.unbase (fun x hx => .tail _ (.tail _ (.tail _ (.tail _ (hx)))))).pick [0] (by decide)) ?_; refine zk ?_; refine ze ?_
     have hv : numV s = (mkR false ((pv 0 (digs s)) * (10 ^ (powr s).natAbs)) 1) := by unfold numV; rw [if_neg hpw]
     rw [hv]
     refine r_fin (.inl rfl) rfl (.agg rfl e2_2 z46 (fun _ h => h.at_ 1 rfl) rfl (.tmp rfl rfl .nil)) ?_; exact fun w' hw => ⟨_, _, _, _, rfl, (hK25.at_ 0 rfl hw), (hK25'.at_ 0 rfl hw), (hN25 _ zm4), (hN25' _ zm4), hw.fr (w, No) (.tail _ zm4)⟩
end Go.Proofs.YtikdkendinnalaaGreatDoor
end
section
namespace Go.Proofs.YtikdkendinnalaaGreatDoor
open Go.RowKit Go.Sx
open Go.Tok Go.Tree Go.Prs Go.Feed Go.Num
def SmB (l : List Di) : Prop := l.length ≤ 12 ∧ ∀ d ∈ l, d.nm.length ≤ 200 ∧ d.nums.length ≤ 20 ∧ ∀ x ∈ d.nums, x.p ≤ 3 ∧ x.q ≤ 3
end Go.Proofs.YtikdkendinnalaaGreatDoor
end
section
namespace Go.Proofs.YtikdkendinnalaaGreatDoor
open Go.RowKit Go.Sx
open Go.Tok Go.Tree Go.Prs Go.Feed Go.Num
def tokM (_ : World) (_ : Nat → Prop) (t : Tk) (cs : List Value) : Prop := cs = tkC t
theorem TL.tok : TL tokM := ⟨fun h _ _ => h, fun h _ => h⟩
abbrev toksV := rowM 3 tokM
theorem tksC_get {T : List Tk} {k : Nat} {t : Tk} (h : T[k]? = some t) : ((tksC T).drop (k * 3)).take 3 = tkC t := by
 refine List.ext_getElem? fun j => ?_
 rcases Nat.lt_or_ge j 3 with hj | hj
 ·rw [List.getElem?_take, if_pos hj, List.getElem?_drop]
  have hl : (tkC t).length = 3 := rfl
  have h1 : (tkC t)[j]? = some ((tkC t)[j]'(by omega)) := List.getElem?_eq_getElem _
  rw [h1]
  exact tks_at T k t h j _ h1
 ·rw [List.getElem?_eq_none (by rw [List.length_take]; omega), List.getElem?_eq_none (by show 3 ≤ j; exact hj)]
theorem rReadK (s : Str) {T : List Tk} (hT : (readP s).1 = T) (w : World) (hs : s.length ≤ 10000000) : Ret Tryz.prog 27 #[str s] w fun v w' => (∃ b : Option Addr × Nat, v = .tuple #[.slice b.1 T.length b.2, .agg #[.int .i64 ((readP s).2.1 : Nat), .int .i64 ((readP s).2.2 : Nat)]] ∧ toksV w' (Nn w w') T b) ∧ Ext w w' := by
 subst hT
 refine Calls.mono (rRead_spec s hs w) fun e w' ⟨v, hv, W, ⟨a, c, h1, hO⟩, hN⟩ => ⟨v, hv, ⟨?_, hN.ext⟩⟩
 obtain ⟨b, hb, hr⟩ := _root_.Go.Sx.own_row hO (fun p hp => (hN.own p hp).2) (N := Nn w w') (fun p hp => ⟨(hN.own p hp).1, lt_of_blk (hN.own p hp).2⟩) (M := tokM) (l := (readP s).1) (fun j t ht => tksC_get ht)
 simp only [Value.slice.injEq] at hb
 refine ⟨b, ?_, hr⟩
 rw [h1, hb.1, hb.2.2]
theorem rat_ok (z : Nat) (k : Nat) (T : List Tk) (ta : Option Addr) (tc : Nat) (w : World) (hT : toksV w (fun _ => True) T (ta, tc)) (hk : k ≤ 30000) :
  Ret Tryz.prog 30 #[.slice ta T.length tc, .int .i64 (k : Nat), .int .i64 (z : Nat)] w (fun v w' => v = .int .i64 (place z (T.drop k) : Nat) ∧ Ext w w') := by
 refine enter (S := No) (l := [_, _, _]) (L := []) 17 Tryz.func30 rfl rfl rfl (St.start w No) ?_; refine yA ?_; refine aI rfl ?_; refine yB ?_; refine zq ?_; refine yA ?_; refine mI rfl ?_; refine mS rfl ?_; refine jj sl55 rfl ?_; refine zg (fun _ => R_ltN (a := k) (b := (T.length)) rfl rfl) ?_; refine yB ?_; refine zD rfl (fun h1 => ?_) (fun h1 => ?_)
 ·have hlt : k < T.length := (by omega); obtain ⟨t9, ht9⟩ : ∃ t, T[k]? = some t := ⟨_, List.getElem?_eq_getElem hlt⟩; obtain ⟨cs9, hA9, he9⟩ := hT.2 k t9 ht9; unfold tokM at he9; subst he9; obtain ⟨q9, o9, rfl, hne9, hc9⟩ := hA9; have hdr : T.drop k = t9 :: T.drop (k + 1) := (by rw [List.drop_eq_getElem_cons hlt, (List.getElem?_eq_some_iff.1 ht9).2])
  refine yA ?_; refine mS rfl ?_; refine mI rfl ?_; refine zg (fun _ => R_iaN (i := k) sl55 rfl rfl (by first | omega | decide | exact Nat.succ_pos _ | exact Nat.succ_lt_succ (Nat.succ_pos _))) ?_; refine zf fa64_2 rfl ?_; refine zl (v := .int .i64 (t9.2.2 : Nat)) z3 rfl (fun w h => cel_old zm0 (hc9 2 _ rfl) (fun x => x) h) ?_; refine aI rfl ?_; refine yB ?_; refine ze ?_; refine zt (?_)
  rw [hdr]
  refine zo (v := .int _ _) rfl rfl rfl ?_; exact fun w' hw => ⟨rfl, hw.fr (w, No) zm0⟩
 ·have hdr : T.drop k = [] := List.drop_eq_nil_of_le (by omega)
  refine zi ?_; refine zk ?_; refine yA ?_; refine mI rfl ?_; refine aI rfl ?_; refine yB ?_; refine ze ?_
  rw [hdr]
  refine zo (v := .int _ _) rfl rfl rfl ?_; exact fun w' hw => ⟨rfl, hw.fr (w, No) zm0⟩
theorem ris_ok (x : Str) (k : Nat) (T : List Tk) (ta : Option Addr) (tc : Nat) (w : World) (hT : toksV w (fun _ => True) T (ta, tc)) (hk : k ≤ 30000) :
  Ret Tryz.prog 29 #[.slice ta T.length tc, .int .i64 (k : Nat), str x] w (fun v w' => v = .bool (isG x (T.drop k)) ∧ Ext w w') := by
 refine enter (S := No) (l := [_, _, _]) (L := []) 28 Tryz.func29 rfl rfl rfl (St.start w No) ?_; refine yA ?_; refine aB rfl ?_; refine yC ?_; refine mI rfl ?_; refine mS rfl ?_; refine jj sl55 rfl ?_; refine zg (fun _ => R_ltN (a := k) (b := (T.length)) rfl rfl) ?_; refine mB rfl ?_; refine zd (t := 11) rfl (fun h1 => ?_) (fun h1 => ?_)
 ·have hlt : k < T.length := (by omega); obtain ⟨t9, ht9⟩ : ∃ t, T[k]? = some t := ⟨_, List.getElem?_eq_getElem hlt⟩; obtain ⟨cs9, hA9, he9⟩ := hT.2 k t9 ht9; unfold tokM at he9; subst he9; obtain ⟨q9, o9, rfl, hne9, hc9⟩ := hA9; have hdr : T.drop k = t9 :: T.drop (k + 1) := (by rw [List.drop_eq_getElem_cons hlt, (List.getElem?_eq_some_iff.1 ht9).2])
  refine zw rfl rfl (bT h1) ?_; refine mS rfl ?_; refine zw rfl rfl (bT h1) ?_; refine mI rfl ?_; refine zw rfl rfl (bT h1) ?_; refine zg (fun _ => R_iaN (i := k) sl55 rfl rfl (by first | omega | decide | exact Nat.succ_pos _ | exact Nat.succ_lt_succ (Nat.succ_pos _))) ?_; refine zw rfl rfl (bT h1) ?_; refine zf fa64_0 rfl ?_; refine zw rfl rfl (bT h1) ?_; refine zl (v := .int .u8 (t9.1 : Nat)) z5 rfl (fun w h => cel_old zm0 (hc9 0 _ rfl) (fun x => x) h) ?_; refine zw rfl rfl (bT h1) ?_; refine zg (fun _ => R_eqN (a := (t9.1)) (b := 3) rfl rfl) ?_; refine jT (bT h1) rfl ?_; refine mB rfl ?_; refine zd (t := 19) rfl (fun h2 => ?_) (fun h2 => ?_)
  ·refine zw rfl rfl (bT h2) ?_; refine mS rfl ?_; refine zw rfl rfl (bT h2) ?_; refine mI rfl ?_; refine zw rfl rfl (bT h2) ?_; refine zg (fun _ => R_iaN (i := k) sl55 rfl rfl (by first | omega | decide | exact Nat.succ_pos _ | exact Nat.succ_lt_succ (Nat.succ_pos _))) ?_; refine zw rfl rfl (bT h2) ?_; refine zf fa64_1 rfl ?_; refine zw rfl rfl (bT h2) ?_; refine zl (v := str t9.2.1) z9 rfl (fun w h => cel_old zm0 (hc9 1 _ rfl) (fun x => x) h) ?_; refine zw rfl rfl (bT h2) ?_; refine zm (v := str _) rfl ?_; refine zw rfl rfl (bT h2) ?_; refine js rfl rfl ?_; refine jT (bT h2) rfl ?_; refine aB rfl ?_; refine yB ?_; refine ze ?_
   rw [hdr]
   refine zo (v := .bool _) rfl rfl rfl ?_; exact fun w' hw => ⟨by show Value.bool _ = Value.bool (decide (t9.1 = 3) && decide (t9.2.1 = x)); rw [decide_eq_true (show t9.1 = 3 by omega), Bool.true_and], hw.fr (w, No) zm0⟩
  ·refine zs rfl rfl (bF h2) ?_; refine zs rfl rfl (bF h2) ?_; refine zs rfl rfl (bF h2) ?_; refine zs rfl rfl (bF h2) ?_; refine zs rfl rfl (bF h2) ?_; refine zs rfl rfl (bF h2) ?_; refine zs rfl rfl (bF h2) ?_; refine jF (bF h2) rfl ?_; refine aB rfl ?_; refine yB ?_; refine ze ?_
   rw [hdr]
   refine zo (v := .bool _) rfl rfl rfl ?_; exact fun w' hw => ⟨by show Value.bool _ = Value.bool (decide (t9.1 = 3) && decide (t9.2.1 = x)); rw [decide_eq_false (show ¬ t9.1 = 3 by omega)]; rfl, hw.fr (w, No) zm0⟩
 ·have hdr : T.drop k = [] := List.drop_eq_nil_of_le (by omega)
  refine zs rfl rfl (bF h1) ?_; refine zs rfl rfl (bF h1) ?_; refine zs rfl rfl (bF h1) ?_; refine zs rfl rfl (bF h1) ?_; refine zs rfl rfl (bF h1) ?_; refine zs rfl rfl (bF h1) ?_; refine jF (bF h1) rfl ?_; refine mB rfl ?_; (iterate 7 refine zs rfl rfl rfl ?_); refine jF rfl rfl ?_; refine aB rfl ?_; refine yB ?_; refine ze ?_
  rw [hdr]
  refine zo (v := .bool _) rfl rfl rfl ?_; exact fun w' hw => ⟨rfl, hw.fr (w, No) zm0⟩
theorem whole_step {s : List UInt8} {i : Nat} {c : UInt8} (hc : s[i]? = some c) : (s.take (i + 1)).any (fun b => b == 46 || b == 101) = ((s.take i).any (fun b => b == 46 || b == 101) || (c == 46 || c == 101)) := by
 rw [List.take_add_one, hc]
 show (s.take i ++ [c]).any _ = _
 rw [List.any_append, List.any_cons, List.any_nil, Bool.or_false]
theorem whole_hit {s : List UInt8} {i : Nat} {c : UInt8} (hc : s[i]? = some c) (h : (c == 46 || c == 101) = true) : wholeT s = false := by
 unfold wholeT
 rw [List.any_eq_true.2 ⟨c, List.mem_of_getElem? hc, h⟩]; rfl
theorem b_eq {c : UInt8} {n : Nat} {x : UInt8} (hx : x.toNat = n) : (c == x) = decide (((c.toNat : Nat) : Int) = (n : Int)) := by
 by_cases h : c = x
 ·subst h; rw [beq_self_eq_true]; exact (decide_eq_true (by omega)).symm
 ·rw [beq_eq_false_iff_ne.2 h]
  exact (decide_eq_false (fun h9 => h (UInt8.toNat_inj.1 (by omega)))).symm
theorem rplain_ok (s : Str) (w : World) (hs : s.length ≤ 1000000) :
  Ret Tryz.prog 32 #[str s] w (fun v w' => v = .bool (wholeT s) ∧ Ext w w') := by
 refine enter (S := No) (l := [_]) (L := []) 20 Tryz.func32 rfl rfl rfl (St.start w No) ?_; refine yA ?_; refine aB rfl ?_; refine yB ?_; refine zq ?_; refine yA ?_; refine aI rfl ?_; refine yB ?_; refine zB ?_; refine c_loop (fun m9 e B L => ∃ (i : Nat), e 0 = str s ∧ e 3 = .int .i64 (i : Nat) ∧ B = [(w, No)] ∧ L = [] ∧ i ≤ s.length ∧ (s.take i).any (fun b => b == 46 || b == 101) = false ∧ m9 = s.length - i) _ ⟨0, rfl, rfl, rfl, rfl, Nat.zero_le _, rfl, rfl⟩ ?_
 rintro m9 e B L ⟨i, e0_1, e3_1, rfl, rfl, hi, hw9, rfl⟩
 refine zq ?_; refine yA ?_; refine mI e3_1 ?_; refine zm (v := str _) e0_1 ?_; refine zg (fun _ => R_slen st9 rfl (by omega)) ?_; refine jl rfl rfl ?_; refine yB ?_; refine zD rfl (fun h1 => ?_) (fun h1 => ?_)
 ·obtain ⟨ch, hch⟩ : ∃ c, s[i]? = some c := ⟨_, List.getElem?_eq_getElem (by omega)⟩; have h46 : (ch == 46) = decide (((ch.toNat : Nat) : Int) = 46) := b_eq (n := 46) rfl; have h101 : (ch == 101) = decide (((ch.toNat : Nat) : Int) = 101) := b_eq (n := 101) rfl
  refine zi ?_; refine zk ?_; refine zq ?_; refine zB ?_; refine yA ?_; refine zm (v := str _) e0_1 ?_; refine mI e3_1 ?_; refine w_sidx (a := s) (i := i) st9 rfl rfl (by omega) ?_
  rw [show s[i] = ch from (List.getElem?_eq_some_iff.1 hch).2]
  refine je rfl rfl ?_; refine mB rfl ?_; refine zd (t := 14) rfl (fun h2 => ?_) (fun h2 => ?_)
  ·have hh := whole_hit hch (by rw [h46, decide_eq_true h2]; rfl)
   refine zs rfl rfl (bT h2) ?_; refine zs rfl rfl (bT h2) ?_; refine zs rfl rfl (bT h2) ?_; refine zs rfl rfl (bT h2) ?_; refine jT (bT h2) rfl ?_; refine yB ?_; refine zE rfl ?_; refine yA ?_; refine aB rfl ?_; refine yB ?_; refine ze ?_; refine zb (zt (zt (zb (zt (?_)))))
   rw [hh]
   refine zo (v := .bool _) rfl rfl rfl ?_; exact fun w' hw => ⟨rfl, hw.fr (w, No) zm0⟩
  ·refine zw rfl rfl (bF h2) ?_; refine zm (v := str _) e0_1 ?_; refine zw rfl rfl (bF h2) ?_; refine mI e3_1 ?_; refine zw rfl rfl (bF h2) ?_; refine w_sidx (a := s) (i := i) st9 rfl rfl (by omega) ?_
   rw [show s[i] = ch from (List.getElem?_eq_some_iff.1 hch).2]
   refine zw rfl rfl (bF h2) ?_; refine je rfl rfl ?_; refine jF (bF h2) rfl ?_; refine yB ?_; refine zD rfl (fun h3 => ?_) (fun h3 => ?_)
   ·have hh := whole_hit hch (by rw [h101, decide_eq_true h3, Bool.or_true])
    refine yA ?_; refine aB rfl ?_; refine yB ?_; refine ze ?_; refine zb (zt (zt (zb (zt (?_)))))
    rw [hh]
    refine zo (v := .bool _) rfl rfl rfl ?_; exact fun w' hw => ⟨rfl, hw.fr (w, No) zm0⟩
   ·refine zi ?_; refine zO (zk ?_); refine zr ?_; refine mI e3_1 ?_; refine zg (fun _ => R_addN (n := i) (b := 1) rfl rfl (by omega)) ?_; refine aI rfl ?_; refine zn ?_; exact k_again _ (by omega) ⟨i + 1, e0_1, rfl, rfl, rfl, by omega, by rw [whole_step hch, hw9, h46, h101, decide_eq_false (by assumption), decide_eq_false h3]; rfl, rfl⟩
 ·refine zX ?_; refine zx (zx (b_here rfl (zk ?_))); refine yA ?_; refine aB rfl ?_; refine yB ?_; refine ze ?_
  have hh : wholeT s = true := by unfold wholeT; rw [← List.take_length (l := s), show s.length = i by omega, hw9]; rfl
  rw [hh]
  refine zo (v := .bool _) rfl rfl rfl ?_; exact fun w' hw => ⟨rfl, hw.fr (w, No) zm0⟩
end Go.Proofs.YtikdkendinnalaaGreatDoor
end
section
namespace Go.Proofs.YtikdkendinnalaaGreatDoor
open Go.RowKit Go.Sx
open Go.Tok Go.Tree Go.Prs Go.Feed Go.Num
theorem jNumeral_no (s : List UInt8) (w : World) (hs : 400 < s.length ∧ s.length ≤ 1000000) :
    Ret Tryz.prog 70 #[str s] w (fun v w' => v = .tuple #[.agg #[.bool false, .slice none 0 0, .slice none 0 0], .int .i64 3] ∧ Ext w w') := by
  refine enter (S := No) (l := [_]) (L := []) 138 Tryz.func70 rfl rfl rfl (St.start w No) ?_; refine yA ?_; refine zA zr46 (fun r gr ur => ?_)
  refine aI rfl ?_; refine yB ?_; refine zq ?_; refine yA ?_; refine zm (v := str _) rfl ?_; refine zg (fun _ => R_slen st9 rfl (by omega)) ?_; refine jg rfl rfl ?_; refine yB ?_; refine zD rfl (fun h2 => ?_) (fun h2 => ?_)
  · refine yA ?_; refine jb bt46 rfl ?_; refine jv 0 z46 rfl ?_; refine aI rfl ?_; refine yB ?_; refine ze ?_; refine zt (?_)
    refine r_fin (.inl rfl) rfl (.agg rfl rfl z46 (fun _ h => h.at_ 0 rfl) rfl (.tmp rfl rfl .nil)) ?_; exact fun w' hw => ⟨rfl, hw.fr (w, No) zm0⟩
  omega
abbrev FN (x : Rt) (k : Nat) (a : Option Addr) (c : Nat) (a2 : Option Addr) (c2 : Nat) : Value := .tuple #[.agg #[.bool (ng x.1), .slice a (sz x.1.natAbs) c, .slice a2 (sz x.2) c2], .int .i64 (k : Nat), .int .i64 0]
def RNum (z k : Nat) (T : List Tk) (X : Except Fl ((Rt × Bool) × List Tk)) (w : World) : Value → World → Prop := fun v w' =>
  match X with
  | .ok (a, r) => ∃ (k' : Nat) (t : Tk), r = T.drop k' ∧ k < k' ∧ k' ≤ T.length ∧ T[k' - 1]? = some t ∧ wholeT t.2.1 = a.2 ∧ Tel2 (FN a.1 k') (sz a.1.1.natAbs) a.1.1.natAbs (sz a.1.2) a.1.2 w v w'
  | .error fl => ∃ k' : Nat, k' ≤ T.length ∧ fl.2 = place z (T.drop k') ∧ fl.1 ≠ 0 ∧ v = .tuple #[.agg #[.bool false, .slice none 0 0, .slice none 0 0], .int .i64 (k' : Nat), .int .i64 (fl.1 : Nat)] ∧ Ext w w'
theorem rnumber_ok (z : Nat) (k : Nat) (T : List Tk) (ta : Option Addr) (tc : Nat) (w : World) (hT : toksV w (fun _ => True) T (ta, tc)) (hk : k ≤ 30000) (hkl : k ≤ T.length) (hN : ∀ t ∈ T, (t.1 = 2 → NumT t.2.1) ∧ t.2.1.length ≤ 20000) :
    Ret Tryz.prog 31 #[.slice ta T.length tc, .int .i64 (k : Nat)] w (RNum z k T (fNum z (T.drop k)) w) := by
  refine enter (S := No) (l := [_, _]) (L := []) 49 Tryz.func31 rfl rfl rfl (St.start w No) ?_; refine yA ?_; refine zA zr46 (fun r gr ur => ?_)
  refine aI rfl ?_; refine aI rfl ?_; refine yC ?_; refine mS rfl ?_; refine mI rfl ?_
  cases hg : isG [45] (T.drop k)
  · refine jD Tryz.func29 (fun w h => by have h9 := ris_ok [45] k T ta tc w ((TL.row TL.tok).fr hT (h.fr _ zm0) (fun _ _ hx => hx)) (by omega); rw [hg] at h9; exact h9) ?_; refine aB rfl ?_; refine yB ?_; refine zq ?_; refine yA ?_; refine mB rfl ?_; refine yB ?_; refine zG rfl ?_; refine zi ?_; refine zk ?_; refine zq ?_; refine yA ?_; refine mI rfl ?_; refine mS rfl ?_; refine jj sl55 rfl ?_; refine zg (fun _ => R_geN (a := k) (b := (T.length)) rfl rfl) ?_; refine mB rfl ?_; refine zd (t := 20) rfl (fun h2 => ?_) (fun h2 => ?_)
    · have hdr : T.drop (k) = [] := List.drop_eq_nil_of_le (by omega)
      refine zs rfl rfl (bT h2) ?_; refine zs rfl rfl (bT h2) ?_; refine zs rfl rfl (bT h2) ?_; refine zs rfl rfl (bT h2) ?_; refine zs rfl rfl (bT h2) ?_; refine zs rfl rfl (bT h2) ?_; refine jT (bT h2) rfl ?_; refine yB ?_; refine zE rfl ?_; refine yA ?_; refine jb bt46 rfl ?_; refine mI rfl ?_; refine jv 0 z46 rfl ?_; refine aI rfl ?_; refine aI rfl ?_; refine yB ?_; refine ze ?_; refine zt (?_)
      have hX : fNum z (T.drop k) = .error (130, place z (T.drop (k))) := (fNum_n hg).trans (fTok_kind (show ¬ (nowT z (T.drop (k))).1 = 2 from by rw [hdr]; exact (show ¬ (0 : Nat) = 2 from by decide)))
      rw [hX]
      refine r_fin (.inl rfl) rfl (.agg rfl rfl z46 (fun _ h => h.at_ 0 rfl) rfl (.tmp rfl rfl (.tmp rfl rfl .nil))) ?_; exact fun w' hw => ⟨k, by omega, rfl, (show (130 : Nat) ≠ 0 from by decide), rfl, hw.fr (w, No) zm0⟩
    have hlt : k < T.length := (by omega); obtain ⟨t9, ht9⟩ : ∃ t, T[k]? = some t := ⟨_, List.getElem?_eq_getElem hlt⟩; obtain ⟨cs9, hA9, he9⟩ := hT.2 (k) t9 ht9; unfold tokM at he9; subst he9; obtain ⟨q9, o9, rfl, hne9, hc9⟩ := hA9; have hdr : T.drop (k) = t9 :: T.drop (k + 1) := (by rw [List.drop_eq_getElem_cons hlt, (List.getElem?_eq_some_iff.1 ht9).2]); have hm9 := List.mem_of_getElem? ht9
    refine zw rfl rfl (bF h2) ?_; refine mS rfl ?_; refine zw rfl rfl (bF h2) ?_; refine mI rfl ?_; refine zw rfl rfl (bF h2) ?_; refine zg (fun _ => R_iaN (i := k) sl55 rfl rfl (by first | omega | decide | exact Nat.succ_pos _ | exact Nat.succ_lt_succ (Nat.succ_pos _))) ?_; refine zw rfl rfl (bF h2) ?_; refine zf fa64_0 rfl ?_; refine zw rfl rfl (bF h2) ?_; refine zl (v := .int .u8 (t9.1 : Nat)) z5 rfl (fun w h => cel_old zm0 (hc9 0 _ rfl) (fun x => x) h) ?_; refine zw rfl rfl (bF h2) ?_; refine zg (fun _ => R_neN (a := (t9.1)) (b := 2) rfl rfl) ?_; refine jF (bF h2) rfl ?_; refine yB ?_; refine zD rfl (fun h3 => ?_) (fun h3 => ?_)
    · have hk2 : ¬ t9.1 = 2 := (by omega)
      refine yA ?_; refine jb bt46 rfl ?_; refine mI rfl ?_; refine jv 0 z46 rfl ?_; refine aI rfl ?_; refine aI rfl ?_; refine yB ?_; refine ze ?_; refine zt (?_)
      have hX : fNum z (T.drop k) = .error (130, place z (T.drop (k))) := (fNum_n hg).trans (fTok_kind (show ¬ (nowT z (T.drop (k))).1 = 2 from by rw [hdr]; exact hk2))
      rw [hX]
      refine r_fin (.inl rfl) rfl (.agg rfl rfl z46 (fun _ h => h.at_ 0 rfl) rfl (.tmp rfl rfl (.tmp rfl rfl .nil))) ?_; exact fun w' hw => ⟨k, by omega, rfl, (show (130 : Nat) ≠ 0 from by decide), rfl, hw.fr (w, No) zm0⟩
    have hk2 : t9.1 = 2 := (by omega)
    refine zi ?_; refine zk ?_; refine yA ?_; refine mS rfl ?_; refine mI rfl ?_; refine zg (fun _ => R_iaN (i := k) sl55 rfl rfl (by first | omega | decide | exact Nat.succ_pos _ | exact Nat.succ_lt_succ (Nat.succ_pos _))) ?_; refine zf fa64_1 rfl ?_; refine zl (v := str t9.2.1) z9 rfl (fun w h => cel_old zm0 (hc9 1 _ rfl) (fun x => x) h) ?_
    rcases Nat.lt_or_ge 400 t9.2.1.length with hlong | hlong
    · refine jD Tryz.func70 (fun w h => jNumeral_no _ w ⟨hlong, by have := (hN t9 hm9).2; omega⟩) ?_; refine zm rfl ?_; refine jx rfl rfl ?_; refine jx rfl rfl ?_; refine zA zr46 (fun b4 gb4 ub4 => ?_)
      refine jv 0 z46 rfl ?_; refine aI rfl ?_; refine yB ?_; refine zq ?_; refine yA ?_; refine mI rfl ?_; refine jn rfl rfl ?_; refine yB ?_; refine zE bD ?_; refine yA ?_; refine jb bt46 rfl ?_; refine mI rfl ?_; refine jv 1 z46 rfl ?_; refine aI rfl ?_; refine aI rfl ?_; refine yB ?_; refine ze ?_; refine zt (?_)
      have hX : fNum z (T.drop k) = .error (3, place z (T.drop (k))) := (fNum_n hg).trans (fTok_long (show (nowT z (T.drop (k))).1 = 2 from by rw [hdr]; exact hk2) (show 400 < (nowT z (T.drop (k))).2.1.length from by rw [hdr]; exact hlong))
      rw [hX]
      refine r_fin (.inl rfl) rfl (.agg rfl rfl z46 (fun _ h => h.at_ 1 rfl) rfl (.tmp rfl rfl (.tmp rfl rfl .nil))) ?_; exact fun w' hw => ⟨k, by omega, rfl, (show (3 : Nat) ≠ 0 from by decide), rfl, hw.fr (w, No) zm0⟩
    refine w_tel2 (fun w => zR Tryz.func70 rfl rfl rfl) rfl rfl (fun w h => jNumeral_ok _ w hlong ((hN t9 hm9).1 hk2)) (fun x5 a5 c5 a5' c5' hK5 hN5 hK5' hN5' => ?_)
    have hvp := numV_pos t9.2.1; have hvs := numV_sz ((hN t9 hm9).1 hk2) hlong
    refine zm rfl ?_; refine jx rfl rfl ?_; refine jx rfl rfl ?_; refine zA zr46 (fun b6 gb6 ub6 => ?_)
    refine jv 0 z46 rfl ?_; refine aI rfl ?_; refine yB ?_; refine zq ?_; refine yA ?_; refine mI rfl ?_; refine jn rfl rfl ?_; refine yB ?_; refine zG bE ?_; refine zi ?_; refine zk ?_; refine zq ?_; refine yA ?_; refine mB rfl ?_; refine yB ?_; refine zG rfl ?_; refine zi ?_; refine zk ?_; refine yA ?_; refine jy 0 z46 rfl rfl ?_; refine mI rfl ?_; refine zg (fun _ => R_addN (n := k) (b := 1) rfl rfl (by omega)) ?_; refine jv 1 z46 rfl ?_; refine aI rfl ?_
    refine aI rfl ?_; refine yB ?_; refine ze ?_
    have hX : fNum z (T.drop k) = .ok (((numV t9.2.1), wholeT t9.2.1), T.drop (k + 1)) := (fNum_n hg).trans ((fTok_ok (show (nowT z (T.drop (k))).1 = 2 from by rw [hdr]; exact hk2) (show ¬ 400 < (nowT z (T.drop (k))).2.1.length from by rw [hdr]; exact Nat.not_lt.2 hlong)).trans (by rw [hdr]; rfl))
    rw [hX]
    refine r_fin (.inl rfl) rfl (.agg rfl rfl z46 (fun _ h => h.at_ 1 rfl) rfl (.tmp rfl rfl (.tmp rfl rfl .nil))) ?_; exact fun w' hw => ⟨k + 1, t9, rfl, by omega, by omega, ht9, rfl, _, _, _, _, rfl, (hK5.at_ 0 rfl hw), (hK5'.at_ 0 rfl hw), (hN5 _ zm0), (hN5' _ zm0), hw.fr (w, No) zm1⟩
  refine jD Tryz.func29 (fun w h => by have h9 := ris_ok [45] k T ta tc w ((TL.row TL.tok).fr hT (h.fr _ zm0) (fun _ _ hx => hx)) (by omega); rw [hg] at h9; exact h9) ?_
  have hgl := isG_lt hg
  refine aB rfl ?_; refine yB ?_; refine zq ?_; refine yA ?_; refine mB rfl ?_; refine yB ?_; refine zE rfl ?_; refine zr ?_; refine mI rfl ?_; refine zg (fun _ => R_addN (n := k) (b := 1) rfl rfl (by omega)) ?_; refine aI rfl ?_; refine yB ?_; refine zq ?_; refine yA ?_; refine mI rfl ?_; refine mS rfl ?_; refine jj sl55 rfl ?_; refine zg (fun _ => R_geN (a := (k + 1)) (b := (T.length)) rfl rfl) ?_; refine mB rfl ?_; refine zd (t := 20) rfl (fun h7 => ?_) (fun h7 => ?_)
  · have hdr : T.drop (k + 1) = [] := List.drop_eq_nil_of_le (by omega)
    refine zs rfl rfl (bT h7) ?_; refine zs rfl rfl (bT h7) ?_; refine zs rfl rfl (bT h7) ?_; refine zs rfl rfl (bT h7) ?_; refine zs rfl rfl (bT h7) ?_; refine zs rfl rfl (bT h7) ?_; refine jT (bT h7) rfl ?_; refine yB ?_; refine zE rfl ?_; refine yA ?_; refine jb bt46 rfl ?_; refine mI rfl ?_; refine jv 0 z46 rfl ?_; refine aI rfl ?_; refine aI rfl ?_; refine yB ?_; refine ze ?_; refine zt (?_)
    have hX : fNum z (T.drop k) = .error (130, place z (T.drop (k + 1))) := (fNum_y hg).trans (by rw [drop_tl]; exact fTok_kind (show ¬ (nowT z (T.drop (k + 1))).1 = 2 from by rw [hdr]; exact (show ¬ (0 : Nat) = 2 from by decide)))
    rw [hX]
    refine r_fin (.inl rfl) rfl (.agg rfl rfl z46 (fun _ h => h.at_ 0 rfl) rfl (.tmp rfl rfl (.tmp rfl rfl .nil))) ?_; exact fun w' hw => ⟨k + 1, by omega, rfl, (show (130 : Nat) ≠ 0 from by decide), rfl, hw.fr (w, No) zm0⟩
  have hlt : k + 1 < T.length := (by omega); obtain ⟨t9, ht9⟩ : ∃ t, T[k + 1]? = some t := ⟨_, List.getElem?_eq_getElem hlt⟩; obtain ⟨cs9, hA9, he9⟩ := hT.2 (k + 1) t9 ht9; unfold tokM at he9; subst he9; obtain ⟨q9, o9, rfl, hne9, hc9⟩ := hA9; have hdr : T.drop (k + 1) = t9 :: T.drop (k + 1 + 1) := (by rw [List.drop_eq_getElem_cons hlt, (List.getElem?_eq_some_iff.1 ht9).2]); have hm9 := List.mem_of_getElem? ht9
  refine zw rfl rfl (bF h7) ?_; refine mS rfl ?_; refine zw rfl rfl (bF h7) ?_; refine mI rfl ?_; refine zw rfl rfl (bF h7) ?_; refine zg (fun _ => R_iaN (i := (k + 1)) sl55 rfl rfl (by first | omega | decide | exact Nat.succ_pos _ | exact Nat.succ_lt_succ (Nat.succ_pos _))) ?_; refine zw rfl rfl (bF h7) ?_; refine zf fa64_0 rfl ?_; refine zw rfl rfl (bF h7) ?_; refine zl (v := .int .u8 (t9.1 : Nat)) z5 rfl (fun w h => cel_old zm0 (hc9 0 _ rfl) (fun x => x) h) ?_; refine zw rfl rfl (bF h7) ?_; refine zg (fun _ => R_neN (a := (t9.1)) (b := 2) rfl rfl) ?_; refine jF (bF h7) rfl ?_; refine yB ?_; refine zD rfl (fun h8 => ?_) (fun h8 => ?_)
  · have hk2 : ¬ t9.1 = 2 := (by omega)
    refine yA ?_; refine jb bt46 rfl ?_; refine mI rfl ?_; refine jv 0 z46 rfl ?_; refine aI rfl ?_; refine aI rfl ?_; refine yB ?_; refine ze ?_; refine zt (?_)
    have hX : fNum z (T.drop k) = .error (130, place z (T.drop (k + 1))) := (fNum_y hg).trans (by rw [drop_tl]; exact fTok_kind (show ¬ (nowT z (T.drop (k + 1))).1 = 2 from by rw [hdr]; exact hk2))
    rw [hX]
    refine r_fin (.inl rfl) rfl (.agg rfl rfl z46 (fun _ h => h.at_ 0 rfl) rfl (.tmp rfl rfl (.tmp rfl rfl .nil))) ?_; exact fun w' hw => ⟨k + 1, by omega, rfl, (show (130 : Nat) ≠ 0 from by decide), rfl, hw.fr (w, No) zm0⟩
  have hk2 : t9.1 = 2 := (by omega)
  refine zi ?_; refine zk ?_; refine yA ?_; refine mS rfl ?_; refine mI rfl ?_; refine zg (fun _ => R_iaN (i := (k + 1)) sl55 rfl rfl (by first | omega | decide | exact Nat.succ_pos _ | exact Nat.succ_lt_succ (Nat.succ_pos _))) ?_; refine zf fa64_1 rfl ?_; refine zl (v := str t9.2.1) z9 rfl (fun w h => cel_old zm0 (hc9 1 _ rfl) (fun x => x) h) ?_
  rcases Nat.lt_or_ge 400 t9.2.1.length with hlong | hlong
  · refine jD Tryz.func70 (fun w h => jNumeral_no _ w ⟨hlong, by have := (hN t9 hm9).2; omega⟩) ?_; refine zm rfl ?_; refine jx rfl rfl ?_; refine jx rfl rfl ?_; refine zA zr46 (fun b9 gb9 ub9 => ?_)
    refine jv 0 z46 rfl ?_; refine aI rfl ?_; refine yB ?_; refine zq ?_; refine yA ?_; refine mI rfl ?_; refine jn rfl rfl ?_; refine yB ?_; refine zE bD ?_; refine yA ?_; refine jb bt46 rfl ?_; refine mI rfl ?_; refine jv 1 z46 rfl ?_; refine aI rfl ?_; refine aI rfl ?_; refine yB ?_; refine ze ?_; refine zt (?_)
    have hX : fNum z (T.drop k) = .error (3, place z (T.drop (k + 1))) := (fNum_y hg).trans (by rw [drop_tl]; exact fTok_long (show (nowT z (T.drop (k + 1))).1 = 2 from by rw [hdr]; exact hk2) (show 400 < (nowT z (T.drop (k + 1))).2.1.length from by rw [hdr]; exact hlong))
    rw [hX]
    refine r_fin (.inl rfl) rfl (.agg rfl rfl z46 (fun _ h => h.at_ 1 rfl) rfl (.tmp rfl rfl (.tmp rfl rfl .nil))) ?_; exact fun w' hw => ⟨k + 1, by omega, rfl, (show (3 : Nat) ≠ 0 from by decide), rfl, hw.fr (w, No) zm0⟩
  refine w_tel2 (fun w => zR Tryz.func70 rfl rfl rfl) rfl rfl (fun w h => jNumeral_ok _ w hlong ((hN t9 hm9).1 hk2)) (fun x10 a10 c10 a10' c10' hK10 hN10 hK10' hN10' => ?_)
  have hvp := numV_pos t9.2.1; have hvs := numV_sz ((hN t9 hm9).1 hk2) hlong
  refine zm rfl ?_; refine jx rfl rfl ?_; refine jx rfl rfl ?_; refine zA zr46 (fun b11 gb11 ub11 => ?_)
  refine jv 0 z46 rfl ?_; refine aI rfl ?_; refine yB ?_; refine zq ?_; refine yA ?_; refine mI rfl ?_; refine jn rfl rfl ?_; refine yB ?_; refine zG bE ?_; refine zi ?_; refine zk ?_; refine zq ?_; refine yA ?_; refine mB rfl ?_; refine yB ?_; refine zE rfl ?_; refine zr ?_; refine jy 0 z46 rfl rfl ?_; refine w_tel2 (fun w => zR Tryz.func16 rfl rfl rfl) rfl rfl (fun w h => jNeg6_ok (ng (numV t9.2.1).1) w (hK10.at_ 0 rfl h) (hK10'.at_ 0 rfl h) ⟨by omega, by omega, hvp⟩) (fun x12 a12 c12 a12' c12' hK12 hN12 hK12' hN12' => ?_)
  refine jv 0 z46 rfl ?_; refine yC ?_; refine jy 0 z46 rfl rfl ?_; refine mI rfl ?_; refine zg (fun _ => R_addN (n := (k + 1)) (b := 1) rfl rfl (by omega)) ?_; refine jv 1 z46 rfl ?_; refine aI rfl ?_; refine aI rfl ?_; refine yB ?_; refine ze ?_
  have hX : fNum z (T.drop k) = .ok (((ngR (numV t9.2.1)), wholeT t9.2.1), T.drop (k + 1 + 1)) := (fNum_y hg).trans (by rw [drop_tl]; exact (fTok_ok (show (nowT z (T.drop (k + 1))).1 = 2 from by rw [hdr]; exact hk2) (show ¬ 400 < (nowT z (T.drop (k + 1))).2.1.length from by rw [hdr]; exact Nat.not_lt.2 hlong)).trans (by rw [hdr]; rfl))
  rw [hX]
  refine r_fin (.inl rfl) rfl (.agg rfl rfl z46 (fun _ h => h.at_ 1 rfl) rfl (.tmp rfl rfl (.tmp rfl rfl .nil))) ?_; exact fun w' hw => ⟨k + 1 + 1, t9, rfl, by omega, by omega, ht9, rfl, _, _, _, _, rfl, (hK12.at_ 0 rfl hw), (hK12'.at_ 0 rfl hw), (hN12 _ zm1), (hN12' _ zm1), hw.fr (w, No) zm2⟩
end Go.Proofs.YtikdkendinnalaaGreatDoor
end
