/- Layer 5, DyadRounds: at every two small dyadic numbers and every way, the law of rounding, quotients, scales and grids answers true. Part 10 of 10. -/
import Derived.Test.YtoapegnngbhkbaaGreatDoorR09
import Derived.HandedShaped
import Derived.Handed
import Derived.ChangeArms
import Derived.OpenShut
import Derived.ChangeSlices
import Derived.Carry
import Derived.Test.YtoapegnngbhkbaaGreatDoorRows
import Derived.Deep.DeepHandedRow
import Derived.ProofKit
import Derived.LaidMore
import Derived.Stop.Joined
import Derived.Stop.LaidErr
import Derived.Shelf.Vars
import Derived.Test.YtoapegnngbhkbaaGreatDoorTie
import Derived.Test.YtoapegnngbhkbaaGreatDoorCards
import Derived.SevenTiedAt
section
namespace Go.Proofs.YtoapegnngbhkbaaGreatDoor
open Go.RowKit Go.Sx
open Go.Num
theorem dvv_dr {x z : Int × Int} {p : Nat} {up : Bool} (hz : z.1 ≠ 0) (hp : 0 < p) : dvv x z (p : Int) up = dr x z p up := by
 unfold dvv dr
 by_cases h : x.1 = 0
 ·rw [if_pos (.inr (.inr h)), if_pos h]
 ·rw [if_neg (by rintro (h1 | h1 | h1); (exact hz h1); (omega); (exact h h1)), if_neg h, Int.toNat_natCast]
theorem jRoundP_ok (s : Bool) (E P : Int) (u9 : Bool) {a : Option Addr} {k c n : Nat} (w : World) (hA : Nm w a k c n) (hs : k ≤ 100 ∧ sz n ≤ 10 ∧ (-1000 ≤ E ∧ E ≤ 1000) ∧ 1 ≤ P ∧ P ≤ 1000) : Ret Tryz.prog 20 #[.agg #[.bool s, .slice a k c, .int .i64 E], .int .i64 P, .bool u9] w (Tel (fun a c => .agg #[.bool (ng ((dvv (nd (iv s n) E) (nd 1 0) P u9)).1), .slice a (sz ((dvv (nd (iv s n) E) (nd 1 0) P u9)).1.natAbs) c, .int .i64 ((dvv (nd (iv s n) E) (nd 1 0) P u9)).2]) (sz ((dvv (nd (iv s n) E) (nd 1 0) P u9)).1.natAbs) ((dvv (nd (iv s n) E) (nd 1 0) P u9)).1.natAbs w) := by
 obtain ⟨p, rfl⟩ : ∃ p : Nat, P = (p : Int) := ⟨P.toNat, by omega⟩
 rw [dvv_dr (by rw [nd_one]; decide) (by omega)]
 exact jRound_ok s E p u9 w hA ⟨hs.1, hs.2.1, hs.2.2.1, by omega, by omega⟩
theorem jDivP_ok (s t : Bool) (E F P : Int) (u9 : Bool) {a : Option Addr} {k c n : Nat} {a2 : Option Addr} {k2 c2 m : Nat} (w : World) (hA : Nm w a k c n) (hA2 : Nm w a2 k2 c2 m) (hs : k ≤ 100 ∧ k2 ≤ 100 ∧ sz n ≤ 10 ∧ sz m ≤ 10 ∧ m ≠ 0 ∧ (-1000 ≤ E ∧ E ≤ 1000) ∧ (-1000 ≤ F ∧ F ≤ 1000) ∧ 1 ≤ P ∧ P ≤ 1000) : Ret Tryz.prog 22 #[.agg #[.bool s, .slice a k c, .int .i64 E], .agg #[.bool t, .slice a2 k2 c2, .int .i64 F], .int .i64 P, .bool u9] w (Tel (fun a c => .agg #[.bool (ng ((dvv (nd (iv s n) E) (nd (iv t m) F) P u9)).1), .slice a (sz ((dvv (nd (iv s n) E) (nd (iv t m) F) P u9)).1.natAbs) c, .int .i64 ((dvv (nd (iv s n) E) (nd (iv t m) F) P u9)).2]) (sz ((dvv (nd (iv s n) E) (nd (iv t m) F) P u9)).1.natAbs) ((dvv (nd (iv s n) E) (nd (iv t m) F) P u9)).1.natAbs w) := by
 obtain ⟨p, rfl⟩ : ∃ p : Nat, P = (p : Int) := ⟨P.toNat, by omega⟩
 rw [dvv_dr (nd_ne (iv_ne hs.2.2.2.2.1)) (by omega)]
 exact jDiv_ok s t E F p u9 w hA hA2 ⟨hs.1, hs.2.1, hs.2.2.1, hs.2.2.2.1, hs.2.2.2.2.1, hs.2.2.2.2.2.1, hs.2.2.2.2.2.2.1, by omega, by omega⟩
theorem dvv_bd {x z : Int × Int} {P : Int} {up : Bool} (h : sz x.1.natAbs ≤ 10 ∧ sz z.1.natAbs ≤ 10 ∧ P ≤ 1000 ∧ (-5000 ≤ x.2 ∧ x.2 ≤ 5000) ∧ -5000 ≤ z.2 ∧ z.2 ≤ 5000) : dvv x z P up = nd (dvv x z P up).1 (dvv x z P up).2 ∧ sz (dvv x z P up).1.natAbs ≤ 301 := by
 by_cases h0 : z.1 = 0 ∨ P < 1
 ·rw [show dvv x z P up = (0, 0) from if_pos (by rcases h0 with h0 | h0; (exact .inl h0); (exact .inr (.inl h0)))]; exact ⟨rfl, Nat.zero_le _⟩
 ·obtain ⟨p, rfl⟩ : ∃ p : Nat, P = (p : Int) := ⟨P.toNat, by omega⟩
  have h1 : z.1 ≠ 0 := fun h => h0 (.inl h)
  rw [dvv_dr h1 (by omega)]
  have hb := dr_bd (A := x) (C := z) (p := p) (up := up) h1 (by omega) ⟨h.1, h.2.1, by omega, h.2.2.2.1, h.2.2.2.2⟩
  exact ⟨hb.1.symm, hb.2.1⟩
theorem dve_lo {z : Int × Int} {P : Int} (h : z.1 = 0 ∨ P < 1) : dve z P = 2 := if_pos h
theorem dve_hi {z : Int × Int} {P : Int} (h : z.1 ≠ 0) (h2 : ¬ P < 1) : dve z P = 0 := if_neg (by rintro (h3 | h3); (exact h h3); (exact h2 h3))
set_option maxRecDepth 100000 in
set_option maxHeartbeats 4000000 in
theorem rounds_ok (s t : Bool) (E F P N : Int) (u9 : Bool) {a : Option Addr} {k c n : Nat} {a2 : Option Addr} {k2 c2 m : Nat} (w : World) (hA : Nm w a k c n) (hA2 : Nm w a2 k2 c2 m) (hW : Wn w) :
  Ret Tryz.prog 4 #[.agg #[.bool s, .slice a k c, .int .i64 E], .agg #[.bool t, .slice a2 k2 c2, .int .i64 F], .agg #[.int .i64 P, .int .i64 N, .bool u9]] w (fun v w' => v = .bool true ∧ Ext w w') := by
 refine enter (S := No) (l := [_, _, _]) (L := []) 145 Tryz.func4 rfl rfl rfl (St.start w No) ?_; refine yA ?_; refine w_boxA rfl (fun p gp up => ?_)
 refine w_boxA rfl (fun p2 gp2 up2 => ?_)
 refine w_boxA rfl (fun p5 gp5 up5 => ?_)
 refine aB rfl ?_; refine yB ?_; refine zq ?_; refine yA ?_; refine w_loadA z27 rfl (fun _ h => h.at_ 2 rfl) rfl ?_; refine zC (fun w => zR Tryz.func5 rfl rfl rfl) rfl rfl (fun w h => jSmall_ok _ _ _ _ _ w) ?_; refine w_r (fun _ => R_not rfl) rfl rfl ?_; refine mB rfl ?_; refine zp (t := 18) rfl (fun h4 => ?_) (fun h4 => ?_)
 ·refine zs rfl rfl (bV h4) ?_; refine zs rfl rfl (bV h4) ?_; refine zs rfl rfl (bV h4) ?_; refine w_r (v := .bool _) (fun _ => zT (bV h4) rfl) rfl rfl ?_; refine mB rfl ?_; refine zs rfl rfl rfl ?_; refine zs rfl rfl rfl ?_; refine zs rfl rfl rfl ?_; refine w_r (v := .bool _) (fun _ => zT rfl rfl) rfl rfl ?_; refine mB rfl ?_; refine zs rfl rfl rfl ?_; refine zs rfl rfl rfl ?_; refine zs rfl rfl rfl ?_; refine w_r (v := .bool _) (fun _ => zT rfl rfl) rfl rfl ?_; refine mB rfl ?_; refine zs rfl rfl rfl ?_; refine zs rfl rfl rfl ?_; refine zs rfl rfl rfl ?_; refine w_r (v := .bool _) (fun _ => zT rfl rfl) rfl rfl ?_
  refine yB ?_; refine zE rfl ?_; refine yA ?_; refine zC (fun w => zR Tryz.func6 rfl rfl rfl) rfl rfl (fun w h => head05_ok w (hW.now (.head _) h)) ?_; refine aB rfl ?_; refine yB ?_; refine ze ?_; refine zt (?_)
  refine zo (v := .bool _) rfl rfl rfl ?_; exact fun w' hw => ⟨rfl, hw.fr (w, No) (.head _)⟩
 ·refine zw rfl rfl (bV h4) ?_; refine w_loadA z27 rfl (fun _ h => h.at_ 1 rfl) rfl ?_; refine zw rfl rfl (bV h4) ?_; refine zC (fun w => zR Tryz.func5 rfl rfl rfl) rfl rfl (fun w h => jSmall_ok _ _ _ _ _ w) ?_; refine zw rfl rfl (bV h4) ?_; refine w_r (fun _ => R_not rfl) rfl rfl ?_; refine w_r (v := .bool _) (fun _ => zF (bV h4) rfl) rfl rfl ?_; refine mB rfl ?_; refine zp (t := 23) rfl (fun h5 => ?_) (fun h5 => ?_)
  ·refine zs rfl rfl (bV h5) ?_; refine zs rfl rfl (bV h5) ?_; refine zs rfl rfl (bV h5) ?_; refine w_r (v := .bool _) (fun _ => zT (bV h5) rfl) rfl rfl ?_; refine mB rfl ?_; refine zs rfl rfl rfl ?_; refine zs rfl rfl rfl ?_; refine zs rfl rfl rfl ?_; refine w_r (v := .bool _) (fun _ => zT rfl rfl) rfl rfl ?_; refine mB rfl ?_; refine zs rfl rfl rfl ?_; refine zs rfl rfl rfl ?_; refine zs rfl rfl rfl ?_; refine w_r (v := .bool _) (fun _ => zT rfl rfl) rfl rfl ?_; refine yB ?_; refine zE rfl ?_; refine yA ?_; refine zC (fun w => zR Tryz.func6 rfl rfl rfl) rfl rfl (fun w h => head05_ok w (hW.now (.head _) h)) ?_; refine aB rfl ?_; refine yB ?_; refine ze ?_; refine zt (?_)
   refine zo (v := .bool _) rfl rfl rfl ?_; exact fun w' hw => ⟨rfl, hw.fr (w, No) (.head _)⟩
  ·refine zw rfl rfl (bV h5) ?_; refine zf fa40_0 rfl ?_; refine zw rfl rfl (bV h5) ?_; refine zl z3 rfl (fun _ h => zc 0 rfl rfl h) ?_; refine zw rfl rfl (bV h5) ?_; refine w_r (fun _ => R_gt rfl rfl) rfl rfl ?_; refine w_r (v := .bool _) (fun _ => zF (bV h5) rfl) rfl rfl ?_; refine mB rfl ?_; refine zd (t := 28) rfl (fun h6 => ?_) (fun h6 => ?_)
   ·refine zs rfl rfl (bT h6) ?_; refine zs rfl rfl (bT h6) ?_; refine zs rfl rfl (bT h6) ?_; refine w_r (v := .bool _) (fun _ => zT (bT h6) rfl) rfl rfl ?_; refine mB rfl ?_; refine zs rfl rfl rfl ?_; refine zs rfl rfl rfl ?_; refine zs rfl rfl rfl ?_; refine w_r (v := .bool _) (fun _ => zT rfl rfl) rfl rfl ?_; refine yB ?_; refine zE rfl ?_; refine yA ?_; refine zC (fun w => zR Tryz.func6 rfl rfl rfl) rfl rfl (fun w h => head05_ok w (hW.now (.head _) h)) ?_; refine aB rfl ?_; refine yB ?_; refine ze ?_; refine zt (?_)
    refine zo (v := .bool _) rfl rfl rfl ?_; exact fun w' hw => ⟨rfl, hw.fr (w, No) (.head _)⟩
   ·refine zw rfl rfl (bF h6) ?_; refine zf fa40_1 rfl ?_; refine zw rfl rfl (bF h6) ?_; refine zl z3 rfl (fun _ h => zc 0 rfl rfl h) ?_; refine zw rfl rfl (bF h6) ?_; refine w_r (fun _ => R_gt rfl rfl) rfl rfl ?_; refine w_r (v := .bool _) (fun _ => zF (bF h6) rfl) rfl rfl ?_; refine mB rfl ?_; refine zd (t := 33) rfl (fun h7 => ?_) (fun h7 => ?_)
    ·refine zs rfl rfl (bT h7) ?_; refine zs rfl rfl (bT h7) ?_; refine zs rfl rfl (bT h7) ?_; refine w_r (v := .bool _) (fun _ => zT (bT h7) rfl) rfl rfl ?_; refine yB ?_; refine zE rfl ?_; refine yA ?_; refine zC (fun w => zR Tryz.func6 rfl rfl rfl) rfl rfl (fun w h => head05_ok w (hW.now (.head _) h)) ?_; refine aB rfl ?_; refine yB ?_; refine ze ?_; refine zt (?_)
     refine zo (v := .bool _) rfl rfl rfl ?_; exact fun w' hw => ⟨rfl, hw.fr (w, No) (.head _)⟩
    ·refine zw rfl rfl (bF h7) ?_; refine zf fa40_1 rfl ?_; refine zw rfl rfl (bF h7) ?_; refine zl z3 rfl (fun _ h => zc 0 rfl rfl h) ?_; refine zw rfl rfl (bF h7) ?_; refine w_r (fun _ => R_lt rfl rfl) rfl rfl ?_; refine w_r (v := .bool _) (fun _ => zF (bF h7) rfl) rfl rfl ?_; refine yB ?_; refine zD rfl (fun h8 => ?_) (fun h8 => ?_)
     ·refine yA ?_; refine zC (fun w => zR Tryz.func6 rfl rfl rfl) rfl rfl (fun w h => head05_ok w (hW.now (.head _) h)) ?_; refine aB rfl ?_; refine yB ?_; refine ze ?_; refine zt (?_)
      refine zo (v := .bool _) rfl rfl rfl ?_; exact fun w' hw => ⟨rfl, hw.fr (w, No) (.head _)⟩
     ·have hsa := of_small h4; have hsb := of_small h5; have hsn : sz n ≤ k := sz_iff.2 hA.lt; have hsm : sz m ≤ k2 := sz_iff.2 hA2.lt; have hos := od_sz (s := s) (n := n) E; have hoc := od_sz (s := t) (n := m) F; have hex := nd_exS (s := s) (n := n) (E := E) (by omega); have hexc := nd_exS (s := t) (n := m) (E := F) (by omega); have hrv := dvv_bd (x := (nd (iv s n) E)) (z := nd 1 0) (P := P) (up := u9) (by rw [nd_one]; exact ⟨by omega, by decide, by omega, by omega, by decide, by decide⟩); have hqv := dvv_bd (x := (nd (iv s n) E)) (z := (nd (iv t m) F)) (P := P) (up := u9) ⟨by omega, by omega, by omega, by omega, by omega, by omega⟩; have hsv := od_sz (s := s) (n := n) (E + N); have hgv := br_sz (x := iv s n) (y := 1) (k := E - N) (by decide) (by rw [iv_abs]; omega) (by omega)
      refine zi ?_; refine zk ?_; refine yA ?_; refine w_loadA z27 rfl (fun _ h => h.at_ 2 rfl) rfl ?_; refine zf fa40_0 rfl ?_; refine zl z3 rfl (fun _ h => zc 0 rfl rfl h) ?_; refine zf fa40_2 rfl ?_; refine zl z4 rfl (fun _ h => zc 0 rfl rfl h) ?_; refine w_tel (fun w => zR Tryz.func13 rfl rfl rfl) rfl rfl (fun w h => dRound_ok s E P u9 w ((Kn.old hA).at_ 0 rfl h) ⟨by omega, by omega, by omega, by omega⟩) (fun x9 a9 c9 hK9 hN9 => ?_)
      refine zm rfl ?_; refine w_r (fun _ => R_extract rfl rfl) rfl rfl ?_; refine w_r (fun _ => R_extract rfl rfl) rfl rfl ?_; refine w_alloc zr27 (fun b7 gb7 ub7 => ?_)
      refine w_store 0 rfl z27 rfl rfl rfl rfl rfl rfl rfl ?_; refine aI rfl ?_; refine yC ?_; refine w_loadA z27 rfl (fun _ h => h.at_ 3 rfl) rfl ?_; refine w_loadA z27 rfl (fun _ h => h.at_ 2 rfl) rfl ?_; refine zf fa40_0 rfl ?_; refine zl z3 rfl (fun _ h => zc 1 rfl rfl h) ?_; refine zf fa40_2 rfl ?_; refine zl z4 rfl (fun _ h => zc 1 rfl rfl h) ?_; refine w_tel (fun w => zR Tryz.func14 rfl rfl rfl) rfl rfl (fun w h => dDiv_ok s t E F P u9 w ((Kn.old hA).at_ 1 rfl h) ((Kn.old hA2).at_ 1 rfl h) ⟨by omega, by omega, by omega, by omega, by omega, by omega, by omega⟩) (fun x11 a11 c11 hK11 hN11 => ?_)
      refine zm rfl ?_; refine w_r (fun _ => R_extract rfl rfl) rfl rfl ?_; refine w_r (fun _ => R_extract rfl rfl) rfl rfl ?_; refine w_alloc zr27 (fun b9 gb9 ub9 => ?_)
      refine w_store 0 rfl z27 rfl rfl rfl rfl rfl rfl rfl ?_; refine aI rfl ?_; refine yC ?_; refine w_loadA z27 rfl (fun _ h => h.at_ 4 rfl) rfl ?_; refine zf fa40_1 rfl ?_; refine zl z3 rfl (fun _ h => zc 2 rfl rfl h) ?_; refine w_tel (fun w => zR Tryz.func15 rfl rfl rfl) rfl rfl (fun w h => dScale_ok N s E w ((Kn.old hA).at_ 2 rfl h) ⟨by omega, by omega, by omega, by omega⟩) (fun x13 a13 c13 hK13 hN13 => ?_)
      refine zm rfl ?_; refine w_r (fun _ => R_extract rfl rfl) rfl rfl ?_; refine w_r (fun _ => R_extract rfl rfl) rfl rfl ?_; refine w_alloc zr27 (fun b11 gb11 ub11 => ?_)
      refine w_store 0 rfl z27 rfl rfl rfl rfl rfl rfl rfl ?_; refine aI rfl ?_; refine yC ?_; refine w_loadA z27 rfl (fun _ h => h.at_ 5 rfl) rfl ?_; refine zf fa40_1 rfl ?_; refine zl z3 rfl (fun _ h => zc 3 rfl rfl h) ?_; refine w_tel (fun w => zR Tryz.func16 rfl rfl rfl) rfl rfl (fun w h => grid_ok s E N w ((Kn.old hA).at_ 3 rfl h) ⟨by omega, by omega, by omega, by omega⟩) (fun x15 a15 c15 hK15 hN15 => ?_)
      refine zm rfl ?_; refine w_r (fun _ => R_extract rfl rfl) rfl rfl ?_; refine w_r (fun _ => R_extract rfl rfl) rfl rfl ?_; refine w_alloc zr25 (fun b13 gb13 ub13 => ?_)
      refine w_store 0 rfl z25 rfl rfl rfl rfl rfl rfl rfl ?_; refine aI rfl ?_; refine yB ?_; refine zq ?_; refine zq ?_; refine c_heldS mixed ?_; refine zh (v := .int _ _) 0 rfl (by kernel_rfl) rfl rfl (fun w h => h) (fun w h => R_move rfl) ?_; refine zh 1 rfl (by kernel_rfl) rfl rfl (fun w h => h) (fun w h => R_ne rfl rfl) ?_; refine zh (v := .bool _) 2 rfl (by kernel_rfl) rfl rfl (fun w h => h) (fun w h => R_move rfl) ?_; refine h_takeG (v := .int _ _) 3 rfl (by kernel_rfl) rfl rfl rfl (congrArg Value.bool (decide_eq_false (by decide))) rfl (fun w h => h) (fun w h => R_move rfl) ?_; refine h_takeG 4 rfl (by kernel_rfl) rfl rfl rfl (congrArg Value.bool (decide_eq_false (by decide))) rfl (fun w h => h) (fun w h => R_ne rfl rfl) ?_
      refine zh (v := .bool _) 5 rfl (by kernel_rfl) rfl rfl (fun w h => h) (fun w h => zF (congrArg Value.bool (decide_eq_false (by decide))) rfl) ?_; refine zh (v := .bool _) 6 rfl (by kernel_rfl) rfl rfl (fun w h => h) (fun w h => R_move rfl) ?_; refine h_takeG 7 rfl (by kernel_rfl) rfl rfl rfl (congrArg Value.bool (decide_eq_false (by decide))) rfl (fun w h => h) (fun w h => R_ldb z27 rfl (h.at_ 1 rfl) rfl) ?_; refine h_takeG 8 rfl (by kernel_rfl) rfl rfl rfl (congrArg Value.bool (decide_eq_false (by decide))) rfl (fun w h => h) (fun w h => R_ldb z27 rfl (h.at_ 6 rfl) rfl) ?_; refine h_takeG 9 rfl (by kernel_rfl) rfl rfl rfl (congrArg Value.bool (decide_eq_false (by decide))) rfl (fun w h => h) (fun w h => R_fa fa40_1 rfl) ?_
      refine h_takeG (v := .int _ _) 10 rfl (by kernel_rfl) rfl rfl rfl (congrArg Value.bool (decide_eq_false (by decide))) rfl (fun w h => h) (fun w h => R_ld1 z3 rfl (zc 4 rfl rfl h)) ?_; refine h_one 11 (by kernel_rfl) (fun w h => h) ?_; refine o_tel rfl (wn_yes rfl rfl rfl (congrArg Value.bool (decide_eq_false (by decide)))) rfl (fun w => zR Tryz.func17 rfl rfl rfl) (fun w h => jScale_ok N s E w ((Kn.old hA).at_ 4 rfl h) ⟨by omega, by omega, by omega, by omega⟩) (fun x17 a17 c17 hK17 hN17 => ?_)
      refine h_one 12 (by kernel_rfl) (fun w h => h.unbase (fun x hx => .tail _ (hx))) ?_; refine o_pureW rfl (wn_yes rfl rfl rfl (congrArg Value.bool (decide_eq_false (by decide)))) rfl (fun w => zR Tryz.func11 rfl rfl rfl) (fun w h => jSame_ok (nd (iv s n) (E + N)) (nd (iv s n) (E + N)) w (hK13.at_ 2 rfl h) (hK17.at_ 0 rfl h) (nd_idem _ _).symm ⟨by omega, by omega⟩) ?_; refine h_takeG 13 rfl (by kernel_rfl) rfl rfl rfl (congrArg Value.bool (decide_eq_false (by decide))) rfl (fun w h => h.unbase (fun x hx => .tail _ (hx))) (fun w h => R_not (congrArg Value.bool (decide_eq_true rfl))) ?_; refine zh (v := .bool _) 14 rfl (by kernel_rfl) rfl rfl (fun w h => h.unbase (fun x hx => .tail _ (hx))) (fun w h => zF (congrArg Value.bool (decide_eq_false (by decide))) rfl) ?_
      refine zh (v := .bool _) 15 rfl (by kernel_rfl) rfl rfl (fun w h => h.unbase (fun x hx => .tail _ (hx))) (fun w h => R_move rfl) ?_; refine h_takeG 16 rfl (by kernel_rfl) rfl rfl rfl rfl rfl (fun w h => h.unbase (fun x hx => .tail _ (hx))) (fun w h => R_ldb z25 rfl (h.at_ 0 rfl) rfl) ?_; refine h_takeG 17 rfl (by kernel_rfl) rfl rfl rfl rfl rfl (fun w h => h.unbase (fun x hx => .tail _ (hx))) (fun w h => R_ldb z27 rfl (h.at_ 6 rfl) rfl) ?_; refine h_takeG 18 rfl (by kernel_rfl) rfl rfl rfl rfl rfl (fun w h => h.unbase (fun x hx => .tail _ (hx))) (fun w h => R_fa fa40_1 rfl) ?_; refine h_takeG (v := .int _ _) 19 rfl (by kernel_rfl) rfl rfl rfl rfl rfl (fun w h => h.unbase (fun x hx => .tail _ (hx))) (fun w h => R_ld1 z3 rfl (zc 4 rfl rfl h)) ?_; refine h_one 20 (by kernel_rfl) (fun w h => h.unbase (fun x hx => .tail _ (hx))) ?_
      refine o_tel rfl (wn_yes rfl rfl rfl rfl) rfl (fun w => zR Tryz.func19 rfl rfl rfl) (fun w h => jGrid_ok s E N w ((Kn.old hA).at_ 5 rfl h) ⟨by omega, by omega, by omega⟩) (fun x18 a18 c18 hK18 hN18 => ?_)
      refine h_one 21 (by kernel_rfl) (fun w h => h.unbase (fun x hx => .tail _ (.tail _ (hx)))) ?_; refine o_pureW rfl (wn_yes rfl rfl rfl rfl) rfl (fun w => zR Tryz.func18 rfl rfl rfl) (fun w h => iSame_ok (br (iv s n) 1 (E - N)) (br (iv s n) 1 (E - N)) w (hK15.at_ 2 rfl h) (hK18.at_ 0 rfl h) ⟨by omega, by omega⟩) ?_; refine h_takeG 22 rfl (by kernel_rfl) rfl rfl rfl rfl rfl (fun w h => h.unbase (fun x hx => .tail _ (.tail _ (hx)))) (fun w h => R_not (congrArg Value.bool (decide_eq_true rfl))) ?_; refine zh (v := .bool _) 23 rfl (by kernel_rfl) rfl rfl (fun w h => h.unbase (fun x hx => .tail _ (.tail _ (hx)))) (fun w h => zF rfl rfl) ?_; refine h_done (by kernel_rfl) (fun w h => h.unbase (fun x hx => .tail _ (.tail _ (hx)))) ?_
      refine zk ?_; refine c_condF rfl ?_; refine zi ?_; refine zk ?_; refine zq ?_; refine yA ?_; refine zf fa40_0 rfl ?_; refine zl z3 rfl (fun _ h => zc 4 rfl rfl h) ?_; refine w_r (fun _ => R_lt rfl rfl) rfl rfl ?_; refine yB ?_; refine zD rfl (fun h19 => ?_) (fun h19 => ?_)
      ·have hP := h19
       refine yA ?_; refine mI rfl ?_; refine w_r (fun _ => R_eq rfl rfl) rfl rfl ?_; refine mB rfl ?_; refine zw rfl rfl (congrArg Value.bool (decide_eq_true (dve_lo (.inr hP)))) ?_; refine mI rfl ?_; refine zw rfl rfl (congrArg Value.bool (decide_eq_true (dve_lo (.inr hP)))) ?_; refine w_r (fun _ => R_eq rfl rfl) rfl rfl ?_; refine w_r (v := .bool _) (fun _ => zT (congrArg Value.bool (decide_eq_true (dve_lo (.inr hP)))) rfl) rfl rfl ?_; refine mB rfl ?_; refine zw rfl rfl (congrArg Value.bool (decide_eq_true (dve_lo (.inr hP)))) ?_; refine zC (fun w => zR Tryz.func6 rfl rfl rfl) rfl rfl (fun w h => head05_ok w (hW.now (.tail _ (.tail _ (.tail _ (.tail _ (.tail _ (.tail _ (.head _))))))) h)) ?_
       refine w_r (v := .bool _) (fun _ => zT (congrArg Value.bool (decide_eq_true (dve_lo (.inr hP)))) rfl) rfl rfl ?_; refine aB rfl ?_; refine yB ?_; refine ze ?_; refine zt (?_)
       refine zo (v := .bool _) rfl rfl rfl ?_; exact fun w' hw => ⟨rfl, hw.fr (w, No) (.tail _ (.tail _ (.tail _ (.tail _ (.tail _ (.tail _ (.head _)))))))⟩
      ·have hP := h19
       refine zi ?_; refine zk ?_; refine zq ?_; refine zq ?_; refine c_heldS mixed ?_; refine zh (v := .int _ _) 0 rfl (by kernel_rfl) rfl rfl (fun w h => h) (fun w h => R_move rfl) ?_; refine zh 1 rfl (by kernel_rfl) rfl rfl (fun w h => h) (fun w h => R_ne rfl rfl) ?_; refine zh (v := .bool _) 2 rfl (by kernel_rfl) rfl rfl (fun w h => h) (fun w h => R_move rfl) ?_; refine h_takeG 3 rfl (by kernel_rfl) rfl rfl rfl (congrArg Value.bool (decide_eq_false (fun h => h (dve_hi (by rw [nd_one]; decide) hP)))) rfl (fun w h => h) (fun w h => R_ldb z27 rfl (h.at_ 3 rfl) rfl) ?_; refine h_takeG 4 rfl (by kernel_rfl) rfl rfl rfl (congrArg Value.bool (decide_eq_false (fun h => h (dve_hi (by rw [nd_one]; decide) hP)))) rfl (fun w h => h) (fun w h => R_ldb z27 rfl (h.at_ 6 rfl) rfl) ?_
       refine h_takeG 5 rfl (by kernel_rfl) rfl rfl rfl (congrArg Value.bool (decide_eq_false (fun h => h (dve_hi (by rw [nd_one]; decide) hP)))) rfl (fun w h => h) (fun w h => R_fa fa40_0 rfl) ?_; refine h_takeG (v := .int _ _) 6 rfl (by kernel_rfl) rfl rfl rfl (congrArg Value.bool (decide_eq_false (fun h => h (dve_hi (by rw [nd_one]; decide) hP)))) rfl (fun w h => h) (fun w h => R_ld1 z3 rfl (zc 4 rfl rfl h)) ?_; refine h_takeG 7 rfl (by kernel_rfl) rfl rfl rfl (congrArg Value.bool (decide_eq_false (fun h => h (dve_hi (by rw [nd_one]; decide) hP)))) rfl (fun w h => h) (fun w h => R_fa fa40_2 rfl) ?_; refine h_takeG (v := .bool _) 8 rfl (by kernel_rfl) rfl rfl rfl (congrArg Value.bool (decide_eq_false (fun h => h (dve_hi (by rw [nd_one]; decide) hP)))) rfl (fun w h => h) (fun w h => R_ld1 z4 rfl (zc 4 rfl rfl h)) ?_; refine h_one 9 (by kernel_rfl) (fun w h => h) ?_
       refine o_tel rfl (wn_yes rfl rfl rfl (congrArg Value.bool (decide_eq_false (fun h => h (dve_hi (by rw [nd_one]; decide) hP))))) rfl (fun w => zR Tryz.func20 rfl rfl rfl) (fun w h => jRoundP_ok s E P u9 w ((Kn.old hA).at_ 6 rfl h) ⟨by omega, by omega, by omega, by omega, by omega⟩) (fun x20 a20 c20 hK20 hN20 => ?_)
       refine h_one 10 (by kernel_rfl) (fun w h => h.unbase (fun x hx => .tail _ (hx))) ?_; refine o_pureW rfl (wn_yes rfl rfl rfl (congrArg Value.bool (decide_eq_false (fun h => h (dve_hi (by rw [nd_one]; decide) hP))))) rfl (fun w => zR Tryz.func11 rfl rfl rfl) (fun w h => jSame_ok (dvv (nd (iv s n) E) (nd 1 0) P u9) (dvv (nd (iv s n) E) (nd 1 0) P u9) w (hK9.at_ 6 rfl h) (hK20.at_ 0 rfl h) hrv.1 ⟨by omega, by omega⟩) ?_; refine h_takeG 11 rfl (by kernel_rfl) rfl rfl rfl (congrArg Value.bool (decide_eq_false (fun h => h (dve_hi (by rw [nd_one]; decide) hP)))) rfl (fun w h => h.unbase (fun x hx => .tail _ (hx))) (fun w h => R_not (congrArg Value.bool (decide_eq_true rfl))) ?_
       refine zh (v := .bool _) 12 rfl (by kernel_rfl) rfl rfl (fun w h => h.unbase (fun x hx => .tail _ (hx))) (fun w h => zF (congrArg Value.bool (decide_eq_false (fun h => h (dve_hi (by rw [nd_one]; decide) hP)))) rfl) ?_
       refine h_done (by kernel_rfl) (fun w h => h.unbase (fun x hx => .tail _ (hx))) ?_; refine zk ?_; refine c_condF rfl ?_; refine zi ?_; refine zk ?_; refine zq ?_; refine yA ?_; refine w_loadA z27 rfl (fun _ h => h.at_ 5 rfl) rfl ?_; refine zC (fun w => zR Tryz.func21 rfl rfl rfl) rfl rfl (fun w h => jSign_ok t F w ((Kn.old hA2).at_ 7 rfl h) (by omega)) ?_; refine w_r (fun _ => R_eq rfl rfl) rfl rfl ?_; refine yB ?_; refine zD rfl (fun h21 => ?_) (fun h21 => ?_)
       ·have hC0 : (nd (iv t m) F).1 = 0 := nd1_zero.2 (sign_iv0.1 h21)
        refine yA ?_; refine mI rfl ?_; refine w_r (fun _ => R_eq rfl rfl) rfl rfl ?_; refine mB rfl ?_; refine zw rfl rfl (congrArg Value.bool (decide_eq_true (dve_lo (.inl hC0)))) ?_; refine zC (fun w => zR Tryz.func6 rfl rfl rfl) rfl rfl (fun w h => head05_ok w (hW.now (.tail _ (.tail _ (.tail _ (.tail _ (.tail _ (.tail _ (.tail _ (.head _)))))))) h)) ?_; refine w_r (v := .bool _) (fun _ => zT (congrArg Value.bool (decide_eq_true (dve_lo (.inl hC0)))) rfl) rfl rfl ?_; refine aB rfl ?_; refine yB ?_; refine ze ?_; refine zt (?_)
        refine zo (v := .bool _) rfl rfl rfl ?_; exact fun w' hw => ⟨rfl, hw.fr (w, No) (.tail _ (.tail _ (.tail _ (.tail _ (.tail _ (.tail _ (.tail _ (.head _))))))))⟩
       ·have hm0 : m ≠ 0 := fun h => h21 (sign_iv0.2 h); have hC0 : (nd (iv t m) F).1 ≠ 0 := nd_ne (iv_ne hm0)
        refine zi ?_; refine zk ?_; refine zq ?_; refine c_heldS mixed ?_; refine zh (v := .int _ _) 0 rfl (by kernel_rfl) rfl rfl (fun w h => h) (fun w h => R_move rfl) ?_; refine zh 1 rfl (by kernel_rfl) rfl rfl (fun w h => h) (fun w h => R_eq rfl rfl) ?_; refine zh (v := .bool _) 2 rfl (by kernel_rfl) rfl rfl (fun w h => h) (fun w h => R_move rfl) ?_; refine h_takeG 3 rfl (by kernel_rfl) rfl rfl rfl (congrArg Value.bool (decide_eq_true (dve_hi hC0 hP))) rfl (fun w h => h) (fun w h => R_ldb z27 rfl (h.at_ 2 rfl) rfl) ?_; refine h_takeG 4 rfl (by kernel_rfl) rfl rfl rfl (congrArg Value.bool (decide_eq_true (dve_hi hC0 hP))) rfl (fun w h => h) (fun w h => R_ldb z27 rfl (h.at_ 6 rfl) rfl) ?_; refine h_takeG 5 rfl (by kernel_rfl) rfl rfl rfl (congrArg Value.bool (decide_eq_true (dve_hi hC0 hP))) rfl (fun w h => h) (fun w h => R_ldb z27 rfl (h.at_ 5 rfl) rfl) ?_
        refine h_takeG 6 rfl (by kernel_rfl) rfl rfl rfl (congrArg Value.bool (decide_eq_true (dve_hi hC0 hP))) rfl (fun w h => h) (fun w h => R_fa fa40_0 rfl) ?_; refine h_takeG (v := .int _ _) 7 rfl (by kernel_rfl) rfl rfl rfl (congrArg Value.bool (decide_eq_true (dve_hi hC0 hP))) rfl (fun w h => h) (fun w h => R_ld1 z3 rfl (zc 4 rfl rfl h)) ?_; refine h_takeG 8 rfl (by kernel_rfl) rfl rfl rfl (congrArg Value.bool (decide_eq_true (dve_hi hC0 hP))) rfl (fun w h => h) (fun w h => R_fa fa40_2 rfl) ?_; refine h_takeG (v := .bool _) 9 rfl (by kernel_rfl) rfl rfl rfl (congrArg Value.bool (decide_eq_true (dve_hi hC0 hP))) rfl (fun w h => h) (fun w h => R_ld1 z4 rfl (zc 4 rfl rfl h)) ?_; refine h_one 10 (by kernel_rfl) (fun w h => h) ?_
        refine o_tel rfl (wn_yes rfl rfl rfl (congrArg Value.bool (decide_eq_true (dve_hi hC0 hP)))) rfl (fun w => zR Tryz.func22 rfl rfl rfl) (fun w h => jDivP_ok s t E F P u9 w ((Kn.old hA).at_ 7 rfl h) ((Kn.old hA2).at_ 7 rfl h) ⟨by omega, by omega, by omega, by omega, hm0, by omega, by omega, by omega, by omega⟩) (fun x22 a22 c22 hK22 hN22 => ?_)
        refine h_one 11 (by kernel_rfl) (fun w h => h.unbase (fun x hx => .tail _ (hx))) ?_; refine o_pureW rfl (wn_yes rfl rfl rfl (congrArg Value.bool (decide_eq_true (dve_hi hC0 hP)))) rfl (fun w => zR Tryz.func11 rfl rfl rfl) (fun w h => jSame_ok (dvv (nd (iv s n) E) (nd (iv t m) F) P u9) (dvv (nd (iv s n) E) (nd (iv t m) F) P u9) w (hK11.at_ 6 rfl h) (hK22.at_ 0 rfl h) hqv.1 ⟨by omega, by omega⟩) ?_; refine zh (v := .bool _) 12 rfl (by kernel_rfl) rfl rfl (fun w h => h.unbase (fun x hx => .tail _ (hx))) (fun w h => zT (congrArg Value.bool (decide_eq_true (dve_hi hC0 hP))) rfl) ?_; refine zh (v := .bool _) 13 rfl (by kernel_rfl) rfl rfl (fun w h => h.unbase (fun x hx => .tail _ (hx))) (fun w h => R_move rfl) ?_; refine h_one 14 (by kernel_rfl) (fun w h => h.unbase (fun x hx => .tail _ (hx))) ?_
        refine o_pureW rfl (wn_yes rfl rfl rfl (congrArg Value.bool (decide_eq_true rfl))) rfl (fun w => zR Tryz.func6 rfl rfl rfl) (fun w h => head05_ok w (hW.now (.tail _ (.tail _ (.tail _ (.tail _ (.tail _ (.tail _ (.tail _ (.tail _ (.head _))))))))) h)) ?_; refine zh (v := .bool _) 15 rfl (by kernel_rfl) rfl rfl (fun w h => h.unbase (fun x hx => .tail _ (hx))) (fun w h => zT (congrArg Value.bool (decide_eq_true rfl)) rfl) ?_; refine zh (v := .bool _) 16 rfl (by kernel_rfl) rfl rfl (fun w h => h.unbase (fun x hx => .tail _ (hx))) (fun w h => R_assign rfl) ?_; refine h_done (by kernel_rfl) (fun w h => h.unbase (fun x hx => .tail _ (hx))) ?_; refine zk ?_; refine ze ?_; refine zo (v := .bool _) rfl rfl rfl ?_; exact fun w' hw => ⟨rfl, hw.fr (w, No) (.tail _ (.tail _ (.tail _ (.tail _ (.tail _ (.tail _ (.tail _ (.tail _ (.head _)))))))))⟩
end Go.Proofs.YtoapegnngbhkbaaGreatDoor
end
section
/- A row's lifting with what is laid and the world's shape. -/
namespace Go.Sx
theorem handed_and_shaped {H : Type} {enc : TypeId × Value → H} {a : Assume} {C : Checked} {os : Os} {f : FuncId} {fn : Func} {s : ChangeSpec} {conds : List PathCond} {apart fresh handsOn again : Bool} {X : World → Array Value → Prop}
    (hX : ∀ (w w' : World) (args : Array Value), w.heap = w'.heap → X w args → X w' args)
    (own : ownKnob C.prog.godebug = none) (started : os.Started) (noInit : C.prog.inits.idxOf? f = none) (hfn : C.prog.funcs[f]? = some fn)
    (witness : ∃ (w : World) (tape : Tape) (i : Input), w.os = os ∧ (w.forCall tape i).Shaped C.prog ∧ i.vars = [] ∧ Input.okWide C.prog (w.forCall tape i) .any w.heap.size f i ∧
      ((s.pre enc C.prog fn conds apart (w.forCall tape i).memory i.args ∧ X (w.forCall tape i).memory i.args) ∧ sizedMet enc C.prog fn (OpenSpec.ofChange s) apart (w.forCall tape i).memory i.args) ∧ a.holds C.prog (lone (Frame.enter C.prog f i.args .normal) [] (w.forCall tape i)))
    (contract : ∀ (W : World) (base : Nat) (args : Array Value) (ds gs : List (DataW H)) (before : List MemPlace),
      (∀ (j : Nat) t v, fn.params[j]? = some t → args[j]? = some v → Value.okWide C.prog W .any base t v) →
      DataW.Whole enc C.prog fn.params.toList s.vars apart W args.toList ds gs before →
      X W args → W.ShapedOpen C.prog →
      Calls C.prog f args W fun e W' => ∃ v, e = .returned v ∧ s.post enc C.prog fn apart fresh handsOn again W args v W') :
    ReturnsInHanded a C os f .any (fun w args => (s.pre enc C.prog fn conds apart w args ∧ X w args) ∧ sizedMet enc C.prog fn (OpenSpec.ofChange s) apart w args) (s.post enc C.prog fn apart fresh handsOn again) := by
  refine returnsInHanded_of_calls own started noInit witness ?_
  intro w tape i _ hsh _ hok hpre hholds
  obtain ⟨_, _, _, fn', hfn', _, _, _, _, hval⟩ := hok
  have e : fn' = fn := Option.some.inj (hfn'.symm.trans hfn)
  subst e
  obtain ⟨⟨⟨ds, gs, before, hw, hc⟩, hx⟩, hz⟩ := hpre
  have hw' := DataW.Whole.of_heap (w' := w.forCall tape i) (by rfl) hw
  refine (contract (w.forCall tape i) w.heap.size i.args ds gs before hval hw' (hX _ _ _ (by rfl) hx) hsh).mono fun e W' ⟨v, he, hp⟩ => ?_
  subst he
  exact ChangeSpec.post_blind hp
end Go.Sx
end
section
/- Trees that are handed in: a reading of an argument opened into a tree in memory. -/
namespace Go.Sx
open Go.RowKit Go.Tree
theorem len3 {α : Type} {l : List α} (h : l.length = 3) : ∃ a b c, l = [a, b, c] := by
  match l, h with
  | [a, b, c], _ => exact ⟨a, b, c, rfl⟩
end Go.Sx
end
section
/- A row of bytes that is handed in. -/
end
section
namespace Go.Proofs.YtoapegnngbhkbaaGreatDoor
open Go.ChangeShapes Go.WideShapes Go.ChangeAt Go.RowKit Go.Sx Go.Num
open Go.ChangeMaps (open_string)
theorem own : ownKnob Tryz.prog.godebug = none := by kernel_rfl
theorem below_ext {w w' : World} (h : Ext w w') : Below w.heap.size w w' := ⟨h.os, h.tape, h.output, h.size, fun k hk => h.blk k hk (fun x => x)⟩
section
variable {H : Type} {enc : TypeId × Value → H} {P : Program}
theorem post_ext2 {f : Func} {s : ChangeSpec} {apart fresh handsOn : Bool} {W W' : World} {args : Array Value} {v : Value} {ds gs : List (DataW H)} {before pa pv : List MemPlace}
    (hW : DataW.Whole enc P f.params.toList s.vars apart W args.toList ds gs before)
    (hres : ∀ (b : Nat) (sp : Nat → Bool) (hd : Bool), DataW.TrodAll enc P W' b sp hd f.resultTypes.toList (v.resultList f.resultTypes.size) (s.fn H (ds ++ gs)).results [])
    (hargs : DataW.TrodAll enc P W' 0 (fun b => decide (b < W.heap.size)) true f.params.toList args.toList (s.fn H (ds ++ gs)).args pa)
    (hvars : ∀ sp : Nat → Bool, (∀ p ∈ before, sp p.block = true) → DataW.TrodVars enc P W' sp s.vars (s.fn H (ds ++ gs)).vars pv)
    (hps : before = pa ++ pv) (hb : Below W.heap.size W W') : s.post enc P f apart fresh handsOn false W args v W' := by
  have hold : ∀ p ∈ before, (fun b => decide (b < W.heap.size)) p.block = true := fun p hp => by simpa using hW.lt p hp
  exact ⟨ds, gs, before, [], pa, pv, hW, hres _ _ _, hargs, hvars _ hold, hb.frame _, fun h => by cases h⟩
end
theorem laidB : laidOutB Tryz.prog = true := by kernel_rfl
theorem door_met (os : Os) (args : Array Value) : laidMetH Tryz.prog Rows.dyadRoundsRow.laid ((World.doorLaid Tryz.prog 400 os).forCall (fun _ _ => 0) ⟨#[], args, []⟩).memory :=
  laidMetH_of_parts3 (fuel := 8) (laidMet_of_run' 8 (by kernel_rfl) (by kernel_rfl)) (by kernel_rfl) (by kernel_rfl)
theorem len2D {α : Type} {l : List α} (h : l.length = 2) : ∃ a b, l = [a, b] := by
  match l, h with
  | [a, b], _ => exact ⟨a, b, rfl⟩
theorem lenDy : Tryz.prog.cellsOf 27 = 3 := by kernel_rfl
theorem lenIn : Tryz.prog.cellsOf 25 = 2 := by kernel_rfl
theorem lenNa : Tryz.prog.cellsOf 23 = 1 := by kernel_rfl
theorem lenU : Tryz.prog.cellsOf 66 = 1 := by kernel_rfl
theorem lenB : Tryz.prog.cellsOf 4 = 1 := by kernel_rfl
theorem lenW : Tryz.prog.cellsOf 3 = 1 := by kernel_rfl
section
variable {H : Type} {enc : TypeId × Value → H} {W : World} {sp : Nat → Bool} {hd : Bool}
/-- a row of limbs that is handed in -/
theorem open_nat {fuel : Nat} {cs : List Value} {x : DataW H × List MemPlace} (hs : ∀ a l c, cs = [.slice (some a) l c] → a.spot = none) (h : DataW.trod enc Tryz.prog W 0 sp hd fuel 23 cs = some x) : ∃ (a : Option Addr) (k c n : Nat), cs = [.slice a k c] ∧ Nm W a k c n := by
  rcases open_ints Tryz.underlying23 Tryz.underlying66 lenU h with ⟨rfl, _⟩ | ⟨a, len, cap, zs, rfl, hb, hl, hm, hz, _, hcell, hw⟩
  · exact ⟨none, 0, 0, 0, rfl, Nm.nil _⟩
  · have hlz : len ≤ zs.length := by rw [hz]; split <;> omega
    have hsp := hs a len cap rfl
    obtain ⟨b, o, s⟩ := a
    simp only at hsp
    subst hsp
    have hdg : Dig Go.Num.B ((zs.take len).map Int.toNat) := fun y hy => by
      obtain ⟨z, hz1, rfl⟩ := List.mem_map.1 hy
      have hwf := hw z (List.mem_of_mem_take hz1)
      simp only [Lit.wf, Bool.and_eq_true, decide_eq_true_eq] at hwf
      have e1 : IntKind.u64.min = 0 := by decide
      have e2 : IntKind.u64.max = 18446744073709551615 := by decide
      have hBv : Go.Num.B = 18446744073709551616 := rfl
      omega
    have hlen : ((zs.take len).map Int.toNat).length = len := by rw [List.length_map, List.length_take, Nat.min_eq_left hlz]
    refine ⟨some ⟨b, o, none⟩, len, cap, vl ((zs.take len).map Int.toNat), rfl, ?_, hl, .inr ⟨b, o, rfl⟩, fun j hj => ⟨b, o, rfl, ?_⟩⟩
    · have := vlb_lt hdg
      rwa [hlen] at this
    · have hzj : zs[j]? = some zs[j] := List.getElem?_eq_getElem (by omega)
      have hg : ((zs.take len).map Int.toNat)[j]? = some zs[j].toNat := by rw [List.getElem?_map, List.getElem?_take, if_pos hj, hzj]; rfl
      have hwf := hw zs[j] (List.getElem_mem _)
      simp only [Lit.wf, Bool.and_eq_true, decide_eq_true_eq] at hwf
      have e1 : IntKind.u64.min = 0 := by decide
      have hc2 := hcell j (by omega)
      rw [List.getD_eq_getElem?_getD, hzj] at hc2
      have e3 : (⟨b, o, none⟩ : Addr).add j = ⟨b, o + j, none⟩ := by unfold Addr.add; split <;> simp_all
      rw [← e3, hc2, dg_vlb B_pos hdg hg, Int.toNat_of_nonneg (by omega)]; rfl
theorem open_dy {fuel : Nat} {cs : List Value} {x : DataW H × List MemPlace} (hs : ∀ a l c, cs[1]? = some (.slice (some a) l c) → a.spot = none) (h : DataW.trod enc Tryz.prog W 0 sp hd fuel 27 cs = some x) : ∃ (s : Bool) (a : Option Addr) (k c n : Nat) (E : Int), cs = [.bool s, .slice a k c, .int .i64 E] ∧ Nm W a k c n := by
  obtain ⟨xs, n, rfl, rfl, hl, hxl, hf⟩ := DataW.trod_struct Tryz.underlying27 h
  obtain ⟨c0, c1, c2, rfl⟩ := len3 (hl.trans lenDy)
  obtain ⟨y0, y1, rfl⟩ := len2D (hxl.trans rfl)
  have h0 : DataW.trod enc Tryz.prog W 0 sp hd n 25 (([c0, c1, c2].drop 0).take (Tryz.prog.cellsOf 25)) = some y0 := hf 0 _ rfl
  have h1 : DataW.trod enc Tryz.prog W 0 sp hd n 3 (([c0, c1, c2].drop 2).take (Tryz.prog.cellsOf 3)) = some y1 := hf 1 _ rfl
  rw [lenIn] at h0
  rw [lenW] at h1
  obtain ⟨E, e1, _, _⟩ := DataW.trod_int Tryz.underlying3 h1
  obtain rfl : _ = _ := (List.cons.inj e1).1
  obtain ⟨zs, n2, e0, _, hl2, hxl2, hf2⟩ := DataW.trod_struct Tryz.underlying25 h0
  subst e0
  obtain ⟨u0, u1, rfl⟩ := len2D (hxl2.trans rfl)
  have k0 : DataW.trod enc Tryz.prog W 0 sp hd n2 4 (([c0, c1].drop 0).take (Tryz.prog.cellsOf 4)) = some u0 := hf2 0 _ rfl
  have k1 : DataW.trod enc Tryz.prog W 0 sp hd n2 23 (([c0, c1].drop 1).take (Tryz.prog.cellsOf 23)) = some u1 := hf2 1 _ rfl
  rw [lenB] at k0
  rw [lenNa] at k1
  obtain ⟨s, e2, _⟩ := DataW.trod_bool Tryz.underlying4 k0
  obtain rfl : _ = _ := (List.cons.inj e2).1
  obtain ⟨a, k, c, m, e3, hN⟩ := open_nat (fun a l c hc => hs a l c (by have := (List.cons.inj hc).1; rw [← this]; rfl)) k1
  obtain rfl : _ = _ := (List.cons.inj e3).1
  exact ⟨s, a, k, c, m, E, rfl, hN⟩
set_option maxRecDepth 100000 in
theorem spot_dy {base : Nat} {cs : Array Value} (h : Row.okWide Tryz.prog W .any base 27 cs) : ∀ a l c, cs.toList[1]? = some (.slice (some a) l c) → a.spot = none := by
  intro a l c hc
  obtain ⟨ts, hts, _, hall⟩ := h
  have e : Tryz.prog.cellTypes Tryz.prog.depth 27 = some [4, 23, 3] := by kernel_rfl
  obtain rfl := Option.some.inj (e.symm.trans hts)
  obtain ⟨u, hu, hok⟩ := hall 1 _ (by simpa using hc)
  cases hu
  unfold Cell.okWide at hok
  rw [Tryz.underlying23] at hok
  simp only at hok
  unfold Cell.ok at hok
  rw [Tryz.underlying23] at hok
  exact hok.2.2.2.1
theorem len3D {α : Type} {l : List α} (h : l.length = 3) : ∃ a b c, l = [a, b, c] := by
  match l, h with
  | [a, b, c], _ => exact ⟨a, b, c, rfl⟩
theorem lenWay : Tryz.prog.cellsOf 40 = 3 := by kernel_rfl
theorem open_way {fuel : Nat} {cs : List Value} {x : DataW H × List MemPlace} (h : DataW.trod enc Tryz.prog W 0 sp hd fuel 40 cs = some x) : ∃ (p n : Int) (u : Bool), cs = [.int .i64 p, .int .i64 n, .bool u] := by
  obtain ⟨xs, n, rfl, rfl, hl, hxl, hf⟩ := DataW.trod_struct Tryz.underlying40 h
  obtain ⟨c0, c1, c2, rfl⟩ := len3D (hl.trans lenWay)
  obtain ⟨y0, y1, y2, rfl⟩ := len3D (hxl.trans rfl)
  have h0 : DataW.trod enc Tryz.prog W 0 sp hd n 3 (([c0, c1, c2].drop 0).take (Tryz.prog.cellsOf 3)) = some y0 := hf 0 _ rfl
  have h1 : DataW.trod enc Tryz.prog W 0 sp hd n 3 (([c0, c1, c2].drop 1).take (Tryz.prog.cellsOf 3)) = some y1 := hf 1 _ rfl
  have h2 : DataW.trod enc Tryz.prog W 0 sp hd n 4 (([c0, c1, c2].drop 2).take (Tryz.prog.cellsOf 4)) = some y2 := hf 2 _ rfl
  rw [lenW] at h0 h1
  rw [lenB] at h2
  obtain ⟨p, e0, _, _⟩ := DataW.trod_int Tryz.underlying3 h0
  obtain rfl : _ = _ := (List.cons.inj e0).1
  obtain ⟨q, e1, _, _⟩ := DataW.trod_int Tryz.underlying3 h1
  obtain rfl : _ = _ := (List.cons.inj e1).1
  obtain ⟨u, e2, _⟩ := DataW.trod_bool Tryz.underlying4 h2
  obtain rfl : _ = _ := (List.cons.inj e2).1
  exact ⟨p, q, u, rfl⟩
end
theorem iface_cell {W : World} {nm ifn : String} {d : DataW Unit} {r : List (String × DataW Unit)} {gi : Nat} {ms : Array (String × TypeId)} (h : laidMet Tryz.prog ((nm, .iface ifn d) :: r) W) (hg : Tryz.prog.globalNamed nm = some gi) (ht : (Tryz.prog.globals[gi]?).map (·.type) = some 61) (hi : Tryz.prog.underlying 61 = some (.interface ms)) :
    ∃ ev, W.cell? ⟨gi, 0, none⟩ = some ev ∧ (ev = .nilIface ∨ ∃ te pe, ev = .iface te pe) := by
  obtain ⟨ps, ⟨g0, t0, cs0, f0, p0, q0, hg0, ht0, hv0, hd0, _, e0⟩, _, _⟩ := h
  obtain rfl := Option.some.inj (hg.symm.trans hg0)
  obtain rfl := Option.some.inj (ht.symm.trans ht0)
  obtain ⟨_, u, v, hcs, _, _⟩ := iface_of_trod hi hd0
  have h1 := World.var?_cell hg hv0 0
  obtain ⟨l0⟩ := cs0
  simp only at hcs
  subst hcs
  exact ⟨_, h1, .inr ⟨u, v, rfl⟩⟩
theorem wn_of {W : World} (hL : laidMetH Tryz.prog Rows.dyadRoundsRow.laid W) (hsh : W.ShapedOpen Tryz.prog) : Wn W := by
  rw [MakeChecks.laidMetH_plain _ _ _ (by kernel_rfl)] at hL
  have h2 := hL.tail.tail
  have h3 := h2.tail
  have h4 := h3.tail
  refine ⟨cell_of_shapedOpen_int hsh (zero := #[.int .i64 0]) (g := 0) (t := 3) (by decide) (by kernel_rfl) rfl (by kernel_rfl) (by kernel_rfl) Tryz.underlying3,
    iface_cell h4 (by kernel_rfl) (by kernel_rfl) Tryz.underlying61, iface_cell h3 (by kernel_rfl) (by kernel_rfl) Tryz.underlying61, ?_⟩
  have hT := Lib.tabIs_of_head (name := "internal/strconv.uint64pow10") (k := .u64) (zs := Lib.pow10Tab) (g := 5) (t := 161) (e := 66) (n := 20) (by kernel_rfl) (by kernel_rfl) Tryz.underlying161 Tryz.underlying66 lenU (by kernel_rfl) h2
  unfold Lib.TabIs World.var? at hT
  have hgn : Tryz.prog.globalNamed "internal/strconv.uint64pow10" = some 5 := by kernel_rfl
  rw [hgn] at hT
  simp only [Option.bind_some] at hT
  split at hT
  · rename_i cs T f hh
    exact ⟨T, f, by rw [hh]; have := Option.some.inj hT; rw [this]⟩
  · cases hT
set_option maxRecDepth 100000 in
theorem dyadRounds_lifted (os : Os) (started : os.Started) (H : Type) (enc : TypeId × Value → H) :
    ReturnsInHanded {} Tryz.checked os 4 .any (fun w args => (Rows.dyadRoundsSpec.pre enc Tryz.prog Tryz.f4 [] false w args ∧ laidMetH Tryz.prog Rows.dyadRoundsRow.laid w) ∧ sizedMet enc Tryz.prog Tryz.f4 (OpenSpec.ofChange Rows.dyadRoundsSpec) false w args)
      (Rows.dyadRoundsSpec.post enc Tryz.prog Tryz.f4 false true false false) := by
  refine handed_and_shaped (C := Tryz.checked) (X := fun w _ => laidMetH Tryz.prog Rows.dyadRoundsRow.laid w) (fun _ _ _ hh h => h.of_heap hh) own started (by kernel_rfl) Tryz.func4
    (ChangeSpec.witness_shaped (enc := enc) (C := Tryz.checked) (os := os) (X := fun w _ => laidMetH Tryz.prog Rows.dyadRoundsRow.laid w) false (World.doorLaid Tryz.prog 400 os) #[.agg #[.bool false, .slice none 0 0, .int .i64 0], .agg #[.bool false, .slice none 0 0, .int .i64 0], .agg #[.int .i64 0, .int .i64 0, .bool false]] 8 rfl (World.shaped_of_RefB (by kernel_rfl) (by kernel_rfl)) (by kernel_rfl) (by kernel_rfl) (by kernel_rfl) (door_met os _)) ?_
  intro W base args ds gs before hval0 hW hL hsh
  have hval : ∀ (j : Nat) t v, Tryz.f4.params[j]? = some t → args[j]? = some v → Value.okWide Tryz.prog W .any base t v := hval0
  have hW' := hW
  have hlt : ∀ y ∈ before, y.block < W.heap.size := fun y hy => by simpa using hW'.lt y hy
  obtain ⟨p, q, hA0, hV, rfl, _, _⟩ := hW
  have hA : DataW.TrodAll enc Tryz.prog W 0 (fun _ => true) true Tryz.f4.params.toList args.toList ds p := hA0
  rw [Tryz.params4] at hA hval
  obtain ⟨v0, v1, v2, d0, d1, d2, p0, p1, p2, rfl, rfl, rfl, h0, h1, h2⟩ := trodAll_three hA
  obtain ⟨rfl, rfl⟩ := trodVars_none hV
  have hk0 := h0
  obtain ⟨f0, ht0⟩ := h0
  have ho0 := hval 0 27 v0 rfl rfl
  unfold Value.okWide at ho0
  rw [Tryz.underlying27] at ho0
  obtain ⟨as0, rfl, _, hr0⟩ := ho0
  obtain ⟨s0, a0, k0, c0, n0, e0, hcs0, hN0⟩ := open_dy (spot_dy hr0) ht0
  obtain rfl : as0 = #[.bool s0, .slice a0 k0 c0, .int .i64 e0] := Array.toList_inj.1 hcs0
  have hk1 := h1
  obtain ⟨f1, ht1⟩ := h1
  have ho1 := hval 1 27 v1 rfl rfl
  unfold Value.okWide at ho1
  rw [Tryz.underlying27] at ho1
  obtain ⟨as1, rfl, _, hr1⟩ := ho1
  obtain ⟨s1, a1, k1, c1, n1, e1, hcs1, hN1⟩ := open_dy (spot_dy hr1) ht1
  obtain rfl : as1 = #[.bool s1, .slice a1 k1 c1, .int .i64 e1] := Array.toList_inj.1 hcs1
  have hk2 := h2
  obtain ⟨f2, ht2⟩ := h2
  have ho2 := hval 2 40 v2 rfl rfl
  unfold Value.okWide at ho2
  rw [Tryz.underlying40] at ho2
  obtain ⟨as2, rfl, _, hr2⟩ := ho2
  obtain ⟨P2, N2, u2, hcs2⟩ := open_way ht2
  obtain rfl : as2 = #[.int .i64 P2, .int .i64 N2, .bool u2] := Array.toList_inj.1 hcs2
  clear hA0 hval0
  simp only [List.append_nil] at hW' hlt
  refine Calls.mono (rounds_ok s0 s1 e0 e1 P2 N2 u2 W hN0 hN1 (wn_of hL hsh)) fun e W' ⟨v, he, hv, hx⟩ => ?_
  subst he; subst hv
  exact ⟨_, rfl, post_ext2 (pv := []) hW' (fun _ _ _ => trodAll_mk1 (shut_bool Tryz.underlying4 _)) (trodAll_mk3 (Below.trod laidB (by kernel_rfl) (of_decide_eq_true (by kernel_rfl)) hk0 (below_ext hx) (fun y hy => hlt y (by simp [hy]))) (Below.trod laidB (by kernel_rfl) (of_decide_eq_true (by kernel_rfl)) hk1 (below_ext hx) (fun y hy => hlt y (by simp [hy]))) (Below.trod laidB (by kernel_rfl) (of_decide_eq_true (by kernel_rfl)) hk2 (below_ext hx) (fun y hy => hlt y (by simp [hy])))) (fun _ _ => rfl) (by simp) (below_ext hx)⟩
theorem dyadRounds_holds : Rows.DyadRoundsSaid :=
  OpenClaim.holds_of_wide 4 Tryz.f4 rfl rfl rfl rfl rfl rfl rfl ⟨rfl, rfl, rfl, rfl, rfl⟩ rfl rfl rfl rfl rfl (by kernel_rfl) Tryz.func4 (by kernel_rfl)
    (of_decide_eq_true (by kernel_rfl)) (by unfold Func.isWrapper; first | (rw [if_pos (by decide +kernel)]; kernel_rfl) | (rw [if_neg (by decide +kernel)]; exact ⟨rfl, rfl⟩))
    (fun os started H enc _ => dyadRounds_lifted os started H enc)
end Go.Proofs.YtoapegnngbhkbaaGreatDoor
end
section
namespace Go.Proofs.YtoapegnngbhkbaaGreatDoor
open Go
theorem dyadRounds_card : Rows.DyadRoundsCardSaid :=
  Claim7.holds_tied_plain_at .later [] [.data, .data, .data, .sentinel, .sentinel] true (true, "65eefca07c8a0b6431abd45faa018bc5804f53caed0b7d4ce78f6050a5bfc3ba") true
    dyadRounds_holds (fun _ h => by cases h) (by kernel_rfl) (fun _ h => by cases h) dyadRounds_row_tie rfl ⟨rfl, rfl⟩ (by kernel_rfl) rfl
    (fun f fn hf hfn => by
      obtain rfl : f = 4 := Option.some.inj ((show Tryz.prog.funcNamed "stepstone/stepstonelaw05.DyadRounds" = some 4 by kernel_rfl).symm.trans hf) |>.symm
      obtain rfl : fn = Tryz.f4 := (Option.some.inj (Tryz.func4.symm.trans hfn)).symm
      exact ⟨by kernel_rfl, fun j t ht => by
        rw [Tryz.params4] at ht
        rcases j with _ | _ | _ | j
        · obtain rfl : t = 27 := by simpa using ht.symm
          exact (show Tryz.prog.wantsStandIn 27 = false by kernel_rfl)
        · obtain rfl : t = 27 := by simpa using ht.symm
          exact (show Tryz.prog.wantsStandIn 27 = false by kernel_rfl)
        · obtain rfl : t = 40 := by simpa using ht.symm
          exact (show Tryz.prog.wantsStandIn 40 = false by kernel_rfl)
        · simp at ht⟩)
    (by kernel_rfl)
end Go.Proofs.YtoapegnngbhkbaaGreatDoor
end
