/- Layer 5, DyadTexts: Text and Parse of dyadic numbers tell what the document says. Part 9 of 9. -/
import Derived.Test.YtoapegnngbhkbaaGreatDoorT08
import Derived.HandedShaped
import Derived.Handed
import Derived.ChangeArms
import Derived.OpenShut
import Derived.ChangeSlices
import Derived.Carry
import Derived.Test.YtoapegnngbhkbaaGreatDoorRows
import Derived.Deep.DeepHandedRow
import Derived.ProofKit
import Derived.LaidMore
import Derived.Stop.Joined
import Derived.Stop.LaidErr
import Derived.Shelf.Vars
import Derived.Test.YtoapegnngbhkbaaGreatDoorTie
import Derived.Test.YtoapegnngbhkbaaGreatDoorCards
import Derived.SevenTiedAt
section
namespace Go.Proofs.YtoapegnngbhkbaaGreatDoor
open Go.RowKit Go.Sx
open Go.Num
theorem may_d {E : Int} (h : -1048576 ≤ E) : decide (E ≤ 1048576) = mayE E := by unfold mayE mx; exact decide_eq_decide.2 (by omega)
theorem may_d2 {E : Int} (h : ¬ -1048576 ≤ E) : mayE E = false := by unfold mayE mx; exact decide_eq_false (by omega)
theorem iNormN_ok (s : Bool) {a : Option Addr} {k c n : Nat} (w : World) (hA : Nm w a k c n) (hk : k ≤ 4000000) : Ret Tryz.prog 35 #[.agg #[.bool s, .slice a k c]] w (Tel (fun a c => .agg #[.bool (s && decide (n ≠ 0)), .slice a (sz n) c]) (sz n) n w) := by
 have := iNorm_ok s w hA hk
 rwa [ng_iv, iv_abs] at this
theorem even_tz {n i : Nat} (hi : i ≤ tz n) (h : n / 2 ^ i % 2 ≠ 1) (hn : n ≠ 0) : i + 1 ≤ tz n := by
 rcases Nat.lt_or_ge i (tz n) with h1 | h1
 ·exact h1
 ·exact absurd (tz_at hn) (by rw [show tz n = i by omega]; exact h)
set_option maxRecDepth 100000 in
set_option maxHeartbeats 400000 in
theorem jSmall_ok (s : Bool) (E : Int) (a : Option Addr) (k c : Nat) (w : World) :
  Ret Tryz.prog 5 #[.agg #[.bool s, .slice a k c, .int .i64 E]] w (fun v w' => v = .bool (decide (k ≤ 4 ∧ -300 ≤ E ∧ E ≤ 300)) ∧ Ext w w') := by
 refine enter (S := No) (l := [_]) (L := []) 18 Tryz.func5 rfl rfl rfl (St.start w No) ?_; refine yA ?_; refine w_boxA rfl (fun p gp up => ?_)
 refine aB rfl ?_; refine yC ?_; refine zf fa27_0 rfl ?_; refine zf fa25_1 rfl ?_; refine zl z23 rfl (fun _ h => zc 0 rfl rfl h) ?_; refine w_r (fun _ => R_len sl23 rfl) rfl rfl ?_; refine w_r (fun _ => R_leN (a := k) (b := 4) rfl rfl) rfl rfl ?_; refine mB rfl ?_; refine zd (t := 8) rfl (fun h2 => ?_) (fun h2 => ?_)
 ·refine zw rfl rfl (bT h2) ?_; refine zf fa27_1 rfl ?_; refine zw rfl rfl (bT h2) ?_; refine zl z3 rfl (fun _ h => zc 0 rfl rfl h) ?_; refine zw rfl rfl (bT h2) ?_; refine w_r (fun _ => R_ge rfl rfl) rfl rfl ?_; refine w_r (v := .bool _) (fun _ => zT (bT h2) rfl) rfl rfl ?_; refine mB rfl ?_; refine zd (t := 13) rfl (fun h3 => ?_) (fun h3 => ?_)
  ·refine zw rfl rfl (bT h3) ?_; refine zf fa27_1 rfl ?_; refine zw rfl rfl (bT h3) ?_; refine zl z3 rfl (fun _ h => zc 0 rfl rfl h) ?_; refine zw rfl rfl (bT h3) ?_; refine w_r (fun _ => R_le rfl rfl) rfl rfl ?_; refine w_r (v := .bool _) (fun _ => zT (bT h3) rfl) rfl rfl ?_; refine aB rfl ?_; refine yB ?_; refine ze ?_; refine zo (v := .bool _) rfl rfl rfl ?_; exact fun w' hw => ⟨by congr 1; exact decide_eq_decide.2 (by omega), hw.fr (w, No) (.head _)⟩
  ·refine zs rfl rfl (bF h3) ?_; refine zs rfl rfl (bF h3) ?_; refine zs rfl rfl (bF h3) ?_; refine w_r (v := .bool _) (fun _ => zF (bF h3) rfl) rfl rfl ?_; refine aB rfl ?_; refine yB ?_; refine ze ?_; refine zo (v := .bool _) rfl rfl rfl ?_; exact fun w' hw => ⟨by congr 1; exact (decide_eq_false (by omega)).symm, hw.fr (w, No) (.head _)⟩
 ·refine zs rfl rfl (bF h2) ?_; refine zs rfl rfl (bF h2) ?_; refine zs rfl rfl (bF h2) ?_; refine w_r (v := .bool _) (fun _ => zF (bF h2) rfl) rfl rfl ?_; refine mB rfl ?_; refine zs rfl rfl rfl ?_; refine zs rfl rfl rfl ?_; refine zs rfl rfl rfl ?_; refine w_r (v := .bool _) (fun _ => zF rfl rfl) rfl rfl ?_; refine aB rfl ?_; refine yB ?_; refine ze ?_; refine zo (v := .bool _) rfl rfl rfl ?_; exact fun w' hw => ⟨by congr 1; exact (decide_eq_false (by omega)).symm, hw.fr (w, No) (.head _)⟩
set_option maxRecDepth 100000 in
set_option maxHeartbeats 400000 in
theorem jMay_ok (s : Bool) (E : Int) {a : Option Addr} {k c n : Nat} (w : World) (hA : Nm w a k c n) (hs : k ≤ 1000 ∧ sz n ≤ 2048) :
  Ret Tryz.prog 32 #[.agg #[.bool s, .slice a k c, .int .i64 E]] w (fun v w' => v = .bool (mayE E) ∧ Ext w w') := by
 refine enter (S := No) (l := [_]) (L := []) 18 Tryz.func32 rfl rfl rfl (St.start w No) ?_; refine yA ?_; refine w_boxA rfl (fun p gp up => ?_)
 refine aB rfl ?_; refine yC ?_; refine zf fa27_0 rfl ?_; refine zf fa25_1 rfl ?_; refine zl z23 rfl (fun _ h => zc 0 rfl rfl h) ?_; refine zC (fun w => zR Tryz.func66 rfl rfl rfl) rfl rfl (fun w h => rLong_ok w ((Kn.old hA).at_ 0 rfl h) (by omega)) ?_; refine w_r (fun _ => R_not rfl) rfl rfl ?_; refine mB rfl ?_; refine zp (t := 8) rfl (fun h2 => ?_) (fun h2 => ?_)
 ·refine zw rfl rfl (bV h2) ?_; refine zf fa27_1 rfl ?_; refine zw rfl rfl (bV h2) ?_; refine zl z3 rfl (fun _ h => zc 0 rfl rfl h) ?_; refine zw rfl rfl (bV h2) ?_; refine w_r (fun _ => R_ge rfl rfl) rfl rfl ?_; refine w_r (v := .bool _) (fun _ => zT (bV h2) rfl) rfl rfl ?_; refine mB rfl ?_; refine zd (t := 13) rfl (fun h3 => ?_) (fun h3 => ?_)
  ·refine zw rfl rfl (bT h3) ?_; refine zf fa27_1 rfl ?_; refine zw rfl rfl (bT h3) ?_; refine zl z3 rfl (fun _ h => zc 0 rfl rfl h) ?_; refine zw rfl rfl (bT h3) ?_; refine w_r (fun _ => R_le rfl rfl) rfl rfl ?_; refine w_r (v := .bool _) (fun _ => zT (bT h3) rfl) rfl rfl ?_; refine aB rfl ?_; refine yB ?_; refine ze ?_; refine zo (v := .bool _) rfl rfl rfl ?_; exact fun w' hw => ⟨by rw [may_d h3], hw.fr (w, No) (.head _)⟩
  ·refine zs rfl rfl (bF h3) ?_; refine zs rfl rfl (bF h3) ?_; refine zs rfl rfl (bF h3) ?_; refine w_r (v := .bool _) (fun _ => zF (bF h3) rfl) rfl rfl ?_; refine aB rfl ?_; refine yB ?_; refine ze ?_; refine zo (v := .bool _) rfl rfl rfl ?_; exact fun w' hw => ⟨by rw [may_d2 h3], hw.fr (w, No) (.head _)⟩
 ·simp at h2; omega
set_option maxRecDepth 100000 in
set_option maxHeartbeats 1000000 in
theorem jNorm_ok (s : Bool) (E : Int) {a : Option Addr} {k c n : Nat} (w : World) (hA : Nm w a k c n) (hs : k ≤ 1000 ∧ sz n ≤ 2047 ∧ -4611686018427387904 ≤ E ∧ E ≤ 4611686018427387904) :
  Ret Tryz.prog 12 #[.agg #[.bool s, .slice a k c, .int .i64 E]] w (Tel (fun a c => .agg #[.bool (ng ((nd (iv s n) E)).1), .slice a (sz ((nd (iv s n) E)).1.natAbs) c, .int .i64 ((nd (iv s n) E)).2]) (sz ((nd (iv s n) E)).1.natAbs) ((nd (iv s n) E)).1.natAbs w) := by
 have hn20 : n / 2 ^ 0 = n := by rw [Nat.pow_zero, Nat.div_one]
 refine enter (S := No) (l := [_]) (L := []) 28 Tryz.func12 rfl rfl rfl (St.start w No) ?_; refine yA ?_; refine w_boxA rfl (fun p gp up => ?_)
 refine w_alloc zr27 (fun r gr ur => ?_)
 refine yC ?_; refine zf fa27_0 rfl ?_; refine w_loadA z25 rfl (fun _ h => h.at_ 1 rfl) rfl ?_; refine w_tel (fun w => zR Tryz.func35 rfl rfl rfl) rfl rfl (fun w h => iNormN_ok s w ((Kn.old hA).at_ 0 rfl h) (by omega)) (fun x0 a0 c0 hK0 hN0 => ?_)
 refine w_alloc zr25 (fun b3 gb3 ub3 => ?_)
 refine w_store 0 rfl z25 rfl rfl rfl rfl rfl rfl rfl ?_; refine yB ?_; refine zq ?_; refine yA ?_; refine zf fa25_1 rfl ?_; refine zl z23 rfl (fun _ h => zc 0 rfl rfl h) ?_; refine w_r (fun _ => R_len sl23 rfl) rfl rfl ?_; refine w_r (fun _ => R_eqN (a := (sz n)) (b := 0) rfl rfl) rfl rfl ?_; refine yB ?_; refine zD rfl (fun h5 => ?_) (fun h5 => ?_)
 ·obtain rfl : n = 0 := sz_eq_zero.1 (by omega)
  refine yA ?_; refine w_r (fun _ => R_build bt27 rfl) rfl rfl ?_; refine w_store 1 rfl z27 rfl rfl rfl rfl rfl rfl rfl ?_; refine yB ?_; refine ze ?_; refine zt (?_)
  rw [iv_zero, nd_zero]
  refine r_fin (.inl rfl) rfl (.agg rfl rfl z27 (fun _ h => h.at_ 1 rfl) rfl .nil) ?_; exact fun w' hw => ⟨none, 0, rfl, Nm.nil _, Fsh.nil _ _, hw.fr (w, No) (.tail _ (.head _))⟩
 ·have hn0 : n ≠ 0 := (fun h => h5 (by rw [h]; rfl)); rw [show (s && decide (n ≠ 0)) = s by rw [decide_eq_true hn0, Bool.and_true]]
  refine zi ?_; refine zk ?_; refine yA ?_; refine zf fa27_1 rfl ?_; refine zl z3 rfl (fun _ h => zc 2 rfl rfl h) ?_; refine aI rfl ?_; refine yB ?_; refine zq ?_; refine zB ?_; refine c_st (B' := [x0, (w, No)]) (L' := [(b3, cel [.bool s, .slice a0 (sz (n / 2 ^ 0)) c0] 25), (r, cel [.bool false, .slice none 0 0, .int .i64 0] 27), (p, cel [.bool s, .slice a k c, .int .i64 E] 27)]) (fun w h => by rw [hn20]; exact h) ?_
  refine c_loop (fun m9 e B L => ∃ (i : Nat) (yi : BaseW) (ai : Option Addr) (ci : Nat), e 1 = .pointer (some ⟨p, 0, none⟩) ∧ e 2 = .pointer (some ⟨r, 0, none⟩) ∧ e 3 = .pointer (some ⟨b3, 0, none⟩) ∧ e 4 = .int .i64 (E + (i : Int)) ∧ B = [yi, (w, No)] ∧ L = [(b3, cel [.bool s, .slice ai (sz (n / 2 ^ i)) ci] 25), (r, cel [.bool false, .slice none 0 0, .int .i64 0] 27), (p, cel [.bool s, .slice a k c, .int .i64 E] 27)] ∧ i ≤ tz n ∧ Kn yi ai (sz (n / 2 ^ i)) ci (n / 2 ^ i) ∧ New_ [(w, No)] ai (sz (n / 2 ^ i)) ∧ m9 = tz n - i) _ ⟨0, x0, a0, c0, rfl, rfl, rfl, (congrArg (fun z : Int => Value.int .i64 z) (by omega)), rfl, rfl, Nat.zero_le _, by rw [hn20]; exact hK0, by rw [hn20]; exact hN0, rfl⟩ ?_
  rintro m9 e B L ⟨i, yi, ai, ci, e1_1, e2_1, e3_1, e4_1, rfl, rfl, hi, hKi, hNi, rfl⟩
  have htz := tz_bl hn0; have hbz := bl_sz hs.2.1; have hdi := sz_mono (Nat.div_le_self n (2 ^ i))
  refine zq ?_; refine yA ?_; refine zf fa25_1 e3_1 ?_; refine zl z23 rfl (fun _ h => zc 0 rfl rfl h) ?_; refine zC (fun w => zR Tryz.func36 rfl rfl rfl) rfl rfl (fun w h => rBit_ok w (hKi.at_ 0 rfl h) 0 ⟨by omega, by decide⟩) ?_; refine w_r (fun _ => R_not rfl) rfl rfl ?_; refine yB ?_; refine c_condN rfl (fun h6 => ?_) (fun h6 => ?_)
  ·have hi2 := even_tz hi (by have := of_decide_eq_false h6; rwa [Nat.pow_zero, Nat.div_one] at this) hn0
   refine zi ?_; refine zk ?_; refine zB ?_; refine yA ?_; refine zf fa25_1 e3_1 ?_; refine zl z23 rfl (fun _ h => zc 0 rfl rfl h) ?_; refine w_tel (fun w => zR Tryz.func37 rfl rfl rfl) rfl rfl (fun w h => (by have := rShr_ok w (hKi.at_ 0 rfl h) 1 ⟨by omega, by decide⟩; rwa [Nat.pow_one, Nat.div_div_eq_div_mul, ← Nat.pow_succ] at this)) (fun xv av cv hKv hNv => ?_)
   refine zf fa25_1 e3_1 ?_; refine w_store 0 rfl z23 rfl rfl rfl rfl rfl rfl rfl ?_; refine yB ?_; refine zr ?_; refine mI e4_1 ?_; refine w_r (fun _ => R_addi rfl rfl (by omega)) rfl rfl ?_; refine aI rfl ?_; refine zn ?_; refine b_on (?_)
   refine k_st (B' := [xv, (w, No)]) (L' := _) (fun w h => (h.pick [0, 1, 2] (by decide)).unbase (fun x hx => by rcases List.mem_cons.1 hx with rfl | hx; (exact (.head _)); rcases List.mem_cons.1 hx with rfl | hx; (exact (.tail _ (.tail _ (.head _)))); exact absurd hx (by simp))) ?_; exact k_again _ (by omega) ⟨i + 1, xv, av, cv, e1_1, e2_1, e3_1, (congrArg (fun z : Int => Value.int .i64 z) (by omega)), rfl, rfl, hi2, hKv, fun y hy => hNv y (by rcases List.mem_cons.1 hy with rfl | hy; (exact (.tail _ (.head _))); exact absurd hy (by simp)), rfl⟩
  ·have hiz : i = tz n := Nat.le_antisymm hi (tz_least i n (by have := of_decide_eq_true h6; rwa [Nat.pow_zero, Nat.div_one] at this))
   refine c_exit ?_; refine zx (zx (b_here rfl (zk ?_))); refine yA ?_; refine w_loadA z25 e3_1 (fun _ h => h.at_ 0 rfl) rfl ?_; refine mI e4_1 ?_; refine w_r (fun _ => R_build bt27 rfl) rfl rfl ?_; refine w_store 1 rfl z27 e2_1 rfl rfl rfl rfl rfl rfl ?_; refine yB ?_; refine ze ?_
   have hnd := nd_all (s := s) E hn0
   rw [hnd.1, hnd.2.1, hnd.2.2, show od n = n / 2 ^ i from by rw [hiz]; rfl, ← hiz]
   refine r_fin (.inl rfl) rfl (.agg rfl e2_1 z27 (fun _ h => h.at_ 1 rfl) rfl .nil) ?_; exact fun w' hw => ⟨_, _, rfl, (hKi.at_ 0 rfl hw), (hNi _ (.head _)), hw.fr (w, No) (.tail _ (.head _))⟩
theorem iTextI_ok (x : Int) {a : Option Addr} {c : Nat} (w : World) (hA : Nm w a (sz x.natAbs) c x.natAbs) (hs : sz x.natAbs ≤ 1000) : Ret Tryz.prog 33 #[.agg #[.bool (ng (x)), .slice a (sz (x).natAbs) c]] w fun v w' => v = str (Lib.itoa x) ∧ Ext w w' := by
 have := iText_ok (ng x) w hA hs
 rwa [iv_ng] at this
theorem jNormI_ok (x E : Int) {a : Option Addr} {c : Nat} (w : World) (hA : Nm w a (sz x.natAbs) c x.natAbs) (hs : sz x.natAbs ≤ 1000 ∧ -4611686018427387904 ≤ E ∧ E ≤ 4611686018427387904) : Ret Tryz.prog 12 #[.agg #[.bool (ng x), .slice a (sz x.natAbs) c, .int .i64 E]] w (Tel (fun a c => .agg #[.bool (ng (nd x E).1), .slice a (sz (nd x E).1.natAbs) c, .int .i64 (nd x E).2]) (sz (nd x E).1.natAbs) (nd x E).1.natAbs w) := by
 have := jNorm_ok (ng x) E w hA ⟨hs.1, by omega, hs.2⟩
 rwa [iv_ng] at this
theorem nd_expL {s : Bool} {n : Nat} {E : Int} (hn : sz n ≤ 2047) (hE : -2000000 ≤ E ∧ E ≤ 2000000) : -2000000 ≤ (nd (iv s n) E).2 ∧ (nd (iv s n) E).2 ≤ 2200000 := by
 by_cases h : n = 0
 ·subst h; rw [iv_zero, nd_zero]; exact ⟨by decide, by decide⟩
 ·rw [(nd_all E h).2.2]
  have h1 := tz_bl h
  have h2 := bl_sz hn
  omega
theorem bl_e24 {e : Int} (h : -2000000 ≤ e ∧ e ≤ 2200000) : bl e.natAbs ≤ 24 := bl_iff.2 (by omega)
set_option maxRecDepth 100000 in
set_option maxHeartbeats 400000 in
theorem jnumber_ok {x : Int} (w : World) (hx : -4611686018427387904 ≤ x ∧ x ≤ 4611686018427387904) :
  Ret Tryz.prog 34 #[.int .i64 x] w (fun v w' => v = str (Lib.itoa x) ∧ Ext w w') := by
 have hBv : Go.Num.B = 18446744073709551616 := rfl
 have hxs : sz x.natAbs ≤ 1 := sz_iff.2 (by rw [Nat.pow_one]; omega)
 refine enter (S := No) (l := [_]) (L := []) 6 Tryz.func34 rfl rfl rfl (St.start w No) ?_; refine yA ?_; refine za (v := str _) rfl ?_; refine yC ?_; refine mI rfl ?_; refine w_tel (fun w => zR Tryz.func68 rfl rfl rfl) rfl rfl (fun w h => iOf_ok w hx) (fun x1 a1 c1 hK1 hN1 => ?_)
 refine zC (fun w => zR Tryz.func33 rfl rfl rfl) rfl rfl (fun w h => iTextI_ok x w (hK1.at_ 0 rfl h) (by omega)) ?_; refine za (v := str _) rfl ?_; refine yB ?_; refine ze ?_; refine zo (v := str _) rfl rfl rfl ?_; exact fun w' hw => ⟨rfl, hw.fr (w, No) (.tail _ (.head _))⟩
theorem pair_eq {y z : Int × Int} (h : y.1 = z.1) (h2 : y.2 = z.2) : y = z := Prod.ext h h2
theorem dg_par {y : Int × Int} (hno : (y.1 = 0 → y.2 = 0) ∧ (y.1 ≠ 0 → y.1.natAbs % 2 = 1)) (h : 0 < sz y.1.natAbs) : dg Go.Num.B y.1.natAbs 0 % 2 = 1 := by
 have h0 : y.1 ≠ 0 := fun h0 => by rw [h0] at h; exact absurd h (by decide)
 unfold dg
 rw [Nat.pow_zero, Nat.div_one, Nat.mod_mod_of_dvd _ (by decide)]
 exact hno.2 h0
theorem nd_norm {y : Int × Int} (hy : y = nd y.1 y.2) : (y.1 = 0 → y.2 = 0) ∧ (y.1 ≠ 0 → y.1.natAbs % 2 = 1) := by
 refine ⟨fun h => ?_, fun h => ?_⟩
 ·rw [h, nd_zero] at hy; rw [hy]
 ·have h1 : y.2 = y.2 + (tz y.1.natAbs : Int) := by
   have := congrArg Prod.snd hy
   rw [nd_of h] at this
   exact this
  have h2 : tz y.1.natAbs = 0 := by omega
  have := tz_at (n := y.1.natAbs) (by omega)
  rwa [h2, Nat.pow_zero, Nat.div_one] at this
set_option maxRecDepth 100000 in
set_option maxHeartbeats 1000000 in
theorem jText_ok (s : Bool) (E : Int) {a : Option Addr} {k c n : Nat} (w : World) (hA : Nm w a k c n) (hs : k ≤ 1000 ∧ sz n ≤ 900 ∧ -2000000 ≤ E ∧ E ≤ 2000000) :
  Ret Tryz.prog 10 #[.agg #[.bool s, .slice a k c, .int .i64 E]] w (fun v w' => v = str (dt (nd (iv s n) E)) ∧ Ext w w') := by
 have hos := od_sz (s := s) (n := n) E
 have hil := itoa_len (nd (iv s n) E).1
 have hbl := bl_sz (Nat.le_trans hos hs.2.1)
 have hil2 := itoa_len (nd (iv s n) E).2
 have hex := nd_expL (s := s) (n := n) (E := E) (by omega) hs.2.2
 have hb2 := bl_e24 hex
 refine enter (S := No) (l := [_]) (L := []) 13 Tryz.func10 rfl rfl rfl (St.start w No) ?_; refine yA ?_; refine w_boxA rfl (fun p gp up => ?_)
 refine za (v := str _) rfl ?_; refine yC ?_; refine w_loadA z27 rfl (fun _ h => h.at_ 0 rfl) rfl ?_; refine w_tel (fun w => zR Tryz.func12 rfl rfl rfl) rfl rfl (fun w h => jNorm_ok _ _ w ((Kn.old hA).at_ 0 rfl h) ⟨by omega, by omega, by omega, by omega⟩) (fun x2 a2 c2 hK2 hN2 => ?_)
 refine w_store 0 rfl z27 rfl rfl rfl rfl rfl rfl rfl ?_; refine yB ?_; refine zq ?_; refine c_heldS mixed ?_; refine zh 0 rfl (by kernel_rfl) rfl rfl (fun w h => h) (fun w h => R_fa fa27_0 rfl) ?_; refine h_loadA 1 rfl (by kernel_rfl) (fun w h => h) z25 rfl (fun _ h => h.at_ 0 rfl) rfl ?_; refine zh 4 rfl (by kernel_rfl) rfl rfl (fun w h => h) (fun w h => R_fa fa27_1 rfl) ?_; refine zh (v := .int _ _) 5 rfl (by kernel_rfl) rfl rfl (fun w h => h) (fun w h => R_ld1 z3 rfl (zc 0 rfl rfl h)) ?_; refine h_one 2 (by kernel_rfl) (fun w h => h) ?_; refine o_pureW rfl (wn_none rfl) rfl (fun w => zR Tryz.func33 rfl rfl rfl) (fun w h => iTextI_ok _ w (hK2.at_ 0 rfl h) (by omega)) ?_; refine zh 3 rfl (by kernel_rfl) rfl rfl (fun w h => h) (fun w h => R_cat rfl rfl (by (try simp only [List.length_append, List.length_cons, List.length_nil]); omega)) ?_
 refine h_one 6 (by kernel_rfl) (fun w h => h) ?_; refine o_pureW rfl (wn_none rfl) rfl (fun w => zR Tryz.func34 rfl rfl rfl) (fun w h => jnumber_ok w ⟨by omega, by omega⟩) ?_; refine zh 7 rfl (by kernel_rfl) rfl rfl (fun w h => h) (fun w h => R_cat rfl rfl (by (try simp only [List.length_append, List.length_cons, List.length_nil]); omega)) ?_; refine zh (v := str _) 8 rfl (by kernel_rfl) rfl rfl (fun w h => h) (fun w h => R_assign rfl) ?_; refine h_done (by kernel_rfl) (fun w h => h) ?_; refine zk ?_; refine ze ?_; refine zo (v := str _) rfl rfl rfl ?_; exact fun w' hw => ⟨by unfold dt; simp, hw.fr (w, No) (.tail _ (.head _))⟩
set_option maxRecDepth 100000 in
set_option maxHeartbeats 1000000 in
theorem jSame_ok (y z : Int × Int) {a : Option Addr} {c : Nat} {a2 : Option Addr} {c2 : Nat} (w : World) (hA : Nm w a (sz y.1.natAbs) c y.1.natAbs) (hA2 : Nm w a2 (sz z.1.natAbs) c2 z.1.natAbs) (hy : y = nd y.1 y.2) (hs : sz y.1.natAbs ≤ 1000 ∧ sz z.1.natAbs ≤ 1000) :
  Ret Tryz.prog 11 #[.agg #[.bool (ng y.1), .slice a (sz y.1.natAbs) c, .int .i64 y.2], .agg #[.bool (ng z.1), .slice a2 (sz z.1.natAbs) c2, .int .i64 z.2]] w (fun v w' => v = .bool (decide (y = z)) ∧ Ext w w') := by
 have hno := nd_norm hy
 refine enter (S := No) (l := [_, _]) (L := []) 45 Tryz.func11 rfl rfl rfl (St.start w No) ?_; refine yA ?_; refine w_boxA rfl (fun p gp up => ?_)
 refine w_boxA rfl (fun p2 gp2 up2 => ?_)
 refine aB rfl ?_; refine yC ?_; refine zf fa27_1 rfl ?_; refine zl z3 rfl (fun _ h => zc 1 rfl rfl h) ?_; refine zf fa27_1 rfl ?_; refine zl z3 rfl (fun _ h => zc 0 rfl rfl h) ?_; refine w_r (fun _ => R_eq rfl rfl) rfl rfl ?_; refine mB rfl ?_; refine zd (t := 10) rfl (fun h3 => ?_) (fun h3 => ?_)
 ·refine zw rfl rfl (bT h3) ?_; refine zf fa27_0 rfl ?_; refine zw rfl rfl (bT h3) ?_; refine w_loadA z25 rfl (fun _ h => h.at_ 1 rfl) rfl ?_; refine zw rfl rfl (bT h3) ?_; refine zf fa27_0 rfl ?_; refine zw rfl rfl (bT h3) ?_; refine w_loadA z25 rfl (fun _ h => h.at_ 0 rfl) rfl ?_; refine zw rfl rfl (bT h3) ?_; refine zC (fun w => zR Tryz.func18 rfl rfl rfl) rfl rfl (fun w h => iSame_ok y.1 z.1 w ((Kn.old hA).at_ 0 rfl h) ((Kn.old hA2).at_ 0 rfl h) ⟨by omega, by omega⟩) ?_; refine w_r (v := .bool _) (fun _ => zT (bT h3) rfl) rfl rfl ?_; refine mB rfl ?_; refine zp (t := 17) rfl (fun h4 => ?_) (fun h4 => ?_)
  ·have heq := pair_eq (of_decide_eq_true h4) h3
   refine zw rfl rfl (bV h4) ?_; refine zf fa27_0 rfl ?_; refine zw rfl rfl (bV h4) ?_; refine zf fa25_1 rfl ?_; refine zw rfl rfl (bV h4) ?_; refine zl z23 rfl (fun _ h => zc 1 rfl rfl h) ?_; refine zw rfl rfl (bV h4) ?_; refine w_r (fun _ => R_len sl23 rfl) rfl rfl ?_; refine zw rfl rfl (bV h4) ?_; refine w_r (fun _ => R_gtN (a := (sz y.1.natAbs)) (b := 0) rfl rfl) rfl rfl ?_; refine zw rfl rfl (bV h4) ?_; refine mB rfl ?_; refine zd (t := 23) rfl (fun h5 => ?_) (fun h5 => ?_)
   ·refine zw rfl rfl (bT h5) ?_; refine zf fa27_0 rfl ?_; refine zw rfl rfl (bT h5) ?_; refine zf fa25_1 rfl ?_; refine zw rfl rfl (bT h5) ?_; refine zl z23 rfl (fun _ h => zc 1 rfl rfl h) ?_; refine zw rfl rfl (bT h5) ?_; refine w_r (fun _ => R_iaK (i := 0) sl23 rfl ((Kn.old hA).ptr (by omega)) rfl (by omega)) rfl rfl ?_; refine zw rfl rfl (bT h5) ?_; refine zl (v := .int .u64 ((dg Go.Num.B (y.1.natAbs) 0) : Nat)) z66 rfl (fun w h => (Kn.old hA).ca 0 rfl (by omega) h) ?_; refine zw rfl rfl (bT h5) ?_; refine w_r (fun _ => R_remU (a := (dg Go.Num.B (y.1.natAbs) 0)) (b := 2) rfl rfl (by omega)) rfl rfl ?_; refine zw rfl rfl (bT h5) ?_; refine w_r (fun _ => R_eqN (a := ((dg Go.Num.B (y.1.natAbs) 0) % 2)) (b := 1) rfl rfl) rfl rfl ?_
    refine zw rfl rfl (bV h4) ?_; refine w_r (v := .bool _) (fun _ => zT (bT h5) rfl) rfl rfl ?_; refine zw rfl rfl (bV h4) ?_; refine mB rfl ?_; refine zd (t := 32) rfl (fun h6 => ?_) (fun h6 => ?_)
    ·refine zs rfl rfl (bT h6) ?_; refine zs rfl rfl (bT h6) ?_; refine zs rfl rfl (bT h6) ?_; refine zs rfl rfl (bT h6) ?_; refine zs rfl rfl (bT h6) ?_; refine zs rfl rfl (bT h6) ?_; refine zU rfl rfl rfl ?_; refine zU rfl rfl rfl ?_; refine zU rfl rfl rfl ?_; refine zs rfl rfl (bT h6) ?_; refine zw rfl rfl (bV h4) ?_; refine w_r (v := .bool _) (fun _ => zT (bT h6) rfl) rfl rfl ?_; refine w_r (v := .bool _) (fun _ => zT (bV h4) rfl) rfl rfl ?_; refine aB rfl ?_; refine yB ?_; refine ze ?_; refine zo (v := .bool _) rfl rfl rfl ?_; exact fun w' hw => ⟨by rw [decide_eq_true heq], hw.fr (w, No) (.head _)⟩
    ·exact absurd (dg_par hno h5) h6
   ·have hy0 : y.1 = 0 := (by have := sz_eq_zero.1 (show sz y.1.natAbs = 0 by omega); omega)
    refine zs rfl rfl (bF h5) ?_; refine zs rfl rfl (bF h5) ?_; refine zs rfl rfl (bF h5) ?_; refine zs rfl rfl (bF h5) ?_; refine zs rfl rfl (bF h5) ?_; refine zs rfl rfl (bF h5) ?_; refine zs rfl rfl (bF h5) ?_; refine zw rfl rfl (bV h4) ?_; refine w_r (v := .bool _) (fun _ => zF (bF h5) rfl) rfl rfl ?_; refine zw rfl rfl (bV h4) ?_; refine mB rfl ?_; refine zw rfl rfl rfl ?_; refine zf fa27_0 rfl ?_; refine zw rfl rfl rfl ?_; refine zf fa25_1 rfl ?_; refine zw rfl rfl rfl ?_; refine zl z23 rfl (fun _ h => zc 1 rfl rfl h) ?_; refine zw rfl rfl rfl ?_; refine w_r (fun _ => R_len sl23 rfl) rfl rfl ?_; refine zw rfl rfl rfl ?_; refine w_r (fun _ => R_eqN (a := (sz y.1.natAbs)) (b := 0) rfl rfl) rfl rfl ?_; refine zw rfl rfl rfl ?_; refine mB rfl ?_
    refine zd (t := 38) rfl (fun h7 => ?_) (fun h7 => ?_)
    ·refine zw rfl rfl (bT h7) ?_; refine zf fa27_1 rfl ?_; refine zw rfl rfl (bT h7) ?_; refine zl z3 rfl (fun _ h => zc 1 rfl rfl h) ?_; refine zw rfl rfl (bT h7) ?_; refine w_r (fun _ => R_eq rfl rfl) rfl rfl ?_; refine zw rfl rfl rfl ?_; refine w_r (v := .bool _) (fun _ => zT (bT h7) rfl) rfl rfl ?_; refine zw rfl rfl (bV h4) ?_; refine w_r (v := .bool _) (fun _ => zF rfl rfl) rfl rfl ?_; refine w_r (v := .bool _) (fun _ => zT (bV h4) rfl) rfl rfl ?_; refine aB rfl ?_; refine yB ?_; refine ze ?_; refine zo (v := .bool _) rfl rfl rfl ?_; exact fun w' hw => ⟨by rw [decide_eq_true (hno.1 hy0), decide_eq_true heq], hw.fr (w, No) (.head _)⟩
    ·omega
  ·refine zs rfl rfl (bV h4) ?_; refine zs rfl rfl (bV h4) ?_; refine zs rfl rfl (bV h4) ?_; refine zs rfl rfl (bV h4) ?_; refine zs rfl rfl (bV h4) ?_; refine zs rfl rfl (bV h4) ?_; refine zU rfl rfl rfl ?_; refine zU rfl rfl rfl ?_; refine zU rfl rfl rfl ?_; refine zU rfl rfl rfl ?_; refine zU rfl rfl rfl ?_; refine zU rfl rfl rfl ?_; refine zU rfl rfl rfl ?_; refine zs rfl rfl (bV h4) ?_; refine zs rfl rfl (bV h4) ?_; refine zU rfl rfl rfl ?_; refine zU rfl rfl rfl ?_; refine zU rfl rfl rfl ?_; refine zU rfl rfl rfl ?_; refine zU rfl rfl rfl ?_; refine zU rfl rfl rfl ?_; refine zU rfl rfl rfl ?_; refine zU rfl rfl rfl ?_; refine zU rfl rfl rfl ?_; refine zU rfl rfl rfl ?_
   refine zs rfl rfl (bV h4) ?_; refine w_r (v := .bool _) (fun _ => zF (bV h4) rfl) rfl rfl ?_; refine aB rfl ?_; refine yB ?_; refine ze ?_; refine zo (v := .bool _) rfl rfl rfl ?_; exact fun w' hw => ⟨by rw [decide_eq_false (fun h => of_decide_eq_false h4 (by rw [h]))], hw.fr (w, No) (.head _)⟩
 ·refine zs rfl rfl (bF h3) ?_; refine zs rfl rfl (bF h3) ?_; refine zs rfl rfl (bF h3) ?_; refine zs rfl rfl (bF h3) ?_; refine zs rfl rfl (bF h3) ?_; refine w_r (v := .bool _) (fun _ => zF (bF h3) rfl) rfl rfl ?_; refine mB rfl ?_; refine zs rfl rfl rfl ?_; refine zs rfl rfl rfl ?_; refine zs rfl rfl rfl ?_; refine zs rfl rfl rfl ?_; refine zs rfl rfl rfl ?_; refine zs rfl rfl rfl ?_; refine zU rfl rfl rfl ?_; refine zU rfl rfl rfl ?_; refine zU rfl rfl rfl ?_; refine zU rfl rfl rfl ?_; refine zU rfl rfl rfl ?_; refine zU rfl rfl rfl ?_; refine zU rfl rfl rfl ?_; refine zs rfl rfl rfl ?_; refine zs rfl rfl rfl ?_; refine zU rfl rfl rfl ?_; refine zU rfl rfl rfl ?_
  refine zU rfl rfl rfl ?_; refine zU rfl rfl rfl ?_; refine zU rfl rfl rfl ?_; refine zU rfl rfl rfl ?_; refine zU rfl rfl rfl ?_; refine zU rfl rfl rfl ?_; refine zU rfl rfl rfl ?_; refine zU rfl rfl rfl ?_; refine zs rfl rfl rfl ?_; refine w_r (v := .bool _) (fun _ => zF rfl rfl) rfl rfl ?_; refine aB rfl ?_; refine yB ?_; refine ze ?_; refine zo (v := .bool _) rfl rfl rfl ?_; exact fun w' hw => ⟨by rw [decide_eq_false (fun h => h3 (by rw [h]))], hw.fr (w, No) (.head _)⟩
end Go.Proofs.YtoapegnngbhkbaaGreatDoor
end
section
namespace Go.Proofs.YtoapegnngbhkbaaGreatDoor
open Go.RowKit Go.Sx
open Go.Num
theorem no_p {s : List UInt8} {i : Nat} (h : ∀ j, j < i → s[j]? ≠ some 112) (hi : s.length ≤ i) : (112 : UInt8) ∉ s := fun hm => by
  obtain ⟨j, hj, he⟩ := List.getElem_of_mem hm
  exact h j (by omega) (by rw [List.getElem?_eq_getElem hj, he])
theorem jTextI_ok (x E : Int) {a : Option Addr} {c : Nat} (w : World) (hA : Nm w a (sz x.natAbs) c x.natAbs) (hs : sz x.natAbs ≤ 900 ∧ -2000000 ≤ E ∧ E ≤ 2000000) : Ret Tryz.prog 10 #[.agg #[.bool (ng x), .slice a (sz x.natAbs) c, .int .i64 E]] w fun v w' => v = str (dt (nd x E)) ∧ Ext w w' := by
  have := jText_ok (ng x) E w hA ⟨by omega, hs⟩
  rwa [iv_ng] at this
theorem bef_at : ∀ {s : List UInt8} {i : Nat}, s[i]? = some 112 → (∀ j, j < i → s[j]? ≠ some 112) → bef s = s.take i ∧ aft s = s.drop (i + 1) ∧ (112 : UInt8) ∈ s
  | [], i, h, _ => by cases h
  | b :: l, 0, h, _ => by
    have hb : b = 112 := by simpa using h
    subst hb
    exact ⟨rfl, rfl, .head _⟩
  | b :: l, i + 1, h, hno => by
    have hb : b ≠ 112 := fun h0 => hno 0 (Nat.succ_pos _) (by rw [h0]; rfl)
    have hne : (b != 112) = true := by simp [hb]
    obtain ⟨h1, h2, h3⟩ := bef_at (s := l) (i := i) (by simpa using h) (fun j hj => by have := hno (j + 1) (by omega); simpa using this)
    refine ⟨?_, ?_, .tail _ h3⟩
    · unfold bef at h1 ⊢; rw [List.takeWhile_cons, hne, List.take_succ_cons, ← h1]; rfl
    · unfold aft at h2 ⊢; rw [List.dropWhile_cons, hne, List.drop_succ_cons, ← h2]; rfl
theorem rp_none {s : List UInt8} (h : (112 : UInt8) ∉ s) : ppV s = (0, 0) ∧ ppE s = 5 := by
  have : pp s = none := by rw [pp_rp]; unfold rp; rw [if_pos h]
  unfold ppV ppE; rw [this]; exact ⟨rfl, rfl⟩
theorem zpe_ok {s : List UInt8} (h : zpe s = 0) : zpv s = some ((zpv s).getD 0) := by
  unfold zpe at h
  cases hz : zpv s with
  | none => rw [hz] at h; cases h
  | some x => rfl
theorem rp_bad {s : List UInt8} (h : zpe (bef s) ≠ 0 ∨ zpe (aft s) ≠ 0 ∨ ¬ ((zpv (aft s)).getD 0).natAbs ≤ mx) : ppV s = (0, 0) ∧ ppE s = 5 := by
  have : pp s = none := by
    rw [pp_rp]; unfold rp
    split
    · rfl
    · split
      · rename_i x e hx he
        rcases h with h | h | h
        · exact absurd (by unfold zpe; rw [hx]) h
        · exact absurd (by unfold zpe; rw [he]) h
        · rw [he] at h; rw [if_neg (fun h2 => h h2.1)]
      · rfl
  unfold ppV ppE; rw [this]; exact ⟨rfl, rfl⟩
theorem rp_fin {s : List UInt8} (hp : (112 : UInt8) ∈ s) (h1 : zpe (bef s) = 0) (h2 : zpe (aft s) = 0) (he : ((zpv (aft s)).getD 0).natAbs ≤ mx) :
    (¬ ((nd ((zpv (bef s)).getD 0) ((zpv (aft s)).getD 0)).2.natAbs ≤ mx ∧ dt (nd ((zpv (bef s)).getD 0) ((zpv (aft s)).getD 0)) = s) → ppV s = (0, 0) ∧ ppE s = 5) ∧ ((nd ((zpv (bef s)).getD 0) ((zpv (aft s)).getD 0)).2.natAbs ≤ mx → dt (nd ((zpv (bef s)).getD 0) ((zpv (aft s)).getD 0)) = s → ppV s = (((zpv (bef s)).getD 0), ((zpv (aft s)).getD 0)) ∧ ppE s = 0) := by
  have e1 : pp s = if ((zpv (aft s)).getD 0).natAbs ≤ mx ∧ (nd ((zpv (bef s)).getD 0) ((zpv (aft s)).getD 0)).2.natAbs ≤ mx ∧ dt (nd ((zpv (bef s)).getD 0) ((zpv (aft s)).getD 0)) = s then some (((zpv (bef s)).getD 0), ((zpv (aft s)).getD 0)) else none := by
    rw [pp_rp]; unfold rp; rw [if_neg (fun h => h hp)]
    have ha := zpe_ok h1
    have hb := zpe_ok h2
    generalize zpv (bef s) = u at *
    generalize zpv (aft s) = v at *
    cases u with
    | none => cases ha
    | some x => cases v with
      | none => cases hb
      | some e => rfl
  refine ⟨fun h => ?_, fun h h' => ?_⟩
  · unfold ppV ppE; rw [e1, if_neg (fun hh => h hh.2)]; exact ⟨rfl, rfl⟩
  · unfold ppV ppE; rw [e1, if_pos ⟨he, h, h'⟩]; exact ⟨rfl, rfl⟩
theorem big_n {N : Nat} (h : 1 < sz N) : ¬ N ≤ mx := fun h2 => by
  have : sz N ≤ 1 := sz_iff.2 (by rw [Nat.pow_one]; have hBv : Go.Num.B = 18446744073709551616 := rfl; unfold mx at h2; omega)
  omega
theorem one_n {N : Nat} (h : sz N = 1) : dg Go.Num.B N 0 = N := dg_self (by have := sz_iff.1 (Nat.le_of_eq h); rwa [Nat.pow_one] at this)
theorem odI_sz (x e : Int) : sz (nd x e).1.natAbs ≤ sz x.natAbs := by
  have := od_sz (s := ng x) (n := x.natAbs) e
  rwa [iv_ng] at this
theorem mayE_abs {e : Int} (h : e.natAbs ≤ mx) : mayE e = true := decide_eq_true h
theorem may_no {e : Int} (h : (!mayE e) = true) : ¬ e.natAbs ≤ mx := fun h2 => by rw [mayE_abs h2] at h; cases h
theorem may_ok2 {e : Int} (h : (!mayE e) = false) : e.natAbs ≤ mx := by
  by_cases h2 : e.natAbs ≤ mx
  · exact h2
  · rw [show mayE e = false from decide_eq_false h2] at h; cases h
theorem e_pos {e : Int} (h : ng e = false) : e = ((e.natAbs : Nat) : Int) := by rw [ng_false] at h; omega
theorem e_neg {e : Int} (h : ng e = true) (h2 : e.natAbs ≤ mx) : e = IntKind.i64.wrap (-((e.natAbs : Nat) : Int)) := by
  rw [ng_true] at h; unfold mx at h2; rw [wrap_i64 (by omega) (by omega)]; omega
set_option maxRecDepth 100000 in
set_option maxHeartbeats 4000000 in
theorem jParse_ok (s : List UInt8) (w : World) (hs : s.length ≤ 200) :
    Ret Tryz.prog 9 #[str s] w (Tel (fun a c => .tuple #[.agg #[.bool (ng (ppV s).1), .slice a (sz (ppV s).1.natAbs) c, .int .i64 (ppV s).2], .int .i64 (ppE s)]) (sz (ppV s).1.natAbs) (ppV s).1.natAbs w) := by
  have hBv : Go.Num.B = 18446744073709551616 := rfl
  have hbl := bef_len s
  have hal := aft_len s
  have hzs := zpv_sz (s := bef s) (by omega)
  have hze := zpv_sz (s := aft s) (by omega)
  have hns := odI_sz ((zpv (bef s)).getD 0) ((zpv (aft s)).getD 0)
  refine enter (S := No) (l := [_]) (L := []) 97 Tryz.func9 rfl rfl rfl (St.start w No) ?_; refine yA ?_; refine w_alloc zr27 (fun r gr ur => ?_)
  refine aI rfl ?_; refine yB ?_; refine zq ?_; refine yA ?_; refine aI rfl ?_; refine yB ?_; refine zB ?_; refine c_loop (fun m9 e B L => ∃ (i : Nat), e 0 = str s ∧ e 2 = .pointer (some ⟨r, 0, none⟩) ∧ e 3 = .int .i64 0 ∧ e 4 = .int .i64 (i : Nat) ∧ B = [(w, No)] ∧ L = [(r, cel [.bool false, .slice none 0 0, .int .i64 0] 27)] ∧ i ≤ s.length ∧ (∀ j, j < i → s[j]? ≠ some 112) ∧ m9 = s.length - i) _ ⟨0, rfl, rfl, rfl, rfl, rfl, rfl, Nat.zero_le _, fun j hj => absurd hj (Nat.not_lt_zero j), rfl⟩ ?_
  rintro m9 e B L ⟨i, e0_1, e2_1, e3_1, e4_1, rfl, rfl, hi, hno, rfl⟩
  refine zq ?_; refine yA ?_; refine mI e4_1 ?_; refine zm (v := str _) e0_1 ?_; refine w_r (fun _ => R_slen st9 rfl (by omega)) rfl rfl ?_; refine w_r (fun _ => R_lt rfl rfl) rfl rfl ?_; refine yB ?_; refine zD rfl (fun h2 => ?_) (fun h2 => ?_)
  · obtain ⟨ch, hch⟩ : ∃ c, s[i]? = some c := ⟨_, List.getElem?_eq_getElem (by omega)⟩
    refine zi ?_; refine zk ?_; refine zq ?_; refine zB ?_; refine zq ?_; refine yA ?_; refine zm (v := str _) e0_1 ?_; refine mI e4_1 ?_; refine w_sidx (a := s) (i := i) st9 rfl rfl (by omega) ?_
    rw [show s[i] = ch from (List.getElem?_eq_some_iff.1 hch).2]
    refine w_r (fun _ => R_neN (a := (ch.toNat)) (b := 112) rfl rfl) rfl rfl ?_; refine yB ?_; refine zD rfl (fun h3 => ?_) (fun h3 => ?_)
    · have hnp := h3
      refine c_exit ?_; refine zx (b_here rfl (zk ?_)); refine zr ?_; refine mI e4_1 ?_; refine w_r (fun _ => R_addN (n := i) (b := 1) rfl rfl (by omega)) rfl rfl ?_; refine aI rfl ?_; refine zn ?_; exact k_again _ (by omega) ⟨i + 1, e0_1, e2_1, e3_1, rfl, rfl, rfl, by omega, fun j hj => (by rcases Nat.lt_succ_iff_lt_or_eq.1 hj with h | h; (exact hno j h); (subst h; rw [hch]; intro h; cases h; exact absurd rfl hnp)), rfl⟩
    · have hc9 : ch = 112 := UInt8.toNat_inj.1 (Decidable.not_not.1 h3); have hba := bef_at (hc9 ▸ hch) hno
      refine zi ?_; refine zk ?_; refine yA ?_; refine zm (v := str _) e0_1 ?_; refine mI e4_1 ?_; refine w_r (fun _ => R_ssl_hiN (h := i) st9 rfl rfl (by omega)) rfl rfl ?_
      rw [← hba.1]
      refine w_tel (fun w => zR Tryz.func31 rfl rfl rfl) rfl rfl (fun w h => iParse_ok (bef s) w (by omega)) (fun xX aX cX hKX hNX => ?_)
      refine zm rfl ?_; refine w_r (fun _ => R_extract rfl rfl) rfl rfl ?_; refine w_r (fun _ => R_extract rfl rfl) rfl rfl ?_; refine w_alloc zr25 (fun b5 gb5 ub5 => ?_)
      refine w_store 0 rfl z25 rfl rfl rfl rfl rfl rfl rfl ?_; refine aI rfl ?_; refine yC ?_; refine zm (v := str _) e0_1 ?_; refine mI e4_1 ?_; refine w_r (fun _ => R_addN (n := i) (b := 1) rfl rfl (by omega)) rfl rfl ?_; refine w_r (fun _ => R_ssl_loN (l := i + 1) st9 rfl rfl (by omega)) rfl rfl ?_
      rw [← hba.2.1]
      refine w_tel (fun w => zR Tryz.func31 rfl rfl rfl) rfl rfl (fun w h => iParse_ok (aft s) w (by omega)) (fun xE aE cE hKE hNE => ?_)
      refine zm rfl ?_; refine w_r (fun _ => R_extract rfl rfl) rfl rfl ?_; refine w_r (fun _ => R_extract rfl rfl) rfl rfl ?_; refine w_alloc zr25 (fun b7 gb7 ub7 => ?_)
      refine w_store 0 rfl z25 rfl rfl rfl rfl rfl rfl rfl ?_; refine aI rfl ?_; refine yB ?_; refine zq ?_; refine yA ?_; refine mI rfl ?_; refine w_r (fun _ => R_ne rfl rfl) rfl rfl ?_; refine mB rfl ?_; refine zd (t := 37) rfl (fun h8 => ?_) (fun h8 => ?_)
      · have hbad := rp_bad (s := s) (.inl h8)
        refine zs rfl rfl (bT h8) ?_; refine zs rfl rfl (bT h8) ?_; refine w_r (v := .bool _) (fun _ => zT (bT h8) rfl) rfl rfl ?_; refine mB rfl ?_; refine zs rfl rfl rfl ?_; refine zs rfl rfl rfl ?_; refine zs rfl rfl rfl ?_; refine zs rfl rfl rfl ?_; refine w_r (v := .bool _) (fun _ => zT rfl rfl) rfl rfl ?_; refine mB rfl ?_; refine zs rfl rfl rfl ?_; refine zs rfl rfl rfl ?_; refine zs rfl rfl rfl ?_; refine zs rfl rfl rfl ?_; refine zs rfl rfl rfl ?_; refine zU rfl rfl rfl ?_; refine zU rfl rfl rfl ?_; refine zU rfl rfl rfl ?_; refine zU rfl rfl rfl ?_; refine zU rfl rfl rfl ?_; refine zs rfl rfl rfl ?_
        refine w_r (v := .bool _) (fun _ => zT rfl rfl) rfl rfl ?_; refine yB ?_; refine zE rfl ?_; refine yA ?_; refine w_r (fun _ => R_build bt27 rfl) rfl rfl ?_; refine w_store 2 rfl z27 e2_1 rfl rfl rfl rfl rfl rfl ?_; refine aI rfl ?_; refine yB ?_; refine ze ?_; refine zt (zb (zt (zt (zb (zt (?_))))))
        rw [hbad.1, hbad.2]
        refine r_fin (.inl rfl) rfl (.agg rfl e2_1 z27 (fun _ h => h.at_ 2 rfl) rfl (.tmp rfl rfl .nil)) ?_; exact fun w' hw => ⟨none, 0, rfl, Nm.nil _, Fsh.nil _ _, hw.fr (w, No) (.tail _ (.tail _ (.head _)))⟩
      · have hz1 : zpe (bef s) = 0 := (by omega)
        refine zw rfl rfl (bF h8) ?_; refine mI rfl ?_; refine zw rfl rfl (bF h8) ?_; refine w_r (fun _ => R_ne rfl rfl) rfl rfl ?_; refine w_r (v := .bool _) (fun _ => zF (bF h8) rfl) rfl rfl ?_; refine mB rfl ?_; refine zd (t := 41) rfl (fun h9 => ?_) (fun h9 => ?_)
        · have hbad := rp_bad (s := s) (.inr (.inl h9))
          refine zs rfl rfl (bT h9) ?_; refine zs rfl rfl (bT h9) ?_; refine zs rfl rfl (bT h9) ?_; refine zs rfl rfl (bT h9) ?_; refine w_r (v := .bool _) (fun _ => zT (bT h9) rfl) rfl rfl ?_; refine mB rfl ?_; refine zs rfl rfl rfl ?_; refine zs rfl rfl rfl ?_; refine zs rfl rfl rfl ?_; refine zs rfl rfl rfl ?_; refine zs rfl rfl rfl ?_; refine zU rfl rfl rfl ?_; refine zU rfl rfl rfl ?_; refine zU rfl rfl rfl ?_; refine zU rfl rfl rfl ?_; refine zU rfl rfl rfl ?_; refine zs rfl rfl rfl ?_; refine w_r (v := .bool _) (fun _ => zT rfl rfl) rfl rfl ?_; refine yB ?_; refine zE rfl ?_; refine yA ?_; refine w_r (fun _ => R_build bt27 rfl) rfl rfl ?_
          refine w_store 2 rfl z27 e2_1 rfl rfl rfl rfl rfl rfl ?_; refine aI rfl ?_; refine yB ?_; refine ze ?_; refine zt (zb (zt (zt (zb (zt (?_))))))
          rw [hbad.1, hbad.2]
          refine r_fin (.inl rfl) rfl (.agg rfl e2_1 z27 (fun _ h => h.at_ 2 rfl) rfl (.tmp rfl rfl .nil)) ?_; exact fun w' hw => ⟨none, 0, rfl, Nm.nil _, Fsh.nil _ _, hw.fr (w, No) (.tail _ (.tail _ (.head _)))⟩
        · have hz2 : zpe (aft s) = 0 := (by omega)
          refine zw rfl rfl (bF h9) ?_; refine zf fa25_1 rfl ?_; refine zw rfl rfl (bF h9) ?_; refine zl z23 rfl (fun _ h => zc 0 rfl rfl h) ?_; refine zw rfl rfl (bF h9) ?_; refine w_r (fun _ => R_len sl23 rfl) rfl rfl ?_; refine zw rfl rfl (bF h9) ?_; refine w_r (fun _ => R_gtN (a := (sz (((zpv (aft s)).getD 0).natAbs))) (b := 1) rfl rfl) rfl rfl ?_; refine w_r (v := .bool _) (fun _ => zF (bF h9) rfl) rfl rfl ?_; refine mB rfl ?_; refine zd (t := 47) rfl (fun h10 => ?_) (fun h10 => ?_)
          · have hbad := rp_bad (s := s) (.inr (.inr (big_n h10)))
            refine zs rfl rfl (bT h10) ?_; refine zs rfl rfl (bT h10) ?_; refine zs rfl rfl (bT h10) ?_; refine zs rfl rfl (bT h10) ?_; refine zs rfl rfl (bT h10) ?_; refine zU rfl rfl rfl ?_; refine zU rfl rfl rfl ?_; refine zU rfl rfl rfl ?_; refine zU rfl rfl rfl ?_; refine zU rfl rfl rfl ?_; refine zs rfl rfl (bT h10) ?_; refine w_r (v := .bool _) (fun _ => zT (bT h10) rfl) rfl rfl ?_; refine yB ?_; refine zE rfl ?_; refine yA ?_; refine w_r (fun _ => R_build bt27 rfl) rfl rfl ?_; refine w_store 2 rfl z27 e2_1 rfl rfl rfl rfl rfl rfl ?_; refine aI rfl ?_; refine yB ?_; refine ze ?_; refine zt (zb (zt (zt (zb (zt (?_))))))
            rw [hbad.1, hbad.2]
            refine r_fin (.inl rfl) rfl (.agg rfl e2_1 z27 (fun _ h => h.at_ 2 rfl) rfl (.tmp rfl rfl .nil)) ?_; exact fun w' hw => ⟨none, 0, rfl, Nm.nil _, Fsh.nil _ _, hw.fr (w, No) (.tail _ (.tail _ (.head _)))⟩
          · refine zw rfl rfl (bF h10) ?_; refine zf fa25_1 rfl ?_; refine zw rfl rfl (bF h10) ?_; refine zl z23 rfl (fun _ h => zc 0 rfl rfl h) ?_; refine zw rfl rfl (bF h10) ?_; refine w_r (fun _ => R_len sl23 rfl) rfl rfl ?_; refine zw rfl rfl (bF h10) ?_; refine w_r (fun _ => R_eqN (a := (sz (((zpv (aft s)).getD 0).natAbs))) (b := 1) rfl rfl) rfl rfl ?_; refine zw rfl rfl (bF h10) ?_; refine mB rfl ?_; refine zd (t := 52) rfl (fun h11 => ?_) (fun h11 => ?_)
            · have hs1 := h11
              refine zw rfl rfl (bT h11) ?_; refine zf fa25_1 rfl ?_; refine zw rfl rfl (bT h11) ?_; refine zl z23 rfl (fun _ h => zc 0 rfl rfl h) ?_; refine zw rfl rfl (bT h11) ?_; refine w_r (fun _ => R_iaK (i := 0) sl23 rfl (hKE.ptr (by omega)) rfl (by omega)) rfl rfl ?_; refine zw rfl rfl (bT h11) ?_; refine zl (v := .int .u64 ((dg Go.Num.B (((zpv (aft s)).getD 0).natAbs) 0) : Nat)) z66 rfl (fun w h => hKE.ca 0 rfl (by omega) h) ?_; refine zw rfl rfl (bT h11) ?_; refine w_r (fun _ => R_gtN (a := (dg Go.Num.B (((zpv (aft s)).getD 0).natAbs) 0)) (b := 1048576) rfl rfl) rfl rfl ?_; refine zw rfl rfl (bF h10) ?_; refine w_r (v := .bool _) (fun _ => zT (bT h11) rfl) rfl rfl ?_; refine w_r (v := .bool _) (fun _ => zF (bF h10) rfl) rfl rfl ?_; refine yB ?_; refine zD rfl (fun h12 => ?_) (fun h12 => ?_)
              · have hbad := rp_bad (s := s) (.inr (.inr (by rw [one_n h11] at h12; unfold mx; omega)))
                refine yA ?_; refine w_r (fun _ => R_build bt27 rfl) rfl rfl ?_; refine w_store 2 rfl z27 e2_1 rfl rfl rfl rfl rfl rfl ?_; refine aI rfl ?_; refine yB ?_; refine ze ?_; refine zt (zb (zt (zt (zb (zt (?_))))))
                rw [hbad.1, hbad.2]
                refine r_fin (.inl rfl) rfl (.agg rfl e2_1 z27 (fun _ h => h.at_ 2 rfl) rfl (.tmp rfl rfl .nil)) ?_; exact fun w' hw => ⟨none, 0, rfl, Nm.nil _, Fsh.nil _ _, hw.fr (w, No) (.tail _ (.tail _ (.head _)))⟩
              · have hem : ((zpv (aft s)).getD 0).natAbs ≤ mx := (by rw [one_n h11] at h12; unfold mx; omega); have hfin := rp_fin hba.2.2 hz1 hz2 hem; have hme := mayE_abs hem; have heb := mayE_le hme
                refine zi ?_; refine zk ?_; refine yA ?_; refine w_loadA z25 rfl (fun _ h => h.at_ 1 rfl) rfl ?_; refine w_r (fun _ => R_build bt27 rfl) rfl rfl ?_; refine w_alloc zr27 (fun b9 gb9 ub9 => ?_)
                refine w_store 0 rfl z27 rfl rfl rfl rfl rfl rfl rfl ?_; refine yB ?_; refine c_cut (fun e B L => e 0 = str s ∧ e 2 = .pointer (some ⟨r, 0, none⟩) ∧ e 3 = .int .i64 0 ∧ e 7 = .pointer (some ⟨b7, 0, none⟩) ∧ e 9 = .pointer (some ⟨b9, 0, none⟩) ∧ B = [xE, xX, (w, No)] ∧ L = [(b9, cel [.bool (ng ((zpv (bef s)).getD 0)), .slice aX (sz ((zpv (bef s)).getD 0).natAbs) cX, .int .i64 ((((zpv (aft s)).getD 0).natAbs : Nat) : Int)] 27), (b7, cel [.bool (ng ((zpv (aft s)).getD 0)), .slice aE (sz ((zpv (aft s)).getD 0).natAbs) cE] 25), (r, cel [.bool false, .slice none 0 0, .int .i64 0] 27)]) ?_ ?_
                · refine yA ?_; refine zf fa25_1 rfl ?_; refine zl z23 rfl (fun _ h => zc 1 rfl rfl h) ?_; refine w_r (fun _ => R_len sl23 rfl) rfl rfl ?_; refine w_r (fun _ => R_eqN (a := (sz (((zpv (aft s)).getD 0).natAbs))) (b := 1) rfl rfl) rfl rfl ?_; refine yB ?_; refine zD rfl (fun h14 => ?_) (fun h14 => ?_)
                  · skip
                    refine zr ?_; refine zf fa25_1 rfl ?_; refine zl z23 rfl (fun _ h => zc 1 rfl rfl h) ?_; refine w_r (fun _ => R_iaK (i := 0) sl23 rfl (hKE.ptr (by omega)) rfl (by omega)) rfl rfl ?_; refine zl (v := .int .u64 ((dg Go.Num.B (((zpv (aft s)).getD 0).natAbs) 0) : Nat)) z66 rfl (fun w h => hKE.ca 0 rfl (by omega) h) ?_
                    rw [one_n hs1]
                    refine w_r (fun _ => R_convK (n := (((zpv (aft s)).getD 0).natAbs)) un66 un3 rfl (wrap_i (by omega))) rfl rfl ?_; refine zf fa27_1 rfl ?_; refine w_store 0 rfl z3 rfl rfl rfl rfl rfl rfl rfl ?_; refine zn ?_; refine k_st (B' := [xE, xX, (w, No)]) (L' := [(b9, cel [.bool (ng ((zpv (bef s)).getD 0)), .slice aX (sz ((zpv (bef s)).getD 0).natAbs) cX, .int .i64 ((((zpv (aft s)).getD 0).natAbs : Nat) : Int)] 27), (b7, cel [.bool (ng ((zpv (aft s)).getD 0)), .slice aE (sz ((zpv (aft s)).getD 0).natAbs) cE] 25), (r, cel [.bool false, .slice none 0 0, .int .i64 0] 27)]) (fun w h => (h.pick [0, 1, 3] (by decide)).unbase (fun x hx => by rcases List.mem_cons.1 hx with rfl | hx; (exact (.head _)); rcases List.mem_cons.1 hx with rfl | hx; (exact (.tail _ (.head _))); rcases List.mem_cons.1 hx with rfl | hx; (exact (.tail _ (.tail _ (.head _)))); exact absurd hx (by simp))) ?_
                    exact k_mid ⟨e0_1, e2_1, e3_1, rfl, rfl, rfl, rfl⟩
                  · exact absurd h11 h14
                rintro e B L ⟨e0_2, e2_2, e3_2, e7_2, e9_2, rfl, rfl⟩
                refine c_cut (fun e B L => e 0 = str s ∧ e 2 = .pointer (some ⟨r, 0, none⟩) ∧ e 3 = .int .i64 0 ∧ e 9 = .pointer (some ⟨b9, 0, none⟩) ∧ B = [xX, (w, No)] ∧ L = [(b9, cel [.bool (ng ((zpv (bef s)).getD 0)), .slice aX (sz ((zpv (bef s)).getD 0).natAbs) cX, .int .i64 ((zpv (aft s)).getD 0)] 27), (r, cel [.bool false, .slice none 0 0, .int .i64 0] 27)]) ?_ ?_
                · refine yA ?_; refine zf fa25_0 e7_2 ?_; refine zl z4 rfl (fun _ h => zc 1 rfl rfl h) ?_; refine yB ?_; refine c_cond rfl (fun h15 => ?_) (fun h15 => ?_)
                  · have hE := e_neg h15 hem
                    refine zr ?_; refine zf fa27_1 e9_2 ?_; refine zl z3 rfl (fun _ h => zc 0 rfl rfl h) ?_; refine w_r (fun _ => R_neg rfl) rfl rfl ?_; refine zf fa27_1 e9_2 ?_; refine w_store 0 rfl z3 rfl rfl rfl rfl rfl rfl rfl ?_; refine zn ?_
                    refine k_st (B' := [xX, (w, No)]) (L' := [(b9, cel [.bool (ng ((zpv (bef s)).getD 0)), .slice aX (sz ((zpv (bef s)).getD 0).natAbs) cX, .int .i64 ((zpv (aft s)).getD 0)] 27), (r, cel [.bool false, .slice none 0 0, .int .i64 0] 27)]) (fun w h => by rw [show Value.int .i64 ((zpv (aft s)).getD 0) = Value.int .i64 (IntKind.i64.wrap (-((((zpv (aft s)).getD 0).natAbs : Nat) : Int))) from congrArg (Value.int .i64) hE]; exact (h.pick [0, 2] (by decide)).unbase (fun x hx => by rcases List.mem_cons.1 hx with rfl | hx; (exact (.tail _ (.head _))); rcases List.mem_cons.1 hx with rfl | hx; (exact (.tail _ (.tail _ (.head _)))); exact absurd hx (by simp))) ?_; exact k_mid ⟨e0_2, e2_2, e3_2, e9_2, rfl, rfl⟩
                  · have hE := e_pos h15
                    refine zi ?_; refine k_st (B' := [xX, (w, No)]) (L' := [(b9, cel [.bool (ng ((zpv (bef s)).getD 0)), .slice aX (sz ((zpv (bef s)).getD 0).natAbs) cX, .int .i64 ((zpv (aft s)).getD 0)] 27), (r, cel [.bool false, .slice none 0 0, .int .i64 0] 27)]) (fun w h => by rw [show Value.int .i64 ((zpv (aft s)).getD 0) = Value.int .i64 (((((zpv (aft s)).getD 0).natAbs : Nat) : Int)) from congrArg (Value.int .i64) hE]; exact (h.pick [0, 2] (by decide)).unbase (fun x hx => by rcases List.mem_cons.1 hx with rfl | hx; (exact (.tail _ (.head _))); rcases List.mem_cons.1 hx with rfl | hx; (exact (.tail _ (.tail _ (.head _)))); exact absurd hx (by simp))) ?_; exact k_mid ⟨e0_2, e2_2, e3_2, e9_2, rfl, rfl⟩
                rintro e B L ⟨e0_3, e2_3, e3_3, e9_3, rfl, rfl⟩
                refine zq ?_; refine yA ?_; refine w_loadA z27 e9_3 (fun _ h => h.at_ 0 rfl) rfl ?_; refine zC (fun w => zR Tryz.func32 rfl rfl rfl) rfl rfl (fun w h => jMay_ok _ _ w (hKX.at_ 0 rfl h) ⟨by omega, by omega⟩) ?_; refine w_r (fun _ => R_not rfl) rfl rfl ?_; refine mB rfl ?_; refine zp (t := 82) rfl (fun h16 => ?_) (fun h16 => ?_)
                · rw [hme] at h16; cases h16
                · refine zw rfl rfl (bV h16) ?_; refine w_loadA z27 e9_3 (fun _ h => h.at_ 0 rfl) rfl ?_; refine zw rfl rfl (bV h16) ?_; refine w_tel (fun w => zR Tryz.func12 rfl rfl rfl) rfl rfl (fun w h => jNormI_ok ((zpv (bef s)).getD 0) ((zpv (aft s)).getD 0) w (hKX.at_ 0 rfl h) ⟨by omega, by omega, by omega⟩) (fun x17 a17 c17 hK17 hN17 => ?_)
                  refine zw rfl rfl (bV h16) ?_; refine zC (fun w => zR Tryz.func32 rfl rfl rfl) rfl rfl (fun w h => jMay_ok _ _ w (hK17.at_ 0 rfl h) ⟨by omega, by omega⟩) ?_; refine zw rfl rfl (bV h16) ?_; refine w_r (fun _ => R_not rfl) rfl rfl ?_; refine w_r (v := .bool _) (fun _ => zF (bV h16) rfl) rfl rfl ?_; refine mB rfl ?_; refine zp (t := 88) rfl (fun h18 => ?_) (fun h18 => ?_)
                  · have hbad := hfin.1 (fun h => may_no h18 h.1)
                    refine zs rfl rfl (bV h18) ?_; refine zs rfl rfl (bV h18) ?_; refine zs rfl rfl (bV h18) ?_; refine zs rfl rfl (bV h18) ?_; refine w_r (v := .bool _) (fun _ => zT (bV h18) rfl) rfl rfl ?_; refine yB ?_; refine zE rfl ?_; refine yA ?_; refine w_r (fun _ => R_build bt27 rfl) rfl rfl ?_; refine w_store 1 rfl z27 e2_3 rfl rfl rfl rfl rfl rfl ?_; refine aI rfl ?_; refine yB ?_; refine ze ?_; refine zt (zb (zt (zt (zb (zt (?_))))))
                    rw [hbad.1, hbad.2]
                    refine r_fin (.inl rfl) rfl (.agg rfl e2_3 z27 (fun _ h => h.at_ 1 rfl) rfl (.tmp rfl rfl .nil)) ?_; exact fun w' hw => ⟨none, 0, rfl, Nm.nil _, Fsh.nil _ _, hw.fr (w, No) (.tail _ (.tail _ (.head _)))⟩
                  · have hm2 := may_ok2 h18
                    refine zw rfl rfl (bV h18) ?_; refine w_loadA z27 e9_3 (fun _ h => h.at_ 0 rfl) rfl ?_; refine zw rfl rfl (bV h18) ?_; refine zC (fun w => zR Tryz.func10 rfl rfl rfl) rfl rfl (fun w h => jTextI_ok ((zpv (bef s)).getD 0) ((zpv (aft s)).getD 0) w (hKX.at_ 1 rfl h) ⟨by omega, by omega, by omega⟩) ?_; refine zw rfl rfl (bV h18) ?_; refine zm (v := str _) e0_3 ?_; refine zw rfl rfl (bV h18) ?_; refine w_r (fun _ => R_sne rfl rfl) rfl rfl ?_; refine w_r (v := .bool _) (fun _ => zF (bV h18) rfl) rfl rfl ?_; refine yB ?_; refine zD rfl (fun h19 => ?_) (fun h19 => ?_)
                    · have hbad := hfin.1 (fun h => h19 h.2)
                      refine yA ?_; refine w_r (fun _ => R_build bt27 rfl) rfl rfl ?_; refine w_store 1 rfl z27 e2_3 rfl rfl rfl rfl rfl rfl ?_; refine aI rfl ?_; refine yB ?_; refine ze ?_; refine zt (zb (zt (zt (zb (zt (?_))))))
                      rw [hbad.1, hbad.2]
                      refine r_fin (.inl rfl) rfl (.agg rfl e2_3 z27 (fun _ h => h.at_ 1 rfl) rfl (.tmp rfl rfl .nil)) ?_; exact fun w' hw => ⟨none, 0, rfl, Nm.nil _, Fsh.nil _ _, hw.fr (w, No) (.tail _ (.tail _ (.head _)))⟩
                    · have hgood := hfin.2 hm2 (Decidable.not_not.1 h19)
                      refine zi ?_; refine zk ?_; refine yA ?_; refine w_loadA z27 e9_3 (fun _ h => h.at_ 0 rfl) rfl ?_; refine w_store 1 rfl z27 e2_3 rfl rfl rfl rfl rfl rfl ?_; refine aI rfl ?_; refine yB ?_; refine ze ?_; refine zb (zt (zt (zb (zt (?_)))))
                      rw [hgood.1, hgood.2]
                      refine r_fin (.inl rfl) rfl (.agg rfl e2_3 z27 (fun _ h => h.at_ 1 rfl) rfl (.tmp rfl rfl .nil)) ?_; exact fun w' hw => ⟨_, _, rfl, (hKX.at_ 1 rfl hw), (hNX _ (.head _)), hw.fr (w, No) (.tail _ (.tail _ (.head _)))⟩
            · have hN0 : ((zpv (aft s)).getD 0).natAbs = 0 := sz_eq_zero.1 (by omega); have hem : ((zpv (aft s)).getD 0).natAbs ≤ mx := (by rw [hN0]; exact Nat.zero_le _); have hfin := rp_fin hba.2.2 hz1 hz2 hem; have hme := mayE_abs hem; have heb := mayE_le hme
              refine zs rfl rfl (bF h11) ?_; refine zs rfl rfl (bF h11) ?_; refine zs rfl rfl (bF h11) ?_; refine zs rfl rfl (bF h11) ?_; refine zs rfl rfl (bF h11) ?_; refine zw rfl rfl (bF h10) ?_; refine w_r (v := .bool _) (fun _ => zF (bF h11) rfl) rfl rfl ?_; refine w_r (v := .bool _) (fun _ => zF (bF h10) rfl) rfl rfl ?_; refine yB ?_; refine c_condF rfl ?_; refine zi ?_; refine zk ?_; refine yA ?_; refine w_loadA z25 rfl (fun _ h => h.at_ 1 rfl) rfl ?_; refine w_r (fun _ => R_build bt27 rfl) rfl rfl ?_; refine w_alloc zr27 (fun b9 gb9 ub9 => ?_)
              refine w_store 0 rfl z27 rfl rfl rfl rfl rfl rfl rfl ?_; refine yB ?_; refine c_cut (fun e B L => e 0 = str s ∧ e 2 = .pointer (some ⟨r, 0, none⟩) ∧ e 3 = .int .i64 0 ∧ e 7 = .pointer (some ⟨b7, 0, none⟩) ∧ e 9 = .pointer (some ⟨b9, 0, none⟩) ∧ B = [xE, xX, (w, No)] ∧ L = [(b9, cel [.bool (ng ((zpv (bef s)).getD 0)), .slice aX (sz ((zpv (bef s)).getD 0).natAbs) cX, .int .i64 ((((zpv (aft s)).getD 0).natAbs : Nat) : Int)] 27), (b7, cel [.bool (ng ((zpv (aft s)).getD 0)), .slice aE (sz ((zpv (aft s)).getD 0).natAbs) cE] 25), (r, cel [.bool false, .slice none 0 0, .int .i64 0] 27)]) ?_ ?_
              · refine yA ?_; refine zf fa25_1 rfl ?_; refine zl z23 rfl (fun _ h => zc 1 rfl rfl h) ?_; refine w_r (fun _ => R_len sl23 rfl) rfl rfl ?_; refine w_r (fun _ => R_eqN (a := (sz (((zpv (aft s)).getD 0).natAbs))) (b := 1) rfl rfl) rfl rfl ?_; refine yB ?_; refine zD rfl (fun h21 => ?_) (fun h21 => ?_)
                · exact absurd h21 h11
                · have hE : ((((zpv (aft s)).getD 0).natAbs : Nat) : Int) = (0 : Int) := (by rw [hN0]; rfl)
                  refine zi ?_; refine k_st (B' := [xE, xX, (w, No)]) (L' := [(b9, cel [.bool (ng ((zpv (bef s)).getD 0)), .slice aX (sz ((zpv (bef s)).getD 0).natAbs) cX, .int .i64 ((((zpv (aft s)).getD 0).natAbs : Nat) : Int)] 27), (b7, cel [.bool (ng ((zpv (aft s)).getD 0)), .slice aE (sz ((zpv (aft s)).getD 0).natAbs) cE] 25), (r, cel [.bool false, .slice none 0 0, .int .i64 0] 27)]) (fun w h => by rw [show ((((zpv (aft s)).getD 0).natAbs : Nat) : Int) = (0 : Int) from hE]; exact (h.pick [0, 1, 3] (by decide)).unbase (fun x hx => by rcases List.mem_cons.1 hx with rfl | hx; (exact (.head _)); rcases List.mem_cons.1 hx with rfl | hx; (exact (.tail _ (.head _))); rcases List.mem_cons.1 hx with rfl | hx; (exact (.tail _ (.tail _ (.head _)))); exact absurd hx (by simp))) ?_; exact k_mid ⟨e0_1, e2_1, e3_1, rfl, rfl, rfl, rfl⟩
              rintro e B L ⟨e0_4, e2_4, e3_4, e7_4, e9_4, rfl, rfl⟩
              refine c_cut (fun e B L => e 0 = str s ∧ e 2 = .pointer (some ⟨r, 0, none⟩) ∧ e 3 = .int .i64 0 ∧ e 9 = .pointer (some ⟨b9, 0, none⟩) ∧ B = [xX, (w, No)] ∧ L = [(b9, cel [.bool (ng ((zpv (bef s)).getD 0)), .slice aX (sz ((zpv (bef s)).getD 0).natAbs) cX, .int .i64 ((zpv (aft s)).getD 0)] 27), (r, cel [.bool false, .slice none 0 0, .int .i64 0] 27)]) ?_ ?_
              · refine yA ?_; refine zf fa25_0 e7_4 ?_; refine zl z4 rfl (fun _ h => zc 1 rfl rfl h) ?_; refine yB ?_; refine c_cond rfl (fun h22 => ?_) (fun h22 => ?_)
                · have hE := e_neg h22 hem
                  refine zr ?_; refine zf fa27_1 e9_4 ?_; refine zl z3 rfl (fun _ h => zc 0 rfl rfl h) ?_; refine w_r (fun _ => R_neg rfl) rfl rfl ?_; refine zf fa27_1 e9_4 ?_; refine w_store 0 rfl z3 rfl rfl rfl rfl rfl rfl rfl ?_; refine zn ?_
                  refine k_st (B' := [xX, (w, No)]) (L' := [(b9, cel [.bool (ng ((zpv (bef s)).getD 0)), .slice aX (sz ((zpv (bef s)).getD 0).natAbs) cX, .int .i64 ((zpv (aft s)).getD 0)] 27), (r, cel [.bool false, .slice none 0 0, .int .i64 0] 27)]) (fun w h => by rw [show Value.int .i64 ((zpv (aft s)).getD 0) = Value.int .i64 (IntKind.i64.wrap (-((((zpv (aft s)).getD 0).natAbs : Nat) : Int))) from congrArg (Value.int .i64) hE]; exact (h.pick [0, 2] (by decide)).unbase (fun x hx => by rcases List.mem_cons.1 hx with rfl | hx; (exact (.tail _ (.head _))); rcases List.mem_cons.1 hx with rfl | hx; (exact (.tail _ (.tail _ (.head _)))); exact absurd hx (by simp))) ?_; exact k_mid ⟨e0_4, e2_4, e3_4, e9_4, rfl, rfl⟩
                · have hE := e_pos h22
                  refine zi ?_; refine k_st (B' := [xX, (w, No)]) (L' := [(b9, cel [.bool (ng ((zpv (bef s)).getD 0)), .slice aX (sz ((zpv (bef s)).getD 0).natAbs) cX, .int .i64 ((zpv (aft s)).getD 0)] 27), (r, cel [.bool false, .slice none 0 0, .int .i64 0] 27)]) (fun w h => by rw [show Value.int .i64 ((zpv (aft s)).getD 0) = Value.int .i64 (((((zpv (aft s)).getD 0).natAbs : Nat) : Int)) from congrArg (Value.int .i64) hE]; exact (h.pick [0, 2] (by decide)).unbase (fun x hx => by rcases List.mem_cons.1 hx with rfl | hx; (exact (.tail _ (.head _))); rcases List.mem_cons.1 hx with rfl | hx; (exact (.tail _ (.tail _ (.head _)))); exact absurd hx (by simp))) ?_; exact k_mid ⟨e0_4, e2_4, e3_4, e9_4, rfl, rfl⟩
              rintro e B L ⟨e0_5, e2_5, e3_5, e9_5, rfl, rfl⟩
              refine zq ?_; refine yA ?_; refine w_loadA z27 e9_5 (fun _ h => h.at_ 0 rfl) rfl ?_; refine zC (fun w => zR Tryz.func32 rfl rfl rfl) rfl rfl (fun w h => jMay_ok _ _ w (hKX.at_ 0 rfl h) ⟨by omega, by omega⟩) ?_; refine w_r (fun _ => R_not rfl) rfl rfl ?_; refine mB rfl ?_; refine zp (t := 82) rfl (fun h23 => ?_) (fun h23 => ?_)
              · rw [hme] at h23; cases h23
              · refine zw rfl rfl (bV h23) ?_; refine w_loadA z27 e9_5 (fun _ h => h.at_ 0 rfl) rfl ?_; refine zw rfl rfl (bV h23) ?_; refine w_tel (fun w => zR Tryz.func12 rfl rfl rfl) rfl rfl (fun w h => jNormI_ok ((zpv (bef s)).getD 0) ((zpv (aft s)).getD 0) w (hKX.at_ 0 rfl h) ⟨by omega, by omega, by omega⟩) (fun x24 a24 c24 hK24 hN24 => ?_)
                refine zw rfl rfl (bV h23) ?_; refine zC (fun w => zR Tryz.func32 rfl rfl rfl) rfl rfl (fun w h => jMay_ok _ _ w (hK24.at_ 0 rfl h) ⟨by omega, by omega⟩) ?_; refine zw rfl rfl (bV h23) ?_; refine w_r (fun _ => R_not rfl) rfl rfl ?_; refine w_r (v := .bool _) (fun _ => zF (bV h23) rfl) rfl rfl ?_; refine mB rfl ?_; refine zp (t := 88) rfl (fun h25 => ?_) (fun h25 => ?_)
                · have hbad := hfin.1 (fun h => may_no h25 h.1)
                  refine zs rfl rfl (bV h25) ?_; refine zs rfl rfl (bV h25) ?_; refine zs rfl rfl (bV h25) ?_; refine zs rfl rfl (bV h25) ?_; refine w_r (v := .bool _) (fun _ => zT (bV h25) rfl) rfl rfl ?_; refine yB ?_; refine zE rfl ?_; refine yA ?_; refine w_r (fun _ => R_build bt27 rfl) rfl rfl ?_; refine w_store 1 rfl z27 e2_5 rfl rfl rfl rfl rfl rfl ?_; refine aI rfl ?_; refine yB ?_; refine ze ?_; refine zt (zb (zt (zt (zb (zt (?_))))))
                  rw [hbad.1, hbad.2]
                  refine r_fin (.inl rfl) rfl (.agg rfl e2_5 z27 (fun _ h => h.at_ 1 rfl) rfl (.tmp rfl rfl .nil)) ?_; exact fun w' hw => ⟨none, 0, rfl, Nm.nil _, Fsh.nil _ _, hw.fr (w, No) (.tail _ (.tail _ (.head _)))⟩
                · have hm2 := may_ok2 h25
                  refine zw rfl rfl (bV h25) ?_; refine w_loadA z27 e9_5 (fun _ h => h.at_ 0 rfl) rfl ?_; refine zw rfl rfl (bV h25) ?_; refine zC (fun w => zR Tryz.func10 rfl rfl rfl) rfl rfl (fun w h => jTextI_ok ((zpv (bef s)).getD 0) ((zpv (aft s)).getD 0) w (hKX.at_ 1 rfl h) ⟨by omega, by omega, by omega⟩) ?_; refine zw rfl rfl (bV h25) ?_; refine zm (v := str _) e0_5 ?_; refine zw rfl rfl (bV h25) ?_; refine w_r (fun _ => R_sne rfl rfl) rfl rfl ?_; refine w_r (v := .bool _) (fun _ => zF (bV h25) rfl) rfl rfl ?_; refine yB ?_; refine zD rfl (fun h26 => ?_) (fun h26 => ?_)
                  · have hbad := hfin.1 (fun h => h26 h.2)
                    refine yA ?_; refine w_r (fun _ => R_build bt27 rfl) rfl rfl ?_; refine w_store 1 rfl z27 e2_5 rfl rfl rfl rfl rfl rfl ?_; refine aI rfl ?_; refine yB ?_; refine ze ?_; refine zt (zb (zt (zt (zb (zt (?_))))))
                    rw [hbad.1, hbad.2]
                    refine r_fin (.inl rfl) rfl (.agg rfl e2_5 z27 (fun _ h => h.at_ 1 rfl) rfl (.tmp rfl rfl .nil)) ?_; exact fun w' hw => ⟨none, 0, rfl, Nm.nil _, Fsh.nil _ _, hw.fr (w, No) (.tail _ (.tail _ (.head _)))⟩
                  · have hgood := hfin.2 hm2 (Decidable.not_not.1 h26)
                    refine zi ?_; refine zk ?_; refine yA ?_; refine w_loadA z27 e9_5 (fun _ h => h.at_ 0 rfl) rfl ?_; refine w_store 1 rfl z27 e2_5 rfl rfl rfl rfl rfl rfl ?_; refine aI rfl ?_; refine yB ?_; refine ze ?_; refine zb (zt (zt (zb (zt (?_)))))
                    rw [hgood.1, hgood.2]
                    refine r_fin (.inl rfl) rfl (.agg rfl e2_5 z27 (fun _ h => h.at_ 1 rfl) rfl (.tmp rfl rfl .nil)) ?_; exact fun w' hw => ⟨_, _, rfl, (hKX.at_ 1 rfl hw), (hNX _ (.head _)), hw.fr (w, No) (.tail _ (.tail _ (.head _)))⟩
  · have hbad := rp_none (s := s) (no_p hno (by omega))
    refine c_exit ?_; refine zx (zx (b_here rfl (zk ?_))); refine yA ?_; refine w_r (fun _ => R_build bt27 rfl) rfl rfl ?_; refine w_store 0 rfl z27 e2_1 rfl rfl rfl rfl rfl rfl ?_; refine aI rfl ?_; refine yB ?_; refine ze ?_
    rw [hbad.1, hbad.2]
    refine r_fin (.inl rfl) rfl (.agg rfl e2_1 z27 (fun _ h => h.at_ 0 rfl) rfl (.tmp rfl rfl .nil)) ?_; exact fun w' hw => ⟨none, 0, rfl, Nm.nil _, Fsh.nil _ _, hw.fr (w, No) (.head _)⟩
end Go.Proofs.YtoapegnngbhkbaaGreatDoor
end
section
namespace Go.Proofs.YtoapegnngbhkbaaGreatDoor
open Go.RowKit Go.Sx
open Go.Num
theorem od_at {m : Nat} (hm : m % 2 = 1) : ∀ t : Nat, od (m * 2 ^ t) = m ∧ tz (m * 2 ^ t) = t
  | 0 => by rw [Nat.pow_zero, Nat.mul_one]; exact ⟨od_odd hm, tz_odd hm⟩
  | t + 1 => by
    have h := od_at hm t
    have hne : m * 2 ^ t ≠ 0 := Nat.mul_ne_zero (by omega) (Nat.pos_iff_ne_zero.1 (Nat.pow_pos (by decide)))
    rw [Nat.pow_succ, ← Nat.mul_assoc, Nat.mul_comm _ 2, od_even, tz_even hne, h.1, h.2]
    exact ⟨rfl, rfl⟩
theorem nd_at {x : Int} (e : Int) {m t : Nat} (hm : m % 2 = 1) (hx : x.natAbs = m * 2 ^ t) : nd x e = (x.sign * m, e + t) ∧ nb x = bl m := by
  have h := od_at hm t
  have hne : x ≠ 0 := fun h0 => by rw [h0] at hx; exact absurd hx.symm (Nat.mul_ne_zero (by omega) (Nat.pos_iff_ne_zero.1 (Nat.pow_pos (by decide))))
  rw [nd_of hne, hx, h.1, h.2]
  refine ⟨rfl, ?_⟩
  unfold nb; rw [hx, h.1]
theorem rd_1 {a : Int} {b p : Nat} {f e0 q : Int} {m t : Nat} (hq : qe a b (f - e0) = q) (hm : m % 2 = 1) (hx : q.natAbs = m * 2 ^ t) (hp : bl m ≤ p) : rd a b p f e0 = (q.sign * m, e0 + t) := by
  have h := nd_at e0 hm hx
  unfold rd
  rw [hq, if_pos (by rw [h.2]; exact hp), h.1]
theorem rd_2 {a : Int} {b p : Nat} {f e0 q q2 : Int} {m t m2 t2 : Nat} (hq : qe a b (f - e0) = q) (hm : m % 2 = 1) (hx : q.natAbs = m * 2 ^ t) (hp : ¬ bl m ≤ p) (hq2 : qe a b (f - (e0 + 1)) = q2) (hm2 : m2 % 2 = 1) (hx2 : q2.natAbs = m2 * 2 ^ t2) : rd a b p f e0 = (q2.sign * m2, e0 + 1 + t2) := by
  have h := nd_at e0 hm hx
  unfold rd
  rw [hq, if_neg (by rw [h.2]; exact hp), hq2, (nd_at (e0 + 1) hm2 hx2).1]
theorem nd45 : nd 45 0 = (45, 0) := (nd_at 0 (m := 45) (t := 0) rfl rfl).1
theorem nd45n : nd (-45) 0 = (-45, 0) := (nd_at 0 (m := 45) (t := 0) rfl rfl).1
theorem nd3 : nd 3 0 = (3, 0) := (nd_at 0 (m := 3) (t := 0) rfl rfl).1
theorem nd12 : nd 12 0 = (3, 2) := (nd_at 0 (m := 3) (t := 2) rfl rfl).1
theorem dv_a : dvv (45, 0) (1, 0) 3 false = (5, 3) := by
  unfold dvv; rw [if_neg (by decide)]
  show rd 45 1 3 0 2 = _
  rw [rd_2 (q := 11) (m := 11) (t := 0) (q2 := 5) (m2 := 5) (t2 := 0) (by decide) rfl rfl (by decide) (by decide) rfl rfl]; rfl
theorem dv_b : dvv (45, 0) (1, 0) 3 true = (3, 4) := by
  unfold dvv; rw [if_neg (by decide)]
  show nn (rd (-45) 1 3 0 2) = _
  rw [rd_1 (q := -12) (m := 3) (t := 2) (by decide) rfl rfl (by decide)]; rfl
theorem dv_c : dvv (-45, 0) (1, 0) 3 false = (-3, 4) := by
  unfold dvv; rw [if_neg (by decide)]
  show rd (-45) 1 3 0 2 = _
  rw [rd_1 (q := -12) (m := 3) (t := 2) (by decide) rfl rfl (by decide)]; rfl
theorem dv_d : dvv (1, 0) (3, 0) 4 false = (5, -4) := by
  unfold dvv; rw [if_neg (by decide)]
  show rd 1 3 4 0 (-5) = _
  rw [rd_1 (q := 10) (m := 5) (t := 1) (by decide) rfl rfl (by decide)]; rfl
theorem dv_u : dvv (1, 0) (3, 0) 4 true = (11, -5) := by
  unfold dvv; rw [if_neg (by decide)]
  show nn (rd (-1) 3 4 0 (-5)) = _
  rw [rd_1 (q := -11) (m := 11) (t := 0) (by decide) rfl rfl (by decide)]; rfl
theorem dig1 {n : Nat} (h : n < 10) (h0 : n ≠ 0) : Lib.decDigits n = [lt10 n] := by
  rw [dec_rev h0, rdec_pos h0, Nat.div_eq_of_lt h, rdec_zero]; rfl
theorem dig2 {n : Nat} (h : n < 100) (h0 : ¬ n < 10) : Lib.decDigits n = [lt10 (n / 10), lt10 n] := by
  rw [dec_rev (by omega), rdec_pos (by omega), rdec_pos (n := n / 10) (by omega), Nat.div_eq_of_lt (show n / 10 < 10 by omega), rdec_zero]; rfl
theorem it_pos {n : Nat} (h : n < 10) (h0 : n ≠ 0) : Lib.itoa (n : Int) = [lt10 n] := by
  unfold Lib.itoa; rw [if_neg (by omega), Int.toNat_natCast, dig1 h h0]
theorem it_neg {n : Nat} (h : n < 10) (h0 : n ≠ 0) : Lib.itoa (-(n : Int)) = [45, lt10 n] := by
  unfold Lib.itoa; rw [if_pos (by omega), Int.natAbs_neg, Int.natAbs_natCast, dig1 h h0]
theorem it_0 : Lib.itoa 0 = [48] := by unfold Lib.itoa; rw [if_neg (by decide)]; exact decDigits_zero
theorem txt_of {y : Int × Int} {l : List UInt8} (h : nd y.1 y.2 = y) (h2 : y.2.natAbs ≤ mx) (hl : dt y = l) : txt y.1 y.2 = l := by
  unfold txt; rw [h, if_pos ⟨h2, h2⟩, hl]
theorem tx_a : txt 5 3 = [53, 112, 51] := txt_of (y := (5, 3)) (nd_at 3 (m := 5) (t := 0) rfl rfl).1 (by decide) (by unfold dt; rw [show ((5, 3) : Int × Int).1 = ((5 : Nat) : Int) from rfl, show ((5, 3) : Int × Int).2 = ((3 : Nat) : Int) from rfl, it_pos (by decide) (by decide), it_pos (by decide) (by decide)]; rfl)
theorem tx_b : txt 3 4 = [51, 112, 52] := txt_of (y := (3, 4)) (nd_at 4 (m := 3) (t := 0) rfl rfl).1 (by decide) (by unfold dt; rw [show ((3, 4) : Int × Int).1 = ((3 : Nat) : Int) from rfl, show ((3, 4) : Int × Int).2 = ((4 : Nat) : Int) from rfl, it_pos (by decide) (by decide), it_pos (by decide) (by decide)]; rfl)
theorem tx_c : txt (-3) 4 = [45, 51, 112, 52] := txt_of (y := (-3, 4)) (nd_at 4 (m := 3) (t := 0) rfl rfl).1 (by decide) (by unfold dt; rw [show ((-3, 4) : Int × Int).1 = -((3 : Nat) : Int) from rfl, show ((-3, 4) : Int × Int).2 = ((4 : Nat) : Int) from rfl, it_neg (by decide) (by decide), it_pos (by decide) (by decide)]; rfl)
theorem tx_d : txt 5 (-4) = [53, 112, 45, 52] := txt_of (y := (5, -4)) (nd_at (-4) (m := 5) (t := 0) rfl rfl).1 (by decide) (by unfold dt; rw [show ((5, -4) : Int × Int).1 = ((5 : Nat) : Int) from rfl, show ((5, -4) : Int × Int).2 = -((4 : Nat) : Int) from rfl, it_pos (by decide) (by decide), it_neg (by decide) (by decide)]; rfl)
theorem tx_u : txt 11 (-5) = [49, 49, 112, 45, 53] := txt_of (y := (11, -5)) (nd_at (-5) (m := 11) (t := 0) rfl rfl).1 (by decide) (by unfold dt; rw [show ((11, -5) : Int × Int).2 = -((5 : Nat) : Int) from rfl, it_neg (by decide) (by decide)]; unfold Lib.itoa; rw [if_neg (by decide), show (11 : Int).toNat = 11 from rfl, dig2 (by decide) (by decide)]; rfl)
theorem tx_z : txt 3 2 = [51, 112, 50] := txt_of (y := (3, 2)) (nd_at 2 (m := 3) (t := 0) rfl rfl).1 (by decide) (by unfold dt; rw [show ((3, 2) : Int × Int).1 = ((3 : Nat) : Int) from rfl, show ((3, 2) : Int × Int).2 = ((2 : Nat) : Int) from rfl, it_pos (by decide) (by decide), it_pos (by decide) (by decide)]; rfl)
theorem tx_2 : txt 2 0 = [49, 112, 49] := by
  have h : nd 2 0 = (1, 1) := (nd_at 0 (m := 1) (t := 1) rfl rfl).1
  unfold txt; rw [h, if_pos ⟨by decide, by decide⟩]
  unfold dt; rw [show ((1, 1) : Int × Int).1 = ((1 : Nat) : Int) from rfl, show ((1, 1) : Int × Int).2 = ((1 : Nat) : Int) from rfl, it_pos (by decide) (by decide)]; rfl
theorem pp_2 : ppE [50, 112, 48] = 5 := by
  have h : pp [50, 112, 48] = none := by
    unfold pp
    rw [show zpv (bef [50, 112, 48]) = some 2 by decide, show Lib.atoiAll (aft [50, 112, 48]) = .ok 0 by decide]
    show (if txt 2 0 = _ then _ else _) = _
    rw [tx_2, if_neg (by decide)]
  unfold ppE; rw [h]
theorem pp_0 : ppE [48, 112, 48] = 0 ∧ (ppV [48, 112, 48]).1 = 0 := by
  have h : pp [48, 112, 48] = some (0, 0) := by
    have h2 : isT [48, 112, 48] (0, 0) := ⟨rfl, by decide, by unfold dt; rw [it_0]; rfl⟩
    exact pp_of h2
  unfold ppE ppV; rw [h]; exact ⟨rfl, rfl⟩
theorem hRound (x : Int) {p : Int} {up : Bool} {y : Int × Int} {X E : Int} {a : Option Addr} {c : Nat} (w : World) (hA : Nm w a (sz (nd x 0).1.natAbs) c (nd x 0).1.natAbs) (hx : nd x 0 = y) (hres : dvv y (1, 0) p up = (X, E)) (hp : 1 ≤ p ∧ p ≤ 1000) (hy : sz y.1.natAbs ≤ 10 ∧ y.2 = 0) :
    Ret Tryz.prog 13 #[.agg #[.bool (ng (nd x 0).1), .slice a (sz (nd x 0).1.natAbs) c, .int .i64 (nd x 0).2], .int .i64 p, .bool up] w (Tel (fun a c => .tuple #[.agg #[.bool (ng (X)), .slice a (sz (X).natAbs) c, .int .i64 (E)], .int .i64 0]) (sz (X).natAbs) (X).natAbs w) := by
  have := dRound_ok (ng (nd x 0).1) (nd x 0).2 p up w hA ⟨by rw [hx]; omega, by rw [hx]; omega, by rw [hx]; omega, by omega⟩
  rw [iv_ng, nd_idem, nd_one, show dve (1, 0) p = 0 from if_neg (by rintro (h | h); (exact absurd h (by decide)); omega)] at this
  rw [show dvv (nd x 0) (1, 0) p up = (X, E) by rw [hx]; exact hres] at this
  exact this
theorem hDiv (x z : Int) {p : Int} {up : Bool} {y y2 : Int × Int} {X E : Int} {a a2 : Option Addr} {c c2 : Nat} (w : World) (hA : Nm w a (sz (nd x 0).1.natAbs) c (nd x 0).1.natAbs) (hA2 : Nm w a2 (sz (nd z 0).1.natAbs) c2 (nd z 0).1.natAbs) (hx : nd x 0 = y) (hz : nd z 0 = y2) (hres : dvv y y2 p up = (X, E)) (hp : 1 ≤ p ∧ p ≤ 1000) (hy : sz y.1.natAbs ≤ 10 ∧ y.2 = 0) (hy2 : sz y2.1.natAbs ≤ 10 ∧ y2.2 = 0 ∧ y2.1 ≠ 0) :
    Ret Tryz.prog 14 #[.agg #[.bool (ng (nd x 0).1), .slice a (sz (nd x 0).1.natAbs) c, .int .i64 (nd x 0).2], .agg #[.bool (ng (nd z 0).1), .slice a2 (sz (nd z 0).1.natAbs) c2, .int .i64 (nd z 0).2], .int .i64 p, .bool up] w (Tel (fun a c => .tuple #[.agg #[.bool (ng (X)), .slice a (sz (X).natAbs) c, .int .i64 (E)], .int .i64 0]) (sz (X).natAbs) (X).natAbs w) := by
  have := dDiv_ok (ng (nd x 0).1) (ng (nd z 0).1) (nd x 0).2 (nd z 0).2 p up w hA hA2 ⟨by rw [hx]; omega, by rw [hz]; omega, by rw [hx]; omega, by rw [hz]; omega, by rw [hx]; omega, by rw [hz]; omega, by omega⟩
  rw [iv_ng, nd_idem, iv_ng, nd_idem, show dve (nd z 0) p = 0 from if_neg (by rw [hz]; rintro (h | h); (exact hy2.2.2 h); omega)] at this
  rw [show dvv (nd x 0) (nd z 0) p up = (X, E) by rw [hx, hz]; exact hres] at this
  exact this
theorem dParse_ok (s : List UInt8) (w : World) (hW : Wn w) (hs : s.length ≤ 200) : Ret Tryz.prog 8 #[str s] w (Tel (fun a c => .tuple #[.agg #[.bool (ng (ppV s).1), .slice a (sz (ppV s).1.natAbs) c, .int .i64 (ppV s).2], .int .i64 (ppE s)]) (sz (ppV s).1.natAbs) (ppV s).1.natAbs w) := by
  cases h : Lib.atoiAll (aft s) with
  | ok e => exact dParseY_ok s e w hW hs h
  | _ => exact dParseN_ok s w hW hs (fun e he => by rw [h] at he; cases he)
theorem dSignI_ok (x E : Int) {a : Option Addr} {c : Nat} (w : World) (hA : Nm w a (sz x.natAbs) c x.natAbs) (hs : sz x.natAbs ≤ 4000000) : Ret Tryz.prog 24 #[.agg #[.bool (ng (x)), .slice a (sz (x).natAbs) c, .int .i64 (E)]] w fun v w' => v = .int .i64 x.sign ∧ Ext w w' := by
  have := dSign_ok (ng x) E w hA hs
  rwa [iv_ng] at this
theorem tx_12 : txt (nd 12 0).1 (nd 12 0).2 = [51, 112, 50] := by rw [nd12]; exact tx_z
theorem ppV_sz {s : List UInt8} (h : s.length ≤ 200) : sz (ppV s).1.natAbs ≤ 200 := by
  unfold ppV pp
  have hb := zpv_sz (s := bef s) (Nat.le_trans (bef_len s) h)
  split
  · rename_i x e hx he
    rw [hx] at hb
    split
    · exact hb
    · exact Nat.zero_le _
  · exact Nat.zero_le _
set_option maxRecDepth 100000 in
set_option maxHeartbeats 1000000 in
theorem head05_ok (w : World) (hW : Wn w) :
    Ret Tryz.prog 6 #[] w (fun v w' => v = .bool true ∧ Ext w w') := by
  refine enter (S := No) (l := []) (L := []) 111 Tryz.func6 rfl rfl rfl (St.start w No) ?_; refine yA ?_; refine aB rfl ?_; refine yC ?_; refine w_tel (fun w => zR Tryz.func23 rfl rfl rfl) rfl rfl (fun w h => dOf_ok (x := 45) w ⟨by decide, by decide⟩) (fun x1 a1 c1 hK1 hN1 => ?_)
  refine w_tel (fun w => zR Tryz.func13 rfl rfl rfl) rfl rfl (fun w h => hRound 45 w (hK1.at_ 0 rfl h) nd45 dv_a ⟨by decide, by decide⟩ ⟨by decide, rfl⟩) (fun x2 a2 c2 hK2 hN2 => ?_)
  refine zm rfl ?_; refine w_r (fun _ => R_extract rfl rfl) rfl rfl ?_; refine w_r (fun _ => R_extract rfl rfl) rfl rfl ?_; refine w_alloc zr27 (fun b3 gb3 ub3 => ?_)
  refine w_store 0 rfl z27 rfl rfl rfl rfl rfl rfl rfl ?_; refine aI rfl ?_; refine yC ?_; refine w_tel (fun w => zR Tryz.func23 rfl rfl rfl) rfl rfl (fun w h => dOf_ok (x := 45) w ⟨by decide, by decide⟩) (fun x4 a4 c4 hK4 hN4 => ?_)
  refine w_tel (fun w => zR Tryz.func13 rfl rfl rfl) rfl rfl (fun w h => hRound 45 w (hK4.at_ 0 rfl h) nd45 dv_b ⟨by decide, by decide⟩ ⟨by decide, rfl⟩) (fun x5 a5 c5 hK5 hN5 => ?_)
  refine zm rfl ?_; refine w_r (fun _ => R_extract rfl rfl) rfl rfl ?_; refine w_r (fun _ => R_extract rfl rfl) rfl rfl ?_; refine w_alloc zr27 (fun b6 gb6 ub6 => ?_)
  refine w_store 0 rfl z27 rfl rfl rfl rfl rfl rfl rfl ?_; refine aI rfl ?_; refine yC ?_; refine w_tel (fun w => zR Tryz.func23 rfl rfl rfl) rfl rfl (fun w h => dOf_ok (x := (-45)) w ⟨by decide, by decide⟩) (fun x7 a7 c7 hK7 hN7 => ?_)
  refine w_tel (fun w => zR Tryz.func13 rfl rfl rfl) rfl rfl (fun w h => hRound (-45) w (hK7.at_ 0 rfl h) nd45n dv_c ⟨by decide, by decide⟩ ⟨by decide, rfl⟩) (fun x8 a8 c8 hK8 hN8 => ?_)
  refine zm rfl ?_; refine w_r (fun _ => R_extract rfl rfl) rfl rfl ?_; refine w_r (fun _ => R_extract rfl rfl) rfl rfl ?_; refine w_alloc zr27 (fun b9 gb9 ub9 => ?_)
  refine w_store 0 rfl z27 rfl rfl rfl rfl rfl rfl rfl ?_; refine aI rfl ?_; refine yC ?_; refine w_tel (fun w => zR Tryz.func23 rfl rfl rfl) rfl rfl (fun w h => dOf_ok (x := 1) w ⟨by decide, by decide⟩) (fun x10 a10 c10 hK10 hN10 => ?_)
  refine w_tel (fun w => zR Tryz.func23 rfl rfl rfl) rfl rfl (fun w h => dOf_ok (x := 3) w ⟨by decide, by decide⟩) (fun x11 a11 c11 hK11 hN11 => ?_)
  refine w_tel (fun w => zR Tryz.func14 rfl rfl rfl) rfl rfl (fun w h => hDiv 1 3 w (hK10.at_ 1 rfl h) (hK11.at_ 0 rfl h) nd_one nd3 dv_d ⟨by decide, by decide⟩ ⟨by decide, rfl⟩ ⟨by decide, rfl, by decide⟩) (fun x12 a12 c12 hK12 hN12 => ?_)
  refine zm rfl ?_; refine w_r (fun _ => R_extract rfl rfl) rfl rfl ?_; refine w_r (fun _ => R_extract rfl rfl) rfl rfl ?_; refine w_alloc zr27 (fun b13 gb13 ub13 => ?_)
  refine w_store 0 rfl z27 rfl rfl rfl rfl rfl rfl rfl ?_; refine aI rfl ?_; refine yC ?_; refine w_tel (fun w => zR Tryz.func23 rfl rfl rfl) rfl rfl (fun w h => dOf_ok (x := 1) w ⟨by decide, by decide⟩) (fun x14 a14 c14 hK14 hN14 => ?_)
  refine w_tel (fun w => zR Tryz.func23 rfl rfl rfl) rfl rfl (fun w h => dOf_ok (x := 3) w ⟨by decide, by decide⟩) (fun x15 a15 c15 hK15 hN15 => ?_)
  refine w_tel (fun w => zR Tryz.func14 rfl rfl rfl) rfl rfl (fun w h => hDiv 1 3 w (hK14.at_ 1 rfl h) (hK15.at_ 0 rfl h) nd_one nd3 dv_u ⟨by decide, by decide⟩ ⟨by decide, rfl⟩ ⟨by decide, rfl, by decide⟩) (fun x16 a16 c16 hK16 hN16 => ?_)
  refine zm rfl ?_; refine w_r (fun _ => R_extract rfl rfl) rfl rfl ?_; refine w_r (fun _ => R_extract rfl rfl) rfl rfl ?_; refine w_alloc zr27 (fun b17 gb17 ub17 => ?_)
  refine w_store 0 rfl z27 rfl rfl rfl rfl rfl rfl rfl ?_; refine aI rfl ?_; refine yC ?_; refine w_tel (fun w => zR Tryz.func8 rfl rfl rfl) rfl rfl (fun w h => dParse_ok [50, 112, 48] w (hW.now (.tail _ (.tail _ (.tail _ (.tail _ (.tail _ (.tail _ (.tail _ (.tail _ (.tail _ (.tail _ (.tail _ (.tail _ (.head _))))))))))))) h) (by decide)) (fun x18 a18 c18 hK18 hN18 => ?_)
  rw [pp_2]
  refine zm rfl ?_; refine w_r (fun _ => R_extract rfl rfl) rfl rfl ?_; refine w_r (fun _ => R_extract rfl rfl) rfl rfl ?_; refine w_alloc zr27 (fun b19 gb19 ub19 => ?_)
  refine w_store 0 rfl z27 rfl rfl rfl rfl rfl rfl rfl ?_; refine aI rfl ?_; refine yC ?_; refine w_tel (fun w => zR Tryz.func8 rfl rfl rfl) rfl rfl (fun w h => dParse_ok [48, 112, 48] w (hW.now (.tail _ (.tail _ (.tail _ (.tail _ (.tail _ (.tail _ (.tail _ (.tail _ (.tail _ (.tail _ (.tail _ (.tail _ (.tail _ (.head _)))))))))))))) h) (by decide)) (fun x20 a20 c20 hK20 hN20 => ?_)
  rw [pp_0.1]
  refine zm rfl ?_; refine w_r (fun _ => R_extract rfl rfl) rfl rfl ?_; refine w_r (fun _ => R_extract rfl rfl) rfl rfl ?_; refine w_alloc zr27 (fun b21 gb21 ub21 => ?_)
  refine w_store 0 rfl z27 rfl rfl rfl rfl rfl rfl rfl ?_; refine aI rfl ?_; refine yC ?_; refine mI rfl ?_; refine w_r (fun _ => R_eq rfl rfl) rfl rfl ?_; refine mB rfl ?_; refine zw rfl rfl (congrArg Value.bool (decide_eq_true (by decide))) ?_; refine w_loadA z27 rfl (fun _ h => h.at_ 6 rfl) rfl ?_; refine zw rfl rfl (congrArg Value.bool (decide_eq_true (by decide))) ?_; refine zC (fun w => zR Tryz.func7 rfl rfl rfl) rfl rfl (fun w h => dTextI_ok 5 3 w (hK2.at_ 12 rfl h) (hW.now (.tail _ (.tail _ (.tail _ (.tail _ (.tail _ (.tail _ (.tail _ (.tail _ (.tail _ (.tail _ (.tail _ (.tail _ (.tail _ (.tail _ (.head _))))))))))))))) h) (by decide)) ?_
  rw [tx_a]
  refine zw rfl rfl (congrArg Value.bool (decide_eq_true (by decide))) ?_; refine w_r (fun _ => R_seq rfl rfl) rfl rfl ?_; refine w_r (v := .bool _) (fun _ => zT (congrArg Value.bool (decide_eq_true (by decide))) rfl) rfl rfl ?_; refine mB rfl ?_; refine zw rfl rfl (congrArg Value.bool (decide_eq_true rfl)) ?_; refine mI rfl ?_; refine zw rfl rfl (congrArg Value.bool (decide_eq_true rfl)) ?_; refine w_r (fun _ => R_eq rfl rfl) rfl rfl ?_; refine w_r (v := .bool _) (fun _ => zT (congrArg Value.bool (decide_eq_true rfl)) rfl) rfl rfl ?_; refine mB rfl ?_; refine zw rfl rfl (congrArg Value.bool (decide_eq_true (by decide))) ?_; refine w_loadA z27 rfl (fun _ h => h.at_ 5 rfl) rfl ?_; refine zw rfl rfl (congrArg Value.bool (decide_eq_true (by decide))) ?_
  refine zC (fun w => zR Tryz.func7 rfl rfl rfl) rfl rfl (fun w h => dTextI_ok 3 4 w (hK5.at_ 10 rfl h) (hW.now (.tail _ (.tail _ (.tail _ (.tail _ (.tail _ (.tail _ (.tail _ (.tail _ (.tail _ (.tail _ (.tail _ (.tail _ (.tail _ (.tail _ (.head _))))))))))))))) h) (by decide)) ?_
  rw [tx_b]
  refine zw rfl rfl (congrArg Value.bool (decide_eq_true (by decide))) ?_; refine w_r (fun _ => R_seq rfl rfl) rfl rfl ?_; refine w_r (v := .bool _) (fun _ => zT (congrArg Value.bool (decide_eq_true (by decide))) rfl) rfl rfl ?_; refine mB rfl ?_; refine zw rfl rfl (congrArg Value.bool (decide_eq_true rfl)) ?_; refine mI rfl ?_; refine zw rfl rfl (congrArg Value.bool (decide_eq_true rfl)) ?_; refine w_r (fun _ => R_eq rfl rfl) rfl rfl ?_; refine w_r (v := .bool _) (fun _ => zT (congrArg Value.bool (decide_eq_true rfl)) rfl) rfl rfl ?_; refine mB rfl ?_; refine zw rfl rfl (congrArg Value.bool (decide_eq_true (by decide))) ?_; refine w_loadA z27 rfl (fun _ h => h.at_ 4 rfl) rfl ?_; refine zw rfl rfl (congrArg Value.bool (decide_eq_true (by decide))) ?_
  refine zC (fun w => zR Tryz.func7 rfl rfl rfl) rfl rfl (fun w h => dTextI_ok (-3) 4 w (hK8.at_ 8 rfl h) (hW.now (.tail _ (.tail _ (.tail _ (.tail _ (.tail _ (.tail _ (.tail _ (.tail _ (.tail _ (.tail _ (.tail _ (.tail _ (.tail _ (.tail _ (.head _))))))))))))))) h) (by decide)) ?_
  rw [tx_c]
  refine zw rfl rfl (congrArg Value.bool (decide_eq_true (by decide))) ?_; refine w_r (fun _ => R_seq rfl rfl) rfl rfl ?_; refine w_r (v := .bool _) (fun _ => zT (congrArg Value.bool (decide_eq_true (by decide))) rfl) rfl rfl ?_; refine mB rfl ?_; refine zw rfl rfl (congrArg Value.bool (decide_eq_true rfl)) ?_; refine mI rfl ?_; refine zw rfl rfl (congrArg Value.bool (decide_eq_true rfl)) ?_; refine w_r (fun _ => R_eq rfl rfl) rfl rfl ?_; refine w_r (v := .bool _) (fun _ => zT (congrArg Value.bool (decide_eq_true rfl)) rfl) rfl rfl ?_; refine mB rfl ?_; refine zw rfl rfl (congrArg Value.bool (decide_eq_true (by decide))) ?_; refine w_loadA z27 rfl (fun _ h => h.at_ 3 rfl) rfl ?_; refine zw rfl rfl (congrArg Value.bool (decide_eq_true (by decide))) ?_
  refine zC (fun w => zR Tryz.func7 rfl rfl rfl) rfl rfl (fun w h => dTextI_ok 5 (-4) w (hK12.at_ 5 rfl h) (hW.now (.tail _ (.tail _ (.tail _ (.tail _ (.tail _ (.tail _ (.tail _ (.tail _ (.tail _ (.tail _ (.tail _ (.tail _ (.tail _ (.tail _ (.head _))))))))))))))) h) (by decide)) ?_
  rw [tx_d]
  refine zw rfl rfl (congrArg Value.bool (decide_eq_true (by decide))) ?_; refine w_r (fun _ => R_seq rfl rfl) rfl rfl ?_; refine w_r (v := .bool _) (fun _ => zT (congrArg Value.bool (decide_eq_true (by decide))) rfl) rfl rfl ?_; refine mB rfl ?_; refine zw rfl rfl (congrArg Value.bool (decide_eq_true rfl)) ?_; refine mI rfl ?_; refine zw rfl rfl (congrArg Value.bool (decide_eq_true rfl)) ?_; refine w_r (fun _ => R_eq rfl rfl) rfl rfl ?_; refine w_r (v := .bool _) (fun _ => zT (congrArg Value.bool (decide_eq_true rfl)) rfl) rfl rfl ?_; refine mB rfl ?_; refine zw rfl rfl (congrArg Value.bool (decide_eq_true (by decide))) ?_; refine w_loadA z27 rfl (fun _ h => h.at_ 2 rfl) rfl ?_; refine zw rfl rfl (congrArg Value.bool (decide_eq_true (by decide))) ?_
  refine zC (fun w => zR Tryz.func7 rfl rfl rfl) rfl rfl (fun w h => dTextI_ok 11 (-5) w (hK16.at_ 2 rfl h) (hW.now (.tail _ (.tail _ (.tail _ (.tail _ (.tail _ (.tail _ (.tail _ (.tail _ (.tail _ (.tail _ (.tail _ (.tail _ (.tail _ (.tail _ (.head _))))))))))))))) h) (by decide)) ?_
  rw [tx_u]
  refine zw rfl rfl (congrArg Value.bool (decide_eq_true (by decide))) ?_; refine w_r (fun _ => R_seq rfl rfl) rfl rfl ?_; refine w_r (v := .bool _) (fun _ => zT (congrArg Value.bool (decide_eq_true (by decide))) rfl) rfl rfl ?_; refine mB rfl ?_; refine zw rfl rfl (congrArg Value.bool (decide_eq_true rfl)) ?_; refine mI rfl ?_; refine zw rfl rfl (congrArg Value.bool (decide_eq_true rfl)) ?_; refine w_r (fun _ => R_eq rfl rfl) rfl rfl ?_; refine w_r (v := .bool _) (fun _ => zT (congrArg Value.bool (decide_eq_true rfl)) rfl) rfl rfl ?_; refine mB rfl ?_; refine zw rfl rfl (congrArg Value.bool (decide_eq_true (by decide))) ?_; refine mI rfl ?_; refine zw rfl rfl (congrArg Value.bool (decide_eq_true (by decide))) ?_
  refine w_r (fun _ => R_eq rfl rfl) rfl rfl ?_; refine w_r (v := .bool _) (fun _ => zT (congrArg Value.bool (decide_eq_true (by decide))) rfl) rfl rfl ?_; refine mB rfl ?_; refine zw rfl rfl (congrArg Value.bool (decide_eq_true (by decide))) ?_; refine w_loadA z27 rfl (fun _ h => h.at_ 0 rfl) rfl ?_; refine zw rfl rfl (congrArg Value.bool (decide_eq_true (by decide))) ?_; refine zC (fun w => zR Tryz.func24 rfl rfl rfl) rfl rfl (fun w h => dSignI_ok (ppV [48, 112, 48]).1 _ w (hK20.at_ 0 rfl h) (by rw [pp_0.2]; decide)) ?_
  rw [show (ppV [48, 112, 48]).1.sign = 0 by rw [pp_0.2]; rfl]
  refine zw rfl rfl (congrArg Value.bool (decide_eq_true (by decide))) ?_; refine w_r (fun _ => R_eq rfl rfl) rfl rfl ?_; refine w_r (v := .bool _) (fun _ => zT (congrArg Value.bool (decide_eq_true (by decide))) rfl) rfl rfl ?_; refine mB rfl ?_; refine zw rfl rfl (congrArg Value.bool (decide_eq_true rfl)) ?_; refine w_tel (fun w => zR Tryz.func23 rfl rfl rfl) rfl rfl (fun w h => dOf_ok (x := 12) w ⟨by decide, by decide⟩) (fun x22 a22 c22 hK22 hN22 => ?_)
  refine zw rfl rfl (congrArg Value.bool (decide_eq_true rfl)) ?_; refine zC (fun w => zR Tryz.func7 rfl rfl rfl) rfl rfl (fun w h => dTextI_ok (nd 12 0).1 (nd 12 0).2 w (hK22.at_ 0 rfl h) (hW.now (.tail _ (.tail _ (.tail _ (.tail _ (.tail _ (.tail _ (.tail _ (.tail _ (.tail _ (.tail _ (.tail _ (.tail _ (.tail _ (.tail _ (.tail _ (.head _)))))))))))))))) h) (by rw [nd12]; decide)) ?_
  rw [tx_12]
  refine zw rfl rfl (congrArg Value.bool (decide_eq_true rfl)) ?_; refine w_r (fun _ => R_seq rfl rfl) rfl rfl ?_; refine w_r (v := .bool _) (fun _ => zT (congrArg Value.bool (decide_eq_true rfl)) rfl) rfl rfl ?_; refine aB rfl ?_; refine yB ?_; refine ze ?_; refine zo (v := .bool _) rfl rfl rfl ?_; exact fun w' hw => ⟨congrArg Value.bool (decide_eq_true rfl), hw.fr (w, No) (.tail _ (.tail _ (.tail _ (.tail _ (.tail _ (.tail _ (.tail _ (.tail _ (.tail _ (.tail _ (.tail _ (.tail _ (.tail _ (.tail _ (.tail _ (.head _))))))))))))))))⟩
end Go.Proofs.YtoapegnngbhkbaaGreatDoor
end
section
namespace Go.Proofs.YtoapegnngbhkbaaGreatDoor
open Go.RowKit Go.Sx
open Go.Num
theorem of_small {k : Nat} {E : Int} (h : (!decide (k ≤ 4 ∧ -300 ≤ E ∧ E ≤ 300)) = false) : k ≤ 4 ∧ -300 ≤ E ∧ E ≤ 300 := by simpa using h
theorem rdec_len3 : ∀ n : Nat, (rdec n).length ≤ (bl n + 2) / 3 := by
  intro n
  induction n using Nat.strongRecOn with
  | _ n ih =>
    by_cases h : n = 0
    · subst h; rw [rdec_zero]; exact Nat.zero_le _
    · rw [rdec_pos h, List.length_cons]
      have h1 := bl_pos h
      have h2 := ih (n / 10) (by omega)
      by_cases h10 : n / 10 = 0
      · rw [h10, rdec_zero, List.length_nil]; omega
      · have h3 : bl (n / 10) + 3 ≤ bl n := by
          have h4 := bl_ge h10
          have h5 : 2 ^ (bl (n / 10) - 1) * 8 ≤ n := by
            have : n / 10 * 8 ≤ n := by omega
            exact Nat.le_trans (Nat.mul_le_mul_right 8 h4) this
          have h6 := bl_pos h10
          have h7 := lt_bl n
          have h8 : 2 ^ (bl (n / 10) - 1 + 3) < 2 ^ bl n := by rw [Nat.pow_add]; exact Nat.lt_of_le_of_lt h5 h7
          have := (Nat.pow_lt_pow_iff_right (by decide)).1 h8
          omega
        omega
theorem itoa_len3 (x : Int) : (Lib.itoa x).length ≤ (bl x.natAbs + 2) / 3 + 2 := by
  have hd : (Lib.decDigits x.natAbs).length ≤ (bl x.natAbs + 2) / 3 + 1 := by
    by_cases h : x.natAbs = 0
    · rw [h, decDigits_zero, List.length_singleton]; omega
    · rw [dec_rev h, List.length_reverse]; exact Nat.le_succ_of_le (rdec_len3 _)
  unfold Lib.itoa
  split
  · simp only [List.length_cons]; omega
  · rw [show x.toNat = x.natAbs by omega]; omega
theorem txt_small {s : Bool} {n : Nat} {E : Int} (hn : sz n ≤ 4) (hE : -300 ≤ E ∧ E ≤ 300) : txt (iv s n) E = dt (nd (iv s n) E) ∧ (txt (iv s n) E).length ≤ 150 ∧ ppV (txt (iv s n) E) = nd (iv s n) E ∧ ppE (txt (iv s n) E) = 0 := by
  have h1 : E.natAbs ≤ mx := by unfold mx; omega
  have he := nd_exp (s := s) (n := n) (E := E) (by omega) (by omega)
  have h2 : (nd (iv s n) E).2.natAbs ≤ mx := by unfold mx; omega
  have ht : txt (iv s n) E = dt (nd (iv s n) E) := if_pos ⟨h1, h2⟩
  have hp := pp_txt (x := iv s n) h1 h2
  refine ⟨ht, ?_, by unfold ppV; rw [hp]; rfl, by unfold ppE; rw [hp]⟩
  rw [ht]
  unfold dt
  rw [List.length_append, List.length_cons]
  have l1 := itoa_len3 (nd (iv s n) E).1
  have l2 := itoa_len3 (nd (iv s n) E).2
  have b1 := bl_sz (Nat.le_trans (od_sz (s := s) (n := n) E) hn)
  have b2 : bl (nd (iv s n) E).2.natAbs ≤ 21 := bl_iff.2 (by omega)
  omega
theorem ppV_norm (s : List UInt8) : ppV s = nd (ppV s).1 (ppV s).2 := by
  unfold ppV
  cases h : pp s with
  | none => rfl
  | some y => exact (pp_back h).1
set_option maxRecDepth 100000 in
set_option maxHeartbeats 2000000 in
theorem texts_ok (s : Bool) (E : Int) (t : List UInt8) {a : Option Addr} {k c n : Nat} (w : World) (hA : Nm w a k c n) (hW : Wn w) (ht : t.length ≤ 9223372036854775807) :
    Ret Tryz.prog 3 #[.agg #[.bool s, .slice a k c, .int .i64 E], str t] w (fun v w' => v = .bool true ∧ Ext w w') := by
  refine enter (S := No) (l := [_, _]) (L := []) 65 Tryz.func3 rfl rfl rfl (St.start w No) ?_; refine yA ?_; refine w_boxA rfl (fun p gp up => ?_)
  refine aB rfl ?_; refine yB ?_; refine zq ?_; refine yA ?_; refine w_loadA z27 rfl (fun _ h => h.at_ 0 rfl) rfl ?_; refine zC (fun w => zR Tryz.func5 rfl rfl rfl) rfl rfl (fun w h => jSmall_ok s E _ _ _ w) ?_; refine w_r (fun _ => R_not rfl) rfl rfl ?_; refine mB rfl ?_; refine zp (t := 15) rfl (fun h2 => ?_) (fun h2 => ?_)
  · refine zs rfl rfl (bV h2) ?_; refine zs rfl rfl (bV h2) ?_; refine zs rfl rfl (bV h2) ?_; refine w_r (v := .bool _) (fun _ => zT (bV h2) rfl) rfl rfl ?_; refine yB ?_; refine zE rfl ?_; refine yA ?_; refine zC (fun w => zR Tryz.func6 rfl rfl rfl) rfl rfl (fun w h => head05_ok w (hW.now (.head _) h)) ?_; refine aB rfl ?_; refine yB ?_; refine ze ?_; refine zt (?_)
    refine zo (v := .bool _) rfl rfl rfl ?_; exact fun w' hw => ⟨rfl, hw.fr (w, No) (.head _)⟩
  · have hsm := of_small h2; have hsn : sz n ≤ k := sz_iff.2 hA.lt; have hts := txt_small (s := s) (n := n) (E := E) (by omega) ⟨hsm.2.1, hsm.2.2⟩; have hls := hts.2.1; have hos := od_sz (s := s) (n := n) E; have hvs := ppV_sz (s := (txt (iv s n) E)) (by omega)
    refine zw rfl rfl (bV h2) ?_; refine zm (v := str _) rfl ?_; refine zw rfl rfl (bV h2) ?_; refine w_r (fun _ => R_slen st9 rfl (by omega)) rfl rfl ?_; refine zw rfl rfl (bV h2) ?_; refine w_r (fun _ => R_gt rfl rfl) rfl rfl ?_; refine w_r (v := .bool _) (fun _ => zF (bV h2) rfl) rfl rfl ?_; refine yB ?_; refine zD rfl (fun h3 => ?_) (fun h3 => ?_)
    · refine yA ?_; refine zC (fun w => zR Tryz.func6 rfl rfl rfl) rfl rfl (fun w h => head05_ok w (hW.now (.head _) h)) ?_; refine aB rfl ?_; refine yB ?_; refine ze ?_; refine zt (?_)
      refine zo (v := .bool _) rfl rfl rfl ?_; exact fun w' hw => ⟨rfl, hw.fr (w, No) (.head _)⟩
    · have hvt := ppV_sz (s := t) (by omega)
      refine zi ?_; refine zk ?_; refine yA ?_; refine w_loadA z27 rfl (fun _ h => h.at_ 0 rfl) rfl ?_; refine zC (fun w => zR Tryz.func7 rfl rfl rfl) rfl rfl (fun w h => dText_ok _ _ w ((Kn.old hA).at_ 0 rfl h) (hW.now (.head _) h) ⟨by omega, by omega⟩) ?_; refine za (v := str _) rfl ?_; refine yC ?_; refine zm (v := str _) rfl ?_; refine w_tel (fun w => zR Tryz.func8 rfl rfl rfl) rfl rfl (fun w h => dParse_ok (txt (iv s n) E) w (hW.now (.head _) h) (by omega)) (fun x4 a4 c4 hK4 hN4 => ?_)
      refine zm rfl ?_; refine w_r (fun _ => R_extract rfl rfl) rfl rfl ?_; refine w_r (fun _ => R_extract rfl rfl) rfl rfl ?_; refine w_alloc zr27 (fun b6 gb6 ub6 => ?_)
      refine w_store 0 rfl z27 rfl rfl rfl rfl rfl rfl rfl ?_; refine aI rfl ?_; refine yC ?_; refine zm (v := str _) rfl ?_; refine w_tel (fun w => zR Tryz.func8 rfl rfl rfl) rfl rfl (fun w h => dParse_ok t w (hW.now (.tail _ (.head _)) h) (by omega)) (fun x6 a6 c6 hK6 hN6 => ?_)
      refine zm rfl ?_; refine w_r (fun _ => R_extract rfl rfl) rfl rfl ?_; refine w_r (fun _ => R_extract rfl rfl) rfl rfl ?_; refine w_alloc zr27 (fun b8 gb8 ub8 => ?_)
      refine w_store 0 rfl z27 rfl rfl rfl rfl rfl rfl rfl ?_; refine aI rfl ?_; refine yC ?_; refine zm (v := str _) rfl ?_; refine w_tel (fun w => zR Tryz.func9 rfl rfl rfl) rfl rfl (fun w h => jParse_ok t w (by omega)) (fun x8 a8 c8 hK8 hN8 => ?_)
      refine zm rfl ?_; refine w_r (fun _ => R_extract rfl rfl) rfl rfl ?_; refine w_r (fun _ => R_extract rfl rfl) rfl rfl ?_; refine w_alloc zr27 (fun b10 gb10 ub10 => ?_)
      refine w_store 0 rfl z27 rfl rfl rfl rfl rfl rfl rfl ?_; refine aI rfl ?_; refine yB ?_; refine zq ?_; refine c_heldS mixed ?_; refine zh (v := str _) 0 rfl (by kernel_rfl) rfl rfl (fun w h => h) (fun w h => R_move rfl) ?_; refine h_loadA 1 rfl (by kernel_rfl) (fun w h => h) z27 rfl (fun _ h => h.at_ 3 rfl) rfl ?_; refine h_one 2 (by kernel_rfl) (fun w h => h) ?_; refine o_pureW rfl (wn_none rfl) rfl (fun w => zR Tryz.func10 rfl rfl rfl) (fun w h => jText_ok _ _ w ((Kn.old hA).at_ 3 rfl h) ⟨by omega, by omega, by omega, by omega⟩) ?_; refine zh 3 rfl (by kernel_rfl) rfl rfl (fun w h => h) (fun w h => R_seq rfl rfl) ?_; refine zh (v := .bool _) 4 rfl (by kernel_rfl) rfl rfl (fun w h => h) (fun w h => R_move rfl) ?_
      refine h_takeG (v := .int _ _) 5 rfl (by kernel_rfl) rfl rfl rfl (congrArg Value.bool (decide_eq_true hts.1)) rfl (fun w h => h) (fun w h => R_move rfl) ?_; refine h_takeG 6 rfl (by kernel_rfl) rfl rfl rfl (congrArg Value.bool (decide_eq_true hts.1)) rfl (fun w h => h) (fun w h => R_eq rfl rfl) ?_; refine zh (v := .bool _) 7 rfl (by kernel_rfl) rfl rfl (fun w h => h) (fun w h => zT (congrArg Value.bool (decide_eq_true hts.1)) rfl) ?_; refine zh (v := .bool _) 8 rfl (by kernel_rfl) rfl rfl (fun w h => h) (fun w h => R_move rfl) ?_; refine h_takeG 9 rfl (by kernel_rfl) rfl rfl rfl (congrArg Value.bool (decide_eq_true hts.2.2.2)) rfl (fun w h => h) (fun w h => R_ldb z27 rfl (h.at_ 2 rfl) rfl) ?_; refine h_takeG 10 rfl (by kernel_rfl) rfl rfl rfl (congrArg Value.bool (decide_eq_true hts.2.2.2)) rfl (fun w h => h) (fun w h => R_ldb z27 rfl (h.at_ 3 rfl) rfl) ?_
      refine h_one 11 (by kernel_rfl) (fun w h => h) ?_; refine o_tel rfl (wn_yes rfl rfl rfl (congrArg Value.bool (decide_eq_true hts.2.2.2))) rfl (fun w => zR Tryz.func12 rfl rfl rfl) (fun w h => jNorm_ok _ _ w ((Kn.old hA).at_ 3 rfl h) ⟨by omega, by omega, by omega, by omega⟩) (fun x10 a10 c10 hK10 hN10 => ?_)
      refine h_one 12 (by kernel_rfl) (fun w h => h.unbase (fun x hx => .tail _ (hx))) ?_; refine o_pureW rfl (wn_yes rfl rfl rfl (congrArg Value.bool (decide_eq_true hts.2.2.2))) rfl (fun w => zR Tryz.func11 rfl rfl rfl) (fun w h => jSame_ok (ppV (txt (iv s n) E)) (nd (iv s n) E) w (hK4.at_ 3 rfl h) (hK10.at_ 0 rfl h) (ppV_norm _) ⟨by omega, by omega⟩) ?_; refine zh (v := .bool _) 13 rfl (by kernel_rfl) rfl rfl (fun w h => h.unbase (fun x hx => .tail _ (hx))) (fun w h => zT (congrArg Value.bool (decide_eq_true hts.2.2.2)) rfl) ?_; refine zh (v := .bool _) 14 rfl (by kernel_rfl) rfl rfl (fun w h => h.unbase (fun x hx => .tail _ (hx))) (fun w h => R_move rfl) ?_; refine h_takeG (v := .int _ _) 15 rfl (by kernel_rfl) rfl rfl rfl (congrArg Value.bool (decide_eq_true hts.2.2.1)) rfl (fun w h => h.unbase (fun x hx => .tail _ (hx))) (fun w h => R_move rfl) ?_
      refine h_takeG (v := .int _ _) 16 rfl (by kernel_rfl) rfl rfl rfl (congrArg Value.bool (decide_eq_true hts.2.2.1)) rfl (fun w h => h.unbase (fun x hx => .tail _ (hx))) (fun w h => R_move rfl) ?_; refine h_takeG 17 rfl (by kernel_rfl) rfl rfl rfl (congrArg Value.bool (decide_eq_true hts.2.2.1)) rfl (fun w h => h.unbase (fun x hx => .tail _ (hx))) (fun w h => R_eq rfl rfl) ?_; refine zh (v := .bool _) 18 rfl (by kernel_rfl) rfl rfl (fun w h => h.unbase (fun x hx => .tail _ (hx))) (fun w h => zT (congrArg Value.bool (decide_eq_true hts.2.2.1)) rfl) ?_; refine zh (v := .bool _) 19 rfl (by kernel_rfl) rfl rfl (fun w h => h.unbase (fun x hx => .tail _ (hx))) (fun w h => R_move rfl) ?_; refine h_takeG 20 rfl (by kernel_rfl) rfl rfl rfl (congrArg Value.bool (decide_eq_true rfl)) rfl (fun w h => h.unbase (fun x hx => .tail _ (hx))) (fun w h => R_ldb z27 rfl (h.at_ 1 rfl) rfl) ?_
      refine h_takeG 21 rfl (by kernel_rfl) rfl rfl rfl (congrArg Value.bool (decide_eq_true rfl)) rfl (fun w h => h.unbase (fun x hx => .tail _ (hx))) (fun w h => R_ldb z27 rfl (h.at_ 0 rfl) rfl) ?_; refine h_one 22 (by kernel_rfl) (fun w h => h.unbase (fun x hx => .tail _ (hx))) ?_; refine o_pureW rfl (wn_yes rfl rfl rfl (congrArg Value.bool (decide_eq_true rfl))) rfl (fun w => zR Tryz.func11 rfl rfl rfl) (fun w h => jSame_ok (ppV t) (ppV t) w (hK6.at_ 2 rfl h) (hK8.at_ 1 rfl h) (ppV_norm _) ⟨by omega, by omega⟩) ?_; refine zh (v := .bool _) 23 rfl (by kernel_rfl) rfl rfl (fun w h => h.unbase (fun x hx => .tail _ (hx))) (fun w h => zT (congrArg Value.bool (decide_eq_true rfl)) rfl) ?_; refine zh (v := .bool _) 24 rfl (by kernel_rfl) rfl rfl (fun w h => h.unbase (fun x hx => .tail _ (hx))) (fun w h => R_move rfl) ?_
      refine h_one 25 (by kernel_rfl) (fun w h => h.unbase (fun x hx => .tail _ (hx))) ?_; refine o_pureW rfl (wn_yes rfl rfl rfl (congrArg Value.bool (decide_eq_true rfl))) rfl (fun w => zR Tryz.func6 rfl rfl rfl) (fun w h => head05_ok w (hW.now (.tail _ (.tail _ (.tail _ (.tail _ (.head _))))) h)) ?_; refine zh (v := .bool _) 26 rfl (by kernel_rfl) rfl rfl (fun w h => h.unbase (fun x hx => .tail _ (hx))) (fun w h => zT (congrArg Value.bool (decide_eq_true rfl)) rfl) ?_; refine zh (v := .bool _) 27 rfl (by kernel_rfl) rfl rfl (fun w h => h.unbase (fun x hx => .tail _ (hx))) (fun w h => R_assign rfl) ?_; refine h_done (by kernel_rfl) (fun w h => h.unbase (fun x hx => .tail _ (hx))) ?_; refine zk ?_; refine ze ?_; refine zo (v := .bool _) rfl rfl rfl ?_; exact fun w' hw => ⟨rfl, hw.fr (w, No) (.tail _ (.tail _ (.tail _ (.tail _ (.head _)))))⟩
end Go.Proofs.YtoapegnngbhkbaaGreatDoor
end
section
/- A row's lifting with what is laid and the world's shape. -/
namespace Go.Sx
theorem handed_and_shaped {H : Type} {enc : TypeId × Value → H} {a : Assume} {C : Checked} {os : Os} {f : FuncId} {fn : Func} {s : ChangeSpec} {conds : List PathCond} {apart fresh handsOn again : Bool} {X : World → Array Value → Prop}
    (hX : ∀ (w w' : World) (args : Array Value), w.heap = w'.heap → X w args → X w' args)
    (own : ownKnob C.prog.godebug = none) (started : os.Started) (noInit : C.prog.inits.idxOf? f = none) (hfn : C.prog.funcs[f]? = some fn)
    (witness : ∃ (w : World) (tape : Tape) (i : Input), w.os = os ∧ (w.forCall tape i).Shaped C.prog ∧ i.vars = [] ∧ Input.okWide C.prog (w.forCall tape i) .any w.heap.size f i ∧
      ((s.pre enc C.prog fn conds apart (w.forCall tape i).memory i.args ∧ X (w.forCall tape i).memory i.args) ∧ sizedMet enc C.prog fn (OpenSpec.ofChange s) apart (w.forCall tape i).memory i.args) ∧ a.holds C.prog (lone (Frame.enter C.prog f i.args .normal) [] (w.forCall tape i)))
    (contract : ∀ (W : World) (base : Nat) (args : Array Value) (ds gs : List (DataW H)) (before : List MemPlace),
      (∀ (j : Nat) t v, fn.params[j]? = some t → args[j]? = some v → Value.okWide C.prog W .any base t v) →
      DataW.Whole enc C.prog fn.params.toList s.vars apart W args.toList ds gs before →
      X W args → W.ShapedOpen C.prog →
      Calls C.prog f args W fun e W' => ∃ v, e = .returned v ∧ s.post enc C.prog fn apart fresh handsOn again W args v W') :
    ReturnsInHanded a C os f .any (fun w args => (s.pre enc C.prog fn conds apart w args ∧ X w args) ∧ sizedMet enc C.prog fn (OpenSpec.ofChange s) apart w args) (s.post enc C.prog fn apart fresh handsOn again) := by
  refine returnsInHanded_of_calls own started noInit witness ?_
  intro w tape i _ hsh _ hok hpre hholds
  obtain ⟨_, _, _, fn', hfn', _, _, _, _, hval⟩ := hok
  have e : fn' = fn := Option.some.inj (hfn'.symm.trans hfn)
  subst e
  obtain ⟨⟨⟨ds, gs, before, hw, hc⟩, hx⟩, hz⟩ := hpre
  have hw' := DataW.Whole.of_heap (w' := w.forCall tape i) (by rfl) hw
  refine (contract (w.forCall tape i) w.heap.size i.args ds gs before hval hw' (hX _ _ _ (by rfl) hx) hsh).mono fun e W' ⟨v, he, hp⟩ => ?_
  subst he
  exact ChangeSpec.post_blind hp
end Go.Sx
end
section
/- Trees that are handed in: a reading of an argument opened into a tree in memory. -/
namespace Go.Sx
open Go.RowKit Go.Tree
theorem len3 {α : Type} {l : List α} (h : l.length = 3) : ∃ a b c, l = [a, b, c] := by
  match l, h with
  | [a, b, c], _ => exact ⟨a, b, c, rfl⟩
end Go.Sx
end
section
/- A row of bytes that is handed in. -/
end
section
namespace Go.Proofs.YtoapegnngbhkbaaGreatDoor
open Go.ChangeShapes Go.WideShapes Go.ChangeAt Go.RowKit Go.Sx Go.Num
open Go.ChangeMaps (open_string)
theorem own : ownKnob Tryz.prog.godebug = none := by kernel_rfl
theorem below_ext {w w' : World} (h : Ext w w') : Below w.heap.size w w' := ⟨h.os, h.tape, h.output, h.size, fun k hk => h.blk k hk (fun x => x)⟩
section
variable {H : Type} {enc : TypeId × Value → H} {P : Program}
theorem post_ext2 {f : Func} {s : ChangeSpec} {apart fresh handsOn : Bool} {W W' : World} {args : Array Value} {v : Value} {ds gs : List (DataW H)} {before pa pv : List MemPlace}
    (hW : DataW.Whole enc P f.params.toList s.vars apart W args.toList ds gs before)
    (hres : ∀ (b : Nat) (sp : Nat → Bool) (hd : Bool), DataW.TrodAll enc P W' b sp hd f.resultTypes.toList (v.resultList f.resultTypes.size) (s.fn H (ds ++ gs)).results [])
    (hargs : DataW.TrodAll enc P W' 0 (fun b => decide (b < W.heap.size)) true f.params.toList args.toList (s.fn H (ds ++ gs)).args pa)
    (hvars : ∀ sp : Nat → Bool, (∀ p ∈ before, sp p.block = true) → DataW.TrodVars enc P W' sp s.vars (s.fn H (ds ++ gs)).vars pv)
    (hps : before = pa ++ pv) (hb : Below W.heap.size W W') : s.post enc P f apart fresh handsOn false W args v W' := by
  have hold : ∀ p ∈ before, (fun b => decide (b < W.heap.size)) p.block = true := fun p hp => by simpa using hW.lt p hp
  exact ⟨ds, gs, before, [], pa, pv, hW, hres _ _ _, hargs, hvars _ hold, hb.frame _, fun h => by cases h⟩
end
theorem laidB : laidOutB Tryz.prog = true := by kernel_rfl
theorem door_met (os : Os) (args : Array Value) : laidMetH Tryz.prog Rows.dyadTextsRow.laid ((World.doorLaid Tryz.prog 400 os).forCall (fun _ _ => 0) ⟨#[], args, []⟩).memory :=
  laidMetH_of_parts3 (fuel := 8) (laidMet_of_run' 8 (by kernel_rfl) (by kernel_rfl)) (by kernel_rfl) (by kernel_rfl)
theorem len2D {α : Type} {l : List α} (h : l.length = 2) : ∃ a b, l = [a, b] := by
  match l, h with
  | [a, b], _ => exact ⟨a, b, rfl⟩
theorem lenDy : Tryz.prog.cellsOf 27 = 3 := by kernel_rfl
theorem lenIn : Tryz.prog.cellsOf 25 = 2 := by kernel_rfl
theorem lenNa : Tryz.prog.cellsOf 23 = 1 := by kernel_rfl
theorem lenU : Tryz.prog.cellsOf 66 = 1 := by kernel_rfl
theorem lenB : Tryz.prog.cellsOf 4 = 1 := by kernel_rfl
theorem lenW : Tryz.prog.cellsOf 3 = 1 := by kernel_rfl
section
variable {H : Type} {enc : TypeId × Value → H} {W : World} {sp : Nat → Bool} {hd : Bool}
/-- a row of limbs that is handed in -/
theorem open_nat {fuel : Nat} {cs : List Value} {x : DataW H × List MemPlace} (hs : ∀ a l c, cs = [.slice (some a) l c] → a.spot = none) (h : DataW.trod enc Tryz.prog W 0 sp hd fuel 23 cs = some x) : ∃ (a : Option Addr) (k c n : Nat), cs = [.slice a k c] ∧ Nm W a k c n := by
  rcases open_ints Tryz.underlying23 Tryz.underlying66 lenU h with ⟨rfl, _⟩ | ⟨a, len, cap, zs, rfl, hb, hl, hm, hz, _, hcell, hw⟩
  · exact ⟨none, 0, 0, 0, rfl, Nm.nil _⟩
  · have hlz : len ≤ zs.length := by rw [hz]; split <;> omega
    have hsp := hs a len cap rfl
    obtain ⟨b, o, s⟩ := a
    simp only at hsp
    subst hsp
    have hdg : Dig Go.Num.B ((zs.take len).map Int.toNat) := fun y hy => by
      obtain ⟨z, hz1, rfl⟩ := List.mem_map.1 hy
      have hwf := hw z (List.mem_of_mem_take hz1)
      simp only [Lit.wf, Bool.and_eq_true, decide_eq_true_eq] at hwf
      have e1 : IntKind.u64.min = 0 := by decide
      have e2 : IntKind.u64.max = 18446744073709551615 := by decide
      have hBv : Go.Num.B = 18446744073709551616 := rfl
      omega
    have hlen : ((zs.take len).map Int.toNat).length = len := by rw [List.length_map, List.length_take, Nat.min_eq_left hlz]
    refine ⟨some ⟨b, o, none⟩, len, cap, vl ((zs.take len).map Int.toNat), rfl, ?_, hl, .inr ⟨b, o, rfl⟩, fun j hj => ⟨b, o, rfl, ?_⟩⟩
    · have := vlb_lt hdg
      rwa [hlen] at this
    · have hzj : zs[j]? = some zs[j] := List.getElem?_eq_getElem (by omega)
      have hg : ((zs.take len).map Int.toNat)[j]? = some zs[j].toNat := by rw [List.getElem?_map, List.getElem?_take, if_pos hj, hzj]; rfl
      have hwf := hw zs[j] (List.getElem_mem _)
      simp only [Lit.wf, Bool.and_eq_true, decide_eq_true_eq] at hwf
      have e1 : IntKind.u64.min = 0 := by decide
      have hc2 := hcell j (by omega)
      rw [List.getD_eq_getElem?_getD, hzj] at hc2
      have e3 : (⟨b, o, none⟩ : Addr).add j = ⟨b, o + j, none⟩ := by unfold Addr.add; split <;> simp_all
      rw [← e3, hc2, dg_vlb B_pos hdg hg, Int.toNat_of_nonneg (by omega)]; rfl
theorem open_dy {fuel : Nat} {cs : List Value} {x : DataW H × List MemPlace} (hs : ∀ a l c, cs[1]? = some (.slice (some a) l c) → a.spot = none) (h : DataW.trod enc Tryz.prog W 0 sp hd fuel 27 cs = some x) : ∃ (s : Bool) (a : Option Addr) (k c n : Nat) (E : Int), cs = [.bool s, .slice a k c, .int .i64 E] ∧ Nm W a k c n := by
  obtain ⟨xs, n, rfl, rfl, hl, hxl, hf⟩ := DataW.trod_struct Tryz.underlying27 h
  obtain ⟨c0, c1, c2, rfl⟩ := len3 (hl.trans lenDy)
  obtain ⟨y0, y1, rfl⟩ := len2D (hxl.trans rfl)
  have h0 : DataW.trod enc Tryz.prog W 0 sp hd n 25 (([c0, c1, c2].drop 0).take (Tryz.prog.cellsOf 25)) = some y0 := hf 0 _ rfl
  have h1 : DataW.trod enc Tryz.prog W 0 sp hd n 3 (([c0, c1, c2].drop 2).take (Tryz.prog.cellsOf 3)) = some y1 := hf 1 _ rfl
  rw [lenIn] at h0
  rw [lenW] at h1
  obtain ⟨E, e1, _, _⟩ := DataW.trod_int Tryz.underlying3 h1
  obtain rfl : _ = _ := (List.cons.inj e1).1
  obtain ⟨zs, n2, e0, _, hl2, hxl2, hf2⟩ := DataW.trod_struct Tryz.underlying25 h0
  subst e0
  obtain ⟨u0, u1, rfl⟩ := len2D (hxl2.trans rfl)
  have k0 : DataW.trod enc Tryz.prog W 0 sp hd n2 4 (([c0, c1].drop 0).take (Tryz.prog.cellsOf 4)) = some u0 := hf2 0 _ rfl
  have k1 : DataW.trod enc Tryz.prog W 0 sp hd n2 23 (([c0, c1].drop 1).take (Tryz.prog.cellsOf 23)) = some u1 := hf2 1 _ rfl
  rw [lenB] at k0
  rw [lenNa] at k1
  obtain ⟨s, e2, _⟩ := DataW.trod_bool Tryz.underlying4 k0
  obtain rfl : _ = _ := (List.cons.inj e2).1
  obtain ⟨a, k, c, m, e3, hN⟩ := open_nat (fun a l c hc => hs a l c (by have := (List.cons.inj hc).1; rw [← this]; rfl)) k1
  obtain rfl : _ = _ := (List.cons.inj e3).1
  exact ⟨s, a, k, c, m, E, rfl, hN⟩
set_option maxRecDepth 100000 in
theorem spot_dy {base : Nat} {cs : Array Value} (h : Row.okWide Tryz.prog W .any base 27 cs) : ∀ a l c, cs.toList[1]? = some (.slice (some a) l c) → a.spot = none := by
  intro a l c hc
  obtain ⟨ts, hts, _, hall⟩ := h
  have e : Tryz.prog.cellTypes Tryz.prog.depth 27 = some [4, 23, 3] := by kernel_rfl
  obtain rfl := Option.some.inj (e.symm.trans hts)
  obtain ⟨u, hu, hok⟩ := hall 1 _ (by simpa using hc)
  cases hu
  unfold Cell.okWide at hok
  rw [Tryz.underlying23] at hok
  simp only at hok
  unfold Cell.ok at hok
  rw [Tryz.underlying23] at hok
  exact hok.2.2.2.1
end
theorem iface_cell {W : World} {nm ifn : String} {d : DataW Unit} {r : List (String × DataW Unit)} {gi : Nat} {ms : Array (String × TypeId)} (h : laidMet Tryz.prog ((nm, .iface ifn d) :: r) W) (hg : Tryz.prog.globalNamed nm = some gi) (ht : (Tryz.prog.globals[gi]?).map (·.type) = some 61) (hi : Tryz.prog.underlying 61 = some (.interface ms)) :
    ∃ ev, W.cell? ⟨gi, 0, none⟩ = some ev ∧ (ev = .nilIface ∨ ∃ te pe, ev = .iface te pe) := by
  obtain ⟨ps, ⟨g0, t0, cs0, f0, p0, q0, hg0, ht0, hv0, hd0, _, e0⟩, _, _⟩ := h
  obtain rfl := Option.some.inj (hg.symm.trans hg0)
  obtain rfl := Option.some.inj (ht.symm.trans ht0)
  obtain ⟨_, u, v, hcs, _, _⟩ := iface_of_trod hi hd0
  have h1 := World.var?_cell hg hv0 0
  obtain ⟨l0⟩ := cs0
  simp only at hcs
  subst hcs
  exact ⟨_, h1, .inr ⟨u, v, rfl⟩⟩
theorem wn_of {W : World} (hL : laidMetH Tryz.prog Rows.dyadTextsRow.laid W) (hsh : W.ShapedOpen Tryz.prog) : Wn W := by
  rw [MakeChecks.laidMetH_plain _ _ _ (by kernel_rfl)] at hL
  have h2 := hL.tail.tail
  have h3 := h2.tail
  have h4 := h3.tail
  refine ⟨cell_of_shapedOpen_int hsh (zero := #[.int .i64 0]) (g := 0) (t := 3) (by decide) (by kernel_rfl) rfl (by kernel_rfl) (by kernel_rfl) Tryz.underlying3,
    iface_cell h4 (by kernel_rfl) (by kernel_rfl) Tryz.underlying61, iface_cell h3 (by kernel_rfl) (by kernel_rfl) Tryz.underlying61, ?_⟩
  have hT := Lib.tabIs_of_head (name := "internal/strconv.uint64pow10") (k := .u64) (zs := Lib.pow10Tab) (g := 5) (t := 161) (e := 66) (n := 20) (by kernel_rfl) (by kernel_rfl) Tryz.underlying161 Tryz.underlying66 lenU (by kernel_rfl) h2
  unfold Lib.TabIs World.var? at hT
  have hgn : Tryz.prog.globalNamed "internal/strconv.uint64pow10" = some 5 := by kernel_rfl
  rw [hgn] at hT
  simp only [Option.bind_some] at hT
  split at hT
  · rename_i cs T f hh
    exact ⟨T, f, by rw [hh]; have := Option.some.inj hT; rw [this]⟩
  · cases hT
set_option maxRecDepth 100000 in
theorem dyadTexts_lifted (os : Os) (started : os.Started) (H : Type) (enc : TypeId × Value → H) :
    ReturnsInHanded {} Tryz.checked os 3 .any (fun w args => (Rows.dyadTextsSpec.pre enc Tryz.prog Tryz.f3 [] false w args ∧ laidMetH Tryz.prog Rows.dyadTextsRow.laid w) ∧ sizedMet enc Tryz.prog Tryz.f3 (OpenSpec.ofChange Rows.dyadTextsSpec) false w args)
      (Rows.dyadTextsSpec.post enc Tryz.prog Tryz.f3 false true false false) := by
  refine handed_and_shaped (C := Tryz.checked) (X := fun w _ => laidMetH Tryz.prog Rows.dyadTextsRow.laid w) (fun _ _ _ hh h => h.of_heap hh) own started (by kernel_rfl) Tryz.func3
    (ChangeSpec.witness_shaped (enc := enc) (C := Tryz.checked) (os := os) (X := fun w _ => laidMetH Tryz.prog Rows.dyadTextsRow.laid w) false (World.doorLaid Tryz.prog 400 os) #[.agg #[.bool false, .slice none 0 0, .int .i64 0], .string ⟨#[]⟩] 8 rfl (World.shaped_of_RefB (by kernel_rfl) (by kernel_rfl)) (by kernel_rfl) (by kernel_rfl) (by kernel_rfl) (door_met os _)) ?_
  intro W base args ds gs before hval0 hW hL hsh
  have hval : ∀ (j : Nat) t v, Tryz.f3.params[j]? = some t → args[j]? = some v → Value.okWide Tryz.prog W .any base t v := hval0
  have hW' := hW
  have hlt : ∀ y ∈ before, y.block < W.heap.size := fun y hy => by simpa using hW'.lt y hy
  obtain ⟨p, q, hA0, hV, rfl, _, _⟩ := hW
  have hA : DataW.TrodAll enc Tryz.prog W 0 (fun _ => true) true Tryz.f3.params.toList args.toList ds p := hA0
  rw [Tryz.params3] at hA hval
  obtain ⟨v0, v1, d0, d1, p0, p1, rfl, rfl, rfl, h0, h1⟩ := trodAll_two hA
  obtain ⟨rfl, rfl⟩ := trodVars_none hV
  have hk0 := h0
  obtain ⟨f0, ht0⟩ := h0
  have ho0 := hval 0 27 v0 rfl rfl
  unfold Value.okWide at ho0
  rw [Tryz.underlying27] at ho0
  obtain ⟨as0, rfl, _, hr0⟩ := ho0
  obtain ⟨s0, a0, k0, c0, n0, e0, hcs0, hN0⟩ := open_dy (spot_dy hr0) ht0
  obtain rfl : as0 = #[.bool s0, .slice a0 k0 c0, .int .i64 e0] := Array.toList_inj.1 hcs0
  obtain ⟨x1, rfl, rfl, rfl, wx1⟩ := open_string Tryz.underlying9 (hval 1 9 v1 rfl rfl) h1
  clear hA0 hval0
  simp only [List.append_nil] at hW' hlt
  refine Calls.mono (texts_ok s0 e0 x1.data.toList W hN0 (wn_of hL hsh) (by have := wx1; unfold maxLen at this; simp; omega)) fun e W' ⟨v, he, hv, hx⟩ => ?_
  subst he; subst hv
  exact ⟨_, rfl, post_ext2 (pv := []) hW' (fun _ _ _ => trodAll_mk1 (shut_bool Tryz.underlying4 _)) (trodAll_mk2 (Below.trod laidB (by kernel_rfl) (of_decide_eq_true (by kernel_rfl)) hk0 (below_ext hx) (fun y hy => hlt y (by simp [hy]))) (ChangeMaps.shut_string Tryz.underlying9 wx1)) (fun _ _ => rfl) (by simp) (below_ext hx)⟩
theorem dyadTexts_holds : Rows.DyadTextsSaid :=
  OpenClaim.holds_of_wide 3 Tryz.f3 rfl rfl rfl rfl rfl rfl rfl ⟨rfl, rfl, rfl, rfl, rfl⟩ rfl rfl rfl rfl rfl (by kernel_rfl) Tryz.func3 (by kernel_rfl)
    (of_decide_eq_true (by kernel_rfl)) (by unfold Func.isWrapper; first | (rw [if_pos (by decide +kernel)]; kernel_rfl) | (rw [if_neg (by decide +kernel)]; exact ⟨rfl, rfl⟩))
    (fun os started H enc _ => dyadTexts_lifted os started H enc)
end Go.Proofs.YtoapegnngbhkbaaGreatDoor
end
section
namespace Go.Proofs.YtoapegnngbhkbaaGreatDoor
open Go
theorem dyadTexts_card : Rows.DyadTextsCardSaid :=
  Claim7.holds_tied_plain_at .later [] [.data, .data, .data, .sentinel, .sentinel] true (true, "65eefca07c8a0b6431abd45faa018bc5804f53caed0b7d4ce78f6050a5bfc3ba") true
    dyadTexts_holds (fun _ h => by cases h) (by kernel_rfl) (fun _ h => by cases h) dyadTexts_row_tie rfl ⟨rfl, rfl⟩ (by kernel_rfl) rfl
    (fun f fn hf hfn => by
      obtain rfl : f = 3 := Option.some.inj ((show Tryz.prog.funcNamed "stepstone/stepstonelaw05.DyadTexts" = some 3 by kernel_rfl).symm.trans hf) |>.symm
      obtain rfl : fn = Tryz.f3 := (Option.some.inj (Tryz.func3.symm.trans hfn)).symm
      exact ⟨by kernel_rfl, fun j t ht => by
        rw [Tryz.params3] at ht
        rcases j with _ | _ | j
        · obtain rfl : t = 27 := by simpa using ht.symm
          exact (show Tryz.prog.wantsStandIn 27 = false by kernel_rfl)
        · obtain rfl : t = 9 := by simpa using ht.symm
          exact (show Tryz.prog.wantsStandIn 9 = false by kernel_rfl)
        · simp at ht⟩)
    (by kernel_rfl)
end Go.Proofs.YtoapegnngbhkbaaGreatDoor
end
