/- Layer 5, DyadRounds: at every two small dyadic numbers and every way, the law of rounding, quotients, scales and grids answers true. Part 6 of 10. -/
import Derived.Test.YtoapegnngbhkbaaGreatDoorR05
section
namespace Go.Proofs.YtoapegnngbhkbaaGreatDoor
open Go.RowKit Go.Sx
open Go.Num
theorem u64_neg {x : Int} (h : x < 0) (h2 : -4611686018427387904 ≤ x) : IntKind.u64.wrap (-(IntKind.u64.wrap x)) = ((x.natAbs : Nat) : Int) := by
 rw [IntKind.wrap_u64, IntKind.wrap_u64]; omega
theorem u64_pos {x : Int} (h : ¬ x < 0) (h2 : x ≤ 4611686018427387904) : IntKind.u64.wrap x = ((x.natAbs : Nat) : Int) := by
 rw [IntKind.wrap_u64]; omega
theorem ng_and (x : Int) : (decide (x < 0) && decide (x.natAbs ≠ 0)) = ng x := by
 unfold ng
 by_cases h : x < 0
 ·rw [decide_eq_true h, decide_eq_true (by omega)]; rfl
 ·rw [decide_eq_false h]; rfl
theorem iv_sign (s : Bool) (n : Nat) : (iv s n).sign = if n = 0 then 0 else if s = true then -1 else 1 := by
 by_cases h : n = 0
 ·subst h; rw [if_pos rfl, iv_zero]; rfl
 ·rw [if_neg h]
  cases s
  ·rw [if_neg (by simp)]; unfold iv; rw [if_neg (by simp)]; exact Int.sign_eq_one_of_pos (by omega)
  ·rw [if_pos rfl]; unfold iv; rw [if_pos rfl]; exact Int.sign_eq_neg_one_of_neg (by omega)
/-- the size of an integer that is shifted down, rounded down -/
def shrN (g : Bool) (n h : Nat) : Nat := if g = true ∧ n / 2 ^ h * 2 ^ h ≠ n then n / 2 ^ h + 1 else n / 2 ^ h
theorem shrN_f (n h : Nat) : shrN false n h = n / 2 ^ h := by unfold shrN; rw [if_neg (by simp)]
theorem shrN_t {n h : Nat} (hc : cmpN (n / 2 ^ h * 2 ^ h) n = 0) : shrN true n h = n / 2 ^ h := by unfold shrN; rw [if_neg (by rw [cmpN_eq] at hc; simp [hc])]
theorem shrN_u {n h : Nat} (hc : ¬ cmpN (n / 2 ^ h * 2 ^ h) n = 0) : shrN true n h = n / 2 ^ h + 1 := by unfold shrN; rw [if_pos ⟨rfl, fun he => hc (cmpN_eq.2 he)⟩]
theorem dec_len (n : Nat) : (Lib.decDigits n).length ≤ bl n + 1 := by
 by_cases h : n = 0
 ·subst h; rw [decDigits_zero]; simp
 ·rw [dec_rev h, List.length_reverse]; exact Nat.le_succ_of_le (rdec_len n)
theorem itoa_neg {s : Bool} {n : Nat} (h : (s && decide (n ≠ 0)) = true) : Lib.itoa (iv s n) = [45] ++ Lib.decDigits n := by
 simp only [Bool.and_eq_true, decide_eq_true_eq] at h
 obtain ⟨rfl, h⟩ := h
 unfold Lib.itoa iv
 rw [if_pos rfl, if_pos (by omega), Int.natAbs_neg, Int.natAbs_natCast]; rfl
theorem itoa_pos {s : Bool} {n : Nat} (h : (s && decide (n ≠ 0)) = false) : Lib.itoa (iv s n) = Lib.decDigits n := by
 have hz : ∀ x : Int, x = (n : Int) → Lib.itoa x = Lib.decDigits n := fun x hx => by
  subst hx; unfold Lib.itoa; rw [if_neg (by omega), Int.toNat_natCast]
 refine hz _ ?_
 by_cases h0 : n = 0
 ·subst h0; rw [iv_zero]; rfl
 ·rw [decide_eq_true h0, Bool.and_true] at h; subst h; rfl
theorem sz_succK {n m K : Nat} (h : sz n ≤ K) (hm : m ≤ n) : sz (m + 1) ≤ K + 1 :=
 sz_iff.2 (Nat.lt_of_le_of_lt (Nat.le_trans (Nat.succ_le_succ hm) (Nat.succ_le_of_lt (sz_iff.1 h))) (Nat.pow_lt_pow_right B_gt (Nat.lt_succ_self K)))
theorem sz_succ2 {n m : Nat} (h : sz n ≤ 2047) (hm : m ≤ n) : sz (m + 1) ≤ 2048 := sz_succK h hm
set_option maxRecDepth 100000 in
set_option maxHeartbeats 400000 in
theorem zOf_ok {x : Int} (w : World) (hx : -4611686018427387904 ≤ x ∧ x ≤ 4611686018427387904) :
  Ret Tryz.prog 54 #[.int .i64 x] w (Tel (fun a c => .agg #[.bool (ng x), .slice a (sz x.natAbs) c]) (sz x.natAbs) x.natAbs w) := by
 have hxB : x.natAbs < Go.Num.B := by have hBv : Go.Num.B = 18446744073709551616 := rfl; omega
 have hxs : sz x.natAbs ≤ 1 := sz_iff.2 (by rw [Nat.pow_one]; exact hxB)
 refine enter (S := No) (l := [_]) (L := []) 21 Tryz.func54 rfl rfl rfl (St.start w No) ?_; refine yA ?_; refine w_alloc zr25 (fun r gr ur => ?_)
 refine yC ?_; refine mI rfl ?_; refine w_r (fun _ => R_convI (m := x) un2 un66 rfl) rfl rfl ?_; refine aI rfl ?_; refine yB ?_; refine zq ?_; refine yA ?_; refine mI rfl ?_; refine w_r (fun _ => R_lt rfl rfl) rfl rfl ?_; refine yB ?_; refine zD rfl (fun h2 => ?_) (fun h2 => ?_)
 ·refine zr ?_; refine mI rfl ?_; refine w_r (fun _ => R_neg rfl) rfl rfl ?_
  rw [u64_neg h2 hx.1]
  refine aI rfl ?_; refine yC ?_; refine mI rfl ?_; refine w_r (fun _ => R_lt rfl rfl) rfl rfl ?_; refine mI rfl ?_; refine w_tel (fun w => zR Tryz.func83 rfl rfl rfl) rfl rfl (fun w h => Of_ok (s := (x.natAbs)) w hxB) (fun x3 a3 c3 hK3 hN3 => ?_)
  refine w_tel (fun w => zR Tryz.func62 rfl rfl rfl) rfl rfl (fun w h => zold_ok _ w (hK3.at_ 0 rfl h) ⟨by omega, by omega⟩) (fun x4 a4 c4 hK4 hN4 => ?_)
  refine zm rfl ?_; refine w_r (fun _ => R_extract rfl rfl) rfl rfl ?_; refine w_r (fun _ => R_extract rfl rfl) rfl rfl ?_; refine w_alloc zr25 (fun q gq uq => ?_)
  refine w_store 0 rfl z25 rfl rfl rfl rfl rfl rfl rfl ?_; refine aI rfl ?_; refine yC ?_; refine w_loadA z25 rfl (fun _ h => h.at_ 0 rfl) rfl ?_; refine w_store 1 rfl z25 rfl rfl rfl rfl rfl rfl rfl ?_; refine yB ?_; refine ze ?_
  rw [← ng_and]
  refine r_fin (.inl rfl) rfl (.agg rfl rfl z25 (fun _ h => h.at_ 1 rfl) rfl .nil) ?_; exact fun w' hw => ⟨_, _, rfl, (hK4.at_ 0 rfl hw), (hN4 _ (.tail _ (.head _))), hw.fr (w, No) (.tail _ (.tail _ (.head _)))⟩
 ·rw [u64_pos h2 hx.2]
  refine zi ?_; refine zk ?_; refine yA ?_; refine mI rfl ?_; refine w_r (fun _ => R_lt rfl rfl) rfl rfl ?_; refine mI rfl ?_; refine w_tel (fun w => zR Tryz.func83 rfl rfl rfl) rfl rfl (fun w h => Of_ok (s := (x.natAbs)) w hxB) (fun x6 a6 c6 hK6 hN6 => ?_)
  refine w_tel (fun w => zR Tryz.func62 rfl rfl rfl) rfl rfl (fun w h => zold_ok _ w (hK6.at_ 0 rfl h) ⟨by omega, by omega⟩) (fun x7 a7 c7 hK7 hN7 => ?_)
  refine zm rfl ?_; refine w_r (fun _ => R_extract rfl rfl) rfl rfl ?_; refine w_r (fun _ => R_extract rfl rfl) rfl rfl ?_; refine w_alloc zr25 (fun q gq uq => ?_)
  refine w_store 0 rfl z25 rfl rfl rfl rfl rfl rfl rfl ?_; refine aI rfl ?_; refine yC ?_; refine w_loadA z25 rfl (fun _ h => h.at_ 0 rfl) rfl ?_; refine w_store 1 rfl z25 rfl rfl rfl rfl rfl rfl rfl ?_; refine yB ?_; refine ze ?_
  rw [← ng_and]
  refine r_fin (.inl rfl) rfl (.agg rfl rfl z25 (fun _ h => h.at_ 1 rfl) rfl .nil) ?_; exact fun w' hw => ⟨_, _, rfl, (hK7.at_ 0 rfl hw), (hN7 _ (.tail _ (.head _))), hw.fr (w, No) (.tail _ (.tail _ (.head _)))⟩
set_option maxRecDepth 100000 in
set_option maxHeartbeats 400000 in
theorem zSign_ok (s : Bool) {a : Option Addr} {k c n : Nat} (w : World) (hA : Nm w a k c n) (hk : k ≤ 4000000) :
  Ret Tryz.prog 55 #[.agg #[.bool s, .slice a k c]] w (fun v w' => v = .int .i64 (iv s n).sign ∧ Ext w w') := by
 refine enter (S := No) (l := [_]) (L := []) 13 Tryz.func55 rfl rfl rfl (St.start w No) ?_; refine yA ?_; refine w_boxA rfl (fun p gp up => ?_)
 refine aI rfl ?_; refine yC ?_; refine w_loadA z25 rfl (fun _ h => h.at_ 0 rfl) rfl ?_; refine zC (fun w => zR Tryz.func57 rfl rfl rfl) rfl rfl (fun w h => of_ok _ w ((Kn.old hA).at_ 0 rfl h) (by omega)) ?_; refine w_alloc zr86 (fun q gq uq => ?_)
 refine w_store 0 rfl z86 rfl rfl rfl rfl rfl rfl rfl ?_; refine yB ?_; refine zq ?_; refine zB ?_; refine yA ?_; refine zf fa86_0 rfl ?_; refine w_loadA z84 rfl (fun _ h => h.at_ 0 rfl) rfl ?_; refine zC (fun w => zR Tryz.func87 rfl rfl rfl) rfl rfl (fun w h => zero_ok w ((Kn.old hA).at_ 0 rfl h) (by omega)) ?_; refine aB rfl ?_; refine yB ?_; refine zD rfl (fun h3 => ?_) (fun h3 => ?_)
 ·refine yA ?_; refine aI rfl ?_; refine yB ?_; refine ze ?_; refine zb (zt (?_))
  refine zo (v := .int _ _) rfl rfl rfl ?_; exact fun w' hw => ⟨by rw [iv_sign, if_pos h3], hw.fr (w, No) (.head _)⟩
 ·have hn0 := h3
  refine yA ?_; refine zf fa86_1 rfl ?_; refine zl z4 rfl (fun _ h => zc 0 rfl rfl h) ?_; refine aB rfl ?_; refine yB ?_; refine c_cond rfl (fun h4 => ?_) (fun h4 => ?_)
  ·refine yA ?_; refine aI rfl ?_; refine yB ?_; refine ze ?_; refine zb (zt (?_))
   refine zo (v := .int _ _) rfl rfl rfl ?_; exact fun w' hw => ⟨by rw [iv_sign]; simp only [Bool.and_eq_true, decide_eq_true_eq] at h4; rw [if_neg h4.2, if_pos h4.1], hw.fr (w, No) (.head _)⟩
  ·refine zi ?_; refine b_on (zk ?_); refine yA ?_; refine aI rfl ?_; refine yB ?_; refine ze ?_; refine zo (v := .int _ _) rfl rfl rfl ?_; exact fun w' hw => ⟨by rw [iv_sign]; simp only [Bool.and_eq_false_iff, decide_eq_false_iff_not] at h4; rw [if_neg hn0, if_neg (by rcases h4 with h | h; (rw [h]; simp); (exact absurd hn0 h))], hw.fr (w, No) (.head _)⟩
set_option maxRecDepth 100000 in
set_option maxHeartbeats 400000 in
theorem zShl_ok (s : Bool) {a : Option Addr} {k c n : Nat} (w : World) (hA : Nm w a k c n) {h9 : Nat} (hs : k ≤ 2000000 ∧ sz n ≤ 2047 ∧ h9 ≤ 131072 ∧ sz (n * 2 ^ h9) ≤ 2048) :
  Ret Tryz.prog 45 #[.agg #[.bool s, .slice a k c], .int .i64 (h9 : Nat)] w (Tel (fun a c => .tuple #[.agg #[.bool (s && decide (n * 2 ^ h9 ≠ 0)), .slice a (sz (n * 2 ^ h9)) c], .int .i64 0]) (sz (n * 2 ^ h9)) (n * 2 ^ h9) w) := by
 refine enter (S := No) (l := [_, _]) (L := []) 22 Tryz.func45 rfl rfl rfl (St.start w No) ?_; refine yA ?_; refine w_boxA rfl (fun p gp up => ?_)
 refine w_alloc zr25 (fun r gr ur => ?_)
 refine aI rfl ?_; refine yC ?_; refine zf fa25_1 rfl ?_; refine zl z23 rfl (fun _ h => zc 1 rfl rfl h) ?_; refine mI rfl ?_; refine w_tel (fun w => zR Tryz.func80 rfl rfl rfl) rfl rfl (fun w h => Shl_ok w ((Kn.old hA).at_ 0 rfl h) ⟨by omega, by omega, by omega, by omega⟩) (fun x3 a3 c3 hK3 hN3 => ?_)
 refine zm rfl ?_; refine w_r (fun _ => R_extract rfl rfl) rfl rfl ?_; refine w_r (fun _ => R_extract rfl rfl) rfl rfl ?_; refine za (v := .slice _ _ _) rfl ?_; refine aI rfl ?_; refine yC ?_; refine zf fa25_0 rfl ?_; refine zl z4 rfl (fun _ h => zc 1 rfl rfl h) ?_; refine mS rfl ?_; refine mI rfl ?_; refine w_tel (fun w => zR Tryz.func62 rfl rfl rfl) rfl rfl (fun w h => zold_ok _ w (hK3.at_ 0 rfl h) ⟨by omega, by omega⟩) (fun x4 a4 c4 hK4 hN4 => ?_)
 refine w_r (fun _ => R_extract rfl rfl) rfl rfl ?_; refine w_r (fun _ => R_extract rfl rfl) rfl rfl ?_; refine w_store 0 rfl z25 rfl rfl rfl rfl rfl rfl rfl ?_; refine aI rfl ?_; refine yB ?_; refine ze ?_; refine r_fin (.inl rfl) rfl (.agg rfl rfl z25 (fun _ h => h.at_ 0 rfl) rfl (.tmp rfl rfl .nil)) ?_; exact fun w' hw => ⟨_, _, rfl, (hK4.at_ 0 rfl hw), (hN4 _ (.tail _ (.head _))), hw.fr (w, No) (.tail _ (.tail _ (.head _)))⟩
set_option maxRecDepth 100000 in
set_option maxHeartbeats 1000000 in
theorem zShr_ok (s : Bool) {a : Option Addr} {k c n : Nat} (w : World) (hA : Nm w a k c n) {h9 : Nat} (hs : k ≤ 1000000 ∧ sz n ≤ 2047 ∧ h9 ≤ 131072) :
  Ret Tryz.prog 46 #[.agg #[.bool s, .slice a k c], .int .i64 (h9 : Nat)] w (Tel (fun a c => .tuple #[.agg #[.bool ((s && decide (n ≠ 0)) && decide ((shrN (s && decide (n ≠ 0)) n h9) ≠ 0)), .slice a (sz ((shrN (s && decide (n ≠ 0)) n h9))) c], .int .i64 0]) (sz (shrN (s && decide (n ≠ 0)) n h9)) (shrN (s && decide (n ≠ 0)) n h9) w) := by
 have hsz1 : sz 1 = 1 := rfl
 have hd := sz_div n (2 ^ h9)
 have hbk := sz_mono (Nat.div_mul_le_self n (2 ^ h9))
 have hup := sz_succ2 hs.2.1 (Nat.div_le_self n (2 ^ h9))
 refine enter (S := No) (l := [_, _]) (L := []) 59 Tryz.func46 rfl rfl rfl (St.start w No) ?_; refine yA ?_; refine w_boxA rfl (fun p gp up => ?_)
 refine w_alloc zr25 (fun r gr ur => ?_)
 refine aI rfl ?_; refine yC ?_; refine zf fa25_1 rfl ?_; refine zl z23 rfl (fun _ h => zc 1 rfl rfl h) ?_; refine mI rfl ?_; refine w_tel (fun w => zR Tryz.func75 rfl rfl rfl) rfl rfl (fun w h => Shr_ok w ((Kn.old hA).at_ 0 rfl h) ⟨by omega, by omega, by omega⟩) (fun x3 a3 c3 hK3 hN3 => ?_)
 refine zm rfl ?_; refine w_r (fun _ => R_extract rfl rfl) rfl rfl ?_; refine w_r (fun _ => R_extract rfl rfl) rfl rfl ?_; refine za (v := .slice _ _ _) rfl ?_; refine aI rfl ?_; refine yB ?_; refine zq ?_; refine yA ?_; refine mI rfl ?_; refine w_r (fun _ => R_ne rfl rfl) rfl rfl ?_; refine mB rfl ?_; refine zw rfl rfl (congrArg Value.bool (decide_eq_false (by decide))) ?_; refine w_loadA z25 rfl (fun _ h => h.at_ 1 rfl) rfl ?_; refine zw rfl rfl (congrArg Value.bool (decide_eq_false (by decide))) ?_; refine zC (fun w => zR Tryz.func57 rfl rfl rfl) rfl rfl (fun w h => of_ok _ w ((Kn.old hA).at_ 1 rfl h) (by omega)) ?_
 refine zw rfl rfl (congrArg Value.bool (decide_eq_false (by decide))) ?_; refine w_r (fun _ => R_fieldA fd86_1 z4 rfl rfl) rfl rfl ?_; refine zw rfl rfl (congrArg Value.bool (decide_eq_false (by decide))) ?_; refine w_r (fun _ => R_not rfl) rfl rfl ?_; refine w_r (v := .bool _) (fun _ => zF (congrArg Value.bool (decide_eq_false (by decide))) rfl) rfl rfl ?_; refine yB ?_; refine c_condN rfl (fun h4 => ?_) (fun h4 => ?_)
 ·have hg : (s && decide (n ≠ 0)) = false := h4; have hsn := shrN_f n h9; rw [hg, hsn]
  refine yA ?_; refine mS rfl ?_; refine mI rfl ?_; refine w_tel (fun w => zR Tryz.func62 rfl rfl rfl) rfl rfl (fun w h => zold_ok _ w (hK3.at_ 0 rfl h) ⟨by omega, by omega⟩) (fun x5 a5 c5 hK5 hN5 => ?_)
  refine w_r (fun _ => R_extract rfl rfl) rfl rfl ?_; refine w_r (fun _ => R_extract rfl rfl) rfl rfl ?_; refine w_store 0 rfl z25 rfl rfl rfl rfl rfl rfl rfl ?_; refine aI rfl ?_; refine yB ?_; refine ze ?_; refine zt (?_)
  refine r_fin (.inl rfl) rfl (.agg rfl rfl z25 (fun _ h => h.at_ 0 rfl) rfl (.tmp rfl rfl .nil)) ?_; exact fun w' hw => ⟨_, _, rfl, (hK5.at_ 0 rfl hw), (hN5 _ (.tail _ (.head _))), hw.fr (w, No) (.tail _ (.tail _ (.head _)))⟩
 ·have hg : (s && decide (n ≠ 0)) = true := h4; rw [hg]
  refine zi ?_; refine zk ?_; refine zq ?_; refine yA ?_; refine mS rfl ?_; refine mI rfl ?_; refine w_tel (fun w => zR Tryz.func80 rfl rfl rfl) rfl rfl (fun w h => Shl_ok w (hK3.at_ 0 rfl h) ⟨by omega, by omega, by omega, by omega⟩) (fun x6 a6 c6 hK6 hN6 => ?_)
  refine zm rfl ?_; refine w_r (fun _ => R_extract rfl rfl) rfl rfl ?_; refine w_r (fun _ => R_extract rfl rfl) rfl rfl ?_; refine za (v := .slice _ _ _) rfl ?_; refine aI rfl ?_; refine yC ?_; refine mI rfl ?_; refine w_r (fun _ => R_ne rfl rfl) rfl rfl ?_; refine mB rfl ?_; refine zw rfl rfl (congrArg Value.bool (decide_eq_false (by decide))) ?_; refine mS rfl ?_; refine zw rfl rfl (congrArg Value.bool (decide_eq_false (by decide))) ?_; refine zf fa25_1 rfl ?_; refine zw rfl rfl (congrArg Value.bool (decide_eq_false (by decide))) ?_
  refine zl z23 rfl (fun _ h => zc 1 rfl rfl h) ?_; refine zw rfl rfl (congrArg Value.bool (decide_eq_false (by decide))) ?_; refine zC (fun w => zR Tryz.func81 rfl rfl rfl) rfl rfl (fun w h => Cmp_ok w (hK6.at_ 0 rfl h) ((Kn.old hA).at_ 2 rfl h) ⟨by omega, by omega⟩) ?_; refine zw rfl rfl (congrArg Value.bool (decide_eq_false (by decide))) ?_; refine w_r (fun _ => R_ne rfl rfl) rfl rfl ?_; refine w_r (v := .bool _) (fun _ => zF (congrArg Value.bool (decide_eq_false (by decide))) rfl) rfl rfl ?_; refine yB ?_; refine zD rfl (fun h7 => ?_) (fun h7 => ?_)
  ·have hsn := shrN_u (n := n) (h := h9) h7; rw [hsn]
   refine yA ?_; refine mS rfl ?_; refine w_tel (fun w => zR Tryz.func83 rfl rfl rfl) rfl rfl (fun w h => Of_ok (s := 1) w (by decide)) (fun x8 a8 c8 hK8 hN8 => ?_)
   refine w_tel (fun w => zR Tryz.func82 rfl rfl rfl) rfl rfl (fun w h => Add_ok w (hK3.at_ 2 rfl h) (hK8.at_ 0 rfl h) ⟨by omega, by omega, by omega⟩) (fun x9 a9 c9 hK9 hN9 => ?_)
   refine zm rfl ?_; refine w_r (fun _ => R_extract rfl rfl) rfl rfl ?_; refine w_r (fun _ => R_extract rfl rfl) rfl rfl ?_; refine za (v := .slice _ _ _) rfl ?_; refine aI rfl ?_; refine yC ?_; refine mI rfl ?_; refine w_r (fun _ => R_ne rfl rfl) rfl rfl ?_; refine yB ?_; refine c_condF (congrArg Value.bool (decide_eq_false (by decide))) ?_; refine zi ?_; refine zk ?_; refine yA ?_; refine mS rfl ?_; refine w_tel (fun w => zR Tryz.func62 rfl rfl rfl) rfl rfl (fun w h => zold_ok _ w (hK9.at_ 0 rfl h) ⟨by omega, by omega⟩) (fun x10 a10 c10 hK10 hN10 => ?_)
   refine w_r (fun _ => R_extract rfl rfl) rfl rfl ?_; refine w_r (fun _ => R_extract rfl rfl) rfl rfl ?_; refine w_store 0 rfl z25 rfl rfl rfl rfl rfl rfl rfl ?_; refine aI rfl ?_; refine yB ?_; refine ze ?_; refine r_fin (.inl rfl) rfl (.agg rfl rfl z25 (fun _ h => h.at_ 0 rfl) rfl (.tmp rfl rfl .nil)) ?_; exact fun w' hw => ⟨_, _, rfl, (hK10.at_ 0 rfl hw), (hN10 _ (.tail _ (.tail _ (.tail _ (.tail _ (.head _)))))), hw.fr (w, No) (.tail _ (.tail _ (.tail _ (.tail _ (.tail _ (.head _))))))⟩
  ·have hsn := shrN_t (n := n) (h := h9) (by simpa using h7); rw [hsn]
   refine zi ?_; refine zk ?_; refine yA ?_; refine mS rfl ?_; refine w_tel (fun w => zR Tryz.func62 rfl rfl rfl) rfl rfl (fun w h => zold_ok _ w (hK3.at_ 1 rfl h) ⟨by omega, by omega⟩) (fun x11 a11 c11 hK11 hN11 => ?_)
   refine w_r (fun _ => R_extract rfl rfl) rfl rfl ?_; refine w_r (fun _ => R_extract rfl rfl) rfl rfl ?_; refine w_store 0 rfl z25 rfl rfl rfl rfl rfl rfl rfl ?_; refine aI rfl ?_; refine yB ?_; refine ze ?_; refine r_fin (.inl rfl) rfl (.agg rfl rfl z25 (fun _ h => h.at_ 0 rfl) rfl (.tmp rfl rfl .nil)) ?_; exact fun w' hw => ⟨_, _, rfl, (hK11.at_ 0 rfl hw), (hN11 _ (.tail _ (.tail _ (.head _)))), hw.fr (w, No) (.tail _ (.tail _ (.tail _ (.head _))))⟩
set_option maxRecDepth 100000 in
set_option maxHeartbeats 400000 in
theorem zText_ok (s : Bool) {a : Option Addr} {k c n : Nat} (w : World) (hA : Nm w a k c n) (hs : k ≤ 1000000 ∧ sz n ≤ 2047) :
  Ret Tryz.prog 26 #[.agg #[.bool s, .slice a k c]] w (fun v w' => v = str (Lib.itoa (iv s n)) ∧ Ext w w') := by
 have hdl := Nat.le_trans (dec_len n) (Nat.succ_le_succ (bl_sz hs.2))
 refine enter (S := No) (l := [_]) (L := []) 17 Tryz.func26 rfl rfl rfl (St.start w No) ?_; refine yA ?_; refine w_boxA rfl (fun p gp up => ?_)
 refine za (v := str _) rfl ?_; refine yC ?_; refine zf fa25_1 rfl ?_; refine zl z23 rfl (fun _ h => zc 0 rfl rfl h) ?_; refine zC (fun w => zR Tryz.func56 rfl rfl rfl) rfl rfl (fun w h => Text_ok w ((Kn.old hA).at_ 0 rfl h) ⟨by omega, by omega⟩) ?_; refine za (v := str _) rfl ?_; refine yB ?_; refine zq ?_; refine yA ?_; refine zm (v := str _) rfl ?_; refine w_r (fun _ => R_sne rfl rfl) rfl rfl ?_; refine mB rfl ?_; refine zd (t := 9) rfl (fun h2 => ?_) (fun h2 => ?_)
 ·refine zw rfl rfl (bT h2) ?_; refine w_loadA z25 rfl (fun _ h => h.at_ 0 rfl) rfl ?_; refine zw rfl rfl (bT h2) ?_; refine zC (fun w => zR Tryz.func57 rfl rfl rfl) rfl rfl (fun w h => of_ok _ w ((Kn.old hA).at_ 0 rfl h) (by omega)) ?_; refine zw rfl rfl (bT h2) ?_; refine w_r (fun _ => R_fieldA fd86_1 z4 rfl rfl) rfl rfl ?_; refine w_r (v := .bool _) (fun _ => zT (bT h2) rfl) rfl rfl ?_; refine yB ?_; refine c_cond rfl (fun h3 => ?_) (fun h3 => ?_)
  ·refine zr ?_; refine zm (v := str _) rfl ?_; refine w_r (fun _ => R_cat rfl rfl (by (try simp only [List.length_append, List.length_cons, List.length_nil]); omega)) rfl rfl ?_; refine za (v := str _) rfl ?_; refine yC ?_; refine zm (v := str _) rfl ?_; refine za (v := str _) rfl ?_; refine yB ?_; refine ze ?_; refine zo (v := str _) rfl rfl rfl ?_; exact fun w' hw => ⟨by rw [itoa_neg h3], hw.fr (w, No) (.head _)⟩
  ·refine zi ?_; refine zk ?_; refine yA ?_; refine zm (v := str _) rfl ?_; refine za (v := str _) rfl ?_; refine yB ?_; refine ze ?_; refine zo (v := str _) rfl rfl rfl ?_; exact fun w' hw => ⟨by rw [itoa_pos h3], hw.fr (w, No) (.head _)⟩
 ·exact absurd (dec_ne n) h2
end Go.Proofs.YtoapegnngbhkbaaGreatDoor
end
section
namespace Go.Proofs.YtoapegnngbhkbaaGreatDoor
open Go.RowKit Go.Sx
open Go.Num
theorem idx_p : ∀ s : List UInt8, ((112 : UInt8) ∉ s ∧ Lib.index s [112] = -1 ∧ bef s = s ∧ aft s = []) ∨ (∃ i : Nat, Lib.index s [112] = (i : Nat) ∧ bef s = s.take i ∧ aft s = s.drop (i + 1) ∧ (112 : UInt8) ∈ s)
  | [] => .inl ⟨by simp, rfl, rfl, rfl⟩
  | b :: l => by
    by_cases hb : b = 112
    · subst hb
      exact .inr ⟨0, by rw [Lib.index_one]; rfl, rfl, rfl, .head _⟩
    · have hne : (b != 112) = true := by simp [hb]
      have hbe : bef (b :: l) = b :: bef l := by unfold bef; rw [List.takeWhile_cons, hne]; rfl
      have haf : aft (b :: l) = aft l := by unfold aft; rw [List.dropWhile_cons, hne]; rfl
      have hix : Lib.index (b :: l) [112] = if Lib.index l [112] == -1 then -1 else Lib.index l [112] + 1 := by
        rw [Lib.index_one, Lib.index_one]
        rw [Lib.indexByte.eq_2, if_neg (by simp [hb])]
      rcases idx_p l with ⟨h1, h2, h3, h4⟩ | ⟨i, h1, h2, h3, h4⟩
      · refine .inl ⟨by simp [h1, Ne.symm hb], by rw [hix, h2]; rfl, by rw [hbe, h3], by rw [haf, h4]⟩
      · refine .inr ⟨i + 1, ?_, by rw [hbe, h2]; rfl, by rw [haf, h3]; rfl, .tail _ h4⟩
        rw [hix, h1, if_neg (by simp)]; rfl
theorem cut_p (s : List UInt8) : Lib.cut s [112] = (bef s, aft s, decide ((112 : UInt8) ∈ s)) := by
  unfold Lib.cut
  rcases idx_p s with ⟨h1, h2, h3, h4⟩ | ⟨i, h1, h2, h3, h4⟩
  · rw [h2, if_neg (by decide), h3, h4, decide_eq_false h1]
  · rw [h1, if_pos (by omega), h2, h3, decide_eq_true h4]; rfl
/-- what the library's functions ask of the world -/
structure Wn (w : World) : Prop where
  ml : ∃ m, w.cell? ⟨0, 0, none⟩ = some (.int .i64 m)
  es : ∃ ev, w.cell? ⟨1, 0, none⟩ = some ev ∧ (ev = .nilIface ∨ ∃ te pe, ev = .iface te pe)
  er : ∃ ev, w.cell? ⟨2, 0, none⟩ = some ev ∧ (ev = .nilIface ∨ ∃ te pe, ev = .iface te pe)
  tb : ∃ T f, w.heap[5]? = some (.cells (Lib.pow10Tab.map fun z => Value.int .u64 z).toArray T f)
theorem Wn.ext {w w' : World} (h : Wn w) (k : Ext w w') : Wn w' := ⟨by obtain ⟨m, hm⟩ := h.ml; exact ⟨m, k.cell hm (fun x => x)⟩, by obtain ⟨m, hm, h2⟩ := h.es; exact ⟨m, k.cell hm (fun x => x), h2⟩, by obtain ⟨m, hm, h2⟩ := h.er; exact ⟨m, k.cell hm (fun x => x), h2⟩, by obtain ⟨T, f, h⟩ := h.tb; exact ⟨T, f, k.get h (fun x => x)⟩⟩
theorem Wn.now {w w' : World} {B : Base} {L : Heap} (h : Wn w) (hx : (w, No) ∈ B) (hw : St B L w') : Wn w' := h.ext (hw.fr _ hx)
theorem Wn.tab {w : World} (h : Wn w) : Lib.TabIs Tryz.prog w "internal/strconv.uint64pow10" .u64 Lib.pow10Tab := by
  obtain ⟨T, f, h⟩ := h.tb
  unfold Lib.TabIs World.var?
  have : Tryz.prog.globalNamed "internal/strconv.uint64pow10" = some 5 := by kernel_rfl
  rw [this]
  simp [h]
theorem ext_grow (w : World) (k : Nat) (os : Array Obj) : Ext w (Go.Sort.grow (w.drewN k) os) := ⟨rfl, rfl, rfl, by simp [Go.Sort.grow, World.drewN], fun j hj _ => by
  show (w.heap ++ os)[j]? = _
  rw [Array.getElem?_append_left hj]⟩
theorem ext_bytes (w : World) (e : TypeId) (t : ByteArray) : Ext w (Lib.bytesWorld w e t) := by
  unfold Lib.bytesWorld World.freeze
  rw [if_neg (by decide)]
  refine ⟨rfl, rfl, rfl, ?_, fun j hj _ => ?_⟩
  · show w.heap.size ≤ (Array.modify (w.heap.push _) _ _).size
    rw [Array.size_modify, Array.size_push]; omega
  · show (Array.modify (w.heap.push _) w.heap.size _)[j]? = _
    rw [Array.getElem?_modify, if_neg (by omega), Array.getElem?_push_lt hj, Array.getElem?_eq_getElem hj]
theorem ext_below {w w' : World} (h : Below w.heap.size w w') : Ext w w' := ⟨h.os, h.tape, h.output, h.size, fun k hk _ => h.block k hk⟩
/-- what stands behind the sign -/
def cutm (s : List UInt8) : List UInt8 := if s.head? = some 45 then s.tail else s
theorem CutPrefix_ok (s : List UInt8) (w : World) : Ret Tryz.prog 60 #[str s, str [45]] w fun v w' => v = .tuple #[str (cutm s), .bool (decide (s.head? = some 45))] ∧ Ext w w' :=
  Calls.mono (Tryz.strings_CutPrefix ⟨s.toArray⟩ ⟨#[45]⟩ w) fun e w' ⟨h1, h2⟩ => ⟨_, h1, by
    have hp : Lib.hasPrefix s [45] = decide (s.head? = some 45) := by
      unfold Lib.hasPrefix
      cases s with
      | nil => rfl
      | cons c s =>
        show (45 == c && true) = _
        rw [Bool.and_true, List.head?_cons]
        by_cases h : c = 45
        · subst h; rfl
        · rw [decide_eq_false (by simpa using h)]
          exact beq_false_of_ne (Ne.symm h)
    have ht : Lib.trimPrefix s [45] = if s.head? = some 45 then s.tail else s := by
      unfold Lib.trimPrefix
      rw [hp]
      by_cases h : s.head? = some 45
      · rw [decide_eq_true h, if_pos rfl, if_pos h]; simp
      · rw [decide_eq_false h, if_neg (by simp), if_neg h]
    unfold cutm
    rw [← hp, ← ht], by rw [h2]; exact Fr.refl _ _⟩
theorem Cut_ok (s : List UInt8) (w : World) (hs : s.length < 4294967281) (hW : Wn w) : Ret Tryz.prog 28 #[str s, str [112]] w fun v w' => v = .tuple #[str (bef s), str (aft s), .bool (decide ((112 : UInt8) ∈ s))] ∧ Ext w w' := by
  obtain ⟨m, hm⟩ := hW.ml
  exact Calls.mono (Tryz.strings_Cut ⟨s.toArray⟩ ⟨#[112]⟩ m w hs hm) fun e w' ⟨h1, n, h2⟩ => ⟨_, h1, by
    show Value.tuple #[str (Lib.cut s [112]).1, str (Lib.cut s [112]).2.1, .bool (Lib.cut s [112]).2.2] = _
    rw [cut_p], by rw [h2]; exact Fr.drewN No w _⟩
theorem Itoa_ok (x : Int) (w : World) (hx : -9223372036854775808 ≤ x ∧ x ≤ 9223372036854775807) (hW : Wn w) : Ret Tryz.prog 27 #[.int .i64 x] w fun v w' => v = str (Lib.itoa x) ∧ Ext w w' :=
  Calls.mono (Tryz.strconv_Itoa x hx.1 hx.2 w hW.tab) fun e w' ⟨h1, k, os, h2⟩ => ⟨_, h1, rfl, by rw [h2]; exact ext_grow w k os⟩
/-- strconv.Atoi at a string that is no decimal numeral, said by the two other cases: 0 and an error that is not nil -/
theorem strconv_Atoi_syn (s : ByteArray) (hlim : s.size ≤ 281474976710656) (h : ∀ e, Lib.atoiAll s.data.toList ≠ .ok e) (h' : Lib.atoiAll s.data.toList ≠ .range) (ev : Value) (w : World) (hv : w.cell? ⟨1, 0, none⟩ = some ev) (hev : ev = .nilIface ∨ ∃ te pe, ev = .iface te pe) :
    Calls Tryz.prog 30 #[.string s] w fun e w' => ∃ N, e = .returned (.tuple #[.int .i64 (0), .iface 124 (.pointer (some ⟨N, 0, none⟩))]) ∧ w.heap.size ≤ N ∧ w'.heap[N]? = some (.cells #[.string ⟨#[65, 116, 111, 105]⟩, .string s, ev] 154 (0, 0)) ∧ Below w.heap.size w w' := by
  cases hh : Lib.atoiAll s.data.toList with
  | ok e => exact absurd hh (h e)
  | range => exact absurd hh h'
  | _ => exact Any.strconv_Atoi_syntax Tryz.laysC172 s hlim hh ev w hv hev
/-- how strconv.Atoi ends -/
def AtoiR (s : List UInt8) (v : Value) : Prop := ∃ r ev, v = .tuple #[.int .i64 r, ev] ∧ ((∃ e, Lib.atoiAll s = .ok e ∧ r = e ∧ ev = .nilIface) ∨ ((∀ e, Lib.atoiAll s ≠ .ok e) ∧ ∃ t p, ev = .iface t p))
theorem Atoi_ok (s : List UInt8) (w : World) (hs : s.length ≤ 1000) (hW : Wn w) : Ret Tryz.prog 30 #[str s] w fun v w' => AtoiR s v ∧ Ext w w' := by
  cases h : Lib.atoiAll s with
  | ok v =>
    exact Calls.mono (Tryz.strconv_Atoi_ok ⟨s.toArray⟩ (by show s.length ≤ _; omega) v h w) fun e w' ⟨h1, h2⟩ => ⟨_, h1, ⟨_, _, rfl, .inl ⟨v, h, rfl, rfl⟩⟩, by
      rcases h2 with rfl | ⟨t, rfl⟩
      · exact Fr.refl _ _
      · exact ext_bytes _ _ _⟩
  | range =>
    obtain ⟨ev, hev, h3⟩ := hW.er
    exact Calls.mono (Tryz.strconv_Atoi_range ⟨s.toArray⟩ (by show s.length ≤ _; omega) h ev w hev h3) fun e w' ⟨N, h1, _, _, h4⟩ => ⟨_, h1, ⟨_, _, rfl, .inr ⟨fun e he => (by rw [h] at he; cases he), _, _, rfl⟩⟩, ext_below h4⟩
  | _ =>
    obtain ⟨ev, hev, h3⟩ := hW.es
    exact Calls.mono (strconv_Atoi_syn ⟨s.toArray⟩ (by show s.length ≤ _; omega) (fun e he => by have h9 := h.symm.trans he; cases h9) (fun he => by have h9 := h.symm.trans he; cases h9) ev w hev h3) fun e w' ⟨N, h1, _, _, h4⟩ => ⟨_, h1, ⟨_, _, rfl, .inr ⟨fun e he => (by rw [h] at he; cases he), _, _, rfl⟩⟩, ext_below h4⟩
end Go.Proofs.YtoapegnngbhkbaaGreatDoor
end
section
namespace Go.Proofs.YtoapegnngbhkbaaGreatDoor
open Go.RowKit Go.Sx
open Go.Num
theorem zoldC_ok (s : Bool) {a : Option Addr} {k c n : Nat} (w : World) (hA : Nm w a k c n) (e9 : Int) (hs : k ≤ 4000000 ∧ sz n ≤ 2048) : Ret Tryz.prog 62 #[.bool s, .slice a k c, .int .i64 e9] w
    (Tel (fun a c => .tuple #[.agg #[.bool (s && decide ((if e9 = 0 then n else 0) ≠ 0)), .slice a (sz (if e9 = 0 then n else 0)) c], .int .i64 e9]) (sz (if e9 = 0 then n else 0)) (if e9 = 0 then n else 0) w) := by
  by_cases h : e9 = 0
  · subst h
    rw [if_pos rfl]
    exact zold_ok s w hA hs
  · rw [if_neg h, decide_eq_false (by simp), Bool.and_false]
    exact zoldE_ok s a k c e9 w h
/-- the error's number of an integer's text -/
def zpe (s : List UInt8) : Int := match zpv s with | none => 5 | some _ => 0
theorem zpv_eq (s : List UInt8) : zpv s = (npv (cutm s)).map (iv (decide (s.head? = some 45))) := by
  unfold zpv cutm
  by_cases h : s.head? = some 45
  · rw [if_pos h, if_pos h, decide_eq_true h]; rfl
  · rw [if_neg h, if_neg h, decide_eq_false h]; rfl
theorem zp_all (s : List UInt8) : npe (cutm s) = zpe s ∧ (if npe (cutm s) = 0 then (npv (cutm s)).getD 0 else 0) = ((zpv s).getD 0).natAbs ∧ (decide (s.head? = some 45) && decide ((if npe (cutm s) = 0 then (npv (cutm s)).getD 0 else 0) ≠ 0)) = ng ((zpv s).getD 0) := by
  unfold zpe npe
  rw [zpv_eq]
  cases h : npv (cutm s) with
  | none => exact ⟨rfl, rfl, by simp [ng]⟩
  | some n => exact ⟨rfl, (iv_abs _ n).symm, (ng_iv _ n).symm⟩
theorem cutm_len (s : List UInt8) : (cutm s).length ≤ s.length := by
  unfold cutm; split
  · rw [List.length_tail]; exact Nat.sub_le _ _
  · exact Nat.le_refl _
theorem npv_sz {s : List UInt8} (h : s.length ≤ 200) : sz ((npv s).getD 0) ≤ 200 := by
  unfold npv
  split
  · decide
  · rename_i h2
    exact Nat.le_trans (sz_ten (pv_lt s (by cases ha : s.all isD; (exact absurd (.inr ha) h2); rfl))) h
set_option maxRecDepth 100000 in
set_option maxHeartbeats 400000 in
theorem zParse_ok (s : List UInt8) (w : World) (hs : s.length ≤ 200) :
    Ret Tryz.prog 29 #[str s] w (Tel (fun a c => .tuple #[.agg #[.bool (ng ((zpv s).getD 0)), .slice a (sz (Int.natAbs ((zpv s).getD 0))) c], .int .i64 (zpe s)]) (sz (Int.natAbs ((zpv s).getD 0))) (Int.natAbs ((zpv s).getD 0)) w) := by
  have hcl := cutm_len s
  have hnz := npv_sz (s := cutm s) (by omega)
  refine enter (S := No) (l := [_]) (L := []) 24 Tryz.func29 rfl rfl rfl (St.start w No) ?_; refine yA ?_; refine w_alloc zr25 (fun b1 gb1 ub1 => ?_)
  refine aI rfl ?_; refine yC ?_; refine zm (v := str _) rfl ?_; refine zC (fun w => zR Tryz.func60 rfl rfl rfl) rfl rfl (fun w h => CutPrefix_ok s w) ?_; refine zm rfl ?_; refine w_r (fun _ => R_extract rfl rfl) rfl rfl ?_; refine w_r (fun _ => R_extract rfl rfl) rfl rfl ?_; refine za (v := str _) rfl ?_; refine aB rfl ?_; refine yC ?_; refine zm (v := str _) rfl ?_; refine w_tel (fun w => zR Tryz.func61 rfl rfl rfl) rfl rfl (fun w h => Parse_ok (cutm s) w (by omega)) (fun x2 a2 c2 hK2 hN2 => ?_)
  refine zm rfl ?_; refine w_r (fun _ => R_extract rfl rfl) rfl rfl ?_; refine w_r (fun _ => R_extract rfl rfl) rfl rfl ?_; refine za (v := .slice _ _ _) rfl ?_; refine aI rfl ?_; refine yC ?_; refine mB rfl ?_; refine mS rfl ?_; refine mI rfl ?_; refine w_tel (fun w => zR Tryz.func62 rfl rfl rfl) rfl rfl (fun w h => zoldC_ok (decide (s.head? = some 45)) w (hK2.at_ 0 rfl h) (npe (cutm s)) ⟨by omega, by omega⟩) (fun x3 a3 c3 hK3 hN3 => ?_)
  refine w_r (fun _ => R_extract rfl rfl) rfl rfl ?_; refine w_r (fun _ => R_extract rfl rfl) rfl rfl ?_; refine w_store 0 rfl z25 rfl rfl rfl rfl rfl rfl rfl ?_; refine aI rfl ?_; refine yB ?_; refine ze ?_
  rw [← (zp_all s).2.1, ← (zp_all s).2.2, ← (zp_all s).1]
  refine r_fin (.inl rfl) rfl (.agg rfl rfl z25 (fun _ h => h.at_ 0 rfl) rfl (.tmp rfl rfl .nil)) ?_; exact fun w' hw => ⟨_, _, rfl, (hK3.at_ 0 rfl hw), (hN3 _ (.tail _ (.head _))), hw.fr (w, No) (.tail _ (.tail _ (.head _)))⟩
/-- what remains when an integer is divided, rounded down -/
def flr (s t : Bool) (n m : Nat) : Nat := if ((s && decide (n ≠ 0)) != (t && decide (m ≠ 0))) = true ∧ n % m ≠ 0 then m - n % m else n % m
theorem flo_q {s t : Bool} {n m : Nat} (hm : m ≠ 0) {b : Bool} (hb : b = ((s && decide (n ≠ 0)) != (t && decide (m ≠ 0)))) {q : Nat} (hq : q = if b = true ∧ n % m ≠ 0 then n / m + 1 else n / m) : (b && decide (q ≠ 0)) = ng (fl (iv s n) (iv t m)) ∧ q = (fl (iv s n) (iv t m)).natAbs := by
  have hy : iv t m ≠ 0 := fun h => hm (by have := iv_abs t m; rw [h] at this; exact this.symm)
  have := fl_sizes (x := iv s n) hy
  rw [ng_iv, ng_iv, iv_abs, iv_abs, ← hb, ← hq] at this
  rw [this, ng_iv, iv_abs]
  exact ⟨rfl, rfl⟩
set_option maxRecDepth 100000 in
set_option maxHeartbeats 2000000 in
theorem zFloor_ok (s t : Bool) {a : Option Addr} {k c n : Nat} {a2 : Option Addr} {k2 c2 m : Nat} (w : World) (hA : Nm w a k c n) (hA2 : Nm w a2 k2 c2 m) (hs : k ≤ 1000000 ∧ k2 ≤ 1000000 ∧ sz n ≤ 2046 ∧ sz m ≤ 2046 ∧ m ≠ 0) :
    Ret Tryz.prog 77 #[.agg #[.bool s, .slice a k c], .agg #[.bool t, .slice a2 k2 c2]] w (Tel2 (fun a c a2 c2 => .tuple #[.agg #[.bool (ng (fl (iv s n) (iv t m))), .slice a (sz ((fl (iv s n) (iv t m))).natAbs) c], .agg #[.bool ((t && decide (m ≠ 0)) && decide (flr s t n m ≠ 0)), .slice a2 (sz (flr s t n m)) c2], .int .i64 0]) (sz ((fl (iv s n) (iv t m))).natAbs) ((fl (iv s n) (iv t m))).natAbs (sz (flr s t n m)) (flr s t n m) w) := by
  have hm0 := Nat.pos_of_ne_zero hs.2.2.2.2; have hml := Nat.mod_lt n hm0; have hle : n % m ≤ m := Nat.le_of_lt hml; have hdq := sz_mono (Nat.div_le_self n m); have hdr := sz_mono hle; have hsub := sz_mono (Nat.sub_le m (n % m)); have hup := sz_succ2 (by omega) (Nat.div_le_self n m); have hsz1 : sz 1 = 1 := rfl
  refine enter (S := No) (l := [_, _]) (L := []) 72 Tryz.func77 rfl rfl rfl (St.start w No) ?_; refine yA ?_; refine w_boxA rfl (fun p gp up => ?_)
  refine w_boxA rfl (fun r gr ur => ?_)
  refine w_alloc zr25 (fun q gq uq => ?_)
  refine w_alloc zr25 (fun rr grr urr => ?_)
  refine aI rfl ?_; refine yC ?_; refine zf fa25_1 rfl ?_; refine zl z23 rfl (fun _ h => zc 3 rfl rfl h) ?_; refine zf fa25_1 rfl ?_; refine zl z23 rfl (fun _ h => zc 2 rfl rfl h) ?_; refine w_tel2 (fun w => zR Tryz.func107 rfl rfl rfl) rfl rfl (fun w h => Div_ok w ((Kn.old hA).at_ 0 rfl h) ((Kn.old hA2).at_ 0 rfl h) ⟨by omega, by omega, by omega, by omega, hs.2.2.2.2⟩) (fun x5 a5 c5 a5' c5' hK5 hN5 hK5' hN5' => ?_)
  refine zm rfl ?_; refine w_r (fun _ => R_extract rfl rfl) rfl rfl ?_; refine w_r (fun _ => R_extract rfl rfl) rfl rfl ?_; refine w_r (fun _ => R_extract rfl rfl) rfl rfl ?_; refine za (v := .slice _ _ _) rfl ?_; refine za (v := .slice _ _ _) rfl ?_; refine aI rfl ?_; refine yB ?_; refine zq ?_; refine yA ?_; refine mI rfl ?_; refine w_r (fun _ => R_ne rfl rfl) rfl rfl ?_; refine yB ?_; refine c_condF (congrArg Value.bool (decide_eq_false (by decide))) ?_; refine zi ?_; refine zk ?_; refine zq ?_; refine c_heldS mixed ?_; refine h_loadA 0 rfl (by kernel_rfl) (fun w h => h) z25 rfl (fun _ h => h.at_ 3 rfl) rfl ?_; refine h_loadA 3 rfl (by kernel_rfl) (fun w h => h) z25 rfl (fun _ h => h.at_ 2 rfl) rfl ?_; refine h_one 1 (by kernel_rfl) (fun w h => h) ?_
  refine o_pureW rfl (wn_none rfl) rfl (fun w => zR Tryz.func57 rfl rfl rfl) (fun w h => of_ok _ w ((Kn.old hA).at_ 1 rfl h) (by omega)) ?_; refine zh 2 rfl (by kernel_rfl) rfl rfl (fun w h => h) (fun w h => R_fieldA fd86_1 z4 rfl rfl) ?_; refine h_one 4 (by kernel_rfl) (fun w h => h) ?_; refine o_pureW rfl (wn_none rfl) rfl (fun w => zR Tryz.func57 rfl rfl rfl) (fun w h => of_ok _ w ((Kn.old hA2).at_ 1 rfl h) (by omega)) ?_; refine zh 5 rfl (by kernel_rfl) rfl rfl (fun w h => h) (fun w h => R_fieldA fd86_1 z4 rfl rfl) ?_; refine zh 6 rfl (by kernel_rfl) rfl rfl (fun w h => h) (fun w h => R_bne unb4 rfl rfl) ?_; refine zh (v := .bool _) 7 rfl (by kernel_rfl) rfl rfl (fun w h => h) (fun w h => R_assign rfl) ?_; refine h_done (by kernel_rfl) (fun w h => h) ?_
  refine zk ?_; refine zq ?_; refine yA ?_; refine mB rfl ?_; refine mB rfl ?_; refine zp (t := 32) rfl (fun h6 => ?_) (fun h6 => ?_)
  · refine zw rfl rfl (bV h6) ?_; refine mS rfl ?_; refine zw rfl rfl (bV h6) ?_; refine w_r (fun _ => R_len sl23 rfl) rfl rfl ?_; refine zw rfl rfl (bV h6) ?_; refine w_r (fun _ => R_gtN (a := (sz (n % m))) (b := 0) rfl rfl) rfl rfl ?_; refine w_r (v := .bool _) (fun _ => zT (bV h6) rfl) rfl rfl ?_; refine yB ?_; refine zD rfl (fun h7 => ?_) (fun h7 => ?_)
    · have hrz : n % m ≠ 0 := (fun h => by rw [h] at h7; exact absurd h7 (by decide))
      refine zq ?_; refine yA ?_; refine mS rfl ?_; refine w_tel (fun w => zR Tryz.func83 rfl rfl rfl) rfl rfl (fun w h => Of_ok (s := 1) w (by decide)) (fun x8 a8 c8 hK8 hN8 => ?_)
      refine w_tel (fun w => zR Tryz.func82 rfl rfl rfl) rfl rfl (fun w h => Add_ok w (hK5.at_ 1 rfl h) (hK8.at_ 0 rfl h) ⟨by omega, by omega, by omega⟩) (fun x9 a9 c9 hK9 hN9 => ?_)
      refine zm rfl ?_; refine w_r (fun _ => R_extract rfl rfl) rfl rfl ?_; refine w_r (fun _ => R_extract rfl rfl) rfl rfl ?_; refine za (v := .slice _ _ _) rfl ?_; refine aI rfl ?_; refine yC ?_; refine mI rfl ?_; refine w_r (fun _ => R_ne rfl rfl) rfl rfl ?_; refine yB ?_; refine c_condF (congrArg Value.bool (decide_eq_false (by decide))) ?_; refine zi ?_; refine zk ?_; refine zr ?_; refine zf fa25_1 rfl ?_; refine zl z23 rfl (fun _ h => zc 2 rfl rfl h) ?_; refine mS rfl ?_; refine w_tel (fun w => zR Tryz.func108 rfl rfl rfl) rfl rfl (fun w h => Sub_ok w ((Kn.old hA2).at_ 3 rfl h) (hK5'.at_ 2 rfl h) ⟨by omega, by omega, by omega⟩ hle) (fun x10 a10 c10 hK10 hN10 => ?_)
      refine zm rfl ?_; refine w_r (fun _ => R_extract rfl rfl) rfl rfl ?_; refine w_r (fun _ => R_extract rfl rfl) rfl rfl ?_; refine za (v := .slice _ _ _) rfl ?_; refine yC ?_; refine mB rfl ?_; refine mS rfl ?_; refine w_tel (fun w => zR Tryz.func62 rfl rfl rfl) rfl rfl (fun w h => zold_ok _ w (hK9.at_ 1 rfl h) ⟨by omega, by omega⟩) (fun x11 a11 c11 hK11 hN11 => ?_)
      refine zm rfl ?_; refine w_r (fun _ => R_extract rfl rfl) rfl rfl ?_; refine w_r (fun _ => R_extract rfl rfl) rfl rfl ?_; refine w_store 1 rfl z25 rfl rfl rfl rfl rfl rfl rfl ?_; refine yC ?_; refine w_loadA z25 rfl (fun _ h => h.at_ 2 rfl) rfl ?_; refine zC (fun w => zR Tryz.func57 rfl rfl rfl) rfl rfl (fun w h => of_ok _ w ((Kn.old hA2).at_ 5 rfl h) (by omega)) ?_; refine w_r (fun _ => R_fieldA fd86_1 z4 rfl rfl) rfl rfl ?_; refine mS rfl ?_; refine w_tel (fun w => zR Tryz.func62 rfl rfl rfl) rfl rfl (fun w h => zold_ok _ w (hK10.at_ 1 rfl h) ⟨by omega, by omega⟩) (fun x12 a12 c12 hK12 hN12 => ?_)
      refine zm rfl ?_; refine w_r (fun _ => R_extract rfl rfl) rfl rfl ?_; refine w_r (fun _ => R_extract rfl rfl) rfl rfl ?_; refine w_store 0 rfl z25 rfl rfl rfl rfl rfl rfl rfl ?_; refine aI rfl ?_; refine yB ?_; refine zq ?_; refine c_heldI [2, 3] mixed ?_; refine zh (v := .int _ _) 2 rfl (by kernel_rfl) rfl rfl (fun w h => (h).pick [2, 3] (by decide)) (fun w h => R_move rfl) ?_; refine h_two 0 1 (by kernel_rfl) (fun w h => (h).pick [2, 3] (by decide)) ?_ ?_
      · refine o_run rfl rfl rfl (fun w h => R_ldb z25 rfl (h.at_ 1 rfl) rfl) ?_; refine h_two 1 3 (by kernel_rfl) (fun w h => (h).pick [2, 3] (by decide)) ?_ ?_
        · refine o_run rfl rfl rfl (fun w h => R_ldb z25 rfl (h.at_ 0 rfl) rfl) ?_; refine h_one 3 (by kernel_rfl) (fun w h => (h).pick [2, 3] (by decide)) ?_; refine o_store 1 rfl rfl z25 rfl rfl rfl rfl rfl rfl rfl ?_; refine h_one 4 (by kernel_rfl) (fun w h => (h).pick [2, 3] (by decide)) ?_; refine o_store 0 rfl rfl z25 rfl rfl rfl rfl rfl rfl rfl ?_; refine zh (v := .int _ _) 5 rfl (by kernel_rfl) rfl rfl (fun w h => (h).pick [2, 3] (by decide)) (fun w h => R_assign rfl) ?_; refine h_done (by kernel_rfl) (fun w h => (h).pick [2, 3] (by decide)) ?_; refine zk ?_; refine ze ?_
          have hc : ((s && decide (n ≠ 0)) != (t && decide (m ≠ 0))) = true ∧ n % m ≠ 0 := ⟨h6, hrz⟩
          have hq := flo_q (s := s) (t := t) (n := n) (q := n / m + 1) hs.2.2.2.2 rfl (if_pos hc).symm
          have hf : flr s t n m = m - n % m := if_pos hc
          rw [← hq.1, ← hq.2, hf]
          refine r_fin (.inl rfl) rfl (.agg rfl rfl z25 (fun _ h => h.at_ 1 rfl) rfl (.agg rfl rfl z25 (fun _ h => h.at_ 0 rfl) rfl (.tmp rfl rfl .nil))) ?_; exact fun w' hw => ⟨_, _, _, _, rfl, (hK11.at_ 1 rfl hw), (hK12.at_ 0 rfl hw), (hN11 _ (.tail _ (.tail _ (.tail _ (.tail _ (.head _)))))), (hN12 _ (.tail _ (.tail _ (.tail _ (.tail _ (.tail _ (.head _))))))), hw.fr (w, No) (.tail _ (.tail _ (.tail _ (.tail _ (.tail _ (.tail _ (.head _)))))))⟩
        · refine o_store 1 rfl rfl z25 rfl rfl rfl rfl rfl rfl rfl ?_; refine h_one 1 (by kernel_rfl) (fun w h => (h).pick [2, 3] (by decide)) ?_; refine o_run rfl rfl rfl (fun w h => R_ldb z25 rfl (h.at_ 0 rfl) rfl) ?_; refine h_one 4 (by kernel_rfl) (fun w h => (h).pick [2, 3] (by decide)) ?_; refine o_store 0 rfl rfl z25 rfl rfl rfl rfl rfl rfl rfl ?_; refine zh (v := .int _ _) 5 rfl (by kernel_rfl) rfl rfl (fun w h => (h).pick [2, 3] (by decide)) (fun w h => R_assign rfl) ?_; refine h_done (by kernel_rfl) (fun w h => (h).pick [2, 3] (by decide)) ?_; refine zk ?_; refine ze ?_
          have hc : ((s && decide (n ≠ 0)) != (t && decide (m ≠ 0))) = true ∧ n % m ≠ 0 := ⟨h6, hrz⟩
          have hq := flo_q (s := s) (t := t) (n := n) (q := n / m + 1) hs.2.2.2.2 rfl (if_pos hc).symm
          have hf : flr s t n m = m - n % m := if_pos hc
          rw [← hq.1, ← hq.2, hf]
          refine r_fin (.inl rfl) rfl (.agg rfl rfl z25 (fun _ h => h.at_ 1 rfl) rfl (.agg rfl rfl z25 (fun _ h => h.at_ 0 rfl) rfl (.tmp rfl rfl .nil))) ?_; exact fun w' hw => ⟨_, _, _, _, rfl, (hK11.at_ 1 rfl hw), (hK12.at_ 0 rfl hw), (hN11 _ (.tail _ (.tail _ (.tail _ (.tail _ (.head _)))))), (hN12 _ (.tail _ (.tail _ (.tail _ (.tail _ (.tail _ (.head _))))))), hw.fr (w, No) (.tail _ (.tail _ (.tail _ (.tail _ (.tail _ (.tail _ (.head _)))))))⟩
      · refine o_run rfl rfl rfl (fun w h => R_ldb z25 rfl (h.at_ 0 rfl) rfl) ?_; refine h_one 0 (by kernel_rfl) (fun w h => (h).pick [2, 3] (by decide)) ?_; refine o_run rfl rfl rfl (fun w h => R_ldb z25 rfl (h.at_ 1 rfl) rfl) ?_; refine h_one 3 (by kernel_rfl) (fun w h => (h).pick [2, 3] (by decide)) ?_; refine o_store 1 rfl rfl z25 rfl rfl rfl rfl rfl rfl rfl ?_; refine h_one 4 (by kernel_rfl) (fun w h => (h).pick [2, 3] (by decide)) ?_; refine o_store 0 rfl rfl z25 rfl rfl rfl rfl rfl rfl rfl ?_; refine zh (v := .int _ _) 5 rfl (by kernel_rfl) rfl rfl (fun w h => (h).pick [2, 3] (by decide)) (fun w h => R_assign rfl) ?_; refine h_done (by kernel_rfl) (fun w h => (h).pick [2, 3] (by decide)) ?_; refine zk ?_; refine ze ?_
        have hc : ((s && decide (n ≠ 0)) != (t && decide (m ≠ 0))) = true ∧ n % m ≠ 0 := ⟨h6, hrz⟩
        have hq := flo_q (s := s) (t := t) (n := n) (q := n / m + 1) hs.2.2.2.2 rfl (if_pos hc).symm
        have hf : flr s t n m = m - n % m := if_pos hc
        rw [← hq.1, ← hq.2, hf]
        refine r_fin (.inl rfl) rfl (.agg rfl rfl z25 (fun _ h => h.at_ 1 rfl) rfl (.agg rfl rfl z25 (fun _ h => h.at_ 0 rfl) rfl (.tmp rfl rfl .nil))) ?_; exact fun w' hw => ⟨_, _, _, _, rfl, (hK11.at_ 1 rfl hw), (hK12.at_ 0 rfl hw), (hN11 _ (.tail _ (.tail _ (.tail _ (.tail _ (.head _)))))), (hN12 _ (.tail _ (.tail _ (.tail _ (.tail _ (.tail _ (.head _))))))), hw.fr (w, No) (.tail _ (.tail _ (.tail _ (.tail _ (.tail _ (.tail _ (.head _)))))))⟩
    · have hrz : n % m = 0 := sz_eq_zero.1 (by omega)
      refine zi ?_; refine zk ?_; refine yA ?_; refine mB rfl ?_; refine mS rfl ?_; refine w_tel (fun w => zR Tryz.func62 rfl rfl rfl) rfl rfl (fun w h => zold_ok _ w (hK5.at_ 0 rfl h) ⟨by omega, by omega⟩) (fun x13 a13 c13 hK13 hN13 => ?_)
      refine zm rfl ?_; refine w_r (fun _ => R_extract rfl rfl) rfl rfl ?_; refine w_r (fun _ => R_extract rfl rfl) rfl rfl ?_; refine w_store 1 rfl z25 rfl rfl rfl rfl rfl rfl rfl ?_; refine yC ?_; refine w_loadA z25 rfl (fun _ h => h.at_ 2 rfl) rfl ?_; refine zC (fun w => zR Tryz.func57 rfl rfl rfl) rfl rfl (fun w h => of_ok _ w ((Kn.old hA2).at_ 2 rfl h) (by omega)) ?_; refine w_r (fun _ => R_fieldA fd86_1 z4 rfl rfl) rfl rfl ?_; refine mS rfl ?_; refine w_tel (fun w => zR Tryz.func62 rfl rfl rfl) rfl rfl (fun w h => zold_ok _ w (hK5'.at_ 1 rfl h) ⟨by omega, by omega⟩) (fun x14 a14 c14 hK14 hN14 => ?_)
      refine zm rfl ?_; refine w_r (fun _ => R_extract rfl rfl) rfl rfl ?_; refine w_r (fun _ => R_extract rfl rfl) rfl rfl ?_; refine w_store 0 rfl z25 rfl rfl rfl rfl rfl rfl rfl ?_; refine aI rfl ?_; refine yB ?_; refine zq ?_; refine c_heldI [2, 3] mixed ?_; refine zh (v := .int _ _) 2 rfl (by kernel_rfl) rfl rfl (fun w h => (h).pick [2, 3] (by decide)) (fun w h => R_move rfl) ?_; refine h_two 0 1 (by kernel_rfl) (fun w h => (h).pick [2, 3] (by decide)) ?_ ?_
      · refine o_run rfl rfl rfl (fun w h => R_ldb z25 rfl (h.at_ 1 rfl) rfl) ?_; refine h_two 1 3 (by kernel_rfl) (fun w h => (h).pick [2, 3] (by decide)) ?_ ?_
        · refine o_run rfl rfl rfl (fun w h => R_ldb z25 rfl (h.at_ 0 rfl) rfl) ?_; refine h_one 3 (by kernel_rfl) (fun w h => (h).pick [2, 3] (by decide)) ?_; refine o_store 1 rfl rfl z25 rfl rfl rfl rfl rfl rfl rfl ?_; refine h_one 4 (by kernel_rfl) (fun w h => (h).pick [2, 3] (by decide)) ?_; refine o_store 0 rfl rfl z25 rfl rfl rfl rfl rfl rfl rfl ?_; refine zh (v := .int _ _) 5 rfl (by kernel_rfl) rfl rfl (fun w h => (h).pick [2, 3] (by decide)) (fun w h => R_assign rfl) ?_; refine h_done (by kernel_rfl) (fun w h => (h).pick [2, 3] (by decide)) ?_; refine zk ?_; refine ze ?_
          have hc : ¬ (((s && decide (n ≠ 0)) != (t && decide (m ≠ 0))) = true ∧ n % m ≠ 0) := fun h => h.2 hrz
          have hq := flo_q (s := s) (t := t) (n := n) (q := n / m) hs.2.2.2.2 rfl (if_neg hc).symm
          have hf : flr s t n m = n % m := if_neg hc
          rw [← hq.1, ← hq.2, hf]
          refine r_fin (.inl rfl) rfl (.agg rfl rfl z25 (fun _ h => h.at_ 1 rfl) rfl (.agg rfl rfl z25 (fun _ h => h.at_ 0 rfl) rfl (.tmp rfl rfl .nil))) ?_; exact fun w' hw => ⟨_, _, _, _, rfl, (hK13.at_ 1 rfl hw), (hK14.at_ 0 rfl hw), (hN13 _ (.tail _ (.head _))), (hN14 _ (.tail _ (.tail _ (.head _)))), hw.fr (w, No) (.tail _ (.tail _ (.tail _ (.head _))))⟩
        · refine o_store 1 rfl rfl z25 rfl rfl rfl rfl rfl rfl rfl ?_; refine h_one 1 (by kernel_rfl) (fun w h => (h).pick [2, 3] (by decide)) ?_; refine o_run rfl rfl rfl (fun w h => R_ldb z25 rfl (h.at_ 0 rfl) rfl) ?_; refine h_one 4 (by kernel_rfl) (fun w h => (h).pick [2, 3] (by decide)) ?_; refine o_store 0 rfl rfl z25 rfl rfl rfl rfl rfl rfl rfl ?_; refine zh (v := .int _ _) 5 rfl (by kernel_rfl) rfl rfl (fun w h => (h).pick [2, 3] (by decide)) (fun w h => R_assign rfl) ?_; refine h_done (by kernel_rfl) (fun w h => (h).pick [2, 3] (by decide)) ?_; refine zk ?_; refine ze ?_
          have hc : ¬ (((s && decide (n ≠ 0)) != (t && decide (m ≠ 0))) = true ∧ n % m ≠ 0) := fun h => h.2 hrz
          have hq := flo_q (s := s) (t := t) (n := n) (q := n / m) hs.2.2.2.2 rfl (if_neg hc).symm
          have hf : flr s t n m = n % m := if_neg hc
          rw [← hq.1, ← hq.2, hf]
          refine r_fin (.inl rfl) rfl (.agg rfl rfl z25 (fun _ h => h.at_ 1 rfl) rfl (.agg rfl rfl z25 (fun _ h => h.at_ 0 rfl) rfl (.tmp rfl rfl .nil))) ?_; exact fun w' hw => ⟨_, _, _, _, rfl, (hK13.at_ 1 rfl hw), (hK14.at_ 0 rfl hw), (hN13 _ (.tail _ (.head _))), (hN14 _ (.tail _ (.tail _ (.head _)))), hw.fr (w, No) (.tail _ (.tail _ (.tail _ (.head _))))⟩
      · refine o_run rfl rfl rfl (fun w h => R_ldb z25 rfl (h.at_ 0 rfl) rfl) ?_; refine h_one 0 (by kernel_rfl) (fun w h => (h).pick [2, 3] (by decide)) ?_; refine o_run rfl rfl rfl (fun w h => R_ldb z25 rfl (h.at_ 1 rfl) rfl) ?_; refine h_one 3 (by kernel_rfl) (fun w h => (h).pick [2, 3] (by decide)) ?_; refine o_store 1 rfl rfl z25 rfl rfl rfl rfl rfl rfl rfl ?_; refine h_one 4 (by kernel_rfl) (fun w h => (h).pick [2, 3] (by decide)) ?_; refine o_store 0 rfl rfl z25 rfl rfl rfl rfl rfl rfl rfl ?_; refine zh (v := .int _ _) 5 rfl (by kernel_rfl) rfl rfl (fun w h => (h).pick [2, 3] (by decide)) (fun w h => R_assign rfl) ?_; refine h_done (by kernel_rfl) (fun w h => (h).pick [2, 3] (by decide)) ?_; refine zk ?_; refine ze ?_
        have hc : ¬ (((s && decide (n ≠ 0)) != (t && decide (m ≠ 0))) = true ∧ n % m ≠ 0) := fun h => h.2 hrz
        have hq := flo_q (s := s) (t := t) (n := n) (q := n / m) hs.2.2.2.2 rfl (if_neg hc).symm
        have hf : flr s t n m = n % m := if_neg hc
        rw [← hq.1, ← hq.2, hf]
        refine r_fin (.inl rfl) rfl (.agg rfl rfl z25 (fun _ h => h.at_ 1 rfl) rfl (.agg rfl rfl z25 (fun _ h => h.at_ 0 rfl) rfl (.tmp rfl rfl .nil))) ?_; exact fun w' hw => ⟨_, _, _, _, rfl, (hK13.at_ 1 rfl hw), (hK14.at_ 0 rfl hw), (hN13 _ (.tail _ (.head _))), (hN14 _ (.tail _ (.tail _ (.head _)))), hw.fr (w, No) (.tail _ (.tail _ (.tail _ (.head _))))⟩
  · skip
    refine zs rfl rfl (bV h6) ?_; refine zs rfl rfl (bV h6) ?_; refine zs rfl rfl (bV h6) ?_; refine w_r (v := .bool _) (fun _ => zF (bV h6) rfl) rfl rfl ?_; refine yB ?_; refine c_condF rfl ?_; refine zi ?_; refine zk ?_; refine yA ?_; refine mB rfl ?_; refine mS rfl ?_; refine w_tel (fun w => zR Tryz.func62 rfl rfl rfl) rfl rfl (fun w h => zold_ok _ w (hK5.at_ 0 rfl h) ⟨by omega, by omega⟩) (fun x15 a15 c15 hK15 hN15 => ?_)
    refine zm rfl ?_; refine w_r (fun _ => R_extract rfl rfl) rfl rfl ?_; refine w_r (fun _ => R_extract rfl rfl) rfl rfl ?_; refine w_store 1 rfl z25 rfl rfl rfl rfl rfl rfl rfl ?_; refine yC ?_; refine w_loadA z25 rfl (fun _ h => h.at_ 2 rfl) rfl ?_; refine zC (fun w => zR Tryz.func57 rfl rfl rfl) rfl rfl (fun w h => of_ok _ w ((Kn.old hA2).at_ 2 rfl h) (by omega)) ?_; refine w_r (fun _ => R_fieldA fd86_1 z4 rfl rfl) rfl rfl ?_; refine mS rfl ?_; refine w_tel (fun w => zR Tryz.func62 rfl rfl rfl) rfl rfl (fun w h => zold_ok _ w (hK5'.at_ 1 rfl h) ⟨by omega, by omega⟩) (fun x16 a16 c16 hK16 hN16 => ?_)
    refine zm rfl ?_; refine w_r (fun _ => R_extract rfl rfl) rfl rfl ?_; refine w_r (fun _ => R_extract rfl rfl) rfl rfl ?_; refine w_store 0 rfl z25 rfl rfl rfl rfl rfl rfl rfl ?_; refine aI rfl ?_; refine yB ?_; refine zq ?_; refine c_heldI [2, 3] mixed ?_; refine zh (v := .int _ _) 2 rfl (by kernel_rfl) rfl rfl (fun w h => (h).pick [2, 3] (by decide)) (fun w h => R_move rfl) ?_; refine h_two 0 1 (by kernel_rfl) (fun w h => (h).pick [2, 3] (by decide)) ?_ ?_
    · refine o_run rfl rfl rfl (fun w h => R_ldb z25 rfl (h.at_ 1 rfl) rfl) ?_; refine h_two 1 3 (by kernel_rfl) (fun w h => (h).pick [2, 3] (by decide)) ?_ ?_
      · refine o_run rfl rfl rfl (fun w h => R_ldb z25 rfl (h.at_ 0 rfl) rfl) ?_; refine h_one 3 (by kernel_rfl) (fun w h => (h).pick [2, 3] (by decide)) ?_; refine o_store 1 rfl rfl z25 rfl rfl rfl rfl rfl rfl rfl ?_; refine h_one 4 (by kernel_rfl) (fun w h => (h).pick [2, 3] (by decide)) ?_; refine o_store 0 rfl rfl z25 rfl rfl rfl rfl rfl rfl rfl ?_; refine zh (v := .int _ _) 5 rfl (by kernel_rfl) rfl rfl (fun w h => (h).pick [2, 3] (by decide)) (fun w h => R_assign rfl) ?_; refine h_done (by kernel_rfl) (fun w h => (h).pick [2, 3] (by decide)) ?_; refine zk ?_; refine ze ?_
        have hc : ¬ (((s && decide (n ≠ 0)) != (t && decide (m ≠ 0))) = true ∧ n % m ≠ 0) := fun h => absurd (h.1.symm.trans h6) (by decide)
        have hq := flo_q (s := s) (t := t) (n := n) (q := n / m) hs.2.2.2.2 rfl (if_neg hc).symm
        have hf : flr s t n m = n % m := if_neg hc
        rw [← hq.1, ← hq.2, hf]
        refine r_fin (.inl rfl) rfl (.agg rfl rfl z25 (fun _ h => h.at_ 1 rfl) rfl (.agg rfl rfl z25 (fun _ h => h.at_ 0 rfl) rfl (.tmp rfl rfl .nil))) ?_; exact fun w' hw => ⟨_, _, _, _, rfl, (hK15.at_ 1 rfl hw), (hK16.at_ 0 rfl hw), (hN15 _ (.tail _ (.head _))), (hN16 _ (.tail _ (.tail _ (.head _)))), hw.fr (w, No) (.tail _ (.tail _ (.tail _ (.head _))))⟩
      · refine o_store 1 rfl rfl z25 rfl rfl rfl rfl rfl rfl rfl ?_; refine h_one 1 (by kernel_rfl) (fun w h => (h).pick [2, 3] (by decide)) ?_; refine o_run rfl rfl rfl (fun w h => R_ldb z25 rfl (h.at_ 0 rfl) rfl) ?_; refine h_one 4 (by kernel_rfl) (fun w h => (h).pick [2, 3] (by decide)) ?_; refine o_store 0 rfl rfl z25 rfl rfl rfl rfl rfl rfl rfl ?_; refine zh (v := .int _ _) 5 rfl (by kernel_rfl) rfl rfl (fun w h => (h).pick [2, 3] (by decide)) (fun w h => R_assign rfl) ?_; refine h_done (by kernel_rfl) (fun w h => (h).pick [2, 3] (by decide)) ?_; refine zk ?_; refine ze ?_
        have hc : ¬ (((s && decide (n ≠ 0)) != (t && decide (m ≠ 0))) = true ∧ n % m ≠ 0) := fun h => absurd (h.1.symm.trans h6) (by decide)
        have hq := flo_q (s := s) (t := t) (n := n) (q := n / m) hs.2.2.2.2 rfl (if_neg hc).symm
        have hf : flr s t n m = n % m := if_neg hc
        rw [← hq.1, ← hq.2, hf]
        refine r_fin (.inl rfl) rfl (.agg rfl rfl z25 (fun _ h => h.at_ 1 rfl) rfl (.agg rfl rfl z25 (fun _ h => h.at_ 0 rfl) rfl (.tmp rfl rfl .nil))) ?_; exact fun w' hw => ⟨_, _, _, _, rfl, (hK15.at_ 1 rfl hw), (hK16.at_ 0 rfl hw), (hN15 _ (.tail _ (.head _))), (hN16 _ (.tail _ (.tail _ (.head _)))), hw.fr (w, No) (.tail _ (.tail _ (.tail _ (.head _))))⟩
    · refine o_run rfl rfl rfl (fun w h => R_ldb z25 rfl (h.at_ 0 rfl) rfl) ?_; refine h_one 0 (by kernel_rfl) (fun w h => (h).pick [2, 3] (by decide)) ?_; refine o_run rfl rfl rfl (fun w h => R_ldb z25 rfl (h.at_ 1 rfl) rfl) ?_; refine h_one 3 (by kernel_rfl) (fun w h => (h).pick [2, 3] (by decide)) ?_; refine o_store 1 rfl rfl z25 rfl rfl rfl rfl rfl rfl rfl ?_; refine h_one 4 (by kernel_rfl) (fun w h => (h).pick [2, 3] (by decide)) ?_; refine o_store 0 rfl rfl z25 rfl rfl rfl rfl rfl rfl rfl ?_; refine zh (v := .int _ _) 5 rfl (by kernel_rfl) rfl rfl (fun w h => (h).pick [2, 3] (by decide)) (fun w h => R_assign rfl) ?_; refine h_done (by kernel_rfl) (fun w h => (h).pick [2, 3] (by decide)) ?_; refine zk ?_; refine ze ?_
      have hc : ¬ (((s && decide (n ≠ 0)) != (t && decide (m ≠ 0))) = true ∧ n % m ≠ 0) := fun h => absurd (h.1.symm.trans h6) (by decide)
      have hq := flo_q (s := s) (t := t) (n := n) (q := n / m) hs.2.2.2.2 rfl (if_neg hc).symm
      have hf : flr s t n m = n % m := if_neg hc
      rw [← hq.1, ← hq.2, hf]
      refine r_fin (.inl rfl) rfl (.agg rfl rfl z25 (fun _ h => h.at_ 1 rfl) rfl (.agg rfl rfl z25 (fun _ h => h.at_ 0 rfl) rfl (.tmp rfl rfl .nil))) ?_; exact fun w' hw => ⟨_, _, _, _, rfl, (hK15.at_ 1 rfl hw), (hK16.at_ 0 rfl hw), (hN15 _ (.tail _ (.head _))), (hN16 _ (.tail _ (.tail _ (.head _)))), hw.fr (w, No) (.tail _ (.tail _ (.tail _ (.head _))))⟩
end Go.Proofs.YtoapegnngbhkbaaGreatDoor
end
section
namespace Go.Proofs.YtoapegnngbhkbaaGreatDoor
open Go.RowKit Go.Sx
open Go.Num
/-- a dyadic number as it stands -/
structure Dy where
  s : Bool
  a : Option Addr
  k : Nat
  c : Nat
  n : Nat
  e : Int
abbrev Dy.v (d : Dy) : List Value := [.bool d.s, .slice d.a d.k d.c, .int .i64 d.e]
def Dy.ok (w : World) (d : Dy) : Prop := Nm w d.a d.k d.c d.n ∧ d.k ≤ 1000000 ∧ sz d.n ≤ 2047
theorem Dy.ok.ext {w w' : World} {d : Dy} (h : d.ok w) (k : Ext w w') : d.ok w' := ⟨h.1.ext k, h.2⟩
/-- dyadic numbers, one behind the other -/
def Dys (w : World) (b : Nat) (l : List Dy) : Prop := ∀ i d, l[i]? = some d → (∀ j v, d.v[j]? = some v → w.cell? ⟨b, 0 + i * 3 + j, none⟩ = some v) ∧ d.ok w
theorem Dys.one {w : World} {b : Nat} {T : TypeId} {d : Dy} (hb : w.heap[b]? = some (cel d.v T)) (h : d.ok w) : Dys w b [d] := by
  intro i d' hi
  match i, hi with
  | 0, hi =>
    cases hi
    refine ⟨fun j v hv => ?_, h⟩
    rw [show 0 + 0 * 3 + j = j by omega]
    simp only [World.cell?, hb]
    simpa using hv
theorem Dys.two {w : World} {b : Nat} {T : TypeId} {d d2 : Dy} (hb : w.heap[b]? = some (cel (d.v ++ d2.v) T)) (h : d.ok w) (h2 : d2.ok w) : Dys w b [d, d2] := by
  intro i d' hi
  match i, hi with
  | 0, hi =>
    cases hi
    refine ⟨fun j v hv => ?_, h⟩
    rw [show 0 + 0 * 3 + j = j by omega]
    simp only [World.cell?, hb]
    have hj : j < 3 := (List.getElem?_eq_some_iff.1 hv).1
    have : (d.v ++ d2.v)[j]? = some v := by rw [List.getElem?_append_left hj]; exact hv
    simpa using this
  | 1, hi =>
    cases hi
    refine ⟨fun j v hv => ?_, h2⟩
    rw [show 0 + 1 * 3 + j = 3 + j by omega]
    simp only [World.cell?, hb]
    have : (d.v ++ d2.v)[3 + j]? = some v := by rw [List.getElem?_append_right (Nat.le_add_right 3 j)]; rw [show 3 + j - d.v.length = j from Nat.add_sub_cancel_left 3 j]; exact hv
    simpa using this
/-- whether an exponent may be -/
def mayE (e : Int) : Bool := decide (e.natAbs ≤ mx)
theorem mayE_f {e : Int} (h : e < -1048576 ∨ 1048576 < e) : mayE e = false := by unfold mayE; exact decide_eq_false (by unfold mx; omega)
theorem mayE_t {e : Int} (h : ¬ e < -1048576) (h2 : ¬ 1048576 < e) : mayE e = true := by unfold mayE; exact decide_eq_true (by unfold mx; omega)
theorem all_no {l : List Dy} {i : Nat} {d : Dy} (h : l[i]? = some d) (hd : mayE d.e = false) : l.all (fun d => mayE d.e) = false := by
  rw [List.all_eq_false]
  exact ⟨d, List.mem_of_getElem? h, by rw [hd]; simp⟩
theorem all_go {l : List Dy} {i : Nat} {d : Dy} (hi : (l.take i).all (fun d => mayE d.e) = true) (h : l[i]? = some d) (hd : mayE d.e = true) : (l.take (i + 1)).all (fun d => mayE d.e) = true := by
  rw [List.take_add_one, h, List.all_append, hi]
  simp [hd]
set_option maxRecDepth 100000 in
set_option maxHeartbeats 400000 in
theorem dSign_ok (s : Bool) (E : Int) {a : Option Addr} {k c n : Nat} (w : World) (hA : Nm w a k c n) (hk : k ≤ 4000000) :
    Ret Tryz.prog 24 #[.agg #[.bool s, .slice a k c, .int .i64 E]] w (fun v w' => v = .int .i64 (iv s n).sign ∧ Ext w w') := by
  refine enter (S := No) (l := [_]) (L := []) 6 Tryz.func24 rfl rfl rfl (St.start w No) ?_; refine yA ?_; refine w_boxA rfl (fun p gp up => ?_)
  refine aI rfl ?_; refine yC ?_; refine zf fa27_0 rfl ?_; refine w_loadA z25 rfl (fun _ h => h.at_ 0 rfl) rfl ?_; refine zC (fun w => zR Tryz.func55 rfl rfl rfl) rfl rfl (fun w h => zSign_ok s w ((Kn.old hA).at_ 0 rfl h) (by omega)) ?_; refine aI rfl ?_; refine yB ?_; refine ze ?_; refine zo (v := .int _ _) rfl rfl rfl ?_; exact fun w' hw => ⟨rfl, hw.fr (w, No) (.head _)⟩
set_option maxRecDepth 100000 in
set_option maxHeartbeats 400000 in
theorem may_ok (l : List Dy) (b c9 : Nat) (w : World) (hD : Dys w b l) (hl : l.length ≤ 1000) :
    Ret Tryz.prog 38 #[.slice (some ⟨b, 0, none⟩) l.length c9] w (fun v w' => v = .bool (l.all fun d => mayE d.e) ∧ Ext w w') := by
  refine enter (S := No) (l := [_]) (L := []) 33 Tryz.func38 rfl rfl rfl (St.start w No) ?_; refine yA ?_; refine aB rfl ?_; refine yB ?_; refine zq ?_; refine yA ?_; refine mS rfl ?_; refine w_r (fun _ => R_len sl101 rfl) rfl rfl ?_; refine mI rfl ?_; refine yB ?_; refine zB ?_; refine c_loop (fun m9 e B L => ∃ (i : Nat), e 2 = .bool false ∧ e 7 = .slice (some ⟨b, 0, none⟩) l.length c9 ∧ e 8 = .int .i64 (l.length : Nat) ∧ e 9 = .int .i64 (i : Nat) ∧ B = [(w, No)] ∧ L = [] ∧ i ≤ l.length ∧ (l.take i).all (fun d => mayE d.e) = true ∧ m9 = l.length - i) _ ⟨0, rfl, rfl, rfl, rfl, rfl, rfl, Nat.zero_le _, rfl, rfl⟩ ?_
  rintro m9 e B L ⟨i, e2_1, e7_1, e8_1, e9_1, rfl, rfl, hi, ha, rfl⟩
  refine yA ?_; refine w_r (fun _ => R_ltN (a := i) (b := (l.length)) e9_1 e8_1) rfl rfl ?_; refine yB ?_; refine zq ?_; refine zD rfl (fun h1 => ?_) (fun h1 => ?_)
  · obtain ⟨d, hd⟩ : ∃ d, l[i]? = some d := ⟨_, List.getElem?_eq_getElem h1⟩; have hdN := (hD _ _ hd).2.1; have hdk := (hD _ _ hd).2.2
    refine zi ?_; refine zk ?_; refine zq ?_; refine zB ?_; refine yA ?_; refine w_r (fun _ => R_iaN (i := i) sl101 e7_1 e9_1 (by first | omega | decide | exact Nat.succ_pos _ | exact Nat.succ_lt_succ (Nat.succ_pos _))) rfl rfl ?_; refine w_loadC (l := [.bool d.s, .slice d.a d.k d.c, .int .i64 d.e]) z27 rfl rfl (fun w1 h j v hv => h.oldc (.head _) ((hD _ _ hd).1 j v hv)) ?_; refine w_alloc zr27 (fun b2 gb2 ub2 => ?_)
    refine w_store 0 rfl z27 rfl rfl rfl rfl rfl rfl rfl ?_; refine yC ?_; refine zf fa27_0 rfl ?_; refine zf fa25_1 rfl ?_; refine zl z23 rfl (fun _ h => zc 0 rfl rfl h) ?_; refine w_tel (fun w => zR Tryz.func73 rfl rfl rfl) rfl rfl (fun w h => NNorm_ok w ((Kn.old hdN).at_ 0 rfl h) ⟨by omega, by omega⟩) (fun x3 a3 c3 hK3 hN3 => ?_)
    refine zm rfl ?_; refine w_r (fun _ => R_extract rfl rfl) rfl rfl ?_; refine w_r (fun _ => R_extract rfl rfl) rfl rfl ?_; refine za (v := .slice _ _ _) rfl ?_; refine aI rfl ?_; refine yC ?_; refine mI rfl ?_; refine w_r (fun _ => R_ne rfl rfl) rfl rfl ?_; refine mB rfl ?_; refine zw rfl rfl (congrArg Value.bool (decide_eq_false (by decide))) ?_; refine zf fa27_1 rfl ?_; refine zw rfl rfl (congrArg Value.bool (decide_eq_false (by decide))) ?_; refine zl z3 rfl (fun _ h => zc 0 rfl rfl h) ?_; refine zw rfl rfl (congrArg Value.bool (decide_eq_false (by decide))) ?_; refine w_r (fun _ => R_lt rfl rfl) rfl rfl ?_
    refine w_r (v := .bool _) (fun _ => zF (congrArg Value.bool (decide_eq_false (by decide))) rfl) rfl rfl ?_; refine mB rfl ?_; refine zd (t := 27) rfl (fun h4 => ?_) (fun h4 => ?_)
    · refine zs rfl rfl (bT h4) ?_; refine zs rfl rfl (bT h4) ?_; refine zs rfl rfl (bT h4) ?_; refine w_r (v := .bool _) (fun _ => zT (bT h4) rfl) rfl rfl ?_; refine yB ?_; refine zE rfl ?_; refine yA ?_; refine aB rfl ?_; refine yB ?_; refine ze ?_; refine zb (zt (zt (zb (zt (?_)))))
      refine zo (v := .bool _) rfl rfl rfl ?_; exact fun w' hw => ⟨by rw [all_no hd (mayE_f (by omega))], hw.fr (w, No) (.tail _ (.head _))⟩
    · refine zw rfl rfl (bF h4) ?_; refine zf fa27_1 rfl ?_; refine zw rfl rfl (bF h4) ?_; refine zl z3 rfl (fun _ h => zc 0 rfl rfl h) ?_; refine zw rfl rfl (bF h4) ?_; refine w_r (fun _ => R_gt rfl rfl) rfl rfl ?_; refine w_r (v := .bool _) (fun _ => zF (bF h4) rfl) rfl rfl ?_; refine yB ?_; refine zD rfl (fun h5 => ?_) (fun h5 => ?_)
      · refine yA ?_; refine aB rfl ?_; refine yB ?_; refine ze ?_; refine zb (zt (zt (zb (zt (?_)))))
        refine zo (v := .bool _) rfl rfl rfl ?_; exact fun w' hw => ⟨by rw [all_no hd (mayE_f (by omega))], hw.fr (w, No) (.tail _ (.head _))⟩
      · refine zi ?_; refine b_on (zk ?_); refine zr ?_; refine w_r (fun _ => R_addN (n := i) (b := 1) e9_1 rfl (by omega)) rfl rfl ?_; refine mI rfl ?_; refine zn ?_; refine k_st (B' := [(w, No)]) (L' := []) (fun w h => (h.drop (List.nil_sublist _)).unbase (fun x hx => .tail _ hx)) ?_; exact k_again _ (by omega) ⟨i + 1, e2_1, e7_1, e8_1, rfl, rfl, rfl, by omega, all_go ha hd (mayE_t (by omega) (by omega)), rfl⟩
  · refine c_exit ?_; refine zx (zx (b_here rfl (zk ?_))); refine yA ?_; refine aB rfl ?_; refine yB ?_; refine ze ?_; refine zo (v := .bool _) rfl rfl rfl ?_; exact fun w' hw => ⟨by rw [← List.take_of_length_le (l := l) (i := i) (by omega), ha], hw.fr (w, No) (.head _)⟩
end Go.Proofs.YtoapegnngbhkbaaGreatDoor
end
section
namespace Go.Proofs.YtoapegnngbhkbaaGreatDoor
open Go.RowKit Go.Sx
open Go.Num
theorem tz_at : ∀ {n : Nat}, n ≠ 0 → n / 2 ^ tz n % 2 = 1 := by
  intro n
  induction n using Nat.strongRecOn with
  | _ n ih =>
    intro h
    rcases Nat.mod_two_eq_zero_or_one n with h0 | h0
    · have e : n = 2 * (n / 2) := by omega
      have := ih (n / 2) (by omega) (by omega)
      rw [e, tz_even (by omega), Nat.pow_succ, Nat.mul_comm _ 2, Nat.mul_div_mul_left _ _ (by decide)]
      exact this
    · rw [tz_odd h0, Nat.pow_zero, Nat.div_one]; exact h0
theorem tz_least : ∀ (i n : Nat), n / 2 ^ i % 2 = 1 → tz n ≤ i
  | 0, n, h => by rw [Nat.pow_zero, Nat.div_one] at h; rw [tz_odd h]; exact Nat.le_refl 0
  | i + 1, n, h => by
    rcases Nat.mod_two_eq_zero_or_one n with h0 | h0
    · have e : n = 2 * (n / 2) := by omega
      have hn : n / 2 ≠ 0 := by
        intro h1; rw [h1] at e; rw [e, Nat.mul_zero, Nat.zero_div] at h; exact absurd h (by decide)
      rw [e, tz_even hn]
      refine Nat.succ_le_succ (tz_least i (n / 2) ?_)
      rw [Nat.pow_succ, Nat.mul_comm _ 2, ← Nat.div_div_eq_div_mul] at h
      exact h
    · rw [tz_odd h0]; exact Nat.zero_le _
theorem tz_bl {n : Nat} (h : n ≠ 0) : tz n < bl n := by
  have := bl_od h
  have h1 : od n ≠ 0 := by intro h0; have := od_tz n; rw [h0, Nat.zero_mul] at this; exact h this.symm
  have := bl_pos h1
  omega
theorem od_ne {n : Nat} (h : n ≠ 0) : od n ≠ 0 := by intro h0; have := od_tz n; rw [h0, Nat.zero_mul] at this; exact h this.symm
theorem nd_iv {n : Nat} (s : Bool) (E : Int) (h : n ≠ 0) : nd (iv s n) E = (iv s (od n), E + tz n) := by
  unfold nd
  rw [if_neg (fun h0 => h (by have := iv_abs s n; rw [h0] at this; exact this.symm)), iv_abs, iv_sign, if_neg h]
  cases s
  · rw [if_neg (by simp)]; unfold iv; simp
  · rw [if_pos rfl]; unfold iv; simp
theorem nd_all {s : Bool} {n : Nat} (E : Int) (h : n ≠ 0) : ng (nd (iv s n) E).1 = s ∧ (nd (iv s n) E).1.natAbs = od n ∧ (nd (iv s n) E).2 = E + tz n := by
  rw [nd_iv s E h]
  refine ⟨?_, iv_abs _ _, rfl⟩
  show ng (iv s (od n)) = s
  rw [ng_iv, decide_eq_true (od_ne h), Bool.and_true]
theorem sign_iv0 {s : Bool} {n : Nat} : (iv s n).sign = 0 ↔ n = 0 := by
  rw [iv_sign]
  by_cases h : n = 0
  · simp [h]
  · cases s <;> simp [h]
set_option maxRecDepth 100000 in
set_option maxHeartbeats 400000 in
theorem bare_ok (s : Bool) (E : Int) {a : Option Addr} {k c n : Nat} (w : World) (hA : Nm w a k c n) (hs : k ≤ 1000000 ∧ sz n ≤ 2047 ∧ -4611686018427387904 ≤ E ∧ E ≤ 4611686018427387904) :
    Ret Tryz.prog 39 #[.agg #[.bool s, .slice a k c, .int .i64 E]] w (Tel (fun a c => .agg #[.bool (ng ((nd (iv s n) E)).1), .slice a (sz ((nd (iv s n) E)).1.natAbs) c, .int .i64 ((nd (iv s n) E)).2]) (sz ((nd (iv s n) E)).1.natAbs) ((nd (iv s n) E)).1.natAbs w) := by
  refine enter (S := No) (l := [_]) (L := []) 36 Tryz.func39 rfl rfl rfl (St.start w No) ?_; refine yA ?_; refine w_boxA rfl (fun p gp up => ?_)
  refine w_alloc zr27 (fun r gr ur => ?_)
  refine yB ?_; refine zq ?_; refine yA ?_; refine w_loadA z27 rfl (fun _ h => h.at_ 1 rfl) rfl ?_; refine zC (fun w => zR Tryz.func24 rfl rfl rfl) rfl rfl (fun w h => dSign_ok _ _ w ((Kn.old hA).at_ 0 rfl h) (by omega)) ?_; refine w_r (fun _ => R_eq rfl rfl) rfl rfl ?_; refine yB ?_; refine zD rfl (fun h3 => ?_) (fun h3 => ?_)
  · obtain rfl : n = 0 := sign_iv0.1 h3
    refine yA ?_; refine w_r (fun _ => R_build bt27 rfl) rfl rfl ?_; refine w_store 0 rfl z27 rfl rfl rfl rfl rfl rfl rfl ?_; refine yB ?_; refine ze ?_; refine zt (?_)
    rw [iv_zero, nd_zero]
    refine r_fin (.inl rfl) rfl (.agg rfl rfl z27 (fun _ h => h.at_ 0 rfl) rfl .nil) ?_; exact fun w' hw => ⟨none, 0, rfl, Nm.nil _, Fsh.nil _ _, hw.fr (w, No) (.head _)⟩
  · have hn0 : n ≠ 0 := fun h => h3 (sign_iv0.2 h)
    refine zi ?_; refine zk ?_; refine yA ?_; refine aI rfl ?_; refine yB ?_; refine zq ?_; refine zB ?_; refine c_loop (fun m9 e B L => ∃ (i : Nat), e 1 = .pointer (some ⟨p, 0, none⟩) ∧ e 2 = .pointer (some ⟨r, 0, none⟩) ∧ e 3 = .int .i64 (i : Nat) ∧ B = [(w, No)] ∧ L = [(r, cel [.bool false, .slice none 0 0, .int .i64 0] 27), (p, cel [.bool s, .slice a k c, .int .i64 E] 27)] ∧ i ≤ tz n ∧ m9 = tz n - i) _ ⟨0, rfl, rfl, rfl, rfl, rfl, Nat.zero_le _, rfl⟩ ?_
    rintro m9 e B L ⟨i, e1_1, e2_1, e3_1, rfl, rfl, hi, rfl⟩
    have htz := tz_bl hn0; have hbz := bl_sz hs.2.1
    refine zq ?_; refine yA ?_; refine zf fa27_0 e1_1 ?_; refine zf fa25_1 rfl ?_; refine zl z23 rfl (fun _ h => zc 1 rfl rfl h) ?_; refine mI e3_1 ?_; refine zC (fun w => zR Tryz.func74 rfl rfl rfl) rfl rfl (fun w h => Bit_ok w ((Kn.old hA).at_ 0 rfl h) i (by omega)) ?_; refine w_r (fun _ => R_not rfl) rfl rfl ?_; refine yB ?_; refine c_condN rfl (fun h4 => ?_) (fun h4 => ?_)
    · have hi2 : i + 1 ≤ tz n := (by rcases Nat.lt_or_ge i (tz n) with h | h; (exact h); (exact absurd (tz_at hn0) (by rw [show tz n = i by omega]; exact of_decide_eq_false h4)))
      refine zi ?_; refine zk ?_; refine zB ?_; refine zr ?_; refine mI e3_1 ?_; refine w_r (fun _ => R_addN (n := i) (b := 1) rfl rfl (by omega)) rfl rfl ?_; refine aI rfl ?_; refine zn ?_; refine b_on (?_)
      exact k_again _ (by omega) ⟨i + 1, e1_1, e2_1, rfl, rfl, rfl, hi2, rfl⟩
    · have hiz : i = tz n := Nat.le_antisymm hi (tz_least i n (of_decide_eq_true h4))
      refine c_exit ?_; refine zx (zx (b_here rfl (zk ?_))); refine yA ?_; refine zf fa27_0 e1_1 ?_; refine zf fa25_1 rfl ?_; refine zl z23 rfl (fun _ h => zc 1 rfl rfl h) ?_; refine mI e3_1 ?_; refine w_tel (fun w => zR Tryz.func75 rfl rfl rfl) rfl rfl (fun w h => Shr_ok w ((Kn.old hA).at_ 0 rfl h) ⟨by omega, by omega, by omega⟩) (fun xv av cv hKv hNv => ?_)
      refine zm rfl ?_; refine w_r (fun _ => R_extract rfl rfl) rfl rfl ?_; refine w_r (fun _ => R_extract rfl rfl) rfl rfl ?_; refine za (v := .slice _ _ _) rfl ?_; refine aI rfl ?_; refine yC ?_; refine zf fa27_0 e1_1 ?_; refine zf fa25_0 rfl ?_; refine zl z4 rfl (fun _ h => zc 1 rfl rfl h) ?_; refine mS rfl ?_; refine w_r (fun _ => R_build bt25 rfl) rfl rfl ?_; refine zf fa27_1 e1_1 ?_; refine zl z3 rfl (fun _ h => zc 1 rfl rfl h) ?_; refine mI e3_1 ?_; refine w_r (fun _ => R_addi rfl rfl (by omega)) rfl rfl ?_; refine w_r (fun _ => R_build bt27 rfl) rfl rfl ?_; refine w_store 0 rfl z27 e2_1 rfl rfl rfl rfl rfl rfl ?_; refine yB ?_; refine ze ?_
      have hnd := nd_all (s := s) E hn0
      rw [hnd.1, hnd.2.1, hnd.2.2, show od n = n / 2 ^ i from by rw [hiz]; rfl, ← hiz]
      refine r_fin (.inl rfl) rfl (.agg rfl e2_1 z27 (fun _ h => h.at_ 0 rfl) rfl .nil) ?_; exact fun w' hw => ⟨_, _, rfl, (hKv.at_ 0 rfl hw), (hNv _ (.head _)), hw.fr (w, No) (.tail _ (.head _))⟩
theorem may1_ok {s : Bool} {a : Option Addr} {k c n : Nat} {e : Int} {b : Nat} {T : TypeId} (w : World) (hb : w.heap[b]? = some (cel [.bool s, .slice a k c, .int .i64 e] T)) (hA : Nm w a k c n) (hs : k ≤ 1000000 ∧ sz n ≤ 2047) : Ret Tryz.prog 38 #[.slice (some ⟨b, 0, none⟩) 1 1] w fun v w' => v = .bool (mayE e) ∧ Ext w w' := by
  have := may_ok [⟨s, a, k, c, n, e⟩] b 1 w (Dys.one hb ⟨hA, hs⟩) (Nat.le_of_ble_eq_true rfl)
  simpa using this
theorem may2_ok {s s2 : Bool} {a a2 : Option Addr} {k c n k2 c2 n2 : Nat} {e e2 : Int} {b : Nat} {T : TypeId} (w : World) (hb : w.heap[b]? = some (cel [.bool s, .slice a k c, .int .i64 e, .bool s2, .slice a2 k2 c2, .int .i64 e2] T)) (hA : Nm w a k c n) (hA2 : Nm w a2 k2 c2 n2) (hs : (k ≤ 1000000 ∧ sz n ≤ 2047) ∧ k2 ≤ 1000000 ∧ sz n2 ≤ 2047) : Ret Tryz.prog 38 #[.slice (some ⟨b, 0, none⟩) 2 2] w fun v w' => v = .bool (mayE e && mayE e2) ∧ Ext w w' := by
  have := may_ok [⟨s, a, k, c, n, e⟩, ⟨s2, a2, k2, c2, n2, e2⟩] b 2 w (Dys.two hb ⟨hA, hs.1⟩ ⟨hA2, hs.2⟩) (Nat.le_of_ble_eq_true rfl)
  simpa using this
/-- what is told of a number, if its exponent may be; else nothing, and the error -/
def fit (y : Int × Int) : Int × Int := if mayE y.2 = true then y else (0, 0)
def fitE (y : Int × Int) : Int := if mayE y.2 = true then 0 else 50
theorem fit_t {y : Int × Int} (h : mayE y.2 = true) : fit y = y ∧ fitE y = 0 := ⟨if_pos h, if_pos h⟩
theorem fit_f {y : Int × Int} (h : mayE y.2 = false) : fit y = (0, 0) ∧ fitE y = 50 := ⟨if_neg (by simp [h]), if_neg (by simp [h])⟩
theorem od_sz {s : Bool} {n : Nat} (E : Int) : sz (nd (iv s n) E).1.natAbs ≤ sz n := by
  by_cases h : n = 0
  · subst h; rw [iv_zero, nd_zero]; exact Nat.le_refl _
  · rw [(nd_all E h).2.1]; exact sz_mono (od_le n)
set_option maxRecDepth 100000 in
set_option maxHeartbeats 400000 in
theorem dtold_ok (s : Bool) (E : Int) {a : Option Addr} {k c n : Nat} (w : World) (hA : Nm w a k c n) (hs : k ≤ 1000000 ∧ sz n ≤ 2047 ∧ -4611686018427387904 ≤ E ∧ E ≤ 4611686018427387904) :
    Ret Tryz.prog 43 #[.agg #[.bool s, .slice a k c], .int .i64 E, .int .i64 0] w (Tel (fun a c => .tuple #[.agg #[.bool (ng (fit (nd (iv s n) E)).1), .slice a (sz (fit (nd (iv s n) E)).1.natAbs) c, .int .i64 (fit (nd (iv s n) E)).2], .int .i64 (fitE (nd (iv s n) E))]) (sz (fit (nd (iv s n) E)).1.natAbs) (fit (nd (iv s n) E)).1.natAbs w) := by
  have hos := od_sz (s := s) (n := n) E
  refine enter (S := No) (l := [_, _, _]) (L := []) 22 Tryz.func43 rfl rfl rfl (St.start w No) ?_; refine yA ?_; refine w_boxA rfl (fun p gp up => ?_)
  refine w_alloc zr27 (fun r gr ur => ?_)
  refine aI rfl ?_; refine yB ?_; refine zq ?_; refine yA ?_; refine mI rfl ?_; refine w_r (fun _ => R_ne rfl rfl) rfl rfl ?_; refine yB ?_; refine c_condF (congrArg Value.bool (decide_eq_false (by decide))) ?_; refine zi ?_; refine zk ?_; refine yA ?_; refine w_loadA z25 rfl (fun _ h => h.at_ 1 rfl) rfl ?_; refine mI rfl ?_; refine w_r (fun _ => R_build bt27 rfl) rfl rfl ?_; refine w_tel (fun w => zR Tryz.func39 rfl rfl rfl) rfl rfl (fun w h => bare_ok _ _ w ((Kn.old hA).at_ 0 rfl h) ⟨by omega, by omega, by omega, by omega⟩) (fun xv av cv hKv hNv => ?_)
  refine w_alloc zr27 (fun b4 gb4 ub4 => ?_)
  refine w_store 0 rfl z27 rfl rfl rfl rfl rfl rfl rfl ?_; refine yB ?_; refine zq ?_; refine yA ?_; refine w_loadA z27 rfl (fun _ h => h.at_ 0 rfl) rfl ?_; refine zS slt101 (by decide) rfl rfl (fun b5 gb5 ub5 => ?_)
  refine zC (fun w => zR Tryz.func38 rfl rfl rfl) rfl rfl (fun w h => may1_ok w (h.at_ 0 rfl) (hKv.at_ 0 rfl h) ⟨by omega, by omega⟩) ?_; refine w_r (fun _ => R_not rfl) rfl rfl ?_; refine yB ?_; refine c_condN rfl (fun h6 => ?_) (fun h6 => ?_)
  · refine yA ?_; refine w_r (fun _ => R_build bt27 rfl) rfl rfl ?_; refine w_store 2 rfl z27 rfl rfl rfl rfl rfl rfl rfl ?_; refine aI rfl ?_; refine yB ?_; refine ze ?_; refine zt (?_)
    rw [(fit_f (by simpa using h6)).1, (fit_f (by simpa using h6)).2]
    refine r_fin (.inl rfl) rfl (.agg rfl rfl z27 (fun _ h => h.at_ 2 rfl) rfl (.tmp rfl rfl .nil)) ?_; exact fun w' hw => ⟨none, 0, rfl, Nm.nil _, Fsh.nil _ _, hw.fr (w, No) (.tail _ (.head _))⟩
  · refine zi ?_; refine zk ?_; refine yA ?_; refine w_loadA z27 rfl (fun _ h => h.at_ 1 rfl) rfl ?_; refine w_store 2 rfl z27 rfl rfl rfl rfl rfl rfl rfl ?_; refine aI rfl ?_; refine yB ?_; refine ze ?_
    rw [(fit_t (by simpa using h6)).1, (fit_t (by simpa using h6)).2]
    refine r_fin (.inl rfl) rfl (.agg rfl rfl z27 (fun _ h => h.at_ 2 rfl) rfl (.tmp rfl rfl .nil)) ?_; exact fun w' hw => ⟨_, _, rfl, (hKv.at_ 0 rfl hw), (hNv _ (.head _)), hw.fr (w, No) (.tail _ (.head _))⟩
theorem nd_two {x : Int} (hx : -4611686018427387904 ≤ x ∧ x ≤ 4611686018427387904) : fit (nd (iv (ng x) x.natAbs) 0) = nd x 0 := by
  rw [iv_ng]
  refine (fit_t ?_).1
  unfold mayE
  refine decide_eq_true ?_
  by_cases h : x = 0
  · subst h; decide
  · unfold nd
    rw [if_neg h]
    show ((0 : Int) + (tz x.natAbs : Int)).natAbs ≤ mx
    have h0 : x.natAbs ≠ 0 := by omega
    have h1 := tz_bl h0
    have h2 : bl x.natAbs ≤ 64 := bl_iff.2 (by omega)
    unfold mx; omega
set_option maxRecDepth 100000 in
set_option maxHeartbeats 400000 in
theorem dOf_ok {x : Int} (w : World) (hx : -4611686018427387904 ≤ x ∧ x ≤ 4611686018427387904) :
    Ret Tryz.prog 23 #[.int .i64 x] w (Tel (fun a c => .agg #[.bool (ng (nd x 0).1), .slice a (sz (nd x 0).1.natAbs) c, .int .i64 (nd x 0).2]) (sz (nd x 0).1.natAbs) (nd x 0).1.natAbs w) := by
  have hBv : Go.Num.B = 18446744073709551616 := rfl
  have hxs : sz x.natAbs ≤ 1 := sz_iff.2 (by rw [Nat.pow_one]; omega)
  have hfx := nd_two hx
  refine enter (S := No) (l := [_]) (L := []) 12 Tryz.func23 rfl rfl rfl (St.start w No) ?_; refine yA ?_; refine w_alloc zr27 (fun r gr ur => ?_)
  refine yC ?_; refine mI rfl ?_; refine w_tel (fun w => zR Tryz.func54 rfl rfl rfl) rfl rfl (fun w h => zOf_ok w hx) (fun x2 a2 c2 hK2 hN2 => ?_)
  refine w_tel (fun w => zR Tryz.func43 rfl rfl rfl) rfl rfl (fun w h => dtold_ok _ _ w (hK2.at_ 0 rfl h) ⟨by omega, by omega, by omega, by omega⟩) (fun x3 a3 c3 hK3 hN3 => ?_)
  refine zm rfl ?_; refine w_r (fun _ => R_extract rfl rfl) rfl rfl ?_; refine w_r (fun _ => R_extract rfl rfl) rfl rfl ?_; refine w_alloc zr27 (fun b4 gb4 ub4 => ?_)
  refine w_store 0 rfl z27 rfl rfl rfl rfl rfl rfl rfl ?_; refine aI rfl ?_; refine yC ?_; refine w_loadA z27 rfl (fun _ h => h.at_ 0 rfl) rfl ?_; refine w_store 1 rfl z27 rfl rfl rfl rfl rfl rfl rfl ?_; refine yB ?_; refine ze ?_
  rw [← hfx]
  refine r_fin (.inl rfl) rfl (.agg rfl rfl z27 (fun _ h => h.at_ 1 rfl) rfl .nil) ?_; exact fun w' hw => ⟨_, _, rfl, (hK3.at_ 0 rfl hw), (hN3 _ (.tail _ (.head _))), hw.fr (w, No) (.tail _ (.tail _ (.head _)))⟩
end Go.Proofs.YtoapegnngbhkbaaGreatDoor
end
section
namespace Go.Proofs.YtoapegnngbhkbaaGreatDoor
open Go.RowKit Go.Sx
open Go.Num
/-- a number, normal, if it may be -/
def gd (x E : Int) : Int × Int := if mayE E = true then fit (nd x E) else (0, 0)
def gdE (x E : Int) : Int := if mayE E = true then fitE (nd x E) else 50
theorem gd_t {x E : Int} (h : mayE E = true) : gd x E = fit (nd x E) ∧ gdE x E = fitE (nd x E) := ⟨if_pos h, if_pos h⟩
theorem gd_f {x E : Int} (h : mayE E = false) : gd x E = (0, 0) ∧ gdE x E = 50 := ⟨if_neg (by simp [h]), if_neg (by simp [h])⟩
theorem mayE_le {E : Int} (h : mayE E = true) : -1048576 ≤ E ∧ E ≤ 1048576 := by
 unfold mayE mx at h; have := of_decide_eq_true h; omega
theorem mayE_of {E : Int} (h : -1048576 ≤ E ∧ E ≤ 1048576) : mayE E = true := by unfold mayE mx; exact decide_eq_true (by omega)
theorem nd_of {x : Int} (h : x ≠ 0) (e : Int) : nd x e = (x.sign * od x.natAbs, e + tz x.natAbs) := by unfold nd; rw [if_neg h]
theorem nd_shift (x E j : Int) : nd (nd x E).1 ((nd x E).2 + j) = nd x (E + j) := by
 by_cases h : x = 0
 ·subst h; rfl
 ·have h1 := nd_idem x E
  have hne : (nd x E).1 ≠ 0 := nd_ne h
  rw [nd_of hne] at h1
  have h2 : (nd x E).1.sign * (od (nd x E).1.natAbs : Int) = (nd x E).1 := congrArg Prod.fst h1
  have h3 : (nd x E).2 + (tz (nd x E).1.natAbs : Int) = (nd x E).2 := congrArg Prod.snd h1
  have e1 : (nd x E).1 = x.sign * od x.natAbs := by rw [nd_of h]
  have e2 : (nd x E).2 = E + tz x.natAbs := by rw [nd_of h]
  rw [nd_of hne, h2, nd_of h (E + j), e1, e2]
  refine Prod.ext rfl ?_
  have h4 : (tz (nd x E).1.natAbs : Int) = 0 := by omega
  rw [e1] at h4
  show E + (tz x.natAbs : Int) + j + (tz (x.sign * (od x.natAbs : Int)).natAbs : Int) = E + j + tz x.natAbs
  omega
theorem nd_z {s : Bool} {n : Nat} {E : Int} (h : (nd (iv s n) E).1.natAbs = 0) (j : Int) : nd (iv s n) (E + j) = nd (iv s n) E := by
 by_cases hn : n = 0
 ·subst hn; rw [iv_zero]; rfl
 ·rw [(nd_all E hn).2.1] at h; exact absurd h (od_ne hn)
theorem nd_exp {s : Bool} {n : Nat} {E : Int} (hn : sz n ≤ 2047) (hE : -1000 ≤ E ∧ E ≤ 1000) : -1000 ≤ (nd (iv s n) E).2 ∧ (nd (iv s n) E).2 ≤ 140000 := by
 by_cases h : n = 0
 ·subst h; rw [iv_zero, nd_zero]; exact ⟨by decide, by decide⟩
 ·rw [(nd_all E h).2.2]
  have h1 := tz_bl h
  have h2 := bl_sz hn
  omega
theorem nd_fits {s : Bool} {n : Nat} {E : Int} (hn : sz n ≤ 2047) (hE : -500000 ≤ E ∧ E ≤ 500000) : mayE (nd (iv s n) E).2 = true := by
 refine mayE_of ?_
 by_cases h : n = 0
 ·subst h; rw [iv_zero, nd_zero]; exact ⟨by decide, by decide⟩
 ·rw [(nd_all E h).2.2]
  have h1 := tz_bl h
  have h2 := bl_sz hn
  omega
set_option maxRecDepth 100000 in
set_option maxHeartbeats 400000 in
theorem dNorm_ok (s : Bool) (E : Int) {a : Option Addr} {k c n : Nat} (w : World) (hA : Nm w a k c n) (hs : k ≤ 1000000 ∧ sz n ≤ 2047) :
  Ret Tryz.prog 25 #[.agg #[.bool s, .slice a k c, .int .i64 E]] w (Tel (fun a c => .tuple #[.agg #[.bool (ng (gd (iv s n) E).1), .slice a (sz (gd (iv s n) E).1.natAbs) c, .int .i64 (gd (iv s n) E).2], .int .i64 (gdE (iv s n) E)]) (sz (gd (iv s n) E).1.natAbs) (gd (iv s n) E).1.natAbs w) := by
 refine enter (S := No) (l := [_]) (L := []) 16 Tryz.func25 rfl rfl rfl (St.start w No) ?_; refine yA ?_; refine w_boxA rfl (fun p gp up => ?_)
 refine w_alloc zr27 (fun r gr ur => ?_)
 refine aI rfl ?_; refine yB ?_; refine zq ?_; refine yA ?_; refine w_loadA z27 rfl (fun _ h => h.at_ 1 rfl) rfl ?_; refine zS slt101 (by decide) rfl rfl (fun b3 gb3 ub3 => ?_)
 refine zC (fun w => zR Tryz.func38 rfl rfl rfl) rfl rfl (fun w h => may1_ok w (h.at_ 0 rfl) ((Kn.old hA).at_ 0 rfl h) ⟨by omega, by omega⟩) ?_; refine w_r (fun _ => R_not rfl) rfl rfl ?_; refine yB ?_; refine c_condN rfl (fun h4 => ?_) (fun h4 => ?_)
 ·have hgd := gd_f (x := iv s n) (show mayE E = false by simpa using h4)
  refine yA ?_; refine w_r (fun _ => R_build bt27 rfl) rfl rfl ?_; refine w_store 1 rfl z27 rfl rfl rfl rfl rfl rfl rfl ?_; refine aI rfl ?_; refine yB ?_; refine ze ?_; refine zt (?_)
  rw [hgd.1, hgd.2]
  refine r_fin (.inl rfl) rfl (.agg rfl rfl z27 (fun _ h => h.at_ 1 rfl) rfl (.tmp rfl rfl .nil)) ?_; exact fun w' hw => ⟨none, 0, rfl, Nm.nil _, Fsh.nil _ _, hw.fr (w, No) (.head _)⟩
 ·have hgd := gd_t (x := iv s n) (show mayE E = true by simpa using h4); have hle := mayE_le (show mayE E = true by simpa using h4)
  refine zi ?_; refine zk ?_; refine yA ?_; refine zf fa27_0 rfl ?_; refine w_loadA z25 rfl (fun _ h => h.at_ 2 rfl) rfl ?_; refine zf fa27_1 rfl ?_; refine zl z3 rfl (fun _ h => zc 2 rfl rfl h) ?_; refine w_tel (fun w => zR Tryz.func43 rfl rfl rfl) rfl rfl (fun w h => dtold_ok _ _ w ((Kn.old hA).at_ 0 rfl h) ⟨by omega, by omega, by omega, by omega⟩) (fun x5 a5 c5 hK5 hN5 => ?_)
  refine w_r (fun _ => R_extract rfl rfl) rfl rfl ?_; refine w_r (fun _ => R_extract rfl rfl) rfl rfl ?_; refine w_store 1 rfl z27 rfl rfl rfl rfl rfl rfl rfl ?_; refine aI rfl ?_; refine yB ?_; refine ze ?_
  rw [hgd.1, hgd.2]
  refine r_fin (.inl rfl) rfl (.agg rfl rfl z27 (fun _ h => h.at_ 1 rfl) rfl (.tmp rfl rfl .nil)) ?_; exact fun w' hw => ⟨_, _, rfl, (hK5.at_ 0 rfl hw), (hN5 _ (.head _)), hw.fr (w, No) (.tail _ (.head _))⟩
theorem dNormS_ok (s : Bool) (E : Int) {a : Option Addr} {k c n : Nat} (w : World) (hA : Nm w a k c n) (hs : k ≤ 1000000 ∧ sz n ≤ 2047 ∧ -500000 ≤ E ∧ E ≤ 500000) : Ret Tryz.prog 25 #[.agg #[.bool s, .slice a k c, .int .i64 E]] w (Tel (fun a c => .tuple #[.agg #[.bool (ng (nd (iv s n) E).1), .slice a (sz (nd (iv s n) E).1.natAbs) c, .int .i64 (nd (iv s n) E).2], .int .i64 (0)]) (sz (nd (iv s n) E).1.natAbs) (nd (iv s n) E).1.natAbs w) := by
 have := dNorm_ok s E w hA ⟨hs.1, hs.2.1⟩
 rw [(gd_t (mayE_of (by omega))).1, (gd_t (mayE_of (by omega))).2, (fit_t (nd_fits hs.2.1 hs.2.2)).1, (fit_t (nd_fits hs.2.1 hs.2.2)).2] at this
 exact this
theorem dtoldS_ok (s : Bool) (E : Int) {a : Option Addr} {k c n : Nat} (w : World) (hA : Nm w a k c n) (hs : k ≤ 1000000 ∧ sz n ≤ 2047 ∧ -500000 ≤ E ∧ E ≤ 500000) : Ret Tryz.prog 43 #[.agg #[.bool s, .slice a k c], .int .i64 E, .int .i64 0] w (Tel (fun a c => .tuple #[.agg #[.bool (ng (nd (iv s n) E).1), .slice a (sz (nd (iv s n) E).1.natAbs) c, .int .i64 (nd (iv s n) E).2], .int .i64 (0)]) (sz (nd (iv s n) E).1.natAbs) (nd (iv s n) E).1.natAbs w) := by
 have := dtold_ok s E w hA ⟨hs.1, hs.2.1, by omega, by omega⟩
 rw [(fit_t (nd_fits hs.2.1 hs.2.2)).1, (fit_t (nd_fits hs.2.1 hs.2.2)).2] at this
 exact this
set_option maxRecDepth 100000 in
set_option maxHeartbeats 400000 in
theorem dTop_ok (s : Bool) (E : Int) {a : Option Addr} {k c n : Nat} (w : World) (hA : Nm w a k c n) (hs : k ≤ 1000000 ∧ sz n ≤ 2047 ∧ -4611686018427387904 ≤ E ∧ E ≤ 4611686018427387904) :
  Ret Tryz.prog 40 #[.agg #[.bool s, .slice a k c, .int .i64 E]] w (fun v w' => v = .int .i64 (if n = 0 then 0 else (bl n : Int) + E) ∧ Ext w w') := by
 have hbl := bl_sz hs.2.1
 refine enter (S := No) (l := [_]) (L := []) 13 Tryz.func40 rfl rfl rfl (St.start w No) ?_; refine yA ?_; refine w_boxA rfl (fun p gp up => ?_)
 refine aI rfl ?_; refine yB ?_; refine zq ?_; refine yA ?_; refine w_loadA z27 rfl (fun _ h => h.at_ 0 rfl) rfl ?_; refine zC (fun w => zR Tryz.func24 rfl rfl rfl) rfl rfl (fun w h => dSign_ok _ _ w ((Kn.old hA).at_ 0 rfl h) (by omega)) ?_; refine w_r (fun _ => R_eq rfl rfl) rfl rfl ?_; refine yB ?_; refine zD rfl (fun h2 => ?_) (fun h2 => ?_)
 ·refine yA ?_; refine aI rfl ?_; refine yB ?_; refine ze ?_; refine zt (?_)
  refine zo (v := .int _ _) rfl rfl rfl ?_; exact fun w' hw => ⟨by rw [if_pos (sign_iv0.1 h2)], hw.fr (w, No) (.head _)⟩
 ·refine zi ?_; refine zk ?_; refine zq ?_; refine c_heldS mixed ?_; refine zh 0 rfl (by kernel_rfl) rfl rfl (fun w h => h) (fun w h => R_fa fa27_0 rfl) ?_; refine zh 1 rfl (by kernel_rfl) rfl rfl (fun w h => h) (fun w h => R_fa fa25_1 rfl) ?_; refine zh (v := .slice _ _ _) 2 rfl (by kernel_rfl) rfl rfl (fun w h => h) (fun w h => R_ld1 z23 rfl (zc 0 rfl rfl h)) ?_; refine zh 4 rfl (by kernel_rfl) rfl rfl (fun w h => h) (fun w h => R_fa fa27_1 rfl) ?_; refine zh (v := .int _ _) 5 rfl (by kernel_rfl) rfl rfl (fun w h => h) (fun w h => R_ld1 z3 rfl (zc 0 rfl rfl h)) ?_; refine h_one 3 (by kernel_rfl) (fun w h => h) ?_; refine o_pureW rfl (wn_none rfl) rfl (fun w => zR Tryz.func44 rfl rfl rfl) (fun w h => Bits_ok w ((Kn.old hA).at_ 0 rfl h) (by omega)) ?_
  refine zh 6 rfl (by kernel_rfl) rfl rfl (fun w h => h) (fun w h => R_addi rfl rfl (by omega)) ?_; refine zh (v := .int _ _) 7 rfl (by kernel_rfl) rfl rfl (fun w h => h) (fun w h => R_assign rfl) ?_; refine h_done (by kernel_rfl) (fun w h => h) ?_; refine zk ?_; refine ze ?_; refine zo (v := .int _ _) rfl rfl rfl ?_; exact fun w' hw => ⟨by rw [if_neg (fun h => h2 (sign_iv0.2 h))], hw.fr (w, No) (.head _)⟩
set_option maxRecDepth 100000 in
set_option maxHeartbeats 400000 in
theorem dScale_ok (h9 : Int) (s : Bool) (E : Int) {a : Option Addr} {k c n : Nat} (w : World) (hA : Nm w a k c n) (hs : k ≤ 1000000 ∧ sz n ≤ 2047 ∧ (-1000 ≤ E ∧ E ≤ 1000) ∧ -1000 ≤ h9 ∧ h9 ≤ 1000) :
  Ret Tryz.prog 15 #[.agg #[.bool s, .slice a k c, .int .i64 E], .int .i64 h9] w (Tel (fun a c => .tuple #[.agg #[.bool (ng ((nd (iv s n) (E + h9))).1), .slice a (sz ((nd (iv s n) (E + h9))).1.natAbs) c, .int .i64 ((nd (iv s n) (E + h9))).2], .int .i64 (0)]) (sz ((nd (iv s n) (E + h9))).1.natAbs) ((nd (iv s n) (E + h9))).1.natAbs w) := by
 have hos := od_sz (s := s) (n := n) E
 have htz := nd_exp (s := s) (n := n) (E := E) hs.2.1 hs.2.2.1
 have hy : nd (iv (ng (nd (iv s n) E).1) (nd (iv s n) E).1.natAbs) ((nd (iv s n) E).2 + h9) = (nd (iv s n) (E + h9)) := by rw [iv_ng, nd_shift]
 refine enter (S := No) (l := [_, _]) (L := []) 39 Tryz.func15 rfl rfl rfl (St.start w No) ?_; refine yA ?_; refine w_boxA rfl (fun p gp up => ?_)
 refine w_alloc zr27 (fun r gr ur => ?_)
 refine aI rfl ?_; refine yC ?_; refine w_loadA z27 rfl (fun _ h => h.at_ 1 rfl) rfl ?_; refine w_tel (fun w => zR Tryz.func25 rfl rfl rfl) rfl rfl (fun w h => dNormS_ok _ _ w ((Kn.old hA).at_ 0 rfl h) ⟨by omega, by omega, by omega, by omega⟩) (fun x3 a3 c3 hK3 hN3 => ?_)
 refine zm rfl ?_; refine w_r (fun _ => R_extract rfl rfl) rfl rfl ?_; refine w_r (fun _ => R_extract rfl rfl) rfl rfl ?_; refine w_store 1 rfl z27 rfl rfl rfl rfl rfl rfl rfl ?_; refine aI rfl ?_; refine yB ?_; refine zq ?_; refine zB ?_; refine yA ?_; refine mI rfl ?_; refine w_r (fun _ => R_ne rfl rfl) rfl rfl ?_; refine aB rfl ?_; refine yB ?_; refine c_condF (congrArg Value.bool (decide_eq_false (by decide))) ?_; refine yA ?_; refine w_loadA z27 rfl (fun _ h => h.at_ 1 rfl) rfl ?_; refine zC (fun w => zR Tryz.func24 rfl rfl rfl) rfl rfl (fun w h => dSign_ok _ _ w (hK3.at_ 0 rfl h) (by omega)) ?_; refine w_r (fun _ => R_eq rfl rfl) rfl rfl ?_; refine aB rfl ?_; refine yB ?_
 refine zD rfl (fun h4 => ?_) (fun h4 => ?_)
 ·refine yA ?_; refine w_loadA z27 rfl (fun _ h => h.at_ 1 rfl) rfl ?_; refine w_store 0 rfl z27 rfl rfl rfl rfl rfl rfl rfl ?_; refine aI rfl ?_; refine yB ?_; refine ze ?_; refine zb (zt (?_))
  rw [nd_z (sign_iv0.1 h4)]
  refine r_fin (.inl rfl) rfl (.agg rfl rfl z27 (fun _ h => h.at_ 0 rfl) rfl (.tmp rfl rfl .nil)) ?_; exact fun w' hw => ⟨_, _, rfl, (hK3.at_ 0 rfl hw), (hN3 _ (.head _)), hw.fr (w, No) (.tail _ (.head _))⟩
 ·refine yA ?_; refine mI rfl ?_; refine w_r (fun _ => R_lt rfl rfl) rfl rfl ?_; refine mB rfl ?_; refine zd (t := 25) rfl (fun h5 => ?_) (fun h5 => ?_)
  ·omega
  ·refine zw rfl rfl (bF h5) ?_; refine mI rfl ?_; refine zw rfl rfl (bF h5) ?_; refine w_r (fun _ => R_gt rfl rfl) rfl rfl ?_; refine w_r (v := .bool _) (fun _ => zF (bF h5) rfl) rfl rfl ?_; refine aB rfl ?_; refine yB ?_; refine zD rfl (fun h6 => ?_) (fun h6 => ?_)
   ·omega
   ·refine zi ?_; refine b_on (zk ?_); refine yA ?_; refine zf fa27_0 rfl ?_; refine w_loadA z25 rfl (fun _ h => h.at_ 1 rfl) rfl ?_; refine zf fa27_1 rfl ?_; refine zl z3 rfl (fun _ h => zc 1 rfl rfl h) ?_; refine mI rfl ?_; refine w_r (fun _ => R_addi rfl rfl (by omega)) rfl rfl ?_; refine w_tel (fun w => zR Tryz.func43 rfl rfl rfl) rfl rfl (fun w h => dtoldS_ok _ _ w (hK3.at_ 0 rfl h) ⟨by omega, by omega, by omega, by omega⟩) (fun x7 a7 c7 hK7 hN7 => ?_)
    refine w_r (fun _ => R_extract rfl rfl) rfl rfl ?_; refine w_r (fun _ => R_extract rfl rfl) rfl rfl ?_; refine w_store 0 rfl z27 rfl rfl rfl rfl rfl rfl rfl ?_; refine aI rfl ?_; refine yB ?_; refine ze ?_
    rw [← hy]
    refine r_fin (.inl rfl) rfl (.agg rfl rfl z27 (fun _ h => h.at_ 0 rfl) rfl (.tmp rfl rfl .nil)) ?_; exact fun w' hw => ⟨_, _, rfl, (hK7.at_ 0 rfl hw), (hN7 _ (.tail _ (.head _))), hw.fr (w, No) (.tail _ (.tail _ (.head _)))⟩
end Go.Proofs.YtoapegnngbhkbaaGreatDoor
end
section
namespace Go.Proofs.YtoapegnngbhkbaaGreatDoor
open Go.RowKit Go.Sx
open Go.Num
theorem sz_shl (n h : Nat) : sz (n * 2 ^ h) ≤ (64 * sz n + h + 63) / 64 := by
 by_cases hn : n = 0
 ·subst hn; rw [Nat.zero_mul, sz_zero]; exact Nat.zero_le _
 ·have h1 := bl_mul hn h
  have h2 := bl_sz (Nat.le_refl (sz n))
  have h3 : sz (n * 2 ^ h) = (bl (n * 2 ^ h) + 63) / 64 := rfl
  rw [h3, h1]; omega
theorem i64_negn {q : Nat} (h : q ≤ 100000) : IntKind.i64.wrap (-(-(q : Int))) = (q : Int) := by rw [Int.neg_neg]; exact wrap_i64 (by omega) (by omega)
theorem ng_shl (x : Int) (q : Nat) : (ng x && decide (x.natAbs * 2 ^ q ≠ 0)) = ng (x * ((2 ^ q : Nat) : Int)) := by
 rw [ng_mul]
 have h1 := ng_iv (ng x) x.natAbs
 rw [iv_ng] at h1
 have h2 : decide (x.natAbs * 2 ^ q ≠ 0) = decide (x.natAbs ≠ 0) := decide_eq_decide.2 ⟨fun h h0 => h (by rw [h0, Nat.zero_mul]), fun h => Nat.mul_ne_zero h (Nat.pos_iff_ne_zero.1 (Nat.pow_pos (by decide)))⟩
 rw [h2, ← h1]
theorem abs_shl (x : Int) (q : Nat) : x.natAbs * 2 ^ q = (x * ((2 ^ q : Nat) : Int)).natAbs := by rw [Int.natAbs_mul, Int.natAbs_natCast]
set_option maxRecDepth 100000 in
set_option maxHeartbeats 400000 in
theorem broughtU_ok (x z E E2 e9 : Int) (q : Nat) {a : Option Addr} {c : Nat} {a2 : Option Addr} {c2 : Nat} (w : World) (hA : Nm w a (sz x.natAbs) c x.natAbs) (hA2 : Nm w a2 (sz z.natAbs) c2 z.natAbs) (hs : sz x.natAbs ≤ 100 ∧ sz z.natAbs ≤ 100 ∧ q ≤ 10000 ∧ (-500000 ≤ E ∧ E ≤ 500000) ∧ (-500000 ≤ E2 ∧ E2 ≤ 500000) ∧ -4000000 ≤ e9 ∧ e9 ≤ 4000000) (hq : E - E2 - e9 = (q : Int)) :
  Ret Tryz.prog 41 #[.agg #[.bool (ng x), .slice a (sz (x).natAbs) c, .int .i64 E], .agg #[.bool (ng z), .slice a2 (sz (z).natAbs) c2, .int .i64 E2], .int .i64 e9] w (fun v w' => (∃ a' c', v = .tuple #[.agg #[.bool (ng (x * ((2 ^ q : Nat) : Int))), .slice a' (sz ((x * ((2 ^ q : Nat) : Int))).natAbs) c'], .agg #[.bool (ng z), .slice a2 (sz (z).natAbs) c2], .int .i64 0] ∧ Nm w' a' (sz (x * ((2 ^ q : Nat) : Int)).natAbs) c' (x * ((2 ^ q : Nat) : Int)).natAbs ∧ Fsh w.heap.size a' (sz (x * ((2 ^ q : Nat) : Int)).natAbs) ∧ Ext w w')) := by
 have h1 := sz_shl x.natAbs q; have h2 := sz_shl z.natAbs q
 refine enter (S := No) (l := [_, _, _]) (L := []) 39 Tryz.func41 rfl rfl rfl (St.start w No) ?_; refine yA ?_; refine w_boxA rfl (fun p gp up => ?_)
 refine w_boxA rfl (fun p2 gp2 up2 => ?_)
 refine w_alloc zr25 (fun r gr ur => ?_)
 refine w_alloc zr25 (fun r2 gr2 ur2 => ?_)
 refine aI rfl ?_; refine yC ?_; refine zf fa27_1 rfl ?_; refine zl z3 rfl (fun _ h => zc 3 rfl rfl h) ?_; refine zf fa27_1 rfl ?_; refine zl z3 rfl (fun _ h => zc 2 rfl rfl h) ?_; refine w_r (fun _ => R_subi rfl rfl (by omega)) rfl rfl ?_; refine mI rfl ?_; refine w_r (fun _ => R_subi rfl rfl (by omega)) rfl rfl ?_
 rw [hq]
 refine aI rfl ?_; refine yB ?_; refine zq ?_; refine c_heldI [2, 3] mixed ?_; refine zh 0 rfl (by kernel_rfl) rfl rfl (fun w h => (h).pick [2, 3] (by decide)) (fun w h => R_fa fa27_0 rfl) ?_; refine h_loadA 1 rfl (by kernel_rfl) (fun w h => (h).pick [2, 3] (by decide)) z25 rfl (fun _ h => h.at_ 1 rfl) rfl ?_; refine zh 2 rfl (by kernel_rfl) rfl rfl (fun w h => (h).pick [2, 3] (by decide)) (fun w h => R_fa fa27_0 rfl) ?_; refine h_loadA 3 rfl (by kernel_rfl) (fun w h => (h).pick [2, 3] (by decide)) z25 rfl (fun _ h => h.at_ 0 rfl) rfl ?_; refine h_one 4 (by kernel_rfl) (fun w h => (h).pick [2, 3] (by decide)) ?_; refine o_store 1 rfl rfl z25 rfl rfl rfl rfl rfl rfl rfl ?_; refine h_one 5 (by kernel_rfl) (fun w h => (h).pick [2, 3] (by decide)) ?_; refine o_store 0 rfl rfl z25 rfl rfl rfl rfl rfl rfl rfl ?_
 refine h_done (by kernel_rfl) (fun w h => (h).pick [2, 3] (by decide)) ?_; refine zk ?_; refine zq ?_; refine yA ?_; refine mI rfl ?_; refine w_r (fun _ => R_geN (a := q) (b := 0) rfl rfl) rfl rfl ?_; refine yB ?_; refine zD rfl (fun h5 => ?_) (fun h5 => ?_)
 ·refine zr ?_; refine w_loadA z25 rfl (fun _ h => h.at_ 1 rfl) rfl ?_; refine mI rfl ?_; refine w_tel (fun w => zR Tryz.func45 rfl rfl rfl) rfl rfl (fun w h => zShl_ok _ w ((Kn.old hA).at_ 0 rfl h) ⟨by omega, by omega, by omega, by omega⟩) (fun x6 a6 c6 hK6 hN6 => ?_)
  refine zm rfl ?_; refine w_r (fun _ => R_extract rfl rfl) rfl rfl ?_; refine w_r (fun _ => R_extract rfl rfl) rfl rfl ?_; refine w_store 1 rfl z25 rfl rfl rfl rfl rfl rfl rfl ?_; refine aI rfl ?_; refine yB ?_; refine zq ?_; refine c_heldI [2, 3] mixed ?_; refine zh (v := .int _ _) 2 rfl (by kernel_rfl) rfl rfl (fun w h => (h).pick [2, 3] (by decide)) (fun w h => R_move rfl) ?_; refine h_two 0 1 (by kernel_rfl) (fun w h => (h).pick [2, 3] (by decide)) ?_ ?_
  ·refine o_run rfl rfl rfl (fun w h => R_ldb z25 rfl (h.at_ 1 rfl) rfl) ?_; refine h_two 1 3 (by kernel_rfl) (fun w h => (h).pick [2, 3] (by decide)) ?_ ?_
   ·refine o_run rfl rfl rfl (fun w h => R_ldb z25 rfl (h.at_ 0 rfl) rfl) ?_; refine h_one 3 (by kernel_rfl) (fun w h => (h).pick [2, 3] (by decide)) ?_; refine o_store 1 rfl rfl z25 rfl rfl rfl rfl rfl rfl rfl ?_; refine h_one 4 (by kernel_rfl) (fun w h => (h).pick [2, 3] (by decide)) ?_; refine o_store 0 rfl rfl z25 rfl rfl rfl rfl rfl rfl rfl ?_; refine zh (v := .int _ _) 5 rfl (by kernel_rfl) rfl rfl (fun w h => (h).pick [2, 3] (by decide)) (fun w h => R_assign rfl) ?_; refine h_done (by kernel_rfl) (fun w h => (h).pick [2, 3] (by decide)) ?_; refine zk ?_; refine ze ?_
    rw [← ng_shl, ← abs_shl]
    refine r_fin (.inl rfl) rfl (.agg rfl rfl z25 (fun _ h => h.at_ 1 rfl) rfl (.agg rfl rfl z25 (fun _ h => h.at_ 0 rfl) rfl (.tmp rfl rfl .nil))) ?_; exact fun w' hw => ⟨_, _, rfl, (hK6.at_ 0 rfl hw), (hN6 _ (.head _)), hw.fr (w, No) (.tail _ (.head _))⟩
   ·refine o_store 1 rfl rfl z25 rfl rfl rfl rfl rfl rfl rfl ?_; refine h_one 1 (by kernel_rfl) (fun w h => (h).pick [2, 3] (by decide)) ?_; refine o_run rfl rfl rfl (fun w h => R_ldb z25 rfl (h.at_ 0 rfl) rfl) ?_; refine h_one 4 (by kernel_rfl) (fun w h => (h).pick [2, 3] (by decide)) ?_; refine o_store 0 rfl rfl z25 rfl rfl rfl rfl rfl rfl rfl ?_; refine zh (v := .int _ _) 5 rfl (by kernel_rfl) rfl rfl (fun w h => (h).pick [2, 3] (by decide)) (fun w h => R_assign rfl) ?_; refine h_done (by kernel_rfl) (fun w h => (h).pick [2, 3] (by decide)) ?_; refine zk ?_; refine ze ?_
    rw [← ng_shl, ← abs_shl]
    refine r_fin (.inl rfl) rfl (.agg rfl rfl z25 (fun _ h => h.at_ 1 rfl) rfl (.agg rfl rfl z25 (fun _ h => h.at_ 0 rfl) rfl (.tmp rfl rfl .nil))) ?_; exact fun w' hw => ⟨_, _, rfl, (hK6.at_ 0 rfl hw), (hN6 _ (.head _)), hw.fr (w, No) (.tail _ (.head _))⟩
  ·refine o_run rfl rfl rfl (fun w h => R_ldb z25 rfl (h.at_ 0 rfl) rfl) ?_; refine h_one 0 (by kernel_rfl) (fun w h => (h).pick [2, 3] (by decide)) ?_; refine o_run rfl rfl rfl (fun w h => R_ldb z25 rfl (h.at_ 1 rfl) rfl) ?_; refine h_one 3 (by kernel_rfl) (fun w h => (h).pick [2, 3] (by decide)) ?_; refine o_store 1 rfl rfl z25 rfl rfl rfl rfl rfl rfl rfl ?_; refine h_one 4 (by kernel_rfl) (fun w h => (h).pick [2, 3] (by decide)) ?_; refine o_store 0 rfl rfl z25 rfl rfl rfl rfl rfl rfl rfl ?_; refine zh (v := .int _ _) 5 rfl (by kernel_rfl) rfl rfl (fun w h => (h).pick [2, 3] (by decide)) (fun w h => R_assign rfl) ?_; refine h_done (by kernel_rfl) (fun w h => (h).pick [2, 3] (by decide)) ?_; refine zk ?_; refine ze ?_
   rw [← ng_shl, ← abs_shl]
   refine r_fin (.inl rfl) rfl (.agg rfl rfl z25 (fun _ h => h.at_ 1 rfl) rfl (.agg rfl rfl z25 (fun _ h => h.at_ 0 rfl) rfl (.tmp rfl rfl .nil))) ?_; exact fun w' hw => ⟨_, _, rfl, (hK6.at_ 0 rfl hw), (hN6 _ (.head _)), hw.fr (w, No) (.tail _ (.head _))⟩
 ·omega
set_option maxRecDepth 100000 in
set_option maxHeartbeats 400000 in
theorem broughtD_ok (x z E E2 e9 : Int) (q : Nat) {a : Option Addr} {c : Nat} {a2 : Option Addr} {c2 : Nat} (w : World) (hA : Nm w a (sz x.natAbs) c x.natAbs) (hA2 : Nm w a2 (sz z.natAbs) c2 z.natAbs) (hs : sz x.natAbs ≤ 100 ∧ sz z.natAbs ≤ 100 ∧ q ≤ 10000 ∧ (-500000 ≤ E ∧ E ≤ 500000) ∧ (-500000 ≤ E2 ∧ E2 ≤ 500000) ∧ -4000000 ≤ e9 ∧ e9 ≤ 4000000) (hq : E - E2 - e9 = -(q : Int) ∧ q ≠ 0) :
  Ret Tryz.prog 41 #[.agg #[.bool (ng x), .slice a (sz (x).natAbs) c, .int .i64 E], .agg #[.bool (ng z), .slice a2 (sz (z).natAbs) c2, .int .i64 E2], .int .i64 e9] w (fun v w' => (∃ a' c', v = .tuple #[.agg #[.bool (ng x), .slice a (sz (x).natAbs) c], .agg #[.bool (ng (z * ((2 ^ q : Nat) : Int))), .slice a' (sz ((z * ((2 ^ q : Nat) : Int))).natAbs) c'], .int .i64 0] ∧ Nm w' a' (sz (z * ((2 ^ q : Nat) : Int)).natAbs) c' (z * ((2 ^ q : Nat) : Int)).natAbs ∧ Fsh w.heap.size a' (sz (z * ((2 ^ q : Nat) : Int)).natAbs) ∧ Ext w w')) := by
 obtain ⟨hq, hq0⟩ := hq
 have h1 := sz_shl x.natAbs q; have h2 := sz_shl z.natAbs q
 refine enter (S := No) (l := [_, _, _]) (L := []) 39 Tryz.func41 rfl rfl rfl (St.start w No) ?_; refine yA ?_; refine w_boxA rfl (fun p gp up => ?_)
 refine w_boxA rfl (fun p2 gp2 up2 => ?_)
 refine w_alloc zr25 (fun r gr ur => ?_)
 refine w_alloc zr25 (fun r2 gr2 ur2 => ?_)
 refine aI rfl ?_; refine yC ?_; refine zf fa27_1 rfl ?_; refine zl z3 rfl (fun _ h => zc 3 rfl rfl h) ?_; refine zf fa27_1 rfl ?_; refine zl z3 rfl (fun _ h => zc 2 rfl rfl h) ?_; refine w_r (fun _ => R_subi rfl rfl (by omega)) rfl rfl ?_; refine mI rfl ?_; refine w_r (fun _ => R_subi rfl rfl (by omega)) rfl rfl ?_
 rw [hq]
 refine aI rfl ?_; refine yB ?_; refine zq ?_; refine c_heldI [2, 3] mixed ?_; refine zh 0 rfl (by kernel_rfl) rfl rfl (fun w h => (h).pick [2, 3] (by decide)) (fun w h => R_fa fa27_0 rfl) ?_; refine h_loadA 1 rfl (by kernel_rfl) (fun w h => (h).pick [2, 3] (by decide)) z25 rfl (fun _ h => h.at_ 1 rfl) rfl ?_; refine zh 2 rfl (by kernel_rfl) rfl rfl (fun w h => (h).pick [2, 3] (by decide)) (fun w h => R_fa fa27_0 rfl) ?_; refine h_loadA 3 rfl (by kernel_rfl) (fun w h => (h).pick [2, 3] (by decide)) z25 rfl (fun _ h => h.at_ 0 rfl) rfl ?_; refine h_one 4 (by kernel_rfl) (fun w h => (h).pick [2, 3] (by decide)) ?_; refine o_store 1 rfl rfl z25 rfl rfl rfl rfl rfl rfl rfl ?_; refine h_one 5 (by kernel_rfl) (fun w h => (h).pick [2, 3] (by decide)) ?_; refine o_store 0 rfl rfl z25 rfl rfl rfl rfl rfl rfl rfl ?_
 refine h_done (by kernel_rfl) (fun w h => (h).pick [2, 3] (by decide)) ?_; refine zk ?_; refine zq ?_; refine yA ?_; refine mI rfl ?_; refine w_r (fun _ => R_ge rfl rfl) rfl rfl ?_; refine yB ?_; refine zD rfl (fun h5 => ?_) (fun h5 => ?_)
 ·omega
 ·refine zr ?_; refine w_loadA z25 rfl (fun _ h => h.at_ 0 rfl) rfl ?_; refine mI rfl ?_; refine w_r (fun _ => R_neg rfl) rfl rfl ?_
  rw [i64_negn (by omega)]
  refine w_tel (fun w => zR Tryz.func45 rfl rfl rfl) rfl rfl (fun w h => zShl_ok _ w ((Kn.old hA2).at_ 0 rfl h) ⟨by omega, by omega, by omega, by omega⟩) (fun x6 a6 c6 hK6 hN6 => ?_)
  refine zm rfl ?_; refine w_r (fun _ => R_extract rfl rfl) rfl rfl ?_; refine w_r (fun _ => R_extract rfl rfl) rfl rfl ?_; refine w_store 0 rfl z25 rfl rfl rfl rfl rfl rfl rfl ?_; refine aI rfl ?_; refine yB ?_; refine zq ?_; refine c_heldI [2, 3] mixed ?_; refine zh (v := .int _ _) 2 rfl (by kernel_rfl) rfl rfl (fun w h => (h).pick [2, 3] (by decide)) (fun w h => R_move rfl) ?_; refine h_two 0 1 (by kernel_rfl) (fun w h => (h).pick [2, 3] (by decide)) ?_ ?_
  ·refine o_run rfl rfl rfl (fun w h => R_ldb z25 rfl (h.at_ 1 rfl) rfl) ?_; refine h_two 1 3 (by kernel_rfl) (fun w h => (h).pick [2, 3] (by decide)) ?_ ?_
   ·refine o_run rfl rfl rfl (fun w h => R_ldb z25 rfl (h.at_ 0 rfl) rfl) ?_; refine h_one 3 (by kernel_rfl) (fun w h => (h).pick [2, 3] (by decide)) ?_; refine o_store 1 rfl rfl z25 rfl rfl rfl rfl rfl rfl rfl ?_; refine h_one 4 (by kernel_rfl) (fun w h => (h).pick [2, 3] (by decide)) ?_; refine o_store 0 rfl rfl z25 rfl rfl rfl rfl rfl rfl rfl ?_; refine zh (v := .int _ _) 5 rfl (by kernel_rfl) rfl rfl (fun w h => (h).pick [2, 3] (by decide)) (fun w h => R_assign rfl) ?_; refine h_done (by kernel_rfl) (fun w h => (h).pick [2, 3] (by decide)) ?_; refine zk ?_; refine ze ?_
    rw [← ng_shl, ← abs_shl]
    refine r_fin (.inl rfl) rfl (.agg rfl rfl z25 (fun _ h => h.at_ 1 rfl) rfl (.agg rfl rfl z25 (fun _ h => h.at_ 0 rfl) rfl (.tmp rfl rfl .nil))) ?_; exact fun w' hw => ⟨_, _, rfl, (hK6.at_ 0 rfl hw), (hN6 _ (.head _)), hw.fr (w, No) (.tail _ (.head _))⟩
   ·refine o_store 1 rfl rfl z25 rfl rfl rfl rfl rfl rfl rfl ?_; refine h_one 1 (by kernel_rfl) (fun w h => (h).pick [2, 3] (by decide)) ?_; refine o_run rfl rfl rfl (fun w h => R_ldb z25 rfl (h.at_ 0 rfl) rfl) ?_; refine h_one 4 (by kernel_rfl) (fun w h => (h).pick [2, 3] (by decide)) ?_; refine o_store 0 rfl rfl z25 rfl rfl rfl rfl rfl rfl rfl ?_; refine zh (v := .int _ _) 5 rfl (by kernel_rfl) rfl rfl (fun w h => (h).pick [2, 3] (by decide)) (fun w h => R_assign rfl) ?_; refine h_done (by kernel_rfl) (fun w h => (h).pick [2, 3] (by decide)) ?_; refine zk ?_; refine ze ?_
    rw [← ng_shl, ← abs_shl]
    refine r_fin (.inl rfl) rfl (.agg rfl rfl z25 (fun _ h => h.at_ 1 rfl) rfl (.agg rfl rfl z25 (fun _ h => h.at_ 0 rfl) rfl (.tmp rfl rfl .nil))) ?_; exact fun w' hw => ⟨_, _, rfl, (hK6.at_ 0 rfl hw), (hN6 _ (.head _)), hw.fr (w, No) (.tail _ (.head _))⟩
  ·refine o_run rfl rfl rfl (fun w h => R_ldb z25 rfl (h.at_ 0 rfl) rfl) ?_; refine h_one 0 (by kernel_rfl) (fun w h => (h).pick [2, 3] (by decide)) ?_; refine o_run rfl rfl rfl (fun w h => R_ldb z25 rfl (h.at_ 1 rfl) rfl) ?_; refine h_one 3 (by kernel_rfl) (fun w h => (h).pick [2, 3] (by decide)) ?_; refine o_store 1 rfl rfl z25 rfl rfl rfl rfl rfl rfl rfl ?_; refine h_one 4 (by kernel_rfl) (fun w h => (h).pick [2, 3] (by decide)) ?_; refine o_store 0 rfl rfl z25 rfl rfl rfl rfl rfl rfl rfl ?_; refine zh (v := .int _ _) 5 rfl (by kernel_rfl) rfl rfl (fun w h => (h).pick [2, 3] (by decide)) (fun w h => R_assign rfl) ?_; refine h_done (by kernel_rfl) (fun w h => (h).pick [2, 3] (by decide)) ?_; refine zk ?_; refine ze ?_
   rw [← ng_shl, ← abs_shl]
   refine r_fin (.inl rfl) rfl (.agg rfl rfl z25 (fun _ h => h.at_ 1 rfl) rfl (.agg rfl rfl z25 (fun _ h => h.at_ 0 rfl) rfl (.tmp rfl rfl .nil))) ?_; exact fun w' hw => ⟨_, _, rfl, (hK6.at_ 0 rfl hw), (hN6 _ (.head _)), hw.fr (w, No) (.tail _ (.head _))⟩
/-- the two integers that are brought to an exponent -/
def BX (x k : Int) : Int := if 0 ≤ k then x * ((2 ^ k.toNat : Nat) : Int) else x
def BZ (z k : Int) : Int := if 0 ≤ k then z else z * ((2 ^ (-k).toNat : Nat) : Int)
theorem br_eq (x z k : Int) : fl (BX x k) (BZ z k) = br x z k := by unfold BX BZ br; split <;> rfl
/-- new, or what was handed in -/
def FshO (m : Nat) (a : Option Addr) (k : Nat) (a0 : Option Addr) (k0 : Nat) : Prop := Fsh m a k ∨ (a = a0 ∧ k = k0)
theorem _root_.Go.Sx.Kn.re {x : World × (Nat → Prop)} {a : Option Addr} {k c n : Nat} {B : Base} {L : Heap} {w : World} (h : Kn x a k c n) (hx : x ∈ B) (hw : St B L w) : ∀ b o q, a = some ⟨b, o, q⟩ → 0 < k → ¬ b ∈ L.map (·.1) := fun b o q ha hk hm => by
 obtain ⟨p, hp, rfl⟩ := List.mem_map.1 hm
 rcases hw.ok p hp x hx with h1 | h1
 ·exact h.2 _ _ _ ha hk h1
 ·obtain ⟨b', o', ha', hc⟩ := h.1.cell 0 hk
  rw [ha] at ha'
  cases ha'
  unfold World.cell? at hc
  have hb : x.1.heap[p.1]? ≠ none := fun h0 => by simp [h0] at hc
  rw [ne_eq, Array.getElem?_eq_none_iff] at hb
  omega
theorem Kn_or {y : World × (Nat → Prop)} {a a0 : Option Addr} {k c n k0 c0 n0 : Nat} {B : Base} {L : Heap} {w w' : World} (hN : Nm w' a k c n) (hf : FshO w.heap.size a k a0 k0) (hK : Kn y a0 k0 c0 n0) (hy : y ∈ B) (hw : St B L w) : Kn (w', fun j => j ∈ L.map (·.1)) a k c n := by
 rcases hf with hf | ⟨rfl, rfl⟩
 ·exact Kn.new hN hf hw
 ·exact ⟨hN, hK.re hy hw⟩
/-- what brought tells -/
def BroR (x z k : Int) (a0 : Option Addr) (k0 : Nat) (a20 : Option Addr) (k20 : Nat) (w : World) (v : Value) (w' : World) : Prop := ∃ a c a2 c2, v = .tuple #[.agg #[.bool (ng (BX x k)), .slice a (sz (BX x k).natAbs) c], .agg #[.bool (ng (BZ z k)), .slice a2 (sz (BZ z k).natAbs) c2], .int .i64 0] ∧
 Nm w' a (sz (BX x k).natAbs) c (BX x k).natAbs ∧ Nm w' a2 (sz (BZ z k).natAbs) c2 (BZ z k).natAbs ∧ FshO w.heap.size a (sz (BX x k).natAbs) a0 k0 ∧ FshO w.heap.size a2 (sz (BZ z k).natAbs) a20 k20 ∧ Ext w w'
theorem brought_ok (x z E E2 e9 : Int) {a : Option Addr} {c : Nat} {a2 : Option Addr} {c2 : Nat} (w : World) (hA : Nm w a (sz x.natAbs) c x.natAbs) (hA2 : Nm w a2 (sz z.natAbs) c2 z.natAbs) (hs : sz x.natAbs ≤ 100 ∧ sz z.natAbs ≤ 100 ∧ (-10000 ≤ E - E2 - e9 ∧ E - E2 - e9 ≤ 10000) ∧ (-500000 ≤ E ∧ E ≤ 500000) ∧ (-500000 ≤ E2 ∧ E2 ≤ 500000) ∧ -4000000 ≤ e9 ∧ e9 ≤ 4000000) :
  Ret Tryz.prog 41 #[.agg #[.bool (ng x), .slice a (sz x.natAbs) c, .int .i64 E], .agg #[.bool (ng z), .slice a2 (sz z.natAbs) c2, .int .i64 E2], .int .i64 e9] w (BroR x z (E - E2 - e9) a (sz x.natAbs) a2 (sz z.natAbs) w) := by
 rcases Int.lt_or_le (E - E2 - e9) 0 with h | h
 ·obtain ⟨q, hq⟩ : ∃ q : Nat, E - E2 - e9 = -(q : Int) := ⟨(-(E - E2 - e9)).toNat, by omega⟩
  have := broughtD_ok x z E E2 e9 q w hA hA2 ⟨hs.1, hs.2.1, by omega, hs.2.2.2.1, hs.2.2.2.2.1, hs.2.2.2.2.2⟩ ⟨hq, by omega⟩
  refine Calls.mono this fun e w' ⟨v, hv, a', c', h1, h2, h3, h4⟩ => ⟨v, hv, ?_⟩
  unfold BroR BX BZ
  rw [if_neg (by omega), if_neg (by omega), show (-(E - E2 - e9)).toNat = q by omega]
  exact ⟨_, _, _, _, h1, hA.ext h4, h2, .inr ⟨rfl, rfl⟩, .inl h3, h4⟩
 ·obtain ⟨q, hq⟩ : ∃ q : Nat, E - E2 - e9 = (q : Int) := ⟨(E - E2 - e9).toNat, by omega⟩
  have := broughtU_ok x z E E2 e9 q w hA hA2 ⟨hs.1, hs.2.1, by omega, hs.2.2.2.1, hs.2.2.2.2.1, hs.2.2.2.2.2⟩ hq
  refine Calls.mono this fun e w' ⟨v, hv, a', c', h1, h2, h3, h4⟩ => ⟨v, hv, ?_⟩
  unfold BroR BX BZ
  rw [if_pos h, if_pos h, show (E - E2 - e9).toNat = q by omega]
  exact ⟨_, _, _, _, h1, h2, hA2.ext h4, .inl h3, .inr ⟨rfl, rfl⟩, h4⟩
theorem iv_flip (up : Bool) (q : Int) : iv (if up = true then !(ng q) else ng q) q.natAbs = if up = true then -q else q := by
 cases up
 ·rw [if_neg (by decide), if_neg (by decide)]; exact iv_ng q
 ·rw [if_pos rfl, if_pos rfl, iv_not, iv_ng]
set_option maxRecDepth 100000 in
set_option maxHeartbeats 400000 in
theorem way_ok (up : Bool) (w : World) :
  Ret Tryz.prog 42 #[.bool up] w (fun v w' => (∃ ub, v = .func (.func 76) #[] #[.pointer (some ⟨ub, 0, none⟩)] ∧ w'.cell? ⟨ub, 0, none⟩ = some (.bool up) ∧ w.heap.size ≤ ub) ∧ Ext w w') := by
 refine enter (S := No) (l := [_]) (L := []) 4 Tryz.func42 rfl rfl rfl (St.start w No) ?_; refine yA ?_; refine w_box rfl (fun q gq uq => ?_)
 refine za rfl ?_; refine yC ?_; refine w_r (fun _ => R_makeFunc) rfl rfl ?_; refine za rfl ?_; refine yB ?_; refine ze ?_; refine zo rfl rfl rfl ?_; exact fun w' hw => ⟨⟨q, rfl, (by have := hw.at_ 0 rfl; simp only [World.cell?, this]; rfl), uq _ (.head _)⟩, hw.fr (w, No) (.head _)⟩
set_option maxRecDepth 100000 in
set_option maxHeartbeats 400000 in
theorem wayT_ok (x z : Int) (ub : Nat) {a : Option Addr} {c : Nat} {a2 : Option Addr} {c2 : Nat} (w : World) (hA : Nm w a (sz x.natAbs) c x.natAbs) (hA2 : Nm w a2 (sz z.natAbs) c2 z.natAbs) (hs : sz x.natAbs ≤ 2000 ∧ sz z.natAbs ≤ 2000 ∧ z ≠ 0) (hu : w.cell? ⟨ub, 0, none⟩ = some (.bool true)) :
  Ret Tryz.prog 76 #[.agg #[.bool (ng x), .slice a (sz (x).natAbs) c], .agg #[.bool (ng z), .slice a2 (sz (z).natAbs) c2], .pointer (some ⟨ub, 0, none⟩)] w (Tel (fun a c => .tuple #[.agg #[.bool (!ng (fl (iv (!ng x) x.natAbs) (iv (ng z) z.natAbs))), .slice a (sz (fl (iv (!ng x) x.natAbs) (iv (ng z) z.natAbs)).natAbs) c], .int .i64 0]) (sz (fl (iv (!ng x) x.natAbs) (iv (ng z) z.natAbs)).natAbs) (fl (iv (!ng x) x.natAbs) (iv (ng z) z.natAbs)).natAbs w) := by
 refine enter (S := No) (l := [_, _, _]) (L := []) 29 Tryz.func76 rfl rfl rfl (St.start w No) ?_; refine yA ?_; refine w_boxA rfl (fun p gp up => ?_)
 refine w_boxA rfl (fun p2 gp2 up2 => ?_)
 refine w_alloc zr25 (fun r gr ur => ?_)
 refine aI rfl ?_; refine yB ?_; refine zq ?_; refine yA ?_; refine zl (v := .bool true) z4 rfl (fun w1 h => h.oldc (.head _) hu) ?_; refine yB ?_; refine zE rfl ?_; refine zr ?_; refine zf fa25_0 rfl ?_; refine zl z4 rfl (fun _ h => zc 2 rfl rfl h) ?_; refine w_r (fun _ => R_not rfl) rfl rfl ?_; refine zf fa25_0 rfl ?_; refine w_store 2 rfl z4 rfl rfl rfl rfl rfl rfl rfl ?_; refine yC ?_; refine w_loadA z25 rfl (fun _ h => h.at_ 2 rfl) rfl ?_; refine w_loadA z25 rfl (fun _ h => h.at_ 1 rfl) rfl ?_
 refine w_tel2 (fun w => zR Tryz.func77 rfl rfl rfl) rfl rfl (fun w h => zFloor_ok _ _ w ((Kn.old hA).at_ 0 rfl h) ((Kn.old hA2).at_ 0 rfl h) ⟨by omega, by omega, by omega, by omega, by omega⟩) (fun x4 a4 c4 a4' c4' hK4 hN4 hK4' hN4' => ?_)
 refine zm rfl ?_; refine w_r (fun _ => R_extract rfl rfl) rfl rfl ?_; refine w_r (fun _ => R_extract rfl rfl) rfl rfl ?_; refine w_r (fun _ => R_extract rfl rfl) rfl rfl ?_; refine w_alloc zr25 (fun b5 gb5 ub5 => ?_)
 refine w_alloc zr25 (fun b6 gb6 ub6 => ?_)
 refine w_store 1 rfl z25 rfl rfl rfl rfl rfl rfl rfl ?_; refine w_store 0 rfl z25 rfl rfl rfl rfl rfl rfl rfl ?_; refine aI rfl ?_; refine yB ?_; refine zq ?_; refine yA ?_; refine zl (v := .bool true) z4 rfl (fun w1 h => h.oldc (.tail _ (.head _)) hu) ?_; refine yB ?_; refine zE rfl ?_; refine zr ?_; refine zf fa25_0 rfl ?_; refine zl z4 rfl (fun _ h => zc 1 rfl rfl h) ?_; refine w_r (fun _ => R_not rfl) rfl rfl ?_; refine zf fa25_0 rfl ?_; refine w_store 1 rfl z4 rfl rfl rfl rfl rfl rfl rfl ?_; refine yC ?_; refine w_loadA z25 rfl (fun _ h => h.at_ 1 rfl) rfl ?_
 refine mI rfl ?_; refine w_store 2 rfl z25 rfl rfl rfl rfl rfl rfl rfl ?_; refine aI rfl ?_; refine yB ?_; refine ze ?_; refine r_fin (.inl rfl) rfl (.agg rfl rfl z25 (fun _ h => h.at_ 2 rfl) rfl (.tmp rfl rfl .nil)) ?_; exact fun w' hw => ⟨_, _, rfl, (hK4.at_ 0 rfl hw), (hN4 _ (.head _)), hw.fr (w, No) (.tail _ (.head _))⟩
set_option maxRecDepth 100000 in
set_option maxHeartbeats 400000 in
theorem wayF_ok (x z : Int) (ub : Nat) {a : Option Addr} {c : Nat} {a2 : Option Addr} {c2 : Nat} (w : World) (hA : Nm w a (sz x.natAbs) c x.natAbs) (hA2 : Nm w a2 (sz z.natAbs) c2 z.natAbs) (hs : sz x.natAbs ≤ 2000 ∧ sz z.natAbs ≤ 2000 ∧ z ≠ 0) (hu : w.cell? ⟨ub, 0, none⟩ = some (.bool false)) :
  Ret Tryz.prog 76 #[.agg #[.bool (ng x), .slice a (sz (x).natAbs) c], .agg #[.bool (ng z), .slice a2 (sz (z).natAbs) c2], .pointer (some ⟨ub, 0, none⟩)] w (Tel (fun a c => .tuple #[.agg #[.bool (ng (fl (iv (ng x) x.natAbs) (iv (ng z) z.natAbs))), .slice a (sz (fl (iv (ng x) x.natAbs) (iv (ng z) z.natAbs)).natAbs) c], .int .i64 0]) (sz (fl (iv (ng x) x.natAbs) (iv (ng z) z.natAbs)).natAbs) (fl (iv (ng x) x.natAbs) (iv (ng z) z.natAbs)).natAbs w) := by
 refine enter (S := No) (l := [_, _, _]) (L := []) 29 Tryz.func76 rfl rfl rfl (St.start w No) ?_; refine yA ?_; refine w_boxA rfl (fun p gp up => ?_)
 refine w_boxA rfl (fun p2 gp2 up2 => ?_)
 refine w_alloc zr25 (fun r gr ur => ?_)
 refine aI rfl ?_; refine yB ?_; refine zq ?_; refine yA ?_; refine zl (v := .bool false) z4 rfl (fun w1 h => h.oldc (.head _) hu) ?_; refine yB ?_; refine c_condF rfl ?_; refine zi ?_; refine zk ?_; refine yA ?_; refine w_loadA z25 rfl (fun _ h => h.at_ 2 rfl) rfl ?_; refine w_loadA z25 rfl (fun _ h => h.at_ 1 rfl) rfl ?_; refine w_tel2 (fun w => zR Tryz.func77 rfl rfl rfl) rfl rfl (fun w h => zFloor_ok _ _ w ((Kn.old hA).at_ 0 rfl h) ((Kn.old hA2).at_ 0 rfl h) ⟨by omega, by omega, by omega, by omega, by omega⟩) (fun x4 a4 c4 a4' c4' hK4 hN4 hK4' hN4' => ?_)
 refine zm rfl ?_; refine w_r (fun _ => R_extract rfl rfl) rfl rfl ?_; refine w_r (fun _ => R_extract rfl rfl) rfl rfl ?_; refine w_r (fun _ => R_extract rfl rfl) rfl rfl ?_; refine w_alloc zr25 (fun b5 gb5 ub5 => ?_)
 refine w_alloc zr25 (fun b6 gb6 ub6 => ?_)
 refine w_store 1 rfl z25 rfl rfl rfl rfl rfl rfl rfl ?_; refine w_store 0 rfl z25 rfl rfl rfl rfl rfl rfl rfl ?_; refine aI rfl ?_; refine yB ?_; refine zq ?_; refine yA ?_; refine zl (v := .bool false) z4 rfl (fun w1 h => h.oldc (.tail _ (.head _)) hu) ?_; refine yB ?_; refine c_condF rfl ?_; refine zi ?_; refine zk ?_; refine yA ?_; refine w_loadA z25 rfl (fun _ h => h.at_ 1 rfl) rfl ?_; refine mI rfl ?_; refine w_store 2 rfl z25 rfl rfl rfl rfl rfl rfl rfl ?_; refine aI rfl ?_; refine yB ?_; refine ze ?_; refine r_fin (.inl rfl) rfl (.agg rfl rfl z25 (fun _ h => h.at_ 2 rfl) rfl (.tmp rfl rfl .nil)) ?_; exact fun w' hw => ⟨_, _, rfl, (hK4.at_ 0 rfl hw), (hN4 _ (.head _)), hw.fr (w, No) (.tail _ (.head _))⟩
end Go.Proofs.YtoapegnngbhkbaaGreatDoor
end
