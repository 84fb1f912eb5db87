/- Layer 5, DyadRounds: at every two small dyadic numbers and every way, the law of rounding, quotients, scales and grids answers true. Part 5 of 10. -/
import Derived.Test.YtoapegnngbhkbaaGreatDoorR04
import Derived.Lib.ItoaNum
import Derived.Lib.AtoiAll
section
/- The plain part of the dyadic numbers: a quotient to some bits, as the program and as the document reckon it. -/
namespace Go.Num
/-- the sign of the divisor, given to the number -/
def adj (x y : Int) : Int := if ng y then -x else x
theorem adj_abs (x y : Int) : (adj x y).natAbs = x.natAbs := by unfold adj; split <;> simp
theorem adj_ne {x : Int} (h : x ≠ 0) (y : Int) : adj x y ≠ 0 := by
  have := adj_abs x y; omega
theorem adj_neg (x y : Int) : adj (-x) y = -adj x y := by unfold adj; split <;> simp
theorem adj_mul (x y : Int) (k : Nat) : adj (x * (2 ^ k : Nat)) y = adj x y * (2 ^ k : Nat) := by
  unfold adj; split
  · rw [Int.neg_mul]
  · rfl
theorem ng_mul {y : Int} (k : Nat) : ng (y * (2 ^ k : Nat)) = ng y := by
  have hp : (0 : Int) < ((2 ^ k : Nat) : Int) := Int.natCast_pos.2 (Nat.pow_pos (by decide))
  unfold ng
  refine decide_eq_decide.2 ⟨fun h => ?_, fun h => Int.mul_neg_of_neg_of_pos h hp⟩
  rcases Int.lt_or_le y 0 with h1 | h1
  · exact h1
  · have := Int.mul_nonneg h1 (Int.le_of_lt hp); omega
/-- integers that are brought to an exponent: their quotient, rounded down -/
theorem fl_up (x y : Int) (k : Nat) : fl (x * (2 ^ k : Nat)) y = qe (adj x y) y.natAbs k := by
  unfold qe
  rw [if_pos (Int.natCast_nonneg k), Int.toNat_natCast, ← adj_mul]
  rfl
theorem fl_low (x : Int) {y : Int} (k : Nat) : fl x (y * (2 ^ k : Nat)) = qe (adj x y) y.natAbs (-(k : Int)) := by
  have e : adj x (y * (2 ^ k : Nat)) = adj x y := by unfold adj; rw [ng_mul]
  have e2 : (y * (2 ^ k : Nat)).natAbs = y.natAbs * 2 ^ k := by rw [Int.natAbs_mul, Int.natAbs_natCast]
  show adj x (y * (2 ^ k : Nat)) / _ = _
  rw [e, e2]
  unfold qe
  rcases Nat.eq_zero_or_pos k with rfl | hk
  · rw [if_pos (by omega)]; simp
  · rw [if_neg (by omega), Int.neg_neg, Int.toNat_natCast]
/-- both at once -/
def br (x y k : Int) : Int := if 0 ≤ k then fl (x * (2 ^ k.toNat : Nat)) y else fl x (y * (2 ^ (-k).toNat : Nat))
theorem br_qe (x y k : Int) : br x y k = qe (adj x y) y.natAbs k := by
  unfold br
  split
  · rename_i h
    rw [fl_up, Int.toNat_of_nonneg h]
  · rename_i h
    rw [fl_low, Int.toNat_of_nonneg (by omega), Int.neg_neg]
/-- a divisor with a bit 0 more at its end -/
theorem qe_double (a : Int) (b : Nat) (k : Int) : qe a (2 * b) (k + 1) = qe a b k := by
  unfold qe
  rcases Int.lt_or_le k 0 with h | h
  · rw [if_neg (c := 0 ≤ k) (by omega)]
    rcases Int.lt_or_le (k + 1) 0 with h1 | h1
    · rw [if_neg (by omega), show (-k).toNat = (-(k + 1)).toNat + 1 by omega, Nat.pow_succ, Nat.mul_comm 2, Nat.mul_assoc, Nat.mul_comm 2]
    · have : k = -1 := by omega
      subst this
      rw [if_pos (by decide), show (-1 + 1 : Int).toNat = 0 from rfl, Nat.pow_zero, show (- -1 : Int).toNat = 1 from rfl, Nat.pow_one, Nat.mul_comm 2, show ((1 : Nat) : Int) = 1 from rfl, Int.mul_one]
  · rw [if_pos (by omega), if_pos h, show (k + 1).toNat = k.toNat + 1 by omega, Nat.pow_succ, Int.natCast_mul, ← Int.mul_assoc, Int.natCast_mul, Int.mul_comm _ ((2 : Nat) : Int)]
    exact Int.mul_ediv_mul_of_pos _ _ (by decide)
theorem qe_shift (a : Int) (b : Nat) (k : Int) : ∀ t : Nat, qe a (b * 2 ^ t) (k + t) = qe a b k
  | 0 => by simp
  | t + 1 => by
    rw [← qe_shift a b k t, Nat.pow_succ, ← Nat.mul_assoc, Nat.mul_comm _ 2, show k + ((t + 1 : Nat) : Int) = k + t + 1 by omega, qe_double]
theorem od_tz (n : Nat) : od n * 2 ^ tz n = n := by
  induction n using Nat.strongRecOn with
  | _ n ih =>
    rcases Nat.eq_zero_or_pos n with rfl | h
    · rw [od_zero, Nat.zero_mul]
    · rcases Nat.mod_two_eq_zero_or_one n with h0 | h0
      · have e : n = 2 * (n / 2) := by omega
        have := ih (n / 2) (by omega)
        rw [e, od_even, tz_even (by omega), Nat.pow_succ, ← Nat.mul_assoc, this, Nat.mul_comm]
      · rw [od_odd h0, tz_odd h0]; simp
theorem bl_mul {n : Nat} (h : n ≠ 0) (t : Nat) : bl (n * 2 ^ t) = bl n + t := by
  have h1 := bl_ge h
  have h2 := lt_bl n
  have hp := bl_pos h
  have hq : 0 < 2 ^ t := Nat.pow_pos (by decide)
  have := bl_eq (n := n * 2 ^ t) (k := bl n - 1 + t) (by rw [Nat.pow_add]; exact Nat.mul_le_mul_right _ h1) (by rw [show bl n - 1 + t + 1 = bl n + t by omega, Nat.pow_add]; exact Nat.mul_lt_mul_of_pos_right h2 hq)
  omega
/-- the tops of a number as it stands and of it, normal -/
theorem bl_od {n : Nat} (h : n ≠ 0) : bl n = bl (od n) + tz n := by
  have h1 := od_tz n
  have h2 : od n ≠ 0 := by rintro h0; rw [h0, Nat.zero_mul] at h1; exact h h1.symm
  rw [← bl_mul h2, h1]
/-- less a number -/
def nn (y : Int × Int) : Int × Int := (-y.1, y.2)
theorem nd_neg (x e : Int) : nd (-x) e = nn (nd x e) := by
  unfold nd nn
  by_cases h : x = 0
  · subst h; rfl
  · rw [if_neg (by omega), if_neg h, Int.natAbs_neg, Int.sign_neg, Int.neg_mul]
theorem nb_neg (x : Int) : nb (-x) = nb x := by unfold nb; rw [Int.natAbs_neg]
/-- a quotient to some bits, of numbers that are normal -/
def dv (a b : Int × Int) (p : Nat) (up : Bool) : Int × Int :=
  let s := adj a.1 b.1
  let f := a.2 - b.2
  let e0 := (bl a.1.natAbs : Int) + f - bl b.1.natAbs - p
  if up then nn (rd (-s) b.1.natAbs p f e0) else rd s b.1.natAbs p f e0
/-- the quotient at an exponent, rounded down or up -/
def qt (x y k : Int) (up : Bool) : Int := if up then -br (-x) y k else br x y k
section
variable {a b : Int × Int} {p : Nat} {up : Bool}
/-- the program's loop: at its first exponent, or at the next one -/
theorem dv_prog (hb : b.1 ≠ 0) (hp : 0 < p) {e0 : Int} (he : e0 = (bl a.1.natAbs : Int) + (a.2 - b.2) - bl b.1.natAbs - p) :
    (nb (qt a.1 b.1 (a.2 - b.2 - e0) up) ≤ p → nd (qt a.1 b.1 (a.2 - b.2 - e0) up) e0 = dv a b p up) ∧
    (¬nb (qt a.1 b.1 (a.2 - b.2 - e0) up) ≤ p → nb (qt a.1 b.1 (a.2 - b.2 - (e0 + 1)) up) ≤ p ∧ nd (qt a.1 b.1 (a.2 - b.2 - (e0 + 1)) up) (e0 + 1) = dv a b p up) := by
  have hb0 : 0 < b.1.natAbs := by omega
  unfold qt dv
  cases up
  · simp only [Bool.false_eq_true, if_false, br_qe]
    rw [← he]
    refine ⟨fun h => ?_, fun h => ⟨?_, ?_⟩⟩
    · unfold rd; rw [if_pos h]
    · exact rd_ends hb0 hp (by unfold e0is; rw [adj_abs]; exact he)
    · unfold rd; rw [if_neg h]
  · simp only [if_true, br_qe, nb_neg, nd_neg, adj_neg]
    rw [← he]
    refine ⟨fun h => ?_, fun h => ⟨?_, ?_⟩⟩
    · unfold rd; rw [if_pos h]
    · exact rd_ends hb0 hp (by unfold e0is; rw [Int.natAbs_neg, adj_abs]; exact he)
    · unfold rd; rw [if_neg h]
/-- what the document's loop looks at: a divisor as it stands -/
theorem br_norm {a : Int × Int} {y g : Int} (hy : y ≠ 0) (e : Int) :
    br a.1 y (a.2 - g - e) = qe (adj a.1 (nd y g).1) (nd y g).1.natAbs (a.2 - (nd y g).2 - e) := by
  have h0 : y.natAbs ≠ 0 := by omega
  have h1 := od_tz y.natAbs
  have h2 : (nd y g).1.natAbs = od y.natAbs := by
    unfold nd; rw [if_neg hy]
    show (y.sign * (od y.natAbs : Int)).natAbs = _
    rw [Int.natAbs_mul, Int.natAbs_natCast, Int.natAbs_sign_of_ne_zero hy, Nat.one_mul]
  have h3 : ng (nd y g).1 = ng y := by
    have ho : od y.natAbs ≠ 0 := by rintro h; rw [h, Nat.zero_mul] at h1; exact h0 h1.symm
    have ho' : (0 : Int) < (od y.natAbs : Int) := by omega
    unfold nd; rw [if_neg hy]
    show decide (y.sign * (od y.natAbs : Int) < 0) = decide (y < 0)
    refine decide_eq_decide.2 ?_
    rcases Int.lt_or_le y 0 with h | h
    · rw [Int.sign_eq_neg_one_iff_neg.2 h]; omega
    · rw [Int.sign_eq_one_iff_pos.2 (by omega)]; omega
  have h4 : (nd y g).2 = g + tz y.natAbs := by unfold nd; rw [if_neg hy]
  have h5 : adj a.1 (nd y g).1 = adj a.1 y := by unfold adj; rw [h3]
  rw [br_qe, h2, h4, h5]
  have h6 := qe_shift (adj a.1 y) (od y.natAbs) (a.2 - (g + tz y.natAbs) - e) (tz y.natAbs)
  rw [h1] at h6
  rw [← h6]
  congr 1
  omega
theorem nd_ne {y g : Int} (hy : y ≠ 0) : (nd y g).1 ≠ 0 := by
  have h1 := od_tz y.natAbs
  have ho : od y.natAbs ≠ 0 := by rintro h; rw [h, Nat.zero_mul] at h1; omega
  unfold nd; rw [if_neg hy]
  exact Int.mul_ne_zero (by rw [ne_eq, Int.sign_eq_zero_iff_zero]; exact hy) (by omega)
theorem nd_top {y g : Int} (hy : y ≠ 0) : (bl (nd y g).1.natAbs : Int) + (nd y g).2 = bl y.natAbs + g := by
  have h2 : (nd y g).1.natAbs = od y.natAbs := by
    unfold nd; rw [if_neg hy]
    show (y.sign * (od y.natAbs : Int)).natAbs = _
    rw [Int.natAbs_mul, Int.natAbs_natCast, Int.natAbs_sign_of_ne_zero hy, Nat.one_mul]
  have h4 : (nd y g).2 = g + tz y.natAbs := by unfold nd; rw [if_neg hy]
  have h5 := bl_od (n := y.natAbs) (by omega)
  rw [h2, h4, h5]; omega
/-- the document's loop: it begins two exponents below -/
theorem dv_ref (ha : a.1 ≠ 0) {y g : Int} (hy : y ≠ 0) (hp : 0 < p) {e0 : Int} (he : e0 = (bl a.1.natAbs : Int) + a.2 - (bl y.natAbs + g) - p) {q : Int → Int} (hq : ∀ e, q e = br a.1 y (a.2 - g - e)) :
    (nb (q (e0 - 2)) ≤ p → nd (q (e0 - 2)) (e0 - 2) = dv a (nd y g) p false) ∧
    (nb (q (e0 - 1)) ≤ p → nd (q (e0 - 1)) (e0 - 1) = dv a (nd y g) p false) ∧
    (nb (q e0) ≤ p → nd (q e0) e0 = dv a (nd y g) p false) ∧
    (¬nb (q e0) ≤ p → nb (q (e0 + 1)) ≤ p ∧ nd (q (e0 + 1)) (e0 + 1) = dv a (nd y g) p false) := by
  have hb0 : 0 < (nd y g).1.natAbs := by have := nd_ne (g := g) hy; omega
  have hs := adj_ne ha (nd y g).1
  have ht := nd_top (g := g) hy
  have he' : e0 = (bl a.1.natAbs : Int) + (a.2 - (nd y g).2) - bl (nd y g).1.natAbs - p := by omega
  have hi : e0is (adj a.1 (nd y g).1) (nd y g).1.natAbs p (a.2 - (nd y g).2) e0 := by unfold e0is; rw [adj_abs]; exact he'
  have hd : dv a (nd y g) p false = rd (adj a.1 (nd y g).1) (nd y g).1.natAbs p (a.2 - (nd y g).2) e0 := by
    unfold dv
    simp only [Bool.false_eq_true, if_false]
    rw [← he']
  simp only [hq, br_norm hy, hd]
  refine ⟨fun h => ?_, fun h => ?_, fun h => ?_, fun h => ⟨?_, ?_⟩⟩
  · rw [rd_low hs hb0 hi, if_pos h]
  · obtain ⟨h1, h2⟩ := rd_skip1 hs hb0 hi h
    rw [h1]; unfold rd; rw [if_pos h2]
  · unfold rd; rw [if_pos h]
  · exact rd_ends hb0 hp hi
  · unfold rd; rw [if_neg h]
/-- rounding up is rounding down the other way round -/
theorem dv_up : nn (dv (nn a) b p false) = dv a b p true := by
  unfold dv nn
  simp only [Bool.false_eq_true, if_false, if_true, adj_neg, Int.natAbs_neg]
end
end Go.Num
end
section
namespace Go.Proofs.YtoapegnngbhkbaaGreatDoor
open Go.RowKit Go.Sx
open Go.Num
theorem norm_shift {m : Nat} (hm : m ≠ 0) : 64 - bl (dg Go.Num.B m (sz m - 1)) < 64 ∧ bl (m * 2 ^ (64 - bl (dg Go.Num.B m (sz m - 1)))) = 64 * sz m ∧ sz (m * 2 ^ (64 - bl (dg Go.Num.B m (sz m - 1)))) = sz m := by
 have ht := top_ne hm
 have h1 := bl_pos ht
 have h2 : bl (dg Go.Num.B m (sz m - 1)) ≤ 64 := bl_iff.2 (by rw [← B_two]; exact dg_lt B_pos _ _)
 have h3 := bl_limb hm
 have h4 := sz_pos hm
 have h5 := bl_mul hm (64 - bl (dg Go.Num.B m (sz m - 1)))
 refine ⟨by omega, by omega, ?_⟩
 generalize m * 2 ^ (64 - bl (dg Go.Num.B m (sz m - 1))) = V at *
 unfold sz at *
 omega
theorem div_init {n m s : Nat} (hs : s < 64) (hb : bl (m * 2 ^ s) = 64 * sz m) (hm : m ≠ 0) (hmn : m ≤ n) : n * 2 ^ s < m * 2 ^ s * Go.Num.B ^ (sz n + 1 - sz m) := by
 have hsm := sz_mono hmn
 have hV0 : m * 2 ^ s ≠ 0 := Nat.mul_ne_zero hm (Nat.pos_iff_ne_zero.1 (Nat.pow_pos (by decide)))
 have hV := bl_ge hV0
 rw [hb] at hV
 have h1 : n * 2 ^ s < Go.Num.B ^ sz n * 2 ^ s := Nat.mul_lt_mul_of_pos_right (lt_sz n) (Nat.pow_pos (by decide))
 have hp := sz_pos hm
 have h2 : Go.Num.B ^ sz n * 2 ^ s ≤ 2 ^ (64 * sz m - 1) * Go.Num.B ^ (sz n + 1 - sz m) := by
  rw [B_pow, B_pow, ← Nat.pow_add, ← Nat.pow_add]
  exact Nat.pow_le_pow_right (by decide) (by omega)
 exact Nat.lt_of_lt_of_le h1 (Nat.le_trans h2 (Nat.mul_le_mul_right _ hV))
theorem div_digit {U V j : Nat} (hU : U < V * Go.Num.B ^ (j + 1)) (hV : V < Go.Num.B ^ sz V) : U < Go.Num.B ^ (j + sz V + 1) ∧ U / Go.Num.B ^ j < Go.Num.B ^ (sz V + 1) := by
 have h1 : U < Go.Num.B ^ (j + sz V + 1) := by
  refine Nat.lt_of_lt_of_le hU (Nat.le_trans (Nat.mul_le_mul_right _ (Nat.le_of_lt hV)) ?_)
  rw [← Nat.pow_add]; exact Nat.pow_le_pow_right B_pos (by omega)
 refine ⟨h1, ?_⟩
 rw [Nat.div_lt_iff_lt_mul (Bpow_pos j), ← Nat.pow_add]
 exact Nat.lt_of_lt_of_le h1 (Nat.pow_le_pow_right B_pos (by omega))
theorem div_put {Z j g : Nat} (hZ : Z % Go.Num.B ^ (j + 1) = 0) (hg : g < Go.Num.B) : setd Go.Num.B Z j g = Z + Go.Num.B ^ j * g ∧ (Z + Go.Num.B ^ j * g) % Go.Num.B ^ j = 0 := by
 have h0 : dg Go.Num.B Z j = 0 := by rw [← dg_mod B_pos (Nat.lt_succ_self j), hZ, dg_zero]
 refine ⟨setd_zero h0, ?_⟩
 have h1 : Z % Go.Num.B ^ j = 0 := by
  have := Nat.mod_mod_of_dvd Z (Nat.pow_dvd_pow Go.Num.B (Nat.le_succ j))
  rw [← this, hZ, Nat.zero_mod]
 rw [Nat.add_mul_mod_self_left, h1]
theorem div_step9 {N Z U V j g : Nat} (hE : N = Z * V + U) (hk : U = U / Go.Num.B ^ j / V * Go.Num.B ^ j * V + (U % Go.Num.B ^ j + Go.Num.B ^ j * (U / Go.Num.B ^ j % V))) (hg : g = U / Go.Num.B ^ j / V) :
  N = (Z + Go.Num.B ^ j * g) * V + (U % Go.Num.B ^ j + Go.Num.B ^ j * (U / Go.Num.B ^ j % V)) := by
 rw [hE, hg, Nat.add_mul, Nat.mul_comm (Go.Num.B ^ j)]
 omega
theorem sz_le_of {n k : Nat} (h : n < Go.Num.B ^ k) : sz n ≤ k := sz_iff.2 h
theorem times_lt {V g : Nat} (hg : g < Go.Num.B) : sz (V * g) ≤ sz V + 1 := by
 refine sz_iff.2 ?_
 rw [Nat.pow_succ]
 rcases Nat.eq_zero_or_pos g with h0 | h0
 ·subst h0; rw [Nat.mul_zero]; exact Nat.mul_pos (Bpow_pos _) B_pos
 ·exact Nat.lt_of_lt_of_le (Nat.mul_lt_mul_of_pos_right (lt_sz V) h0) (Nat.mul_le_mul_left _ (Nat.le_of_lt hg))
set_option maxRecDepth 100000 in
set_option maxHeartbeats 1000000 in
theorem Div_ok {a a2 : Option Addr} {k c k2 c2 n m : Nat} (w : World) (hA : Nm w a k c n) (hB : Nm w a2 k2 c2 m) (hs : k ≤ 1000000 ∧ k2 ≤ 1000000 ∧ sz n ≤ 2047 ∧ sz m ≤ 2047 ∧ m ≠ 0) :
  Ret Tryz.prog 107 #[.slice a k c, .slice a2 k2 c2] w (Tel2 (fun a c a2 c2 => .tuple #[.slice a (sz (n / m)) c, .slice a2 (sz (n % m)) c2, .int .i64 0]) (sz (n / m)) (n / m) (sz (n % m)) (n % m) w) := by
 have hdq := sz_mono (Nat.div_le_self n m); have hdr : sz (n % m) ≤ sz m := sz_mono (Nat.le_of_lt (Nat.mod_lt _ (Nat.pos_of_ne_zero hs.2.2.2.2))); have hsm0 : sz m ≠ 0 := fun h => hs.2.2.2.2 (sz_eq_zero.1 h)
 refine enter (S := No) (l := [_, _]) (L := []) 149 Tryz.func107 rfl rfl rfl (St.start w No) ?_; refine yA ?_; refine za (v := .slice _ _ _) rfl ?_; refine za (v := .slice _ _ _) rfl ?_; refine aI rfl ?_; refine yB ?_; refine c_scope ?_; refine yA ?_; refine mS rfl ?_; refine w_tel (fun w => zR Tryz.func78 rfl rfl rfl) rfl rfl (fun w h => normal_ok w ((Kn.old hA).at_ 0 rfl h) (by omega)) (fun x1 a1 c1 hK1 hN1 => ?_)
 refine mS rfl ?_; refine w_tel (fun w => zR Tryz.func78 rfl rfl rfl) rfl rfl (fun w h => normal_ok w ((Kn.old hB).at_ 1 rfl h) (by omega)) (fun x2 a2 c2 hK2 hN2 => ?_)
 refine za (v := .slice _ _ _) rfl ?_; refine za (v := .slice _ _ _) rfl ?_; refine yB ?_; refine zq ?_; refine zB ?_; refine yA ?_; refine mS rfl ?_; refine mS rfl ?_; refine zS slt139 (by decide) rfl rfl (fun b3 gb3 ub3 => ?_)
 refine zC (fun w => zR Tryz.func88 rfl rfl rfl) rfl rfl (fun w h => long2_ok w (h.at_ 0 rfl) (hK1.at_ 1 rfl h) (hK2.at_ 0 rfl h) ⟨by omega, by omega⟩ ⟨by omega, by omega⟩) ?_; refine aB rfl ?_; refine yB ?_; refine c_condF rfl ?_; refine yA ?_; refine mS rfl ?_; refine w_r (fun _ => R_len sl23 rfl) rfl rfl ?_; refine w_r (fun _ => R_eqN (a := (sz m)) (b := 0) rfl rfl) rfl rfl ?_; refine aB rfl ?_; refine yB ?_; refine zD rfl (fun h4 => ?_) (fun h4 => ?_)
 ·exact absurd h4 hsm0
 ·refine yA ?_; refine mS rfl ?_; refine mS rfl ?_; refine zC (fun w => zR Tryz.func81 rfl rfl rfl) rfl rfl (fun w h => Cmp_ok w (hK1.at_ 1 rfl h) (hK2.at_ 0 rfl h) ⟨by omega, by omega⟩) ?_; refine w_r (fun _ => R_lt rfl rfl) rfl rfl ?_; refine aB rfl ?_; refine yB ?_; refine zD rfl (fun h5 => ?_) (fun h5 => ?_)
  ·have hlt := cmpN_lt.1 h5; have hq0 : n / m = 0 := Nat.div_eq_of_lt hlt; have hr0 : n % m = n := Nat.mod_eq_of_lt hlt
   refine yA ?_; refine mS rfl ?_; refine w_tel (fun w => zR Tryz.func105 rfl rfl rfl) rfl rfl (fun w h => told_ok w (hK1.at_ 1 rfl h) ⟨by omega, by omega⟩) (fun x6 a6 c6 hK6 hN6 => ?_)
   refine zm rfl ?_; refine w_r (fun _ => R_extract rfl rfl) rfl rfl ?_; refine w_r (fun _ => R_extract rfl rfl) rfl rfl ?_; refine za (v := .slice _ _ _) rfl ?_; refine aI rfl ?_; refine yC ?_; refine mS rfl ?_; refine mI rfl ?_; refine za (v := .slice _ _ _) rfl ?_; refine za (v := .slice _ _ _) rfl ?_; refine aI rfl ?_; refine yB ?_; refine ze ?_; refine zb (zt (g_ret (?_)))
   rw [hq0, hr0]
   refine r_fin (.inl rfl) rfl (.tmp rfl rfl (.tmp rfl rfl (.tmp rfl rfl .nil))) ?_; exact fun w' hw => ⟨_, _, _, _, rfl, Nm.nil _, (hK6.at_ 0 rfl hw), Fsh.nil _ _, (hN6 _ (.tail _ (.tail _ (.head _)))), hw.fr (w, No) (.tail _ (.tail _ (.tail _ (.head _))))⟩
  ·have hmn : m ≤ n := Nat.le_of_not_lt fun h => h5 (cmpN_lt.2 h); have hsmn := sz_mono hmn
   refine yA ?_; refine mS rfl ?_; refine w_r (fun _ => R_len sl23 rfl) rfl rfl ?_; refine w_r (fun _ => R_eqN (a := (sz m)) (b := 1) rfl rfl) rfl rfl ?_; refine aB rfl ?_; refine yB ?_; refine zD rfl (fun h7 => ?_) (fun h7 => ?_)
   ·have hm1 : m < Go.Num.B ^ 1 := sz_iff.1 (Nat.le_of_eq h7); rw [Nat.pow_one] at hm1; have hmd : dg Go.Num.B m 0 = m := dg_self hm1
    refine yA ?_; refine mS rfl ?_; refine mS rfl ?_; refine w_r (fun _ => R_iaK (i := 0) sl23 rfl (hK2.ptr (by omega)) rfl (by omega)) rfl rfl ?_; refine zl (v := .int .u64 ((dg Go.Num.B m 0) : Nat)) z66 rfl (fun w h => hK2.ca 0 rfl (by omega) h) ?_
    rw [hmd]
    refine w_tel (fun w => zR Tryz.func89 rfl rfl rfl) rfl rfl (fun w h => small_ok w (hK1.at_ 1 rfl h) ⟨by omega, hm1⟩ (by omega)) (fun x8 a8 c8 hK8 hN8 => ?_)
    refine zm rfl ?_; refine w_r (fun _ => R_extract rfl rfl) rfl rfl ?_; refine w_r (fun _ => R_extract rfl rfl) rfl rfl ?_; refine za (v := .slice _ _ _) rfl ?_; refine aI rfl ?_; refine yC ?_; refine mS rfl ?_; refine w_tel (fun w => zR Tryz.func105 rfl rfl rfl) rfl rfl (fun w h => told_ok w (hK8.at_ 0 rfl h) ⟨by omega, by omega⟩) (fun x9 a9 c9 hK9 hN9 => ?_)
    refine zm rfl ?_; refine w_r (fun _ => R_extract rfl rfl) rfl rfl ?_; refine w_r (fun _ => R_extract rfl rfl) rfl rfl ?_; refine za (v := .slice _ _ _) rfl ?_; refine aI rfl ?_; refine yC ?_; refine mS rfl ?_; refine mI rfl ?_; refine w_tel (fun w => zR Tryz.func83 rfl rfl rfl) rfl rfl (fun w h => Of_ok (s := (n % m)) w (Nat.lt_trans (Nat.mod_lt _ (by omega)) hm1)) (fun x10 a10 c10 hK10 hN10 => ?_)
    refine mI rfl ?_; refine za (v := .slice _ _ _) rfl ?_; refine za (v := .slice _ _ _) rfl ?_; refine aI rfl ?_; refine yB ?_; refine ze ?_; refine zb (zt (g_ret (?_)))
    refine r_fin (.inl rfl) rfl (.tmp rfl rfl (.tmp rfl rfl (.tmp rfl rfl .nil))) ?_; exact fun w' hw => ⟨_, _, _, _, rfl, (hK9.at_ 1 rfl hw), (hK10.at_ 0 rfl hw), (hN9 _ (.tail _ (.tail _ (.tail _ (.head _))))), (hN10 _ (.tail _ (.tail _ (.tail _ (.tail _ (.head _)))))), hw.fr (w, No) (.tail _ (.tail _ (.tail _ (.tail _ (.tail _ (.head _))))))⟩
   ·refine zi ?_; refine b_on (zk ?_)
    refine c_st (B' := _) (L' := []) (fun w h => h.drop (List.nil_sublist _)) ?_
    have hnsh := norm_shift hs.2.2.2.2
    refine c_cut (fun e B L => ∃ (s : Nat), e 0 = .slice a1 (sz n) c1 ∧ e 1 = .slice a2 (sz m) c2 ∧ e 9 = .int .i64 (s : Nat) ∧ B = [x2, x1, (w, No)] ∧ L = [] ∧ s < 64 ∧ bl (m * 2 ^ s) = 64 * sz m ∧ sz (m * 2 ^ s) = sz m) ?_ ?_
    ·refine zr ?_; refine mS rfl ?_; refine mS rfl ?_; refine w_r (fun _ => R_len sl23 rfl) rfl rfl ?_; refine w_r (fun _ => R_subN (n := (sz m)) (b := 1) rfl rfl (by omega) (by omega)) rfl rfl ?_; refine w_r (fun _ => R_iaK (i := ((sz m) - 1)) sl23 rfl (hK2.ptr (by omega)) rfl (by omega)) rfl rfl ?_; refine zl (v := .int .u64 ((dg Go.Num.B m ((sz m) - 1)) : Nat)) z66 rfl (fun w h => hK2.ca 0 rfl (by omega) h) ?_; refine zC (fun w => zR Tryz.func137 rfl rfl rfl) rfl rfl (fun w h => LZ64_ok _ w (dg_lt B_pos _ _)) ?_; refine aI rfl ?_; refine zn ?_; exact k_mid ⟨_, rfl, rfl, rfl, rfl, rfl, hnsh.1, hnsh.2.1, hnsh.2.2⟩
    rintro e B L ⟨s, e0_1, e1_1, e9_1, rfl, rfl, hs64, hblV, hszV⟩
    have hVne : m * 2 ^ s ≠ 0 := Nat.mul_ne_zero hs.2.2.2.2 (Nat.pos_iff_ne_zero.1 (Nat.pow_pos (by decide))); have hV0 : 0 < m * 2 ^ s := Nat.pos_of_ne_zero hVne; have hVt := Nat.pos_of_ne_zero (top_ne hVne)
    refine yA ?_; refine mS e0_1 ?_; refine mI e9_1 ?_; refine w_callW (fun w => zR Tryz.func106 rfl rfl rfl) rfl rfl (fun w h => shift_ok w (hK1.at_ 1 rfl h) (by omega) (by omega)) ?_
    rintro uub Wuub ⟨ub, rfl, rfl⟩
    refine mS e1_1 ?_; refine mI e9_1 ?_; refine w_callW (fun w => zR Tryz.func106 rfl rfl rfl) rfl rfl (fun w h => shift_ok w (hK2.at_ 0 rfl h) (by omega) (by omega)) ?_
    rintro uvb Wuvb ⟨vb, rfl, rfl⟩
    refine w_tel (fun w => zR Tryz.func78 rfl rfl rfl) rfl rfl (fun w h => normal_ok w (Nm.own 0 rfl (shift_lt2 (lt_sz m) (by omega)) (Nat.le_refl _) h) (by omega)) (fun xv av cv hKv hNv => ?_)
    refine za (v := .slice _ _ _) rfl ?_; refine za (v := .slice _ _ _) rfl ?_; refine yC ?_; refine mS rfl ?_; refine w_r (fun _ => R_len sl23 rfl) rfl rfl ?_; refine aI rfl ?_; refine yC ?_; refine mS rfl ?_; refine w_r (fun _ => R_len sl23 rfl) rfl rfl ?_; refine mI rfl ?_; refine w_r (fun _ => R_subN (n := ((sz n) + 1)) (b := (sz (m * 2 ^ s))) rfl rfl (by omega) (by omega)) rfl rfl ?_; refine w_makeU (n := (((sz n) + 1) - (sz (m * 2 ^ s)))) slt23 rfl rfl (by omega) (by omega) (fun ob gob uob => ?_)
    refine za (v := .slice _ _ _) rfl ?_; refine yB ?_; refine zq ?_; refine c_label ?_; refine zk ?_; refine zq ?_; refine yA ?_; refine mS rfl ?_; refine w_r (fun _ => R_len sl23 rfl) rfl rfl ?_; refine w_r (fun _ => R_subN (n := ((sz n) + 1)) (b := 1) rfl rfl (by omega) (by omega)) rfl rfl ?_; refine aI rfl ?_; refine yB ?_; refine zB ?_; refine c_st (B' := _) (L' := [(ob, cel (lmV 0 (sz n + 1 - sz (m * 2 ^ s))) 66), (ub, cel (lmV (n * 2 ^ s) (sz n + 1)) 66)]) (fun w h => h.pick [0, 2] (by decide)) ?_
    refine c_loop (fun m9 e B L => ∃ (U Z j : Nat), e 9 = .int .i64 (s : Nat) ∧ e 10 = .slice (some ⟨ub, 0, none⟩) (sz n + 1) (sz n + 1) ∧ e 11 = .slice av (sz (m * 2 ^ s)) cv ∧ e 12 = .int .i64 (sz (m * 2 ^ s) : Nat) ∧ e 4 = .slice (some ⟨ob, 0, none⟩) (sz n + 1 - sz (m * 2 ^ s)) (sz n + 1 - sz (m * 2 ^ s)) ∧ e 13 = .int .i64 (j + sz (m * 2 ^ s) - 1 : Nat) ∧ B = [xv, x2, x1, (w, No)] ∧ L = [(ob, cel (lmV Z (sz n + 1 - sz (m * 2 ^ s))) 66), (ub, cel (lmV U (sz n + 1)) 66)] ∧ j + (sz (m * 2 ^ s)) ≤ sz n + 1 ∧ U < (m * 2 ^ s) * Go.Num.B ^ j ∧ n * 2 ^ s = Z * (m * 2 ^ s) + U ∧ Z % Go.Num.B ^ j = 0 ∧ Z < Go.Num.B ^ (sz n + 1 - sz (m * 2 ^ s)) ∧ U < Go.Num.B ^ (sz n + 1) ∧ m9 = j + 1) _ ⟨(n * 2 ^ s), 0, (sz n + 1 - sz (m * 2 ^ s)), e9_1, rfl, rfl, rfl, rfl, (congrArg (fun z : Nat => Value.int .i64 (z : Int)) (by omega)), rfl, rfl, by omega, by rw [hszV]; exact div_init hs64 hblV hs.2.2.2.2 hmn, by rw [Nat.zero_mul, Nat.zero_add], Nat.zero_mod _, Bpow_pos _, shift_lt2 (lt_sz n) (by omega), rfl⟩ ?_
    rintro m9 e B L ⟨U, Z, j, e9_2, e10_2, e11_2, e12_2, e4_2, e13_2, rfl, rfl, hj, hU, hE, hZ, hZl, hUK, rfl⟩
    refine zq ?_; refine yA ?_; refine mI e13_2 ?_; refine mI e12_2 ?_; refine w_r (fun _ => R_geN (a := (j + (sz (m * 2 ^ s)) - 1)) (b := (sz (m * 2 ^ s))) rfl rfl) rfl rfl ?_; refine yB ?_; refine zD rfl (fun h12 => ?_) (fun h12 => ?_)
    ·obtain ⟨j, rfl⟩ : ∃ i, j = i + 1 := ⟨j - 1, by omega⟩; have ejq : e 13 = .int .i64 ((j + (sz (m * 2 ^ s)) : Nat) : Int) := e13_2.trans (congrArg (fun z : Nat => Value.int .i64 (z : Int)) (by omega)); have hk := knuth_step B_pos hV0 hU; obtain ⟨hUl, hUp⟩ := div_digit hU (lt_sz _)
     refine zi ?_; refine zk ?_; refine zq ?_; refine zB ?_; refine zq ?_; refine c_heldS mixed ?_; refine zh (v := .slice _ _ _) 0 rfl (by kernel_rfl) rfl rfl (fun w h => h) (fun w h => R_move e10_2) ?_; refine zh (v := .slice _ _ _) 1 rfl (by kernel_rfl) rfl rfl (fun w h => h) (fun w h => R_move e11_2) ?_; refine zh (v := .int _ _) 2 rfl (by kernel_rfl) rfl rfl (fun w h => h) (fun w h => R_move e12_2) ?_; refine zh 3 rfl (by kernel_rfl) rfl rfl (fun w h => h) (fun w h => R_subN (n := (sz (m * 2 ^ s))) (b := 1) rfl rfl (by omega) (by omega)) ?_; refine zh 4 rfl (by kernel_rfl) rfl rfl (fun w h => h) (fun w h => R_iaK (i := ((sz (m * 2 ^ s)) - 1)) sl23 rfl (hKv.ptr (by omega)) rfl (by omega)) ?_
     refine zh (v := .int .u64 ((dg Go.Num.B (m * 2 ^ s) ((sz (m * 2 ^ s)) - 1)) : Nat)) 5 rfl (by kernel_rfl) rfl rfl (fun w h => h) (fun w h => R_ld1 z66 rfl (hKv.ca 0 rfl (by omega) h)) ?_; refine zh (v := .slice _ _ _) 6 rfl (by kernel_rfl) rfl rfl (fun w h => h) (fun w h => R_move e11_2) ?_; refine zh (v := .int _ _) 7 rfl (by kernel_rfl) rfl rfl (fun w h => h) (fun w h => R_move e12_2) ?_; refine zh 8 rfl (by kernel_rfl) rfl rfl (fun w h => h) (fun w h => R_subN (n := (sz (m * 2 ^ s))) (b := 2) rfl rfl (by omega) (by omega)) ?_; refine zh 9 rfl (by kernel_rfl) rfl rfl (fun w h => h) (fun w h => R_iaK (i := ((sz (m * 2 ^ s)) - 2)) sl23 rfl (hKv.ptr (by omega)) rfl (by omega)) ?_
     refine zh (v := .int .u64 ((dg Go.Num.B (m * 2 ^ s) ((sz (m * 2 ^ s)) - 2)) : Nat)) 10 rfl (by kernel_rfl) rfl rfl (fun w h => h) (fun w h => R_ld1 z66 rfl (hKv.ca 0 rfl (by omega) h)) ?_; refine zh (v := .int _ _) 11 rfl (by kernel_rfl) rfl rfl (fun w h => h) (fun w h => R_move ejq) ?_; refine h_one 12 (by kernel_rfl) (fun w h => h) ?_; refine o_callE rfl (wn_none rfl) rfl (fun w => zR Tryz.func138 rfl rfl rfl) (fun w h => guess_ok (v := (m * 2 ^ s)) (k := (sz (m * 2 ^ s))) (i := j + (sz (m * 2 ^ s))) w (Nm.own 1 rfl hUK (Nat.le_refl _) h) ⟨by omega, by omega, by omega, by omega⟩ (lt_sz _) hVt hUl (by rw [Nat.add_sub_cancel]; exact hk.2.1)) ?_
     rintro _ ⟨g0, rfl, hg1, hg2⟩; rw [Nat.add_sub_cancel] at hg1
     refine zh (v := .int _ _) 13 rfl (by kernel_rfl) rfl rfl (fun w h => h) (fun w h => R_assign rfl) ?_; refine h_done (by kernel_rfl) (fun w h => h) ?_; refine zk ?_; refine zB ?_; refine c_loop (fun m9 e B L => ∃ (g : Nat), e 9 = .int .i64 (s : Nat) ∧ e 10 = .slice (some ⟨ub, 0, none⟩) (sz n + 1) (sz n + 1) ∧ e 11 = .slice av (sz (m * 2 ^ s)) cv ∧ e 12 = .int .i64 (sz (m * 2 ^ s) : Nat) ∧ e 4 = .slice (some ⟨ob, 0, none⟩) (sz n + 1 - sz (m * 2 ^ s)) (sz n + 1 - sz (m * 2 ^ s)) ∧ e 13 = .int .i64 (j + sz (m * 2 ^ s) : Nat) ∧ e 14 = .int .u64 (g : Nat) ∧ B = [xv, x2, x1, (w, No)] ∧ L = [(ob, cel (lmV Z (sz n + 1 - sz (m * 2 ^ s))) 66), (ub, cel (lmV U (sz n + 1)) 66)] ∧ U / Go.Num.B ^ j / (m * 2 ^ s) ≤ g ∧ g < Go.Num.B ∧ m9 = g + 1) _ ⟨g0, e9_2, e10_2, e11_2, e12_2, e4_2, ejq, rfl, rfl, rfl, hg1, hg2, rfl⟩ ?_
     rintro m9 e B L ⟨g, e9_3, e10_3, e11_3, e12_3, e4_3, e13_3, e14_3, rfl, rfl, hq, hgB, rfl⟩
     have htl := times_lt (V := (m * 2 ^ s)) hgB
     refine zB ?_; refine yA ?_; refine mS e11_3 ?_; refine mI e14_3 ?_; refine w_tel (fun w => zR Tryz.func139 rfl rfl rfl) rfl rfl (fun w h => times_ok w (hKv.at_ 0 rfl h) hgB (by omega)) (fun x13 a13 c13 hK13 hN13 => ?_)
     refine za (v := .slice _ _ _) rfl ?_; refine yC ?_; refine mS e10_3 ?_; refine mI e13_3 ?_; refine mI e12_3 ?_; refine w_r (fun _ => R_subN (n := (j + (sz (m * 2 ^ s)))) (b := (sz (m * 2 ^ s))) rfl rfl (by omega) (by omega)) rfl rfl ?_; refine mI e13_3 ?_; refine w_r (fun _ => R_addN (n := (j + (sz (m * 2 ^ s)))) (b := 1) rfl rfl (by omega)) rfl rfl ?_; refine w_r (fun _ => R_segN (l := j) (h := j + (sz (m * 2 ^ s)) + 1) sl23 rfl (congrArg (fun z : Nat => Value.int .i64 (z : Int)) (show (((j + (sz (m * 2 ^ s))) - (sz (m * 2 ^ s))) : Nat) = j by omega)) (congrArg (fun z : Nat => Value.int .i64 (z : Int)) (show (((j + (sz (m * 2 ^ s))) + 1) : Nat) = (j + (sz (m * 2 ^ s)) + 1) by omega)) (by omega) (by omega)) rfl rfl ?_
     refine za (v := .slice _ _ _) rfl ?_; refine yB ?_; refine zq ?_; refine yA ?_; refine mS rfl ?_; refine mS rfl ?_; refine zC (fun w => zR Tryz.func81 rfl rfl rfl) rfl rfl (fun w h => Cmp_ok w (hK13.at_ 0 rfl h) ((Nm.own 1 rfl hUK (Nat.le_refl _) h).seg (j := j) (q := j + (sz (m * 2 ^ s)) + 1 - j) (by omega) (by rw [show j + (j + (sz (m * 2 ^ s)) + 1 - j) = j + (sz (m * 2 ^ s)) + 1 by omega]; exact hUl) (by omega)) ⟨by omega, by omega⟩) ?_; refine w_r (fun _ => R_le rfl rfl) rfl rfl ?_; refine yB ?_; refine zD rfl (fun h14 => ?_) (fun h14 => ?_)
     ·have hle := cmpN_le.1 h14; have hgq := digit_eq hV0 hq (by rw [Nat.mul_comm]; exact hle); have hrest : U / Go.Num.B ^ j - (m * 2 ^ s) * g = U / Go.Num.B ^ j % (m * 2 ^ s) := (by have := Nat.div_add_mod (U / Go.Num.B ^ j) (m * 2 ^ s); rw [← hgq] at this; omega); have hsr : sz (U / Go.Num.B ^ j - (m * 2 ^ s) * g) ≤ j + (sz (m * 2 ^ s)) + 1 - j := (by have := sz_mono (Nat.sub_le (U / Go.Num.B ^ j) ((m * 2 ^ s) * g)); have := sz_le_of hUp; omega); have hdp := div_put hZ hgB; have hZl2 : Z + Go.Num.B ^ j * g < Go.Num.B ^ (sz n + 1 - sz (m * 2 ^ s)) := (by rw [← hdp.1]; exact setd_lt B_pos hgB hZl (by omega)); have hUK2 : U % Go.Num.B ^ j + Go.Num.B ^ j * (U / Go.Num.B ^ j % (m * 2 ^ s)) < Go.Num.B ^ (sz n + 1) := (by have := hk.2.2.2; omega)
      refine yA ?_; refine mS rfl ?_; refine mS rfl ?_; refine w_tel (fun w => zR Tryz.func140 rfl rfl rfl) rfl rfl (fun w h => less_ok w ((Nm.own 1 rfl hUK (Nat.le_refl _) h).seg (j := j) (q := j + (sz (m * 2 ^ s)) + 1 - j) (by omega) (by rw [show j + (j + (sz (m * 2 ^ s)) + 1 - j) = j + (sz (m * 2 ^ s)) + 1 by omega]; exact hUl) (by omega)) (hK13.at_ 0 rfl h) ⟨by omega, by omega⟩ hle) (fun x15 a15 c15 hK15 hN15 => ?_)
      refine za (v := .slice _ _ _) rfl ?_; refine yC ?_; refine mS rfl ?_; refine w_clearU (k := (sz n + 1)) (z := U) (j := j) (q := j + (sz (m * 2 ^ s)) + 1 - j) 1 rfl slt23 rfl (by omega) (by omega) (by rw [show j + (j + (sz (m * 2 ^ s)) + 1 - j) = j + (sz (m * 2 ^ s)) + 1 by omega]; exact hUl) ?_; refine yC ?_; refine mS rfl ?_; refine mS rfl ?_; refine w_copyU (k := (sz n + 1)) (z := U % Go.Num.B ^ j) (j := j) (q := j + (sz (m * 2 ^ s)) + 1 - j) 1 rfl slt23 rfl (by omega) (Nat.mod_lt _ (Bpow_pos j)) rfl (fun w h => (hK15.at_ 0 rfl h)) hsr ?_
      refine yC ?_; refine mS e4_3 ?_; refine mI e13_3 ?_; refine mI e12_3 ?_; refine w_r (fun _ => R_subN (n := (j + (sz (m * 2 ^ s)))) (b := (sz (m * 2 ^ s))) rfl rfl (by omega) (by omega)) rfl rfl ?_; refine mI e14_3 ?_; refine w_r (fun _ => R_iaN (i := j) sl23 rfl (congrArg (fun z : Nat => Value.int .i64 (z : Int)) (show (((j + (sz (m * 2 ^ s))) - (sz (m * 2 ^ s))) : Nat) = j by omega)) (by omega)) rfl rfl ?_; refine w_putU (dv := g) (z' := (Z + Go.Num.B ^ j * g)) (j := j) 0 rfl z66 rfl rfl (by exact hgB) (by omega) (hdp.1) ?_; refine yB ?_; refine c_exit ?_; refine zx (b_past rfl (zx (b_past rfl (b_here rfl (zk ?_))))); refine zr ?_; refine mI e13_3 ?_
      refine w_r (fun _ => R_subN (n := (j + (sz (m * 2 ^ s)))) (b := 1) rfl rfl (by omega) (by omega)) rfl rfl ?_; refine aI rfl ?_; refine zn ?_
      rw [hrest]
      refine k_st (B' := [xv, x2, x1, (w, No)]) (L' := _) (fun w h => h.unbase (fun x hx => .tail _ (.tail _ hx))) ?_; exact k_again _ (by omega) ⟨_, (Z + Go.Num.B ^ j * g), j, e9_3, e10_3, e11_3, e12_3, e4_3, (congrArg (fun z : Nat => Value.int .i64 (z : Int)) (show j + (sz (m * 2 ^ s)) - 1 = j + (sz (m * 2 ^ s)) - 1 from rfl)), rfl, rfl, by omega, hk.2.2.1, div_step9 hE hk.2.2.2 hgq, hdp.2, hZl2, hUK2, rfl⟩
     ·have hlt2 : U / Go.Num.B ^ j / (m * 2 ^ s) < g := (Nat.div_lt_iff_lt_mul hV0).2 (by rw [Nat.mul_comm]; have := cmpN_le (n := (m * 2 ^ s) * g) (m := U / Go.Num.B ^ j); omega); have hg0 : 0 < g := Nat.lt_of_le_of_lt (Nat.zero_le _) hlt2
      refine zi ?_; refine zk ?_; refine zr ?_; refine mI e14_3 ?_; refine w_r (fun _ => R_subU (a := g) (b := 1) rfl rfl (by omega) (by omega)) rfl rfl ?_; refine aI rfl ?_; refine zn ?_; refine b_on (?_)
      refine k_st (B' := [xv, x2, x1, (w, No)]) (L' := _) (fun w h => h.unbase (fun x hx => .tail _ hx)) ?_; exact k_again _ (by omega) ⟨(g - 1), e9_3, e10_3, e11_3, e12_3, e4_3, e13_3, rfl, rfl, rfl, by omega, by omega, rfl⟩
    ·obtain rfl : j = 0 := (by omega); rw [Nat.pow_zero, Nat.mul_one] at hU; have hde := div_end hE hU; have hsd := shl_div n m s; rw [← hde.1, ← hde.2] at hsd; have hsU := sz_le_of hUK; have hsZ := sz_le_of hZl
     refine c_exit ?_; refine zx (zx (b_here rfl (zk ?_))); refine yA ?_; refine mS e10_2 ?_; refine mI e9_2 ?_; refine w_tel (fun w => zR Tryz.func75 rfl rfl rfl) rfl rfl (fun w h => Shr_ok w (Nm.own 1 rfl hUK (Nat.le_refl _) h) ⟨by omega, by omega, by omega⟩) (fun x16 a16 c16 hK16 hN16 => ?_)
     refine zm rfl ?_; refine w_r (fun _ => R_extract rfl rfl) rfl rfl ?_; refine w_r (fun _ => R_extract rfl rfl) rfl rfl ?_; refine za (v := .slice _ _ _) rfl ?_; refine yC ?_; refine mS e4_2 ?_; refine w_tel (fun w => zR Tryz.func105 rfl rfl rfl) rfl rfl (fun w h => told_ok w (Nm.own 0 rfl hZl (Nat.le_refl _) h) ⟨by omega, by omega⟩) (fun x17 a17 c17 hK17 hN17 => ?_)
     refine zm rfl ?_; refine w_r (fun _ => R_extract rfl rfl) rfl rfl ?_; refine w_r (fun _ => R_extract rfl rfl) rfl rfl ?_; refine za (v := .slice _ _ _) rfl ?_; refine aI rfl ?_; refine yC ?_; refine mS rfl ?_; refine mS rfl ?_; refine mI rfl ?_; refine za (v := .slice _ _ _) rfl ?_; refine za (v := .slice _ _ _) rfl ?_; refine aI rfl ?_; refine yB ?_; refine ze ?_; refine g_ret (?_)
     rw [← hsd.1, ← hsd.2]
     refine r_fin (.inl rfl) rfl (.tmp rfl rfl (.tmp rfl rfl (.tmp rfl rfl .nil))) ?_; exact fun w' hw => ⟨_, _, _, _, rfl, (hK17.at_ 0 rfl hw), (hK16.at_ 1 rfl hw), (hN17 _ (.tail _ (.tail _ (.tail _ (.tail _ (.head _)))))), (hN16 _ (.tail _ (.tail _ (.tail _ (.head _))))), hw.fr (w, No) (.tail _ (.tail _ (.tail _ (.tail _ (.tail _ (.head _))))))⟩
end Go.Proofs.YtoapegnngbhkbaaGreatDoor
end
section
/- Texts as rows of bytes. -/
namespace Go.Sx
open Go.RowKit Go.Num
def byV (l : List UInt8) : List Value := l.map fun c => .int .u8 (c.toNat : Nat)
theorem byV_len (l : List UInt8) : (byV l).length = l.length := by simp [byV]
theorem byV_at {l : List UInt8} {j : Nat} {u : UInt8} (h : l[j]? = some u) : (byV l)[j]? = some (.int .u8 (u.toNat : Nat)) := by simp [byV, h]
section
variable {P : Program} {ρ : Operand → Value} {D : Option Tmp} {g : Option (Nat × Bool)} {x y : Operand} {T t te : TypeId} {p : String} {ed : Array Edge} {bytes : Nat} {z : Value} {xs : List Value} {B : Base} {L : Heap} {w : World}
/-- append behind a row that is full -/
theorem app_full {b o n m b2 o2 c2 : Nat} {k : Nat} {news : List Value} (hT : slT P t te k bytes z) (hx : ρ x = .slice (some ⟨b, o, none⟩) n n) (hxl : xs.length = n * k) (hxs : ∀ (j : Nat) u, xs[j]? = some u → w.cell? ⟨b, o + j, none⟩ = some u)
    (hy : ρ y = .slice (some ⟨b2, o2, none⟩) m c2) (hl : news.length = m * k) (hnews : ∀ (j : Nat) u, news[j]? = some u → w.cell? ⟨b2, o2 + j, none⟩ = some u) (hm : 0 < m) (hn : n + m ≤ 100000000) (hby : bytes ≤ 1000) (hw : St B L w) :
    ∃ v' w' W', Run P ⟨D, .call ⟨.builtin .append, #[x, y], #[t, t]⟩, T, p, ed, g⟩ ρ w v' w' ∧ Own te k v' (xs ++ news) (n + m) W' ∧ St B (W' ++ L) w' := by
  obtain ⟨i, ht, hi, hsz, hb, hz, hzs⟩ := slT_spec hT
  subst hb; subst hsz
  have hge := grownCap_ge w (n + m) n te
  have ad : ∀ (q k j : Nat), (⟨q, k, none⟩ : Addr).add j = ⟨q, k + j, none⟩ := fun q k j => by unfold Addr.add; split <;> simp_all
  have hlen : (xs ++ news).length = (n + m) * i.size := by rw [List.length_append, hxl, hl, Nat.add_mul]
  have hr := run_append_grow (P := P) w t T te i z ht hi hz ⟨b, o, none⟩ n n xs hxl (fun j u hu => by rw [ad]; exact hxs j u hu) ⟨b2, o2, none⟩ m c2 news hl (fun j u hu => by rw [ad]; exact hnews j u hu) (by omega) (by omega) (growslice_fits (by omega) (Nat.le_trans (Nat.mul_le_mul hn hby) (by decide)))
  have hs := (hw.drawn (w.drawn + 1)).new (o := cel (xs ++ news ++ (Builtin.zeroCells z.cells (grownCap w (n + m) n te - (n + m))).toList) te)
  have e1 : (xs.toArray ++ news.toArray ++ Builtin.zeroCells z.cells (grownCap w (n + m) n te - (n + m)) : Array Value) = (xs ++ news ++ (Builtin.zeroCells z.cells (grownCap w (n + m) n te - (n + m))).toList).toArray := by simp
  rw [e1] at hr
  refine ⟨_, _, [(w.heap.size, _)], R_append hx hy hr, ⟨hlen, .inr ⟨w.heap.size, grownCap w (n + m) n te, _, rfl, hge, ?_, rfl⟩⟩, hs⟩
  rw [Array.length_toList, size_zeroCells, hzs]
/-- append(row[:n:n], u) -/
theorem app_cap (A : Heap) {W : Heap} {a : Option Addr} {n c0 b2 c2 : Nat} {u : Value} (hT : slT P t te 1 bytes z) (hv : Own te 1 (.slice a n c0) xs n W) (hx : ρ x = .slice a n n) (hy : ρ y = .slice (some ⟨b2, 0, none⟩) 1 c2) (hu : ∀ w, St B (A ++ (W ++ L)) w → w.cell? ⟨b2, 0, none⟩ = some u) (h1 : u.oneCell' = true) (hn : n ≤ 1000000) (hby : bytes ≤ 1000) (hw : St B (A ++ (W ++ L)) w) :
    ∃ v' w' W', Run P ⟨D, .call ⟨.builtin .append, #[x, y], #[t, t]⟩, T, p, ed, g⟩ ρ w v' w' ∧ Own te 1 v' (xs ++ [u]) (n + 1) W' ∧ St B (A ++ (W' ++ L)) w' := by
  have hcu : ∀ w, St B (A ++ (W ++ L)) w → ∀ (j : Nat) q, [u][j]? = some q → w.cell? ⟨b2, 0 + j, none⟩ = some q := fun w hw j q hq => by
    cases j with
    | zero => simp at hq; subst hq; exact hu w hw
    | succ j => simp at hq
  rcases hv.2 with ⟨h2, rfl, rfl⟩ | ⟨b, c, sp, h2, hc, hs, rfl⟩
  · cases h2
    have hx0 : xs = [] := by have := hv.1; simpa using this
    subst hx0
    obtain ⟨v', w', L2, k1, k2, k3⟩ := app_run (ρ := ρ) (D := D) (g := g) (x := x) (y := y) (T := T) (p := p) (ed := ed) (A := A) (L := L) (L1 := A ++ ([] ++ L)) (news := [u]) (n := 0) (xs := []) hT (by decide) hx (OwnR.nil te 1 A L) hy rfl (fun w hw => hcu w hw) (by simp [h1]) (by decide) (by decide) (Nat.le_trans (Nat.mul_le_mul (show 0 + 1 ≤ 1 by decide) hby) (by decide)) hw
    obtain ⟨W', k4, rfl⟩ := k2.own
    exact ⟨v', w', W', k1, k4, k3⟩
  · simp only [Value.slice.injEq] at h2
    obtain ⟨rfl, _, rfl⟩ := h2
    have hown : ∀ (j : Nat) q, xs[j]? = some q → w.cell? ⟨b, 0 + j, none⟩ = some q := fun j q hq => by
      have hb := hw.own (b, cel (xs ++ sp) te) (List.mem_append_right _ (List.mem_append_left _ (.head _)))
      simp only [World.cell?, hb]
      rw [Nat.zero_add]
      have := (List.getElem?_eq_some_iff.1 hq).1
      simp [List.getElem?_append_left this, hq]
    obtain ⟨v', w', W', k1, k2, k3⟩ := app_full (ρ := ρ) (D := D) (g := g) (x := x) (y := y) (T := T) (p := p) (ed := ed) (L := A ++ ([(b, cel (xs ++ sp) te)] ++ L)) (news := [u]) hT hx hv.1 hown hy rfl (hcu w hw) (by decide) (by omega) hby hw
    refine ⟨v', w', W', k1, k2, ?_⟩
    have h3 := k3.perm (L' := A ++ (W' ++ ([(b, cel (xs ++ sp) te)] ++ L))) (by
      rw [← List.append_assoc, ← List.append_assoc A]
      exact List.Perm.append_right _ List.perm_append_comm)
    exact h3.drop (List.Sublist.append (List.Sublist.refl _) (List.Sublist.append (List.Sublist.refl _) (List.sublist_append_right _ _)))
end
section
variable {P : Program} {ops : Array Oper} {Q : Exit → Act → World → Prop} {c : Cf} {e : Env} {B : Base} {L : Heap} {rest : List Oper} {d : Nat} {x y : Operand} {T t te : TypeId} {p : String} {ed : Array Edge} {bytes : Nat} {z : Value} {xs : List Value}
theorem w_appCap (A : Heap) {W : Heap} {a : Option Addr} {n c0 b2 c2 : Nat} {u : Value} (hT : slT P t te 1 bytes z) (hv : Own te 1 (.slice a n c0) xs n W) (hx : ev c.n e x = .slice a n n) (hy : ev c.n e y = .slice (some ⟨b2, 0, none⟩) 1 c2) (hu : ∀ w, St B (A ++ (W ++ L)) w → w.cell? ⟨b2, 0, none⟩ = some u) (h1 : u.oneCell' = true) (hn : n ≤ 1000000) (hby : bytes ≤ 1000)
    (h : ∀ v' W', Own te 1 v' (xs ++ [u]) (n + 1) W' → WX .sq P ops c Q rest (upd e d v') B (A ++ (W' ++ L))) : WX .sq P ops c Q (⟨some d, .call ⟨.builtin .append, #[x, y], #[t, t]⟩, T, p, ed, none⟩ :: rest) e B (A ++ (W ++ L)) := by
  unfold WX at *
  intro w hw
  obtain ⟨v', w', W', h2, h3, h4⟩ := app_cap (D := some d) (T := T) (p := p) (ed := ed) (g := none) A hT hv hx hy hu h1 hn hby hw
  exact s_run h2 rfl rfl (h v' W' h3 w' h4)
/-- a row of bytes as a text -/
theorem w_convT {q : Md} {ty src dst el : TypeId} {cap : Nat} {l : List UInt8} {cs : List Value} (i : Nat) {b : Nat} (hi : L[i]? = some (b, cel (byV l ++ cs) te)) (hs : P.underlying src = some (.slice el)) (he : P.underlying el = some (.int .u8)) (hd : P.underlying dst = some .string)
    (hx : ev c.n e x = .slice (some ⟨b, 0, none⟩) l.length cap) (h : WX q P ops c Q rest (upd e d (str l)) B L) : WX q P ops c Q (⟨some d, .convert src dst x, ty, p, ed, none⟩ :: rest) e B L :=
  w_run (fun w hw => by
    have hr := run_convert_bytes_back (P := P) w src dst el ⟨b, 0, none⟩ cap l hs he hd (fun j hj => by
      have h1 := zc i hi (show (byV l ++ cs)[j]? = some (.int .u8 (l[j].toNat : Nat)) by rw [List.getElem?_append_left (by rw [byV_len]; exact hj)]; exact byV_at (List.getElem?_eq_getElem hj)) hw
      have e1 : (⟨b, 0, none⟩ : Addr).add j = ⟨b, j, none⟩ := by simp [Addr.add]; omega
      rw [e1, h1])
    unfold Run
    simp only [execOp, hx, Sem.run_bind, hr, Result.andThen_ok]
    rfl) rfl rfl h
end
theorem bytes_at {s : List UInt8} {cap j : Nat} {u : UInt8} (h : s[j]? = some u) : (bytesRow ⟨s.toArray⟩ cap)[j]? = some (.int .u8 (u.toNat : Nat)) := by
  have hj := (List.getElem?_eq_some_iff.1 h).1
  unfold bytesRow
  rw [Array.getElem?_append_left (by simpa using hj)]
  simp [h]
/-- a text's bytes, in a block of their own -/
theorem w_convS {P : Program} {ops : Array Oper} {Q : Exit → Act → World → Prop} {c : Cf} {e : Env} {B : Base} {L : Heap} {rest : List Oper} {d : Nat} {x : Operand} {T src dst el : TypeId} {p : String} {a : Array Edge} {s : List UInt8} (hs : P.underlying src = some .string) (hd : P.underlying dst = some (.slice el)) (he : P.underlying el = some (.int .u8)) (hx : ev c.n e x = str s)
    (h : ∀ b cap ob, s.length ≤ cap → (∀ w : World, w.heap[b]? = some ob → ∀ (j : Nat) u, s[j]? = some u → w.cell? ⟨b, j, none⟩ = some (.int .u8 (u.toNat : Nat))) → WX .sq P ops c Q rest (upd e d (.slice (some ⟨b, 0, none⟩) s.length cap)) B ((b, ob) :: L)) :
    WX .sq P ops c Q (⟨some d, .convert src dst x, T, p, a, none⟩ :: rest) e B L := by
  unfold WX at *
  intro w hw
  have hr := run_bytes_of_string (P := P) w src dst el ⟨s.toArray⟩ hs hd he
  have hge := grownCap_ge w s.length 0 el
  refine s_run (by unfold Run; simp only [execOp, hx, Sem.run_bind, hr, Result.andThen_ok]; rfl) rfl rfl (h w.heap.size (grownCap w s.length 0 el) _ hge (fun w' hb j u hj => ?_) _ (hw.drawn (w.drawn + 1)).new)
  have h1 := bytes_at (cap := grownCap w s.length 0 el) hj
  simp only [World.cell?, hb]
  exact h1
end Go.Sx
end
section
/- The plain part of the natural numbers: decimal digits. -/
namespace Go.Num
open Go.Lib
/-- a digit's letter -/
abbrev lt10 (n : Nat) : UInt8 := UInt8.ofNat (48 + n % 10)
/-- decimal digits, the last one first -/
def rdec (n : Nat) : List UInt8 := if n = 0 then [] else lt10 n :: rdec (n / 10)
termination_by n
decreasing_by omega
theorem rdec_zero : rdec 0 = [] := by rw [rdec, if_pos rfl]
theorem rdec_pos {n : Nat} (h : n ≠ 0) : rdec n = lt10 n :: rdec (n / 10) := by rw [rdec, if_neg h]
theorem decDigits_zero : decDigits 0 = [48] := by rw [decDigits, dif_pos (by decide)]; rfl
theorem dec_rev {n : Nat} (h : n ≠ 0) : decDigits n = (rdec n).reverse := by
  induction n using Nat.strongRecOn with
  | _ n ih =>
    by_cases h10 : n < 10
    · rw [decDigits, dif_pos h10, rdec_pos h, Nat.div_eq_of_lt h10, rdec_zero, lt10, Nat.mod_eq_of_lt h10]; rfl
    · rw [decDigits, dif_neg h10, rdec_pos h, List.reverse_cons, ih (n / 10) (by omega) (by omega)]
/-- the value of decimal digits -/
def pv (a : Nat) (l : List UInt8) : Nat := l.foldl (fun v c => v * 10 + (c.toNat - 48)) a
theorem pv_nil (a : Nat) : pv a [] = a := rfl
theorem pv_cons (a : Nat) (c : UInt8) (l : List UInt8) : pv a (c :: l) = pv (a * 10 + (c.toNat - 48)) l := by unfold pv; rw [List.foldl_cons]
theorem pv_app (a : Nat) (l m : List UInt8) : pv a (l ++ m) = pv (pv a l) m := List.foldl_append
theorem pv_lin : ∀ (l : List UInt8) (a : Nat), pv a l = a * 10 ^ l.length + pv 0 l
  | [], a => by rw [pv_nil, pv_nil, List.length_nil, Nat.pow_zero]; omega
  | c :: l, a => by
    rw [pv_cons, pv_cons, pv_lin l (a * 10 + _), pv_lin l (0 * 10 + _), List.length_cons, Nat.pow_succ]
    generalize c.toNat - 48 = d
    generalize pv 0 l = v
    generalize 10 ^ l.length = k
    rw [Nat.add_mul, Nat.zero_mul, Nat.zero_add, Nat.mul_comm k 10, Nat.mul_assoc]
    omega
/-- is it a digit's letter? -/
def isD (c : UInt8) : Bool := decide (48 ≤ c.toNat ∧ c.toNat ≤ 57)
theorem lt10_nat (n : Nat) : (lt10 n).toNat = 48 + n % 10 := by
  rw [lt10, UInt8.toNat_ofNat', Nat.mod_eq_of_lt]
  have := Nat.mod_lt n (show 0 < 10 by decide); omega
theorem isD_lt10 (n : Nat) : isD (lt10 n) = true := by
  unfold isD
  rw [lt10_nat]
  have := Nat.mod_lt n (show 0 < 10 by decide)
  exact decide_eq_true ⟨by omega, by omega⟩
theorem rdec_all (n : Nat) : (rdec n).all isD = true := by
  induction n using Nat.strongRecOn with
  | _ n ih =>
    by_cases h : n = 0
    · subst h; rw [rdec_zero]; rfl
    · rw [rdec_pos h, List.all_cons, isD_lt10, ih (n / 10) (by omega)]; rfl
theorem dec_all (n : Nat) : (decDigits n).all isD = true := by
  by_cases h : n = 0
  · subst h; rw [decDigits_zero]; decide
  · rw [dec_rev h, List.all_reverse, rdec_all]
theorem dec_ne (n : Nat) : decDigits n ≠ [] := by
  rw [decDigits]; split <;> simp
theorem pv_dec (n : Nat) : pv 0 (decDigits n) = n := by
  induction n using Nat.strongRecOn with
  | _ n ih =>
    by_cases h10 : n < 10
    · rw [decDigits, dif_pos h10, pv_cons, pv_nil, UInt8.toNat_ofNat', Nat.mod_eq_of_lt (by omega)]; omega
    · have h := lt10_nat n
      unfold lt10 at h
      rw [decDigits, dif_neg h10, pv_app, ih (n / 10) (by omega), pv_cons, pv_nil, h]; omega
/-- what a row of letters is, a natural number -/
def npv (l : List UInt8) : Option Nat := if l = [] ∨ l.all isD = false then none else some (pv 0 l)
theorem npv_dec (n : Nat) : npv (decDigits n) = some n := by
  unfold npv; rw [if_neg (by rw [dec_all]; simp [dec_ne]), pv_dec]
/-- .. an integer -/
def zpv (l : List UInt8) : Option Int := if l.head? = some 45 then (npv l.tail).map (fun n : Nat => -(n : Int)) else (npv l).map (fun n : Nat => (n : Int))
theorem isD_head {l : List UInt8} {c : UInt8} (h : l.all isD = true) (hc : l.head? = some c) : isD c = true := by
  cases l with
  | nil => cases hc
  | cons d l => rw [List.head?_cons] at hc; injection hc with hc; subst hc; rw [List.all_cons] at h; exact (Bool.and_eq_true_iff.1 h).1
theorem zpv_itoa (x : Int) : zpv (itoa x) = some x := by
  unfold itoa
  split
  · unfold zpv
    rw [List.head?_cons, if_pos rfl, List.tail_cons, npv_dec, Option.map_some]
    congr 1; omega
  · unfold zpv
    rw [if_neg (fun h => absurd (isD_head (dec_all _) h) (by decide)), npv_dec, Option.map_some]
    congr 1; omega
/-- the letters of an integer: digits, or a dash ahead -/
theorem itoa_no {x : Int} : (112 : UInt8) ∉ itoa x := by
  have h : ∀ n, (112 : UInt8) ∉ decDigits n := fun n hm => by
    have := List.all_eq_true.1 (dec_all n) _ hm
    exact absurd this (by decide)
  unfold itoa
  split
  · intro hm
    rcases List.mem_cons.1 hm with hm | hm
    · exact absurd hm (by decide)
    · exact h _ hm
  · exact h _
theorem parse_dig {c : UInt8} (h : isD c = true) : 48 ≤ c.toNat ∧ c.toNat ≤ 57 := of_decide_eq_true h
/-- what Atoi tells of digits -/
theorem parse_pv : ∀ (l : List UInt8) (a : Nat), l.all isD = true → pv a l < 1844674407370955162 → parseUint10 a l = .ok (pv a l)
  | [], a, _, _ => rfl
  | c :: l, a, h, hv => by
    rw [List.all_cons] at h
    obtain ⟨h1, h2⟩ := Bool.and_eq_true_iff.1 h
    rw [pv_cons] at hv ⊢
    have h3 := pv_lin l (a * 10 + (c.toNat - 48))
    have h4 : a * 10 + (c.toNat - 48) ≤ (a * 10 + (c.toNat - 48)) * 10 ^ l.length := Nat.le_mul_of_pos_right _ (Nat.pow_pos (by decide))
    have h5 := parse_dig h1
    unfold parseUint10
    rw [if_pos h5, if_neg (by omega), if_neg (by omega)]
    exact parse_pv l _ h2 hv
/-- Atoi of an integer's letters -/
theorem atoi_itoa {x : Int} (h : x.natAbs < 1844674407370955162) : atoiAll (itoa x) = .ok x := by
  have hp : ∀ n, n < 1844674407370955162 → parseMag (decDigits n) = .ok n := fun n hn => by
    unfold parseMag
    rw [if_neg (dec_ne n), parse_pv _ _ (dec_all n) (by rw [pv_dec]; exact hn), pv_dec]
  unfold itoa
  split
  · unfold atoiAll
    simp only [show ((45 : UInt8).toNat = 45) from rfl, or_true, if_true, hp _ h, not_true, false_and, if_false, true_and]
    rw [if_neg (by omega)]
    congr 1; omega
  · rename_i h0
    have h1 : x.toNat < 1844674407370955162 := by omega
    have h2 := hp _ h1
    have h3 := dec_all x.toNat
    have h4 := dec_ne x.toNat
    generalize hl : decDigits x.toNat = l at h2 h3 h4
    cases l with
    | nil => exact absurd rfl h4
    | cons c l =>
      have hc := parse_dig (isD_head h3 rfl)
      have hn : ¬(c.toNat = 43 ∨ c.toNat = 45) := by omega
      have hm : ¬(c.toNat = 45) := by omega
      unfold atoiAll
      dsimp only
      rw [show (if c.toNat = 43 ∨ c.toNat = 45 then l else c :: l) = c :: l from if_neg hn]
      simp only [h2]
      rw [if_neg (by omega), if_neg (by omega), if_neg hm]
      congr 1; omega
end Go.Num
end
section
/- The plain part of the dyadic numbers: their texts, and how they are read. -/
namespace Go.Num
open Go.Lib
/-- the text of a number that is normal -/
def dt (y : Int × Int) : List UInt8 := itoa y.1 ++ 112 :: itoa y.2
/-- what is ahead of the letter p, and what is behind it -/
def bef (s : List UInt8) : List UInt8 := s.takeWhile (fun c => c != 112)
def aft (s : List UInt8) : List UInt8 := (s.dropWhile (fun c => c != 112)).tail
theorem takeW {l : List UInt8} (h : (112 : UInt8) ∉ l) (m : List UInt8) : (l ++ 112 :: m).takeWhile (fun c => c != 112) = l ∧ (l ++ 112 :: m).dropWhile (fun c => c != 112) = 112 :: m := by
  induction l with
  | nil => exact ⟨rfl, rfl⟩
  | cons c l ih =>
    have hc : (c != 112) = true := by
      rw [bne_iff_ne]; rintro rfl; exact h (.head _)
    obtain ⟨h1, h2⟩ := ih (fun hm => h (.tail _ hm))
    rw [List.cons_append]
    exact ⟨by rw [List.takeWhile_cons, if_pos hc, h1], by rw [List.dropWhile_cons, if_pos hc, h2]⟩
theorem dt_cut (y : Int × Int) : bef (dt y) = itoa y.1 ∧ aft (dt y) = itoa y.2 ∧ (112 : UInt8) ∈ dt y := by
  obtain ⟨h1, h2⟩ := takeW (itoa_no (x := y.1)) (itoa y.2)
  refine ⟨h1, ?_, ?_⟩
  · unfold aft dt; rw [h2]; rfl
  · unfold dt; exact List.mem_append_right _ (.head _)
theorem od_idem (n : Nat) : tz (od n) = 0 ∧ od (od n) = od n := by
  induction n using Nat.strongRecOn with
  | _ n ih =>
    rcases Nat.eq_zero_or_pos n with rfl | h
    · rw [od_zero]; exact ⟨tz_zero, od_zero⟩
    · rcases Nat.mod_two_eq_zero_or_one n with h0 | h0
      · have : n = 2 * (n / 2) := by omega
        rw [this, od_even]
        exact ih (n / 2) (by omega)
      · rw [od_odd h0]; exact ⟨tz_odd h0, od_odd h0⟩
theorem od_pos {n : Nat} (h : n ≠ 0) : od n ≠ 0 := by
  induction n using Nat.strongRecOn with
  | _ n ih =>
    rcases Nat.mod_two_eq_zero_or_one n with h0 | h0
    · have e : n = 2 * (n / 2) := by omega
      rw [e, od_even]
      exact ih (n / 2) (by omega) (by omega)
    · rw [od_odd h0]; exact h
theorem nd_idem (x e : Int) : nd (nd x e).1 (nd x e).2 = nd x e := by
  unfold nd
  by_cases h : x = 0
  · simp only [h, if_true]
  · simp only [h, if_false]
    have h1 := od_pos (n := x.natAbs) (by omega)
    have h2 : x.sign * (od x.natAbs : Int) ≠ 0 := Int.mul_ne_zero (by rw [ne_eq, Int.sign_eq_zero_iff_zero]; exact h) (by omega)
    have h3 : (x.sign * (od x.natAbs : Int)).natAbs = od x.natAbs := by rw [Int.natAbs_mul, Int.natAbs_natCast, Int.natAbs_sign_of_ne_zero h, Nat.one_mul]
    have h4 : (x.sign * (od x.natAbs : Int)).sign = x.sign := by rw [Int.sign_mul, Int.sign_sign, Int.sign_natCast_of_ne_zero h1, Int.mul_one]
    rw [if_neg h2, h3, h4, (od_idem _).1, (od_idem _).2]
    simp
/-- how far an exponent may be -/
abbrev mx : Nat := 1048576
/-- the text of a number, or none -/
def txt (x e : Int) : List UInt8 := if e.natAbs ≤ mx ∧ (nd x e).2.natAbs ≤ mx then dt (nd x e) else []
/-- how the program reads a text -/
def pp (s : List UInt8) : Option (Int × Int) :=
  match zpv (bef s), atoiAll (aft s) with
  | some x, .ok e => if txt x e = s then some (x, e) else none
  | _, _ => none
/-- how the document reads it -/
def rp (s : List UInt8) : Option (Int × Int) :=
  if (112 : UInt8) ∉ s then none else
  match zpv (bef s), zpv (aft s) with
  | some x, some e => if e.natAbs ≤ mx ∧ (nd x e).2.natAbs ≤ mx ∧ dt (nd x e) = s then some (x, e) else none
  | _, _ => none
/-- what is read is a normal number whose text it is -/
def isT (s : List UInt8) (y : Int × Int) : Prop := y = nd y.1 y.2 ∧ y.2.natAbs ≤ mx ∧ s = dt y
theorem pp_of {s : List UInt8} {y : Int × Int} (h : isT s y) : pp s = some y := by
  obtain ⟨x, e⟩ := y
  obtain ⟨h1, h2, h3⟩ := h
  obtain ⟨h4, h5, _⟩ := dt_cut (x, e)
  subst h3
  unfold pp
  rw [h4, h5, zpv_itoa, atoi_itoa (Nat.lt_of_le_of_lt h2 (by decide))]
  have h6 : txt x e = dt (x, e) := by unfold txt; rw [← show ((x, e) : Int × Int) = nd x e from h1, if_pos ⟨h2, h2⟩]
  simp only [h6, if_true]
end Go.Num
end
section
namespace Go.Proofs.YtoapegnngbhkbaaGreatDoor
open Go.RowKit Go.Sx
open Go.Num
/-- the first i and the last i turned -/
def rv (l : List UInt8) (i : Nat) : List UInt8 := (List.range l.length).map fun p => if p < i ∨ l.length ≤ p + i then l.getD (l.length - 1 - p) 0 else l.getD p 0
theorem rv_len (l : List UInt8) (i : Nat) : (rv l i).length = l.length := by simp [rv]
theorem rv_at {l : List UInt8} {i p : Nat} (h : p < l.length) : (rv l i)[p]? = some (if p < i ∨ l.length ≤ p + i then l.getD (l.length - 1 - p) 0 else l.getD p 0) := by simp [rv, h]
theorem rv_zero (l : List UInt8) : rv l 0 = l := by
 apply List.ext_getElem?
 intro p
 rcases Nat.lt_or_ge p l.length with h | h
 ·rw [rv_at h, if_neg (by omega), List.getElem?_eq_getElem h]; simp [h]
 ·rw [List.getElem?_eq_none (by rw [rv_len]; exact h), List.getElem?_eq_none h]
theorem rv_step {l : List UInt8} {i : Nat} (h : i < l.length - 1 - i) : ((rv l i).set i (l.getD (l.length - 1 - i) 0)).set (l.length - 1 - i) (l.getD i 0) = rv l (i + 1) := by
 apply List.ext_getElem?
 intro p
 rcases Nat.lt_or_ge p l.length with hp | hp
 ·rw [rv_at hp, List.getElem?_set, List.getElem?_set, List.length_set, rv_len]
  by_cases h1 : l.length - 1 - i = p
  ·rw [if_pos h1, if_pos (by omega), if_pos (by omega)]; congr 2; omega
  ·rw [if_neg h1]
   by_cases h2 : i = p
   ·rw [if_pos h2, if_pos (by omega), if_pos (by omega), h2]
   ·rw [if_neg h2, rv_at hp]
    by_cases h3 : p < i ∨ l.length ≤ p + i
    ·rw [if_pos h3, if_pos (by omega)]
    ·rw [if_neg h3, if_neg (by omega)]
 ·rw [List.getElem?_eq_none (by simp [rv_len]; exact hp), List.getElem?_eq_none (by rw [rv_len]; exact hp)]
theorem rv_end {l : List UInt8} {i : Nat} (h : l.length ≤ i + i + 1) : rv l i = l.reverse := by
 apply List.ext_getElem?
 intro p
 rcases Nat.lt_or_ge p l.length with hp | hp
 ·rw [rv_at hp, List.getElem?_reverse hp, List.getElem?_eq_getElem (by omega)]
  by_cases h3 : p < i ∨ l.length ≤ p + i
  ·rw [if_pos h3]; simp [List.getD_eq_getElem?_getD, List.getElem?_eq_getElem (show l.length - 1 - p < l.length by omega)]
  ·rw [if_neg h3]
   have : l.length - 1 - p = p := by omega
   simp [List.getD_eq_getElem?_getD, List.getElem?_eq_getElem hp, this]
 ·rw [List.getElem?_eq_none (by rw [rv_len]; exact hp), List.getElem?_eq_none (by simpa using hp)]
theorem byV_put {l : List UInt8} {j : Nat} {c : UInt8} {sp : List Value} (h : j < l.length) : (byV l ++ sp).take (0 + j * 1) ++ [.int .u8 (c.toNat : Nat)] ++ (byV l ++ sp).drop (0 + j * 1 + 1) = byV (l.set j c) ++ sp := by
 rw [Nat.zero_add, Nat.mul_one, List.take_append_of_le_length (by rw [byV_len]; omega), List.drop_append_of_le_length (by rw [byV_len]; omega)]
 have e1 : byV (l.set j c) = (byV l).set j (.int .u8 (c.toNat : Nat)) := by simp [byV, List.map_set]
 rw [e1, List.set_eq_take_append_cons_drop, if_pos (by rw [byV_len]; exact h)]
 simp
theorem byV_cel {B : Base} {L : Heap} {w : World} {b j : Nat} {T : TypeId} {l : List UInt8} {sp : List Value} (i : Nat) (hi : L[i]? = some (b, cel (byV l ++ sp) T)) (hj : j < l.length) (h : St B L w) : w.cell? ⟨b, 0 + j * 1, none⟩ = some (.int .u8 ((l.getD j 0).toNat : Nat)) :=
 zc i hi (by rw [Nat.zero_add, Nat.mul_one, List.getElem?_append_left (by rw [byV_len]; exact hj)]; exact byV_at (by simp [hj])) h
set_option maxRecDepth 100000 in
set_option maxHeartbeats 2000000 in
theorem Reverse_ok (l : List UInt8) (sp : List Value) (bb c : Nat) (T : TypeId) (w : World) (hb : w.heap[bb]? = some (cel (byV l ++ sp) T)) (hl : l.length ≤ 1000000) :
  Ret Tryz.prog 90 #[.slice (some ⟨bb, 0, none⟩) l.length c] w (fun v w' => v = .tuple #[] ∧ Fr (fun j => j = bb) w w' ∧ w'.heap[bb]? = some (cel (byV l.reverse ++ sp) T)) := by
 refine enter (S := (fun j => j = bb)) (l := [_]) (L := [(bb, cel (byV l ++ sp) T)]) 28 Tryz.func90 rfl rfl rfl (St.start1 w hb rfl) ?_; refine yA ?_; refine mS rfl ?_; refine w_r (fun _ => R_len sl113 rfl) rfl rfl ?_; refine w_r (fun _ => R_subi rfl rfl (by omega)) rfl rfl ?_; refine aI rfl ?_; refine aI rfl ?_; refine yB ?_; refine zB ?_; refine c_st (B' := _) (L' := [(bb, cel (byV (rv l 0) ++ sp) T)]) (fun w h => by rw [rv_zero]; exact h) ?_
 refine c_loop (fun m9 e B L => ∃ (i : Nat), e 0 = .slice (some ⟨bb, 0, none⟩) l.length c ∧ e 2 = .int .i64 (i : Nat) ∧ e 3 = .int .i64 ((l.length : Nat) - 1 - (i : Nat)) ∧ B = [(w, fun j => j = bb)] ∧ L = [(bb, cel (byV (rv l i) ++ sp) T)] ∧ i ≤ l.length ∧ m9 = l.length + 1 - i) _ ⟨0, rfl, rfl, (congrArg (Value.int .i64) (by omega)), rfl, rfl, Nat.zero_le _, rfl⟩ ?_
 rintro m9 e B L ⟨i, e0_1, e2_1, e3_1, rfl, rfl, hi, rfl⟩
 refine zq ?_; refine yA ?_; refine mI e2_1 ?_; refine mI e3_1 ?_; refine w_r (fun _ => R_lt rfl rfl) rfl rfl ?_; refine yB ?_; refine zD rfl (fun h1 => ?_) (fun h1 => ?_)
 ·have hij : i < l.length - 1 - i := (by omega); have e3q : e 3 = .int .i64 ((l.length - 1 - i : Nat) : Int) := e3_1.trans (congrArg (Value.int .i64) (by omega)); have hvi : (rv l i).getD i 0 = l.getD i 0 := (by rw [List.getD_eq_getElem?_getD, rv_at (by omega), if_neg (by omega)]; rfl); have hvj : (rv l i).getD (l.length - 1 - i) 0 = l.getD (l.length - 1 - i) 0 := (by rw [List.getD_eq_getElem?_getD, rv_at (by omega), if_neg (by omega)]; rfl)
  refine zi ?_; refine zk ?_; refine zq ?_; refine zB ?_; refine c_heldI [] mixed ?_; refine zh (v := .slice _ _ _) 0 rfl (by kernel_rfl) rfl rfl (fun w h => (h).pick [] (by decide)) (fun w h => R_move e0_1) ?_; refine zh (v := .int _ _) 1 rfl (by kernel_rfl) rfl rfl (fun w h => (h).pick [] (by decide)) (fun w h => R_move e2_1) ?_; refine zh (v := .slice _ _ _) 2 rfl (by kernel_rfl) rfl rfl (fun w h => (h).pick [] (by decide)) (fun w h => R_move e0_1) ?_; refine zh (v := .int _ _) 3 rfl (by kernel_rfl) rfl rfl (fun w h => (h).pick [] (by decide)) (fun w h => R_move e3q) ?_; refine zh (v := .slice _ _ _) 4 rfl (by kernel_rfl) rfl rfl (fun w h => (h).pick [] (by decide)) (fun w h => R_move e0_1) ?_; refine zh (v := .int _ _) 5 rfl (by kernel_rfl) rfl rfl (fun w h => (h).pick [] (by decide)) (fun w h => R_move e3q) ?_
  refine zh 6 rfl (by kernel_rfl) rfl rfl (fun w h => (h).pick [] (by decide)) (fun w h => R_iaN (i := (l.length - 1 - i)) sl113 rfl rfl (by first | omega | decide | exact Nat.succ_pos _ | exact Nat.succ_lt_succ (Nat.succ_pos _))) ?_; refine zh (v := .slice _ _ _) 8 rfl (by kernel_rfl) rfl rfl (fun w h => (h).pick [] (by decide)) (fun w h => R_move e0_1) ?_; refine zh (v := .int _ _) 9 rfl (by kernel_rfl) rfl rfl (fun w h => (h).pick [] (by decide)) (fun w h => R_move e2_1) ?_; refine zh 10 rfl (by kernel_rfl) rfl rfl (fun w h => (h).pick [] (by decide)) (fun w h => R_iaN (i := i) sl113 rfl rfl (by first | omega | decide | exact Nat.succ_pos _ | exact Nat.succ_lt_succ (Nat.succ_pos _))) ?_; refine h_two 7 11 (by kernel_rfl) (fun w h => (h).pick [] (by decide)) ?_ ?_
  ·refine o_run (v := .int .u8 (((rv l i).getD ((l.length - 1 - i)) 0).toNat : Nat)) rfl rfl rfl (fun w h => R_ld1 z5 rfl (byV_cel 0 rfl (by rw [rv_len]; omega) h)) ?_; refine h_one 11 (by kernel_rfl) (fun w h => (h).pick [] (by decide)) ?_; refine o_run (v := .int .u8 (((rv l i).getD (i) 0).toNat : Nat)) rfl rfl rfl (fun w h => R_ld1 z5 rfl (byV_cel 0 rfl (by rw [rv_len]; omega) h)) ?_; refine zh 12 rfl (by kernel_rfl) rfl rfl (fun w h => (h).pick [] (by decide)) (fun w h => R_iaN (i := i) sl113 rfl rfl (by first | omega | decide | exact Nat.succ_pos _ | exact Nat.succ_lt_succ (Nat.succ_pos _))) ?_; refine h_one 13 (by kernel_rfl) (fun w h => (h).pick [] (by decide)) ?_
   rw [hvi, hvj]
   refine o_store (v := .int .u8 ((l.getD (l.length - 1 - i) 0).toNat : Nat)) (vs := [.int .u8 ((l.getD (l.length - 1 - i) 0).toNat : Nat)]) 0 rfl rfl z5 rfl rfl rfl rfl rfl (by rw [List.length_append, byV_len, Nat.ble_eq]; simp only [List.length_set, rv_len]; omega) (byV_put (l := rv l i) (c := l.getD (l.length - 1 - i) 0) (by simp only [List.length_set, rv_len]; omega)) ?_; refine zh 14 rfl (by kernel_rfl) rfl rfl (fun w h => (h).pick [] (by decide)) (fun w h => R_iaN (i := (l.length - 1 - i)) sl113 rfl rfl (by first | omega | decide | exact Nat.succ_pos _ | exact Nat.succ_lt_succ (Nat.succ_pos _))) ?_; refine h_one 15 (by kernel_rfl) (fun w h => (h).pick [] (by decide)) ?_
   refine o_store (v := .int .u8 ((l.getD i 0).toNat : Nat)) (vs := [.int .u8 ((l.getD i 0).toNat : Nat)]) 0 rfl rfl z5 rfl rfl rfl rfl rfl (by rw [List.length_append, byV_len, Nat.ble_eq]; simp only [List.length_set, rv_len]; omega) (byV_put (l := (rv l i).set i (l.getD (l.length - 1 - i) 0)) (c := l.getD i 0) (by simp only [List.length_set, rv_len]; omega)) ?_
   rw [rv_step hij]
   refine h_done (by kernel_rfl) (fun w h => (h).pick [] (by decide)) ?_; refine b_on (zk ?_); refine zr ?_; refine mI e2_1 ?_; refine w_r (fun _ => R_addN (n := i) (b := 1) rfl rfl (by omega)) rfl rfl ?_; refine mI e3q ?_; refine w_r (fun _ => R_subi rfl rfl (by omega)) rfl rfl ?_; refine aI rfl ?_; refine aI rfl ?_; refine zn ?_; exact k_again _ (by omega) ⟨i + 1, e0_1, rfl, (congrArg (Value.int .i64) (by omega)), rfl, rfl, by omega, rfl⟩
  ·refine o_run (v := .int .u8 (((rv l i).getD (i) 0).toNat : Nat)) rfl rfl rfl (fun w h => R_ld1 z5 rfl (byV_cel 0 rfl (by rw [rv_len]; omega) h)) ?_; refine h_one 7 (by kernel_rfl) (fun w h => (h).pick [] (by decide)) ?_; refine o_run (v := .int .u8 (((rv l i).getD ((l.length - 1 - i)) 0).toNat : Nat)) rfl rfl rfl (fun w h => R_ld1 z5 rfl (byV_cel 0 rfl (by rw [rv_len]; omega) h)) ?_; refine zh 12 rfl (by kernel_rfl) rfl rfl (fun w h => (h).pick [] (by decide)) (fun w h => R_iaN (i := i) sl113 rfl rfl (by first | omega | decide | exact Nat.succ_pos _ | exact Nat.succ_lt_succ (Nat.succ_pos _))) ?_; refine h_one 13 (by kernel_rfl) (fun w h => (h).pick [] (by decide)) ?_
   rw [hvi, hvj]
   refine o_store (v := .int .u8 ((l.getD (l.length - 1 - i) 0).toNat : Nat)) (vs := [.int .u8 ((l.getD (l.length - 1 - i) 0).toNat : Nat)]) 0 rfl rfl z5 rfl rfl rfl rfl rfl (by rw [List.length_append, byV_len, Nat.ble_eq]; simp only [List.length_set, rv_len]; omega) (byV_put (l := rv l i) (c := l.getD (l.length - 1 - i) 0) (by simp only [List.length_set, rv_len]; omega)) ?_; refine zh 14 rfl (by kernel_rfl) rfl rfl (fun w h => (h).pick [] (by decide)) (fun w h => R_iaN (i := (l.length - 1 - i)) sl113 rfl rfl (by first | omega | decide | exact Nat.succ_pos _ | exact Nat.succ_lt_succ (Nat.succ_pos _))) ?_; refine h_one 15 (by kernel_rfl) (fun w h => (h).pick [] (by decide)) ?_
   refine o_store (v := .int .u8 ((l.getD i 0).toNat : Nat)) (vs := [.int .u8 ((l.getD i 0).toNat : Nat)]) 0 rfl rfl z5 rfl rfl rfl rfl rfl (by rw [List.length_append, byV_len, Nat.ble_eq]; simp only [List.length_set, rv_len]; omega) (byV_put (l := (rv l i).set i (l.getD (l.length - 1 - i) 0)) (c := l.getD i 0) (by simp only [List.length_set, rv_len]; omega)) ?_
   rw [rv_step hij]
   refine h_done (by kernel_rfl) (fun w h => (h).pick [] (by decide)) ?_; refine b_on (zk ?_); refine zr ?_; refine mI e2_1 ?_; refine w_r (fun _ => R_addN (n := i) (b := 1) rfl rfl (by omega)) rfl rfl ?_; refine mI e3q ?_; refine w_r (fun _ => R_subi rfl rfl (by omega)) rfl rfl ?_; refine aI rfl ?_; refine aI rfl ?_; refine zn ?_; exact k_again _ (by omega) ⟨i + 1, e0_1, rfl, (congrArg (Value.int .i64) (by omega)), rfl, rfl, by omega, rfl⟩
 ·have hend : rv l i = l.reverse := rv_end (by omega)
  refine c_exit ?_; refine zx (zx (b_here rfl (?_)))
  refine r_none (.inr rfl) rfl ?_; exact fun w' hw => ⟨rfl, hw.fr _ (.head _), by have := hw.at_ 0 rfl; rw [hend] at this; exact this⟩
end Go.Proofs.YtoapegnngbhkbaaGreatDoor
end
section
namespace Go.Proofs.YtoapegnngbhkbaaGreatDoor
open Go.RowKit Go.Sx
open Go.Num
abbrev BaseW := World × (Nat → Prop)
theorem rdec_len : ∀ n : Nat, (rdec n).length ≤ bl n := by
  intro n
  induction n using Nat.strongRecOn with
  | _ n ih =>
    by_cases h : n = 0
    · subst h; rw [rdec_zero]; exact Nat.zero_le _
    · rw [rdec_pos h, List.length_cons]
      have h1 := ih (n / 10) (by omega)
      have h2 : bl (n / 10) ≤ bl (n / 2) := bl_iff.2 (Nat.lt_of_le_of_lt (by omega) (lt_bl (n / 2)))
      have h3 := bl_half h
      omega
theorem bl_sz {n k : Nat} (h : sz n ≤ k) : bl n ≤ 64 * k := by unfold sz at h; omega
theorem own_bytes {te : TypeId} {out : List UInt8} {oa : Option Addr} {oc : Nat} {W : Heap} (hO : Own te 1 (.slice oa out.length oc) (byV out) out.length W) (h : out ≠ []) : ∃ b sp, oa = some ⟨b, 0, none⟩ ∧ W = [(b, cel (byV out ++ sp) te)] := by
  rcases hO.2 with ⟨h1, h2, _⟩ | ⟨b, c9, sp, h1, _, _, h4⟩
  · exact absurd (List.length_eq_zero_iff.1 h2) h
  · cases h1; exact ⟨b, sp, rfl, h4⟩
theorem byV_snoc {out : List UInt8} {r M : Nat} (h : M % 10 = r % 10) : byV out ++ [.int .u8 ((48 + r % 10 : Nat) : Int)] = byV (out ++ [lt10 M]) := by
  unfold byV
  rw [List.map_append, List.map_cons, List.map_nil, lt10_nat, h]
theorem text_mod {N r i : Nat} (hi : i < 19) : (N * 10 ^ (19 - i) + r) % 10 = r % 10 ∧ (N * 10 ^ (19 - i) + r) / 10 = N * 10 ^ (19 - (i + 1)) + r / 10 := by
  have e : N * 10 ^ (19 - i) = N * 10 ^ (19 - (i + 1)) * 10 := by rw [show 19 - i = (19 - (i + 1)) + 1 by omega, Nat.pow_succ, Nat.mul_assoc]
  rw [e]
  omega
theorem text_lt {r i : Nat} (hi : i < 19) (h : r < 10 ^ (19 - i)) : r / 10 < 10 ^ (19 - (i + 1)) := by
  rw [show 19 - i = (19 - (i + 1)) + 1 by omega, Nat.pow_succ] at h
  omega
set_option maxRecDepth 100000 in
set_option maxHeartbeats 2000000 in
theorem Text_ok {a : Option Addr} {k c n : Nat} (w : World) (hA : Nm w a k c n) (hs : k ≤ 1000000 ∧ sz n ≤ 2048) :
    Ret Tryz.prog 56 #[.slice a k c] w (fun v w' => v = str (Lib.decDigits n) ∧ Ext w w') := by
  have hlen : (rdec n).length ≤ 1000000 := Nat.le_trans (rdec_len n) (Nat.le_trans (bl_sz hs.2) (by decide))
  refine enter (S := No) (l := [_]) (L := []) 53 Tryz.func56 rfl rfl rfl (St.start w No) ?_; refine yA ?_; refine za (v := str _) rfl ?_; refine yB ?_; refine zq ?_; refine yA ?_; refine mS rfl ?_; refine zS slt139 (by decide) rfl rfl (fun b1 gb1 ub1 => ?_)
  refine zC (fun w => zR Tryz.func88 rfl rfl rfl) rfl rfl (fun w h => long1_ok w (h.at_ 0 rfl) ((Kn.old hA).at_ 0 rfl h) ⟨by omega, by omega⟩) ?_; refine yB ?_; refine c_condF rfl ?_; refine zi ?_; refine zk ?_; refine yA ?_; refine mS rfl ?_; refine w_tel (fun w => zR Tryz.func78 rfl rfl rfl) rfl rfl (fun w h => normal_ok w ((Kn.old hA).at_ 0 rfl h) (by omega)) (fun x0 a0 c0 hK0 hN0 => ?_)
  refine za (v := .slice _ _ _) rfl ?_; refine yB ?_; refine zq ?_; refine yA ?_; refine mS rfl ?_; refine w_r (fun _ => R_len sl23 rfl) rfl rfl ?_; refine w_r (fun _ => R_eqN (a := (sz n)) (b := 0) rfl rfl) rfl rfl ?_; refine yB ?_; refine zD rfl (fun h3 => ?_) (fun h3 => ?_)
  · obtain rfl : n = 0 := sz_eq_zero.1 h3
    refine yA ?_; refine za (v := str _) rfl ?_; refine yB ?_; refine ze ?_; refine zt (?_)
    refine zo (v := str _) rfl rfl rfl ?_; exact fun w' hw => ⟨by rw [decDigits_zero], hw.fr (w, No) (.tail _ (.head _))⟩
  · have hn0 : n ≠ 0 := fun h => h3 (by rw [h]; rfl)
    refine zi ?_; refine zk ?_; refine yA ?_; refine za (v := .slice _ _ _) rfl ?_; refine yB ?_; refine zq ?_; refine zB ?_; refine c_st (B' := _) (L' := [] ++ []) (fun w h => h.drop (List.nil_sublist _)) ?_; refine c_loop (fun m9 e B L => ∃ (N : Nat) (xN : BaseW) (aN : Option Addr) (cN : Nat) (out : List UInt8) (oa : Option Addr) (oc : Nat) (W : Heap), e 0 = .slice aN (sz N) cN ∧ e 3 = .slice oa out.length oc ∧ B = [xN, (w, No)] ∧ L = W ++ [] ∧ Kn xN aN (sz N) cN N ∧ Own 5 1 (.slice oa out.length oc) (byV out) out.length W ∧ rdec n = out ++ rdec N ∧ N ≤ n ∧ m9 = N + 1) _ ⟨n, x0, a0, c0, [], none, 0, [], rfl, rfl, rfl, rfl, hK0, Own.nil _ _, rfl, Nat.le_refl _, rfl⟩ ?_
    rintro m9 e B L ⟨N, xN, aN, cN, out, oa, oc, W, e0_1, e3_1, rfl, rfl, hKN, hO, hr, hNle, rfl⟩
    refine zq ?_; refine yA ?_; refine mS e0_1 ?_; refine w_r (fun _ => R_len sl23 rfl) rfl rfl ?_; refine w_r (fun _ => R_gtN (a := (sz N)) (b := 0) rfl rfl) rfl rfl ?_; refine yB ?_; refine zD rfl (fun h4 => ?_) (fun h4 => ?_)
    · have hNz : N ≠ 0 := (fun h => by rw [h] at h4; exact absurd h4 (by decide)); have hsN := sz_mono hNle
      refine zi ?_; refine zk ?_; refine zB ?_; refine yA ?_; refine aI rfl ?_; refine yC ?_; refine mS e0_1 ?_; refine w_tel (fun w => zR Tryz.func89 rfl rfl rfl) rfl rfl (fun w h => small_ok (d := 10000000000000000000) w (hKN.at_ 0 rfl h) ⟨by decide, by decide⟩ (by omega)) (fun xq aq cq hKq hNq => ?_)
      refine zm rfl ?_; refine w_r (fun _ => R_extract rfl rfl) rfl rfl ?_; refine w_r (fun _ => R_extract rfl rfl) rfl rfl ?_; refine za (v := .slice _ _ _) rfl ?_; refine aI rfl ?_; refine yC ?_; refine aI rfl ?_; refine yB ?_; refine zB ?_
      refine c_loop (fun m9 e B L => ∃ (r i : Nat) (out : List UInt8) (oa : Option Addr) (oc : Nat) (W : Heap), e 0 = .slice aq (sz (N / 10000000000000000000)) cq ∧ e 3 = .slice oa out.length oc ∧ e 4 = .int .u64 (r : Nat) ∧ e 5 = .int .i64 (i : Nat) ∧ B = [xq, xN, (w, No)] ∧ L = W ++ [] ∧ i ≤ 19 ∧ r < 10 ^ (19 - i) ∧ Own 5 1 (.slice oa out.length oc) (byV out) out.length W ∧ rdec n = out ++ rdec ((N / 10000000000000000000) * 10 ^ (19 - i) + r) ∧ m9 = 19 - i) _ ⟨_, 0, out, oa, oc, W, rfl, e3_1, rfl, rfl, rfl, rfl, Nat.zero_le _, Nat.mod_lt _ (by decide), hO, by rw [hr]; congr 2; exact (Nat.div_add_mod' N 10000000000000000000).symm, rfl⟩ ?_
      rintro m9 e B L ⟨r, i, out, oa, oc, W, e0_2, e3_2, e4_2, e5_2, rfl, rfl, hi, hrl, hO, hr, rfl⟩
      have hol : out.length ≤ 1000000 := (by have := congrArg List.length hr; rw [List.length_append] at this; omega)
      have hr19 : r < 10000000000000000000 := (by have h9 : (10 : Nat) ^ 19 = 10000000000000000000 := (by decide); rw [← h9]; exact Nat.lt_of_lt_of_le hrl (Nat.pow_le_pow_right (by decide) (by omega)))
      have hBv : Go.Num.B = 18446744073709551616 := rfl
      refine zq ?_; refine yA ?_; refine mI e5_2 ?_; refine w_r (fun _ => R_ltN (a := i) (b := 19) rfl rfl) rfl rfl ?_; refine mB rfl ?_; refine zd (t := 24) rfl (fun h6 => ?_) (fun h6 => ?_)
      · refine zw rfl rfl (bT h6) ?_; refine mI e4_2 ?_; refine zw rfl rfl (bT h6) ?_; refine w_r (fun _ => R_gtN (a := r) (b := 0) rfl rfl) rfl rfl ?_; refine zw rfl rfl (bT h6) ?_; refine mB rfl ?_; refine zd (t := 27) rfl (fun h7 => ?_) (fun h7 => ?_)
        · have hi19 := h6; have hM0 : (N / 10000000000000000000) * 10 ^ (19 - i) + r ≠ 0 := (by omega); have htm := text_mod (N := (N / 10000000000000000000)) (r := r) hi19; have hrd := rdec_pos hM0; rw [htm.2] at hrd; rw [hrd] at hr
          refine zs rfl rfl (bT h7) ?_; refine zs rfl rfl (bT h7) ?_; refine zs rfl rfl (bT h7) ?_; refine zw rfl rfl (bT h6) ?_; refine w_r (v := .bool _) (fun _ => zT (bT h7) rfl) rfl rfl ?_; refine w_r (v := .bool _) (fun _ => zT (bT h6) rfl) rfl rfl ?_; refine yB ?_; refine zE rfl ?_; refine zi ?_; refine zk ?_; refine zq ?_; refine zB ?_; refine yA ?_; refine mS e3_2 ?_; refine mS e3_2 ?_; refine w_r (fun _ => R_len sl113 rfl) rfl rfl ?_; refine mS e3_2 ?_; refine w_r (fun _ => R_len sl113 rfl) rfl rfl ?_; refine w_r (fun _ => R_cutN (q := out.length) sl113 rfl rfl rfl (Own.le hO)) rfl rfl ?_
          refine mI e4_2 ?_; refine w_r (fun _ => R_remU (a := r) (b := 10) rfl rfl (by omega)) rfl rfl ?_; refine w_r (fun _ => R_addU (a := 48) (b := (r % 10)) rfl rfl (by omega)) rfl rfl ?_; refine w_r (fun _ => R_convK (n := (48 + (r % 10))) un66 un5 rfl (wrap_u8 (by omega))) rfl rfl ?_; refine zS slt113 (by decide) rfl rfl (fun lb glb ulb => ?_)
          refine w_st (B' := _) (L' := [_] ++ (W ++ [])) (fun w h => h) ?_; refine w_appCap [_] slt113 hO rfl rfl (u := .int .u8 ((48 + r % 10 : Nat) : Int)) (fun w h => zc 0 rfl rfl h) rfl hol (by decide) (fun v1 W1 hO1 => ?_)
          obtain ⟨a1, c1, rfl⟩ := hO1.slice
          refine za (v := .slice _ _ _) rfl ?_; refine yB ?_; refine zr ?_; refine mI e4_2 ?_; refine w_r (fun _ => R_quoU (a := r) (b := 10) rfl rfl (by omega) (by omega)) rfl rfl ?_; refine aI rfl ?_; refine zn ?_; refine b_on (zk ?_); refine zr ?_; refine mI e5_2 ?_; refine w_r (fun _ => R_addN (n := i) (b := 1) rfl rfl (by omega)) rfl rfl ?_; refine aI rfl ?_; refine zn ?_; refine k_st (B' := [xq, xN, (w, No)]) (L' := W1 ++ []) (fun w h => h.drop (List.sublist_cons_self _ _)) ?_
          rw [byV_snoc htm.1] at hO1
          exact k_again _ (by omega) ⟨(r / 10), i + 1, out ++ [lt10 ((N / 10000000000000000000) * 10 ^ (19 - i) + r)], a1, c1, W1, e0_2, by rw [List.length_append]; rfl, rfl, rfl, rfl, rfl, by omega, text_lt hi19 hrl, by rw [List.length_append]; exact hO1, by rw [hr]; simp, rfl⟩
        · refine zw rfl rfl (bF h7) ?_; refine mS e0_2 ?_; refine zw rfl rfl (bF h7) ?_; refine w_r (fun _ => R_len sl23 rfl) rfl rfl ?_; refine zw rfl rfl (bF h7) ?_; refine w_r (fun _ => R_gtN (a := (sz (N / 10000000000000000000))) (b := 0) rfl rfl) rfl rfl ?_; refine zw rfl rfl (bT h6) ?_; refine w_r (v := .bool _) (fun _ => zF (bF h7) rfl) rfl rfl ?_; refine w_r (v := .bool _) (fun _ => zT (bT h6) rfl) rfl rfl ?_; refine yB ?_; refine zD rfl (fun h8 => ?_) (fun h8 => ?_)
          · have hi19 := h6; have hM0 : (N / 10000000000000000000) * 10 ^ (19 - i) + r ≠ 0 := (by have hN2 : 0 < (N / 10000000000000000000) := Nat.pos_of_ne_zero (fun h => by rw [h] at h8; exact absurd h8 (by decide)); have := Nat.mul_pos hN2 (Nat.pow_pos (n := 19 - i) (show 0 < 10 by decide)); omega); have htm := text_mod (N := (N / 10000000000000000000)) (r := r) hi19; have hrd := rdec_pos hM0; rw [htm.2] at hrd; rw [hrd] at hr
            refine zi ?_; refine zk ?_; refine zq ?_; refine zB ?_; refine yA ?_; refine mS e3_2 ?_; refine mS e3_2 ?_; refine w_r (fun _ => R_len sl113 rfl) rfl rfl ?_; refine mS e3_2 ?_; refine w_r (fun _ => R_len sl113 rfl) rfl rfl ?_; refine w_r (fun _ => R_cutN (q := out.length) sl113 rfl rfl rfl (Own.le hO)) rfl rfl ?_; refine mI e4_2 ?_; refine w_r (fun _ => R_remU (a := r) (b := 10) rfl rfl (by omega)) rfl rfl ?_; refine w_r (fun _ => R_addU (a := 48) (b := (r % 10)) rfl rfl (by omega)) rfl rfl ?_; refine w_r (fun _ => R_convK (n := (48 + (r % 10))) un66 un5 rfl (wrap_u8 (by omega))) rfl rfl ?_; refine zS slt113 (by decide) rfl rfl (fun lb glb ulb => ?_)
            refine w_st (B' := _) (L' := [_] ++ (W ++ [])) (fun w h => h) ?_; refine w_appCap [_] slt113 hO rfl rfl (u := .int .u8 ((48 + r % 10 : Nat) : Int)) (fun w h => zc 0 rfl rfl h) rfl hol (by decide) (fun v1 W1 hO1 => ?_)
            obtain ⟨a1, c1, rfl⟩ := hO1.slice
            refine za (v := .slice _ _ _) rfl ?_; refine yB ?_; refine zr ?_; refine mI e4_2 ?_; refine w_r (fun _ => R_quoU (a := r) (b := 10) rfl rfl (by omega) (by omega)) rfl rfl ?_; refine aI rfl ?_; refine zn ?_; refine b_on (zk ?_); refine zr ?_; refine mI e5_2 ?_; refine w_r (fun _ => R_addN (n := i) (b := 1) rfl rfl (by omega)) rfl rfl ?_; refine aI rfl ?_; refine zn ?_; refine k_st (B' := [xq, xN, (w, No)]) (L' := W1 ++ []) (fun w h => h.drop (List.sublist_cons_self _ _)) ?_
            rw [byV_snoc htm.1] at hO1
            exact k_again _ (by omega) ⟨(r / 10), i + 1, out ++ [lt10 ((N / 10000000000000000000) * 10 ^ (19 - i) + r)], a1, c1, W1, e0_2, by rw [List.length_append]; rfl, rfl, rfl, rfl, rfl, by omega, text_lt hi19 hrl, by rw [List.length_append]; exact hO1, by rw [hr]; simp, rfl⟩
          · have h0 : (N / 10000000000000000000) = 0 := sz_eq_zero.1 (by omega); have hfin : rdec n = out ++ rdec (N / 10000000000000000000) := (by rw [h0, Nat.zero_mul, Nat.zero_add, show r = 0 by omega] at hr; rw [h0]; exact hr)
            refine c_exit ?_; refine zx (zx (b_here rfl (b_on (?_))))
            refine k_st (B' := [xq, (w, No)]) (L' := _) (fun w h => h.unbase (fun x hx => by rcases List.mem_cons.1 hx with rfl | hx; exact .head _; exact .tail _ (.tail _ hx))) ?_; exact k_again _ (by have := Nat.div_lt_self (Nat.pos_of_ne_zero hNz) (show 1 < 10000000000000000000 by decide); omega) ⟨(N / 10000000000000000000), xq, aq, cq, out, oa, oc, W, e0_2, e3_2, rfl, rfl, hKq, hO, hfin, Nat.le_trans (Nat.div_le_self _ _) hNle, rfl⟩
      · have hfin : rdec n = out ++ rdec (N / 10000000000000000000) := (by obtain rfl : i = 19 := (by omega); rw [Nat.sub_self, Nat.pow_zero] at hrl; obtain rfl : r = 0 := (by omega); rw [Nat.sub_self, Nat.pow_zero, Nat.mul_one, Nat.add_zero] at hr; exact hr)
        refine zs rfl rfl (bF h6) ?_; refine zs rfl rfl (bF h6) ?_; refine zs rfl rfl (bF h6) ?_; refine zU rfl rfl rfl ?_; refine zU rfl rfl rfl ?_; refine zU rfl rfl rfl ?_; refine zs rfl rfl (bF h6) ?_; refine w_r (v := .bool _) (fun _ => zF (bF h6) rfl) rfl rfl ?_; refine yB ?_; refine c_condF rfl ?_; refine c_exit ?_; refine zx (zx (b_here rfl (b_on (?_))))
        refine k_st (B' := [xq, (w, No)]) (L' := _) (fun w h => h.unbase (fun x hx => by rcases List.mem_cons.1 hx with rfl | hx; exact .head _; exact .tail _ (.tail _ hx))) ?_; exact k_again _ (by have := Nat.div_lt_self (Nat.pos_of_ne_zero hNz) (show 1 < 10000000000000000000 by decide); omega) ⟨(N / 10000000000000000000), xq, aq, cq, out, oa, oc, W, e0_2, e3_2, rfl, rfl, hKq, hO, hfin, Nat.le_trans (Nat.div_le_self _ _) hNle, rfl⟩
    · obtain rfl : N = 0 := sz_eq_zero.1 (by omega); rw [rdec_zero, List.append_nil] at hr; have hol : out.length ≤ 1000000 := (by rw [← hr]; exact hlen); obtain ⟨ob, sp, rfl, rfl⟩ := own_bytes hO (by rw [← hr, rdec_pos hn0]; simp)
      refine c_exit ?_; refine zx (zx (b_here rfl (zk ?_))); refine yA ?_; refine mS e3_1 ?_; refine w_call1 0 rfl (fun w => zR Tryz.func90 rfl rfl rfl) rfl rfl (fun w h => Reverse_ok out sp ob oc _ w (h.at_ 0 rfl) hol) ?_; refine yC ?_; refine mS e3_1 ?_; refine w_convT (l := out.reverse) (cs := sp) 0 rfl un113 un5 un9 (by rw [List.length_reverse]; exact rfl) ?_; refine za (v := str _) rfl ?_; refine yB ?_; refine ze ?_; refine zo (v := str _) rfl rfl rfl ?_; exact fun w' hw => ⟨by rw [dec_rev hn0, hr], hw.fr (w, No) (.tail _ (.head _))⟩
end Go.Proofs.YtoapegnngbhkbaaGreatDoor
end
section
namespace Go.Proofs.YtoapegnngbhkbaaGreatDoor
open Go.RowKit Go.Sx
open Go.Num
/-- the place of the first byte that is no digit -/
def bad (l : List UInt8) : Int := match l.findIdx? (fun c => !isD c) with | some i => (i : Nat) | none => -1
theorem bad_at {l : List UInt8} {i : Nat} {c : UInt8} (h : (l.take i).all isD = true) (hc : l[i]? = some c) (hd : isD c = false) : bad l = (i : Nat) := by
  obtain ⟨hil, hic⟩ := (List.getElem?_eq_some_iff.1 hc)
  have : l.findIdx? (fun c => !isD c) = some i := by
    rw [List.findIdx?_eq_some_iff_getElem]
    refine ⟨hil, by rw [hic, hd]; rfl, fun j hj => ?_⟩
    have hjl : j < l.length := by omega
    have := List.all_eq_true.1 h l[j] (by
      have : (l.take i)[j]? = some l[j] := by rw [List.getElem?_take_of_lt hj, List.getElem?_eq_getElem]
      exact List.mem_of_getElem? this)
    simp [this]
  unfold bad; rw [this]
theorem bad_none {l : List UInt8} (h : l.all isD = true) : bad l = -1 := by
  have : l.findIdx? (fun c => !isD c) = none := by
    rw [List.findIdx?_eq_none_iff]
    intro x hx
    rw [List.all_eq_true.1 h x hx]; rfl
  unfold bad; rw [this]
theorem bad_ge (l : List UInt8) : decide (0 ≤ bad l) = !l.all isD := by
  cases h : l.all isD
  · have h2 : ∃ x ∈ l, isD x = false := by
      by_cases h3 : ∃ x ∈ l, isD x = false
      · exact h3
      · exfalso
        have : l.all isD = true := List.all_eq_true.2 fun x hx => by
          cases hq : isD x
          · exact absurd ⟨x, hx, hq⟩ h3
          · rfl
        rw [h] at this; cases this
    cases hf : l.findIdx? (fun c => !isD c) with
    | none =>
      obtain ⟨x, hx, hd⟩ := h2
      have := List.findIdx?_eq_none_iff.1 hf x hx
      rw [hd] at this; cases this
    | some i =>
      unfold bad; rw [hf]
      simp
  · rw [bad_none h]; rfl
theorem take_all {l : List UInt8} {i : Nat} {c : UInt8} (h : (l.take i).all isD = true) (hc : l[i]? = some c) (hd : isD c = true) : (l.take (i + 1)).all isD = true := by
  rw [List.take_add_one, hc, List.all_append, h]
  simp [hd]
theorem isD_def (c : UInt8) : isD c = decide (48 ≤ c.toNat ∧ c.toNat ≤ 57) := rfl
theorem pv_lt : ∀ (l : List UInt8), l.all isD = true → pv 0 l < 10 ^ l.length := by
  intro l
  have h : ∀ (l : List UInt8) (a m : Nat), l.all isD = true → a < 10 ^ m → pv a l < 10 ^ (m + l.length) := by
    intro l
    induction l with
    | nil => intro a m _ h; exact h
    | cons c l ih =>
      intro a m hl ha
      simp only [List.all_cons, Bool.and_eq_true] at hl
      have hc := parse_dig hl.1
      rw [pv_cons, List.length_cons, show m + (l.length + 1) = (m + 1) + l.length by omega]
      exact ih _ _ hl.2 (by rw [Nat.pow_succ]; omega)
  intro hl
  have := h l 0 0 hl (by decide)
  rwa [Nat.zero_add] at this
theorem sz_ten {x k : Nat} (h : x < 10 ^ k) : sz x ≤ k := sz_iff.2 (Nat.lt_of_lt_of_le h (Nat.pow_le_pow_left (by decide) k))
theorem all_take {l : List UInt8} (h : l.all isD = true) (j : Nat) : (l.take j).all isD = true := List.all_eq_true.2 fun x hx => List.all_eq_true.1 h x (List.mem_of_mem_take hx)
/-- the error's number -/
def npe (s : List UInt8) : Int := match npv s with | none => 5 | some _ => 0
theorem npe_bad {s : List UInt8} (h : s = [] ∨ s.all isD = false) : npv s = none := by unfold npv; rw [if_pos h]
theorem npe_ok {s : List UInt8} (h : ¬ s = []) (h2 : s.all isD = true) : npv s = some (pv 0 s) := by unfold npv; rw [if_neg (by rw [h2]; simp [h])]
theorem R_subB {P : Program} {ρ : Operand → Value} {w : World} {D : Option Tmp} {t ty yt : TypeId} {pos : String} {aft : Array Edge} {g : Option (Nat × Bool)} {x y : Operand} {a b : Nat} (hx : ρ x = .int .u8 (a : Nat)) (hy : ρ y = .int .u8 (b : Nat)) (h : b ≤ a) (h2 : a < 256) : Run P ⟨D, .binOp .sub t x y yt, ty, pos, aft, g⟩ ρ w (.int .u8 ((a - b : Nat) : Int)) w := by
  have := R_sub (P := P) (w := w) (D := D) (t := t) (ty := ty) (yt := yt) (pos := pos) (aft := aft) (g := g) hx hy
  rwa [show ((a : Int) - (b : Int)) = ((a - b : Nat) : Int) by omega, wrap_u8 (by omega)] at this
/-- the bytes of a text stand at a slice's beginning -/
def Bys (w : World) (b : Nat) (l : List UInt8) : Prop := ∀ (j : Nat) u, l[j]? = some u → w.cell? ⟨b, j, none⟩ = some (.int .u8 (u.toNat : Nat))
theorem Bys.ext {w w' : World} {b : Nat} {l : List UInt8} (h : Bys w b l) (k : Ext w w') : Bys w' b l := fun j u hj => k.cell (h j u hj) (fun x => x)
set_option maxRecDepth 100000 in
set_option maxHeartbeats 400000 in
theorem notD_ok (c : UInt8) (w : World) :
    Ret Tryz.prog 95 #[.int .u8 (c.toNat : Nat)] w (fun v w' => v = .bool (!isD c) ∧ Ext w w') := by
  refine enter (S := No) (l := [_]) (L := []) 9 Tryz.func95 rfl rfl rfl (St.start w No) ?_; refine yA ?_; refine aB rfl ?_; refine yC ?_; refine mI rfl ?_; refine w_r (fun _ => R_ltN (a := (c.toNat)) (b := 48) rfl rfl) rfl rfl ?_; refine mB rfl ?_; refine zd (t := 5) rfl (fun h1 => ?_) (fun h1 => ?_)
  · refine zs rfl rfl (bT h1) ?_; refine zs rfl rfl (bT h1) ?_; refine w_r (v := .bool _) (fun _ => zT (bT h1) rfl) rfl rfl ?_; refine aB rfl ?_; refine yB ?_; refine ze ?_; refine zo (v := .bool _) rfl rfl rfl ?_; exact fun w' hw => ⟨by rw [isD_def, decide_eq_false (by omega)]; rfl, hw.fr (w, No) (.head _)⟩
  · refine zw rfl rfl (bF h1) ?_; refine mI rfl ?_; refine zw rfl rfl (bF h1) ?_; refine w_r (fun _ => R_gtN (a := (c.toNat)) (b := 57) rfl rfl) rfl rfl ?_; refine w_r (v := .bool _) (fun _ => zF (bF h1) rfl) rfl rfl ?_; refine aB rfl ?_; refine yB ?_; refine ze ?_; refine zo (v := .bool _) rfl rfl rfl ?_; exact fun w' hw => ⟨by rw [isD_def]; congr 1; by_cases h : 57 < c.toNat; (rw [decide_eq_true h, decide_eq_false (by omega)]; rfl); (rw [decide_eq_false h, decide_eq_true (by omega)]; rfl), hw.fr (w, No) (.head _)⟩
set_option maxRecDepth 100000 in
set_option maxHeartbeats 400000 in
theorem badI_ok (l : List UInt8) (b c : Nat) (w : World) (hb : Bys w b l) (hl : l.length ≤ 1000000) :
    Ret Tryz.prog 129 #[.slice (some ⟨b, 0, none⟩) l.length c, .func (.func 95) #[] #[]] w (fun v w' => v = .int .i64 (bad l) ∧ Ext w w') := by
  refine enter (S := No) (l := [_, _]) (L := []) 19 Tryz.func129 rfl rfl rfl (St.start w No) ?_; refine yA ?_; refine aI rfl ?_; refine yB ?_; refine zq ?_; refine yA ?_; refine mS rfl ?_; refine w_r (fun _ => R_len sl113 rfl) rfl rfl ?_; refine mI rfl ?_; refine yB ?_; refine zB ?_; refine c_loop (fun m9 e B L => ∃ (i : Nat), e 0 = .slice (some ⟨b, 0, none⟩) l.length c ∧ e 1 = .func (.func 95) #[] #[] ∧ e 7 = .int .i64 (l.length : Nat) ∧ e 8 = .int .i64 (i : Nat) ∧ B = [(w, No)] ∧ L = [] ∧ i ≤ l.length ∧ (l.take i).all isD = true ∧ m9 = l.length - i) _ ⟨0, rfl, rfl, rfl, rfl, rfl, rfl, Nat.zero_le _, rfl, rfl⟩ ?_
  rintro m9 e B L ⟨i, e0_1, e1_1, e7_1, e8_1, rfl, rfl, hi, hd, rfl⟩
  refine yA ?_; refine w_r (fun _ => R_ltN (a := i) (b := (l.length)) e8_1 e7_1) rfl rfl ?_; refine yB ?_; refine zq ?_; refine zD rfl (fun h1 => ?_) (fun h1 => ?_)
  · obtain ⟨u, hu⟩ : ∃ u, l[i]? = some u := ⟨_, List.getElem?_eq_getElem h1⟩
    refine zi ?_; refine zk ?_; refine zq ?_; refine zB ?_; refine yA ?_; refine mI e8_1 ?_; refine aI rfl ?_; refine yC ?_; refine zm e1_1 ?_; refine mS e0_1 ?_; refine mI rfl ?_; refine w_r (fun _ => R_iaN (i := i) sl113 rfl rfl (by first | omega | decide | exact Nat.succ_pos _ | exact Nat.succ_lt_succ (Nat.succ_pos _))) rfl rfl ?_; refine zl (v := .int .u8 (u.toNat : Nat)) z5 rfl (fun w1 h => h.oldc (.head _) (by rw [Nat.zero_add, Nat.mul_one]; exact hb i u hu)) ?_; refine zC (fun w => R_callv rfl Tryz.func95 rfl rfl) rfl rfl (fun w h => notD_ok u w) ?_; refine yB ?_; refine c_cond rfl (fun h2 => ?_) (fun h2 => ?_)
    · refine yA ?_; refine mI rfl ?_; refine aI rfl ?_; refine yB ?_; refine ze ?_; refine zb (zt (zt (zb (zt (?_)))))
      refine zo (v := .int _ _) rfl rfl rfl ?_; exact fun w' hw => ⟨by rw [bad_at hd hu (by simpa using h2)], hw.fr (w, No) (.head _)⟩
    · refine zi ?_; refine b_on (zk ?_); refine zr ?_; refine w_r (fun _ => R_addN (n := i) (b := 1) e8_1 rfl (by omega)) rfl rfl ?_; refine mI rfl ?_; refine zn ?_; exact k_again _ (by omega) ⟨i + 1, e0_1, e1_1, e7_1, rfl, rfl, rfl, by omega, take_all hd hu (by simpa using h2), rfl⟩
  · refine c_exit ?_; refine zx (zx (b_here rfl (zk ?_))); refine yA ?_; refine aI rfl ?_; refine yB ?_; refine ze ?_; refine zo (v := .int _ _) rfl rfl rfl ?_; exact fun w' hw => ⟨by rw [bad_none (by obtain rfl : i = l.length := (by omega); rw [List.take_length] at hd; exact hd)], hw.fr (w, No) (.head _)⟩
set_option maxRecDepth 100000 in
set_option maxHeartbeats 400000 in
theorem badC_ok (l : List UInt8) (b c : Nat) (w : World) (hb : Bys w b l) (hl : l.length ≤ 1000000) :
    Ret Tryz.prog 94 #[.slice (some ⟨b, 0, none⟩) l.length c, .func (.func 95) #[] #[]] w (fun v w' => v = .bool (!l.all isD) ∧ Ext w w') := by
  refine enter (S := No) (l := [_, _]) (L := []) 9 Tryz.func94 rfl rfl rfl (St.start w No) ?_; refine yA ?_; refine aB rfl ?_; refine yC ?_; refine mS rfl ?_; refine zm rfl ?_; refine zC (fun w => zR Tryz.func129 rfl rfl rfl) rfl rfl (fun w h => badI_ok l b c w (hb.ext (h.fr (_, No) (.head _))) hl) ?_; refine w_r (fun _ => R_ge rfl rfl) rfl rfl ?_; refine aB rfl ?_; refine yB ?_; refine ze ?_; refine zo (v := .bool _) rfl rfl rfl ?_; exact fun w' hw => ⟨by rw [← bad_ge], hw.fr (w, No) (.head _)⟩
set_option maxRecDepth 100000 in
set_option maxHeartbeats 2000000 in
theorem Parse_ok (s : List UInt8) (w : World) (hs : s.length ≤ 200) :
    Ret Tryz.prog 61 #[str s] w (Tel (fun a c => .tuple #[.slice a (sz ((npv s).getD 0)) c, .int .i64 (npe s)]) (sz ((npv s).getD 0)) ((npv s).getD 0) w) := by
  refine enter (S := No) (l := [_]) (L := []) 64 Tryz.func61 rfl rfl rfl (St.start w No) ?_; refine yA ?_; refine za (v := .slice _ _ _) rfl ?_; refine aI rfl ?_; refine yB ?_; refine zq ?_; refine yA ?_; refine zm (v := str _) rfl ?_; refine w_r (fun _ => R_slen st9 rfl (by omega)) rfl rfl ?_; refine w_r (fun _ => R_gt rfl rfl) rfl rfl ?_; refine yB ?_; refine zD rfl (fun h1 => ?_) (fun h1 => ?_)
  · omega
  · refine zi ?_; refine zk ?_; refine zq ?_; refine yA ?_; refine zm (v := str _) rfl ?_; refine w_r (fun _ => R_seq rfl rfl) rfl rfl ?_; refine mB rfl ?_; refine zd (t := 14) rfl (fun h2 => ?_) (fun h2 => ?_)
    · have hnp := npe_bad (s := s) (.inl h2); have hE : npe s = 5 := (by unfold npe; rw [hnp])
      refine zs rfl rfl (bT h2) ?_; refine zs rfl rfl (bT h2) ?_; refine zs rfl rfl (bT h2) ?_; refine w_r (v := .bool _) (fun _ => zT (bT h2) rfl) rfl rfl ?_; refine yB ?_; refine zE rfl ?_; refine yA ?_; refine za (v := .slice _ _ _) rfl ?_; refine aI rfl ?_; refine yB ?_; refine ze ?_; refine zt (?_)
      rw [hE, hnp, Option.getD_none]
      refine r_two (v := .slice _ _ _) (v2 := .int _ _) rfl rfl rfl rfl rfl ?_; exact fun w' hw => ⟨none, 0, rfl, Nm.nil _, Fsh.nil _ _, hw.fr (w, No) (.head _)⟩
    · refine zw rfl rfl (bF h2) ?_; refine zm (v := str _) rfl ?_; refine zw rfl rfl (bF h2) ?_; refine w_convS un9 un113 un5 rfl (fun sb cap ob hcap hob => ?_)
      refine zw rfl rfl (bF h2) ?_; refine zC (fun w => zR Tryz.func94 rfl rfl rfl) rfl rfl (fun w h => badC_ok s sb cap w (hob w (h.at_ 0 rfl)) (by omega)) ?_; refine w_r (v := .bool _) (fun _ => zF (bF h2) rfl) rfl rfl ?_; refine yB ?_; refine c_cond rfl (fun h3 => ?_) (fun h3 => ?_)
      · have hnp := npe_bad (s := s) (.inr (by simpa using h3)); have hE : npe s = 5 := (by unfold npe; rw [hnp])
        refine yA ?_; refine za (v := .slice _ _ _) rfl ?_; refine aI rfl ?_; refine yB ?_; refine ze ?_; refine zt (?_)
        rw [hE, hnp, Option.getD_none]
        refine r_two (v := .slice _ _ _) (v2 := .int _ _) rfl rfl rfl rfl rfl ?_; exact fun w' hw => ⟨none, 0, rfl, Nm.nil _, Fsh.nil _ _, hw.fr (w, No) (.head _)⟩
      · have hall : s.all isD = true := (by simpa using h3); have hnp := npe_ok h2 hall; have hE : npe s = 0 := (by unfold npe; rw [hnp])
        refine zi ?_; refine zk ?_; refine yA ?_; refine za (v := .slice _ _ _) rfl ?_; refine yB ?_; refine zq ?_; refine yA ?_; refine aI rfl ?_; refine yB ?_; refine zB ?_; refine c_st (B' := [(w, No), (w, No)]) (L' := []) (fun w h => (h.drop (List.nil_sublist _)).unbase (fun x hx => by rcases List.mem_cons.1 hx with rfl | hx; (exact .head _); exact hx)) ?_; refine c_loop (fun m9 e B L => ∃ (N i : Nat) (xN : BaseW) (aN : Option Addr) (cN : Nat), e 0 = str s ∧ e 4 = .slice aN (sz N) cN ∧ e 5 = .int .i64 (i : Nat) ∧ B = [xN, (w, No)] ∧ L = [] ∧ i ≤ s.length ∧ Kn xN aN (sz N) cN N ∧ New_ [(w, No)] aN (sz N) ∧ N = pv 0 (s.take i) ∧ m9 = s.length - i) _ ⟨0, 0, (w, No), none, 0, rfl, rfl, rfl, rfl, rfl, Nat.zero_le _, Kn.old (Nm.nil w), fun _ _ => Fsh.nil _ _, rfl, rfl⟩ ?_
        rintro m9 e B L ⟨N, i, xN, aN, cN, e0_1, e4_1, e5_1, rfl, rfl, hi, hKN, hNN, hN, rfl⟩
        refine zq ?_; refine yA ?_; refine mI e5_1 ?_; refine zm (v := str _) e0_1 ?_; refine w_r (fun _ => R_slen st9 rfl (by omega)) rfl rfl ?_; refine w_r (fun _ => R_lt rfl rfl) rfl rfl ?_; refine yB ?_; refine zD rfl (fun h4 => ?_) (fun h4 => ?_)
        · refine zi ?_; refine zk ?_; refine zB ?_; refine yA ?_; refine aI rfl ?_; refine aI rfl ?_; refine yB ?_; refine zq ?_; refine zB ?_; refine c_loop (fun m9 e B L => ∃ (j n by_ : Nat), e 0 = str s ∧ e 4 = .slice aN (sz N) cN ∧ e 5 = .int .i64 (j : Nat) ∧ e 6 = .int .u64 (n : Nat) ∧ e 7 = .int .u64 (by_ : Nat) ∧ B = [xN, (w, No)] ∧ L = [] ∧ i ≤ j ∧ j ≤ s.length ∧ by_ = 10 ^ (j - i) ∧ by_ < 10000000000000000000 ∧ pv 0 (s.take j) = N * by_ + n ∧ n < by_ ∧ (i < j ∨ (i < s.length ∧ by_ = 1)) ∧ m9 = s.length - j) _ ⟨i, 0, 1, e0_1, e4_1, e5_1, rfl, rfl, rfl, rfl, Nat.le_refl _, hi, by rw [Nat.sub_self], by decide, by rw [← hN, Nat.mul_one, Nat.add_zero], by decide, .inr ⟨by omega, rfl⟩, rfl⟩ ?_
          rintro m9 e B L ⟨j, n, by_, e0_2, e4_2, e5_2, e6_2, e7_2, rfl, rfl, hij, hj, hby, hby9, hpv, hnb, hgo, rfl⟩
          have hBv : Go.Num.B = 18446744073709551616 := rfl
          have hz1 : sz (N * by_ + n) ≤ 200 := (by have := sz_ten (pv_lt _ (all_take hall j)); rw [hpv, List.length_take] at this; exact Nat.le_trans this (Nat.le_trans (Nat.min_le_right _ _) hs))
          have hz2 := sz_mono (Nat.le_add_right (N * by_) n)
          have hz3 : sz N ≤ sz (N * by_) := sz_mono (Nat.le_mul_of_pos_right N (by omega))
          have hz4 : sz by_ ≤ 1 := sz_iff.2 (by rw [Nat.pow_one]; omega)
          refine zq ?_; refine yA ?_; refine mI e5_2 ?_; refine zm (v := str _) e0_2 ?_; refine w_r (fun _ => R_slen st9 rfl (by omega)) rfl rfl ?_; refine w_r (fun _ => R_lt rfl rfl) rfl rfl ?_; refine mB rfl ?_; refine zd (t := 27) rfl (fun h5 => ?_) (fun h5 => ?_)
          · refine zw rfl rfl (bT h5) ?_; refine mI e7_2 ?_; refine zw rfl rfl (bT h5) ?_; refine w_r (fun _ => R_ltN (a := by_) (b := 1000000000000000000) rfl rfl) rfl rfl ?_; refine w_r (v := .bool _) (fun _ => zT (bT h5) rfl) rfl rfl ?_; refine yB ?_; refine zD rfl (fun h6 => ?_) (fun h6 => ?_)
            · obtain ⟨ch, hch⟩ : ∃ c, s[j]? = some c := ⟨_, List.getElem?_eq_getElem (by omega)⟩; have hcd := List.all_eq_true.1 hall ch (List.mem_of_getElem? hch); have hc9 := parse_dig hcd
              refine zi ?_; refine zk ?_; refine zq ?_; refine zB ?_; refine zr ?_; refine mI e6_2 ?_; refine w_r (fun _ => R_mulU (a := n) (b := 10) rfl rfl (by omega)) rfl rfl ?_; refine zm (v := str _) e0_2 ?_; refine mI e5_2 ?_; refine w_sidx (a := s) (i := j) st9 rfl rfl (by omega) ?_
              rw [show s[j] = ch from (List.getElem?_eq_some_iff.1 hch).2]
              refine w_r (fun _ => R_subB (a := ch.toNat) (b := 48) rfl rfl (by omega) (by omega)) rfl rfl ?_; refine w_r (fun _ => R_convK (n := (ch.toNat - 48)) un5 un66 rfl (wrap_u (by omega))) rfl rfl ?_; refine w_r (fun _ => R_addU (a := (n * 10)) (b := (ch.toNat - 48)) rfl rfl (by omega)) rfl rfl ?_; refine mI e7_2 ?_; refine w_r (fun _ => R_mulU (a := by_) (b := 10) rfl rfl (by omega)) rfl rfl ?_; refine aI rfl ?_; refine aI rfl ?_; refine zn ?_; refine b_on (zk ?_); refine zr ?_; refine mI e5_2 ?_; refine w_r (fun _ => R_addN (n := j) (b := 1) rfl rfl (by omega)) rfl rfl ?_; refine aI rfl ?_; refine zn ?_
              exact k_again _ (by omega) ⟨j + 1, (n * 10 + (ch.toNat - 48)), (by_ * 10), e0_2, e4_2, rfl, rfl, rfl, rfl, rfl, by omega, by omega, by rw [hby, show j + 1 - i = (j - i) + 1 by omega, Nat.pow_succ], by omega, by rw [List.take_add_one, hch, pv_app, hpv]; show (N * by_ + n) * 10 + (ch.toNat - 48) = _; rw [Nat.add_mul, Nat.mul_assoc]; omega, by omega, .inl (by omega), rfl⟩
            · have hfin := hpv.symm
              refine c_exit ?_; refine zx (zx (b_here rfl (zk ?_))); refine yA ?_; refine aI rfl ?_; refine yB ?_; refine zq ?_; refine yA ?_; refine mS e4_2 ?_; refine mI e7_2 ?_; refine zS slt23 (by decide) rfl rfl (fun lb glb ulb => ?_)
              refine w_tel (fun w => zR Tryz.func96 rfl rfl rfl) rfl rfl (fun w h => Mul_ok w (hKN.at_ 0 rfl h) (Nm.one (h.at_ 0 rfl) (by omega)) ⟨by omega, by omega, by omega, by omega, by omega⟩) (fun xp ap cp hKp hNp => ?_)
              refine zm rfl ?_; refine w_r (fun _ => R_extract rfl rfl) rfl rfl ?_; refine w_r (fun _ => R_extract rfl rfl) rfl rfl ?_; refine za (v := .slice _ _ _) rfl ?_; refine aI rfl ?_; refine yC ?_; refine mI rfl ?_; refine w_r (fun _ => R_ne rfl rfl) rfl rfl ?_; refine yB ?_; refine c_condF (congrArg Value.bool (decide_eq_false (by decide))) ?_; refine zi ?_; refine zk ?_; refine yA ?_; refine mS rfl ?_; refine mI e6_2 ?_; refine zS slt23 (by decide) rfl rfl (fun lc glc ulc => ?_)
              refine w_tel (fun w => zR Tryz.func82 rfl rfl rfl) rfl rfl (fun w h => Add_ok w (hKp.at_ 0 rfl h) (Nm.one (h.at_ 0 rfl) (by omega)) ⟨by omega, by omega, by omega⟩) (fun xq aq cq hKq hNq => ?_)
              refine zm rfl ?_; refine w_r (fun _ => R_extract rfl rfl) rfl rfl ?_; refine w_r (fun _ => R_extract rfl rfl) rfl rfl ?_; refine za (v := .slice _ _ _) rfl ?_; refine aI rfl ?_; refine yC ?_; refine mI rfl ?_; refine w_r (fun _ => R_ne rfl rfl) rfl rfl ?_; refine yB ?_; refine c_condF (congrArg Value.bool (decide_eq_false (by decide))) ?_; refine zi ?_; refine b_on (?_)
              refine k_st (B' := [xq, (w, No)]) (L' := []) (fun w h => (h.drop (List.nil_sublist _)).unbase (fun x hx => by rcases List.mem_cons.1 hx with rfl | hx; (exact .head _); exact .tail _ (.tail _ (.tail _ hx)))) ?_; exact k_again _ (by omega) ⟨(N * by_ + n), j, xq, aq, cq, e0_2, rfl, e5_2, rfl, rfl, by omega, hKq, fun y hy => hNq y (.tail _ (.tail _ hy)), hfin, rfl⟩
          · have hfin := hpv.symm
            refine zs rfl rfl (bF h5) ?_; refine zs rfl rfl (bF h5) ?_; refine w_r (v := .bool _) (fun _ => zF (bF h5) rfl) rfl rfl ?_; refine yB ?_; refine c_condF rfl ?_; refine c_exit ?_; refine zx (zx (b_here rfl (zk ?_))); refine yA ?_; refine aI rfl ?_; refine yB ?_; refine zq ?_; refine yA ?_; refine mS e4_2 ?_; refine mI e7_2 ?_; refine zS slt23 (by decide) rfl rfl (fun lb glb ulb => ?_)
            refine w_tel (fun w => zR Tryz.func96 rfl rfl rfl) rfl rfl (fun w h => Mul_ok w (hKN.at_ 0 rfl h) (Nm.one (h.at_ 0 rfl) (by omega)) ⟨by omega, by omega, by omega, by omega, by omega⟩) (fun xp ap cp hKp hNp => ?_)
            refine zm rfl ?_; refine w_r (fun _ => R_extract rfl rfl) rfl rfl ?_; refine w_r (fun _ => R_extract rfl rfl) rfl rfl ?_; refine za (v := .slice _ _ _) rfl ?_; refine aI rfl ?_; refine yC ?_; refine mI rfl ?_; refine w_r (fun _ => R_ne rfl rfl) rfl rfl ?_; refine yB ?_; refine c_condF (congrArg Value.bool (decide_eq_false (by decide))) ?_; refine zi ?_; refine zk ?_; refine yA ?_; refine mS rfl ?_; refine mI e6_2 ?_; refine zS slt23 (by decide) rfl rfl (fun lc glc ulc => ?_)
            refine w_tel (fun w => zR Tryz.func82 rfl rfl rfl) rfl rfl (fun w h => Add_ok w (hKp.at_ 0 rfl h) (Nm.one (h.at_ 0 rfl) (by omega)) ⟨by omega, by omega, by omega⟩) (fun xq aq cq hKq hNq => ?_)
            refine zm rfl ?_; refine w_r (fun _ => R_extract rfl rfl) rfl rfl ?_; refine w_r (fun _ => R_extract rfl rfl) rfl rfl ?_; refine za (v := .slice _ _ _) rfl ?_; refine aI rfl ?_; refine yC ?_; refine mI rfl ?_; refine w_r (fun _ => R_ne rfl rfl) rfl rfl ?_; refine yB ?_; refine c_condF (congrArg Value.bool (decide_eq_false (by decide))) ?_; refine zi ?_; refine b_on (?_)
            refine k_st (B' := [xq, (w, No)]) (L' := []) (fun w h => (h.drop (List.nil_sublist _)).unbase (fun x hx => by rcases List.mem_cons.1 hx with rfl | hx; (exact .head _); exact .tail _ (.tail _ (.tail _ hx)))) ?_; exact k_again _ (by omega) ⟨(N * by_ + n), j, xq, aq, cq, e0_2, rfl, e5_2, rfl, rfl, by omega, hKq, fun y hy => hNq y (.tail _ (.tail _ hy)), hfin, rfl⟩
        · have hNs : N = pv 0 s := (by rw [hN, List.take_of_length_le (by omega)])
          refine c_exit ?_; refine zx (zx (b_here rfl (zk ?_))); refine yA ?_; refine mS e4_1 ?_; refine za (v := .slice _ _ _) rfl ?_; refine aI rfl ?_; refine yB ?_; refine ze ?_
          rw [hE, hnp, Option.getD_some, ← hNs]
          refine r_two (v := .slice _ _ _) (v2 := .int _ _) rfl rfl rfl rfl rfl ?_; exact fun w' hw => ⟨_, _, rfl, (hKN.at_ 0 rfl hw), (hNN _ (.head _)), hw.fr (w, No) (.tail _ (.head _))⟩
end Go.Proofs.YtoapegnngbhkbaaGreatDoor
end
section
namespace Go.Proofs.YtoapegnngbhkbaaGreatDoor
open Go.RowKit Go.Sx
open Go.Num
theorem bl_zero_iff (n : Nat) : bl n = 0 ↔ n = 0 := ⟨fun h => by
 rcases Nat.eq_zero_or_pos n with h0 | h0
 ·exact h0
 ·have := bl_pos (Nat.pos_iff_ne_zero.1 h0); omega, fun h => by rw [h]; rfl⟩
theorem dec_bl (n : Nat) : decide (bl n = 0) = decide (n = 0) := decide_eq_decide.2 (bl_zero_iff n)
theorem not_dec (p : Prop) [Decidable p] : (!decide p) = decide (¬ p) := by by_cases h : p <;> simp [h]
theorem sz_gt (n : Nat) : decide (0 < sz n) = decide (n ≠ 0) := decide_eq_decide.2 ⟨fun h h0 => by rw [h0] at h; exact absurd h (by decide), sz_pos⟩
set_option maxRecDepth 100000 in
set_option maxHeartbeats 400000 in
theorem zero_ok {a : Option Addr} {k c n : Nat} (w : World) (hA : Nm w a k c n) (hk : k ≤ 4000000) :
  Ret Tryz.prog 87 #[.agg #[.slice a k c]] w (fun v w' => v = .bool (decide (n = 0)) ∧ Ext w w') := by
 refine enter (S := No) (l := [_]) (L := []) 7 Tryz.func87 rfl rfl rfl (St.start w No) ?_; refine yA ?_; refine w_boxA rfl (fun p gp up => ?_)
 refine aB rfl ?_; refine yC ?_; refine zf fa84_0 rfl ?_; refine zl z23 rfl (fun _ h => zc 0 rfl rfl h) ?_; refine zC (fun w => zR Tryz.func44 rfl rfl rfl) rfl rfl (fun w h => Bits_ok w ((Kn.old hA).at_ 0 rfl h) (by omega)) ?_; refine w_r (fun _ => R_eqN (a := (bl n)) (b := 0) rfl rfl) rfl rfl ?_; refine aB rfl ?_; refine yB ?_; refine ze ?_; refine zo (v := .bool _) rfl rfl rfl ?_; exact fun w' hw => ⟨by rw [dec_bl], hw.fr (w, No) (.head _)⟩
set_option maxRecDepth 100000 in
set_option maxHeartbeats 400000 in
theorem of_ok (s : Bool) {a : Option Addr} {k c n : Nat} (w : World) (hA : Nm w a k c n) (hk : k ≤ 4000000) :
  Ret Tryz.prog 57 #[.agg #[.bool s, .slice a k c]] w (fun v w' => v = .agg #[.slice a k c, .bool (s && decide (n ≠ 0))] ∧ Ext w w') := by
 refine enter (S := No) (l := [_]) (L := []) 20 Tryz.func57 rfl rfl rfl (St.start w No) ?_; refine yA ?_; refine w_boxA rfl (fun p gp up => ?_)
 refine w_alloc zr86 (fun r gr ur => ?_)
 refine yC ?_; refine zf fa25_1 rfl ?_; refine zl z23 rfl (fun _ h => zc 1 rfl rfl h) ?_; refine w_r (fun _ => R_build bt84 rfl) rfl rfl ?_; refine zf fa25_0 rfl ?_; refine zl z4 rfl (fun _ h => zc 1 rfl rfl h) ?_; refine w_r (fun _ => R_build bt86 rfl) rfl rfl ?_; refine w_alloc zr86 (fun q gq uq => ?_)
 refine w_store 0 rfl z86 rfl rfl rfl rfl rfl rfl rfl ?_; refine yC ?_; refine zf fa25_0 rfl ?_; refine zl z4 rfl (fun _ h => zc 2 rfl rfl h) ?_; refine mB rfl ?_; refine zp (t := 12) rfl (fun h4 => ?_) (fun h4 => ?_)
 ·refine zw rfl rfl (bV h4) ?_; refine zf fa86_0 rfl ?_; refine zw rfl rfl (bV h4) ?_; refine w_loadA z84 rfl (fun _ h => h.at_ 0 rfl) rfl ?_; refine zw rfl rfl (bV h4) ?_; refine zC (fun w => zR Tryz.func87 rfl rfl rfl) rfl rfl (fun w h => zero_ok w ((Kn.old hA).at_ 0 rfl h) (by omega)) ?_; refine zw rfl rfl (bV h4) ?_; refine w_r (fun _ => R_not rfl) rfl rfl ?_; refine w_r (v := .bool _) (fun _ => zT (bV h4) rfl) rfl rfl ?_; refine zf fa86_1 rfl ?_; refine w_store 0 rfl z4 rfl rfl rfl rfl rfl rfl rfl ?_; refine yC ?_; refine w_loadA z86 rfl (fun _ h => h.at_ 0 rfl) rfl ?_; refine w_store 1 rfl z86 rfl rfl rfl rfl rfl rfl rfl ?_; refine yB ?_; refine ze ?_
  subst h4
  refine r_fin (.inl rfl) rfl (.agg rfl rfl z86 (fun _ h => h.at_ 1 rfl) rfl .nil) ?_; exact fun w' hw => ⟨by rw [Bool.true_and, ← not_dec]; rfl, hw.fr (w, No) (.head _)⟩
 ·refine zs rfl rfl (bV h4) ?_; refine zs rfl rfl (bV h4) ?_; refine zs rfl rfl (bV h4) ?_; refine zs rfl rfl (bV h4) ?_; refine w_r (v := .bool _) (fun _ => zF (bV h4) rfl) rfl rfl ?_; refine zf fa86_1 rfl ?_; refine w_store 0 rfl z4 rfl rfl rfl rfl rfl rfl rfl ?_; refine yC ?_; refine w_loadA z86 rfl (fun _ h => h.at_ 0 rfl) rfl ?_; refine w_store 1 rfl z86 rfl rfl rfl rfl rfl rfl rfl ?_; refine yB ?_; refine ze ?_
  subst h4
  refine r_fin (.inl rfl) rfl (.agg rfl rfl z86 (fun _ h => h.at_ 1 rfl) rfl .nil) ?_; exact fun w' hw => ⟨rfl, hw.fr (w, No) (.head _)⟩
set_option maxRecDepth 100000 in
set_option maxHeartbeats 400000 in
theorem zold_ok (s : Bool) {a : Option Addr} {k c n : Nat} (w : World) (hA : Nm w a k c n) (hs : k ≤ 4000000 ∧ sz n ≤ 2048) :
  Ret Tryz.prog 62 #[.bool s, .slice a k c, .int .i64 0] w (Tel (fun a c => .tuple #[.agg #[.bool (s && decide (n ≠ 0)), .slice a (sz (n)) c], .int .i64 0]) (sz n) n w) := by
 refine enter (S := No) (l := [_, _, _]) (L := []) 29 Tryz.func62 rfl rfl rfl (St.start w No) ?_; refine yA ?_; refine w_alloc zr25 (fun r gr ur => ?_)
 refine aI rfl ?_; refine yB ?_; refine zq ?_; refine yA ?_; refine mI rfl ?_; refine w_r (fun _ => R_ne rfl rfl) rfl rfl ?_; refine yB ?_; refine c_condF (congrArg Value.bool (decide_eq_false (by decide))) ?_; refine zi ?_; refine zk ?_; refine yA ?_; refine mS rfl ?_; refine w_tel (fun w => zR Tryz.func73 rfl rfl rfl) rfl rfl (fun w h => NNorm_ok w ((Kn.old hA).at_ 0 rfl h) ⟨by omega, by omega⟩) (fun x2 a2 c2 hK2 hN2 => ?_)
 refine zm rfl ?_; refine w_r (fun _ => R_extract rfl rfl) rfl rfl ?_; refine w_r (fun _ => R_extract rfl rfl) rfl rfl ?_; refine za (v := .slice _ _ _) rfl ?_; refine aI rfl ?_; refine yB ?_; refine zq ?_; refine yA ?_; refine mI rfl ?_; refine w_r (fun _ => R_ne rfl rfl) rfl rfl ?_; refine yB ?_; refine c_condF (congrArg Value.bool (decide_eq_false (by decide))) ?_; refine zi ?_; refine zk ?_; refine yA ?_; refine mB rfl ?_; refine mB rfl ?_; refine zp (t := 22) rfl (fun h3 => ?_) (fun h3 => ?_)
 ·refine zw rfl rfl (bV h3) ?_; refine mS rfl ?_; refine zw rfl rfl (bV h3) ?_; refine w_r (fun _ => R_len sl23 rfl) rfl rfl ?_; refine zw rfl rfl (bV h3) ?_; refine w_r (fun _ => R_gtN (a := (sz n)) (b := 0) rfl rfl) rfl rfl ?_; refine w_r (v := .bool _) (fun _ => zT (bV h3) rfl) rfl rfl ?_; refine mS rfl ?_; refine w_r (fun _ => R_build bt25 rfl) rfl rfl ?_; refine w_store 0 rfl z25 rfl rfl rfl rfl rfl rfl rfl ?_; refine aI rfl ?_; refine yB ?_; refine ze ?_
  subst h3
  refine r_fin (.inl rfl) rfl (.agg rfl rfl z25 (fun _ h => h.at_ 0 rfl) rfl (.tmp rfl rfl .nil)) ?_; exact fun w' hw => ⟨_, _, by rw [Bool.true_and, ← sz_gt]; rfl, hK2.at_ 0 rfl hw, hN2 _ (.head _), hw.fr (w, No) (.tail _ (.head _))⟩
 ·refine zs rfl rfl (bV h3) ?_; refine zs rfl rfl (bV h3) ?_; refine zs rfl rfl (bV h3) ?_; refine w_r (v := .bool _) (fun _ => zF (bV h3) rfl) rfl rfl ?_; refine mS rfl ?_; refine w_r (fun _ => R_build bt25 rfl) rfl rfl ?_; refine w_store 0 rfl z25 rfl rfl rfl rfl rfl rfl rfl ?_; refine aI rfl ?_; refine yB ?_; refine ze ?_
  subst h3
  refine r_fin (.inl rfl) rfl (.agg rfl rfl z25 (fun _ h => h.at_ 0 rfl) rfl (.tmp rfl rfl .nil)) ?_; exact fun w' hw => ⟨_, _, rfl, hK2.at_ 0 rfl hw, hN2 _ (.head _), hw.fr (w, No) (.tail _ (.head _))⟩
set_option maxRecDepth 100000 in
set_option maxHeartbeats 400000 in
theorem zoldE_ok (s : Bool) (a : Option Addr) (k c : Nat) (e9 : Int) (w : World) (he : e9 ≠ 0) :
  Ret Tryz.prog 62 #[.bool s, .slice a k c, .int .i64 e9] w (Tel (fun a c => .tuple #[.agg #[.bool false, .slice a (sz 0) c], .int .i64 e9]) (sz 0) 0 w) := by
 refine enter (S := No) (l := [_, _, _]) (L := []) 29 Tryz.func62 rfl rfl rfl (St.start w No) ?_; refine yA ?_; refine w_alloc zr25 (fun r gr ur => ?_)
 refine aI rfl ?_; refine yB ?_; refine zq ?_; refine yA ?_; refine mI rfl ?_; refine w_r (fun _ => R_ne rfl rfl) rfl rfl ?_; refine yB ?_; refine zD rfl (fun h2 => ?_) (fun h2 => ?_)
 ·refine yA ?_; refine w_r (fun _ => R_build bt25 rfl) rfl rfl ?_; refine mI rfl ?_; refine w_store 0 rfl z25 rfl rfl rfl rfl rfl rfl rfl ?_; refine aI rfl ?_; refine yB ?_; refine ze ?_; refine zt (?_)
  refine r_fin (.inl rfl) rfl (.agg rfl rfl z25 (fun _ h => h.at_ 0 rfl) rfl (.tmp rfl rfl .nil)) ?_; exact fun w' hw => ⟨none, 0, rfl, Nm.nil _, Fsh.nil _ _, hw.fr (w, No) (.head _)⟩
 ·exact absurd (by simpa using h2) he
end Go.Proofs.YtoapegnngbhkbaaGreatDoor
end
