/- Layer 5, DyadRounds: at every two small dyadic numbers and every way, the law of rounding, quotients, scales and grids answers true. Part 3 of 10. -/
import Derived.Test.YtoapegnngbhkbaaGreatDoorR02
import Derived.OrdersIn
section
/- Rows of limbs of one's own. -/
namespace Go.Sx
open Go.RowKit Go.Num
theorem lmV_app {n k m k2 : Nat} (hn : n < Go.Num.B ^ k) : lmV n k ++ lmV m k2 = lmV (n + Go.Num.B ^ k * m) (k + k2) := by
  apply lmV_ext (by simp [lmV_len])
  intro j hj
  rcases Nat.lt_or_ge j k with h | h
  · rw [List.getElem?_append_left (by rw [lmV_len]; exact h), lmV_at h, dg_low B_pos h]
  · rw [List.getElem?_append_right (by rw [lmV_len]; exact h), lmV_len, lmV_at (by omega)]
    have := dg_high (b := Go.Num.B) (x := n) (y := m) (i := j - k) hn
    rw [Nat.add_sub_cancel' h] at this
    rw [this]
theorem lt_app {n k m k2 : Nat} (hn : n < Go.Num.B ^ k) (hm : m < Go.Num.B ^ k2) : n + Go.Num.B ^ k * m < Go.Num.B ^ (k + k2) := by
  rw [Nat.pow_add]
  have h1 : Go.Num.B ^ k * (m + 1) ≤ Go.Num.B ^ k * Go.Num.B ^ k2 := Nat.mul_le_mul_left _ hm
  rw [Nat.mul_add, Nat.mul_one] at h1
  exact Nat.lt_of_lt_of_le (by omega) h1
theorem lmV_putE {n k j d z' : Nat} (hd : d < Go.Num.B) (hj : j < k) (he : setd Go.Num.B n j d = z') : (lmV n k).take (0 + j * 1) ++ [.int .u64 (d : Nat)] ++ (lmV n k).drop (0 + j * 1 + 1) = lmV z' k := by
  rw [lmV_put hd hj, he]
theorem setd_zero {n j d : Nat} (h : dg Go.Num.B n j = 0) : setd Go.Num.B n j d = n + Go.Num.B ^ j * d := by
  have := setd_add (b := Go.Num.B) (n := n) (j := j) (y := d)
  rwa [h, Nat.zero_add] at this
theorem Nm.none0 {w : World} {k c n : Nat} (h : Nm w none k c n) : k = 0 ∧ n = 0 := by
  rcases Nat.eq_zero_or_pos k with h0 | h0
  · subst h0; have := h.lt; rw [Nat.pow_zero] at this; exact ⟨rfl, by omega⟩
  · obtain ⟨b, o, h1, _⟩ := h.cell 0 h0; cases h1
theorem St.oldc {B : Base} {L : Heap} {w0 w : World} {a : Addr} {v : Value} (h : St B L w) (hx : (w0, No) ∈ B) (hc : w0.cell? a = some v) : w.cell? a = some v := (h.fr _ hx).cell hc (fun x => x)
section
variable {B : Base} {L : Heap} {w : World} {b k c n s j : Nat} {T : TypeId} {sp : List Value}
theorem cel_lm (i : Nat) (hi : L[i]? = some (b, cel (lmV n k) T)) (hj : j < k) (h : St B L w) : w.cell? ⟨b, 0 + j * 1, none⟩ = some (.int .u64 (dg Go.Num.B n j : Nat)) :=
  zc i hi (by rw [Nat.zero_add, Nat.mul_one]; exact lmV_at hj) h
theorem Nm.own (i : Nat) (hi : L[i]? = some (b, cel (lmV n k) T)) (hn : n < Go.Num.B ^ k) (hc : k ≤ c) (h : St B L w) : Nm w (some ⟨b, 0, none⟩) k c n :=
  Nm.row (sp := []) (T := T) (by rw [List.append_nil]; exact h.at_ i hi) hn hc
theorem Nm.one (hb : w.heap[b]? = some (cel [.int .u64 (s : Nat)] T)) (hs : s < Go.Num.B) : Nm w (some ⟨b, 0, none⟩) 1 1 s := by
  have e1 : lmV s 1 ++ [] = [.int .u64 (s : Nat)] := by simp [lmV, dg_self hs]
  exact Nm.row (T := T) (by rw [e1]; exact hb) (by rw [Nat.pow_one]; exact hs) (Nat.le_refl _)
theorem Own.lt {v : Value} {W : Heap} (h : Own T 1 v (lmV n k) k W) (hn : n < Go.Num.B ^ k) (A C : Heap) (hs : St B (A ++ (W ++ C)) w) : ∃ a c, v = .slice a k c ∧ Nm w a k c n ∧ (∀ m, (∀ p ∈ W, m ≤ p.1) → Fsh m a k) := by
  obtain ⟨a, c, h1, h2, h3⟩ := h.nm hn
  exact ⟨a, c, h1, h2 w (fun p hp => hs.own p (List.mem_append_right _ (List.mem_append_left _ hp))), h3⟩
/-- a row in hand is told -/
theorem Own.tel {v : Value} {W : Heap} {w0 : World} {F : Option Addr → Nat → Value} {u : Value} (h : Own T 1 v (lmV n k) k W) (hn : n < Go.Num.B ^ k) (A C : Heap) (hB : (w0, No) ∈ B) (hs : St B (A ++ (W ++ C)) w) (hu : ∀ a c, v = .slice a k c → u = F a c) : Tel F k n w0 u w := by
  obtain ⟨a, c, h1, h2, h3⟩ := h.lt hn A C hs
  exact ⟨a, c, hu a c h1, h2, h3 _ (fun p hp => hs.fresh hB (List.mem_append_right _ (List.mem_append_left _ hp))), hs.fr _ hB⟩
end
section
variable {P : Program} {ops : Array Oper} {Q : Exit → Act → World → Prop} {c : Cf} {e : Env} {B : Base} {L : Heap} {rest : List Oper} {d : Nat} {x y : Operand} {T : TypeId} {p : String} {ed : Array Edge} {t te : Nat} {v : Value} {W : Heap} {n k m z cp : Nat} {a : Option Addr}
theorem w_makeU {el bytes : Nat} {kl kc : IntKind} (hT : slT P t el 1 bytes (.int .u64 0)) (hx : ev c.n e x = .int kl (n : Nat)) (hy : ev c.n e y = .int kc (n : Nat)) (hb : bytes * n ≤ 281474976710656) (h63 : n ≤ 9223372036854775807)
    (h : ∀ b, (∀ x ∈ L, x.1 < b) → (∀ x ∈ B, x.1.heap.size ≤ b) → WX .sq P ops c Q rest (upd e d (.slice (some ⟨b, 0, none⟩) n n)) B ((b, cel (lmV 0 n) el) :: L)) :
    WX .sq P ops c Q (⟨some d, .makeSlice t x y, T, p, ed, none⟩ :: rest) e B L := by
  obtain ⟨i, ht, hi, hsz, hby, hz, hzs⟩ := slT_spec hT
  subst hby
  unfold WX at *
  intro w hw
  have hb2 : (i.bytes : Int) * (n : Int) ≤ 281474976710656 := by rw [← Int.natCast_mul]; omega
  have hr := run_make (P := P) w t el i (.int .u64 0) ht hi hz kl kc n n (Int.natCast_nonneg _) (Int.le_refl _) hb2 (by omega)
  have hc : (Value.int .u64 0).cells = #[.int .u64 0] := rfl
  rw [hc, Int.toNat_natCast, hsz, Nat.mul_one, made_one, ← lmV_zero] at hr
  exact s_run (by unfold Run; simp only [execOp, hx, hy, Sem.run_bind, hr, Result.andThen_ok]; rfl) rfl rfl (h w.heap.size (fun p hp => lt_of_blk (hw.own p hp)) (fun x hx => (hw.fr x hx).size) _ hw.new)
theorem w_bslice0 {el kk bytes : Nat} {zv : Value} (hT : slT P t el kk bytes zv)
    (h : ∀ b, (∀ x ∈ L, x.1 < b) → (∀ x ∈ B, x.1.heap.size ≤ b) → WX .sq P ops c Q rest (upd e d (.slice (some ⟨b, 0, none⟩) 0 0)) B ((b, cel [] el) :: L)) : WX .sq P ops c Q (⟨some d, .buildSlice t 0 #[], T, p, ed, none⟩ :: rest) e B L := by
  obtain ⟨ti, ht, hti, hsize, hby, hz, hzs⟩ := slT_spec hT
  unfold WX at *
  intro w hw
  refine s_run (v := .slice (some ⟨w.heap.size, 0, none⟩) 0 0) (w' := w.alloc (cel [] el)) ?_ rfl rfl (h w.heap.size (fun p hp => lt_of_blk (hw.own p hp)) (fun x hx => (hw.fr x hx).size) _ hw.new)
  unfold Run
  simp only [execOp, Instr.buildSlice, Sem.run_bind, run_underlying ht, Result.andThen_ok, sizeOf, typeInfo, run_program, hti, Sem.run_pure, Nat.zero_mul]
  have h0 : Array.range 0 = (#[] : Array Nat) := Array.eq_empty_of_size_eq_zero (by simp)
  simp [newRow, run_newObj, Result.andThen, Instr.fill, cel]
  rw [h0]; simp
theorem own_lit0 {T : TypeId} {k : Nat} {q : Nat} : Own T k (.slice (some ⟨q, 0, none⟩) 0 0) [] 0 [(q, cel [] T)] := ⟨by simp, .inr ⟨q, 0, [], rfl, Nat.le_refl _, by simp, by simp⟩⟩
/-- a number behind a row of one's own -/
theorem app_num (A : Heap) {w : World} {ρ : Operand → Value} {D : Option Tmp} {g : Option (Nat × Bool)} (hT : slT P t te 1 8 (.int .u64 0)) (hx : ρ x = v) (hv : Own te 1 v (lmV z k) k W) (hz : z < Go.Num.B ^ k) (hy : ρ y = .slice a m cp) (hN : ∀ w, St B (A ++ (W ++ L)) w → Nm w a m cp n) (hs : k + m ≤ 8000000) (hw : St B (A ++ (W ++ L)) w) :
    ∃ v' w' W', Run P ⟨D, .call ⟨.builtin .append, #[x, y], #[t, t]⟩, T, p, ed, g⟩ ρ w v' w' ∧ Own te 1 v' (lmV (z + Go.Num.B ^ k * n) (k + m)) (k + m) W' ∧ St B (A ++ (W' ++ L)) w' := by
  by_cases h0 : m = 0
  · subst h0
    obtain ⟨i, ht, hi, hsz, _, _, _⟩ := slT_spec hT
    obtain ⟨a1, c1, rfl⟩ := hv.slice
    have hn0 : n = 0 := by have := (hN w hw).lt; rw [Nat.pow_zero] at this; omega
    subst hn0
    have hs2 : Src P i.size t (.slice a 0 cp) 0 [] w := ⟨.inl ⟨te, ht⟩, fun _ => rfl, by cases a <;> simp [Builtin.firstCells, go_sem], by cases a <;> simp [Builtin.firstCells, go_sem], by simp, by simp⟩
    have hr := _root_.Go.run_append_nothing (P := P) w t t T te i ht hi a1 k c1 (Own.le hv) _ hs2
    exact ⟨_, _, W, R_append hx hy hr, by simpa using hv, hw⟩
  · obtain ⟨b, o, rfl⟩ := (hN w hw).ptr (by omega)
    have hl : (lmV n m).length = m * 1 := by rw [lmV_len, Nat.mul_one]
    obtain ⟨v', w', L2, h1, h2, h3⟩ := app_run (ρ := ρ) (D := D) (g := g) (x := x) (y := y) (T := T) (p := p) (ed := ed) (A := A) (L := L) (news := lmV n m) hT (by decide) hx (hv.toR A L) hy hl (fun w hw j u hj => (hN w hw).news j u hj) (lmV_one n m) (by omega) (by omega) (by omega) hw
    obtain ⟨W', h4, rfl⟩ := h2.own
    refine ⟨v', w', W', h1, ?_, h3⟩
    rwa [lmV_app hz] at h4
theorem w_appN (A : Heap) (hT : slT P t te 1 8 (.int .u64 0)) (hx : ev c.n e x = v) (hv : Own te 1 v (lmV z k) k W) (hz : z < Go.Num.B ^ k) (hy : ev c.n e y = .slice a m cp) (hN : ∀ w, St B (A ++ (W ++ L)) w → Nm w a m cp n) (hs : k + m ≤ 8000000)
    (h : ∀ v' W', Own te 1 v' (lmV (z + Go.Num.B ^ k * n) (k + m)) (k + m) W' → WX .sq P ops c Q rest (upd e d v') B (A ++ (W' ++ L))) : WX .sq P ops c Q (⟨some d, .call ⟨.builtin .append, #[x, y], #[t, t]⟩, T, p, ed, none⟩ :: rest) e B (A ++ (W ++ L)) := by
  unfold WX at *
  intro w hw
  obtain ⟨v', w', W', h1, h2, h3⟩ := app_num (D := some d) (T := T) (p := p) (ed := ed) (g := none) A hT hx hv hz hy hN hs hw
  exact s_run h1 rfl rfl (h v' W' h2 w' h3)
/-- an own row's store -/
theorem w_putU {T2 ty : TypeId} {b j dv z' : Nat} {pp : String} {aa : Array Edge} (i : Nat) (hi : L[i]? = some (b, cel (lmV z k) T2)) (hz : szB P t 1 false = true) (hx : ev c.n e x = .pointer (some ⟨b, 0 + j * 1, none⟩)) (hy : ev c.n e y = .int .u64 (dv : Nat)) (hd : dv < Go.Num.B) (hj : j < k) (he : setd Go.Num.B z j dv = z')
    (h : WX .sq P ops c Q rest e B (L.set i (b, cel (lmV z' k) T2))) : WX .sq P ops c Q (⟨none, .store t x y, ty, pp, aa, none⟩ :: rest) e B L :=
  w_store (v := .int .u64 (dv : Nat)) (vs := [.int .u64 (dv : Nat)]) i hi hz hx hy rfl rfl rfl (by rw [lmV_len, Nat.ble_eq]; omega) (lmV_putE hd hj he) h
theorem w_tailU {T2 ty : TypeId} {b j dv z' : Nat} {pp : String} {aa : Array Edge} (i : Nat) (hi : L[i]? = some (b, cel (lmV z k) T2)) (hz : szB P t 1 false = true) (hx : ev c.n e x = .pointer (some ⟨b, 0 + j * 1, none⟩)) (hy : ev c.n e y = .int .u64 (dv : Nat)) (hd : dv < Go.Num.B) (hj : j < k) (he : setd Go.Num.B z j dv = z')
    (h : WK c Q .normal e B (L.set i (b, cel (lmV z' k) T2))) : WX (.st [⟨none, .store t x y, ty, pp, aa, none⟩]) P ops c Q [] e B L :=
  w_tailst (v := .int .u64 (dv : Nat)) (vs := [.int .u64 (dv : Nat)]) i hi hz hx hy rfl rfl rfl (by rw [lmV_len, Nat.ble_eq]; omega) (lmV_putE hd hj he) h
end
theorem lmV_inj {n m k : Nat} (hn : n < Go.Num.B ^ k) (hm : m < Go.Num.B ^ k) (h : ∀ j, j < k → dg Go.Num.B n j = dg Go.Num.B m j) : n = m := by
  have := eq_of_dg (b := Go.Num.B) (x := n) (y := m) k h
  rwa [Nat.mod_eq_of_lt hn, Nat.mod_eq_of_lt hm] at this
end Go.Sx
end
section
/- The plain part of the natural numbers: halves of limbs put together, shifts by any number of bits, bits. -/
namespace Go.Num
/-! the document's `made` -/
/-! shifts -/
theorem pow_split (n w : Nat) : 2 ^ n = (2 ^ w) ^ (n / w) * 2 ^ (n % w) := by
  rw [← Nat.pow_mul, ← Nat.pow_add, Nat.div_add_mod]
theorem shl32 (a n : Nat) : a * 2 ^ n = b32 ^ (n / 32) * (a * 2 ^ (n % 32)) := by
  rw [pow_split n 32, ← b32_two, Nat.mul_left_comm]
theorem shl64 (a n : Nat) : a * 2 ^ n = B ^ (n / 64) * (a * 2 ^ (n % 64)) := by
  rw [pow_split n 64, ← B_two, Nat.mul_left_comm]
theorem shr64 (a n : Nat) : a / 2 ^ n = a / B ^ (n / 64) / 2 ^ (n % 64) := by
  rw [pow_split n 64, ← B_two, Nat.div_div_eq_div_mul]
/-- a shift down, by a shift up and a limb less -/
theorem shr_up (a : Nat) {r : Nat} (hr : r < 64) : a * 2 ^ (64 - r) / B = a / 2 ^ r := by
  have e : B = 2 ^ r * 2 ^ (64 - r) := by rw [← Nat.pow_add, B_two]; congr 1; omega
  rw [e, Nat.mul_div_mul_right _ _ (Nat.pow_pos (by decide))]
/-- a digit of a number shifted down -/
theorem shr32 (a n k : Nat) : dg b32 (a / 2 ^ n) k = (dg b32 a (n / 32 + k) + dg b32 a (n / 32 + k + 1) * b32) / 2 ^ (n % 32) % b32 := by
  have hs : n % 32 < 32 := Nat.mod_lt _ (by decide)
  have e0 : a / 2 ^ n / b32 ^ k = a / b32 ^ (n / 32 + k) / 2 ^ (n % 32) := by
    rw [pow_split n 32, ← b32_two, Nat.div_div_eq_div_mul, Nat.div_div_eq_div_mul, Nat.pow_add]
    congr 1
    rw [Nat.mul_assoc, Nat.mul_assoc, Nat.mul_comm (2 ^ _)]
  have e1 := div_step b32 a (n / 32 + k)
  have e2 := div_step b32 a (n / 32 + k + 1)
  unfold dg at *
  rw [e0]
  generalize a / b32 ^ (n / 32 + k) = w at *
  generalize a / b32 ^ (n / 32 + k + 1) = w1 at *
  generalize a / b32 ^ (n / 32 + k + 1 + 1) = w2 at *
  generalize n % 32 = s at *
  have e3 : b32 * b32 = 2 ^ s * (b32 * 2 ^ (32 - s)) := by
    rw [Nat.mul_left_comm, ← Nat.pow_add, show s + (32 - s) = 32 by omega, ← b32_two]
  have e4 : w = (w % b32 + w1 % b32 * b32) + 2 ^ s * (b32 * 2 ^ (32 - s) * w2) := by
    rw [← Nat.mul_assoc, ← e3]
    conv => lhs; rw [e1, e2, Nat.mul_add, Nat.mul_comm b32 (w1 % b32), ← Nat.mul_assoc]
    omega
  conv => lhs; rw [e4]
  rw [Nat.add_mul_div_left _ _ (Nat.pow_pos (by decide)), Nat.mul_assoc, Nat.add_mul_mod_self_left]
/-! bits -/
theorem limb_bit (n i : Nat) : dg B n (i / 64) / 2 ^ (i % 64) % 2 = n / 2 ^ i % 2 := by
  have h1 := Nat.mod_lt i (show 0 < 64 by decide)
  have e : 2 ^ i = B ^ (i / 64) * 2 ^ (i % 64) := by rw [B_two]; exact pow_split i 64
  unfold dg
  rw [e, ← Nat.div_div_eq_div_mul]
  generalize n / B ^ (i / 64) = w
  generalize i % 64 = s at *
  have e2 : B = 2 ^ s * (2 * 2 ^ (63 - s)) := by
    rw [Nat.mul_left_comm, ← Nat.pow_add, ← Nat.pow_succ', B_two]; congr 1; omega
  rw [e2, Nat.mod_mul_right_div_self, Nat.mod_mul_right_mod]
theorem bl_down {n k : Nat} (h : bl n ≤ k + 1) (h0 : n / 2 ^ k % 2 = 0) : bl n ≤ k := by
  have h1 := bl_iff.1 h
  refine bl_iff.2 ?_
  have h2 : n / 2 ^ k < 2 := by
    refine (Nat.div_lt_iff_lt_mul (Nat.pow_pos (by decide))).2 ?_
    rw [Nat.mul_comm, ← Nat.pow_succ]; exact h1
  have h3 : n / 2 ^ k = 0 := by generalize n / 2 ^ k = q at *; omega
  rcases Nat.lt_or_ge n (2 ^ k) with h4 | h4
  · exact h4
  · have := Nat.div_pos h4 (Nat.pow_pos (by decide)); omega
theorem bl_up {n k : Nat} (h : bl n ≤ k + 1) (h0 : n / 2 ^ k % 2 ≠ 0) : bl n = k + 1 := by
  rcases Nat.lt_or_ge (bl n) (k + 1) with h1 | h1
  · have h2 := bl_iff.1 (by omega : bl n ≤ k)
    rw [Nat.div_eq_of_lt h2] at h0
    exact absurd rfl h0
  · omega
/-- bits by the top limb -/
theorem bl_limb {n : Nat} (h : n ≠ 0) : bl n = 64 * (sz n - 1) + bl (dg B n (sz n - 1)) := by
  have hp := sz_pos h
  have ht := top_ne h
  have h1 := lt_sz n
  have h2 := div_step B n (sz n - 1)
  rw [show sz n - 1 + 1 = sz n by omega, Nat.div_eq_of_lt h1, Nat.mul_zero, Nat.add_zero] at h2
  generalize dg B n (sz n - 1) = t at *
  generalize sz n - 1 = k at *
  have h3 := Nat.mod_lt n (Bpow_pos k)
  have h4 := Nat.mod_add_div n (B ^ k)
  rw [h2] at h4
  generalize n % B ^ k = r at *
  have h5 := bl_ge ht
  have h6 := lt_bl t
  have h7 := bl_pos ht
  have e : 64 * k + bl t = (64 * k + (bl t - 1)) + 1 := by omega
  rw [e, ← h4]
  refine bl_eq ?_ ?_
  · rw [Nat.pow_add, ← B_pow]
    exact Nat.le_trans (Nat.mul_le_mul_left _ h5) (Nat.le_add_left _ _)
  · rw [show 64 * k + (bl t - 1) + 1 = 64 * k + bl t by omega, Nat.pow_add, ← B_pow]
    have : B ^ k * (t + 1) ≤ B ^ k * 2 ^ bl t := Nat.mul_le_mul_left _ h6
    rw [Nat.mul_add] at this; omega
end Go.Num
end
section
namespace Go.Proofs.YtoapegnngbhkbaaGreatDoor
open Go.RowKit Go.Sx
open Go.Num
theorem bl_half {x : Nat} (h : x ≠ 0) : bl x = 1 + bl (x / 2) := by
  unfold bl
  rw [if_neg h]
  by_cases h2 : x < 2
  · obtain rfl : x = 1 := by omega
    rfl
  · rw [if_neg (by omega), Nat.log2_def, if_pos (by omega)]; omega
theorem bitLenAux_bl : ∀ (f x : Nat), x < 2 ^ f → Lib.bitLenAux f x = bl x
  | 0, x, h => by
    obtain rfl : x = 0 := by simpa using h
    rfl
  | f + 1, x, h => by
    unfold Lib.bitLenAux
    split
    · rename_i h0; subst h0; rfl
    · rename_i h0
      rw [bitLenAux_bl f (x / 2) (by rw [Nat.pow_succ] at h; omega), bl_half h0]
theorem bitLen_bl {n : Nat} (h : n < Go.Num.B) : Lib.bitLen n = bl n := bitLenAux_bl 64 n h
theorem Len64_ok (x : Nat) (w : World) (h : x < Go.Num.B) : Ret Tryz.prog 79 #[.int .u64 (x : Nat)] w fun v w' => v = .int .i64 (bl x : Nat) ∧ Ext w w' :=
  Calls.mono (Tryz.bits_Len64 (x : Nat) w (by omega) (by have h5 : x < 18446744073709551616 := h; omega)) fun e w' ⟨h1, h2⟩ => ⟨_, h1, by rw [Int.toNat_natCast, bitLen_bl h], by rw [h2]; exact Fr.refl _ _⟩
theorem LZ64_ok (x : Nat) (w : World) (h : x < Go.Num.B) : Ret Tryz.prog 137 #[.int .u64 (x : Nat)] w fun v w' => v = .int .i64 ((64 - bl x : Nat) : Int) ∧ Ext w w' :=
  Calls.mono (Tryz.bits_LeadingZeros64 (x : Nat) w (by omega) (by have h5 : x < 18446744073709551616 := h; omega)) fun e w' ⟨h1, h2⟩ => ⟨_, h1, by
    have h3 : bl x ≤ 64 := bl_iff.2 (by rw [← B_two]; exact h)
    rw [Int.toNat_natCast, bitLen_bl h]; congr 1; omega, by rw [h2]; exact Fr.refl _ _⟩
theorem Mul64_ok (x y : Nat) (w : World) (hx : x < Go.Num.B) (hy : y < Go.Num.B) : Ret Tryz.prog 130 #[.int .u64 (x : Nat), .int .u64 (y : Nat)] w fun v w' => v = .tuple #[.int .u64 ((x * y / Go.Num.B : Nat) : Int), .int .u64 ((x * y % Go.Num.B : Nat) : Int)] ∧ Ext w w' :=
  Calls.mono (Tryz.bits_Mul64 x y hx hy w) fun e w' ⟨h1, h2⟩ => ⟨_, h1, rfl, by rw [h2]; exact Fr.refl _ _⟩
theorem add64 (x y c : Nat) (h : c ≤ 1) (w : World) : (callFunc 112 #[.int .u64 (x : Nat), .int .u64 (y : Nat), .int .u64 (c : Nat)]).run Tryz.prog w = .ok (.value (.tuple #[.int .u64 (((x + y + c) % Go.Num.B : Nat) : Int), .int .u64 (((x + y + c) / Go.Num.B : Nat) : Int)])) w :=
  add64_call (fn := Tryz.f112) Tryz.func112 (by kernel_rfl) (by kernel_rfl) (by kernel_rfl) (by kernel_rfl) x y c h w
theorem sub64 (x y c : Nat) (h : c ≤ 1) (w : World) : (callFunc 153 #[.int .u64 (x : Nat), .int .u64 (y : Nat), .int .u64 (c : Nat)]).run Tryz.prog w = .ok (.value (.tuple #[.int .u64 (((x + Go.Num.B - y - c) % Go.Num.B : Nat) : Int), .int .u64 ((if x < y + c then 1 else 0 : Nat) : Int)])) w :=
  sub64_call (fn := Tryz.f153) Tryz.func153 (by kernel_rfl) (by kernel_rfl) (by kernel_rfl) (by kernel_rfl) x y c h w
end Go.Proofs.YtoapegnngbhkbaaGreatDoor
end
section
namespace Go.Proofs.YtoapegnngbhkbaaGreatDoor
open Go.RowKit Go.Sx
open Go.Num
set_option maxRecDepth 100000 in
set_option maxHeartbeats 400000 in
theorem Clone_ok {a : Option Addr} {k c n : Nat} (w : World) (hA : Nm w a k c n) (hk : k ≤ 4000000) :
  Ret Tryz.prog 109 #[.slice a k c] w (Tel (fun a c => .slice a k c) k n w) := by
 refine enter (S := No) (l := [_]) (L := []) 8 Tryz.func109 rfl rfl rfl (St.start w No) ?_; refine yA ?_; refine za (v := .slice _ _ _) rfl ?_; refine yB ?_; refine zq ?_; refine yA ?_; refine mS rfl ?_; refine w_r (fun _ => R_isnil un23 rfl rfl) rfl rfl ?_; refine yB ?_; refine c_cond rfl (fun h1 => ?_) (fun h1 => ?_)
 ·obtain rfl : a = none := Option.isNone_iff_eq_none.1 h1; obtain ⟨rfl, rfl⟩ := hA.none0
  refine yA ?_; refine za (v := .slice _ _ _) rfl ?_; refine yB ?_; refine ze ?_; refine zt (?_)
  refine zo (v := .slice _ _ _) rfl rfl rfl ?_; exact fun w' hw => ⟨none, 0, rfl, Nm.nil _, Fsh.nil _ _, hw.fr (w, No) (.head _)⟩
 ·refine zi ?_; refine zk ?_; refine yA ?_; refine w_bslice0 slt23 (fun b2 gb2 ub2 => ?_)
  refine mS rfl ?_; refine w_st (B' := _) (L' := [] ++ ([(b2, cel [] 66)] ++ [])) (fun w h => h) ?_; refine w_appN (z := 0) (k := 0) [] slt23 rfl own_lit0 (by decide) rfl (fun w h => ((Kn.old hA).at_ 0 rfl h)) (by omega) (fun v1 W1 hO1 => ?_)
  refine za (v := v1) rfl ?_; refine yB ?_; refine ze ?_; refine zo (v := v1) rfl rfl rfl ?_; exact fun w' hw => Own.tel (k := k) (n := n) (by simpa using hO1) hA.lt [] [] (.head _) hw (fun a c h => h)
set_option maxRecDepth 100000 in
set_option maxHeartbeats 400000 in
theorem normal_ok {a : Option Addr} {k c n : Nat} (w : World) (hA : Nm w a k c n) (hk : k ≤ 4000000) :
  Ret Tryz.prog 78 #[.slice a k c] w (Tel (fun a c => .slice a (sz n) c) (sz n) n w) := by
 refine enter (S := No) (l := [_]) (L := []) 23 Tryz.func78 rfl rfl rfl (St.start w No) ?_; refine yA ?_; refine za (v := .slice _ _ _) rfl ?_; refine yC ?_; refine mS rfl ?_; refine w_r (fun _ => R_len sl23 rfl) rfl rfl ?_; refine aI rfl ?_; refine yB ?_; refine zq ?_; refine zB ?_; refine c_loop (fun m9 e B L => ∃ (j : Nat), e 0 = .slice a k c ∧ e 3 = .int .i64 (j : Nat) ∧ B = [(w, No)] ∧ L = [] ∧ j ≤ k ∧ n < Go.Num.B ^ j ∧ m9 = j + 1) _ ⟨k, rfl, rfl, rfl, rfl, Nat.le_refl _, hA.lt, rfl⟩ ?_
 rintro m9 e B L ⟨j, e0_1, e3_1, rfl, rfl, hj, hlt, rfl⟩
 refine zq ?_; refine yA ?_; refine mI e3_1 ?_; refine w_r (fun _ => R_gtN (a := j) (b := 0) rfl rfl) rfl rfl ?_; refine mB rfl ?_; refine zd (t := 8) rfl (fun h1 => ?_) (fun h1 => ?_)
 ·obtain ⟨i, rfl⟩ : ∃ i, j = i + 1 := ⟨j - 1, by omega⟩
  refine zw rfl rfl (bT h1) ?_; refine mS e0_1 ?_; refine zw rfl rfl (bT h1) ?_; refine mI e3_1 ?_; refine zw rfl rfl (bT h1) ?_; refine w_r (fun _ => R_subN (n := (i + 1)) (b := 1) rfl rfl (by omega) (by omega)) rfl rfl ?_; refine zw rfl rfl (bT h1) ?_; refine w_r (fun _ => R_iaK (i := ((i + 1) - 1)) sl23 rfl ((Kn.old hA).ptr (by omega)) rfl (by omega)) rfl rfl ?_; refine zw rfl rfl (bT h1) ?_; refine zl (v := .int .u64 ((dg Go.Num.B n ((i + 1) - 1)) : Nat)) z66 rfl (fun w h => (Kn.old hA).ca 0 rfl (by omega) h) ?_; refine zw rfl rfl (bT h1) ?_; refine w_r (fun _ => R_eqN (a := (dg Go.Num.B n ((i + 1) - 1))) (b := 0) rfl rfl) rfl rfl ?_; refine w_r (v := .bool _) (fun _ => zT (bT h1) rfl) rfl rfl ?_; refine yB ?_; refine zD rfl (fun h2 => ?_) (fun h2 => ?_)
  ·refine zi ?_; refine zk ?_; refine zB ?_; refine zr ?_; refine mI e3_1 ?_; refine w_r (fun _ => R_subN (n := (i + 1)) (b := 1) rfl rfl (by omega) (by omega)) rfl rfl ?_; refine aI rfl ?_; refine zn ?_; refine b_on (?_)
   exact k_again _ (by omega) ⟨i, e0_1, rfl, rfl, rfl, by omega, lt_of_dg hlt h2, rfl⟩
  ·have hz := sz_of_top hlt h2
   refine c_exit ?_; refine zx (zx (b_here rfl (zk ?_))); refine yA ?_; refine mS e0_1 ?_; refine mI e3_1 ?_; refine mI e3_1 ?_; refine w_r (fun _ => R_cutN (q := (i + 1)) sl23 rfl rfl rfl (Nat.le_trans (by omega) (Kn.old hA).kc)) rfl rfl ?_; refine w_tel (fun w => zR Tryz.func109 rfl rfl rfl) rfl rfl (fun w h => Clone_ok w (((Kn.old hA).cut (q := (i + 1)) (by omega) hlt _ (Nat.le_refl _)).at_ 0 rfl h) (by omega)) (fun x3 a3 c3 hK3 hN3 => ?_)
   refine za (v := .slice _ _ _) rfl ?_; refine yB ?_; refine ze ?_
   rw [hz]
   refine zo (v := .slice _ _ _) rfl rfl rfl ?_; exact fun w' hw => ⟨_, _, rfl, (hK3.at_ 0 rfl hw), (hN3 _ (.head _)), hw.fr (w, No) (.tail _ (.head _))⟩
 ·have hz : sz n = j := (by have hj0 : j = 0 := (by omega); subst hj0; exact sz_eq_zero.2 (by simpa using hlt))
  refine zs rfl rfl (bF h1) ?_; refine zs rfl rfl (bF h1) ?_; refine zs rfl rfl (bF h1) ?_; refine zs rfl rfl (bF h1) ?_; refine zs rfl rfl (bF h1) ?_; refine zs rfl rfl (bF h1) ?_; refine w_r (v := .bool _) (fun _ => zF (bF h1) rfl) rfl rfl ?_; refine yB ?_; refine c_condF rfl ?_; refine c_exit ?_; refine zx (zx (b_here rfl (zk ?_))); refine yA ?_; refine mS e0_1 ?_; refine mI e3_1 ?_; refine mI e3_1 ?_; refine w_r (fun _ => R_cutN (q := j) sl23 rfl rfl rfl (Nat.le_trans (by omega) (Kn.old hA).kc)) rfl rfl ?_; refine w_tel (fun w => zR Tryz.func109 rfl rfl rfl) rfl rfl (fun w h => Clone_ok w (((Kn.old hA).cut (q := j) (by omega) hlt _ (Nat.le_refl _)).at_ 0 rfl h) (by omega)) (fun x4 a4 c4 hK4 hN4 => ?_)
  refine za (v := .slice _ _ _) rfl ?_; refine yB ?_; refine ze ?_
  rw [hz]
  refine zo (v := .slice _ _ _) rfl rfl rfl ?_; exact fun w' hw => ⟨_, _, rfl, (hK4.at_ 0 rfl hw), (hN4 _ (.head _)), hw.fr (w, No) (.tail _ (.head _))⟩
set_option maxRecDepth 100000 in
set_option maxHeartbeats 400000 in
theorem told_ok {a : Option Addr} {k c n : Nat} (w : World) (hA : Nm w a k c n) (hs : k ≤ 4000000 ∧ sz n ≤ 2048) :
  Ret Tryz.prog 105 #[.slice a k c] w (Tel (fun a c => .tuple #[.slice a (sz n) c, .int .i64 0]) (sz n) n w) := by
 refine enter (S := No) (l := [_]) (L := []) 13 Tryz.func105 rfl rfl rfl (St.start w No) ?_; refine yA ?_; refine za (v := .slice _ _ _) rfl ?_; refine aI rfl ?_; refine yC ?_; refine mS rfl ?_; refine w_tel (fun w => zR Tryz.func78 rfl rfl rfl) rfl rfl (fun w h => normal_ok w ((Kn.old hA).at_ 0 rfl h) (by omega)) (fun x1 a1 c1 hK1 hN1 => ?_)
 refine za (v := .slice _ _ _) rfl ?_; refine yB ?_; refine zq ?_; refine yA ?_; refine mS rfl ?_; refine w_r (fun _ => R_len sl23 rfl) rfl rfl ?_; refine w_r (fun _ => R_gtN (a := (sz n)) (b := 2048) rfl rfl) rfl rfl ?_; refine yB ?_; refine zD rfl (fun h2 => ?_) (fun h2 => ?_)
 ·exact absurd h2 (by omega)
 ·refine zi ?_; refine zk ?_; refine zq ?_; refine yA ?_; refine mS rfl ?_; refine w_r (fun _ => R_len sl23 rfl) rfl rfl ?_; refine w_r (fun _ => R_eqN (a := (sz n)) (b := 0) rfl rfl) rfl rfl ?_; refine yB ?_; refine zD rfl (fun h3 => ?_) (fun h3 => ?_)
  ·obtain rfl : n = 0 := sz_eq_zero.1 h3
   refine yA ?_; refine za (v := .slice _ _ _) rfl ?_; refine aI rfl ?_; refine yB ?_; refine ze ?_; refine zt (?_)
   refine r_two (v := .slice _ _ _) (v2 := .int _ _) rfl rfl rfl rfl rfl ?_; exact fun w' hw => ⟨none, 0, rfl, Nm.nil _, Fsh.nil _ _, hw.fr (w, No) (.tail _ (.head _))⟩
  ·refine zi ?_; refine zk ?_; refine yA ?_; refine mS rfl ?_; refine za (v := .slice _ _ _) rfl ?_; refine aI rfl ?_; refine yB ?_; refine ze ?_; refine r_two (v := .slice _ _ _) (v2 := .int _ _) rfl rfl rfl rfl rfl ?_; exact fun w' hw => ⟨_, _, rfl, (hK1.at_ 0 rfl hw), (hN1 _ (.head _)), hw.fr (w, No) (.tail _ (.head _))⟩
set_option maxRecDepth 100000 in
set_option maxHeartbeats 400000 in
theorem long1f_ok {a : Option Addr} {k c n : Nat} (w : World) (hA : Nm w a k c n) (hs : k ≤ 4000000 ∧ sz n ≤ 2048) :
  Ret Tryz.prog 118 #[.slice a k c] w (fun v w' => v = .bool false ∧ Ext w w') := by
 refine enter (S := No) (l := [_]) (L := []) 7 Tryz.func118 rfl rfl rfl (St.start w No) ?_; refine yA ?_; refine aB rfl ?_; refine yC ?_; refine mS rfl ?_; refine w_tel (fun w => zR Tryz.func78 rfl rfl rfl) rfl rfl (fun w h => normal_ok w ((Kn.old hA).at_ 0 rfl h) (by omega)) (fun x1 a1 c1 hK1 hN1 => ?_)
 refine w_r (fun _ => R_len sl23 rfl) rfl rfl ?_; refine w_r (fun _ => R_gtN (a := (sz n)) (b := 2048) rfl rfl) rfl rfl ?_; refine aB rfl ?_; refine yB ?_; refine ze ?_; refine zo (v := .bool _) rfl rfl rfl ?_; exact fun w' hw => ⟨congrArg Value.bool (decide_eq_false (by omega)), hw.fr (w, No) (.tail _ (.head _))⟩
/-- slices of limbs, one behind the other -/
abbrev nsV (l : List (Option Addr × Nat × Nat × Nat)) : List Value := l.map fun q => .slice q.1 q.2.1 q.2.2.1
def nsN (w : World) (l : List (Option Addr × Nat × Nat × Nat)) : Prop := ∀ q ∈ l, Nm w q.1 q.2.1 q.2.2.1 q.2.2.2 ∧ q.2.1 ≤ 4000000 ∧ sz q.2.2.2 ≤ 2048
theorem nsV_cell {w : World} {l : List (Option Addr × Nat × Nat × Nat)} {b i : Nat} {T : TypeId} {q : Option Addr × Nat × Nat × Nat} (hb : w.heap[b]? = some (cel (nsV l) T)) (hq : l[i]? = some q) : w.cell? ⟨b, 0 + i * 1, none⟩ = some (.slice q.1 q.2.1 q.2.2.1) := by
 rw [Nat.zero_add, Nat.mul_one]
 simp [World.cell?, hb, hq]
theorem nsN_ext {w w' : World} {l : List (Option Addr × Nat × Nat × Nat)} (h : nsN w l) (k : Ext w w') : nsN w' l := fun q hq => ⟨(h q hq).1.ext k, (h q hq).2⟩
theorem _root_.Go.Sx.St.oldb {B : Base} {L : Heap} {w0 w : World} {b : Nat} {o : Obj} (h : St B L w) (hx : (w0, No) ∈ B) (hc : w0.heap[b]? = some o) : w.heap[b]? = some o := (h.fr _ hx).get hc (fun x => x)
set_option maxRecDepth 100000 in
set_option maxHeartbeats 400000 in
theorem longI_ok (l : List (Option Addr × Nat × Nat × Nat)) (b c : Nat) (T : TypeId) (w : World) (hb : w.heap[b]? = some (cel (nsV l) T)) (hN : nsN w l) (hl : l.length ≤ 1000) :
  Ret Tryz.prog 144 #[.slice (some ⟨b, 0, none⟩) l.length c, .func (.func 118) #[] #[]] w (fun v w' => v = .int .i64 (-1) ∧ Ext w w') := by
 refine enter (S := No) (l := [_, _]) (L := []) 19 Tryz.func144 rfl rfl rfl (St.start w No) ?_; refine yA ?_; refine aI rfl ?_; refine yB ?_; refine zq ?_; refine yA ?_; refine mS rfl ?_; refine w_r (fun _ => R_len sl139 rfl) rfl rfl ?_; refine mI rfl ?_; refine yB ?_; refine zB ?_; refine c_loop (fun m9 e B L => ∃ (i : Nat), e 0 = .slice (some ⟨b, 0, none⟩) l.length c ∧ e 1 = .func (.func 118) #[] #[] ∧ e 7 = .int .i64 (l.length : Nat) ∧ e 8 = .int .i64 (i : Nat) ∧ B = [(w, No)] ∧ L = [] ∧ i ≤ l.length ∧ m9 = l.length - i) _ ⟨0, rfl, rfl, rfl, rfl, rfl, rfl, Nat.zero_le _, rfl⟩ ?_
 rintro m9 e B L ⟨i, e0_1, e1_1, e7_1, e8_1, rfl, rfl, hi, rfl⟩
 refine yA ?_; refine w_r (fun _ => R_ltN (a := i) (b := (l.length)) e8_1 e7_1) rfl rfl ?_; refine yB ?_; refine zq ?_; refine zD rfl (fun h1 => ?_) (fun h1 => ?_)
 ·obtain ⟨q, hq⟩ : ∃ q, l[i]? = some q := ⟨_, List.getElem?_eq_getElem h1⟩; have hqN := hN q (List.mem_of_getElem? hq)
  refine zi ?_; refine zk ?_; refine zq ?_; refine zB ?_; refine yA ?_; refine mI e8_1 ?_; refine aI rfl ?_; refine yC ?_; refine zm e1_1 ?_; refine mS e0_1 ?_; refine mI rfl ?_; refine w_r (fun _ => R_iaN (i := i) sl139 rfl rfl (by first | omega | decide | exact Nat.succ_pos _ | exact Nat.succ_lt_succ (Nat.succ_pos _))) rfl rfl ?_; refine zl (v := .slice q.1 q.2.1 q.2.2.1) z23 rfl (fun w1 h => h.oldc (.head _) (nsV_cell hb hq)) ?_; refine zC (fun w => R_callv rfl Tryz.func118 rfl rfl) rfl rfl (fun w h => long1f_ok w (hqN.1.ext (h.fr (_, No) (.head _))) hqN.2) ?_; refine zn ?_
  refine zk ?_; refine c_condF rfl ?_; refine zi ?_; refine b_on (zk ?_); refine zr ?_; refine w_r (fun _ => R_addN (n := i) (b := 1) e8_1 rfl (by omega)) rfl rfl ?_; refine mI rfl ?_; refine zn ?_; exact k_again _ (by omega) ⟨i + 1, e0_1, e1_1, e7_1, rfl, rfl, rfl, by omega, rfl⟩
 ·refine c_exit ?_; refine zx (zx (b_here rfl (zk ?_))); refine yA ?_; refine aI rfl ?_; refine yB ?_; refine ze ?_; refine zo (v := .int _ _) rfl rfl rfl ?_; exact fun w' hw => ⟨rfl, hw.fr (w, No) (.head _)⟩
set_option maxRecDepth 100000 in
set_option maxHeartbeats 400000 in
theorem longC_ok (l : List (Option Addr × Nat × Nat × Nat)) (b c : Nat) (T : TypeId) (w : World) (hb : w.heap[b]? = some (cel (nsV l) T)) (hN : nsN w l) (hl : l.length ≤ 1000) :
  Ret Tryz.prog 117 #[.slice (some ⟨b, 0, none⟩) l.length c, .func (.func 118) #[] #[]] w (fun v w' => v = .bool false ∧ Ext w w') := by
 refine enter (S := No) (l := [_, _]) (L := []) 9 Tryz.func117 rfl rfl rfl (St.start w No) ?_; refine yA ?_; refine aB rfl ?_; refine yC ?_; refine mS rfl ?_; refine zm rfl ?_; refine zC (fun w => zR Tryz.func144 rfl rfl rfl) rfl rfl (fun w h => longI_ok l b c T w (h.oldb (.head _) hb) (nsN_ext hN (h.fr (_, No) (.head _))) hl) ?_; refine w_r (fun _ => R_ge rfl rfl) rfl rfl ?_; refine aB rfl ?_; refine yB ?_; refine ze ?_; refine zo (v := .bool _) rfl rfl rfl ?_; exact fun w' hw => ⟨rfl, hw.fr (w, No) (.head _)⟩
set_option maxRecDepth 100000 in
set_option maxHeartbeats 400000 in
theorem longL_ok (l : List (Option Addr × Nat × Nat × Nat)) (b c : Nat) (T : TypeId) (w : World) (hb : w.heap[b]? = some (cel (nsV l) T)) (hN : nsN w l) (hl : l.length ≤ 1000) :
  Ret Tryz.prog 88 #[.slice (some ⟨b, 0, none⟩) l.length c] w (fun v w' => v = .bool false ∧ Ext w w') := by
 refine enter (S := No) (l := [_]) (L := []) 5 Tryz.func88 rfl rfl rfl (St.start w No) ?_; refine yA ?_; refine aB rfl ?_; refine yC ?_; refine mS rfl ?_; refine zC (fun w => zR Tryz.func117 rfl rfl rfl) rfl rfl (fun w h => longC_ok l b c T w (h.oldb (.head _) hb) (nsN_ext hN (h.fr (_, No) (.head _))) hl) ?_; refine aB rfl ?_; refine yB ?_; refine ze ?_; refine zo (v := .bool _) rfl rfl rfl ?_; exact fun w' hw => ⟨rfl, hw.fr (w, No) (.head _)⟩
theorem long1_ok {a : Option Addr} {k c n b c' : Nat} {T : TypeId} (w : World) (hb : w.heap[b]? = some (cel [.slice a k c] T)) (hA : Nm w a k c n) (hs : k ≤ 4000000 ∧ sz n ≤ 2048) : Ret Tryz.prog 88 #[.slice (some ⟨b, 0, none⟩) 1 c'] w fun v w' => v = .bool false ∧ Ext w w' :=
 longL_ok [(a, k, c, n)] b c' T w hb (fun q hq => by rw [List.mem_singleton.1 hq]; exact ⟨hA, hs⟩) (by simp)
theorem long2_ok {a a2 : Option Addr} {k c n k2 c2 n2 b c' : Nat} {T : TypeId} (w : World) (hb : w.heap[b]? = some (cel [.slice a k c, .slice a2 k2 c2] T)) (hA : Nm w a k c n) (hA2 : Nm w a2 k2 c2 n2) (hs : k ≤ 4000000 ∧ sz n ≤ 2048) (hs2 : k2 ≤ 4000000 ∧ sz n2 ≤ 2048) : Ret Tryz.prog 88 #[.slice (some ⟨b, 0, none⟩) 2 c'] w fun v w' => v = .bool false ∧ Ext w w' :=
 longL_ok [(a, k, c, n), (a2, k2, c2, n2)] b c' T w hb (fun q hq => by
  rcases List.mem_cons.1 hq with rfl | hq
  ·exact ⟨hA, hs⟩
  ·rw [List.mem_singleton.1 hq]; exact ⟨hA2, hs2⟩) (by simp)
set_option maxRecDepth 100000 in
set_option maxHeartbeats 400000 in
theorem Of_ok {s : Nat} (w : World) (hs : s < Go.Num.B) :
  Ret Tryz.prog 83 #[.int .u64 (s : Nat)] w (Tel (fun a c => .slice a (sz s) c) (sz s) s w) := by
 have hz : sz s ≤ 1 := sz_iff.2 (by rw [Nat.pow_one]; exact hs)
 refine enter (S := No) (l := [_]) (L := []) 12 Tryz.func83 rfl rfl rfl (St.start w No) ?_; refine yA ?_; refine za (v := .slice _ _ _) rfl ?_; refine yC ?_; refine mI rfl ?_; refine zS slt23 (by decide) rfl rfl (fun b1 gb1 ub1 => ?_)
 refine w_tel (fun w => zR Tryz.func105 rfl rfl rfl) rfl rfl (fun w h => told_ok w (Nm.one (h.at_ 0 rfl) hs) ⟨by decide, by omega⟩) (fun x2 a2 c2 hK2 hN2 => ?_)
 refine zm rfl ?_; refine w_r (fun _ => R_extract rfl rfl) rfl rfl ?_; refine w_r (fun _ => R_extract rfl rfl) rfl rfl ?_; refine za (v := .slice _ _ _) rfl ?_; refine aI rfl ?_; refine yC ?_; refine mS rfl ?_; refine za (v := .slice _ _ _) rfl ?_; refine yB ?_; refine ze ?_; refine zo (v := .slice _ _ _) rfl rfl rfl ?_; exact fun w' hw => ⟨_, _, rfl, (hK2.at_ 0 rfl hw), (hN2 _ (.head _)), hw.fr (w, No) (.tail _ (.head _))⟩
set_option maxRecDepth 100000 in
set_option maxHeartbeats 400000 in
theorem NNorm_ok {a : Option Addr} {k c n : Nat} (w : World) (hA : Nm w a k c n) (hs : k ≤ 4000000 ∧ sz n ≤ 2048) :
  Ret Tryz.prog 73 #[.slice a k c] w (Tel (fun a c => .tuple #[.slice a (sz n) c, .int .i64 0]) (sz n) n w) := by
 refine enter (S := No) (l := [_]) (L := []) 8 Tryz.func73 rfl rfl rfl (St.start w No) ?_; refine yA ?_; refine za (v := .slice _ _ _) rfl ?_; refine aI rfl ?_; refine yC ?_; refine mS rfl ?_; refine w_tel (fun w => zR Tryz.func105 rfl rfl rfl) rfl rfl (fun w h => told_ok w ((Kn.old hA).at_ 0 rfl h) ⟨by omega, by omega⟩) (fun x1 a1 c1 hK1 hN1 => ?_)
 refine w_r (fun _ => R_extract rfl rfl) rfl rfl ?_; refine w_r (fun _ => R_extract rfl rfl) rfl rfl ?_; refine za (v := .slice _ _ _) rfl ?_; refine aI rfl ?_; refine yB ?_; refine ze ?_; refine r_two (v := .slice _ _ _) (v2 := .int _ _) rfl rfl rfl rfl rfl ?_; exact fun w' hw => ⟨_, _, rfl, (hK1.at_ 0 rfl hw), (hN1 _ (.head _)), hw.fr (w, No) (.tail _ (.head _))⟩
set_option maxRecDepth 100000 in
set_option maxHeartbeats 400000 in
theorem Bits_ok {a : Option Addr} {k c n : Nat} (w : World) (hA : Nm w a k c n) (hs : k ≤ 4000000) :
  Ret Tryz.prog 44 #[.slice a k c] w (fun v w' => v = .int .i64 (bl n : Nat) ∧ Ext w w') := by
 have hz : sz n ≤ k := sz_iff.2 hA.lt
 refine enter (S := No) (l := [_]) (L := []) 20 Tryz.func44 rfl rfl rfl (St.start w No) ?_; refine yA ?_; refine aI rfl ?_; refine yC ?_; refine mS rfl ?_; refine w_tel (fun w => zR Tryz.func78 rfl rfl rfl) rfl rfl (fun w h => normal_ok w ((Kn.old hA).at_ 0 rfl h) (by omega)) (fun x1 a1 c1 hK1 hN1 => ?_)
 refine za (v := .slice _ _ _) rfl ?_; refine yB ?_; refine zq ?_; refine yA ?_; refine mS rfl ?_; refine w_r (fun _ => R_len sl23 rfl) rfl rfl ?_; refine w_r (fun _ => R_eqN (a := (sz n)) (b := 0) rfl rfl) rfl rfl ?_; refine yB ?_; refine zD rfl (fun h2 => ?_) (fun h2 => ?_)
 ·obtain rfl : n = 0 := sz_eq_zero.1 h2
  refine yA ?_; refine aI rfl ?_; refine yB ?_; refine ze ?_; refine zt (?_)
  refine zo (v := .int _ _) rfl rfl rfl ?_; exact fun w' hw => ⟨rfl, hw.fr (w, No) (.tail _ (.head _))⟩
 ·have hn0 : n ≠ 0 := fun h => h2 (sz_eq_zero.2 h); have hb64 : bl (dg Go.Num.B n (sz n - 1)) ≤ 64 := bl_iff.2 (by rw [← B_two]; exact dg_lt B_pos _ _)
  refine zi ?_; refine zk ?_; refine yA ?_; refine mS rfl ?_; refine w_r (fun _ => R_len sl23 rfl) rfl rfl ?_; refine w_r (fun _ => R_subN (n := (sz n)) (b := 1) rfl rfl (by omega) (by omega)) rfl rfl ?_; refine w_r (fun _ => R_mulN (n := 64) (b := ((sz n) - 1)) rfl rfl (by omega)) rfl rfl ?_; refine mS rfl ?_; refine mS rfl ?_; refine w_r (fun _ => R_len sl23 rfl) rfl rfl ?_; refine w_r (fun _ => R_subN (n := (sz n)) (b := 1) rfl rfl (by omega) (by omega)) rfl rfl ?_; refine w_r (fun _ => R_iaK (i := ((sz n) - 1)) sl23 rfl (hK1.ptr (by omega)) rfl (by omega)) rfl rfl ?_; refine zl (v := .int .u64 ((dg Go.Num.B n ((sz n) - 1)) : Nat)) z66 rfl (fun w h => hK1.ca 0 rfl (by omega) h) ?_
  refine zC (fun w => zR Tryz.func79 rfl rfl rfl) rfl rfl (fun w h => Len64_ok (dg Go.Num.B n ((sz n) - 1)) w (dg_lt B_pos _ _)) ?_; refine w_r (fun _ => R_addN (n := (64 * ((sz n) - 1))) (b := (bl (dg Go.Num.B n ((sz n) - 1)))) rfl rfl (by omega)) rfl rfl ?_; refine aI rfl ?_; refine yB ?_; refine ze ?_; refine zo (v := .int _ _) rfl rfl rfl ?_; exact fun w' hw => ⟨by rw [bl_limb hn0], hw.fr (w, No) (.tail _ (.head _))⟩
set_option maxRecDepth 100000 in
set_option maxHeartbeats 400000 in
theorem Bit_ok {a : Option Addr} {k c n : Nat} (w : World) (hA : Nm w a k c n) (i : Nat) (hs : k ≤ 4000000 ∧ i ≤ 1000000000) :
  Ret Tryz.prog 74 #[.slice a k c, .int .i64 (i : Nat)] w (fun v w' => v = .bool (decide (n / 2 ^ i % 2 = 1)) ∧ Ext w w') := by
 refine enter (S := No) (l := [_, _]) (L := []) 26 Tryz.func74 rfl rfl rfl (St.start w No) ?_; refine yA ?_; refine aB rfl ?_; refine yC ?_; refine mI rfl ?_; refine w_r (fun _ => R_geN (a := i) (b := 0) rfl rfl) rfl rfl ?_; refine mB rfl ?_; refine zd (t := 7) rfl (fun h1 => ?_) (fun h1 => ?_)
 ·refine zw rfl rfl (bT h1) ?_; refine mI rfl ?_; refine zw rfl rfl (bT h1) ?_; refine w_r (fun _ => R_quoN (a := i) (b := 64) rfl rfl (by omega) (by omega)) rfl rfl ?_; refine zw rfl rfl (bT h1) ?_; refine mS rfl ?_; refine zw rfl rfl (bT h1) ?_; refine w_r (fun _ => R_len sl23 rfl) rfl rfl ?_; refine zw rfl rfl (bT h1) ?_; refine w_r (fun _ => R_ltN (a := (i / 64)) (b := k) rfl rfl) rfl rfl ?_; refine w_r (v := .bool _) (fun _ => zT (bT h1) rfl) rfl rfl ?_; refine mB rfl ?_; refine zd (t := 14) rfl (fun h2 => ?_) (fun h2 => ?_)
  ·refine zw rfl rfl (bT h2) ?_; refine mS rfl ?_; refine zw rfl rfl (bT h2) ?_; refine mI rfl ?_; refine zw rfl rfl (bT h2) ?_; refine w_r (fun _ => R_quoN (a := i) (b := 64) rfl rfl (by omega) (by omega)) rfl rfl ?_; refine zw rfl rfl (bT h2) ?_; refine w_r (fun _ => R_iaK (i := (i / 64)) sl23 rfl ((Kn.old hA).ptr (by omega)) rfl (by omega)) rfl rfl ?_; refine zw rfl rfl (bT h2) ?_; refine zl (v := .int .u64 ((dg Go.Num.B n (i / 64)) : Nat)) z66 rfl (fun w h => (Kn.old hA).ca 0 rfl (by omega) h) ?_; refine zw rfl rfl (bT h2) ?_; refine mI rfl ?_; refine zw rfl rfl (bT h2) ?_
   refine w_r (fun _ => R_remU (a := i) (b := 64) rfl rfl (by omega)) rfl rfl ?_; refine zw rfl rfl (bT h2) ?_; refine w_r (fun _ => R_shrU (a := (dg Go.Num.B n (i / 64))) (n := (i % 64)) rfl rfl (by omega)) rfl rfl ?_; refine zw rfl rfl (bT h2) ?_; refine w_r (fun _ => R_and1 (a := ((dg Go.Num.B n (i / 64)) / 2 ^ (i % 64))) rfl rfl (by exact Nat.lt_of_le_of_lt (Nat.div_le_self _ _) (dg_lt B_pos _ _))) rfl rfl ?_; refine zw rfl rfl (bT h2) ?_; refine w_r (fun _ => R_eqN (a := (((dg Go.Num.B n (i / 64)) / 2 ^ (i % 64)) % 2)) (b := 1) rfl rfl) rfl rfl ?_; refine w_r (v := .bool _) (fun _ => zT (bT h2) rfl) rfl rfl ?_; refine aB rfl ?_; refine yB ?_; refine ze ?_; refine zo (v := .bool _) rfl rfl rfl ?_; exact fun w' hw => ⟨by rw [limb_bit], hw.fr (w, No) (.head _)⟩
  ·have hout : n / 2 ^ i % 2 = 0 := (by rw [← limb_bit, dg_out (Nat.lt_of_lt_of_le hA.lt (Nat.pow_le_pow_right B_pos (by omega))), Nat.zero_div])
   refine zs rfl rfl (bF h2) ?_; refine zs rfl rfl (bF h2) ?_; refine zs rfl rfl (bF h2) ?_; refine zs rfl rfl (bF h2) ?_; refine zs rfl rfl (bF h2) ?_; refine zs rfl rfl (bF h2) ?_; refine zs rfl rfl (bF h2) ?_; refine zs rfl rfl (bF h2) ?_; refine zs rfl rfl (bF h2) ?_; refine zs rfl rfl (bF h2) ?_; refine w_r (v := .bool _) (fun _ => zF (bF h2) rfl) rfl rfl ?_; refine aB rfl ?_; refine yB ?_; refine ze ?_; refine zo (v := .bool _) rfl rfl rfl ?_; exact fun w' hw => ⟨congrArg Value.bool (decide_eq_false (by omega)).symm, hw.fr (w, No) (.head _)⟩
 ·omega
end Go.Proofs.YtoapegnngbhkbaaGreatDoor
end
section
/- Guarded operations without going both ways: what a guard lets through is a value that is there if the guard said so. -/
namespace Go.Sx
open Go.RowKit
/-- a value that is there if a guard said so -/
def gvl (c : Bool) (v : Value) : Value := bif c then v else undef
theorem gr {a b : Bool} (h : (a && b) = true) : b = true := by cases a; cases h; exact h
end Go.Sx
namespace Go.Sx
theorem arr2 {a a' b b' : Value} (h : a = a') (h2 : b = b') : (#[a, b] : Array Value) = #[a', b'] := by rw [h, h2]
theorem runE_as {P : Program} {o : Oper} {f : FuncId} {args args' : Array Value} {ρ : Operand → Value} {w : World} (h : RunE P o ρ w f args) (he : args = args') : RunE P o ρ w f args' := he ▸ h
end Go.Sx
attribute [irreducible] Go.Sx.gvl
end
section
/- A region that draws its order: what comes first, in whatever order, has values that are known; what waits for all of it comes behind, one by one (it may be yield). -/
namespace Go.Sx
open Go.RowKit Go.Num
def depsOf (ops : Array Oper) (i : Nat) : List Nat := match ops[i]? with
  | some o => (o.after.toList.filter (Region.binds .any)).map (·.on)
  | none => []
def reach (ops : Array Oper) : Nat → List Nat → List Nat
  | 0, l => l
  | f + 1, l => l ++ reach ops f (l.flatMap (depsOf ops))
theorem mem_ready' {ops : Array Oper} {i : Nat} {listed : Array Bool} : i ∈ Region.ready .any ops listed ↔ i < ops.size ∧ listed.getD i true = false ∧ ∀ j ∈ depsOf ops i, listed.getD j false = true := by
  unfold Region.ready depsOf
  rw [List.mem_filter, List.mem_range]
  constructor
  · rintro ⟨h1, h2⟩
    obtain ⟨o, ho⟩ : ∃ o, ops[i]? = some o := ⟨ops[i], Array.getElem?_eq_getElem h1⟩
    simp only [ho, Option.map_some, Option.getD_some, Bool.and_eq_true, Bool.not_eq_true'] at h2 ⊢
    refine ⟨h1, h2.1, fun j hj => ?_⟩
    obtain ⟨e, he, rfl⟩ := List.mem_map.1 hj
    obtain ⟨he1, he2⟩ := List.mem_filter.1 he
    have h3 := Array.all_eq_true'.1 h2.2 e (Array.mem_toList_iff.1 he1)
    rw [he2] at h3; simpa using h3
  · rintro ⟨h1, h2, h3⟩
    obtain ⟨o, ho⟩ : ∃ o, ops[i]? = some o := ⟨ops[i], Array.getElem?_eq_getElem h1⟩
    simp only [ho, Option.map_some, Option.getD_some, Bool.and_eq_true, Bool.not_eq_true'] at h3 ⊢
    refine ⟨h1, h2, Array.all_eq_true'.2 fun e he => ?_⟩
    cases hb : Region.binds .any e
    · simp
    · simp only [Bool.not_true, Bool.false_or]
      exact h3 _ (List.mem_map.2 ⟨e, List.mem_filter.2 ⟨Array.mem_toList_iff.2 he, hb⟩, rfl⟩)
theorem reach_all {ops : Array Oper} {ls : Nat → Bool} (hc : ∀ i, ls i = true → ∀ j ∈ depsOf ops i, ls j = true) : ∀ (f : Nat) (l : List Nat), (∀ j ∈ l, ls j = true) → ∀ j ∈ reach ops f l, ls j = true
  | 0, l, h => h
  | f + 1, l, h => fun j hj => by
    unfold reach at hj
    rcases List.mem_append.1 hj with hj | hj
    · exact h j hj
    · refine reach_all hc f _ (fun q hq => ?_) j hj
      obtain ⟨p, hp, hq⟩ := List.mem_flatMap.1 hq
      exact hc p (h p hp) q hq
/-- the operations' graph: each waits for earlier ones; those from m on for all the first m -/
def topB (ops : Array Oper) (m : Nat) : Bool :=
  (List.range ops.size).all (fun i => (depsOf ops i).all fun j => Nat.blt j i) &&
  (List.range ops.size).all (fun i => Nat.blt i m || (List.range m).all fun j => (reach ops ops.size (depsOf ops i)).any (Nat.beq j)) && Nat.ble m ops.size
theorem topB_spec {ops : Array Oper} {m : Nat} (h : topB ops m = true) : (∀ i, i < ops.size → ∀ j ∈ depsOf ops i, j < i) ∧ (∀ i, i < ops.size → m ≤ i → ∀ j, j < m → j ∈ reach ops ops.size (depsOf ops i)) ∧ m ≤ ops.size := by
  unfold topB at h
  simp only [Bool.and_eq_true, List.all_eq_true, List.mem_range, Bool.or_eq_true, List.any_eq_true] at h
  obtain ⟨⟨h1, h2⟩, h3⟩ := h
  refine ⟨fun i hi j hj => by have := h1 i hi j hj; simpa [Nat.blt_eq] using this, fun i hi hm j hj => ?_, Nat.le_of_ble_eq_true h3⟩
  rcases h2 i hi with h4 | h4
  · have : i < m := by simpa [Nat.blt_eq] using h4
    omega
  · obtain ⟨q, hq, he⟩ := h4 j hj
    rw [Nat.eq_of_beq_eq_true he]; exact hq
def WA (P : Program) (ops : Array Oper) (c : Cf) (Q : Exit → Act → World → Prop) (fuel : Nat) (listed : Array Bool) (e : Env) (B : Base) (L : Heap) : Prop :=
  ∀ w, St B L w → wpAnyIn (fw c.ro) 0 P .any ops Q fuel listed (act c e) w
/-- an operation that yields this value wherever St holds -/
def Told (P : Program) (ops : Array Oper) (c : Cf) (i d : Nat) (v : Value) (e : Env) (B : Base) (L : Heap) : Prop :=
  ∃ o, ops[i]? = some o ∧ plainB o = true ∧ o.dst = some d ∧ ∀ w, St B L w → (Run P o (ev c.n e) w v w ∨ ∃ f args, RunE P o (ev c.n e) w f args ∧ Ret P f args w fun u w' => u = v ∧ Ext w w')
section
variable {P : Program} {ops : Array Oper} {Q : Exit → Act → World → Prop} {c : Cf} {e : Env} {B : Base} {L : Heap} {id : Nat}
theorem told_step {i d : Nat} {v : Value} {K : Act → World → Prop} {w : World} (h : Told P ops c i d v e B L) (hw : St B L w) (hK : ∀ w', St B L w' → K (act c (upd e d v)) w') : wpOpIn (fw c.ro) 0 P ops Q i K (act c e) w := by
  obtain ⟨o, ho, hp, hd, hr⟩ := h
  obtain ⟨h1, h2⟩ := plainB_spec hp
  unfold wpOpIn
  simp only [ho]
  rw [if_pos (by simp [Region.wanted, h1])]
  refine ⟨fun _ _ => trivial, ?_⟩
  rw [act_eval, Oper.semAt_eq _ _ _ h2]
  rcases hr w hw with hr | ⟨f, args, hr, hc⟩
  · unfold Run at hr
    rw [hr, Oper.uponIn_value, hd, act_put]; exact hK w hw
  · unfold RunE at hr
    rw [hr, Oper.uponIn_enter]
    refine ⟨fun hh => absurd hh (by simp [fw, Fence.wide]), ?_⟩
    have hc' : CallsIn (fw c.ro) (0 - 1) P f args w _ := callsIn_wide.2 hc
    refine hc'.mono ?_
    rintro x w' ⟨u, rfl, rfl, hx⟩
    rw [hd]
    simp only [act_put]
    exact hK w' (hw.ext hx)
/-- slots behind those that are listed -/
def envL (e : Env) (D : List (Nat × Value)) (ls : Nat → Bool) : Env := fun t => match (List.range D.length).find? (fun j => ls j && (match D[j]? with | some p => Nat.beq p.1 t | none => false)) with
  | some j => match D[j]? with | some p => p.2 | none => e t
  | none => e t
theorem envL_hit {D : List (Nat × Value)} {ls : Nat → Bool} {j : Nat} {p : Nat × Value} (hnd : (D.map (·.1)).Nodup) (hj : D[j]? = some p) (hl : ls j = true) : envL e D ls p.1 = p.2 := by
  unfold envL
  have hjl := (List.getElem?_eq_some_iff.1 hj).1
  cases hf : (List.range D.length).find? (fun j => ls j && (match D[j]? with | some q => Nat.beq q.1 p.1 | none => false)) with
  | none =>
    have := List.find?_eq_none.1 hf j (List.mem_range.2 hjl)
    simp [hl, hj] at this
  | some i =>
    have h1 := List.find?_some hf
    simp only [Bool.and_eq_true] at h1
    cases hi : D[i]? with
    | none => rw [hi] at h1; simp at h1
    | some q =>
      rw [hi] at h1
      have h2 : q.1 = p.1 := Nat.eq_of_beq_eq_true h1.2
      have : i = j := nodup_idx hnd (i := i) (j := j) (b := p.1) (by rw [List.getElem?_map, hi, ← h2]; rfl) (by rw [List.getElem?_map, hj]; rfl)
      subst this
      rw [hi] at hj; cases hj
      simp only [hi]
theorem envL_miss {D : List (Nat × Value)} {ls : Nat → Bool} {t : Nat} (h : ∀ j p, D[j]? = some p → ls j = true → p.1 ≠ t) : envL e D ls t = e t := by
  unfold envL
  cases hf : (List.range D.length).find? (fun j => ls j && (match D[j]? with | some q => Nat.beq q.1 t | none => false)) with
  | none => rfl
  | some i =>
    have h1 := List.find?_some hf
    simp only [Bool.and_eq_true] at h1
    cases hi : D[i]? with
    | none => rw [hi] at h1; simp at h1
    | some q =>
      rw [hi] at h1
      exact absurd (Nat.eq_of_beq_eq_true h1.2) (h i q hi h1.1)
theorem envL_put {D : List (Nat × Value)} {ls ls' : Nat → Bool} {i : Nat} {p : Nat × Value} (hnd : (D.map (·.1)).Nodup) (hi : D[i]? = some p) (h1 : ls' i = true) (h2 : ∀ j, j ≠ i → ls' j = ls j) : upd (envL e D ls) p.1 p.2 = envL e D ls' := by
  funext t
  unfold upd
  by_cases ht : t = p.1
  · subst ht
    rw [envL_hit hnd hi h1]; simp
  · have hb : Nat.beq t p.1 = false := by
      cases hq : Nat.beq t p.1
      · rfl
      · exact absurd (Nat.eq_of_beq_eq_true hq) ht
    rw [hb]
    simp only [cond_false]
    by_cases hx : ∃ j q, D[j]? = some q ∧ ls j = true ∧ q.1 = t
    · obtain ⟨j, q, hj, hl, rfl⟩ := hx
      have hne : j ≠ i := by rintro rfl; rw [hi] at hj; cases hj; exact ht rfl
      rw [envL_hit hnd hj hl, envL_hit hnd hj (by rw [h2 j hne]; exact hl)]
    · rw [envL_miss fun j q hj hl he => hx ⟨j, q, hj, hl, he⟩, envL_miss fun j q hj hl he => ?_]
      by_cases hne : j = i
      · subst hne; rw [hi] at hj; cases hj; exact ht he.symm
      · exact hx ⟨j, q, hj, by rw [← h2 j hne]; exact hl, he⟩
theorem a_vals (D : List (Nat × Value)) (hnd : (D.map (·.1)).Nodup) (ht : topB ops D.length = true)
    (hs : ∀ i p, D[i]? = some p → ∀ e', (∀ j q, j ∈ depsOf ops i → D[j]? = some q → e' q.1 = q.2) → (∀ t, t ∉ D.map (·.1) → e' t = e t) → Told P ops c i p.1 p.2 e' B L)
    (hn : ∀ listed : Array Bool, listed.size = ops.size → (∀ j, listed.getD j false = decide (j < D.length)) → WA P ops c Q (ops.size - D.length) listed (envL e D (fun j => decide (j < D.length))) B L) :
    WA P ops c Q ops.size (Array.replicate ops.size false) e B L := by
  obtain ⟨t1, t2, t3⟩ := topB_spec ht
  have main : ∀ (r : Nat) (U : List Nat) (listed : Array Bool), U.length = r → U.Nodup → listed.size = ops.size → (∀ j, j ∈ U ↔ j < D.length ∧ listed.getD j false = false) → (∀ j, D.length ≤ j → listed.getD j false = false) →
      (∀ i, listed.getD i false = true → ∀ j ∈ depsOf ops i, listed.getD j false = true) → WA P ops c Q (r + (ops.size - D.length)) listed (envL e D (fun j => listed.getD j false)) B L := by
    intro r
    induction r with
    | zero =>
      intro U listed hU _ hz hm hh _
      obtain rfl := List.length_eq_zero_iff.1 hU
      have h1 : ∀ j, listed.getD j false = decide (j < D.length) := fun j => by
        by_cases hj : j < D.length
        · rw [decide_eq_true hj]
          cases hq : listed.getD j false
          · exact absurd ((hm j).2 ⟨hj, hq⟩) (List.not_mem_nil)
          · rfl
        · rw [decide_eq_false hj]; exact hh j (by omega)
      rw [Nat.zero_add, show (fun j => listed.getD j false) = fun j => decide (j < D.length) from funext h1]
      exact hn listed hz h1
    | succ r ih =>
      intro U listed hU hUn hz hm hh hcl w hw
      rw [show r + 1 + (ops.size - D.length) = (r + (ops.size - D.length)) + 1 by omega]
      have hlist : ∀ i, i < ops.size → listed.getD i true = listed.getD i false := fun i hi => by
        have : i < listed.size := by omega
        simp [Array.getD, this]
      refine ⟨fun h0 => ?_, fun i hi => ?_⟩
      · exfalso
        -- the least one that is not listed is ready
        have hex : ∃ i, i ∈ U := by
          cases U with
          | nil => simp at hU
          | cons x _ => exact ⟨x, .head _⟩
        obtain ⟨i, hi⟩ := hex
        have : ∀ n i, i < n → i ∈ U → False := by
          intro n
          induction n with
          | zero => intro i h; omega
          | succ n ihn =>
            intro i hin hiU
            have hi2 := (hm i).1 hiU
            have hr : i ∈ Region.ready .any ops listed := by
              rw [mem_ready']
              refine ⟨by omega, by rw [hlist i (by omega)]; exact hi2.2, fun j hj => ?_⟩
              have hlt := t1 i (by omega) j hj
              cases hq : listed.getD j false
              · exact (ihn j (by omega) ((hm j).2 ⟨by omega, hq⟩)).elim
              · rfl
            rw [h0] at hr; cases hr
        exact this (i + 1) i (by omega) hi
      · obtain ⟨hi1, hi2, hi3⟩ := mem_ready'.1 hi
        rw [hlist i hi1] at hi2
        by_cases him : i < D.length
        · obtain ⟨p, hp⟩ : ∃ p, D[i]? = some p := ⟨_, List.getElem?_eq_getElem him⟩
          have hset : ∀ j, (listed.setIfInBounds i true).getD j false = if j = i then true else listed.getD j false := fun j => by
            have hil : i < listed.size := by omega
            simp only [Array.getD_eq_getD_getElem?, Array.getElem?_setIfInBounds]
            by_cases hij : i = j
            · subst hij; simp [hil]
            · rw [if_neg hij, if_neg (Ne.symm hij)]
          refine told_step (hs i p hp _ (fun j q hj hq => envL_hit hnd hq (hi3 j hj)) (fun t htd => envL_miss fun j q hq _ he => htd (by rw [← he]; exact List.mem_map_of_mem (List.mem_of_getElem? hq)))) hw (fun w' hw' => ?_)
          rw [envL_put (ls' := fun j => (listed.setIfInBounds i true).getD j false) hnd hp (by rw [hset]; simp) (fun j hj => by simp only [hset, if_neg hj])]
          have hiU : i ∈ U := (hm i).2 ⟨him, hi2⟩
          refine ih (U.erase i) _ (by rw [List.length_erase_of_mem hiU]; omega) (hUn.erase i) (by simpa using hz) (fun j => ?_) (fun j hj => ?_) (fun q hq j hj => ?_) w' hw'
          · rw [hUn.mem_erase_iff, hm, hset]
            constructor
            · rintro ⟨h1, h2, h3⟩; exact ⟨h2, by rw [if_neg h1]; exact h3⟩
            · rintro ⟨h2, h3⟩
              by_cases hji : j = i
              · rw [if_pos hji] at h3; cases h3
              · rw [if_neg hji] at h3; exact ⟨hji, h2, h3⟩
          · rw [hset, if_neg (by omega)]; exact hh j hj
          · rw [hset] at hq ⊢
            by_cases hji : j = i
            · rw [if_pos hji]
            · rw [if_neg hji]
              by_cases hqi : q = i
              · subst hqi; exact hi3 j hj
              · rw [if_neg hqi] at hq; exact hcl q hq j hj
        · exfalso
          have hall := reach_all (ls := fun j => listed.getD j false) hcl ops.size (depsOf ops i) hi3
          obtain ⟨u, hu⟩ : ∃ u, u ∈ U := by
            cases U with
            | nil => simp at hU
            | cons x _ => exact ⟨x, .head _⟩
          have h5 := (hm u).1 hu
          have h6 := hall u (t2 i hi1 (by omega) u h5.1)
          rw [h5.2] at h6; cases h6
  have h0 := main D.length (List.range D.length) (Array.replicate ops.size false) (by simp) List.nodup_range (by simp) (fun j => by simp [Array.getD_eq_getD_getElem?, Array.getElem?_replicate]; intro _; split <;> rfl) (fun j _ => by simp [Array.getD_eq_getD_getElem?, Array.getElem?_replicate]; split <;> rfl) (fun i hi => by simp [Array.getD_eq_getD_getElem?, Array.getElem?_replicate] at hi; split at hi <;> simp at hi)
  have e1 : envL e D (fun j => (Array.replicate ops.size false).getD j false) = e := funext fun t => envL_miss fun j q _ hl => by
    simp [Array.getD_eq_getD_getElem?, Array.getElem?_replicate] at hl; split at hl <;> simp at hl
  rw [e1, Nat.add_sub_cancel' t3] at h0
  exact h0
theorem updL_miss : ∀ (D : List (Nat × Value)) (e : Env) (t : Nat), t ∉ D.map (·.1) → updL e D t = e t
  | [], _, _, _ => rfl
  | p :: D, e, t, h => by
    simp only [List.map_cons, List.mem_cons, not_or] at h
    show updL (upd e p.1 p.2) D t = e t
    rw [updL_miss D _ t h.2]
    unfold upd
    have hb : Nat.beq t p.1 = false := by
      cases hq : Nat.beq t p.1
      · rfl
      · exact absurd (Nat.eq_of_beq_eq_true hq) h.1
    rw [hb]; rfl
theorem updL_hit : ∀ (D : List (Nat × Value)) (e : Env) (j : Nat) (p : Nat × Value), (D.map (·.1)).Nodup → D[j]? = some p → updL e D p.1 = p.2
  | [], _, _, _, _, h => by simp at h
  | q :: D, e, 0, p, hn, h => by
    simp at h; subst h
    simp only [List.map_cons, List.nodup_cons] at hn
    show updL (upd e q.1 q.2) D q.1 = q.2
    rw [updL_miss D _ _ hn.1]
    unfold upd; simp
  | q :: D, e, j + 1, p, hn, h => by
    simp only [List.map_cons, List.nodup_cons] at hn
    simp only [List.getElem?_cons_succ] at h
    exact updL_hit D _ j p hn.2 h
theorem envL_full (D : List (Nat × Value)) (hn : (D.map (·.1)).Nodup) : envL e D (fun j => decide (j < D.length)) = updL e D := funext fun t => by
  by_cases h : t ∈ D.map (·.1)
  · obtain ⟨p, hp, rfl⟩ := List.mem_map.1 h
    obtain ⟨j, hj⟩ := List.getElem?_of_mem hp
    rw [envL_hit hn hj (decide_eq_true (List.getElem?_eq_some_iff.1 hj).1), updL_hit D e j p hn hj]
  · rw [envL_miss fun j p hj _ he => h (by rw [← he]; exact List.mem_map_of_mem (List.mem_of_getElem? hj)), updL_miss D e t h]
def ndB : List Nat → Bool
  | [] => true
  | a :: l => !(l.any (Nat.beq a)) && ndB l
theorem ndB_spec : ∀ {l : List Nat}, ndB l = true → l.Nodup
  | [], _ => .nil
  | a :: l, h => by
    unfold ndB at h
    simp only [Bool.and_eq_true, Bool.not_eq_true'] at h
    refine List.nodup_cons.2 ⟨fun hm => ?_, ndB_spec h.2⟩
    have : l.any (Nat.beq a) = true := List.any_eq_true.2 ⟨a, hm, by simp⟩
    rw [h.1] at this; cases this
def someL (n m : Nat) : Array Bool := (List.replicate m true ++ List.replicate (n - m) false).toArray
/-- the first part in any order -/
theorem a_first {n : Nat} {ds : List Deferred} (D : List (Nat × Value)) (hm : P.follows .mixedOrders = true) (hnb : ndB (D.map (·.1)) = true) (ht : topB ops D.length = true)
    (hs : ∀ i p, D[i]? = some p → ∀ e', (∀ j q, (depsOf ops i).any (Nat.beq j) = true → D[j]? = some q → e' q.1 = q.2) → (∀ t, (D.map (·.1)).any (Nat.beq t) = false → e' t = e t) → Told P ops ⟨n, ds, none⟩ i p.1 p.2 e' B L)
    (hn : WA P ops ⟨n, ds, none⟩ Q (ops.size - D.length) (someL ops.size D.length) (updL e D) B L) : WC P ⟨n, ds, none⟩ (.region id ops true) Q e B L := by
  have hnd := ndB_spec hnb
  have hs' : ∀ i p, D[i]? = some p → ∀ e', (∀ j q, j ∈ depsOf ops i → D[j]? = some q → e' q.1 = q.2) → (∀ t, t ∉ D.map (·.1) → e' t = e t) → Told P ops ⟨n, ds, none⟩ i p.1 p.2 e' B L := fun i p hp e' h1 h2 =>
    hs i p hp e' (fun j q hj => h1 j q (by
      obtain ⟨u, hu, he⟩ := List.any_eq_true.1 hj
      rw [Nat.eq_of_beq_eq_true he]; exact hu)) (fun t ht => h2 t fun hm => by
      have h3 : (D.map (·.1)).any (Nat.beq t) = true := List.any_eq_true.2 ⟨t, hm, by simp⟩
      rw [ht] at h3; cases h3)
  have h := a_vals (Q := Q) D hnd ht hs' (fun listed h1 h2 => by
    have hm := (topB_spec ht).2.2
    have : listed = someL ops.size D.length := by
      apply Array.ext
      · simp [someL, h1]; omega
      · intro i hi1 hi2
        have h3 := h2 i
        simp only [Array.getD_eq_getD_getElem?, Array.getElem?_eq_getElem hi1, Option.getD_some] at h3
        rw [h3]
        simp only [someL, List.getElem_toArray, List.getElem_append]
        split
        · rename_i h4; rw [List.length_replicate] at h4; simp [h4]
        · rename_i h4; rw [List.length_replicate] at h4; simp [h4]
    rw [this, envL_full D hnd]; exact hn)
  unfold WC
  intro w hw
  refine wpIn_region_any hm (h _ (hw.drawn _))
section
variable {fuel : Nat} {listed : Array Bool} {o : Oper} {d i : Nat} {v : Value}
/- (as in SxB, which this seat does without) -/
theorem R_iaA {P : Program} {ρ : Operand → Value} {w : World} {D : Option Tmp} {ty t : TypeId} {pos : String} {aft : Array Edge} {g : Option (Nat × Bool)} {x y : Operand} {kk : IntKind} {m b o i k : Nat} {ag : Bool} (hu : arB P t m k ag = true) (hm : 1 < m) (hx : ρ x = .pointer (some ⟨b, o, none⟩)) (hy : ρ y = .int kk (i : Nat)) (h1 : i < m) : Run P ⟨D, .indexAddr t x y, ty, pos, aft, g⟩ ρ w (.pointer (some ⟨b, o + i * k, none⟩)) w := by
  unfold arB at hu
  split at hu
  · rename_i m' e he
    simp only [Bool.and_eq_true] at hu
    obtain ⟨hm', hz⟩ := hu
    have hm' := Nat.eq_of_beq_eq_true hm'
    subst hm'
    have hz' := run_sizeOf (P := P) (w := w) hz
    simp [Run, execOp, hx, hy, go_sem, Instr.indexAt, run_underlying he, hz', asIntOf, h1, Result.andThen]
  · cases hu
theorem R_buildA2 {t ty : TypeId} {ρ : Operand → Value} {w : World} {D : Option Tmp} {pos : String} {aft : Array Edge} {g : Option (Nat × Bool)} {x y : Operand} {p q : Int} (hu : arB P t 2 1 false = true) (hz : zeroB P t (.agg #[.int .u64 0, .int .u64 0])) (hx : ρ x = .int .u64 p) (hy : ρ y = .int .u64 q) :
    Run P ⟨D, .build t #[(0, x), (1, y)], ty, pos, aft, g⟩ ρ w (.agg #[.int .u64 p, .int .u64 q]) w := by
  have hf : fillB (plA 2 1) ([(0, x), (1, y)].map fun p => (p.1, ρ p.2)) [Value.int .u64 0, .int .u64 0].length = true := by
    show fillB (plA 2 1) [(0, ρ x), (1, ρ y)] 2 = true
    rw [hx, hy]; rfl
  have h := R_buildA (D := D) (ty := ty) (pos := pos) (aft := aft) (g := g) (w := w) (ρ := ρ) hu (zl := [.int .u64 0, .int .u64 0]) (parts := [(0, x), (1, y)]) hz hf
  have e1 : fillL (plA 2 1) ([(0, x), (1, y)].map fun p => (p.1, ρ p.2)) [Value.int .u64 0, .int .u64 0] = [.int .u64 p, .int .u64 q] := by
    show fillL (plA 2 1) [(0, ρ x), (1, ρ y)] [Value.int .u64 0, .int .u64 0] = _
    rw [hx, hy]; rfl
  rw [e1] at h
  exact h
theorem R_maxN {tys : Array TypeId} {ty : TypeId} {ρ : Operand → Value} {w : World} {D : Option Tmp} {pos : String} {aft : Array Edge} {g : Option (Nat × Bool)} {x y : Operand} {k : IntKind} {a b : Nat} (hx : ρ x = .int k (a : Nat)) (hy : ρ y = .int k (b : Nat)) : Run P ⟨D, .call ⟨.builtin .max, #[x, y], tys⟩, ty, pos, aft, g⟩ ρ w (.int k ((max a b : Nat) : Int)) w := by
  have h := R_max (P := P) (w := w) (D := D) (ty := ty) (pos := pos) (aft := aft) (g := g) (tys := tys) hx hy
  rwa [show (if (a : Int) < (b : Int) then (b : Int) else (a : Int)) = ((max a b : Nat) : Int) by split <;> omega] at h
theorem R_minN {tys : Array TypeId} {ty : TypeId} {ρ : Operand → Value} {w : World} {D : Option Tmp} {pos : String} {aft : Array Edge} {g : Option (Nat × Bool)} {x y : Operand} {k : IntKind} {a b : Nat} (hx : ρ x = .int k (a : Nat)) (hy : ρ y = .int k (b : Nat)) : Run P ⟨D, .call ⟨.builtin .min, #[x, y], tys⟩, ty, pos, aft, g⟩ ρ w (.int k ((min a b : Nat) : Int)) w := by
  have h := R_min (P := P) (w := w) (D := D) (ty := ty) (pos := pos) (aft := aft) (g := g) (tys := tys) hx hy
  rwa [show (if (b : Int) < (a : Int) then (b : Int) else (a : Int)) = ((min a b : Nat) : Int) by split <;> omega] at h
theorem a_done (hr : Region.ready .any ops listed = []) (h : WK c Q .normal e B L) : WA P ops c Q fuel listed e B L := fun w hw => by
  unfold WK at h
  cases fuel with
  | zero => exact ⟨hr, h w hw⟩
  | succ n => exact ⟨fun _ => h w hw, fun i hi => by rw [hr] at hi; cases hi⟩
theorem a_run (i : Nat) (hi : ops[i]? = some o) (hr : Region.ready .any ops listed = [i]) (hg : plainB o = true) (hd : o.dst = some d) (hv : ∀ w, St B L w → Run P o (ev c.n e) w v w) (h : WA P ops c Q fuel (listed.setIfInBounds i true) (upd e d v) B L) : WA P ops c Q (fuel + 1) listed e B L := fun w hw => by
  refine ⟨fun h0 => (by rw [hr] at h0; cases h0), fun q hq => ?_⟩
  obtain rfl : q = i := by rw [hr] at hq; simpa using hq
  exact told_step ⟨o, hi, hg, hd, fun w hw => .inl (hv w hw)⟩ hw fun w' hw' => h w' hw'
theorem a_yield (i : Nat) {lo : Nat} {al : List Operand} {x : Operand} {tys : Array TypeId} {T : TypeId} {p : String} {a : Array Edge} {R : World → Value → World → Prop} (hi : ops[i]? = some ⟨some d, .call ⟨.value x, al.toArray, tys⟩, T, p, a, none⟩) (hr : Region.ready .any ops listed = [i]) (hx : ev c.n e x = .func (.yield lo) #[] #[])
    (hy : ∀ w, St B L w → YieldAt (fw none) 0 P lo (al.map (ev c.n e)).toArray w fun en w' => ∃ v, en = .returned v ∧ R w v w')
    (h : ∀ w, St B L w → ∀ v w', R w v w' → ∃ B' L', St B' L' w' ∧ WA P ops c Q fuel (listed.setIfInBounds i true) (upd e d v) B' L') : WA P ops c Q (fuel + 1) listed e B L := fun w hw => by
  refine ⟨fun h0 => (by rw [hr] at h0; cases h0), fun q hq => ?_⟩
  obtain rfl : q = i := by rw [hr] at hq; simpa using hq
  obtain ⟨fn, tmps, ay, bo, h1, h2⟩ := hy w hw
  have hr2 : (execOp (ev c.n e) ⟨some d, .call ⟨.value x, al.toArray, tys⟩, T, p, a, none⟩).run P w = .ok (.round lo fn tmps ay bo) w := by
    simp only [execOp, resolve, hx, Deferred.ofValue, Sem.run_bind, Sem.run_pure, Result.andThen_ok, invoke, List.map_toArray]
    simpa using h1
  unfold wpOpIn
  simp only [hi]
  rw [if_pos (by simp [Region.wanted])]
  refine ⟨fun _ _ => trivial, ?_⟩
  rw [act_eval, Oper.semAt_eq _ _ _ (fun _ h => by cases h), hr2, Oper.uponIn_round]
  refine ⟨fun hh => absurd hh (by simp [fw, Fence.wide]), ?_⟩
  have h2' : RoundIn (fw c.ro) (0 - 1) P lo fn tmps ay bo w fun en w' => ∃ v, en = .returned v ∧ R w v w' := h2
  refine h2'.mono ?_
  rintro en w' ⟨v, rfl, hv⟩
  obtain ⟨B', L', h3, h4⟩ := h w hw v w' hv
  simp only [act_put]
  exact h4 w' h3
end
end
attribute [irreducible] WA
section
variable {P : Program} {ops : Array Oper} {Q : Exit → Act → World → Prop} {c : Cf} {e : Env} {B : Base} {L : Heap} {rest : List Oper} {d : Nat} {o : Oper} {S : World → Prop} {fuel : Nat} {listed : Array Bool}
/-- a call that tells some value, of which R is known -/
theorem w_callE {f : FuncId} {args : Array Value} {R : Value → Prop} (hr : ∀ w, RunE P o (ev c.n e) w f args) (hg : plainB o = true) (hd : o.dst = some d) (hc : ∀ w, St B L w → Ret P f args w fun u w' => R u ∧ Ext w w')
    (h : ∀ u, R u → WX .sq P ops c Q rest (upd e d u) B L) : WX .sq P ops c Q (o :: rest) e B L :=
  w_callR (R := fun w u w' => R u ∧ Ext w w') hr hg hd hc fun _ hw _ _ ⟨hR, hx⟩ => ⟨B, L, hw.ext hx, h _ hR⟩
theorem o_callE {f : FuncId} {args : Array Value} {R : Value → Prop} {i : Nat} (hi : ops[i]? = some o) (hw : Region.wanted o (yielded ops (act c e).tmps) = true) (hd : o.dst = some d) (hr : ∀ w, RunE P o (ev c.n e) w f args)
    (hc : ∀ w, St B L w → Ret P f args w fun u w' => R u ∧ Ext w w') (h : ∀ u, R u → WH P ops c Q S fuel (listed.setIfInBounds i true) (upd e d u) B L) : WO P ops c Q S fuel listed i e B L :=
  o_callV (R := fun w u w' => R u ∧ Ext w w') (E := fun _ _ _ => False) hi hw hd hr (fun w hw => (hc w hw).toP) (fun w hw v w' ⟨hR, hx⟩ => ⟨B, L, hw.ext hx, h v hR⟩) (fun _ _ _ _ h => h.elim)
/-- two numbers are told -/
def Tel2 (F : Option Addr → Nat → Option Addr → Nat → Value) (k n k2 m : Nat) (w : World) (v : Value) (w' : World) : Prop := ∃ a c a2 c2, v = F a c a2 c2 ∧ Nm w' a k c n ∧ Nm w' a2 k2 c2 m ∧ Fsh w.heap.size a k ∧ Fsh w.heap.size a2 k2 ∧ Ext w w'
theorem St.told {w w' : World} (hw : St B L w) (hx : Ext w w') : St ((w', fun j => j ∈ L.map (·.1)) :: B) L w' := by
  have h1 := hw.ext hx
  refine ⟨?_, h1.own, h1.nd, ?_⟩
  · intro x hx
    rcases List.mem_cons.1 hx with rfl | hx
    · exact Fr.refl _ _
    · exact h1.fr x hx
  · intro p hp x hx
    rcases List.mem_cons.1 hx with rfl | hx
    · exact .inl (List.mem_map_of_mem hp)
    · exact h1.ok p hp x hx
theorem w_tel2 {f : FuncId} {args : Array Value} {F : Option Addr → Nat → Option Addr → Nat → Value} {k n k2 m : Nat} (hr : ∀ w, RunE P o (ev c.n e) w f args) (hg : plainB o = true) (hd : o.dst = some d) (hc : ∀ w, St B L w → Ret P f args w (Tel2 F k n k2 m w))
    (h : ∀ x a c' a2 c2, Kn x a k c' n → New_ B a k → Kn x a2 k2 c2 m → New_ B a2 k2 → WX .sq P ops c Q rest (upd e d (F a c' a2 c2)) (x :: B) L) : WX .sq P ops c Q (o :: rest) e B L := by
  refine w_callR (R := fun w u w' => Tel2 F k n k2 m w u w') hr hg hd hc fun w hw v w' ⟨a, c', a2, c2, hv, hN, hN2, hF, hF2, hx⟩ => ?_
  subst hv
  exact ⟨_, L, hw.told hx, h _ a c' a2 c2 (Kn.new hN hF hw) (fun y hy => hF.mono (hw.fr y hy).size) (Kn.new hN2 hF2 hw) (fun y hy => hF2.mono (hw.fr y hy).size)⟩
theorem o_makeU {x y : Operand} {T t el bytes n i : Nat} {p : String} {ed : Array Edge} {kl kc : IntKind} (hi : ops[i]? = some ⟨some d, .makeSlice t x y, T, p, ed, none⟩) (hT : slT P t el 1 bytes (.int .u64 0)) (hx : ev c.n e x = .int kl (n : Nat)) (hy : ev c.n e y = .int kc (n : Nat)) (hb : bytes * n ≤ 281474976710656) (h63 : n ≤ 9223372036854775807)
    (h : ∀ b, (∀ x ∈ L, x.1 < b) → (∀ x ∈ B, x.1.heap.size ≤ b) → WH P ops c Q S fuel (listed.setIfInBounds i true) (upd e d (.slice (some ⟨b, 0, none⟩) n n)) B ((b, cel (lmV 0 n) el) :: L)) : WO P ops c Q S fuel listed i e B L := by
  obtain ⟨ti, ht, hti, hsz, hby, hz, hzs⟩ := slT_spec hT
  subst hby
  refine o_valW hi (wn_none rfl) rfl fun w hw => ?_
  have hb2 : (ti.bytes : Int) * (n : Int) ≤ 281474976710656 := by rw [← Int.natCast_mul]; omega
  have hr := run_make (P := P) w t el ti (.int .u64 0) ht hti hz kl kc n n (Int.natCast_nonneg _) (Int.le_refl _) hb2 (by omega)
  have hc : (Value.int .u64 0).cells = #[.int .u64 0] := rfl
  rw [hc, Int.toNat_natCast, hsz, Nat.mul_one, made_one, ← lmV_zero] at hr
  exact ⟨_, _, B, _, by unfold Run; simp only [execOp, hx, hy, Sem.run_bind, hr, Result.andThen_ok]; rfl, hw.new, h w.heap.size (fun p hp => lt_of_blk (hw.own p hp)) (fun x hx => (hw.fr x hx).size)⟩
end
end Go.Sx
end
section
/- The plain part of the natural numbers: division, digit by digit. -/
namespace Go.Num
section
variable {b : Nat}
/-- a digit of a quotient is at most what the first digits tell -/
theorem guess_ge {u v q p : Nat} (hp : 0 < p) (hv : 0 < v / p) (h : q * v ≤ u) : q ≤ (u / p) / (v / p) := by
  have h1 : q * (v / p) ≤ u / p := by
    rw [Nat.le_div_iff_mul_le hp, Nat.mul_assoc]
    exact Nat.le_trans (Nat.mul_le_mul_left _ (Nat.div_mul_le_self v p)) h
  exact (Nat.le_div_iff_mul_le hv).2 h1
theorem guess_mul {u v q p : Nat} (hp : 0 < p) (h : q * v ≤ u) : q * (v / p) ≤ u / p := by
  rw [Nat.le_div_iff_mul_le hp, Nat.mul_assoc]
  exact Nat.le_trans (Nat.mul_le_mul_left _ (Nat.div_mul_le_self v p)) h
/-- a guess that is too great by the first digits -/
theorem guess_less {u v q g p : Nat} (hp : 0 < p) (hq : q * v ≤ u) (hg : q ≤ g) (h : u / p < g * (v / p)) : q ≤ g - 1 ∧ 0 < g := by
  have h1 := guess_mul hp hq
  rcases Nat.lt_or_ge q g with h2 | h2
  · exact ⟨by omega, by omega⟩
  · have : g = q := by omega
    subst this; omega
/-- the quotient's digit: the first guess from above that fits -/
theorem digit_eq {u v g : Nat} (hv : 0 < v) (h1 : u / v ≤ g) (h2 : g * v ≤ u) : g = u / v := by
  have := (Nat.le_div_iff_mul_le hv).2 h2
  omega
theorem div_end {a v q u : Nat} (h : a = q * v + u) (hu : u < v) : q = a / v ∧ u = a % v := by
  subst h
  have hv : 0 < v := by omega
  rw [Nat.add_comm, Nat.add_mul_div_right _ _ hv, Nat.add_mul_mod_self_right, Nat.div_eq_of_lt hu, Nat.mod_eq_of_lt hu]
  exact ⟨by omega, rfl⟩
end
end Go.Num
end
section
/- The plain part of the natural numbers: a division, limb by limb. -/
namespace Go.Num
section
variable {b u v j : Nat}
/-- one limb of a division: what is left, and the limb -/
theorem knuth_step (hb : 0 < b) (hv : 0 < v) (hU : u < v * b ^ (j + 1)) :
    u / b ^ j < v * b ∧ u / b ^ j / v < b ∧ u % b ^ j + b ^ j * (u / b ^ j % v) < v * b ^ j ∧ u = u / b ^ j / v * b ^ j * v + (u % b ^ j + b ^ j * (u / b ^ j % v)) := by
  have hp : 0 < b ^ j := Nat.pow_pos hb
  have h1 : u / b ^ j < v * b := by
    refine (Nat.div_lt_iff_lt_mul hp).2 ?_
    rw [Nat.mul_assoc, Nat.mul_comm b, ← Nat.pow_succ]; exact hU
  refine ⟨h1, (Nat.div_lt_iff_lt_mul hv).2 (by rw [Nat.mul_comm]; exact h1), ?_, ?_⟩
  · have h2 := Nat.mod_lt u hp
    have h3 : b ^ j * (u / b ^ j % v + 1) ≤ b ^ j * v := Nat.mul_le_mul_left _ (Nat.mod_lt _ hv)
    rw [Nat.mul_add] at h3
    rw [Nat.mul_comm v]; omega
  · have h4 := Nat.mod_add_div u (b ^ j)
    have h5 := Nat.div_add_mod (u / b ^ j) v
    generalize u / b ^ j % v = r at *
    generalize hg : u / b ^ j / v = g at *
    generalize u % b ^ j = z at *
    rw [← h5] at h4
    rw [← h4, Nat.mul_add, Nat.mul_right_comm, Nat.mul_comm v g, Nat.mul_comm (b ^ j) (g * v)]
    omega
/-- a number shifted down within the rest's first limbs -/
theorem top_two {i : Nat} (hi : 0 < i) (h : u < b ^ (i + 1)) : u / b ^ (i - 1) = dg b u i * b + dg b u (i - 1) := by
  have h1 := div_step b u (i - 1)
  have h2 := div_step b u i
  rw [Nat.div_eq_of_lt h] at h2
  rw [show i - 1 + 1 = i by omega] at h1
  rw [h1, h2, Nat.mul_zero, Nat.add_zero, Nat.mul_comm b]; omega
theorem top_three {i : Nat} (hi : 1 < i) (h : u < b ^ (i + 1)) : u / b ^ (i - 2) = (dg b u i * b + dg b u (i - 1)) * b + dg b u (i - 2) := by
  have h1 := div_step b u (i - 2)
  rw [show i - 2 + 1 = i - 1 by omega, top_two (by omega) h] at h1
  rw [h1, Nat.mul_comm b]; omega
theorem top_one {k : Nat} (hk : 0 < k) (h : v < b ^ k) : v / b ^ (k - 1) = dg b v (k - 1) := by
  have h1 := div_step b v (k - 1)
  rw [show k - 1 + 1 = k by omega, Nat.div_eq_of_lt h] at h1
  omega
/-- a limb's guess by the first two limbs is not too small -/
theorem guess_first {i k : Nat} (hb : 0 < b) (hk : 0 < k) (hki : k ≤ i) (hv : v < b ^ k) (ht : 0 < dg b v (k - 1)) (hu : u < b ^ (i + 1)) :
    u / b ^ (i - k) / v ≤ (dg b u i * b + dg b u (i - 1)) / dg b v (k - 1) := by
  have hp : 0 < b ^ (k - 1) := Nat.pow_pos hb
  have e : u / b ^ (i - k) / b ^ (k - 1) = dg b u i * b + dg b u (i - 1) := by
    rw [Nat.div_div_eq_div_mul, ← Nat.pow_add, show i - k + (k - 1) = i - 1 by omega, top_two (by omega) hu]
  have := guess_ge (u := u / b ^ (i - k)) (v := v) (q := u / b ^ (i - k) / v) (p := b ^ (k - 1)) hp (by rw [top_one hk hv]; exact ht) (Nat.div_mul_le_self _ _)
  rw [e, top_one hk hv] at this
  exact this
/-- a guess that the next limbs refuse -/
theorem guess_next {i k q r : Nat} (hb : 0 < b) (hk : 1 < k) (hki : k ≤ i) (hv : v < b ^ k) (hu : u < b ^ (i + 1))
    (hq : u / b ^ (i - k) / v ≤ q) (he : q * dg b v (k - 1) + r = dg b u i * b + dg b u (i - 1)) (hc : r * b + dg b u (i - 2) < q * dg b v (k - 2)) :
    u / b ^ (i - k) / v ≤ q - 1 ∧ 0 < q ∧ (q - 1) * dg b v (k - 1) + (r + dg b v (k - 1)) = dg b u i * b + dg b u (i - 1) := by
  have hp : 0 < b ^ (k - 2) := Nat.pow_pos hb
  have e : u / b ^ (i - k) / b ^ (k - 2) = (dg b u i * b + dg b u (i - 1)) * b + dg b u (i - 2) := by
    rw [Nat.div_div_eq_div_mul, ← Nat.pow_add, show i - k + (k - 2) = i - 2 by omega, top_three (by omega) hu]
  have ev : v / b ^ (k - 2) = dg b v (k - 1) * b + dg b v (k - 2) := by
    have := top_two (b := b) (u := v) (i := k - 1) (by omega) (by rw [show k - 1 + 1 = k by omega]; exact hv)
    rw [show k - 1 - 1 = k - 2 by omega] at this; exact this
  have h1 := guess_less (u := u / b ^ (i - k)) (v := v) (q := u / b ^ (i - k) / v) (g := q) (p := b ^ (k - 2)) hp (Nat.div_mul_le_self _ _) hq (by
    rw [e, ev, ← he, Nat.add_mul, Nat.mul_add, Nat.mul_assoc]; omega)
  obtain ⟨h2, h3⟩ := h1
  refine ⟨h2, h3, ?_⟩
  obtain ⟨d, rfl⟩ : ∃ d, q = d + 1 := ⟨q - 1, by omega⟩
  rw [← he, Nat.add_sub_cancel, Nat.add_mul]; omega
/-- products that are told in two limbs -/
theorem two_limbs {q n r c : Nat} (hb : 0 < b) (hc : c < b) : (q * n / b < r ∨ q * n / b = r ∧ q * n % b ≤ c) ↔ q * n ≤ r * b + c := by
  have h1 := Nat.div_add_mod (q * n) b
  have h2 := Nat.mod_lt (q * n) hb
  generalize q * n / b = h at *
  generalize q * n % b = l at *
  generalize q * n = x at *
  subst h1
  constructor
  · rintro (h3 | ⟨rfl, h3⟩)
    · have : b * (h + 1) ≤ b * r := Nat.mul_le_mul_left _ h3
      rw [Nat.mul_add] at this
      rw [Nat.mul_comm r]; omega
    · rw [Nat.mul_comm h]; omega
  · intro h3
    rcases Nat.lt_trichotomy h r with h4 | h4 | h4
    · exact .inl h4
    · subst h4; rw [Nat.mul_comm h] at h3; exact .inr ⟨rfl, by omega⟩
    · have : b * (r + 1) ≤ b * h := Nat.mul_le_mul_left _ h4
      rw [Nat.mul_add] at this
      rw [Nat.mul_comm r] at h3; omega
end
end Go.Num
end
section
namespace Go.Proofs.YtoapegnngbhkbaaGreatDoor
open Go.RowKit Go.Sx
open Go.Num
def cmPs : Array Go.Tmp := #[11, 12]
def cmAs : Go.Code := (Go.Code.region 3 #[(Go.Oper.mk (some 7) (Go.Op.alloc 135) 0 "nat.go:87" #[] none), (Go.Oper.mk none (Go.Op.store 135 (Go.Operand.tmp 7) (Go.Operand.tmp 12)) 0 "nat.go:87" #[(Go.Edge.mk 0 Go.Ground.data), (Go.Edge.mk 0 Go.Ground.phase)] none)] false)
def cmBo : Go.Code := (Go.Code.block 1 (Go.Code.block 2 (Go.Code.seq (Go.Code.region 4 #[(Go.Oper.mk (some 14) (Go.Op.indexAddr 135 (Go.Operand.tmp 7) (Go.Operand.const (Go.Value.int Go.IntKind.i64 0))) 0 "nat.go:89" #[] none), (Go.Oper.mk (some 15) (Go.Op.load 66 (Go.Operand.tmp 14)) 66 "nat.go:89" #[(Go.Edge.mk 0 Go.Ground.data)] none), (Go.Oper.mk (some 16) (Go.Op.indexAddr 135 (Go.Operand.tmp 7) (Go.Operand.const (Go.Value.int Go.IntKind.i64 1))) 0 "nat.go:89" #[] none), (Go.Oper.mk (some 17) (Go.Op.load 66 (Go.Operand.tmp 16)) 66 "nat.go:89" #[(Go.Edge.mk 2 Go.Ground.data)] none), (Go.Oper.mk (some 18) (Go.Op.binOp Go.BinOp.lss 66 (Go.Operand.tmp 15) (Go.Operand.tmp 17) 66) 4 "nat.go:89" #[(Go.Edge.mk 1 Go.Ground.data), (Go.Edge.mk 3 Go.Ground.data)] none), (Go.Oper.mk (some 13) (Go.Op.assign (Go.Operand.tmp 18)) 4 "nat.go:89" #[(Go.Edge.mk 4 Go.Ground.data)] none)] false) (Go.Code.cond (Go.Operand.tmp 13) (Go.Code.region 5 #[(Go.Oper.mk none (Go.Op.store 3 (Go.Operand.tmp 5) (Go.Operand.const (Go.Value.int Go.IntKind.i64 (-1)))) 0 "nat.go:90" #[] none)] false) (Go.Code.seq (Go.Code.region 6 #[(Go.Oper.mk (some 20) (Go.Op.indexAddr 135 (Go.Operand.tmp 7) (Go.Operand.const (Go.Value.int Go.IntKind.i64 0))) 0 "nat.go:91" #[] none), (Go.Oper.mk (some 21) (Go.Op.load 66 (Go.Operand.tmp 20)) 66 "nat.go:91" #[(Go.Edge.mk 0 Go.Ground.data)] none), (Go.Oper.mk (some 22) (Go.Op.indexAddr 135 (Go.Operand.tmp 7) (Go.Operand.const (Go.Value.int Go.IntKind.i64 1))) 0 "nat.go:91" #[] none), (Go.Oper.mk (some 23) (Go.Op.load 66 (Go.Operand.tmp 22)) 66 "nat.go:91" #[(Go.Edge.mk 2 Go.Ground.data)] none), (Go.Oper.mk (some 24) (Go.Op.binOp Go.BinOp.gtr 66 (Go.Operand.tmp 21) (Go.Operand.tmp 23) 66) 4 "nat.go:91" #[(Go.Edge.mk 1 Go.Ground.data), (Go.Edge.mk 3 Go.Ground.data)] none), (Go.Oper.mk (some 19) (Go.Op.assign (Go.Operand.tmp 24)) 4 "nat.go:91" #[(Go.Edge.mk 4 Go.Ground.data)] none)] false) (Go.Code.cond (Go.Operand.tmp 19) (Go.Code.region 7 #[(Go.Oper.mk none (Go.Op.store 3 (Go.Operand.tmp 5) (Go.Operand.const (Go.Value.int Go.IntKind.i64 1))) 0 "nat.go:92" #[] none)] false) Go.Code.skip))))))
def adPs : Array Go.Tmp := #[19, 20]
def adAs : Go.Code := (Go.Code.region 6 #[(Go.Oper.mk (some 9) (Go.Op.alloc 135) 0 "nat.go:105" #[] none), (Go.Oper.mk none (Go.Op.store 135 (Go.Operand.tmp 9) (Go.Operand.tmp 20)) 0 "nat.go:105" #[(Go.Edge.mk 0 Go.Ground.data), (Go.Edge.mk 0 Go.Ground.phase)] none)] false)
def adBo : Go.Code := (Go.Code.block 1 (Go.Code.seq (Go.Code.region 7 #[(Go.Oper.mk (some 22) (Go.Op.indexAddr 135 (Go.Operand.tmp 9) (Go.Operand.const (Go.Value.int Go.IntKind.i64 0))) 0 "nat.go:106" #[] none), (Go.Oper.mk (some 23) (Go.Op.load 66 (Go.Operand.tmp 22)) 66 "nat.go:106" #[(Go.Edge.mk 0 Go.Ground.data)] none), (Go.Oper.mk (some 24) (Go.Op.indexAddr 135 (Go.Operand.tmp 9) (Go.Operand.const (Go.Value.int Go.IntKind.i64 1))) 0 "nat.go:106" #[] none), (Go.Oper.mk (some 25) (Go.Op.load 66 (Go.Operand.tmp 24)) 66 "nat.go:106" #[(Go.Edge.mk 2 Go.Ground.data)] none), (Go.Oper.mk (some 26) (Go.Op.load 66 (Go.Operand.tmp 7)) 66 "nat.go:106" #[] none), (Go.Oper.mk (some 27) (Go.Op.call (Go.Call.mk (Go.Callee.value (Go.Operand.func 112)) #[(Go.Operand.tmp 23), (Go.Operand.tmp 25), (Go.Operand.tmp 26)] #[66, 66, 66])) 136 "nat.go:106" #[(Go.Edge.mk 1 Go.Ground.data), (Go.Edge.mk 3 Go.Ground.data), (Go.Edge.mk 4 Go.Ground.data)] none), (Go.Oper.mk (some 21) (Go.Op.move (Go.Operand.tmp 27)) 136 "nat.go:106" #[(Go.Edge.mk 5 Go.Ground.data)] none), (Go.Oper.mk (some 28) (Go.Op.extract (Go.Operand.tmp 21) 0) 66 "nat.go:106" #[(Go.Edge.mk 6 Go.Ground.data)] none), (Go.Oper.mk (some 29) (Go.Op.extract (Go.Operand.tmp 21) 1) 66 "nat.go:106" #[(Go.Edge.mk 6 Go.Ground.data), (Go.Edge.mk 9 (Go.Ground.gcOnly Go.Departure.lateStores))] none), (Go.Oper.mk (some 10) (Go.Op.assign (Go.Operand.tmp 28)) 66 "nat.go:106" #[(Go.Edge.mk 7 Go.Ground.data), (Go.Edge.mk 5 Go.Ground.chain), (Go.Edge.mk 0 Go.Ground.phase), (Go.Edge.mk 1 Go.Ground.phase), (Go.Edge.mk 2 Go.Ground.phase), (Go.Edge.mk 3 Go.Ground.phase), (Go.Edge.mk 4 Go.Ground.phase), (Go.Edge.mk 5 Go.Ground.phase), (Go.Edge.mk 6 Go.Ground.phase), (Go.Edge.mk 7 Go.Ground.phase), (Go.Edge.mk 8 (Go.Ground.textOnly Go.Departure.lateStores))] none), (Go.Oper.mk (some 11) (Go.Op.assign (Go.Operand.tmp 29)) 66 "nat.go:106" #[(Go.Edge.mk 8 Go.Ground.data), (Go.Edge.mk 9 Go.Ground.chain), (Go.Edge.mk 0 Go.Ground.phase), (Go.Edge.mk 1 Go.Ground.phase), (Go.Edge.mk 2 Go.Ground.phase), (Go.Edge.mk 3 Go.Ground.phase), (Go.Edge.mk 4 Go.Ground.phase), (Go.Edge.mk 5 Go.Ground.phase), (Go.Edge.mk 6 Go.Ground.phase), (Go.Edge.mk 7 Go.Ground.phase), (Go.Edge.mk 8 Go.Ground.phase), (Go.Edge.mk 9 Go.Ground.phase)] none)] false) (Go.Code.region 8 #[(Go.Oper.mk (some 30) (Go.Op.load 23 (Go.Operand.tmp 6)) 23 "nat.go:107" #[] none), (Go.Oper.mk (some 31) (Go.Op.move (Go.Operand.tmp 10)) 66 "nat.go:107" #[] none), (Go.Oper.mk (some 32) (Go.Op.buildSlice 23 1 #[(0, (Go.Operand.tmp 31))]) 23 "nat.go:107" #[(Go.Edge.mk 1 Go.Ground.data)] none), (Go.Oper.mk (some 33) (Go.Op.call (Go.Call.mk (Go.Callee.builtin Go.Builtin.append) #[(Go.Operand.tmp 30), (Go.Operand.tmp 32)] #[23, 23])) 23 "nat.go:107" #[(Go.Edge.mk 0 Go.Ground.data), (Go.Edge.mk 2 Go.Ground.data)] none), (Go.Oper.mk (some 34) (Go.Op.move (Go.Operand.tmp 11)) 66 "nat.go:107" #[(Go.Edge.mk 5 (Go.Ground.gcOnly Go.Departure.lateStores))] none), (Go.Oper.mk none (Go.Op.store 23 (Go.Operand.tmp 6) (Go.Operand.tmp 33)) 0 "nat.go:107" #[(Go.Edge.mk 3 Go.Ground.data), (Go.Edge.mk 3 Go.Ground.chain), (Go.Edge.mk 0 Go.Ground.phase), (Go.Edge.mk 1 Go.Ground.phase), (Go.Edge.mk 2 Go.Ground.phase), (Go.Edge.mk 3 Go.Ground.phase), (Go.Edge.mk 4 (Go.Ground.textOnly Go.Departure.lateStores))] none), (Go.Oper.mk none (Go.Op.store 66 (Go.Operand.tmp 7) (Go.Operand.tmp 34)) 0 "nat.go:107" #[(Go.Edge.mk 4 Go.Ground.data), (Go.Edge.mk 5 Go.Ground.chain), (Go.Edge.mk 0 Go.Ground.phase), (Go.Edge.mk 1 Go.Ground.phase), (Go.Edge.mk 2 Go.Ground.phase), (Go.Edge.mk 3 Go.Ground.phase), (Go.Edge.mk 4 Go.Ground.phase), (Go.Edge.mk 5 Go.Ground.phase)] none)] false)))
def lePs : Array Go.Tmp := #[14, 15]
def leAs : Go.Code := (Go.Code.region 4 #[(Go.Oper.mk (some 8) (Go.Op.alloc 135) 0 "nat.go:116" #[] none), (Go.Oper.mk none (Go.Op.store 135 (Go.Operand.tmp 8) (Go.Operand.tmp 15)) 0 "nat.go:116" #[(Go.Edge.mk 0 Go.Ground.data), (Go.Edge.mk 0 Go.Ground.phase)] none)] false)
def leBo : Go.Code := (Go.Code.block 1 (Go.Code.seq (Go.Code.region 5 #[(Go.Oper.mk (some 17) (Go.Op.indexAddr 135 (Go.Operand.tmp 8) (Go.Operand.const (Go.Value.int Go.IntKind.i64 0))) 0 "nat.go:117" #[] none), (Go.Oper.mk (some 18) (Go.Op.load 66 (Go.Operand.tmp 17)) 66 "nat.go:117" #[(Go.Edge.mk 0 Go.Ground.data)] none), (Go.Oper.mk (some 19) (Go.Op.indexAddr 135 (Go.Operand.tmp 8) (Go.Operand.const (Go.Value.int Go.IntKind.i64 1))) 0 "nat.go:117" #[] none), (Go.Oper.mk (some 20) (Go.Op.load 66 (Go.Operand.tmp 19)) 66 "nat.go:117" #[(Go.Edge.mk 2 Go.Ground.data)] none), (Go.Oper.mk (some 21) (Go.Op.load 66 (Go.Operand.tmp 6)) 66 "nat.go:117" #[] none), (Go.Oper.mk (some 22) (Go.Op.call (Go.Call.mk (Go.Callee.value (Go.Operand.func 153)) #[(Go.Operand.tmp 18), (Go.Operand.tmp 20), (Go.Operand.tmp 21)] #[66, 66, 66])) 136 "nat.go:117" #[(Go.Edge.mk 1 Go.Ground.data), (Go.Edge.mk 3 Go.Ground.data), (Go.Edge.mk 4 Go.Ground.data)] none), (Go.Oper.mk (some 16) (Go.Op.move (Go.Operand.tmp 22)) 136 "nat.go:117" #[(Go.Edge.mk 5 Go.Ground.data)] none), (Go.Oper.mk (some 23) (Go.Op.extract (Go.Operand.tmp 16) 0) 66 "nat.go:117" #[(Go.Edge.mk 6 Go.Ground.data)] none), (Go.Oper.mk (some 24) (Go.Op.extract (Go.Operand.tmp 16) 1) 66 "nat.go:117" #[(Go.Edge.mk 6 Go.Ground.data), (Go.Edge.mk 9 (Go.Ground.gcOnly Go.Departure.lateStores))] none), (Go.Oper.mk (some 9) (Go.Op.assign (Go.Operand.tmp 23)) 66 "nat.go:117" #[(Go.Edge.mk 7 Go.Ground.data), (Go.Edge.mk 5 Go.Ground.chain), (Go.Edge.mk 0 Go.Ground.phase), (Go.Edge.mk 1 Go.Ground.phase), (Go.Edge.mk 2 Go.Ground.phase), (Go.Edge.mk 3 Go.Ground.phase), (Go.Edge.mk 4 Go.Ground.phase), (Go.Edge.mk 5 Go.Ground.phase), (Go.Edge.mk 6 Go.Ground.phase), (Go.Edge.mk 7 Go.Ground.phase), (Go.Edge.mk 8 (Go.Ground.textOnly Go.Departure.lateStores))] none), (Go.Oper.mk (some 10) (Go.Op.assign (Go.Operand.tmp 24)) 66 "nat.go:117" #[(Go.Edge.mk 8 Go.Ground.data), (Go.Edge.mk 9 Go.Ground.chain), (Go.Edge.mk 0 Go.Ground.phase), (Go.Edge.mk 1 Go.Ground.phase), (Go.Edge.mk 2 Go.Ground.phase), (Go.Edge.mk 3 Go.Ground.phase), (Go.Edge.mk 4 Go.Ground.phase), (Go.Edge.mk 5 Go.Ground.phase), (Go.Edge.mk 6 Go.Ground.phase), (Go.Edge.mk 7 Go.Ground.phase), (Go.Edge.mk 8 Go.Ground.phase), (Go.Edge.mk 9 Go.Ground.phase)] none)] false) (Go.Code.region 6 #[(Go.Oper.mk (some 25) (Go.Op.load 23 (Go.Operand.tmp 5)) 23 "nat.go:118" #[] none), (Go.Oper.mk (some 26) (Go.Op.move (Go.Operand.tmp 9)) 66 "nat.go:118" #[] none), (Go.Oper.mk (some 27) (Go.Op.buildSlice 23 1 #[(0, (Go.Operand.tmp 26))]) 23 "nat.go:118" #[(Go.Edge.mk 1 Go.Ground.data)] none), (Go.Oper.mk (some 28) (Go.Op.call (Go.Call.mk (Go.Callee.builtin Go.Builtin.append) #[(Go.Operand.tmp 25), (Go.Operand.tmp 27)] #[23, 23])) 23 "nat.go:118" #[(Go.Edge.mk 0 Go.Ground.data), (Go.Edge.mk 2 Go.Ground.data)] none), (Go.Oper.mk (some 29) (Go.Op.move (Go.Operand.tmp 10)) 66 "nat.go:118" #[(Go.Edge.mk 5 (Go.Ground.gcOnly Go.Departure.lateStores))] none), (Go.Oper.mk none (Go.Op.store 23 (Go.Operand.tmp 5) (Go.Operand.tmp 28)) 0 "nat.go:118" #[(Go.Edge.mk 3 Go.Ground.data), (Go.Edge.mk 3 Go.Ground.chain), (Go.Edge.mk 0 Go.Ground.phase), (Go.Edge.mk 1 Go.Ground.phase), (Go.Edge.mk 2 Go.Ground.phase), (Go.Edge.mk 3 Go.Ground.phase), (Go.Edge.mk 4 (Go.Ground.textOnly Go.Departure.lateStores))] none), (Go.Oper.mk none (Go.Op.store 66 (Go.Operand.tmp 6) (Go.Operand.tmp 29)) 0 "nat.go:118" #[(Go.Edge.mk 4 Go.Ground.data), (Go.Edge.mk 5 Go.Ground.chain), (Go.Edge.mk 0 Go.Ground.phase), (Go.Edge.mk 1 Go.Ground.phase), (Go.Edge.mk 2 Go.Ground.phase), (Go.Edge.mk 3 Go.Ground.phase), (Go.Edge.mk 4 Go.Ground.phase), (Go.Edge.mk 5 Go.Ground.phase)] none)] false)))
/-- what a round over pairs of limbs does -/
def PairY (n m K : Nat) (J : Nat → Heap → Prop) (lo : Nat) : Prop :=
 ∀ (i : Nat) (Lc Lr : Heap) (B : Base) (w : World), i < K → J i Lc → St B (Lc ++ Lr) w →
  YieldAt (fw none) 0 Tryz.prog lo #[.int .i64 (i : Nat), .agg #[.int .u64 (dg Go.Num.B n i : Nat), .int .u64 (dg Go.Num.B m i : Nat)]] w (fun en w' => ∃ v, en = .returned v ∧ ∃ Lc', v = .bool true ∧ J (i + 1) Lc' ∧ St B (Lc' ++ Lr) w')
theorem dg_beyond {n k i : Nat} (h : n < Go.Num.B ^ k) (hi : k ≤ i) : dg Go.Num.B n i = 0 := dg_out (Nat.lt_of_lt_of_le h (Nat.pow_le_pow_right B_pos hi))
theorem lt_max1 {n k : Nat} (k2 : Nat) (h : n < Go.Num.B ^ k) : n < Go.Num.B ^ max k k2 := Nat.lt_of_lt_of_le h (Nat.pow_le_pow_right B_pos (Nat.le_max_left _ _))
theorem lt_max2 {n k2 : Nat} (k : Nat) (h : n < Go.Num.B ^ k2) : n < Go.Num.B ^ max k k2 := Nat.lt_of_lt_of_le h (Nat.pow_le_pow_right B_pos (Nat.le_max_right _ _))
set_option maxRecDepth 100000 in
set_option maxHeartbeats 400000 in
theorem at_ok {a : Option Addr} {k c n : Nat} (w : World) (hA : Nm w a k c n) (i : Nat) :
  Ret Tryz.prog 142 #[.slice a k c, .int .i64 (i : Nat)] w (fun v w' => v = .int .u64 (dg Go.Num.B n i : Nat) ∧ Ext w w') := by
 refine enter (S := No) (l := [_, _]) (L := []) 13 Tryz.func142 rfl rfl rfl (St.start w No) ?_; refine yA ?_; refine aI rfl ?_; refine yB ?_; refine zq ?_; refine yA ?_; refine mI rfl ?_; refine mS rfl ?_; refine w_r (fun _ => R_len sl23 rfl) rfl rfl ?_; refine w_r (fun _ => R_ltN (a := i) (b := k) rfl rfl) rfl rfl ?_; refine yB ?_; refine zD rfl (fun h1 => ?_) (fun h1 => ?_)
 ·refine yA ?_; refine mS rfl ?_; refine mI rfl ?_; refine w_r (fun _ => R_iaK (i := i) sl23 rfl ((Kn.old hA).ptr (by omega)) rfl (by omega)) rfl rfl ?_; refine zl (v := .int .u64 ((dg Go.Num.B n i) : Nat)) z66 rfl (fun w h => (Kn.old hA).ca 0 rfl (by omega) h) ?_; refine aI rfl ?_; refine yB ?_; refine ze ?_; refine zt (?_)
  refine zo (v := .int _ _) rfl rfl rfl ?_; exact fun w' hw => ⟨rfl, hw.fr (w, No) (.head _)⟩
 ·refine zi ?_; refine zk ?_; refine yA ?_; refine aI rfl ?_; refine yB ?_; refine ze ?_; refine zo (v := .int _ _) rfl rfl rfl ?_; exact fun w' hw => ⟨by rw [dg_beyond hA.lt (by omega)]; rfl, hw.fr (w, No) (.head _)⟩
set_option maxRecDepth 100000 in
set_option maxHeartbeats 400000 in
theorem pairs_ok (a a2 : Option Addr) (k c k2 c2 : Nat) (w : World) :
  Ret Tryz.prog 111 #[.slice a k c, .slice a2 k2 c2] w (fun v w' => ∃ W, (∃ p1 p2 p3, v = .func (.func 143) #[] #[.pointer (some ⟨p1, 0, none⟩), .pointer (some ⟨p2, 0, none⟩), .pointer (some ⟨p3, 0, none⟩)] ∧ W = [(p3, cel [.func (.func 142) #[] #[]] 98), (p2, cel [.slice a2 k2 c2] 23), (p1, cel [.slice a k c] 23)]) ∧ New w w' W) := by
 refine enter (S := No) (l := [_, _]) (L := []) 7 Tryz.func111 rfl rfl rfl (St.start w No) ?_; refine yA ?_; refine w_box rfl (fun p1 gp1 up1 => ?_)
 refine w_box rfl (fun p2 gp2 up2 => ?_)
 refine za rfl ?_; refine yC ?_; refine w_alloc zr98 (fun p3 gp3 up3 => ?_)
 refine w_store 0 rfl z98 rfl rfl rfl rfl rfl rfl rfl ?_; refine yC ?_; refine w_r (fun _ => R_makeFunc) rfl rfl ?_; refine za rfl ?_; refine yB ?_; refine ze ?_; refine zo rfl rfl rfl ?_; exact fun w' hw => ⟨_, ⟨p1, p2, p3, rfl, rfl⟩, St.made (A := []) hw⟩
set_option maxRecDepth 100000 in
set_option maxHeartbeats 2000000 in
theorem pairsI_ok {a a2 : Option Addr} {k c k2 c2 n m : Nat} (x1 x2 : World × (Nat → Prop)) (hK1 : Kn x1 a k c n) (hK2 : Kn x2 a2 k2 c2 m) (hk : k ≤ 1000000) (hk2 : k2 ≤ 1000000) (lo p1 p2 p3 : Nat) (J : Nat → Heap → Prop) (hJ : PairY n m (max k k2) J lo) (Lc Lr : Heap) (hJ0 : J 0 Lc) (Bs : Base) (i1 i2 : Nat) (hx1 : Bs[i1]? = some x1) (hx2 : Bs[i2]? = some x2) (w : World) (hs : St Bs ([(p1, cel [.slice a k c] 23), (p2, cel [.slice a2 k2 c2] 23), (p3, cel [.func (.func 142) #[] #[]] 98)] ++ (Lc ++ Lr)) w) :
  Ret Tryz.prog 143 #[.func (.yield lo) #[] #[], .pointer (some ⟨p1, 0, none⟩), .pointer (some ⟨p2, 0, none⟩), .pointer (some ⟨p3, 0, none⟩)] w (fun v w' => v = .tuple #[] ∧ ∃ Lc', J (max k k2) Lc' ∧ St Bs ([(p1, cel [.slice a k c] 23), (p2, cel [.slice a2 k2 c2] 23), (p3, cel [.func (.func 142) #[] #[]] 98)] ++ (Lc' ++ Lr)) w') := by
 refine enterB (l := [_, _, _, _]) 28 Tryz.func143 rfl rfl rfl (hs) ?_; refine yA ?_; refine zl z23 rfl (fun _ h => zc 0 rfl rfl h) ?_; refine w_r (fun _ => R_len sl23 rfl) rfl rfl ?_; refine zl z23 rfl (fun _ h => zc 1 rfl rfl h) ?_; refine w_r (fun _ => R_len sl23 rfl) rfl rfl ?_; refine w_r (fun _ => R_maxN (a := k) (b := k2) rfl rfl) rfl rfl ?_; refine mI rfl ?_; refine yB ?_; refine zB ?_
 refine c_loop (fun m9 e B L => ∃ (i : Nat) (L1 : Heap), e 0 = .func (.yield lo) #[] #[] ∧ e 1 = .pointer (some ⟨p1, 0, none⟩) ∧ e 2 = .pointer (some ⟨p2, 0, none⟩) ∧ e 3 = .pointer (some ⟨p3, 0, none⟩) ∧ e 10 = .int .i64 (max k k2 : Nat) ∧ e 11 = .int .i64 (i : Nat) ∧ Bs = B ∧ L = [(p1, cel [.slice a k c] 23), (p2, cel [.slice a2 k2 c2] 23), (p3, cel [.func (.func 142) #[] #[]] 98)] ++ (L1 ++ Lr) ∧ i ≤ max k k2 ∧ J i L1 ∧ m9 = max k k2 - i) _ ⟨0, Lc, rfl, rfl, rfl, rfl, rfl, rfl, rfl, rfl, Nat.zero_le _, hJ0, rfl⟩ ?_
 rintro m9 e B L ⟨i, L1, e0_1, e1_1, e2_1, e3_1, e10_1, e11_1, rfl, rfl, hi, hJ1, rfl⟩
 refine yA ?_; refine w_r (fun _ => R_ltN (a := i) (b := (max k k2)) e11_1 e10_1) rfl rfl ?_; refine yB ?_; refine zq ?_; refine zD rfl (fun h1 => ?_) (fun h1 => ?_)
 ·have hlt : i < max k k2 := h1
  refine zi ?_; refine zk ?_; refine zq ?_; refine zB ?_; refine yA ?_; refine mI e11_1 ?_; refine aI rfl ?_; refine yB ?_; refine zq ?_; refine a_first [(14, .func (.yield lo) #[] #[]), (15, .int .i64 (i : Nat)), (16, .func (.func 142) #[] #[]), (17, .slice a k c), (18, .int .i64 (i : Nat)), (19, .int .u64 (dg Go.Num.B n i : Nat)), (20, .func (.func 142) #[] #[]), (21, .slice a2 k2 c2), (22, .int .i64 (i : Nat)), (23, .int .u64 (dg Go.Num.B m i : Nat)), (24, .agg #[.int .u64 (dg Go.Num.B n i : Nat), .int .u64 (dg Go.Num.B m i : Nat)])] mixed rfl (by kernel_rfl) ?_ ?_
  ·rintro (_ | _ | _ | _ | _ | _ | _ | _ | _ | _ | _ | j) p hp e' h1 h2
   ·cases hp; exact ⟨_, rfl, rfl, rfl, fun w h => .inl (R_move ((h2 0 (by rfl)).trans (e0_1)))⟩
   ·cases hp; exact ⟨_, rfl, rfl, rfl, fun w h => .inl (R_move ((h2 5 (by rfl)).trans (rfl)))⟩
   ·cases hp; exact ⟨_, rfl, rfl, rfl, fun w h => .inl (R_ld1 z98 ((h2 3 (by rfl)).trans (e3_1)) (zc 2 rfl rfl h))⟩
   ·cases hp; exact ⟨_, rfl, rfl, rfl, fun w h => .inl (R_ld1 z23 ((h2 1 (by rfl)).trans (e1_1)) (zc 0 rfl rfl h))⟩
   ·cases hp; exact ⟨_, rfl, rfl, rfl, fun w h => .inl (R_move ((h2 5 (by rfl)).trans (rfl)))⟩
   ·cases hp; exact ⟨_, rfl, rfl, rfl, fun w h => .inr ⟨_, _, runE_as (R_callv (h1 2 _ (by kernel_rfl) rfl) Tryz.func142 rfl rfl) (arr2 (h1 3 _ (by kernel_rfl) rfl) (h1 4 _ (by kernel_rfl) rfl)), at_ok w (hK1.at_ i1 hx1 h) i⟩⟩
   ·cases hp; exact ⟨_, rfl, rfl, rfl, fun w h => .inl (R_ld1 z98 ((h2 3 (by rfl)).trans (e3_1)) (zc 2 rfl rfl h))⟩
   ·cases hp; exact ⟨_, rfl, rfl, rfl, fun w h => .inl (R_ld1 z23 ((h2 2 (by rfl)).trans (e2_1)) (zc 1 rfl rfl h))⟩
   ·cases hp; exact ⟨_, rfl, rfl, rfl, fun w h => .inl (R_move ((h2 5 (by rfl)).trans (rfl)))⟩
   ·cases hp; exact ⟨_, rfl, rfl, rfl, fun w h => .inr ⟨_, _, runE_as (R_callv (h1 6 _ (by kernel_rfl) rfl) Tryz.func142 rfl rfl) (arr2 (h1 7 _ (by kernel_rfl) rfl) (h1 8 _ (by kernel_rfl) rfl)), at_ok w (hK2.at_ i2 hx2 h) i⟩⟩
   ·cases hp; exact ⟨_, rfl, rfl, rfl, fun w h => .inl (R_buildA2 ar135 zr135 (h1 5 _ (by kernel_rfl) rfl) (h1 9 _ (by kernel_rfl) rfl))⟩
   ·cases hp
  refine a_yield 11 rfl (by kernel_rfl) rfl (fun w h => hJ i L1 ([(p1, cel [.slice a k c] 23), (p2, cel [.slice a2 k2 c2] 23), (p3, cel [.func (.func 142) #[] #[]] 98)] ++ Lr) Bs w hlt hJ1 (h.perm (perm_mid [(p1, cel [.slice a k c] 23), (p2, cel [.slice a2 k2 c2] 23), (p3, cel [.func (.func 142) #[] #[]] 98)] L1 Lr))) ?_
  rintro w h v w' ⟨L2, rfl, hJ2, h2⟩
  refine ⟨_, _, h2.perm (perm_mid [(p1, cel [.slice a k c] 23), (p2, cel [.slice a2 k2 c2] 23), (p3, cel [.func (.func 142) #[] #[]] 98)] L2 Lr).symm, ?_⟩
  refine a_run 12 rfl (by kernel_rfl) rfl rfl (fun w h => R_not rfl) ?_; refine a_done (by kernel_rfl) ?_; refine zk ?_; refine c_condF rfl ?_; refine zi ?_; refine b_on (zk ?_); refine zr ?_; refine w_r (fun _ => R_addN (n := i) (b := 1) e11_1 rfl (by omega)) rfl rfl ?_; refine mI rfl ?_; refine zn ?_; exact k_again _ (by omega) ⟨i + 1, L2, e0_1, e1_1, e2_1, e3_1, e10_1, rfl, rfl, rfl, by omega, hJ2, rfl⟩
 ·refine c_exit ?_; refine zx (zx (b_here rfl (?_)))
  refine r_none (.inr rfl) rfl ?_; exact fun w' hw => ⟨rfl, L1, by obtain rfl : i = max k k2 := (by omega); exact hJ1, hw⟩
def cmJ (e : Env) (fn r l ob n m : Nat) (ds : List Deferred) (i : Nat) (Lc : Heap) : Prop := Lc = [(l, lpO .ready none fn ⟨26, ds, none⟩ e cmPs cmAs cmBo r), (ob, cel [.int .i64 (cmpN (n % Go.Num.B ^ i) (m % Go.Num.B ^ i))] 3)]
set_option maxRecDepth 100000 in
set_option maxHeartbeats 1000000 in
theorem cm_round (e : Env) (fn r l ob n m K : Nat) (ds : List Deferred) (he5 : e 5 = .pointer (some ⟨ob, 0, none⟩)) : PairY n m K (cmJ e fn r l ob n m ds) l := by
 intro i Lc Lr B w hiK hJ0 hw
 obtain rfl := hJ0
 refine yield_round 0 (L := _ :: _ :: Lr) hw rfl rfl ?_; refine zr ?_; refine w_alloc zr135 (fun t7b gt7b ut7b => ?_)
 refine w_store 0 rfl z135 rfl rfl rfl rfl rfl rfl rfl ?_; refine zn ?_; refine k_begin (l' := 0) 1 rfl ?_; refine zB ?_; refine zB ?_; refine yA ?_; refine w_r (fun _ => R_iaA ar135 (by decide) rfl rfl (by first | omega | decide | exact Nat.succ_pos _ | exact Nat.succ_lt_succ (Nat.succ_pos _))) rfl rfl ?_; refine zl z66 rfl (fun _ h => zc 0 rfl rfl h) ?_; refine w_r (fun _ => R_iaA (i := 1) ar135 (by decide) rfl rfl (by first | omega | decide | exact Nat.succ_pos _ | exact Nat.succ_lt_succ (Nat.succ_pos _))) rfl rfl ?_; refine zl z66 rfl (fun _ h => zc 0 rfl rfl h) ?_; refine w_r (fun _ => R_ltN (a := (dg Go.Num.B n i)) (b := (dg Go.Num.B m i)) rfl rfl) rfl rfl ?_; refine aB rfl ?_; refine yB ?_; refine zD rfl (fun h2 => ?_) (fun h2 => ?_)
 ·refine zr ?_; refine w_store 2 rfl z3 he5 rfl rfl rfl rfl rfl rfl ?_; refine zn ?_; refine b_on (b_on (?_))
  refine k_round 1 rfl ?_; exact fun w h => ⟨_, rfl, [_, _], rfl, by unfold cmJ; rw [cmp_step B_pos, if_pos h2]; (try rfl), h.drop (List.sublist_cons_self _ _)⟩
 ·refine yA ?_; refine w_r (fun _ => R_iaA ar135 (by decide) rfl rfl (by first | omega | decide | exact Nat.succ_pos _ | exact Nat.succ_lt_succ (Nat.succ_pos _))) rfl rfl ?_; refine zl z66 rfl (fun _ h => zc 0 rfl rfl h) ?_; refine w_r (fun _ => R_iaA (i := 1) ar135 (by decide) rfl rfl (by first | omega | decide | exact Nat.succ_pos _ | exact Nat.succ_lt_succ (Nat.succ_pos _))) rfl rfl ?_; refine zl z66 rfl (fun _ h => zc 0 rfl rfl h) ?_; refine w_r (fun _ => R_gtN (a := (dg Go.Num.B n i)) (b := (dg Go.Num.B m i)) rfl rfl) rfl rfl ?_; refine aB rfl ?_; refine yB ?_; refine zD rfl (fun h3 => ?_) (fun h3 => ?_)
  ·refine zr ?_; refine w_store 2 rfl z3 he5 rfl rfl rfl rfl rfl rfl ?_; refine zn ?_; refine b_on (b_on (?_))
   refine k_round 1 rfl ?_; exact fun w h => ⟨_, rfl, [_, _], rfl, by unfold cmJ; rw [cmp_step B_pos, if_neg h2, if_pos h3]; (try rfl), h.drop (List.sublist_cons_self _ _)⟩
  ·refine zi ?_; refine b_on (b_on (?_))
   refine k_round 1 rfl ?_; exact fun w h => ⟨_, rfl, [_, _], rfl, by unfold cmJ; rw [cmp_step B_pos, if_neg h2, if_neg h3]; (try rfl), h.drop (List.sublist_cons_self _ _)⟩
set_option maxRecDepth 100000 in
set_option maxHeartbeats 2000000 in
theorem Cmp_ok {a a2 : Option Addr} {k c k2 c2 n m : Nat} (w : World) (hA : Nm w a k c n) (hB : Nm w a2 k2 c2 m) (hs : k ≤ 1000000 ∧ k2 ≤ 1000000) :
  Ret Tryz.prog 81 #[.slice a k c, .slice a2 k2 c2] w (fun v w' => v = .int .i64 (cmpN n m) ∧ Ext w w') := by
 refine enterM (S := No) (l := [_, _]) (L := []) 26 Tryz.func81 rfl rfl rfl (St.start w No) ?_; refine yA ?_; refine aI rfl ?_; refine yC ?_; refine w_alloc zr3 (fun ob gob uob => ?_)
 refine w_store 0 rfl z3 rfl rfl rfl rfl rfl rfl rfl ?_; refine yB ?_; refine zq ?_; refine yA ?_; refine mS rfl ?_; refine mS rfl ?_; refine w_callW (fun w => zR Tryz.func111 rfl rfl rfl) rfl rfl (fun w _ => pairs_ok _ _ _ _ _ _ w) ?_
 rintro u W0 ⟨p1, p2, p3, rfl, rfl⟩
 refine yB ?_; refine zB ?_; refine c_gen fun e he => ?_
 have he5 : e 5 = .pointer (some ⟨ob, 0, none⟩) := congrFun he 5
 have heg : e 10 = .func (.func 143) #[] #[.pointer (some ⟨p1, 0, none⟩), .pointer (some ⟨p2, 0, none⟩), .pointer (some ⟨p3, 0, none⟩)] := congrFun he 10
 refine c_range (f := 143) (fi := []) (ca := [.pointer (some ⟨p1, 0, none⟩), .pointer (some ⟨p2, 0, none⟩), .pointer (some ⟨p3, 0, none⟩)]) heg rfl rfl rfl (fun r l fn w' => ∃ Lc', cmJ e fn r l ob n m [] (max k k2) Lc' ∧ St [(w, No)] ([(p1, cel [.slice a k c] 23), (p2, cel [.slice a2 k2 c2] 23), (p3, cel [.func (.func 142) #[] #[]] 98)] ++ (Lc' ++ [(r, .deferred (some []))])) w') ?_ ?_
 ·intro fn r l hr1 hr2 hl w1 hw1
  refine (pairsI_ok _ _ (Kn.old hA) (Kn.old hB) (by omega) (by omega) l p1 p2 p3 _ (cm_round e fn r l ob n m _ [] he5) _ [(r, .deferred (some []))] (by unfold cmJ; rw [Nat.pow_zero, Nat.mod_one, Nat.mod_one]) [(w, No)] 0 0 rfl rfl w1 (hw1.pick [4, 3, 2, 0, 5, 1] (by decide))).mono ?_
  rintro v w2 ⟨rfl, h3⟩; exact h3
 ·rintro fn r l hr1 hr2 hl w1 ⟨Lc', hJ, hs⟩
  obtain rfl := hJ
  refine ⟨_, _, .ready, none, (fun h => by cases h), hs.pick [3, 4, 5] (by decide), ?_⟩
  refine b_on (zk ?_); refine yA ?_; refine zl z3 he5 (fun _ h => zc 1 rfl rfl h) ?_; refine aI rfl ?_; refine yB ?_; refine ze ?_; refine r_finM1 2 rfl (.inl rfl) rfl (.tmp rfl rfl .nil) ?_; exact fun w' hw => ⟨by rw [cmp_end (lt_max1 k2 hA.lt) (lt_max2 k hB.lt)]; rfl, hw.fr _ (.head _)⟩
def adJ (e : Env) (fn r l ob cb n m : Nat) (ds : List Deferred) (i : Nat) (Lc : Heap) : Prop := ∃ v W z c, Lc = [(l, lpO .ready none fn ⟨42, ds, none⟩ e adPs adAs adBo r), (ob, cel [v] 23), (cb, cel [.int .u64 (c : Nat)] 66)] ++ W ∧ Own 66 1 v (lmV z i) i W ∧ z < Go.Num.B ^ i ∧ c ≤ 1 ∧ z + Go.Num.B ^ i * c = n % Go.Num.B ^ i + m % Go.Num.B ^ i
def leJ (e : Env) (fn r l ob cb n m : Nat) (ds : List Deferred) (i : Nat) (Lc : Heap) : Prop := ∃ v W z c, Lc = [(l, lpO .ready none fn ⟨32, ds, none⟩ e lePs leAs leBo r), (ob, cel [v] 23), (cb, cel [.int .u64 (c : Nat)] 66)] ++ W ∧ Own 66 1 v (lmV z i) i W ∧ z < Go.Num.B ^ i ∧ c ≤ 1 ∧ z + m % Go.Num.B ^ i = n % Go.Num.B ^ i + Go.Num.B ^ i * c
set_option maxRecDepth 100000 in
set_option maxHeartbeats 1000000 in
theorem ad_round (e : Env) (fn r l ob cb n m K : Nat) (ds : List Deferred) (hK : K ≤ 1000000) (he6 : e 6 = .pointer (some ⟨ob, 0, none⟩)) (he7 : e 7 = .pointer (some ⟨cb, 0, none⟩)) : PairY n m K (adJ e fn r l ob cb n m ds) l := by
 intro i Lc Lr B w hiK hJ0 hw
 obtain ⟨v, W, z, c, rfl, hO, hz, hc, hE⟩ := hJ0
 have hw2 : St B (_ :: _ :: _ :: (W ++ Lr)) w := hw
 refine yield_round 0 (L := _ :: _ :: _ :: (W ++ Lr)) hw2 rfl rfl ?_; refine zr ?_; refine w_alloc zr135 (fun t9b gt9b ut9b => ?_)
 refine w_store 0 rfl z135 rfl rfl rfl rfl rfl rfl rfl ?_; refine zn ?_; refine k_begin (l' := 0) 1 rfl ?_; refine zB ?_; refine yA ?_; refine w_r (fun _ => R_iaA ar135 (by decide) rfl rfl (by first | omega | decide | exact Nat.succ_pos _ | exact Nat.succ_lt_succ (Nat.succ_pos _))) rfl rfl ?_; refine zl z66 rfl (fun _ h => zc 0 rfl rfl h) ?_; refine w_r (fun _ => R_iaA (i := 1) ar135 (by decide) rfl rfl (by first | omega | decide | exact Nat.succ_pos _ | exact Nat.succ_lt_succ (Nat.succ_pos _))) rfl rfl ?_; refine zl z66 rfl (fun _ h => zc 0 rfl rfl h) ?_; refine zl z66 he7 (fun _ h => zc 3 rfl rfl h) ?_; refine w_r (fun _ => R_callX rfl (add64 (dg Go.Num.B n i) (dg Go.Num.B m i) c (by omega) _)) rfl rfl ?_
 refine zm rfl ?_; refine w_r (fun _ => R_extract rfl rfl) rfl rfl ?_; refine w_r (fun _ => R_extract rfl rfl) rfl rfl ?_; refine aI rfl ?_; refine aI rfl ?_; refine yB ?_; refine zr ?_; refine zl z23 he6 (fun _ h => zc 2 rfl rfl h) ?_; refine mI rfl ?_; refine zS slt23 (by decide) rfl rfl (fun t32b gt32b ut32b => ?_)
 refine w_st (B' := _) (L' := [_, _, _, _, _] ++ (W ++ Lr)) (fun w h => h) ?_; refine w_appN [_, _, _, _, _] slt23 rfl hO hz rfl (fun w h => Nm.one (h.at_ 0 rfl) (Nat.mod_lt _ B_pos)) (by omega) (fun v1 W1 hO1 => ?_)
 obtain ⟨a1, c1, rfl⟩ := hO1.slice
 refine mI rfl ?_; refine w_store 3 rfl z23 he6 rfl rfl rfl rfl rfl rfl ?_; refine w_store 4 rfl z66 he7 rfl rfl rfl rfl rfl rfl ?_; refine zn ?_; refine b_on (?_)
 refine k_round 2 rfl ?_; exact fun w h => ⟨_, rfl, [_, _, _] ++ W1, rfl, ⟨_, W1, _, _, rfl, hO1, lt_snoc hz (Nat.mod_lt _ B_pos), add_carry B_pos hc, add_step hE⟩, h.drop (.cons _ (.cons _ (List.Sublist.refl _)))⟩
set_option maxRecDepth 100000 in
set_option maxHeartbeats 1000000 in
theorem le_round (e : Env) (fn r l ob cb n m K : Nat) (ds : List Deferred) (hK : K ≤ 1000000) (he5 : e 5 = .pointer (some ⟨ob, 0, none⟩)) (he6 : e 6 = .pointer (some ⟨cb, 0, none⟩)) : PairY n m K (leJ e fn r l ob cb n m ds) l := by
 intro i Lc Lr B w hiK hJ0 hw
 obtain ⟨v, W, z, c, rfl, hO, hz, hc, hE⟩ := hJ0
 have hw2 : St B (_ :: _ :: _ :: (W ++ Lr)) w := hw
 refine yield_round 0 (L := _ :: _ :: _ :: (W ++ Lr)) hw2 rfl rfl ?_; refine zr ?_; refine w_alloc zr135 (fun t8b gt8b ut8b => ?_)
 refine w_store 0 rfl z135 rfl rfl rfl rfl rfl rfl rfl ?_; refine zn ?_; refine k_begin (l' := 0) 1 rfl ?_; refine zB ?_; refine yA ?_; refine w_r (fun _ => R_iaA ar135 (by decide) rfl rfl (by first | omega | decide | exact Nat.succ_pos _ | exact Nat.succ_lt_succ (Nat.succ_pos _))) rfl rfl ?_; refine zl z66 rfl (fun _ h => zc 0 rfl rfl h) ?_; refine w_r (fun _ => R_iaA (i := 1) ar135 (by decide) rfl rfl (by first | omega | decide | exact Nat.succ_pos _ | exact Nat.succ_lt_succ (Nat.succ_pos _))) rfl rfl ?_; refine zl z66 rfl (fun _ h => zc 0 rfl rfl h) ?_; refine zl z66 he6 (fun _ h => zc 3 rfl rfl h) ?_; refine w_r (fun _ => R_callX rfl (sub64 (dg Go.Num.B n i) (dg Go.Num.B m i) c (by omega) _)) rfl rfl ?_
 refine zm rfl ?_; refine w_r (fun _ => R_extract rfl rfl) rfl rfl ?_; refine w_r (fun _ => R_extract rfl rfl) rfl rfl ?_; refine aI rfl ?_; refine aI rfl ?_; refine yB ?_; refine zr ?_; refine zl z23 he5 (fun _ h => zc 2 rfl rfl h) ?_; refine mI rfl ?_; refine zS slt23 (by decide) rfl rfl (fun t27b gt27b ut27b => ?_)
 refine w_st (B' := _) (L' := [_, _, _, _, _] ++ (W ++ Lr)) (fun w h => h) ?_; refine w_appN [_, _, _, _, _] slt23 rfl hO hz rfl (fun w h => Nm.one (h.at_ 0 rfl) (Nat.mod_lt _ B_pos)) (by omega) (fun v1 W1 hO1 => ?_)
 obtain ⟨a1, c1, rfl⟩ := hO1.slice
 refine mI rfl ?_; refine w_store 3 rfl z23 he5 rfl rfl rfl rfl rfl rfl ?_; refine w_store 4 rfl z66 he6 rfl rfl rfl rfl rfl rfl ?_; refine zn ?_; refine b_on (?_)
 refine k_round 2 rfl ?_; exact fun w h => ⟨_, rfl, [_, _, _] ++ W1, rfl, ⟨_, W1, _, _, rfl, hO1, lt_snoc hz (Nat.mod_lt _ B_pos), by split <;> omega, sub_step hE (sub_digit (dg_lt B_pos _ _) (dg_lt B_pos _ _) hc)⟩, h.drop (.cons _ (.cons _ (List.Sublist.refl _)))⟩
theorem St.rows {B : Base} {p1 p2 p3 l o c r : Nat × Obj} {W : Heap} {w : World} (h : St B ([p1, p2, p3] ++ (([l, o, c] ++ W) ++ [r])) w) : St B (l :: o :: c :: r :: (W ++ [])) w := by
 refine (h.drop (L' := [l, o, c] ++ W ++ [r]) (.cons _ (.cons _ (.cons _ (List.Sublist.refl _))))).perm ?_
 rw [List.append_nil]
 exact .cons _ (.cons _ (.cons _ List.perm_append_comm))
theorem sz_mono {n m : Nat} (h : n ≤ m) : sz n ≤ sz m := sz_iff.2 (Nat.lt_of_le_of_lt h (lt_sz m))
theorem cmpN_lt {n m : Nat} : cmpN n m < 0 ↔ n < m := by unfold cmpN; split <;> (try split) <;> omega
theorem cmpN_le {n m : Nat} : cmpN n m ≤ 0 ↔ n ≤ m := by unfold cmpN; split <;> (try split) <;> omega
theorem cmpN_eq {n m : Nat} : cmpN n m = 0 ↔ n = m := by unfold cmpN; split <;> (try split) <;> omega
theorem max_le6 {k k2 : Nat} (h : k ≤ 1000000) (h2 : k2 ≤ 1000000) : max k k2 ≤ 1000000 := Nat.max_le.2 ⟨h, h2⟩
set_option maxRecDepth 100000 in
set_option maxHeartbeats 2000000 in
theorem Add_ok {a a2 : Option Addr} {k c k2 c2 n m : Nat} (w : World) (hA : Nm w a k c n) (hB : Nm w a2 k2 c2 m) (hs : k ≤ 1000000 ∧ k2 ≤ 1000000 ∧ sz (n + m) ≤ 2048) :
  Ret Tryz.prog 82 #[.slice a k c, .slice a2 k2 c2] w (Tel (fun a c => .tuple #[.slice a (sz (n + m)) c, .int .i64 0]) (sz (n + m)) (n + m) w) := by
 have hn := sz_mono (Nat.le_add_right n m); have hm := sz_mono (Nat.le_add_left m n)
 refine enterM (S := No) (l := [_, _]) (L := []) 42 Tryz.func82 rfl rfl rfl (St.start w No) ?_; refine yA ?_; refine za (v := .slice _ _ _) rfl ?_; refine aI rfl ?_; refine yB ?_; refine zq ?_; refine yA ?_; refine mS rfl ?_; refine mS rfl ?_; refine zS slt139 (by decide) rfl rfl (fun b1 gb1 ub1 => ?_)
 refine zC (fun w => zR Tryz.func88 rfl rfl rfl) rfl rfl (fun w h => long2_ok w (h.at_ 0 rfl) ((Kn.old hA).at_ 0 rfl h) ((Kn.old hB).at_ 0 rfl h) ⟨by omega, by omega⟩ ⟨by omega, by omega⟩) ?_; refine yB ?_; refine c_condF rfl ?_; refine zi ?_; refine zk ?_; refine yA ?_; refine w_alloc zr23 (fun ob gob uob => ?_)
 refine yC ?_; refine w_alloc zr66 (fun cb gcb ucb => ?_)
 refine w_store 0 rfl z66 rfl rfl rfl rfl rfl rfl rfl ?_; refine yB ?_; refine zq ?_; refine yA ?_; refine mS rfl ?_; refine mS rfl ?_; refine w_callW (fun w => zR Tryz.func111 rfl rfl rfl) rfl rfl (fun w _ => pairs_ok _ _ _ _ _ _ w) ?_
 rintro u W0 ⟨p1, p2, p3, rfl, rfl⟩
 refine yB ?_; refine zB ?_; refine c_gen fun e he => ?_
 have he6 : e 6 = .pointer (some ⟨ob, 0, none⟩) := congrFun he 6
 have he7 : e 7 = .pointer (some ⟨cb, 0, none⟩) := congrFun he 7
 have heg : e 18 = .func (.func 143) #[] #[.pointer (some ⟨p1, 0, none⟩), .pointer (some ⟨p2, 0, none⟩), .pointer (some ⟨p3, 0, none⟩)] := congrFun he 18
 refine c_range (f := 143) (fi := []) (ca := [.pointer (some ⟨p1, 0, none⟩), .pointer (some ⟨p2, 0, none⟩), .pointer (some ⟨p3, 0, none⟩)]) heg rfl rfl rfl (fun r l fn w' => ∃ Lc', adJ e fn r l ob cb n m [] (max k k2) Lc' ∧ St [(w, No)] ([(p1, cel [.slice a k c] 23), (p2, cel [.slice a2 k2 c2] 23), (p3, cel [.func (.func 142) #[] #[]] 98)] ++ (Lc' ++ [(r, .deferred (some []))])) w') ?_ ?_
 ·intro fn r l hr1 hr2 hl w1 hw1
  refine (pairsI_ok _ _ (Kn.old hA) (Kn.old hB) (by omega) (by omega) l p1 p2 p3 _ (ad_round e fn r l ob cb n m _ [] (max_le6 (by omega) (by omega)) he6 he7) _ [(r, .deferred (some []))] ⟨_, [], 0, 0, rfl, Own.nil _ _, by decide, by decide, by simp [Nat.mod_one]⟩ [(w, No)] 0 0 rfl rfl w1 (hw1.pick [4, 3, 2, 0, 6, 5, 1] (by decide))).mono ?_
  rintro v w2 ⟨rfl, h3⟩; exact h3
 ·rintro fn r l hr1 hr2 hl w1 ⟨Lc', hJ, hs⟩
  obtain ⟨v, W0, z, cy, rfl, hO, hz, hcy, hE⟩ := hJ
  have hK6 := max_le6 (k := k) (k2 := k2) (by omega) (by omega)
  have hE2 : z + Go.Num.B ^ max k k2 * cy = n + m := by rw [hE, Nat.mod_eq_of_lt (lt_max1 k2 hA.lt), Nat.mod_eq_of_lt (lt_max2 k hB.lt)]
  have hlt := lt_snoc (b := Go.Num.B) hz (show cy < Go.Num.B by unfold Go.Num.B; omega)
  rw [hE2] at hlt
  refine ⟨_, _, .ready, none, (fun h => by cases h), St.rows hs, ?_⟩
  refine b_on (zk ?_); refine yA ?_; refine zl z23 he6 (fun _ h => zc 1 rfl rfl h) ?_; refine zl z66 he7 (fun _ h => zc 2 rfl rfl h) ?_; refine zS slt23 (by decide) rfl rfl (fun b4 gb4 ub4 => ?_)
  refine w_st (B' := _) (L' := [_, _, _, _, _] ++ (W0 ++ [])) (fun w h => h) ?_; refine w_appN [_, _, _, _, _] slt23 rfl hO hz rfl (fun w h => Nm.one (h.at_ 0 rfl) (by unfold Go.Num.B; omega)) (by omega) (fun v1 W1 hO1 => ?_)
  rw [hE2] at hO1; obtain ⟨a1, c1, rfl, hM1, _⟩ := hO1.nm hlt
  refine w_tel (fun w => zR Tryz.func105 rfl rfl rfl) rfl rfl (fun w h => told_ok w (hM1 _ (fun p hp => h.own p (List.mem_append_right _ (List.mem_append_left _ hp)))) ⟨by omega, by omega⟩) (fun x5 a5 c5 hK5 hN5 => ?_)
  refine w_r (fun _ => R_extract rfl rfl) rfl rfl ?_; refine w_r (fun _ => R_extract rfl rfl) rfl rfl ?_; refine za (v := .slice _ _ _) rfl ?_; refine aI rfl ?_; refine yB ?_; refine ze ?_; refine r_finM1 4 rfl (.inl rfl) rfl (.tmp rfl rfl (.tmp rfl rfl .nil)) ?_; exact fun w' hw => ⟨_, _, rfl, (hK5.at_ 0 rfl hw), (hN5 _ (.head _)), hw.fr (w, No) (.tail _ (.head _))⟩
set_option maxRecDepth 100000 in
set_option maxHeartbeats 2000000 in
theorem less_ok {a a2 : Option Addr} {k c k2 c2 n m : Nat} (w : World) (hA : Nm w a k c n) (hB : Nm w a2 k2 c2 m) (hs : k ≤ 1000000 ∧ k2 ≤ 1000000) (hmn : m ≤ n) :
  Ret Tryz.prog 140 #[.slice a k c, .slice a2 k2 c2] w (Tel (fun a c => .slice a (sz (n - m)) c) (sz (n - m)) (n - m) w) := by
 refine enterM (S := No) (l := [_, _]) (L := []) 32 Tryz.func140 rfl rfl rfl (St.start w No) ?_; refine yA ?_; refine za (v := .slice _ _ _) rfl ?_; refine yC ?_; refine w_alloc zr23 (fun ob gob uob => ?_)
 refine yC ?_; refine w_alloc zr66 (fun cb gcb ucb => ?_)
 refine w_store 0 rfl z66 rfl rfl rfl rfl rfl rfl rfl ?_; refine yB ?_; refine zq ?_; refine yA ?_; refine mS rfl ?_; refine mS rfl ?_; refine w_callW (fun w => zR Tryz.func111 rfl rfl rfl) rfl rfl (fun w _ => pairs_ok _ _ _ _ _ _ w) ?_
 rintro u W0 ⟨p1, p2, p3, rfl, rfl⟩
 refine yB ?_; refine zB ?_; refine c_gen fun e he => ?_
 have he5 : e 5 = .pointer (some ⟨ob, 0, none⟩) := congrFun he 5
 have he6 : e 6 = .pointer (some ⟨cb, 0, none⟩) := congrFun he 6
 have heg : e 13 = .func (.func 143) #[] #[.pointer (some ⟨p1, 0, none⟩), .pointer (some ⟨p2, 0, none⟩), .pointer (some ⟨p3, 0, none⟩)] := congrFun he 13
 refine c_range (f := 143) (fi := []) (ca := [.pointer (some ⟨p1, 0, none⟩), .pointer (some ⟨p2, 0, none⟩), .pointer (some ⟨p3, 0, none⟩)]) heg rfl rfl rfl (fun r l fn w' => ∃ Lc', leJ e fn r l ob cb n m [] (max k k2) Lc' ∧ St [(w, No)] ([(p1, cel [.slice a k c] 23), (p2, cel [.slice a2 k2 c2] 23), (p3, cel [.func (.func 142) #[] #[]] 98)] ++ (Lc' ++ [(r, .deferred (some []))])) w') ?_ ?_
 ·intro fn r l hr1 hr2 hl w1 hw1
  refine (pairsI_ok _ _ (Kn.old hA) (Kn.old hB) (by omega) (by omega) l p1 p2 p3 _ (le_round e fn r l ob cb n m _ [] (max_le6 (by omega) (by omega)) he5 he6) _ [(r, .deferred (some []))] ⟨_, [], 0, 0, rfl, Own.nil _ _, by decide, by decide, by simp [Nat.mod_one]⟩ [(w, No)] 0 0 rfl rfl w1 (hw1.pick [4, 3, 2, 0, 6, 5, 1] (by decide))).mono ?_
  rintro v w2 ⟨rfl, h3⟩; exact h3
 ·rintro fn r l hr1 hr2 hl w1 ⟨Lc', hJ, hs⟩
  obtain ⟨v, W0, z, cy, rfl, hO, hz, hcy, hE⟩ := hJ
  have hK6 := max_le6 (k := k) (k2 := k2) (by omega) (by omega)
  obtain ⟨rfl, rfl⟩ := sub_end hE (lt_max1 k2 hA.lt) hmn hz
  obtain ⟨a1, c1, rfl, hM1, _⟩ := hO.nm hz
  refine ⟨_, _, .ready, none, (fun h => by cases h), St.rows hs, ?_⟩
  refine b_on (zk ?_); refine yA ?_; refine zl z23 he5 (fun _ h => zc 1 rfl rfl h) ?_; refine w_tel (fun w => zR Tryz.func78 rfl rfl rfl) rfl rfl (fun w h => normal_ok w (hM1 _ (fun p hp => h.own p (List.mem_cons_of_mem _ (List.mem_cons_of_mem _ (List.mem_cons_of_mem _ (List.mem_cons_of_mem _ (List.mem_append_left _ hp))))))) (by omega)) (fun x3 a3 c3 hK3 hN3 => ?_)
  refine za (v := .slice _ _ _) rfl ?_; refine yB ?_; refine ze ?_; refine r_finM1 3 rfl (.inl rfl) rfl (.tmp rfl rfl .nil) ?_; exact fun w' hw => ⟨_, _, rfl, (hK3.at_ 0 rfl hw), (hN3 _ (.head _)), hw.fr (w, No) (.tail _ (.head _))⟩
set_option maxRecDepth 100000 in
set_option maxHeartbeats 400000 in
theorem Sub_ok {a a2 : Option Addr} {k c k2 c2 n m : Nat} (w : World) (hA : Nm w a k c n) (hB : Nm w a2 k2 c2 m) (hs : k ≤ 1000000 ∧ k2 ≤ 1000000 ∧ sz n ≤ 2048) (hmn : m ≤ n) :
  Ret Tryz.prog 108 #[.slice a k c, .slice a2 k2 c2] w (Tel (fun a c => .tuple #[.slice a (sz (n - m)) c, .int .i64 0]) (sz (n - m)) (n - m) w) := by
 have hm := sz_mono hmn; have hd := sz_mono (Nat.sub_le n m)
 refine enter (S := No) (l := [_, _]) (L := []) 22 Tryz.func108 rfl rfl rfl (St.start w No) ?_; refine yA ?_; refine za (v := .slice _ _ _) rfl ?_; refine aI rfl ?_; refine yB ?_; refine zq ?_; refine zB ?_; refine yA ?_; refine mS rfl ?_; refine mS rfl ?_; refine zS slt139 (by decide) rfl rfl (fun b1 gb1 ub1 => ?_)
 refine zC (fun w => zR Tryz.func88 rfl rfl rfl) rfl rfl (fun w h => long2_ok w (h.at_ 0 rfl) ((Kn.old hA).at_ 0 rfl h) ((Kn.old hB).at_ 0 rfl h) ⟨by omega, by omega⟩ ⟨by omega, by omega⟩) ?_; refine aB rfl ?_; refine yB ?_; refine c_condF rfl ?_; refine yA ?_; refine mS rfl ?_; refine mS rfl ?_; refine zC (fun w => zR Tryz.func81 rfl rfl rfl) rfl rfl (fun w h => Cmp_ok w ((Kn.old hA).at_ 0 rfl h) ((Kn.old hB).at_ 0 rfl h) ⟨by omega, by omega⟩) ?_; refine w_r (fun _ => R_lt rfl rfl) rfl rfl ?_; refine aB rfl ?_; refine yB ?_; refine zD rfl (fun h2 => ?_) (fun h2 => ?_)
 ·exact absurd (cmpN_lt.1 h2) (by omega)
 ·refine zi ?_; refine b_on (zk ?_); refine yA ?_; refine mS rfl ?_; refine mS rfl ?_; refine w_tel (fun w => zR Tryz.func140 rfl rfl rfl) rfl rfl (fun w h => less_ok w ((Kn.old hA).at_ 0 rfl h) ((Kn.old hB).at_ 0 rfl h) ⟨by omega, by omega⟩ (by omega)) (fun x3 a3 c3 hK3 hN3 => ?_)
  refine w_tel (fun w => zR Tryz.func105 rfl rfl rfl) rfl rfl (fun w h => told_ok w (hK3.at_ 0 rfl h) ⟨by omega, by omega⟩) (fun x4 a4 c4 hK4 hN4 => ?_)
  refine w_r (fun _ => R_extract rfl rfl) rfl rfl ?_; refine w_r (fun _ => R_extract rfl rfl) rfl rfl ?_; refine za (v := .slice _ _ _) rfl ?_; refine aI rfl ?_; refine yB ?_; refine ze ?_; refine r_two (v := .slice _ _ _) (v2 := .int _ _) rfl rfl rfl rfl rfl ?_; exact fun w' hw => ⟨_, _, rfl, (hK4.at_ 0 rfl hw), (hN4 _ (.tail _ (.head _))), hw.fr (w, No) (.tail _ (.tail _ (.head _)))⟩
end Go.Proofs.YtoapegnngbhkbaaGreatDoor
end
section
/- The plain part of the natural numbers: a division of two words by one, as it is done with halves. -/
namespace Go.Num
section
variable {h u w y s t q r : Nat}
/-- the first guess of a half: s and t are the divisor's halves -/
theorem half_init (hb : 0 < h) (hs : h ≤ 2 * s) (ht : t < h) (hu : u < s * h + t) (hw : w < h) :
    (u * h + w) / (s * h + t) ≤ u / s ∧ u / s ≤ h + 1 ∧ u / s * s + u % s = u ∧ u % s < s := by
  have hs0 : 0 < s := by omega
  have hy : 0 < s * h + t := by have := Nat.mul_pos hs0 hb; omega
  refine ⟨?_, ?_, ?_, Nat.mod_lt _ hs0⟩
  · rw [Nat.le_div_iff_mul_le hs0]
    generalize hQ : (u * h + w) / (s * h + t) = Q
    have h1 : Q * (s * h + t) ≤ u * h + w := by rw [← hQ]; exact Nat.div_mul_le_self _ _
    rw [Nat.mul_add, ← Nat.mul_assoc] at h1
    have h2 : Q * s * h < (u + 1) * h := by rw [Nat.add_mul, Nat.one_mul]; omega
    have := Nat.lt_of_mul_lt_mul_right h2
    omega
  · have h2 : u / s < h + 2 := by
      refine (Nat.div_lt_iff_lt_mul hs0).2 ?_
      rw [Nat.add_mul, Nat.mul_comm h]
      omega
    omega
  · rw [Nat.mul_comm]; exact Nat.div_add_mod u s
/-- a half's quotient is below half a word -/
theorem half_lt (hu : u < y) (hw : w < h) : (u * h + w) / y < h := by
  refine (Nat.div_lt_iff_lt_mul (by omega)).2 ?_
  have h1 : (u + 1) * h ≤ y * h := Nat.mul_le_mul_right _ hu
  rw [Nat.add_mul] at h1
  rw [Nat.mul_comm h]
  omega
/-- a guess that is too great -/
theorem half_step (hu : u < s * h + t) (hw : w < h) (hq : (u * h + w) / (s * h + t) ≤ q) (he : q * s + r = u)
    (hc : h ≤ q ∨ h * r + w < q * t) : (u * h + w) / (s * h + t) ≤ q - 1 ∧ 0 < q ∧ (q - 1) * s + (r + s) = u := by
  have hQ : (u * h + w) / (s * h + t) < q := by
    rcases hc with hc | hc
    · exact Nat.lt_of_lt_of_le (half_lt hu hw) hc
    · refine (Nat.div_lt_iff_lt_mul (Nat.lt_of_le_of_lt (Nat.zero_le _) hu)).2 ?_
      have e1 : u * h = q * s * h + h * r := by rw [← he, Nat.add_mul, Nat.mul_comm r]
      have e2 : q * (s * h + t) = q * s * h + q * t := by rw [Nat.mul_add, ← Nat.mul_assoc]
      rw [e1, e2]
      omega
  have hq0 : 0 < q := Nat.lt_of_le_of_lt (Nat.zero_le _) hQ
  obtain ⟨d, rfl⟩ : ∃ d, q = d + 1 := ⟨q - 1, by omega⟩
  refine ⟨by omega, by omega, ?_⟩
  rw [← he, Nat.add_sub_cancel, Nat.add_mul]; omega
/-- a guess that fits -/
theorem half_end (hy : 0 < s * h + t) (hq : (u * h + w) / (s * h + t) ≤ q) (he : q * s + r = u) (hc : q * t ≤ h * r + w) :
    q = (u * h + w) / (s * h + t) := by
  refine digit_eq hy hq ?_
  have e1 : u * h = q * s * h + h * r := by rw [← he, Nat.add_mul, Nat.mul_comm r]
  have e2 : q * (s * h + t) = q * s * h + q * t := by rw [Nat.mul_add, ← Nat.mul_assoc]
  rw [e1, e2]
  omega
/-- a guess after which the rest is long -/
theorem half_brk (hy : 0 < s * h + t) (ht : t < h) (hq : (u * h + w) / (s * h + t) ≤ q) (he : q * s + r = u) (hq2 : q ≤ h) (hr : h ≤ r) :
    q = (u * h + w) / (s * h + t) := by
  refine half_end hy hq he ?_
  have h1 : q * t ≤ h * t := Nat.mul_le_mul_right _ hq2
  have h2 : h * t ≤ h * r := Nat.mul_le_mul_left _ (by omega)
  omega
/-- the rest of a half, reckoned with words that go round -/
theorem half_rest {B : Nat} (hy : y < B) (hy0 : 0 < y) :
    ((u * h % B + w) % B + B - (u * h + w) / y * y % B) % B = (u * h + w) % y := by
  generalize hX : u * h + w = X
  have h1 := Nat.div_add_mod X y
  have h2 := Nat.mod_lt X hy0
  rw [Nat.mod_add_mod, hX]
  rw [Nat.mul_comm y] at h1
  generalize X / y * y = Z at *
  generalize X % y = R at *
  subst h1
  have hB : 0 < B := by omega
  have h3 := Nat.mod_lt Z hB
  rw [← Nat.mod_add_mod Z B R]
  generalize Z % B = z at *
  rcases Nat.lt_or_ge (z + R) B with h4 | h4
  · rw [Nat.mod_eq_of_lt h4, show z + R + B - z = R + B by omega, Nat.add_mod_right, Nat.mod_eq_of_lt (by omega)]
  · rw [Nat.mod_eq_sub_mod h4, Nat.mod_eq_of_lt (a := z + R - B) (by omega), show z + R - B + B - z = R by omega, Nat.mod_eq_of_lt (by omega)]
/-- the two halves together -/
theorem halves (hy : 0 < y) (n u1 u0 : Nat) :
    let R := (n * h + u1) % y
    (n * h + u1) / y * h + (R * h + u0) / y = ((n * h + u1) * h + u0) / y ∧ (R * h + u0) % y = ((n * h + u1) * h + u0) % y := by
  intro R
  have h1 := Nat.div_add_mod (n * h + u1) y
  have h2 := Nat.div_add_mod (R * h + u0) y
  have h3 := Nat.mod_lt (R * h + u0) hy
  refine div_end ?_ h3
  generalize (R * h + u0) / y = q0 at *
  generalize (R * h + u0) % y = r0 at *
  have hR : R = (n * h + u1) % y := rfl
  rw [← hR] at h1
  clear_value R
  generalize (n * h + u1) / y = q1 at *
  generalize n * h + u1 = m at *
  have e1 : m * h = y * q1 * h + R * h := by rw [← h1, Nat.add_mul]
  have e2 : (q1 * h + q0) * y = y * q1 * h + y * q0 := by rw [Nat.add_mul, Nat.mul_comm q0, Nat.mul_right_comm, Nat.mul_comm q1]
  rw [e1, e2]
  omega
/-- a division is that of both, shifted -/
theorem shl_div (a y s : Nat) : a * 2 ^ s / (y * 2 ^ s) = a / y ∧ a * 2 ^ s % (y * 2 ^ s) / 2 ^ s = a % y := by
  have hp : 0 < 2 ^ s := Nat.pow_pos (by decide)
  refine ⟨Nat.mul_div_mul_right _ _ hp, ?_⟩
  rw [Nat.mul_mod_mul_right, Nat.mul_div_cancel _ hp]
end
end Go.Num
end
