/- Layer 14, FeedWrites: that Write and Find tell what the document says, and that what is written is read as the same data again. Part 3 of 14. -/
import Derived.Test.YtikdkendinnalaaGreatDoorW02
import Derived.OrdersIn
import Derived.Laws.CopyRow
import Derived.Lib.AppendZeros
import Derived.Test.YtikdkendinnalaaGreatDoorProg
import Derived.Shelf.Strings.Builder1
import Derived.Shelf.Strings.Builder2
import Derived.Shelf.Strings.OnBuilder
import Derived.Shelf.Small.Utf8
import Derived.Shelf.Small.Bits
import Derived.Shelf.Small.Strs
import Derived.Shelf.Small.Wraps
import Derived.Shelf.Strconv.Atoi
import Derived.Shelf.Strconv.Itoa0
import Derived.Shelf.Strconv.Itoa1
import Derived.Shelf.LaysM
import Derived.Shelf.Strconv.Itoa2
import Derived.Shelf.Strconv.Itoa3
import Derived.Shelf.Strconv.AtoiErrFast
import Derived.Shelf.Strconv.ParseIntEmpty
import Derived.Shelf.Strconv.AtoiFail
import Derived.Shelf.Strconv.Clone
import Derived.Shelf.Strconv.SyntaxError
import Derived.Shelf.LaysC
import Derived.Shelf.Strconv.ToError
import Derived.Shelf.Strconv.Lower
import Derived.Shelf.Strconv.ParseUint10
import Derived.Shelf.Strconv.ParseUint10Empty
import Derived.Shelf.Strconv.ParseUint10Any
import Derived.Shelf.Strconv.ParseInt10
import Derived.Shelf.Strconv.AtoiLong
import Derived.Shelf.Strconv.AtoiInnerAll
import Derived.Shelf.Strconv.RangeError
import Derived.Shelf.Strconv.ToErrorRange
import Derived.Shelf.Strconv.AtoiAll
import Derived.Shelf.Strconv.ErrVarAll
import Derived.Shelf.Strings.Search1
import Derived.Shelf.Strings.Search2
import Derived.Shelf.Strings.Search3
import Derived.Shelf.Strings.Shaped
import Derived.Shelf.Strings.Prefix
import Derived.Shelf.Strings.Fields
import Derived.Shelf.Strings.SplitShaped
import Derived.Shelf.Unicode.Latin
import Derived.Shelf.Strings.Runes
import Derived.Shelf.Strings.IndexAny
import Derived.Shelf.Strings.AsciiSet
import Derived.Shelf.Strings.IndexAnyAll
import Derived.Shelf.Bits.Mul64
import Derived.Shelf.Unicode.Is16White
import Derived.Shelf.Unicode.IsSpaceAny
import Derived.Shelf.Unicode.Is16WhiteD
import Derived.Shelf.Unicode.IsSpaceAnyD
import Derived.Shelf.Strings.FieldsAny
import Derived.Shelf.Strings.FieldsFuncAny
import Derived.Shelf.Unicode.Is16Any
import Derived.Shelf.Unicode.Is32Any
import Derived.Shelf.Unicode.ExclAny
section
namespace Go.Sx
open Go.RowKit Go.Num
theorem lmV_app {n k m k2 : Nat} (hn : n < Go.Num.B ^ k) : lmV n k ++ lmV m k2 = lmV (n + Go.Num.B ^ k * m) (k + k2) := by
  apply lmV_ext (by simp [lmV_len])
  intro j hj
  rcases Nat.lt_or_ge j k with h | h
  · rw [List.getElem?_append_left (by rw [lmV_len]; exact h), lmV_at h, dg_low B_pos h]
  rw [List.getElem?_append_right (by rw [lmV_len]; exact h), lmV_len, lmV_at (by omega)]
  have := dg_high (b := Go.Num.B) (x := n) (y := m) (i := j - k) hn
  rw [Nat.add_sub_cancel' h] at this
  rw [this]
theorem lt_app {n k m k2 : Nat} (hn : n < Go.Num.B ^ k) (hm : m < Go.Num.B ^ k2) : n + Go.Num.B ^ k * m < Go.Num.B ^ (k + k2) := by
  rw [Nat.pow_add]
  have h1 : Go.Num.B ^ k * (m + 1) ≤ Go.Num.B ^ k * Go.Num.B ^ k2 := Nat.mul_le_mul_left _ hm
  rw [Nat.mul_add, Nat.mul_one] at h1
  exact Nat.lt_of_lt_of_le (by omega) h1
theorem lmV_putE {n k j d z' : Nat} (hd : d < Go.Num.B) (hj : j < k) (he : setd Go.Num.B n j d = z') : (lmV n k).take (0 + j * 1) ++ [.int .u64 (d : Nat)] ++ (lmV n k).drop (0 + j * 1 + 1) = lmV z' k := by
  rw [lmV_put hd hj, he]
theorem setd_zero {n j d : Nat} (h : dg Go.Num.B n j = 0) : setd Go.Num.B n j d = n + Go.Num.B ^ j * d := by
  have := setd_add (b := Go.Num.B) (n := n) (j := j) (y := d)
  rwa [h, Nat.zero_add] at this
theorem Nm.none0 {w : World} {k c n : Nat} (h : Nm w none k c n) : k = 0 ∧ n = 0 := by
  rcases Nat.eq_zero_or_pos k with h0 | h0
  · subst h0; have := h.lt; rw [Nat.pow_zero] at this; exact ⟨rfl, by omega⟩
  obtain ⟨b, o, h1, _⟩ := h.cell 0 h0; cases h1
theorem St.oldc {B : Base} {L : Heap} {w0 w : World} {a : Addr} {v : Value} (h : St B L w) (hx : (w0, No) ∈ B) (hc : w0.cell? a = some v) : w.cell? a = some v := (h.fr _ hx).cell hc (fun x => x)
section
variable {B : Base} {L : Heap} {w : World} {b k c n s j : Nat} {T : TypeId} {sp : List Value}
theorem cel_lm (i : Nat) (hi : L[i]? = some (b, cel (lmV n k) T)) (hj : j < k) (h : St B L w) : w.cell? ⟨b, 0 + j * 1, none⟩ = some (.int .u64 (dg Go.Num.B n j : Nat)) :=
  zc i hi (by rw [Nat.zero_add, Nat.mul_one]; exact lmV_at hj) h
theorem Nm.own (i : Nat) (hi : L[i]? = some (b, cel (lmV n k) T)) (hn : n < Go.Num.B ^ k) (hc : k ≤ c) (h : St B L w) : Nm w (some ⟨b, 0, none⟩) k c n :=
  Nm.row (sp := []) (T := T) (by rw [List.append_nil]; exact h.at_ i hi) hn hc
theorem Nm.one (hb : w.heap[b]? = some (cel [.int .u64 (s : Nat)] T)) (hs : s < Go.Num.B) : Nm w (some ⟨b, 0, none⟩) 1 1 s := by
  have e1 : lmV s 1 ++ [] = [.int .u64 (s : Nat)] := by simp [lmV, dg_self hs]
  exact Nm.row (T := T) (by rw [e1]; exact hb) (by rw [Nat.pow_one]; exact hs) (Nat.le_refl _)
theorem Own.lt {v : Value} {W : Heap} (h : Own T 1 v (lmV n k) k W) (hn : n < Go.Num.B ^ k) (A C : Heap) (hs : St B (A ++ (W ++ C)) w) : ∃ a c, v = .slice a k c ∧ Nm w a k c n ∧ (∀ m, (∀ p ∈ W, m ≤ p.1) → Fsh m a k) := by
  obtain ⟨a, c, h1, h2, h3⟩ := h.nm hn
  exact ⟨a, c, h1, h2 w (fun p hp => hs.own p (List.mem_append_right _ (List.mem_append_left _ hp))), h3⟩
theorem Own.tel {v : Value} {W : Heap} {w0 : World} {F : Option Addr → Nat → Value} {u : Value} (h : Own T 1 v (lmV n k) k W) (hn : n < Go.Num.B ^ k) (A C : Heap) (hB : (w0, No) ∈ B) (hs : St B (A ++ (W ++ C)) w) (hu : ∀ a c, v = .slice a k c → u = F a c) : Tel F k n w0 u w := by
  obtain ⟨a, c, h1, h2, h3⟩ := h.lt hn A C hs
  exact ⟨a, c, hu a c h1, h2, h3 _ (fun p hp => hs.fresh hB (List.mem_append_right _ (List.mem_append_left _ hp))), hs.fr _ hB⟩
end
section
variable {P : Program} {ops : Array Oper} {Q : Exit → Act → World → Prop} {c : Cf} {e : Env} {B : Base} {L : Heap} {rest : List Oper} {d : Nat} {x y : Operand} {T : TypeId} {p : String} {ed : Array Edge} {t te : Nat} {v : Value} {W : Heap} {n k m z cp : Nat} {a : Option Addr}
theorem w_makeU {el bytes : Nat} {kl kc : IntKind} (hT : slT P t el 1 bytes (.int .u64 0)) (hx : ev c.n e x = .int kl (n : Nat)) (hy : ev c.n e y = .int kc (n : Nat)) (hb : bytes * n ≤ 281474976710656) (h63 : n ≤ 9223372036854775807)
    (h : ∀ b, (∀ x ∈ L, x.1 < b) → (∀ x ∈ B, x.1.heap.size ≤ b) → WX .sq P ops c Q rest (upd e d (.slice (some ⟨b, 0, none⟩) n n)) B ((b, cel (lmV 0 n) el) :: L)) :
    WX .sq P ops c Q (⟨some d, .makeSlice t x y, T, p, ed, none⟩ :: rest) e B L := by
  obtain ⟨i, ht, hi, hsz, hby, hz, hzs⟩ := slT_spec hT
  subst hby
  unfold WX at *
  intro w hw
  have hb2 : (i.bytes : Int) * (n : Int) ≤ 281474976710656 := by rw [← Int.natCast_mul]; omega
  have hr := run_make (P := P) w t el i (.int .u64 0) ht hi hz kl kc n n (Int.natCast_nonneg _) (Int.le_refl _) hb2 (by omega)
  have hc : (Value.int .u64 0).cells = #[.int .u64 0] := rfl
  rw [hc, Int.toNat_natCast, hsz, Nat.mul_one, made_one, ← lmV_zero] at hr
  exact s_run (by unfold Run; simp only [execOp, hx, hy, Sem.run_bind, hr, Result.andThen_ok]; rfl) rfl rfl (h w.heap.size (fun p hp => lt_of_blk (hw.own p hp)) (fun x hx => (hw.fr x hx).size) _ hw.new)
theorem w_bslice0 {el kk bytes : Nat} {zv : Value} (hT : slT P t el kk bytes zv)
    (h : ∀ b, (∀ x ∈ L, x.1 < b) → (∀ x ∈ B, x.1.heap.size ≤ b) → WX .sq P ops c Q rest (upd e d (.slice (some ⟨b, 0, none⟩) 0 0)) B ((b, cel [] el) :: L)) : WX .sq P ops c Q (⟨some d, .buildSlice t 0 #[], T, p, ed, none⟩ :: rest) e B L := by
  obtain ⟨ti, ht, hti, hsize, hby, hz, hzs⟩ := slT_spec hT
  unfold WX at *
  intro w hw
  refine s_run (v := .slice (some ⟨w.heap.size, 0, none⟩) 0 0) (w' := w.alloc (cel [] el)) ?_ rfl rfl (h w.heap.size (fun p hp => lt_of_blk (hw.own p hp)) (fun x hx => (hw.fr x hx).size) _ hw.new)
  unfold Run
  simp only [execOp, Instr.buildSlice, Sem.run_bind, run_underlying ht, Result.andThen_ok, sizeOf, typeInfo, run_program, hti, Sem.run_pure, Nat.zero_mul]
  have h0 : Array.range 0 = (#[] : Array Nat) := Array.eq_empty_of_size_eq_zero (by simp)
  simp [newRow, run_newObj, Result.andThen, Instr.fill, cel]
  rw [h0]; simp
theorem own_lit0 {T : TypeId} {k : Nat} {q : Nat} : Own T k (.slice (some ⟨q, 0, none⟩) 0 0) [] 0 [(q, cel [] T)] := ⟨by simp, .inr ⟨q, 0, [], rfl, Nat.le_refl _, by simp, by simp⟩⟩
theorem app_num (A : Heap) {w : World} {ρ : Operand → Value} {D : Option Tmp} {g : Option (Nat × Bool)} (hT : slT P t te 1 8 (.int .u64 0)) (hx : ρ x = v) (hv : Own te 1 v (lmV z k) k W) (hz : z < Go.Num.B ^ k) (hy : ρ y = .slice a m cp) (hN : ∀ w, St B (A ++ (W ++ L)) w → Nm w a m cp n) (hs : k + m ≤ 8000000) (hw : St B (A ++ (W ++ L)) w) :
    ∃ v' w' W', Run P ⟨D, .call ⟨.builtin .append, #[x, y], #[t, t]⟩, T, p, ed, g⟩ ρ w v' w' ∧ Own te 1 v' (lmV (z + Go.Num.B ^ k * n) (k + m)) (k + m) W' ∧ St B (A ++ (W' ++ L)) w' := by
  by_cases h0 : m = 0
  · subst h0
    obtain ⟨i, ht, hi, hsz, _, _, _⟩ := slT_spec hT
    obtain ⟨a1, c1, rfl⟩ := hv.slice
    have hn0 : n = 0 := by have := (hN w hw).lt; rw [Nat.pow_zero] at this; omega
    subst hn0
    have hs2 : Src P i.size t (.slice a 0 cp) 0 [] w := ⟨.inl ⟨te, ht⟩, fun _ => rfl, by cases a <;> simp [Builtin.firstCells, go_sem], by cases a <;> simp [Builtin.firstCells, go_sem], by simp, by simp⟩
    have hr := _root_.Go.run_append_nothing (P := P) w t t T te i ht hi a1 k c1 (Own.le hv) _ hs2
    exact ⟨_, _, W, R_append hx hy hr, by simpa using hv, hw⟩
  obtain ⟨b, o, rfl⟩ := (hN w hw).ptr (by omega)
  have hl : (lmV n m).length = m * 1 := by rw [lmV_len, Nat.mul_one]
  obtain ⟨v', w', L2, h1, h2, h3⟩ := app_run (ρ := ρ) (D := D) (g := g) (x := x) (y := y) (T := T) (p := p) (ed := ed) (A := A) (L := L) (news := lmV n m) hT (by decide) hx (hv.toR A L) hy hl (fun w hw j u hj => (hN w hw).news j u hj) (lmV_one n m) (by omega) (by omega) (by omega) hw
  obtain ⟨W', h4, rfl⟩ := h2.own
  refine ⟨v', w', W', h1, ?_, h3⟩
  rwa [lmV_app hz] at h4
theorem w_appN (A : Heap) (hT : slT P t te 1 8 (.int .u64 0)) (hx : ev c.n e x = v) (hv : Own te 1 v (lmV z k) k W) (hz : z < Go.Num.B ^ k) (hy : ev c.n e y = .slice a m cp) (hN : ∀ w, St B (A ++ (W ++ L)) w → Nm w a m cp n) (hs : k + m ≤ 8000000)
    (h : ∀ v' W', Own te 1 v' (lmV (z + Go.Num.B ^ k * n) (k + m)) (k + m) W' → WX .sq P ops c Q rest (upd e d v') B (A ++ (W' ++ L))) : WX .sq P ops c Q (⟨some d, .call ⟨.builtin .append, #[x, y], #[t, t]⟩, T, p, ed, none⟩ :: rest) e B (A ++ (W ++ L)) := by
  unfold WX at *
  intro w hw
  obtain ⟨v', w', W', h1, h2, h3⟩ := app_num (D := some d) (T := T) (p := p) (ed := ed) (g := none) A hT hx hv hz hy hN hs hw
  exact s_run h1 rfl rfl (h v' W' h2 w' h3)
theorem w_putU {T2 ty : TypeId} {b j dv z' : Nat} {pp : String} {aa : Array Edge} (i : Nat) (hi : L[i]? = some (b, cel (lmV z k) T2)) (hz : szB P t 1 false = true) (hx : ev c.n e x = .pointer (some ⟨b, 0 + j * 1, none⟩)) (hy : ev c.n e y = .int .u64 (dv : Nat)) (hd : dv < Go.Num.B) (hj : j < k) (he : setd Go.Num.B z j dv = z')
    (h : WX .sq P ops c Q rest e B (L.set i (b, cel (lmV z' k) T2))) : WX .sq P ops c Q (⟨none, .store t x y, ty, pp, aa, none⟩ :: rest) e B L :=
  zV (v := .int .u64 (dv : Nat)) (vs := [.int .u64 (dv : Nat)]) i hi hz hx hy rfl rfl rfl (by rw [lmV_len, Nat.ble_eq]; omega) (lmV_putE hd hj he) h
theorem w_tailU {T2 ty : TypeId} {b j dv z' : Nat} {pp : String} {aa : Array Edge} (i : Nat) (hi : L[i]? = some (b, cel (lmV z k) T2)) (hz : szB P t 1 false = true) (hx : ev c.n e x = .pointer (some ⟨b, 0 + j * 1, none⟩)) (hy : ev c.n e y = .int .u64 (dv : Nat)) (hd : dv < Go.Num.B) (hj : j < k) (he : setd Go.Num.B z j dv = z')
    (h : WK c Q .normal e B (L.set i (b, cel (lmV z' k) T2))) : WX (.st [⟨none, .store t x y, ty, pp, aa, none⟩]) P ops c Q [] e B L :=
  w_tailst (v := .int .u64 (dv : Nat)) (vs := [.int .u64 (dv : Nat)]) i hi hz hx hy rfl rfl rfl (by rw [lmV_len, Nat.ble_eq]; omega) (lmV_putE hd hj he) h
end
theorem lmV_inj {n m k : Nat} (hn : n < Go.Num.B ^ k) (hm : m < Go.Num.B ^ k) (h : ∀ j, j < k → dg Go.Num.B n j = dg Go.Num.B m j) : n = m := by
  have := eq_of_dg (b := Go.Num.B) (x := n) (y := m) k h
  rwa [Nat.mod_eq_of_lt hn, Nat.mod_eq_of_lt hm] at this
end Go.Sx
end
section
namespace Go.Sx
open Go.RowKit
def gvl (c : Bool) (v : Value) : Value := bif c then v else undef
theorem gvl_t {c : Bool} {v : Value} (h : c = true) : gvl c v = v := by subst h; rfl
theorem gvl_and {c x : Bool} {v : Value} (h : c = true) : gvl (c && x) v = gvl x v := by subst h; rfl
theorem gr {a b : Bool} (h : (a && b) = true) : b = true := by cases a; cases h; exact h
theorem gl {a b : Bool} (h : (a && b) = true) : a = true := by cases a <;> first | rfl | cases h
section
variable {P : Program} {ops : Array Oper} {Q : Exit → Act → World → Prop} {c : Cf} {e : Env} {B : Base} {L : Heap} {rest : List Oper} {v : Value} {d : Nat} {q : Md} {op : Op} {T : TypeId} {p : String} {a : Array Edge} {j t : Nat} {x c0 : Bool}
theorem w_gT (hj : (ops[j]?).bind (·.dst) = some t) (ht : Nat.blt t c.n = true) (he : e t = .bool x) (hr : x = true → ∀ w, St B L w → Run P ⟨some d, op, T, p, a, none⟩ (ev c.n e) w v w) (hg : plainB ⟨some d, op, T, p, a, none⟩ = true)
    (h : WX q P ops c Q rest (upd e d (gvl x v)) B L) : WX q P ops c Q (⟨some d, op, T, p, a, some (j, true)⟩ :: rest) e B L := by
  cases x with
  | true => exact zw hj ht he (w_run (hr rfl) hg rfl h)
  | false => exact zs hj ht he h
theorem w_gF (hj : (ops[j]?).bind (·.dst) = some t) (ht : Nat.blt t c.n = true) (he : e t = .bool x) (hr : (!x) = true → ∀ w, St B L w → Run P ⟨some d, op, T, p, a, none⟩ (ev c.n e) w v w) (hg : plainB ⟨some d, op, T, p, a, none⟩ = true)
    (h : WX q P ops c Q rest (upd e d (gvl (!x) v)) B L) : WX q P ops c Q (⟨some d, op, T, p, a, some (j, false)⟩ :: rest) e B L := by
  cases x with
  | false => exact zw hj ht he (w_run (hr rfl) hg rfl h)
  | true => exact zs hj ht he h
theorem w_hT (hj : (ops[j]?).bind (·.dst) = some t) (ht : Nat.blt t c.n = true) (he : e t = gvl c0 (.bool x)) (hr : (c0 && x) = true → ∀ w, St B L w → Run P ⟨some d, op, T, p, a, none⟩ (ev c.n e) w v w) (hg : plainB ⟨some d, op, T, p, a, none⟩ = true)
    (h : WX q P ops c Q rest (upd e d (gvl (c0 && x) v)) B L) : WX q P ops c Q (⟨some d, op, T, p, a, some (j, true)⟩ :: rest) e B L := by
  cases c0 with
  | true => exact w_gT hj ht he hr hg h
  | false => exact zU hj ht he h
theorem w_hF (hj : (ops[j]?).bind (·.dst) = some t) (ht : Nat.blt t c.n = true) (he : e t = gvl c0 (.bool x)) (hr : (c0 && !x) = true → ∀ w, St B L w → Run P ⟨some d, op, T, p, a, none⟩ (ev c.n e) w v w) (hg : plainB ⟨some d, op, T, p, a, none⟩ = true)
    (h : WX q P ops c Q rest (upd e d (gvl (c0 && !x) v)) B L) : WX q P ops c Q (⟨some d, op, T, p, a, some (j, false)⟩ :: rest) e B L := by
  cases c0 with
  | true => exact w_gF hj ht he hr hg h
  | false => exact zU hj ht he h
theorem gTx (hb : ((ops[j]?).bind (·.dst), e t) = (some t, Value.bool x)) (hr : x = true → ∀ w, St B L w → Run P ⟨some d, op, T, p, a, none⟩ (ev c.n e) w v w) (hg : plainB ⟨some d, op, T, p, a, none⟩ = true)
    (h : WX q P ops c Q rest (upd e d (gvl x v)) B L) (ht : Nat.blt t c.n = true := by rfl) : WX q P ops c Q (⟨some d, op, T, p, a, some (j, true)⟩ :: rest) e B L := by
  simp only [Prod.mk.injEq] at hb
  exact w_gT hb.1 ht hb.2 hr hg h
theorem gFx (hb : ((ops[j]?).bind (·.dst), e t) = (some t, Value.bool x)) (hr : (!x) = true → ∀ w, St B L w → Run P ⟨some d, op, T, p, a, none⟩ (ev c.n e) w v w) (hg : plainB ⟨some d, op, T, p, a, none⟩ = true)
    (h : WX q P ops c Q rest (upd e d (gvl (!x) v)) B L) (ht : Nat.blt t c.n = true := by rfl) : WX q P ops c Q (⟨some d, op, T, p, a, some (j, false)⟩ :: rest) e B L := by
  simp only [Prod.mk.injEq] at hb
  exact w_gF hb.1 ht hb.2 hr hg h
theorem hTx (hb : ((ops[j]?).bind (·.dst), e t) = (some t, gvl c0 (.bool x))) (hr : (c0 && x) = true → ∀ w, St B L w → Run P ⟨some d, op, T, p, a, none⟩ (ev c.n e) w v w) (hg : plainB ⟨some d, op, T, p, a, none⟩ = true)
    (h : WX q P ops c Q rest (upd e d (gvl (c0 && x) v)) B L) (ht : Nat.blt t c.n = true := by rfl) : WX q P ops c Q (⟨some d, op, T, p, a, some (j, true)⟩ :: rest) e B L := by
  simp only [Prod.mk.injEq] at hb
  exact w_hT hb.1 ht hb.2 hr hg h
theorem hFx (hb : ((ops[j]?).bind (·.dst), e t) = (some t, gvl c0 (.bool x))) (hr : (c0 && !x) = true → ∀ w, St B L w → Run P ⟨some d, op, T, p, a, none⟩ (ev c.n e) w v w) (hg : plainB ⟨some d, op, T, p, a, none⟩ = true)
    (h : WX q P ops c Q rest (upd e d (gvl (c0 && !x) v)) B L) (ht : Nat.blt t c.n = true := by rfl) : WX q P ops c Q (⟨some d, op, T, p, a, some (j, false)⟩ :: rest) e B L := by
  simp only [Prod.mk.injEq] at hb
  exact w_hF hb.1 ht hb.2 hr hg h
variable {f : FuncId} {args : Array Value}
theorem w_cT (hj : (ops[j]?).bind (·.dst) = some t) (ht : Nat.blt t c.n = true) (he : e t = .bool x) (hr : x = true → ∀ w, RunE P ⟨some d, op, T, p, a, none⟩ (ev c.n e) w f args) (hg : plainB ⟨some d, op, T, p, a, none⟩ = true) (hc : x = true → ∀ w, St B L w → Ret P f args w fun u w' => u = v ∧ Ext w w')
    (h : WX q P ops c Q rest (upd e d (gvl x v)) B L) (hq : q.callsB = true := by rfl) : WX q P ops c Q (⟨some d, op, T, p, a, some (j, true)⟩ :: rest) e B L := by
  cases x with
  | true => exact zw hj ht he (zC (hr rfl) hg rfl (hc rfl) h hq)
  | false => exact zs hj ht he h
theorem w_cF (hj : (ops[j]?).bind (·.dst) = some t) (ht : Nat.blt t c.n = true) (he : e t = .bool x) (hr : (!x) = true → ∀ w, RunE P ⟨some d, op, T, p, a, none⟩ (ev c.n e) w f args) (hg : plainB ⟨some d, op, T, p, a, none⟩ = true) (hc : (!x) = true → ∀ w, St B L w → Ret P f args w fun u w' => u = v ∧ Ext w w')
    (h : WX q P ops c Q rest (upd e d (gvl (!x) v)) B L) (hq : q.callsB = true := by rfl) : WX q P ops c Q (⟨some d, op, T, p, a, some (j, false)⟩ :: rest) e B L := by
  cases x with
  | false => exact zw hj ht he (zC (hr rfl) hg rfl (hc rfl) h hq)
  | true => exact zs hj ht he h
theorem w_dF (hj : (ops[j]?).bind (·.dst) = some t) (ht : Nat.blt t c.n = true) (he : e t = gvl c0 (.bool x)) (hr : (c0 && !x) = true → ∀ w, RunE P ⟨some d, op, T, p, a, none⟩ (ev c.n e) w f args) (hg : plainB ⟨some d, op, T, p, a, none⟩ = true) (hc : (c0 && !x) = true → ∀ w, St B L w → Ret P f args w fun u w' => u = v ∧ Ext w w')
    (h : WX q P ops c Q rest (upd e d (gvl (c0 && !x) v)) B L) (hq : q.callsB = true := by rfl) : WX q P ops c Q (⟨some d, op, T, p, a, some (j, false)⟩ :: rest) e B L := by
  cases c0 with
  | true => exact w_cF hj ht he hr hg hc h hq
  | false => exact zU hj ht he h
end
section
variable {P : Program} {ρ : Operand → Value} {w : World} {D : Option Tmp} {T : TypeId} {p : String} {ed : Array Edge} {g : Option (Nat × Bool)} {x y : Operand} {a b : Bool}
theorem R_pickO (hx : ρ x = .bool a) (hy : ρ y = gvl (!a) (.bool b)) (h1 : ρ (.const (.bool true)) = .bool true) : Run P ⟨D, .pick x (.const (.bool true)) y, T, p, ed, g⟩ ρ w (.bool (a || b)) w := by
  cases a with
  | true => exact zT hx h1
  | false => exact zF hx hy
theorem R_sidxD {t : TypeId} {a : List UInt8} {k : IntKind} {i : Nat} (hu : strB P t = true) (hx : ρ x = str a) (hy : ρ y = .int k (i : Nat)) (h1 : i < a.length) : Run P ⟨D, .index t x y, T, p, ed, g⟩ ρ w (.int .u8 ((a.getD i 0).toNat : Nat)) w := by
  have h := R_sidx (P := P) (D := D) (ty := T) (pos := p) (aft := ed) (g := g) (w := w) hu hx hy (by omega) (show ((i : Nat) : Int).toNat < a.length by simpa using h1)
  have e : (a.getD i 0).toNat = (a[((i : Nat) : Int).toNat]'(by simpa using h1)).toNat := by
    rw [List.getD_eq_getElem?_getD, List.getElem?_eq_getElem h1]; rfl
  rw [e]; exact h
theorem R_pickA (hx : ρ x = .bool a) (hy : ρ y = gvl a (.bool b)) (h1 : ρ (.const (.bool false)) = .bool false) : Run P ⟨D, .pick x y (.const (.bool false)), T, p, ed, g⟩ ρ w (.bool (a && b)) w := by
  cases a with
  | true => exact zT hx hy
  | false => exact zF hx h1
end
end Go.Sx
namespace Go.Sx
theorem arr1 {a a' : Value} (h : a = a') : (#[a] : Array Value) = #[a'] := by rw [h]
theorem arr2 {a a' b b' : Value} (h : a = a') (h2 : b = b') : (#[a, b] : Array Value) = #[a', b'] := by rw [h, h2]
theorem arr3 {a a' b b' c c' : Value} (h : a = a') (h2 : b = b') (h3 : c = c') : (#[a, b, c] : Array Value) = #[a', b', c'] := by rw [h, h2, h3]
theorem runE_as {P : Program} {o : Oper} {f : FuncId} {args args' : Array Value} {ρ : Operand → Value} {w : World} (h : RunE P o ρ w f args) (he : args = args') : RunE P o ρ w f args' := he ▸ h
end Go.Sx
attribute [irreducible] Go.Sx.gvl
end
section
namespace Go.Sx
open Go.RowKit Go.Num
def depsOf (ops : Array Oper) (i : Nat) : List Nat := match ops[i]? with
  | some o => (o.after.toList.filter (Region.binds .any)).map (·.on)
  | none => []
def reach (ops : Array Oper) : Nat → List Nat → List Nat
  | 0, l => l
  | f + 1, l => l ++ reach ops f (l.flatMap (depsOf ops))
theorem mem_ready' {ops : Array Oper} {i : Nat} {listed : Array Bool} : i ∈ Region.ready .any ops listed ↔ i < ops.size ∧ listed.getD i true = false ∧ ∀ j ∈ depsOf ops i, listed.getD j false = true := by
  unfold Region.ready depsOf
  rw [List.mem_filter, List.mem_range]
  constructor
  · rintro ⟨h1, h2⟩
    obtain ⟨o, ho⟩ : ∃ o, ops[i]? = some o := ⟨ops[i], Array.getElem?_eq_getElem h1⟩
    simp only [ho, Option.map_some, Option.getD_some, Bool.and_eq_true, Bool.not_eq_true'] at h2 ⊢
    refine ⟨h1, h2.1, fun j hj => ?_⟩
    obtain ⟨e, he, rfl⟩ := List.mem_map.1 hj
    obtain ⟨he1, he2⟩ := List.mem_filter.1 he
    have h3 := Array.all_eq_true'.1 h2.2 e (Array.mem_toList_iff.1 he1)
    rw [he2] at h3; simpa using h3
  rintro ⟨h1, h2, h3⟩
  obtain ⟨o, ho⟩ : ∃ o, ops[i]? = some o := ⟨ops[i], Array.getElem?_eq_getElem h1⟩
  simp only [ho, Option.map_some, Option.getD_some, Bool.and_eq_true, Bool.not_eq_true'] at h3 ⊢
  refine ⟨h1, h2, Array.all_eq_true'.2 fun e he => ?_⟩
  cases hb : Region.binds .any e
  · simp
  simp only [Bool.not_true, Bool.false_or]
  exact h3 _ (List.mem_map.2 ⟨e, List.mem_filter.2 ⟨Array.mem_toList_iff.2 he, hb⟩, rfl⟩)
theorem reach_all {ops : Array Oper} {ls : Nat → Bool} (hc : ∀ i, ls i = true → ∀ j ∈ depsOf ops i, ls j = true) : ∀ (f : Nat) (l : List Nat), (∀ j ∈ l, ls j = true) → ∀ j ∈ reach ops f l, ls j = true
  | 0, l, h => h
  | f + 1, l, h => fun j hj => by
    unfold reach at hj
    rcases List.mem_append.1 hj with hj | hj
    · exact h j hj
    · refine reach_all hc f _ (fun q hq => ?_) j hj
      obtain ⟨p, hp, hq⟩ := List.mem_flatMap.1 hq
      exact hc p (h p hp) q hq
def topB (ops : Array Oper) (m : Nat) : Bool :=
  (List.range ops.size).all (fun i => (depsOf ops i).all fun j => Nat.blt j i) &&
  (List.range ops.size).all (fun i => Nat.blt i m || (List.range m).all fun j => (reach ops ops.size (depsOf ops i)).any (Nat.beq j)) && Nat.ble m ops.size
theorem topB_spec {ops : Array Oper} {m : Nat} (h : topB ops m = true) : (∀ i, i < ops.size → ∀ j ∈ depsOf ops i, j < i) ∧ (∀ i, i < ops.size → m ≤ i → ∀ j, j < m → j ∈ reach ops ops.size (depsOf ops i)) ∧ m ≤ ops.size := by
  unfold topB at h
  simp only [Bool.and_eq_true, List.all_eq_true, List.mem_range, Bool.or_eq_true, List.any_eq_true] at h
  obtain ⟨⟨h1, h2⟩, h3⟩ := h
  refine ⟨fun i hi j hj => by have := h1 i hi j hj; simpa [Nat.blt_eq] using this, fun i hi hm j hj => ?_, Nat.le_of_ble_eq_true h3⟩
  rcases h2 i hi with h4 | h4
  · have : i < m := by simpa [Nat.blt_eq] using h4
    omega
  obtain ⟨q, hq, he⟩ := h4 j hj
  rw [Nat.eq_of_beq_eq_true he]; exact hq
def WA (P : Program) (ops : Array Oper) (c : Cf) (Q : Exit → Act → World → Prop) (fuel : Nat) (listed : Array Bool) (e : Env) (B : Base) (L : Heap) : Prop :=
  ∀ w, St B L w → wpAnyIn (fw c.ro) 0 P .any ops Q fuel listed (act c e) w
def Told (P : Program) (ops : Array Oper) (c : Cf) (i d : Nat) (v : Value) (e : Env) (B : Base) (L : Heap) : Prop :=
  ∃ o, ops[i]? = some o ∧ plainB o = true ∧ o.dst = some d ∧ ∀ w, St B L w → (Run P o (ev c.n e) w v w ∨ ∃ f args, RunE P o (ev c.n e) w f args ∧ Ret P f args w fun u w' => u = v ∧ Ext w w')
section
variable {P : Program} {ops : Array Oper} {Q : Exit → Act → World → Prop} {c : Cf} {e : Env} {B : Base} {L : Heap} {id : Nat}
theorem told_step {i d : Nat} {v : Value} {K : Act → World → Prop} {w : World} (h : Told P ops c i d v e B L) (hw : St B L w) (hK : ∀ w', St B L w' → K (act c (upd e d v)) w') : wpOpIn (fw c.ro) 0 P ops Q i K (act c e) w := by
  obtain ⟨o, ho, hp, hd, hr⟩ := h
  obtain ⟨h1, h2⟩ := plainB_spec hp
  unfold wpOpIn
  simp only [ho]
  rw [if_pos (by simp [Region.wanted, h1])]
  refine ⟨fun _ _ => trivial, ?_⟩
  rw [act_eval, Oper.semAt_eq _ _ _ h2]
  rcases hr w hw with hr | ⟨f, args, hr, hc⟩
  · unfold Run at hr
    rw [hr, Oper.uponIn_value, hd, act_put]; exact hK w hw
  unfold RunE at hr
  rw [hr, Oper.uponIn_enter]
  refine ⟨fun hh => absurd hh (by simp [fw, Fence.wide]), ?_⟩
  have hc' : CallsIn (fw c.ro) (0 - 1) P f args w _ := callsIn_wide.2 hc
  refine hc'.mono ?_
  rintro x w' ⟨u, rfl, rfl, hx⟩
  rw [hd]
  simp only [act_put]
  exact hK w' (hw.ext hx)
def envL (e : Env) (D : List (Nat × Value)) (ls : Nat → Bool) : Env := fun t => match (List.range D.length).find? (fun j => ls j && (match D[j]? with | some p => Nat.beq p.1 t | none => false)) with
  | some j => match D[j]? with | some p => p.2 | none => e t
  | none => e t
theorem envL_hit {D : List (Nat × Value)} {ls : Nat → Bool} {j : Nat} {p : Nat × Value} (hnd : (D.map (·.1)).Nodup) (hj : D[j]? = some p) (hl : ls j = true) : envL e D ls p.1 = p.2 := by
  unfold envL
  have hjl := (List.getElem?_eq_some_iff.1 hj).1
  cases hf : (List.range D.length).find? (fun j => ls j && (match D[j]? with | some q => Nat.beq q.1 p.1 | none => false)) with
  | none =>
    have := List.find?_eq_none.1 hf j (List.mem_range.2 hjl)
    simp [hl, hj] at this
  | some i =>
    have h1 := List.find?_some hf
    simp only [Bool.and_eq_true] at h1
    cases hi : D[i]? with
    | none => rw [hi] at h1; simp at h1
    | some q =>
      rw [hi] at h1
      have h2 : q.1 = p.1 := Nat.eq_of_beq_eq_true h1.2
      have : i = j := nodup_idx hnd (i := i) (j := j) (b := p.1) (by rw [List.getElem?_map, hi, ← h2]; rfl) (by rw [List.getElem?_map, hj]; rfl)
      subst this
      rw [hi] at hj; cases hj
      simp only [hi]
theorem envL_miss {D : List (Nat × Value)} {ls : Nat → Bool} {t : Nat} (h : ∀ j p, D[j]? = some p → ls j = true → p.1 ≠ t) : envL e D ls t = e t := by
  unfold envL
  cases hf : (List.range D.length).find? (fun j => ls j && (match D[j]? with | some q => Nat.beq q.1 t | none => false)) with
  | none => rfl
  | some i =>
    have h1 := List.find?_some hf
    simp only [Bool.and_eq_true] at h1
    cases hi : D[i]? with
    | none => rw [hi] at h1; simp at h1
    | some q =>
      rw [hi] at h1
      exact absurd (Nat.eq_of_beq_eq_true h1.2) (h i q hi h1.1)
theorem envL_put {D : List (Nat × Value)} {ls ls' : Nat → Bool} {i : Nat} {p : Nat × Value} (hnd : (D.map (·.1)).Nodup) (hi : D[i]? = some p) (h1 : ls' i = true) (h2 : ∀ j, j ≠ i → ls' j = ls j) : upd (envL e D ls) p.1 p.2 = envL e D ls' := by
  funext t
  unfold upd
  by_cases ht : t = p.1
  · subst ht
    rw [envL_hit hnd hi h1]; simp
  have hb : Nat.beq t p.1 = false := by
    cases hq : Nat.beq t p.1
    · rfl
    exact absurd (Nat.eq_of_beq_eq_true hq) ht
  rw [hb]
  simp only [cond_false]
  by_cases hx : ∃ j q, D[j]? = some q ∧ ls j = true ∧ q.1 = t
  · obtain ⟨j, q, hj, hl, rfl⟩ := hx
    have hne : j ≠ i := by rintro rfl; rw [hi] at hj; cases hj; exact ht rfl
    rw [envL_hit hnd hj hl, envL_hit hnd hj (by rw [h2 j hne]; exact hl)]
  rw [envL_miss fun j q hj hl he => hx ⟨j, q, hj, hl, he⟩, envL_miss fun j q hj hl he => ?_]
  by_cases hne : j = i
  · subst hne; rw [hi] at hj; cases hj; exact ht he.symm
  exact hx ⟨j, q, hj, by rw [← h2 j hne]; exact hl, he⟩
theorem a_vals (D : List (Nat × Value)) (hnd : (D.map (·.1)).Nodup) (ht : topB ops D.length = true)
    (hs : ∀ i p, D[i]? = some p → ∀ e', (∀ j q, j ∈ depsOf ops i → D[j]? = some q → e' q.1 = q.2) → (∀ t, t ∉ D.map (·.1) → e' t = e t) → Told P ops c i p.1 p.2 e' B L)
    (hn : ∀ listed : Array Bool, listed.size = ops.size → (∀ j, listed.getD j false = decide (j < D.length)) → WA P ops c Q (ops.size - D.length) listed (envL e D (fun j => decide (j < D.length))) B L) :
    WA P ops c Q ops.size (Array.replicate ops.size false) e B L := by
  obtain ⟨t1, t2, t3⟩ := topB_spec ht
  have main : ∀ (r : Nat) (U : List Nat) (listed : Array Bool), U.length = r → U.Nodup → listed.size = ops.size → (∀ j, j ∈ U ↔ j < D.length ∧ listed.getD j false = false) → (∀ j, D.length ≤ j → listed.getD j false = false) →
      (∀ i, listed.getD i false = true → ∀ j ∈ depsOf ops i, listed.getD j false = true) → WA P ops c Q (r + (ops.size - D.length)) listed (envL e D (fun j => listed.getD j false)) B L := by
    intro r
    induction r with
    | zero =>
      intro U listed hU _ hz hm hh _
      obtain rfl := List.length_eq_zero_iff.1 hU
      have h1 : ∀ j, listed.getD j false = decide (j < D.length) := fun j => by
        by_cases hj : j < D.length
        · rw [decide_eq_true hj]
          cases hq : listed.getD j false
          · exact absurd ((hm j).2 ⟨hj, hq⟩) (List.not_mem_nil)
          · rfl
        · rw [decide_eq_false hj]; exact hh j (by omega)
      rw [Nat.zero_add, show (fun j => listed.getD j false) = fun j => decide (j < D.length) from funext h1]
      exact hn listed hz h1
    | succ r ih =>
      intro U listed hU hUn hz hm hh hcl w hw
      rw [show r + 1 + (ops.size - D.length) = (r + (ops.size - D.length)) + 1 by omega]
      have hlist : ∀ i, i < ops.size → listed.getD i true = listed.getD i false := fun i hi => by
        have : i < listed.size := by omega
        simp [Array.getD, this]
      refine ⟨fun h0 => ?_, fun i hi => ?_⟩
      · exfalso
        -- the least one that is not listed is ready
        have hex : ∃ i, i ∈ U := by
          cases U with
          | nil => simp at hU
          | cons x _ => exact ⟨x, .head _⟩
        obtain ⟨i, hi⟩ := hex
        have : ∀ n i, i < n → i ∈ U → False := by
          intro n
          induction n with
          | zero => intro i h; omega
          | succ n ihn =>
            intro i hin hiU
            have hi2 := (hm i).1 hiU
            have hr : i ∈ Region.ready .any ops listed := by
              rw [mem_ready']
              refine ⟨by omega, by rw [hlist i (by omega)]; exact hi2.2, fun j hj => ?_⟩
              have hlt := t1 i (by omega) j hj
              cases hq : listed.getD j false
              · exact (ihn j (by omega) ((hm j).2 ⟨by omega, hq⟩)).elim
              · rfl
            rw [h0] at hr; cases hr
        exact this (i + 1) i (by omega) hi
      · obtain ⟨hi1, hi2, hi3⟩ := mem_ready'.1 hi
        rw [hlist i hi1] at hi2
        by_cases him : i < D.length
        · obtain ⟨p, hp⟩ : ∃ p, D[i]? = some p := ⟨_, List.getElem?_eq_getElem him⟩
          have hset : ∀ j, (listed.setIfInBounds i true).getD j false = if j = i then true else listed.getD j false := fun j => by
            have hil : i < listed.size := by omega
            simp only [Array.getD_eq_getD_getElem?, Array.getElem?_setIfInBounds]
            by_cases hij : i = j
            · subst hij; simp [hil]
            · rw [if_neg hij, if_neg (Ne.symm hij)]
          refine told_step (hs i p hp _ (fun j q hj hq => envL_hit hnd hq (hi3 j hj)) (fun t htd => envL_miss fun j q hq _ he => htd (by rw [← he]; exact List.mem_map_of_mem (List.mem_of_getElem? hq)))) hw (fun w' hw' => ?_)
          rw [envL_put (ls' := fun j => (listed.setIfInBounds i true).getD j false) hnd hp (by rw [hset]; simp) (fun j hj => by simp only [hset, if_neg hj])]
          have hiU : i ∈ U := (hm i).2 ⟨him, hi2⟩
          refine ih (U.erase i) _ (by rw [List.length_erase_of_mem hiU]; omega) (hUn.erase i) (by simpa using hz) (fun j => ?_) (fun j hj => ?_) (fun q hq j hj => ?_) w' hw'
          · rw [hUn.mem_erase_iff, hm, hset]
            constructor
            · rintro ⟨h1, h2, h3⟩; exact ⟨h2, by rw [if_neg h1]; exact h3⟩
            · rintro ⟨h2, h3⟩
              by_cases hji : j = i
              · rw [if_pos hji] at h3; cases h3
              · rw [if_neg hji] at h3; exact ⟨hji, h2, h3⟩
          · rw [hset, if_neg (by omega)]; exact hh j hj
          · rw [hset] at hq ⊢
            by_cases hji : j = i
            · rw [if_pos hji]
            · rw [if_neg hji]
              by_cases hqi : q = i
              · subst hqi; exact hi3 j hj
              · rw [if_neg hqi] at hq; exact hcl q hq j hj
        · exfalso
          have hall := reach_all (ls := fun j => listed.getD j false) hcl ops.size (depsOf ops i) hi3
          obtain ⟨u, hu⟩ : ∃ u, u ∈ U := by
            cases U with
            | nil => simp at hU
            | cons x _ => exact ⟨x, .head _⟩
          have h5 := (hm u).1 hu
          have h6 := hall u (t2 i hi1 (by omega) u h5.1)
          rw [h5.2] at h6; cases h6
  have h0 := main D.length (List.range D.length) (Array.replicate ops.size false) (by simp) List.nodup_range (by simp) (fun j => by simp [Array.getD_eq_getD_getElem?, Array.getElem?_replicate]; intro _; split <;> rfl) (fun j _ => by simp [Array.getD_eq_getD_getElem?, Array.getElem?_replicate]; split <;> rfl) (fun i hi => by simp [Array.getD_eq_getD_getElem?, Array.getElem?_replicate] at hi; split at hi <;> simp at hi)
  have e1 : envL e D (fun j => (Array.replicate ops.size false).getD j false) = e := funext fun t => envL_miss fun j q _ hl => by
    simp [Array.getD_eq_getD_getElem?, Array.getElem?_replicate] at hl; split at hl <;> simp at hl
  rw [e1, Nat.add_sub_cancel' t3] at h0
  exact h0
theorem updL_miss : ∀ (D : List (Nat × Value)) (e : Env) (t : Nat), t ∉ D.map (·.1) → updL e D t = e t
  | [], _, _, _ => rfl
  | p :: D, e, t, h => by
    simp only [List.map_cons, List.mem_cons, not_or] at h
    show updL (upd e p.1 p.2) D t = e t
    rw [updL_miss D _ t h.2]
    unfold upd
    have hb : Nat.beq t p.1 = false := by
      cases hq : Nat.beq t p.1
      · rfl
      · exact absurd (Nat.eq_of_beq_eq_true hq) h.1
    rw [hb]; rfl
theorem updL_hit : ∀ (D : List (Nat × Value)) (e : Env) (j : Nat) (p : Nat × Value), (D.map (·.1)).Nodup → D[j]? = some p → updL e D p.1 = p.2
  | [], _, _, _, _, h => by simp at h
  | q :: D, e, 0, p, hn, h => by
    simp at h; subst h
    simp only [List.map_cons, List.nodup_cons] at hn
    show updL (upd e q.1 q.2) D q.1 = q.2
    rw [updL_miss D _ _ hn.1]
    unfold upd; simp
  | q :: D, e, j + 1, p, hn, h => by
    simp only [List.map_cons, List.nodup_cons] at hn
    simp only [List.getElem?_cons_succ] at h
    exact updL_hit D _ j p hn.2 h
theorem envL_full (D : List (Nat × Value)) (hn : (D.map (·.1)).Nodup) : envL e D (fun j => decide (j < D.length)) = updL e D := funext fun t => by
  by_cases h : t ∈ D.map (·.1)
  · obtain ⟨p, hp, rfl⟩ := List.mem_map.1 h
    obtain ⟨j, hj⟩ := List.getElem?_of_mem hp
    rw [envL_hit hn hj (decide_eq_true (List.getElem?_eq_some_iff.1 hj).1), updL_hit D e j p hn hj]
  rw [envL_miss fun j p hj _ he => h (by rw [← he]; exact List.mem_map_of_mem (List.mem_of_getElem? hj)), updL_miss D e t h]
def ndB : List Nat → Bool
  | [] => true
  | a :: l => !(l.any (Nat.beq a)) && ndB l
theorem ndB_spec : ∀ {l : List Nat}, ndB l = true → l.Nodup
  | [], _ => .nil
  | a :: l, h => by
    unfold ndB at h
    simp only [Bool.and_eq_true, Bool.not_eq_true'] at h
    refine List.nodup_cons.2 ⟨fun hm => ?_, ndB_spec h.2⟩
    have : l.any (Nat.beq a) = true := List.any_eq_true.2 ⟨a, hm, by simp⟩
    rw [h.1] at this; cases this
def someL (n m : Nat) : Array Bool := (List.replicate m true ++ List.replicate (n - m) false).toArray
theorem a_first {n : Nat} {ds : List Deferred} (D : List (Nat × Value)) (hm : P.follows .mixedOrders = true) (hnb : ndB (D.map (·.1)) = true) (ht : topB ops D.length = true)
    (hs : ∀ i p, D[i]? = some p → ∀ e', (∀ j q, (depsOf ops i).any (Nat.beq j) = true → D[j]? = some q → e' q.1 = q.2) → (∀ t, (D.map (·.1)).any (Nat.beq t) = false → e' t = e t) → Told P ops ⟨n, ds, none⟩ i p.1 p.2 e' B L)
    (hn : WA P ops ⟨n, ds, none⟩ Q (ops.size - D.length) (someL ops.size D.length) (updL e D) B L) : WC P ⟨n, ds, none⟩ (.region id ops true) Q e B L := by
  have hnd := ndB_spec hnb
  have hs' : ∀ i p, D[i]? = some p → ∀ e', (∀ j q, j ∈ depsOf ops i → D[j]? = some q → e' q.1 = q.2) → (∀ t, t ∉ D.map (·.1) → e' t = e t) → Told P ops ⟨n, ds, none⟩ i p.1 p.2 e' B L := fun i p hp e' h1 h2 =>
    hs i p hp e' (fun j q hj => h1 j q (by
      obtain ⟨u, hu, he⟩ := List.any_eq_true.1 hj
      rw [Nat.eq_of_beq_eq_true he]; exact hu)) (fun t ht => h2 t fun hm => by
      have h3 : (D.map (·.1)).any (Nat.beq t) = true := List.any_eq_true.2 ⟨t, hm, by simp⟩
      rw [ht] at h3; cases h3)
  have h := a_vals (Q := Q) D hnd ht hs' (fun listed h1 h2 => by
    have hm := (topB_spec ht).2.2
    have : listed = someL ops.size D.length := by
      apply Array.ext
      · simp [someL, h1]; omega
      intro i hi1 hi2
      have h3 := h2 i
      simp only [Array.getD_eq_getD_getElem?, Array.getElem?_eq_getElem hi1, Option.getD_some] at h3
      rw [h3]
      simp only [someL, List.getElem_toArray, List.getElem_append]
      split
      · rename_i h4; rw [List.length_replicate] at h4; simp [h4]
      rename_i h4; rw [List.length_replicate] at h4; simp [h4]
    rw [this, envL_full D hnd]; exact hn)
  unfold WC
  intro w hw
  refine wpIn_region_any hm (h _ (hw.drawn _))
section
variable {fuel : Nat} {listed : Array Bool} {o : Oper} {d i : Nat} {v : Value}
theorem R_iaA {P : Program} {ρ : Operand → Value} {w : World} {D : Option Tmp} {ty t : TypeId} {pos : String} {aft : Array Edge} {g : Option (Nat × Bool)} {x y : Operand} {kk : IntKind} {m b o i k : Nat} {ag : Bool} (hu : arB P t m k ag = true) (hm : 1 < m) (hx : ρ x = .pointer (some ⟨b, o, none⟩)) (hy : ρ y = .int kk (i : Nat)) (h1 : i < m) : Run P ⟨D, .indexAddr t x y, ty, pos, aft, g⟩ ρ w (.pointer (some ⟨b, o + i * k, none⟩)) w := by
  unfold arB at hu
  split at hu
  · rename_i m' e he
    simp only [Bool.and_eq_true] at hu
    obtain ⟨hm', hz⟩ := hu
    have hm' := Nat.eq_of_beq_eq_true hm'
    subst hm'
    have hz' := run_sizeOf (P := P) (w := w) hz
    simp [Run, execOp, hx, hy, go_sem, Instr.indexAt, run_underlying he, hz', asIntOf, h1, Result.andThen]
  cases hu
theorem R_buildA2 {t ty : TypeId} {ρ : Operand → Value} {w : World} {D : Option Tmp} {pos : String} {aft : Array Edge} {g : Option (Nat × Bool)} {x y : Operand} {p q : Int} (hu : arB P t 2 1 false = true) (hz : zeroB P t (.agg #[.int .u64 0, .int .u64 0])) (hx : ρ x = .int .u64 p) (hy : ρ y = .int .u64 q) :
    Run P ⟨D, .build t #[(0, x), (1, y)], ty, pos, aft, g⟩ ρ w (.agg #[.int .u64 p, .int .u64 q]) w := by
  have hf : fillB (plA 2 1) ([(0, x), (1, y)].map fun p => (p.1, ρ p.2)) [Value.int .u64 0, .int .u64 0].length = true := by
    show fillB (plA 2 1) [(0, ρ x), (1, ρ y)] 2 = true
    rw [hx, hy]; rfl
  have h := R_buildA (D := D) (ty := ty) (pos := pos) (aft := aft) (g := g) (w := w) (ρ := ρ) hu (zl := [.int .u64 0, .int .u64 0]) (parts := [(0, x), (1, y)]) hz hf
  have e1 : fillL (plA 2 1) ([(0, x), (1, y)].map fun p => (p.1, ρ p.2)) [Value.int .u64 0, .int .u64 0] = [.int .u64 p, .int .u64 q] := by
    show fillL (plA 2 1) [(0, ρ x), (1, ρ y)] [Value.int .u64 0, .int .u64 0] = _
    rw [hx, hy]; rfl
  rw [e1] at h
  exact h
theorem R_maxN {tys : Array TypeId} {ty : TypeId} {ρ : Operand → Value} {w : World} {D : Option Tmp} {pos : String} {aft : Array Edge} {g : Option (Nat × Bool)} {x y : Operand} {k : IntKind} {a b : Nat} (hx : ρ x = .int k (a : Nat)) (hy : ρ y = .int k (b : Nat)) : Run P ⟨D, .call ⟨.builtin .max, #[x, y], tys⟩, ty, pos, aft, g⟩ ρ w (.int k ((max a b : Nat) : Int)) w := by
  have h := R_max (P := P) (w := w) (D := D) (ty := ty) (pos := pos) (aft := aft) (g := g) (tys := tys) hx hy
  rwa [show (if (a : Int) < (b : Int) then (b : Int) else (a : Int)) = ((max a b : Nat) : Int) by split <;> omega] at h
theorem R_minN {tys : Array TypeId} {ty : TypeId} {ρ : Operand → Value} {w : World} {D : Option Tmp} {pos : String} {aft : Array Edge} {g : Option (Nat × Bool)} {x y : Operand} {k : IntKind} {a b : Nat} (hx : ρ x = .int k (a : Nat)) (hy : ρ y = .int k (b : Nat)) : Run P ⟨D, .call ⟨.builtin .min, #[x, y], tys⟩, ty, pos, aft, g⟩ ρ w (.int k ((min a b : Nat) : Int)) w := by
  have h := R_min (P := P) (w := w) (D := D) (ty := ty) (pos := pos) (aft := aft) (g := g) (tys := tys) hx hy
  rwa [show (if (b : Int) < (a : Int) then (b : Int) else (a : Int)) = ((min a b : Nat) : Int) by split <;> omega] at h
theorem a_done (hr : Region.ready .any ops listed = []) (h : WK c Q .normal e B L) : WA P ops c Q fuel listed e B L := fun w hw => by
  unfold WK at h
  cases fuel with
  | zero => exact ⟨hr, h w hw⟩
  | succ n => exact ⟨fun _ => h w hw, fun i hi => by rw [hr] at hi; cases hi⟩
theorem a_run (i : Nat) (hi : ops[i]? = some o) (hr : Region.ready .any ops listed = [i]) (hg : plainB o = true) (hd : o.dst = some d) (hv : ∀ w, St B L w → Run P o (ev c.n e) w v w) (h : WA P ops c Q fuel (listed.setIfInBounds i true) (upd e d v) B L) : WA P ops c Q (fuel + 1) listed e B L := fun w hw => by
  refine ⟨fun h0 => (by rw [hr] at h0; cases h0), fun q hq => ?_⟩
  obtain rfl : q = i := by rw [hr] at hq; simpa using hq
  exact told_step ⟨o, hi, hg, hd, fun w hw => .inl (hv w hw)⟩ hw fun w' hw' => h w' hw'
theorem a_yield (i : Nat) {lo : Nat} {al : List Operand} {x : Operand} {tys : Array TypeId} {T : TypeId} {p : String} {a : Array Edge} {R : World → Value → World → Prop} (hi : ops[i]? = some ⟨some d, .call ⟨.value x, al.toArray, tys⟩, T, p, a, none⟩) (hr : Region.ready .any ops listed = [i]) (hx : ev c.n e x = .func (.yield lo) #[] #[])
    (hy : ∀ w, St B L w → YieldAt (fw none) 0 P lo (al.map (ev c.n e)).toArray w fun en w' => ∃ v, en = .returned v ∧ R w v w')
    (h : ∀ w, St B L w → ∀ v w', R w v w' → ∃ B' L', St B' L' w' ∧ WA P ops c Q fuel (listed.setIfInBounds i true) (upd e d v) B' L') : WA P ops c Q (fuel + 1) listed e B L := fun w hw => by
  refine ⟨fun h0 => (by rw [hr] at h0; cases h0), fun q hq => ?_⟩
  obtain rfl : q = i := by rw [hr] at hq; simpa using hq
  obtain ⟨fn, tmps, ay, bo, h1, h2⟩ := hy w hw
  have hr2 : (execOp (ev c.n e) ⟨some d, .call ⟨.value x, al.toArray, tys⟩, T, p, a, none⟩).run P w = .ok (.round lo fn tmps ay bo) w := by
    simp only [execOp, resolve, hx, Deferred.ofValue, Sem.run_bind, Sem.run_pure, Result.andThen_ok, invoke, List.map_toArray]
    simpa using h1
  unfold wpOpIn
  simp only [hi]
  rw [if_pos (by simp [Region.wanted])]
  refine ⟨fun _ _ => trivial, ?_⟩
  rw [act_eval, Oper.semAt_eq _ _ _ (fun _ h => by cases h), hr2, Oper.uponIn_round]
  refine ⟨fun hh => absurd hh (by simp [fw, Fence.wide]), ?_⟩
  have h2' : RoundIn (fw c.ro) (0 - 1) P lo fn tmps ay bo w fun en w' => ∃ v, en = .returned v ∧ R w v w' := h2
  refine h2'.mono ?_
  rintro en w' ⟨v, rfl, hv⟩
  obtain ⟨B', L', h3, h4⟩ := h w hw v w' hv
  simp only [act_put]
  exact h4 w' h3
end
end
attribute [irreducible] WA
section
variable {P : Program} {ops : Array Oper} {Q : Exit → Act → World → Prop} {c : Cf} {e : Env} {B : Base} {L : Heap} {rest : List Oper} {d : Nat} {o : Oper} {S : World → Prop} {fuel : Nat} {listed : Array Bool}
theorem o_callE {f : FuncId} {args : Array Value} {R : Value → Prop} {i : Nat} (hi : ops[i]? = some o) (hw : Region.wanted o (yielded ops (act c e).tmps) = true) (hd : o.dst = some d) (hr : ∀ w, RunE P o (ev c.n e) w f args)
    (hc : ∀ w, St B L w → Ret P f args w fun u w' => R u ∧ Ext w w') (h : ∀ u, R u → WH P ops c Q S fuel (listed.setIfInBounds i true) (upd e d u) B L) : WO P ops c Q S fuel listed i e B L :=
  o_callV (R := fun w u w' => R u ∧ Ext w w') (E := fun _ _ _ => False) hi hw hd hr (fun w hw => (hc w hw).toP) (fun w hw v w' ⟨hR, hx⟩ => ⟨B, L, hw.ext hx, h v hR⟩) (fun _ _ _ _ h => h.elim)
def Tel2 (F : Option Addr → Nat → Option Addr → Nat → Value) (k n k2 m : Nat) (w : World) (v : Value) (w' : World) : Prop := ∃ a c a2 c2, v = F a c a2 c2 ∧ Nm w' a k c n ∧ Nm w' a2 k2 c2 m ∧ Fsh w.heap.size a k ∧ Fsh w.heap.size a2 k2 ∧ Ext w w'
theorem St.told {w w' : World} (hw : St B L w) (hx : Ext w w') : St ((w', fun j => j ∈ L.map (·.1)) :: B) L w' := by
  have h1 := hw.ext hx
  refine ⟨?_, h1.own, h1.nd, ?_⟩
  · intro x hx
    rcases List.mem_cons.1 hx with rfl | hx
    · exact Fr.refl _ _
    exact h1.fr x hx
  intro p hp x hx
  rcases List.mem_cons.1 hx with rfl | hx
  · exact .inl (List.mem_map_of_mem hp)
  exact h1.ok p hp x hx
theorem w_tel2 {f : FuncId} {args : Array Value} {F : Option Addr → Nat → Option Addr → Nat → Value} {k n k2 m : Nat} (hr : ∀ w, RunE P o (ev c.n e) w f args) (hg : plainB o = true) (hd : o.dst = some d) (hc : ∀ w, St B L w → Ret P f args w (Tel2 F k n k2 m w))
    (h : ∀ x a c' a2 c2, Kn x a k c' n → New_ B a k → Kn x a2 k2 c2 m → New_ B a2 k2 → WX .sq P ops c Q rest (upd e d (F a c' a2 c2)) (x :: B) L) : WX .sq P ops c Q (o :: rest) e B L := by
  refine zP (R := fun w u w' => Tel2 F k n k2 m w u w') hr hg hd hc fun w hw v w' ⟨a, c', a2, c2, hv, hN, hN2, hF, hF2, hx⟩ => ?_
  subst hv
  exact ⟨_, L, hw.told hx, h _ a c' a2 c2 (Kn.new hN hF hw) (fun y hy => hF.mono (hw.fr y hy).size) (Kn.new hN2 hF2 hw) (fun y hy => hF2.mono (hw.fr y hy).size)⟩
end
end Go.Sx
end
section
namespace Go.Sx
open Go.RowKit Go.Num
theorem lmV_splice {z p k j q : Nat} (hp : p < Go.Num.B ^ q) (hk : j + q ≤ k) (hz : z < Go.Num.B ^ (j + q)) : (lmV z k).take j ++ lmV p q ++ (lmV z k).drop (j + q) = lmV (z % Go.Num.B ^ j + Go.Num.B ^ j * p) k := by
  have hl := lmV_len z k
  apply lmV_ext (by simp [lmV_len]; omega)
  intro i hi
  rcases Nat.lt_or_ge i j with h | h
  · rw [List.append_assoc, List.getElem?_append_left (by rw [List.length_take, hl]; omega), List.getElem?_take_of_lt h, lmV_at hi, dg_low B_pos h, dg_mod B_pos h]
  rcases Nat.lt_or_ge i (j + q) with h2 | h2
  · rw [List.getElem?_append_left (by rw [List.length_append, List.length_take, hl, lmV_len]; omega), List.getElem?_append_right (by rw [List.length_take, hl]; omega), List.length_take, hl, show min j k = j by omega, lmV_at (by omega)]
    have := dg_high (b := Go.Num.B) (x := z % Go.Num.B ^ j) (y := p) (j := j) (i := i - j) (Nat.mod_lt _ (Bpow_pos j))
    rw [Nat.add_sub_cancel' h] at this
    rw [this]
  rw [List.getElem?_append_right (by rw [List.length_append, List.length_take, hl, lmV_len]; omega), List.length_append, List.length_take, hl, lmV_len, show min j k = j by omega, List.getElem?_drop, Nat.add_sub_cancel' h2, lmV_at hi]
  rw [dg_out (Nat.lt_of_lt_of_le hz (Nat.pow_le_pow_right B_pos h2)), dg_out (Nat.lt_of_lt_of_le (lt_app (Nat.mod_lt _ (Bpow_pos j)) hp) (Nat.pow_le_pow_right B_pos h2))]
theorem Nm.seg {w : World} {b q k c c' z j : Nat} (h : Nm w (some ⟨b, 0, none⟩) k c z) (hj : j + q ≤ k) (hz : z < Go.Num.B ^ (j + q)) (hc : q ≤ c') : Nm w (some ⟨b, 0 + j * 1, none⟩) q c' (z / Go.Num.B ^ j) := by
  have h1 := h.part (q := q) (j := j) hj c' hc
  have hlt : z / Go.Num.B ^ j < Go.Num.B ^ q := by rw [Nat.div_lt_iff_lt_mul (Bpow_pos j), ← Nat.pow_add, Nat.add_comm]; exact hz
  rw [Nat.mod_eq_of_lt hlt] at h1
  rw [Nat.mul_one]; exact h1
section
variable {P : Program} {ρ : Operand → Value} {w : World} {D : Option Tmp} {t ty : TypeId} {pos : String} {aft : Array Edge} {g : Option (Nat × Bool)} {x : Operand} {kl kh : IntKind}
theorem R_segN {lo hi : Operand} {b k c l h : Nat} (hu : slB P t 1 = true) (hx : ρ x = .slice (some ⟨b, 0, none⟩) k c) (hlo : ρ lo = .int kl (l : Nat)) (hhi : ρ hi = .int kh (h : Nat)) (h1 : l < h) (h2 : h ≤ c) :
    Run P ⟨D, .slice t x (some lo) (some hi) none, ty, pos, aft, g⟩ ρ w (.slice (some ⟨b, 0 + l * 1, none⟩) (h - l) (c - l)) w := by
  obtain ⟨e, ti, h3, h4, h5⟩ := slB_spec hu
  have h6 : (l : Int) ≤ (h : Int) := by omega
  have h7 : (h : Int) ≤ (c : Int) := by omega
  have h8 : ¬ c = l := by omega
  have h9 : l ≤ h := by omega
  simp [Run, execOp, hx, hlo, hhi, go_sem, Instr.sliceAt, Instr.slice, run_underlying h3, Instr.sliceBounds, Instr.sliceBound, asIntOf, h2, h6, h7, h8, h9, sizeOf, typeInfo, h4, h5, Addr.add]
  omega
end
theorem Own.empty {T : TypeId} {k : Nat} {a : Option Addr} {n c : Nat} {xs : List Value} {W : Heap} (h : Own T k (.slice a n c) xs n W) : Own T k (.slice a 0 c) [] 0 W := by
  rcases h.2 with ⟨h1, h2, rfl⟩ | ⟨b, c', sp, h1, h2, h3, rfl⟩
  · cases h1; exact Own.nil T k
  simp only [Value.slice.injEq] at h1
  obtain ⟨rfl, _, rfl⟩ := h1
  refine ⟨by simp, .inr ⟨b, _, xs ++ sp, rfl, Nat.zero_le _, ?_, rfl⟩⟩
  rw [List.length_append, h.1, h3, ← Nat.add_mul, Nat.add_sub_cancel' h2, Nat.sub_zero]
section
variable {P : Program} {ops : Array Oper} {Q : Exit → Act → World → Prop} {c : Cf} {e : Env} {B : Base} {L : Heap} {rest : List Oper} {d : Nat} {x y : Operand} {T : TypeId} {p : String} {ed : Array Edge} {t te : Nat} {b k z j q cp m cm n : Nat} {a : Option Addr} {T2 : TypeId}
theorem w_clearU (i : Nat) (hi : L[i]? = some (b, cel (lmV z k) T2)) (hT : slT P t te 1 8 (.int .u64 0)) (hx : ev c.n e x = .slice (some ⟨b, 0 + j * 1, none⟩) q cp) (hj : j + q ≤ k) (hq : 0 < q) (hz : z < Go.Num.B ^ (j + q))
    (h : WX .sq P ops c Q rest e B (L.set i (b, cel (lmV (z % Go.Num.B ^ j) k) T2))) : WX .sq P ops c Q (⟨none, .call ⟨.builtin .clear, #[x], #[t]⟩, T, p, ed, none⟩ :: rest) e B L := by
  obtain ⟨ti, ht, hti, hsz, hby, hzz, hzs⟩ := slT_spec hT
  rw [Nat.mul_one] at hx
  unfold WX at *
  intro w hw
  have hb := hw.at_ i hi
  have hst := run_storeCells_at P b (0 + j) T2 (List.replicate q (.int .u64 0)) 0 _ w hb (by simp [lmV_len]; omega) (fun v hv => by rw [(List.mem_replicate.1 hv).2]; rfl)
  have e0 : (lmV z k).take j ++ List.replicate q (.int .u64 0) ++ (lmV z k).drop (j + q) = lmV (z % Go.Num.B ^ j) k := by
    have := lmV_splice (p := 0) (Bpow_pos q) hj hz
    rwa [lmV_zero, Nat.mul_zero, Nat.add_zero] at this
  simp only [Nat.zero_add, Nat.add_zero, List.length_replicate, e0] at hst
  have hzc : (Builtin.zeroCells (Value.int .u64 0).cells q).toList = List.replicate q (.int .u64 0) := by
    apply List.ext_getElem
    · simp [Builtin.zeroCells, Value.cells]
    intro i h1 h2; simp [Builtin.zeroCells, Value.cells, Nat.mod_one]
  have hr : (Builtin.clear_ #[t] T #[.slice (some ⟨b, 0 + j, none⟩) q cp]).run P w = .ok (.tuple #[]) (w.setRow b (lmV (z % Go.Num.B ^ j) k).toArray) := by
    have hq0 : q ≠ 0 := by omega
    obtain ⟨q', rfl⟩ : ∃ q', q = q' + 1 := ⟨q - 1, by omega⟩
    rw [Nat.zero_add]
    simp [Builtin.clear_, run_underlying ht, zeroValue, typeInfo, hti, hzz, hzc, hst]
  refine s_drop (v := .tuple #[]) (w' := w.setRow b (lmV (z % Go.Num.B ^ j) k).toArray) ?_ rfl rfl (h _ (hw.put i hi))
  unfold Run
  simp only [execOp, resolve, Sem.run_bind, pure_run, Result.andThen_ok, invoke, builtin, List.map_toArray, List.map_cons, List.map_nil, hx, hr]
theorem w_copyU (i : Nat) (hi : L[i]? = some (b, cel (lmV z k) T2)) (hT : slT P t te 1 8 (.int .u64 0)) (hx : ev c.n e x = .slice (some ⟨b, 0 + j * 1, none⟩) q cp) (hj : j + q ≤ k) (hz : z < Go.Num.B ^ j) (hy : ev c.n e y = .slice a m cm) (hN : ∀ w, St B L w → Nm w a m cm n) (hm : m ≤ q)
    (h : WX .sq P ops c Q rest (upd e d (.int .i64 (m : Nat))) B (L.set i (b, cel (lmV (z + Go.Num.B ^ j * n) k) T2))) : WX .sq P ops c Q (⟨some d, .call ⟨.builtin .copy, #[x, y], #[t, t]⟩, T, p, ed, none⟩ :: rest) e B L := by
  obtain ⟨ti, ht, hti, hsz, hby, hzz, hzs⟩ := slT_spec hT
  rw [Nat.mul_one] at hx
  unfold WX at *
  intro w hw
  have hb := hw.at_ i hi
  have hNw := hN w hw
  have hsz1 : (P.info? te).map (·.size) = some 1 := by rw [hti]; simp [hsz]
  by_cases h0 : m = 0
  · subst h0
    have hn0 : n = 0 := by have := hNw.lt; rw [Nat.pow_zero] at this; omega
    subst hn0
    have hr := run_copy_none (P := P) w t t T te (some ⟨b, 0 + j, none⟩) a q cp 0 cm ht hsz1 (by simp)
    have hL : L.set i (b, cel (lmV (z + Go.Num.B ^ j * 0) k) T2) = L := by
      rw [Nat.mul_zero, Nat.add_zero]
      apply List.ext_getElem?
      intro r
      rw [List.getElem?_set]
      split
      · rename_i hr; subst hr
        have := (List.getElem?_eq_some_iff.1 hi).1
        rw [if_pos this, hi]
      rfl
    rw [hL] at h
    refine s_run (v := .int .i64 ((0 : Nat) : Int)) (w' := w) ?_ rfl rfl (h w hw)
    unfold Run
    simp only [execOp, resolve, Sem.run_bind, pure_run, Result.andThen_ok, invoke, builtin, List.map_toArray, List.map_cons, List.map_nil, hx, hy, hr]
    rfl
  obtain ⟨b2, o2, rfl⟩ := hNw.ptr (by omega)
  have hr := run_copy_row (P := P) w t t T te b (0 + j) q cp ⟨b2, o2, none⟩ m cm _ T2 (lmV n m) ht hsz1 hb (by rw [lmV_len]; exact (Nat.min_eq_left hm).symm) (fun r v hv => by
    have := hNw.news r v hv
    simp only [Addr.add]; split <;> simp_all) (by rw [lmV_len, List.size_toArray, lmV_len]; omega) (fun v hv => List.all_eq_true.1 (lmV_one n m) v hv)
  have e0 : (lmV z k).take (0 + j) ++ lmV n m ++ (lmV z k).drop (0 + j + (lmV n m).length) = lmV (z + Go.Num.B ^ j * n) k := by
    have := lmV_splice (p := n) (z := z) (k := k) (j := j) hNw.lt (by omega) (Nat.lt_of_lt_of_le hz (Nat.pow_le_pow_right B_pos (Nat.le_add_right _ _)))
    rw [Nat.zero_add, lmV_len]
    rwa [Nat.mod_eq_of_lt hz] at this
  rw [lmV_len] at hr
  rw [lmV_len] at e0
  simp only [e0] at hr
  refine s_run (v := .int .i64 (m : Nat)) (w' := w.setRow b (lmV (z + Go.Num.B ^ j * n) k).toArray) ?_ rfl rfl (h _ (hw.put i hi))
  unfold Run
  simp only [execOp, resolve, Sem.run_bind, pure_run, Result.andThen_ok, invoke, builtin, List.map_toArray, List.map_cons, List.map_nil, hx, hy, hr]
  rfl
end
end Go.Sx
end
section
namespace Go.Sx
open Go.RowKit Go.Num
def byV (l : List UInt8) : List Value := l.map fun c => .int .u8 (c.toNat : Nat)
theorem byV_len (l : List UInt8) : (byV l).length = l.length := by simp [byV]
theorem byV_at {l : List UInt8} {j : Nat} {u : UInt8} (h : l[j]? = some u) : (byV l)[j]? = some (.int .u8 (u.toNat : Nat)) := by simp [byV, h]
section
variable {P : Program} {ρ : Operand → Value} {D : Option Tmp} {g : Option (Nat × Bool)} {x y : Operand} {T t te : TypeId} {p : String} {ed : Array Edge} {bytes : Nat} {z : Value} {xs : List Value} {B : Base} {L : Heap} {w : World}
theorem app_full {b o n m b2 o2 c2 : Nat} {k : Nat} {news : List Value} (hT : slT P t te k bytes z) (hx : ρ x = .slice (some ⟨b, o, none⟩) n n) (hxl : xs.length = n * k) (hxs : ∀ (j : Nat) u, xs[j]? = some u → w.cell? ⟨b, o + j, none⟩ = some u)
    (hy : ρ y = .slice (some ⟨b2, o2, none⟩) m c2) (hl : news.length = m * k) (hnews : ∀ (j : Nat) u, news[j]? = some u → w.cell? ⟨b2, o2 + j, none⟩ = some u) (hm : 0 < m) (hn : n + m ≤ 100000000) (hby : bytes ≤ 1000) (hw : St B L w) :
    ∃ v' w' W', Run P ⟨D, .call ⟨.builtin .append, #[x, y], #[t, t]⟩, T, p, ed, g⟩ ρ w v' w' ∧ Own te k v' (xs ++ news) (n + m) W' ∧ St B (W' ++ L) w' := by
  obtain ⟨i, ht, hi, hsz, hb, hz, hzs⟩ := slT_spec hT
  subst hb; subst hsz
  have hge := grownCap_ge w (n + m) n te
  have ad : ∀ (q k j : Nat), (⟨q, k, none⟩ : Addr).add j = ⟨q, k + j, none⟩ := fun q k j => by unfold Addr.add; split <;> simp_all
  have hlen : (xs ++ news).length = (n + m) * i.size := by rw [List.length_append, hxl, hl, Nat.add_mul]
  have hr := run_append_grow (P := P) w t T te i z ht hi hz ⟨b, o, none⟩ n n xs hxl (fun j u hu => by rw [ad]; exact hxs j u hu) ⟨b2, o2, none⟩ m c2 news hl (fun j u hu => by rw [ad]; exact hnews j u hu) (by omega) (by omega) (growslice_fits (by omega) (Nat.le_trans (Nat.mul_le_mul hn hby) (by decide)))
  have hs := (hw.drawn (w.drawn + 1)).new (o := cel (xs ++ news ++ (Builtin.zeroCells z.cells (grownCap w (n + m) n te - (n + m))).toList) te)
  have e1 : (xs.toArray ++ news.toArray ++ Builtin.zeroCells z.cells (grownCap w (n + m) n te - (n + m)) : Array Value) = (xs ++ news ++ (Builtin.zeroCells z.cells (grownCap w (n + m) n te - (n + m))).toList).toArray := by simp
  rw [e1] at hr
  refine ⟨_, _, [(w.heap.size, _)], R_append hx hy hr, ⟨hlen, .inr ⟨w.heap.size, grownCap w (n + m) n te, _, rfl, hge, ?_, rfl⟩⟩, hs⟩
  rw [Array.length_toList, size_zeroCells, hzs]
theorem app_cap (A : Heap) {W : Heap} {a : Option Addr} {n c0 b2 c2 : Nat} {u : Value} (hT : slT P t te 1 bytes z) (hv : Own te 1 (.slice a n c0) xs n W) (hx : ρ x = .slice a n n) (hy : ρ y = .slice (some ⟨b2, 0, none⟩) 1 c2) (hu : ∀ w, St B (A ++ (W ++ L)) w → w.cell? ⟨b2, 0, none⟩ = some u) (h1 : u.oneCell' = true) (hn : n ≤ 1000000) (hby : bytes ≤ 1000) (hw : St B (A ++ (W ++ L)) w) :
    ∃ v' w' W', Run P ⟨D, .call ⟨.builtin .append, #[x, y], #[t, t]⟩, T, p, ed, g⟩ ρ w v' w' ∧ Own te 1 v' (xs ++ [u]) (n + 1) W' ∧ St B (A ++ (W' ++ L)) w' := by
  have hcu : ∀ w, St B (A ++ (W ++ L)) w → ∀ (j : Nat) q, [u][j]? = some q → w.cell? ⟨b2, 0 + j, none⟩ = some q := fun w hw j q hq => by
    cases j with
    | zero => simp at hq; subst hq; exact hu w hw
    | succ j => simp at hq
  rcases hv.2 with ⟨h2, rfl, rfl⟩ | ⟨b, c, sp, h2, hc, hs, rfl⟩
  · cases h2
    have hx0 : xs = [] := by have := hv.1; simpa using this
    subst hx0
    obtain ⟨v', w', L2, k1, k2, k3⟩ := app_run (ρ := ρ) (D := D) (g := g) (x := x) (y := y) (T := T) (p := p) (ed := ed) (A := A) (L := L) (L1 := A ++ ([] ++ L)) (news := [u]) (n := 0) (xs := []) hT (by decide) hx (OwnR.nil te 1 A L) hy rfl (fun w hw => hcu w hw) (by simp [h1]) (by decide) (by decide) (Nat.le_trans (Nat.mul_le_mul (show 0 + 1 ≤ 1 by decide) hby) (by decide)) hw
    obtain ⟨W', k4, rfl⟩ := k2.own
    exact ⟨v', w', W', k1, k4, k3⟩
  · simp only [Value.slice.injEq] at h2
    obtain ⟨rfl, _, rfl⟩ := h2
    have hown : ∀ (j : Nat) q, xs[j]? = some q → w.cell? ⟨b, 0 + j, none⟩ = some q := fun j q hq => by
      have hb := hw.own (b, cel (xs ++ sp) te) (List.mem_append_right _ (List.mem_append_left _ zm0))
      simp only [World.cell?, hb]
      rw [Nat.zero_add]
      have := (List.getElem?_eq_some_iff.1 hq).1
      simp [List.getElem?_append_left this, hq]
    obtain ⟨v', w', W', k1, k2, k3⟩ := app_full (ρ := ρ) (D := D) (g := g) (x := x) (y := y) (T := T) (p := p) (ed := ed) (L := A ++ ([(b, cel (xs ++ sp) te)] ++ L)) (news := [u]) hT hx hv.1 hown hy rfl (hcu w hw) (by decide) (by omega) hby hw
    refine ⟨v', w', W', k1, k2, ?_⟩
    have h3 := k3.perm (L' := A ++ (W' ++ ([(b, cel (xs ++ sp) te)] ++ L))) (by
      rw [← List.append_assoc, ← List.append_assoc A]
      exact List.Perm.append_right _ List.perm_append_comm)
    exact h3.drop (List.Sublist.append (List.Sublist.refl _) (List.Sublist.append (List.Sublist.refl _) (List.sublist_append_right _ _)))
end
section
variable {P : Program} {ops : Array Oper} {Q : Exit → Act → World → Prop} {c : Cf} {e : Env} {B : Base} {L : Heap} {rest : List Oper} {d : Nat} {x y : Operand} {T t te : TypeId} {p : String} {ed : Array Edge} {bytes : Nat} {z : Value} {xs : List Value}
theorem w_appCap (A : Heap) {W : Heap} {a : Option Addr} {n c0 b2 c2 : Nat} {u : Value} (hT : slT P t te 1 bytes z) (hv : Own te 1 (.slice a n c0) xs n W) (hx : ev c.n e x = .slice a n n) (hy : ev c.n e y = .slice (some ⟨b2, 0, none⟩) 1 c2) (hu : ∀ w, St B (A ++ (W ++ L)) w → w.cell? ⟨b2, 0, none⟩ = some u) (h1 : u.oneCell' = true) (hn : n ≤ 1000000) (hby : bytes ≤ 1000)
    (h : ∀ v' W', Own te 1 v' (xs ++ [u]) (n + 1) W' → WX .sq P ops c Q rest (upd e d v') B (A ++ (W' ++ L))) : WX .sq P ops c Q (⟨some d, .call ⟨.builtin .append, #[x, y], #[t, t]⟩, T, p, ed, none⟩ :: rest) e B (A ++ (W ++ L)) := by
  unfold WX at *
  intro w hw
  obtain ⟨v', w', W', h2, h3, h4⟩ := app_cap (D := some d) (T := T) (p := p) (ed := ed) (g := none) A hT hv hx hy hu h1 hn hby hw
  exact s_run h2 rfl rfl (h v' W' h3 w' h4)
theorem w_convT {q : Md} {ty src dst el : TypeId} {cap : Nat} {l : List UInt8} {cs : List Value} (i : Nat) {b : Nat} (hi : L[i]? = some (b, cel (byV l ++ cs) te)) (hs : P.underlying src = some (.slice el)) (he : P.underlying el = some (.int .u8)) (hd : P.underlying dst = some .string)
    (hx : ev c.n e x = .slice (some ⟨b, 0, none⟩) l.length cap) (h : WX q P ops c Q rest (upd e d (str l)) B L) : WX q P ops c Q (⟨some d, .convert src dst x, ty, p, ed, none⟩ :: rest) e B L :=
  w_run (fun w hw => by
    have hr := run_convert_bytes_back (P := P) w src dst el ⟨b, 0, none⟩ cap l hs he hd (fun j hj => by
      have h1 := zc i hi (show (byV l ++ cs)[j]? = some (.int .u8 (l[j].toNat : Nat)) by rw [List.getElem?_append_left (by rw [byV_len]; exact hj)]; exact byV_at (List.getElem?_eq_getElem hj)) hw
      have e1 : (⟨b, 0, none⟩ : Addr).add j = ⟨b, j, none⟩ := by simp [Addr.add]; omega
      rw [e1, h1])
    unfold Run
    simp only [execOp, hx, Sem.run_bind, hr, Result.andThen_ok]
    rfl) rfl rfl h
end
theorem bytes_at {s : List UInt8} {cap j : Nat} {u : UInt8} (h : s[j]? = some u) : (bytesRow ⟨s.toArray⟩ cap)[j]? = some (.int .u8 (u.toNat : Nat)) := by
  have hj := (List.getElem?_eq_some_iff.1 h).1
  unfold bytesRow
  rw [Array.getElem?_append_left (by simpa using hj)]
  simp [h]
theorem w_convS {P : Program} {ops : Array Oper} {Q : Exit → Act → World → Prop} {c : Cf} {e : Env} {B : Base} {L : Heap} {rest : List Oper} {d : Nat} {x : Operand} {T src dst el : TypeId} {p : String} {a : Array Edge} {s : List UInt8} (hs : P.underlying src = some .string) (hd : P.underlying dst = some (.slice el)) (he : P.underlying el = some (.int .u8)) (hx : ev c.n e x = str s)
    (h : ∀ b cap ob, s.length ≤ cap → (∀ w : World, w.heap[b]? = some ob → ∀ (j : Nat) u, s[j]? = some u → w.cell? ⟨b, j, none⟩ = some (.int .u8 (u.toNat : Nat))) → WX .sq P ops c Q rest (upd e d (.slice (some ⟨b, 0, none⟩) s.length cap)) B ((b, ob) :: L)) :
    WX .sq P ops c Q (⟨some d, .convert src dst x, T, p, a, none⟩ :: rest) e B L := by
  unfold WX at *
  intro w hw
  have hr := run_bytes_of_string (P := P) w src dst el ⟨s.toArray⟩ hs hd he
  have hge := grownCap_ge w s.length 0 el
  refine s_run (by unfold Run; simp only [execOp, hx, Sem.run_bind, hr, Result.andThen_ok]; rfl) rfl rfl (h w.heap.size (grownCap w s.length 0 el) _ hge (fun w' hb j u hj => ?_) _ (hw.drawn (w.drawn + 1)).new)
  have h1 := bytes_at (cap := grownCap w s.length 0 el) hj
  simp only [World.cell?, hb]
  exact h1
end Go.Sx
end
section
namespace Go.Sx
open Go.RowKit
section
variable {P : Program} {ρ : Operand → Value} {w : World} {D : Option Tmp} {ty t yt ti tp : TypeId} {pos : String} {aft : Array Edge} {g : Option (Nat × Bool)} {x y : Operand} {v : Value}
theorem eq_in {ms : Array (String × TypeId)} (h : P.underlying t = some (.interface ms)) : (Op.equal t (.iface tp v) .nilIface).run P w = .ok false w := by
  unfold Op.equal Op.maxDepth
  rw [show 10000 = 9999 + 1 from rfl]
  unfold Op.equalIn
  simp only [Sem.run_bind, run_underlying h, Result.andThen]
  rfl
theorem eq_n0 {ms : Array (String × TypeId)} (h : P.underlying t = some (.interface ms)) : (Op.equal t .nilIface .nilIface).run P w = .ok true w := by
  unfold Op.equal Op.maxDepth
  rw [show 10000 = 9999 + 1 from rfl]
  unfold Op.equalIn
  simp only [Sem.run_bind, run_underlying h, Result.andThen]
  rfl
theorem R_ine {ms : Array (String × TypeId)} (h : P.underlying t = some (.interface ms)) (hx : ρ x = .iface tp v) (hy : ρ y = .nilIface) : Run P ⟨D, .binOp .neq t x y yt, ty, pos, aft, g⟩ ρ w (.bool true) w := by
  simp only [Run, execOp, hx, hy, eqGuard, binOp, Sem.run_bind, eq_in h, Result.andThen]
  rfl
theorem R_ine0 {ms : Array (String × TypeId)} (h : P.underlying t = some (.interface ms)) (hx : ρ x = .nilIface) (hk : ρ (.const .nilIface) = .nilIface) : Run P ⟨D, .binOp .neq t x (.const .nilIface) yt, ty, pos, aft, g⟩ ρ w (.bool false) w := by
  simp only [Run, execOp, hx, hk, eqGuard, binOp, Sem.run_bind, eq_n0 h, Result.andThen, Bool.or_true, if_true, Bool.not_true, Bool.false_eq_true, if_false]
  rfl
end
end Go.Sx
end
section
namespace Go.Sx
open Go.RowKit
theorem At.mono {W : World} {N N' : Nat → Prop} (hn : ∀ j, N j → N' j) {a : Option Addr} {i : Nat} {cs : List Value} (h : At W N a i cs) : At W N' a i cs := by
 obtain ⟨b, o, h1, h2, h3⟩ := h; exact ⟨b, o, h1, hn _ h2, h3⟩
structure TL {α β : Type} (M : World → (Nat → Prop) → α → β → Prop) : Prop where
 fr : ∀ {w w' : World} {S N : Nat → Prop} {a : α} {b : β}, M w N a b → Fr S w w' → (∀ j, N j → ¬ S j) → M w' N a b
 mono : ∀ {w : World} {N N' : Nat → Prop} {a : α} {b : β}, M w N a b → (∀ j, N j → N' j) → M w N' a b
theorem at_blk {w : World} {N : Nat → Prop} {sb i : Nat} {cs xs : List Value} {T : TypeId} (h : w.heap[sb]? = some (cel xs T)) (hN : N sb) (hc : ∀ (j : Nat) v, cs[j]? = some v → xs[i + j]? = some v) : At w N (some ⟨sb, 0, none⟩) i cs := by
 refine ⟨sb, 0, rfl, hN, fun j v hj => ?_⟩
 have := hc j v hj
 simp [World.cell?, h, this]
def Mc {α : Type} (k : Nat) (M : World → (Nat → Prop) → α → List Value → Prop) (W : World) (N : Nat → Prop) (l : List α) (xs : List Value) : Prop := ∀ (j : Nat) e, l[j]? = some e → M W N e ((xs.drop (j * k)).take k)
theorem TL.cells {α : Type} {k : Nat} {M : World → (Nat → Prop) → α → List Value → Prop} (hM : TL M) : TL (Mc k M) := ⟨fun h hf hn j e he => hM.fr (h j e he) hf hn, fun h hn j e he => hM.mono (h j e he) hn⟩
theorem Mc.nil {α : Type} {k : Nat} {M : World → (Nat → Prop) → α → List Value → Prop} {W : World} {N : Nat → Prop} {xs : List Value} : Mc k M W N [] xs := fun j e h => by simp at h
theorem Mc.snoc {α : Type} {k : Nat} {M : World → (Nat → Prop) → α → List Value → Prop} {W : World} {N : Nat → Prop} {l : List α} {xs news : List Value} {e : α} (h : Mc k M W N l xs) (hx : xs.length = l.length * k) (hn : news.length = k) (he : M W N e news) : Mc k M W N (l ++ [e]) (xs ++ news) := by
 intro j u hu
 rcases Nat.lt_or_ge j l.length with h3 | h3
 ·rw [List.getElem?_append_left h3] at hu
  have := h j u hu
  have h4 : j * k + k ≤ xs.length := by
   have : (j + 1) * k ≤ l.length * k := Nat.mul_le_mul_right k h3
   rw [Nat.add_mul, Nat.one_mul] at this; omega
  rwa [List.drop_append_of_le_length (by omega), List.take_append_of_le_length (by rw [List.length_drop]; omega)]
 ·have hj : j = l.length := by
   have := (List.getElem?_eq_some_iff.1 hu).1
   simp at this; omega
  subst hj
  rw [List.getElem?_append_right (Nat.le_refl _), Nat.sub_self] at hu
  obtain rfl : e = u := by simpa using hu
  rw [List.drop_append, List.drop_eq_nil_of_le (by omega), List.nil_append, hx, Nat.sub_self, List.drop_zero, List.take_of_length_le (by omega)]
  exact he
abbrev Bw := World × (Nat → Prop)
def Nn (w w' : World) : Nat → Prop := fun j => w.heap.size ≤ j ∧ j < w'.heap.size
def Nb (s0 : Nat) (x : World × (Nat → Prop)) : Nat → Prop := fun j => s0 ≤ j ∧ j < x.1.heap.size ∧ ¬ x.2 j
def Kt {α β : Type} (x : World × (Nat → Prop)) (s0 : Nat) (M : World → (Nat → Prop) → α → β → Prop) (a : α) (b : β) : Prop := M x.1 (Nb s0 x) a b
abbrev inL (L : Heap) : Nat → Prop := fun j => j ∈ L.map (·.1)
theorem St.base1 {B : Base} {L : Heap} {w : World} (h : St B L w) : St ((w, inL L) :: B) L w := by
 refine ⟨?_, h.own, h.nd, ?_⟩
 ·intro x hx
  rcases List.mem_cons.1 hx with rfl | hx
  ·exact Fr.refl _ _
  ·exact h.fr x hx
 ·intro p hp x hx
  rcases List.mem_cons.1 hx with rfl | hx
  ·exact .inl (List.mem_map_of_mem hp)
  ·exact h.ok p hp x hx
section
variable {α β : Type} {M : World → (Nat → Prop) → α → β → Prop} {x : World × (Nat → Prop)} {s0 : Nat} {a : α} {b : β} {B : Base} {L : Heap} {w w' : World}
theorem Kt.at (h : Kt x s0 M a b) (hM : TL M) (hx : x ∈ B) (hw : St B L w) : M w (Nb s0 x) a b := hM.fr h (hw.fr x hx) (fun _ hj => hj.2.2)
theorem Kt.now (h : Kt x s0 M a b) (hM : TL M) (hx : x ∈ B) (hw : St B L w) : Kt (w, inL L) s0 M a b := hM.mono (h.at hM hx hw) fun j hj => ⟨hj.1, Nat.lt_of_lt_of_le hj.2.1 (hw.fr x hx).size, fun hL => by
 obtain ⟨p, hp, rfl⟩ := List.mem_map.1 hL
 rcases hw.ok p hp x hx with h | h
 ·exact hj.2.2 h
 ·have := hj.2.1; omega⟩
theorem Kt.new (h : M w' (Nn w w') a b) (hM : TL M) (hw : St B L w) (hs : s0 ≤ w.heap.size) : Kt (w', inL L) s0 M a b := hM.mono h fun j hj => ⟨Nat.le_trans hs hj.1, hj.2, fun hL => by
 obtain ⟨p, hp, rfl⟩ := List.mem_map.1 hL
 have := lt_of_blk (hw.own p hp)
 exact absurd hj.1 (by omega)⟩
theorem Kt.fin {w0 : World} (h : Kt x w0.heap.size M a b) (hM : TL M) (hx : x ∈ B) (hw : St B L w) : M w (Nn w0 w) a b := hM.mono (h.at hM hx hw) fun j hj => ⟨hj.1, Nat.lt_of_lt_of_le hj.2.1 (hw.fr x hx).size⟩
end
section
variable {P : Program} {ops : Array Oper} {Q : Exit → Act → World → Prop} {c : Cf} {e : Env} {rest : List Oper} {o : Oper} {d : Nat} {B B' : Base} {L L' : Heap} {x : Exit} {y : Code}
theorem c_base (h : ∀ w, St B L w → WC P c y Q e ((w, inL L) :: B) L) : WC P c y Q e B L := by
 unfold WC at *
 exact fun w hw => h w hw w hw.base1
end
theorem cell_of {w : World} {b off : Nat} {cs : List Value} {T : TypeId} {v : Value} (h : w.heap[b]? = some (cel cs T)) (hv : cs[off]? = some v) : w.cell? ⟨b, off, none⟩ = some v := by simp [World.cell?, h, hv]
end Go.Sx
end
section
namespace Go.Sx
open Go.RowKit
theorem St.ne {B : Base} {L : Heap} {w : World} (h : St B L w) (i j : Nat) {b b' : Nat} {o o' : Obj} (hi : L[i]? = some (b, o)) (hj : L[j]? = some (b', o')) (hij : i ≠ j) : b ≠ b' := by
  rintro rfl
  have h1 : (L.map (·.1))[i]? = some b := by rw [List.getElem?_map, hi]; rfl
  have h2 : (L.map (·.1))[j]? = some b := by rw [List.getElem?_map, hj]; rfl
  exact hij (nodup_idx h.nd h1 h2)
theorem St.mod2 {B : Base} {L : Heap} {w w' : World} (h : St B L w) (i j : Nat) {b b2 : Nat} {o o' o2 o2' : Obj} (hi : L[i]? = some (b, o)) (hj : L[j]? = some (b2, o2)) (hij : i ≠ j) (k : Fr (fun q => q = b ∨ q = b2) w w') (hb : w'.heap[b]? = some o') (hb2 : w'.heap[b2]? = some o2') : St B ((L.set i (b, o')).set j (b2, o2')) w' := by
  have hj' : (L.set i (b, o'))[j]? = some (b2, o2) := by rw [List.getElem?_set_ne hij]; exact hj
  have hm : ((L.set i (b, o')).set j (b2, o2')).map (·.1) = L.map (·.1) := by rw [map_set_fst hj', map_set_fst hi]
  have hmem : (b, o) ∈ L := List.mem_of_getElem? hi
  have hmem2 : (b2, o2) ∈ L := List.mem_of_getElem? hj
  have hne := h.ne i j hi hj hij
  refine ⟨fun x hx => (h.fr x hx).trans' k (fun _ _ s => s) ?_, ?_, by rw [hm]; exact h.nd, ?_⟩
  · rintro q hq (rfl | rfl)
    · rcases h.ok _ hmem x hx with hh | hh
      · exact hh
      dsimp only at hh; omega
    rcases h.ok _ hmem2 x hx with hh | hh
    · exact hh
    dsimp only at hh; omega
  · intro p hp
    obtain ⟨q, hq⟩ := List.getElem?_of_mem hp
    by_cases h1 : j = q
    · subst h1
      rw [List.getElem?_set_self (by rw [List.length_set]; exact (List.getElem?_eq_some_iff.1 hj).1)] at hq
      cases hq; exact hb2
    rw [List.getElem?_set_ne h1] at hq
    by_cases h2 : i = q
    · subst h2
      rw [List.getElem?_set_self (List.getElem?_eq_some_iff.1 hi).1] at hq
      cases hq; exact hb
    rw [List.getElem?_set_ne h2] at hq
    refine k.get (h.own p (List.mem_of_getElem? hq)) ?_
    rintro (he | he)
    · exact (h.ne q i hq hi (Ne.symm h2)) he
    exact (h.ne q j hq hj (Ne.symm h1)) he
  intro p hp x hx
  have : p.1 ∈ L.map (·.1) := by rw [← hm]; exact List.mem_map_of_mem hp
  obtain ⟨p', hp', he⟩ := List.mem_map.1 this
  rw [← he]; exact h.ok p' hp' x hx
theorem St.start2 (w : World) {S : Nat → Prop} {b b2 : Nat} {o o2 : Obj} (hb : w.heap[b]? = some o) (hb2 : w.heap[b2]? = some o2) (hne : b ≠ b2) (hs : S b) (hs2 : S b2) : St [(w, S)] [(b, o), (b2, o2)] w :=
  ⟨by simp; exact Fr.refl _ _, by simpa using ⟨hb, hb2⟩, by simpa using hne, by simp [hs, hs2]⟩
def PostD (P : Program) (fn : Func) (R : Value → World → Prop) : Exit → Act → World → Prop := bodyPostD P fn fun e w' => ∃ v, e = .returned v ∧ R v w'
def PostR (P : Program) (fn : Func) (R : World → Prop) : Exit → Act → World → Prop := fun x a w => (x = .ret ∨ x = .normal) ∧ a.defers = [] ∧ ∃ v, (results fn a.tmps).run P w = .ok v w ∧ R w
section
variable {P : Program} {fn : Func} {R : Value → World → Prop} {n : Nat} {e : Env} {B : Base} {L : Heap} {ops : Array Oper} {Q : Exit → Act → World → Prop} {rest : List Oper} {o : Oper} {ds : List Deferred}
theorem enterD {f : FuncId} {x : Code} {l : List Value} {w : World} {S : Nat → Prop} {L : Heap} (n : Nat)
    (hf : P.funcs[f]? = some fn) (hb : fn.body = some x) (hn : fn.ntmps = n) (hl : Nat.ble l.length n = true) (hL : St [(w, S)] L w)
    (h : WC P (cf n) x (PostD P fn R) (ofL l) [(w, S)] L) : Ret P f l.toArray w R := by
  unfold WC at h
  have h1 := h w hL
  refine calls_of_wp_defers hf hb ?_
  rw [hn]
  have := enter_act l n (Nat.le_of_ble_eq_true hl)
  simp only [List.size_toArray] at *
  rw [this]
  exact wpIn_wide.1 h1
theorem w_defer {D : Deferred} (hr : ∀ w, (execOp (ev n e) o).run P w = .ok (.defer D) w) (hg : o.guard = none) (hd : o.dst = none)
    (h : WX .sq P ops ⟨n, D :: ds, none⟩ Q rest e B L) : WX .sq P ops ⟨n, ds, none⟩ Q (o :: rest) e B L := by
  unfold WX at *
  intro w hw
  have h1 := h w hw
  refine wpListIn_plain hg fun K hK => ⟨fun _ _ => trivial, ?_⟩
  rw [act_eval]
  show o.uponIn (fw none) 0 P (act ⟨n, ds, none⟩ e) K Q ((Oper.semAt none (ev n e) o).run P w)
  rw [Oper.semAt_none, hr, Oper.uponIn_defer, hd]
  exact hK _ _ h1
theorem R_defer {ρ : Operand → Value} {w : World} {x : Operand} {ty : TypeId} {pos : String} {aft : Array Edge} {f : FuncId} {ca : List Value} (hx : ρ x = .func (.func f) #[] ca.toArray) :
    (execOp ρ ⟨none, .defer ⟨.value x, #[], #[]⟩, ty, pos, aft, none⟩).run P w = .ok (.defer ⟨.fn (.func f) ca.toArray, #[]⟩) w := by
  simp [execOp, resolve, hx, go_sem]
variable {l : List ResultVar} {vs : List Value} {x : Exit} {f : FuncId} {ca : List Value} {args : Array Value}
theorem r_finD (hx : x = .ret ∨ x = .normal) (hr : fn.results = l.toArray) (hi : ∀ w, (invoke (.fn (.func f) ca.toArray) #[]).run P w = .ok (.enter f args) w)
    (hc : ∀ w, St B L w → CallsD P f args .returning w fun e u w' => (∃ v, e = .returned v) ∧ u = .returning ∧ St B L w')
    (hv : Res P ⟨n, [⟨.fn (.func f) ca.toArray, #[]⟩], none⟩ e B L l vs) (h : ∀ w, St B L w → R (pack vs) w) : WK ⟨n, [⟨.fn (.func f) ca.toArray, #[]⟩], none⟩ (PostD P fn R) x e B L := by
  unfold WK PostD
  intro w hw
  have h1 : Leaves P fn (act ⟨n, [⟨.fn (.func f) ca.toArray, #[]⟩], none⟩ e).tmps (fun e w' => ∃ v, e = .returned v ∧ R v w') [⟨.fn (.func f) ca.toArray, #[]⟩] .returning w := by
    refine leaves_cons (by simp) (hi w) ((hc w hw).mono ?_)
    rintro e u w' ⟨⟨v, rfl⟩, rfl, hw'⟩
    exact ⟨_, hv.results hr hw', _, rfl, h _ hw'⟩
  rcases hx with rfl | rfl <;> exact h1
theorem d_out {ch : List PanicEntry} {w : World} (hr : fn.results = l.toArray) (hi : ∀ w, (invoke (.fn (.func f) ca.toArray) #[]).run P w = .ok (.enter f args) w)
    (hc : CallsD P f args (.panicking ch) w fun e u w' => (∃ v, e = .returned v) ∧ settle u = .returning ∧ St B L w')
    (hv : Res P ⟨n, [⟨.fn (.func f) ca.toArray, #[]⟩], none⟩ e B L l vs) (h : ∀ w, St B L w → R (pack vs) w) : PostD P fn R (.panic ch) (act ⟨n, [⟨.fn (.func f) ca.toArray, #[]⟩], none⟩ e) w := by
  unfold PostD
  refine leaves_cons (by simp) (hi w) (hc.mono ?_)
  rintro e' u w' ⟨⟨v, rfl⟩, hu, hw⟩
  show Leaves P fn _ _ [] (settle u) w'
  rw [hu]
  exact ⟨_, hv.results hr hw, _, rfl, h _ hw⟩
theorem w_callD {f : FuncId} {args : Array Value} {d : Nat} {c : Cf} {R : World → Value → World → Prop} {E : World → List PanicEntry → World → Prop} (hr : ∀ w, RunE P o (ev c.n e) w f args) (hg : plainB o = true) (hd : o.dst = some d) (hc : ∀ w, St B L w → RetP P f args w (R w) (E w))
    (h : ∀ w, St B L w → ∀ v w', R w v w' → ∃ B' L', St B' L' w' ∧ WX .sq P ops c Q rest (upd e d v) B' L')
    (hE : ∀ w, St B L w → ∀ ch w', E w ch w' → Q (.panic ch) (act c e) w') : WX .sq P ops c Q (o :: rest) e B L := by
  unfold WX at *
  exact fun w hw => s_callP (hr w) hg (hc w hw) (fun v w' hv => by
    obtain ⟨B', L', h1, h2⟩ := h w hw v w' hv
    rw [hd, act_put]
    exact h2 w' h1) (fun ch w' h => hE w hw ch w' h)
theorem enterR {f : FuncId} {rest : Code} {l : List Value} {w : World} {t : TypeId} {pv : Value} {older : List PanicEntry} {id d1 d2 : Nat} {T1 T2 : TypeId} {p1 p2 : String} {a1 a2 : Array Edge} {R : World → Prop} (n : Nat)
    (hf : P.funcs[f]? = some fn) (hb : fn.body = some (.seq (.region id #[⟨some d1, .call ⟨.builtin .recover, #[], #[]⟩, T1, p1, a1, none⟩, ⟨some d2, .assign (.tmp d1), T2, p2, a2, none⟩] false) rest)) (hn : fn.ntmps = n) (hl : Nat.ble l.length n = true) (h1 : Nat.blt d1 n = true)
    (h : ∃ B L, St B L w ∧ WC P (cf n) rest (PostR P fn R) (upd (upd (ofL l) d1 (.iface t pv)) d2 (.iface t pv)) B L) :
    CallsD P f l.toArray (.panicking ({ v := .iface t pv, recovered := false } :: older)) w fun e u w' => (∃ v, e = .returned v) ∧ u = .panicking ({ v := .iface t pv, recovered := true } :: older) ∧ R w' := by
  refine callsD_of_wpS hf hb fun c₀ cs hu => ?_
  rw [hn]
  have he := enter_act l n (Nat.le_of_ble_eq_true hl)
  simp only [List.size_toArray] at he ⊢
  rw [he]
  have hsz : d1 < (act (cf n) (ofL l)).tmps.size := by simpa [act, Nat.blt_eq] using h1
  apply wpS_seq
  apply wpS_region
  simp [wpOpsS, go_sem, recoverD, hu, Exit.thenS, act_eval, Region.wanted]
  rw [if_pos hsz]
  have e1 : ({ tmps := ((act (cf n) (ofL l)).tmps.setIfInBounds d1 (.iface t pv)).setIfInBounds d2 (.iface t pv), defers := (act (cf n) (ofL l)).defers } : Act) = act (cf n) (upd (upd (ofL l) d1 (.iface t pv)) d2 (.iface t pv)) := by simp only [act, set_ofFn]
  rw [e1]
  obtain ⟨B, L, hw, h⟩ := h
  unfold WC at h
  refine wpS_of_wp (_root_.Go.wp_mono (wpIn_wide.1 (h w hw)) ?_)
  rintro x a w' ⟨hx, hd, v, hr, hR⟩
  rcases hx with rfl | rfl <;> exact ⟨hd, _, rfl, v, hr, ⟨v, rfl⟩, rfl, hR⟩
theorem enterR0 {f : FuncId} {rest : Code} {l : List Value} {w : World} {id d1 d2 : Nat} {T1 T2 : TypeId} {p1 p2 : String} {a1 a2 : Array Edge} {R : World → Prop} (n : Nat)
    (hf : P.funcs[f]? = some fn) (hb : fn.body = some (.seq (.region id #[⟨some d1, .call ⟨.builtin .recover, #[], #[]⟩, T1, p1, a1, none⟩, ⟨some d2, .assign (.tmp d1), T2, p2, a2, none⟩] false) rest)) (hn : fn.ntmps = n) (hl : Nat.ble l.length n = true) (h1 : Nat.blt d1 n = true)
    (h : ∃ B L, St B L w ∧ WC P (cf n) rest (PostR P fn R) (upd (upd (ofL l) d1 .nilIface) d2 .nilIface) B L) :
    CallsD P f l.toArray .returning w fun e u w' => (∃ v, e = .returned v) ∧ u = .returning ∧ R w' := by
  refine callsD_of_wpS hf hb fun c₀ cs hu => ?_
  rw [hn]
  have he := enter_act l n (Nat.le_of_ble_eq_true hl)
  simp only [List.size_toArray] at he ⊢
  rw [he]
  have hsz : d1 < (act (cf n) (ofL l)).tmps.size := by simpa [act, Nat.blt_eq] using h1
  apply wpS_seq
  apply wpS_region
  simp [wpOpsS, go_sem, recoverD, hu, Exit.thenS, act_eval, Region.wanted]
  rw [if_pos hsz]
  have e1 : ({ tmps := ((act (cf n) (ofL l)).tmps.setIfInBounds d1 .nilIface).setIfInBounds d2 .nilIface, defers := (act (cf n) (ofL l)).defers } : Act) = act (cf n) (upd (upd (ofL l) d1 .nilIface) d2 .nilIface) := by simp only [act, set_ofFn]
  rw [e1]
  obtain ⟨B, L, hw, h⟩ := h
  unfold WC at h
  refine wpS_of_wp (_root_.Go.wp_mono (wpIn_wide.1 (h w hw)) ?_)
  rintro x a w' ⟨hx, hd, v, hr, hR⟩
  have hc : c₀ = { c₀ with mode := .returning } := by cases c₀; simp_all
  rcases hx with rfl | rfl <;> exact ⟨hd, .returning, by rw [← hc], v, hr, ⟨v, rfl⟩, rfl, hR⟩
end
section
variable {P : Program} {ops : Array Oper} {Q : Exit → Act → World → Prop} {c : Cf} {e : Env} {B : Base} {L : Heap} {fuel : Nat} {S : World → Prop} {listed : Array Bool} {v : Value} {rest : List Oper}
theorem o_storeW {i : Nat} {t T ty : TypeId} {x y : Operand} {p : String} {a : Array Edge} {b k : Nat} {cs : List Value} (vs : List Value) {ag : Bool} (j : Nat) (hi : ops[i]? = some ⟨none, .store t x y, ty, p, a, none⟩) (hj : L[j]? = some (b, cel cs T)) (hz : szB P t k ag = true) (hx : ev c.n e x = pX b) (hy : ev c.n e y = v)
    (hv : v.cells = vs.toArray) (hl : vs.length = k) (h1 : vs.all Value.oneCell' = true) (hcs : cs.length = k)
    (h : WH P ops c Q S fuel (listed.setIfInBounds i true) e B (L.set j (b, cel vs T))) : WO P ops c Q S fuel listed i e B L :=
  zJ j hi hj hz hx hy hv hl h1 (by rw [Nat.ble_eq]; omega) (by rw [List.take_zero, List.nil_append, List.drop_of_length_le (by omega), List.append_nil]) h
end
def taB (P : Program) (t : TypeId) : Bool := match P.underlying t with
  | some (.interface _) => false
  | some _ => true
  | none => false
section
variable {P : Program} {ρ : Operand → Value} {w : World} {D : Option Tmp} {ty t yt ti tp : TypeId} {pos : String} {aft : Array Edge} {g : Option (Nat × Bool)} {x y : Operand} {v : Value}
theorem R_ta (hu : taB P t = true) (hx : ρ x = .iface t v) : Run P ⟨D, .typeAssert x yt t false, ty, pos, aft, g⟩ ρ w v w := by
  unfold taB at hu
  cases h : P.underlying t with
  | none => rw [h] at hu; cases hu
  | some u => cases u <;> first | (rw [h] at hu; cases hu; done) | simp [Run, execOp, hx, Instr.typeAssert, run_underlying h, go_sem]
theorem r_rec {fn : Func} {n : Nat} {e : Env} {B : Base} {L : Heap} {R : World → Prop} {x : Exit} (hx : x = .ret ∨ x = .normal) (hr : fn.results = #[]) (h : ∀ w, St B L w → R w) : WK (cf n) (PostR P fn R) x e B L := by
  unfold WK
  exact fun w hw => ⟨hx, rfl, _, results_none hr _ _ _, h w hw⟩
end
section
variable {P : Program} {w : World}
theorem invoke_cl {f : FuncId} {fn : Func} {c : Code} {ca : List Value} (hf : P.funcs[f]? = some fn) (hb : fn.body = some c) (hn : (fn.name == "runtime.NumGoroutine") = false) : (invoke (.fn (.func f) ca.toArray) #[]).run P w = .ok (.enter f ca.toArray) w := by
  have hn' : ¬ fn.name = "runtime.NumGoroutine" := by intro h; rw [h] at hn; exact absurd hn (by decide)
  simp [invoke, callFunc, hf, hb, hn', go_sem]
end
end Go.Sx
end
namespace Go.Proofs.YtikdkendinnalaaGreatDoor
open Go.Sx
theorem mixed : Tryz.prog.follows .mixedOrders = true := by kernel_rfl
theorem fa27_0 : faB Tryz.prog 27 0 0 = true := by kernel_rfl
theorem fa33_0 : faB Tryz.prog 33 0 0 = true := by kernel_rfl
theorem fa33_1 : faB Tryz.prog 33 1 1 = true := by kernel_rfl
theorem fa33_2 : faB Tryz.prog 33 2 2 = true := by kernel_rfl
theorem fa33_3 : faB Tryz.prog 33 3 3 = true := by kernel_rfl
theorem fa33_4 : faB Tryz.prog 33 4 4 = true := by kernel_rfl
theorem sl24 : slB Tryz.prog 24 5 = true := by kernel_rfl
theorem sl31 : slB Tryz.prog 31 3 = true := by kernel_rfl
theorem st9 : strB Tryz.prog 9 = true := by kernel_rfl
theorem unb4 : Tryz.prog.underlying 4 = some .bool := by kernel_rfl
theorem z25 : szB Tryz.prog 25 1 false = true := by kernel_rfl
theorem z27 : szB Tryz.prog 27 2 true = true := by kernel_rfl
theorem z3 : szB Tryz.prog 3 1 false = true := by kernel_rfl
theorem z31 : szB Tryz.prog 31 1 false = true := by kernel_rfl
theorem z33 : szB Tryz.prog 33 5 true = true := by kernel_rfl
theorem z4 : szB Tryz.prog 4 1 false = true := by kernel_rfl
theorem z46 : szB Tryz.prog 46 3 true = true := by kernel_rfl
theorem z9 : szB Tryz.prog 9 1 false = true := by kernel_rfl
theorem zr27 : zeroB Tryz.prog 27 (.agg #[(.int .i64 0), (.int .i64 0)]) := by unfold zeroB; kernel_rfl
theorem zr33 : zeroB Tryz.prog 33 (.agg #[(str []), (.int .i64 0), (.bool false), (.bool false), (.slice none 0 0)]) := by unfold zeroB; kernel_rfl
theorem fa46_1 : faB Tryz.prog 46 1 2 = true := by kernel_rfl
theorem fd46_0 : fdB Tryz.prog 46 0 44 0 = true := by kernel_rfl
theorem sl42 : slB Tryz.prog 42 1 = true := by kernel_rfl
theorem z42 : szB Tryz.prog 42 1 false = true := by kernel_rfl
theorem z44 : szB Tryz.prog 44 2 true = true := by kernel_rfl
theorem z75 : szB Tryz.prog 75 1 false = true := by kernel_rfl
theorem zr46 : zeroB Tryz.prog 46 (.agg #[(.bool false), (.slice none 0 0), (.slice none 0 0)]) := by unfold zeroB; kernel_rfl
theorem bt33 : buildTab Tryz.prog 33 = some ([(0, 1), (1, 1), (2, 1), (3, 1), (4, 1)], [(str []), (.int .i64 0), (.bool false), (.bool false), (.slice none 0 0)]) := by kernel_rfl
theorem fa44_1 : faB Tryz.prog 44 1 1 = true := by kernel_rfl
theorem fa46_0 : faB Tryz.prog 46 0 0 = true := by kernel_rfl
theorem slt24 : slT Tryz.prog 24 33 5 56 (.agg #[(str []), (.int .i64 0), (.bool false), (.bool false), (.slice none 0 0)]) := ⟨by kernel_rfl, by kernel_rfl, by kernel_rfl⟩
theorem slt31 : slT Tryz.prog 31 46 3 56 (.agg #[(.bool false), (.slice none 0 0), (.slice none 0 0)]) := ⟨by kernel_rfl, by kernel_rfl, by kernel_rfl⟩
theorem un3 : Tryz.prog.underlying 3 = some (.int .i64) := by kernel_rfl
theorem un5 : Tryz.prog.underlying 5 = some (.int .u8) := by kernel_rfl
theorem bt44 : buildTab Tryz.prog 44 = some ([(0, 1), (1, 1)], [(.bool false), (.slice none 0 0)]) := by kernel_rfl
theorem bt46 : buildTab Tryz.prog 46 = some ([(0, 2), (2, 1)], [(.bool false), (.slice none 0 0), (.slice none 0 0)]) := by kernel_rfl
theorem fa44_0 : faB Tryz.prog 44 0 0 = true := by kernel_rfl
theorem zr44 : zeroB Tryz.prog 44 (.agg #[(.bool false), (.slice none 0 0)]) := by unfold zeroB; kernel_rfl
theorem slt42 : slT Tryz.prog 42 75 1 8 (.int .u64 0) := ⟨by kernel_rfl, by kernel_rfl, by kernel_rfl⟩
theorem un2 : Tryz.prog.underlying 2 = some (.int .i64) := by kernel_rfl
theorem un75 : Tryz.prog.underlying 75 = some (.int .u64) := by kernel_rfl
theorem slt78 : slT Tryz.prog 78 5 1 1 (.int .u8 0) := ⟨by kernel_rfl, by kernel_rfl, by kernel_rfl⟩
theorem un78 : Tryz.prog.underlying 78 = some (.slice 5) := by kernel_rfl
theorem un9 : Tryz.prog.underlying 9 = some .string := by kernel_rfl
theorem sl41 : slB Tryz.prog 41 1 = true := by kernel_rfl
theorem slt41 : slT Tryz.prog 41 75 1 8 (.int .u64 0) := ⟨by kernel_rfl, by kernel_rfl, by kernel_rfl⟩
theorem un191 : Tryz.prog.underlying 191 = some (.int .u64) := by kernel_rfl
theorem bt27 : buildTab Tryz.prog 27 = some ([(0, 1), (1, 1)], [(.int .i64 0), (.int .i64 0)]) := by kernel_rfl
theorem fl27 : flatS Tryz.prog 27 [(25, 0), (3, 1)] := ⟨by kernel_rfl, by kernel_rfl, by kernel_rfl, by kernel_rfl⟩
theorem un25 : Tryz.prog.underlying 25 = some (.int .i64) := by kernel_rfl
theorem slt81 : slT Tryz.prog 81 9 1 16 (str []) := ⟨by kernel_rfl, by kernel_rfl, by kernel_rfl⟩
theorem unk9 : Tryz.prog.underlying 9 = some .string := by kernel_rfl
theorem unm62 : Tryz.prog.underlying 62 = some (.map 9 3) := by kernel_rfl
theorem zr3 : zeroB Tryz.prog 3 (.int .i64 0) := by unfold zeroB; kernel_rfl
theorem zr80 : zeroB Tryz.prog 80 (.agg #[(.pointer none), (.slice none 0 0)]) := by unfold zeroB; kernel_rfl
theorem co5 : Tryz.prog.cellsOf 5 = 1 := by kernel_rfl
theorem fa80_0 : faB Tryz.prog 80 0 0 = true := by kernel_rfl
theorem fa80_1 : faB Tryz.prog 80 1 1 = true := by kernel_rfl
theorem ibz80 : (Tryz.prog.info? 80).map (·.size) = some (1 + 1) := by kernel_rfl
theorem isz80 : (Tryz.prog.info? 80).isSome = true := by kernel_rfl
theorem lie80 : liesAt Tryz.prog Tryz.prog.depth 80 (2 / Tryz.prog.cellsOf 80) 0 80 1 = true := by kernel_rfl
theorem sl78 : slB Tryz.prog 78 1 = true := by kernel_rfl
theorem unS9 : Tryz.prog.underlying 9 = some .string := by kernel_rfl
theorem up123 : Tryz.prog.underlying 123 = some (.pointer 5) := by kernel_rfl
theorem up161 : Tryz.prog.underlying 161 = some .unsafePointer := by kernel_rfl
theorem up77 : Tryz.prog.underlying 77 = some (.pointer 80) := by kernel_rfl
theorem z77 : szB Tryz.prog 77 1 false = true := by kernel_rfl
theorem z78 : szB Tryz.prog 78 1 false = true := by kernel_rfl
theorem bt61 : buildTab Tryz.prog 61 = some ([(0, 1), (1, 1), (2, 2)], [(.slice none 0 0), (.int .i64 0), (.int .i64 0), (.int .i64 0)]) := by kernel_rfl
theorem fa61_0 : faB Tryz.prog 61 0 0 = true := by kernel_rfl
theorem fa61_2 : faB Tryz.prog 61 2 2 = true := by kernel_rfl
theorem fa64_0 : faB Tryz.prog 64 0 0 = true := by kernel_rfl
theorem fa64_1 : faB Tryz.prog 64 1 1 = true := by kernel_rfl
theorem fa64_2 : faB Tryz.prog 64 2 2 = true := by kernel_rfl
theorem sl59 : slB Tryz.prog 59 3 = true := by kernel_rfl
theorem z5 : szB Tryz.prog 5 1 false = true := by kernel_rfl
theorem z59 : szB Tryz.prog 59 1 false = true := by kernel_rfl
theorem z64 : szB Tryz.prog 64 3 true = true := by kernel_rfl
theorem zr64 : zeroB Tryz.prog 64 (.agg #[(.int .u8 0), (str []), (.int .i64 0)]) := by unfold zeroB; kernel_rfl
theorem bt64 : buildTab Tryz.prog 64 = some ([(0, 1), (1, 1), (2, 1)], [(.int .u8 0), (str []), (.int .i64 0)]) := by kernel_rfl
theorem fa61_1 : faB Tryz.prog 61 1 1 = true := by kernel_rfl
theorem fd64_2 : fdB Tryz.prog 64 2 3 2 = true := by kernel_rfl
theorem bt178 : buildTab Tryz.prog 178 = some ([(0, 1), (1, 1)], [(str []), (.int .i64 0)]) := by kernel_rfl
theorem bt180 : buildTab Tryz.prog 180 = some ([(0, 1)], [(.pointer none)]) := by kernel_rfl
theorem cn25 : Tryz.prog.concrete 25 = true := by kernel_rfl
theorem slt133 : slT Tryz.prog 133 44 2 32 (.agg #[(.bool false), (.slice none 0 0)]) := ⟨by kernel_rfl, by kernel_rfl, by kernel_rfl⟩
theorem fa178_0 : faB Tryz.prog 178 0 0 = true := by kernel_rfl
theorem fa178_1 : faB Tryz.prog 178 1 1 = true := by kernel_rfl
theorem fa180_0 : faB Tryz.prog 180 0 0 = true := by kernel_rfl
theorem uni87 : Tryz.prog.underlying 87 = some (.interface #[("Error", 90)]) := by kernel_rfl
theorem z176 : szB Tryz.prog 176 1 false = true := by kernel_rfl
theorem z180 : szB Tryz.prog 180 1 true = true := by kernel_rfl
theorem tab25 : taB Tryz.prog 25 = true := by kernel_rfl
theorem uni20 : Tryz.prog.underlying 20 = some (.interface #[]) := by kernel_rfl
theorem zr25 : zeroB Tryz.prog 25 (.int .i64 0) := by unfold zeroB; kernel_rfl
theorem sl133 : slB Tryz.prog 133 2 = true := by kernel_rfl
theorem fd120_0 : fdB Tryz.prog 120 0 118 0 = true := by kernel_rfl
theorem slt169 : slT Tryz.prog 169 42 1 24 (.slice none 0 0) := ⟨by kernel_rfl, by kernel_rfl, by kernel_rfl⟩
theorem z118 : szB Tryz.prog 118 1 true = true := by kernel_rfl
theorem fa118_0 : faB Tryz.prog 118 0 0 = true := by kernel_rfl
theorem fa120_0 : faB Tryz.prog 120 0 0 = true := by kernel_rfl
theorem fa120_1 : faB Tryz.prog 120 1 1 = true := by kernel_rfl
theorem fd120_1 : fdB Tryz.prog 120 1 4 1 = true := by kernel_rfl
theorem z120 : szB Tryz.prog 120 2 true = true := by kernel_rfl
theorem zr120 : zeroB Tryz.prog 120 (.agg #[(.slice none 0 0), (.bool false)]) := by unfold zeroB; kernel_rfl
theorem bt118 : buildTab Tryz.prog 118 = some ([(0, 1)], [(.slice none 0 0)]) := by kernel_rfl
theorem bt120 : buildTab Tryz.prog 120 = some ([(0, 1), (1, 1)], [(.slice none 0 0), (.bool false)]) := by kernel_rfl
theorem ar139 : arB Tryz.prog 139 2 1 false = true := by kernel_rfl
theorem z139 : szB Tryz.prog 139 2 true = true := by kernel_rfl
theorem z163 : szB Tryz.prog 163 1 false = true := by kernel_rfl
theorem zr139 : zeroB Tryz.prog 139 (.agg #[(.int .u64 0), (.int .u64 0)]) := by unfold zeroB; kernel_rfl
theorem zr163 : zeroB Tryz.prog 163 .nilFunc := by unfold zeroB; kernel_rfl
theorem zr42 : zeroB Tryz.prog 42 (.slice none 0 0) := by unfold zeroB; kernel_rfl
theorem zr75 : zeroB Tryz.prog 75 (.int .u64 0) := by unfold zeroB; kernel_rfl
theorem sl169 : slB Tryz.prog 169 1 = true := by kernel_rfl
theorem un42 : Tryz.prog.underlying 42 = some (.slice 75) := by kernel_rfl
theorem fa105_0 : faB Tryz.prog 105 0 0 = true := by kernel_rfl
theorem fa105_1 : faB Tryz.prog 105 1 1 = true := by kernel_rfl
theorem sl81 : slB Tryz.prog 81 1 = true := by kernel_rfl
theorem sl55 : slB Tryz.prog 55 3 = true := by kernel_rfl
theorem slt55 : slT Tryz.prog 55 64 3 32 (.agg #[(.int .u8 0), (str []), (.int .i64 0)]) := ⟨by kernel_rfl, by kernel_rfl, by kernel_rfl⟩
theorem bt105 : buildTab Tryz.prog 105 = some ([(0, 1), (1, 1)], [(str []), (.int .i64 0)]) := by kernel_rfl
theorem z55 : szB Tryz.prog 55 1 false = true := by kernel_rfl
theorem zr55 : zeroB Tryz.prog 55 (.slice none 0 0) := by unfold zeroB; kernel_rfl
theorem ar147 : arB Tryz.prog 147 3 1 false = true := by kernel_rfl
theorem z103 : szB Tryz.prog 103 1 false = true := by kernel_rfl
theorem z147 : szB Tryz.prog 147 3 true = true := by kernel_rfl
theorem zr147 : zeroB Tryz.prog 147 (.agg #[.nilFunc, .nilFunc, .nilFunc]) := by unfold zeroB; kernel_rfl
end Go.Proofs.YtikdkendinnalaaGreatDoor
section
namespace Go.Proofs
open Go.Shelf
def Tryz.lays134_ren : Go.Shelf.Ren := ⟨fun | 134 => 160 | 129 => 183 | n => n, fun | 53 => 75 | 3 => 3 | 4 => 4 | 46 => 191 | 5 => 5 | 9 => 9 | n => n, fun | n => n⟩
theorem Tryz.lays134 : Go.Proofs.Lays.n134 Tryz.prog Tryz.lays134_ren := {
  mixed := by kernel_rfl
  f129 := Tryz.func183.trans (congrArg some (by kernel_rfl))
  f134 := Tryz.func160.trans (congrArg some (by kernel_rfl))
  t3 := Tryz.underlying3
  a3 := Tryz.isAgg3
  z3 := Tryz.sizeOf3
  v3 := Tryz.zeroValue3
  t4 := Tryz.underlying4
  a4 := Tryz.isAgg4
  z4 := Tryz.sizeOf4
  v4 := Tryz.zeroValue4
  t5 := Tryz.underlying5
  a5 := Tryz.isAgg5
  z5 := Tryz.sizeOf5
  v5 := Tryz.zeroValue5
  t9 := Tryz.underlying9
  a9 := Tryz.isAgg9
  z9 := Tryz.sizeOf9
  v9 := Tryz.zeroValue9
  t46 := Tryz.underlying191
  a46 := Tryz.isAgg191
  z46 := Tryz.sizeOf191
  v46 := Tryz.zeroValue191
  t53 := Tryz.underlying75
  a53 := Tryz.isAgg75
  z53 := Tryz.sizeOf75
  v53 := Tryz.zeroValue75 }
theorem Tryz.bits_LeadingZeros64 (x : Int) (w : World) (h0 : 0 ≤ x) (h1 : x ≤ 18446744073709551615) :
    Calls Tryz.prog 160 #[.int .u64 x] w fun e w' => e = .returned (.int .i64 (64 - (Lib.bitLen x.toNat : Int))) ∧ w' = w := Any.bits_LeadingZeros64 Tryz.lays134 x w h0 h1
def Tryz.lays137_ren : Go.Shelf.Ren := ⟨fun | 137 => 141 | 217 => 164 | 266 => 185 | n => n, fun | 9 => 9 | 5 => 5 | 3 => 3 | n => n, fun | n => n⟩
theorem Tryz.lays137 : Go.Proofs.Lays.n137 Tryz.prog Tryz.lays137_ren := {
  mixed := by kernel_rfl
  f137 := Tryz.func141.trans (congrArg some (by kernel_rfl))
  f217 := Tryz.func164.trans (congrArg some (by kernel_rfl))
  f266 := Tryz.func185.trans (congrArg some (by kernel_rfl))
  t3 := Tryz.underlying3
  a3 := Tryz.isAgg3
  z3 := Tryz.sizeOf3
  v3 := Tryz.zeroValue3
  t5 := Tryz.underlying5
  a5 := Tryz.isAgg5
  z5 := Tryz.sizeOf5
  v5 := Tryz.zeroValue5
  t9 := Tryz.underlying9
  a9 := Tryz.isAgg9
  z9 := Tryz.sizeOf9
  v9 := Tryz.zeroValue9 }
open Go.RowKit in
theorem Tryz.strings_IndexByte (s : ByteArray) (c : Int) (w : World) :
    Calls Tryz.prog 141 #[.string s, .int .u8 c] w fun e w' => e = .returned (.int .i64 (Lib.indexByte s.data.toList c.toNat.toUInt8)) ∧ w' = w := Any.strings_IndexByte Tryz.lays137 s c w
def Tryz.lays103_ren : Go.Shelf.Ren := ⟨fun | 103 => 171 | 210 => 189 | 206 => 163 | n => n, fun | 9 => 9 | 4 => 4 | 24 => 199 | 3 => 3 | n => n, fun | n => n⟩
theorem Tryz.lays103 : Go.Proofs.Lays.n103 Tryz.prog Tryz.lays103_ren := {
  mixed := by kernel_rfl
  f103 := Tryz.func171.trans (congrArg some (by kernel_rfl))
  f206 := Tryz.func163.trans (congrArg some (by kernel_rfl))
  f210 := Tryz.func189.trans (congrArg some (by kernel_rfl))
  t3 := Tryz.underlying3
  a3 := Tryz.isAgg3
  z3 := Tryz.sizeOf3
  v3 := Tryz.zeroValue3
  t4 := Tryz.underlying4
  a4 := Tryz.isAgg4
  z4 := Tryz.sizeOf4
  v4 := Tryz.zeroValue4
  t9 := Tryz.underlying9
  a9 := Tryz.isAgg9
  z9 := Tryz.sizeOf9
  v9 := Tryz.zeroValue9
  t24 := Tryz.underlying199
  a24 := Tryz.isAgg199
  z24 := Tryz.sizeOf199
  v24 := Tryz.zeroValue199 }
open Go.RowKit in
theorem Tryz.strings_CutPrefix (s p : ByteArray) (w : World) :
    Calls Tryz.prog 171 #[.string s, .string p] w fun e w' => e = .returned (.tuple #[.string ⟨(Lib.trimPrefix s.data.toList p.data.toList).toArray⟩, .bool (Lib.hasPrefix s.data.toList p.data.toList)]) ∧ w' = w := Any.strings_CutPrefix Tryz.lays103 s p w
def Tryz.lays172_ren : Go.Shelf.Ren := ⟨fun | 172 => 170 | 244 => 187 | 245 => 188 | 247 => 197 | 279 => 198 | 280 => 199 | 281 => 200 | 282 => 201 | 287 => 203 | 316 => 204 | 171 => 206 | 205 => 205 | 321 => 207 | 322 => 208 | 243 => 209 | 246 => 210 | 283 => 211 | 284 => 212 | 285 => 213 | 286 => 214 | 129 => 183 | 317 => 215 | 318 => 216 | 319 => 217 | 320 => 218 | 337 => 219 | 338 => 220 | n => n, fun | 9 => 9 | 3 => 3 | 75 => 87 | 76 => 88 | 4 => 4 | 5 => 5 | 167 => 235 | 37 => 78 | 0 => 0 | 85 => 236 | 2 => 2 | 168 => 238 | 53 => 75 | 175 => 244 | 46 => 191 | 210 => 248 | 127 => 123 | 145 => 254 | 143 => 252 | 21 => 21 | 171 => 256 | 173 => 258 | 212 => 261 | 51 => 216 | 20 => 20 | 213 => 262 | 232 => 265 | 233 => 266 | 80 => 90 | n => n, fun | 15 => 5 | 16 => 6 | 17 => 7 | 18 => 8 | 19 => 9 | n => n⟩
open Go.RowKit in
def Tryz.lays129_ren : Go.Shelf.Ren := ⟨fun | 129 => 183 | n => n, fun | 53 => 75 | 3 => 3 | 4 => 4 | 46 => 191 | 5 => 5 | 9 => 9 | n => n, fun | n => n⟩
theorem Tryz.lays129 : Go.Proofs.Lays.n129 Tryz.prog Tryz.lays129_ren := {
  mixed := by kernel_rfl
  f129 := Tryz.func183.trans (congrArg some (by kernel_rfl))
  t3 := Tryz.underlying3
  a3 := Tryz.isAgg3
  z3 := Tryz.sizeOf3
  v3 := Tryz.zeroValue3
  t4 := Tryz.underlying4
  a4 := Tryz.isAgg4
  z4 := Tryz.sizeOf4
  v4 := Tryz.zeroValue4
  t5 := Tryz.underlying5
  a5 := Tryz.isAgg5
  z5 := Tryz.sizeOf5
  v5 := Tryz.zeroValue5
  t9 := Tryz.underlying9
  a9 := Tryz.isAgg9
  z9 := Tryz.sizeOf9
  v9 := Tryz.zeroValue9
  t46 := Tryz.underlying191
  a46 := Tryz.isAgg191
  z46 := Tryz.sizeOf191
  v46 := Tryz.zeroValue191
  t53 := Tryz.underlying75
  a53 := Tryz.isAgg75
  z53 := Tryz.sizeOf75
  v53 := Tryz.zeroValue75 }
theorem Tryz.bits_Len64 (x : Int) (w : World) (h0 : 0 ≤ x) (h1 : x ≤ 18446744073709551615) :
    Calls Tryz.prog 183 #[.int .u64 x] w fun e w' => e = .returned (.int .i64 (Lib.bitLen x.toNat)) ∧ w' = w := Any.bits_Len64 Tryz.lays129 x w h0 h1
def Tryz.laysM171_ren : Go.Shelf.Ren := ⟨fun | 171 => 206 | 243 => 209 | 246 => 210 | 283 => 211 | 284 => 212 | 285 => 213 | 286 => 214 | 129 => 183 | 317 => 215 | 318 => 216 | 319 => 217 | 320 => 218 | 337 => 219 | 338 => 220 | n => n, fun | 3 => 3 | 9 => 9 | 2 => 2 | 4 => 4 | 171 => 256 | 0 => 0 | 53 => 75 | 37 => 78 | 5 => 5 | 173 => 258 | 212 => 261 | 51 => 216 | 20 => 20 | 213 => 262 | 46 => 191 | 232 => 265 | 233 => 266 | n => n, fun | 17 => 7 | 18 => 8 | 19 => 9 | n => n⟩
open Go.RowKit Go.Sort Go.Lib in
def Tryz.lays171_ren : Go.Shelf.Ren := ⟨fun | 171 => 206 | 243 => 209 | 246 => 210 | 283 => 211 | 284 => 212 | 285 => 213 | 286 => 214 | 129 => 183 | 317 => 215 | 318 => 216 | 319 => 217 | 320 => 218 | 337 => 219 | 338 => 220 | n => n, fun | 3 => 3 | 9 => 9 | 2 => 2 | 4 => 4 | 171 => 256 | 0 => 0 | 53 => 75 | 37 => 78 | 5 => 5 | 173 => 258 | 212 => 261 | 51 => 216 | 20 => 20 | 213 => 262 | 46 => 191 | 232 => 265 | 233 => 266 | n => n, fun | 17 => 7 | 18 => 8 | 19 => 9 | n => n⟩
open Go.RowKit Go.Sort Go.Lib in
def Tryz.laysC172_ren : Go.Shelf.Ren := ⟨fun | 172 => 170 | 244 => 187 | 245 => 188 | 247 => 197 | 279 => 198 | 280 => 199 | 281 => 200 | 282 => 201 | 287 => 203 | 316 => 204 | 171 => 206 | 205 => 205 | 321 => 207 | 322 => 208 | 243 => 209 | 246 => 210 | 283 => 211 | 284 => 212 | 285 => 213 | 286 => 214 | 129 => 183 | 317 => 215 | 318 => 216 | 319 => 217 | 320 => 218 | 337 => 219 | 338 => 220 | n => n, fun | 9 => 9 | 3 => 3 | 75 => 87 | 76 => 88 | 4 => 4 | 5 => 5 | 167 => 235 | 37 => 78 | 0 => 0 | 85 => 236 | 2 => 2 | 168 => 238 | 53 => 75 | 175 => 244 | 46 => 191 | 210 => 248 | 127 => 123 | 145 => 254 | 143 => 252 | 21 => 21 | 171 => 256 | 173 => 258 | 212 => 261 | 51 => 216 | 20 => 20 | 213 => 262 | 232 => 265 | 233 => 266 | 80 => 90 | n => n, fun | 15 => 5 | 16 => 6 | 17 => 7 | 18 => 8 | 19 => 9 | n => n⟩
theorem Tryz.laysC172 : Go.Proofs.LaysC.n172 Tryz.prog Tryz.laysC172_ren := {
  mixed := by kernel_rfl
  f129 := Tryz.func183.trans (congrArg some (by kernel_rfl))
  f171 := Tryz.func206.trans (congrArg some (by kernel_rfl))
  f172 := Tryz.func170.trans (congrArg some (by kernel_rfl))
  f205 := Tryz.func205.trans (congrArg some (by kernel_rfl))
  f243 := Tryz.func209.trans (congrArg some (by kernel_rfl))
  f244 := Tryz.func187.trans (congrArg some (by kernel_rfl))
  f245 := Tryz.func188.trans (congrArg some (by kernel_rfl))
  f246 := Tryz.func210.trans (congrArg some (by kernel_rfl))
  f247 := Tryz.func197.trans (congrArg some (by kernel_rfl))
  f279 := Tryz.func198.trans (congrArg some (by kernel_rfl))
  f280 := Tryz.func199.trans (congrArg some (by kernel_rfl))
  f281 := Tryz.func200.trans (congrArg some (by kernel_rfl))
  f282 := Tryz.func201.trans (congrArg some (by kernel_rfl))
  f283 := Tryz.func211.trans (congrArg some (by kernel_rfl))
  f284 := Tryz.func212.trans (congrArg some (by kernel_rfl))
  f285 := Tryz.func213.trans (congrArg some (by kernel_rfl))
  f286 := Tryz.func214.trans (congrArg some (by kernel_rfl))
  f287 := Tryz.func203.trans (congrArg some (by kernel_rfl))
  f316 := Tryz.func204.trans (congrArg some (by kernel_rfl))
  f317 := Tryz.func215.trans (congrArg some (by kernel_rfl))
  f318 := Tryz.func216.trans (congrArg some (by kernel_rfl))
  f319 := Tryz.func217.trans (congrArg some (by kernel_rfl))
  f320 := Tryz.func218.trans (congrArg some (by kernel_rfl))
  f321 := Tryz.func207.trans (congrArg some (by kernel_rfl))
  f322 := Tryz.func208.trans (congrArg some (by kernel_rfl))
  f337 := Tryz.func219.trans (congrArg some (by kernel_rfl))
  f338 := Tryz.func220.trans (congrArg some (by kernel_rfl))
  t0 := Tryz.underlying0
  a0 := Tryz.isAgg0
  z0 := Tryz.sizeOf0
  v0 := Tryz.zeroValue0
  t2 := Tryz.underlying2
  a2 := Tryz.isAgg2
  z2 := Tryz.sizeOf2
  v2 := Tryz.zeroValue2
  t3 := Tryz.underlying3
  a3 := Tryz.isAgg3
  z3 := Tryz.sizeOf3
  v3 := Tryz.zeroValue3
  t4 := Tryz.underlying4
  a4 := Tryz.isAgg4
  z4 := Tryz.sizeOf4
  v4 := Tryz.zeroValue4
  t5 := Tryz.underlying5
  a5 := Tryz.isAgg5
  z5 := Tryz.sizeOf5
  v5 := Tryz.zeroValue5
  t9 := Tryz.underlying9
  a9 := Tryz.isAgg9
  z9 := Tryz.sizeOf9
  v9 := Tryz.zeroValue9
  t20 := Tryz.underlying20
  a20 := Tryz.isAgg20
  z20 := Tryz.sizeOf20
  v20 := Tryz.zeroValue20
  t21 := Tryz.underlying21
  a21 := Tryz.isAgg21
  z21 := Tryz.sizeOf21
  v21 := Tryz.zeroValue21
  t37 := Tryz.underlying78
  a37 := Tryz.isAgg78
  z37 := Tryz.sizeOf78
  v37 := Tryz.zeroValue78
  t46 := Tryz.underlying191
  a46 := Tryz.isAgg191
  z46 := Tryz.sizeOf191
  v46 := Tryz.zeroValue191
  t51 := Tryz.underlying216
  a51 := Tryz.isAgg216
  z51 := Tryz.sizeOf216
  v51 := Tryz.zeroValue216
  t53 := Tryz.underlying75
  a53 := Tryz.isAgg75
  z53 := Tryz.sizeOf75
  v53 := Tryz.zeroValue75
  t75 := Tryz.underlying87
  a75 := Tryz.isAgg87
  z75 := Tryz.sizeOf87
  v75 := Tryz.zeroValue87
  t76 := Tryz.underlying88
  a76 := Tryz.isAgg88
  z76 := Tryz.sizeOf88
  v76 := Tryz.zeroValue88
  t85 := Tryz.underlying236
  a85 := Tryz.isAgg236
  z85 := Tryz.sizeOf236
  v85 := Tryz.zeroValue236
  t127 := Tryz.underlying123
  a127 := Tryz.isAgg123
  z127 := Tryz.sizeOf123
  v127 := Tryz.zeroValue123
  t143 := Tryz.underlying252
  a143 := Tryz.isAgg252
  z143 := Tryz.sizeOf252
  v143 := Tryz.zeroValue252
  t145 := Tryz.underlying254
  a145 := Tryz.isAgg254
  z145 := Tryz.sizeOf254
  v145 := Tryz.zeroValue254
  t167 := Tryz.underlying235
  a167 := Tryz.isAgg235
  z167 := Tryz.sizeOf235
  v167 := Tryz.zeroValue235
  t168 := Tryz.underlying238
  a168 := Tryz.isAgg238
  z168 := Tryz.sizeOf238
  v168 := Tryz.zeroValue238
  t171 := Tryz.underlying256
  a171 := Tryz.isAgg256
  z171 := Tryz.sizeOf256
  v171 := Tryz.zeroValue256
  t173 := Tryz.underlying258
  a173 := Tryz.isAgg258
  z173 := Tryz.sizeOf258
  v173 := Tryz.zeroValue258
  t175 := Tryz.underlying244
  a175 := Tryz.isAgg244
  z175 := Tryz.sizeOf244
  v175 := Tryz.zeroValue244
  t210 := Tryz.underlying248
  a210 := Tryz.isAgg248
  z210 := Tryz.sizeOf248
  v210 := Tryz.zeroValue248
  t212 := Tryz.underlying261
  a212 := Tryz.isAgg261
  z212 := Tryz.sizeOf261
  v212 := Tryz.zeroValue261
  t213 := Tryz.underlying262
  a213 := Tryz.isAgg262
  z213 := Tryz.sizeOf262
  t232 := Tryz.underlying265
  a232 := Tryz.isAgg265
  z232 := Tryz.sizeOf265
  v232 := Tryz.zeroValue265
  t233 := Tryz.underlying266
  a233 := Tryz.isAgg266
  z233 := Tryz.sizeOf266
  v233 := Tryz.zeroValue266
  g15 := by kernel_rfl
  g16 := by kernel_rfl
  g17 := by kernel_rfl
  g18 := by kernel_rfl
  g19 := by kernel_rfl
  t80 := Tryz.underlying90
  a80 := Tryz.isAgg90
  z80 := Tryz.sizeOf90
  v80 := Tryz.zeroValue90
  i0 := by kernel_rfl
  i2 := by kernel_rfl
  i3 := by kernel_rfl
  i4 := by kernel_rfl
  i5 := by kernel_rfl
  i9 := by kernel_rfl
  i20 := by kernel_rfl
  i21 := by kernel_rfl
  i37 := by kernel_rfl
  i46 := by kernel_rfl
  i51 := by kernel_rfl
  i53 := by kernel_rfl
  i75 := by kernel_rfl
  i76 := by kernel_rfl
  i80 := by kernel_rfl
  i85 := by kernel_rfl
  i127 := by kernel_rfl
  i143 := by kernel_rfl
  i145 := by kernel_rfl
  i167 := by kernel_rfl
  i168 := by kernel_rfl
  i171 := by kernel_rfl
  i173 := by kernel_rfl
  i175 := by kernel_rfl
  i210 := by kernel_rfl
  i212 := by kernel_rfl
  i232 := by kernel_rfl
  i233 := by kernel_rfl
  m15 := by kernel_rfl
  m16 := by kernel_rfl
  m17 := by kernel_rfl
  m18 := by kernel_rfl
  m19 := by kernel_rfl
  c0 := by kernel_rfl
  c2 := by kernel_rfl
  c3 := by kernel_rfl
  c4 := by kernel_rfl
  c5 := by kernel_rfl
  c9 := by kernel_rfl
  c20 := by kernel_rfl
  c21 := by kernel_rfl
  c37 := by kernel_rfl
  c46 := by kernel_rfl
  c51 := by kernel_rfl
  c53 := by kernel_rfl
  c75 := by kernel_rfl
  c76 := by kernel_rfl
  c80 := by kernel_rfl
  c85 := by kernel_rfl
  c127 := by kernel_rfl
  c143 := by kernel_rfl
  c145 := by kernel_rfl
  c167 := by kernel_rfl
  c168 := by kernel_rfl
  c171 := by kernel_rfl
  c173 := by kernel_rfl
  c175 := by kernel_rfl
  c210 := by kernel_rfl
  c212 := by kernel_rfl
  c213 := by kernel_rfl
  c232 := by kernel_rfl
  c233 := by kernel_rfl }
open Go.RowKit in
theorem Tryz.strconv_Atoi_ok (s : ByteArray) (hmax : s.size ≤ 9223372036854775806) (v : Int) (h : Lib.atoiAll s.data.toList = .ok v) (w : World) :
    Calls Tryz.prog 170 #[.string s] w fun e w' => e = .returned (.tuple #[.int .i64 v, .nilIface]) ∧ (w' = w ∨ ∃ t, w' = Lib.bytesWorld w 5 t) := Any.strconv_Atoi_ok Tryz.laysC172 s hmax v h w
open Go.RowKit in
open Go.RowKit in
def Tryz.lays144_ren : Go.Shelf.Ren := ⟨fun | 144 => 60 | 143 => 100 | 219 => 142 | 217 => 164 | 225 => 165 | 224 => 166 | 267 => 167 | 266 => 185 | 314 => 186 | n => n, fun | 9 => 9 | 4 => 4 | 3 => 3 | 5 => 5 | 46 => 191 | 146 => 219 | 51 => 216 | n => n, fun | 1 => 3 | n => n⟩
theorem Tryz.lays144 : Go.Proofs.Lays.n144 Tryz.prog Tryz.lays144_ren := {
  mixed := by kernel_rfl
  f143 := Tryz.func100.trans (congrArg some (by kernel_rfl))
  f144 := Tryz.func60.trans (congrArg some (by kernel_rfl))
  f217 := Tryz.func164.trans (congrArg some (by kernel_rfl))
  f219 := Tryz.func142.trans (congrArg some (by kernel_rfl))
  f224 := Tryz.func166.trans (congrArg some (by kernel_rfl))
  f225 := Tryz.func165.trans (congrArg some (by kernel_rfl))
  f266 := Tryz.func185.trans (congrArg some (by kernel_rfl))
  f267 := Tryz.func167.trans (congrArg some (by kernel_rfl))
  f314 := Tryz.func186.trans (congrArg some (by kernel_rfl))
  t3 := Tryz.underlying3
  a3 := Tryz.isAgg3
  z3 := Tryz.sizeOf3
  v3 := Tryz.zeroValue3
  t4 := Tryz.underlying4
  a4 := Tryz.isAgg4
  z4 := Tryz.sizeOf4
  v4 := Tryz.zeroValue4
  t5 := Tryz.underlying5
  a5 := Tryz.isAgg5
  z5 := Tryz.sizeOf5
  v5 := Tryz.zeroValue5
  t9 := Tryz.underlying9
  a9 := Tryz.isAgg9
  z9 := Tryz.sizeOf9
  v9 := Tryz.zeroValue9
  t46 := Tryz.underlying191
  a46 := Tryz.isAgg191
  z46 := Tryz.sizeOf191
  v46 := Tryz.zeroValue191
  t51 := Tryz.underlying216
  a51 := Tryz.isAgg216
  z51 := Tryz.sizeOf216
  v51 := Tryz.zeroValue216
  t146 := Tryz.underlying219
  a146 := Tryz.isAgg219
  z146 := Tryz.sizeOf219
  v146 := Tryz.zeroValue219
  g1 := by kernel_rfl }
open Go.RowKit Go.Lib in
theorem Tryz.strings_Contains (s sub : ByteArray) (m : Int) (w : World) (hs : s.size < 4294967281) (hm : w.cell? ⟨3, 0, none⟩ = some (.int .i64 m)) :
    Calls Tryz.prog 60 #[.string s, .string sub] w fun e w' => e = .returned (.bool (Lib.contains s.data.toList sub.data.toList)) ∧ w' = w := Any.strings_Contains Tryz.lays144 s sub m w hs hm
def Tryz.lays99_ren : Go.Shelf.Ren := ⟨fun | 99 => 140 | 206 => 163 | n => n, fun | 9 => 9 | 4 => 4 | 3 => 3 | n => n, fun | n => n⟩
theorem Tryz.lays99 : Go.Proofs.Lays.n99 Tryz.prog Tryz.lays99_ren := {
  mixed := by kernel_rfl
  f99 := Tryz.func140.trans (congrArg some (by kernel_rfl))
  f206 := Tryz.func163.trans (congrArg some (by kernel_rfl))
  t3 := Tryz.underlying3
  a3 := Tryz.isAgg3
  z3 := Tryz.sizeOf3
  v3 := Tryz.zeroValue3
  t4 := Tryz.underlying4
  a4 := Tryz.isAgg4
  z4 := Tryz.sizeOf4
  v4 := Tryz.zeroValue4
  t9 := Tryz.underlying9
  a9 := Tryz.isAgg9
  z9 := Tryz.sizeOf9
  v9 := Tryz.zeroValue9 }
open Go.RowKit Go.Lib in
theorem Tryz.strings_HasPrefix (s p : ByteArray) (w : World) :
    Calls Tryz.prog 140 #[.string s, .string p] w fun e w' => e = .returned (.bool (Lib.hasPrefix s.data.toList p.data.toList)) ∧ w' = w := Any.strings_HasPrefix Tryz.lays99 s p w
def Tryz.lays157_ren : Go.Shelf.Ren := ⟨fun | 157 => 139 | 229 => 161 | 199 => 162 | 261 => 184 | 311 => 195 | 312 => 196 | n => n, fun | 9 => 9 | 31 => 81 | 3 => 3 | 5 => 5 | 4 => 4 | 119 => 195 | 0 => 0 | 40 => 197 | 152 => 213 | 21 => 21 | 154 => 215 | 51 => 216 | 141 => 218 | 196 => 227 | 193 => 224 | 198 => 230 | 49 => 228 | 194 => 225 | 201 => 233 | 226 => 242 | 46 => 191 | 227 => 243 | n => n, fun | 0 => 2 | 6 => 4 | n => n⟩
theorem Tryz.lays157 : Go.Proofs.Lays.n157 Tryz.prog Tryz.lays157_ren := {
  mixed := by kernel_rfl
  f157 := Tryz.func139.trans (congrArg some (by kernel_rfl))
  f199 := Tryz.func162.trans (congrArg some (by kernel_rfl))
  f229 := Tryz.func161.trans (congrArg some (by kernel_rfl))
  f261 := Tryz.func184.trans (congrArg some (by kernel_rfl))
  f311 := Tryz.func195.trans (congrArg some (by kernel_rfl))
  f312 := Tryz.func196.trans (congrArg some (by kernel_rfl))
  t0 := Tryz.underlying0
  a0 := Tryz.isAgg0
  z0 := Tryz.sizeOf0
  v0 := Tryz.zeroValue0
  t3 := Tryz.underlying3
  a3 := Tryz.isAgg3
  z3 := Tryz.sizeOf3
  v3 := Tryz.zeroValue3
  t4 := Tryz.underlying4
  a4 := Tryz.isAgg4
  z4 := Tryz.sizeOf4
  v4 := Tryz.zeroValue4
  t5 := Tryz.underlying5
  a5 := Tryz.isAgg5
  z5 := Tryz.sizeOf5
  v5 := Tryz.zeroValue5
  t9 := Tryz.underlying9
  a9 := Tryz.isAgg9
  z9 := Tryz.sizeOf9
  v9 := Tryz.zeroValue9
  t21 := Tryz.underlying21
  a21 := Tryz.isAgg21
  z21 := Tryz.sizeOf21
  v21 := Tryz.zeroValue21
  t31 := Tryz.underlying81
  a31 := Tryz.isAgg81
  z31 := Tryz.sizeOf81
  v31 := Tryz.zeroValue81
  t40 := Tryz.underlying197
  a40 := Tryz.isAgg197
  z40 := Tryz.sizeOf197
  v40 := Tryz.zeroValue197
  t46 := Tryz.underlying191
  a46 := Tryz.isAgg191
  z46 := Tryz.sizeOf191
  v46 := Tryz.zeroValue191
  t49 := Tryz.underlying228
  a49 := Tryz.isAgg228
  z49 := Tryz.sizeOf228
  v49 := Tryz.zeroValue228
  t51 := Tryz.underlying216
  a51 := Tryz.isAgg216
  z51 := Tryz.sizeOf216
  v51 := Tryz.zeroValue216
  t119 := Tryz.underlying195
  a119 := Tryz.isAgg195
  z119 := Tryz.sizeOf195
  t141 := Tryz.underlying218
  a141 := Tryz.isAgg218
  z141 := Tryz.sizeOf218
  v141 := Tryz.zeroValue218
  t152 := Tryz.underlying213
  a152 := Tryz.isAgg213
  z152 := Tryz.sizeOf213
  v152 := Tryz.zeroValue213
  t154 := Tryz.underlying215
  a154 := Tryz.isAgg215
  z154 := Tryz.sizeOf215
  v154 := Tryz.zeroValue215
  t193 := Tryz.underlying224
  a193 := Tryz.isAgg224
  z193 := Tryz.sizeOf224
  v193 := Tryz.zeroValue224
  t194 := Tryz.underlying225
  a194 := Tryz.isAgg225
  z194 := Tryz.sizeOf225
  v194 := Tryz.zeroValue225
  t196 := Tryz.underlying227
  a196 := Tryz.isAgg227
  z196 := Tryz.sizeOf227
  v196 := Tryz.zeroValue227
  t198 := Tryz.underlying230
  a198 := Tryz.isAgg230
  z198 := Tryz.sizeOf230
  v198 := Tryz.zeroValue230
  t201 := Tryz.underlying233
  a201 := Tryz.isAgg233
  z201 := Tryz.sizeOf233
  v201 := Tryz.zeroValue233
  t226 := Tryz.underlying242
  a226 := Tryz.isAgg242
  z226 := Tryz.sizeOf242
  v226 := Tryz.zeroValue242
  t227 := Tryz.underlying243
  a227 := Tryz.isAgg243
  z227 := Tryz.sizeOf243
  v227 := Tryz.zeroValue243
  g0 := by kernel_rfl
  g6 := by kernel_rfl }
open Go.RowKit Go.Lib in
theorem Tryz.strings_Fields (s : ByteArray) (w : World) (hs : s.size < 4294967281) (hascii : ∀ (j : Nat) b, s.data.toList[j]? = some b → b.toNat < 128) (htab : Lib.TabIs Tryz.prog w "strings.asciiSpace" .u8 Lib.asciiSpaceTab) :
    Calls Tryz.prog 139 #[.string s] w fun e w' =>
      e = .returned (.slice (some ⟨w.heap.size, 0, none⟩) (Lib.fields s.data.toList).length (Lib.fields s.data.toList).length) ∧ w' = w.alloc (.cells ((Lib.fields s.data.toList).map fun l => Value.string ⟨l.toArray⟩).toArray 9) := Any.strings_Fields Tryz.lays157 (by kernel_rfl) (by kernel_rfl) s w hs hascii htab
def Tryz.lays150_ren : Go.Shelf.Ren := ⟨fun | 150 => 103 | 153 => 147 | 152 => 174 | 226 => 175 | 227 => 176 | 228 => 177 | 137 => 141 | 119 => 193 | 224 => 166 | 225 => 165 | 217 => 164 | 266 => 185 | n => n, fun | 9 => 9 | 4 => 4 | 3 => 3 | 5 => 5 | 21 => 21 | 117 => 207 | 116 => 206 | 0 => 0 | 46 => 191 | 124 => 223 | n => n, fun | n => n⟩
theorem Tryz.lays150 : Go.Proofs.Lays.n150 Tryz.prog Tryz.lays150_ren := {
  mixed := by kernel_rfl
  f119 := Tryz.func193.trans (congrArg some (by kernel_rfl))
  f137 := Tryz.func141.trans (congrArg some (by kernel_rfl))
  f150 := Tryz.func103.trans (congrArg some (by kernel_rfl))
  f152 := Tryz.func174.trans (congrArg some (by kernel_rfl))
  f153 := Tryz.func147.trans (congrArg some (by kernel_rfl))
  f217 := Tryz.func164.trans (congrArg some (by kernel_rfl))
  f224 := Tryz.func166.trans (congrArg some (by kernel_rfl))
  f225 := Tryz.func165.trans (congrArg some (by kernel_rfl))
  f226 := Tryz.func175.trans (congrArg some (by kernel_rfl))
  f227 := Tryz.func176.trans (congrArg some (by kernel_rfl))
  f228 := Tryz.func177.trans (congrArg some (by kernel_rfl))
  f266 := Tryz.func185.trans (congrArg some (by kernel_rfl))
  t0 := Tryz.underlying0
  a0 := Tryz.isAgg0
  z0 := Tryz.sizeOf0
  v0 := Tryz.zeroValue0
  t3 := Tryz.underlying3
  a3 := Tryz.isAgg3
  z3 := Tryz.sizeOf3
  v3 := Tryz.zeroValue3
  t4 := Tryz.underlying4
  a4 := Tryz.isAgg4
  z4 := Tryz.sizeOf4
  v4 := Tryz.zeroValue4
  t5 := Tryz.underlying5
  a5 := Tryz.isAgg5
  z5 := Tryz.sizeOf5
  v5 := Tryz.zeroValue5
  t9 := Tryz.underlying9
  a9 := Tryz.isAgg9
  z9 := Tryz.sizeOf9
  v9 := Tryz.zeroValue9
  t21 := Tryz.underlying21
  a21 := Tryz.isAgg21
  z21 := Tryz.sizeOf21
  v21 := Tryz.zeroValue21
  t46 := Tryz.underlying191
  a46 := Tryz.isAgg191
  z46 := Tryz.sizeOf191
  v46 := Tryz.zeroValue191
  t116 := Tryz.underlying206
  a116 := Tryz.isAgg206
  z116 := Tryz.sizeOf206
  t117 := Tryz.underlying207
  a117 := Tryz.isAgg207
  z117 := Tryz.sizeOf207
  v117 := Tryz.zeroValue207
  t124 := Tryz.underlying223
  a124 := Tryz.isAgg223
  z124 := Tryz.sizeOf223
  v124 := Tryz.zeroValue223 }
open Go.RowKit Go.Lib in
theorem Tryz.strings_ContainsAny_laid (s chars : ByteArray) (w : World) (hs : s.size < 4294967281) (hcs : chars.size < 4294967281) (has : ∀ (j : Nat) b, s.data.toList[j]? = some b → b.toNat < 128) (hac : ∀ (j : Nat) b, chars.data.toList[j]? = some b → b.toNat < 128) :
    Calls Tryz.prog 103 #[.string s, .string chars] w fun e w' => e = .returned (.bool (Lib.containsAny s.data.toList chars.data.toList)) ∧ Below w.heap.size w w' := Any.strings_ContainsAny_laid Tryz.lays150 (by kernel_rfl) s chars w hs hcs has hac
def Tryz.lays264_ren : Go.Shelf.Ren := ⟨fun | 264 => 157 | n => n, fun | 53 => 75 | 46 => 191 | n => n, fun | n => n⟩
theorem Tryz.lays264 : Go.Proofs.Lays.n264 Tryz.prog Tryz.lays264_ren := {
  mixed := by kernel_rfl
  f264 := Tryz.func157.trans (congrArg some (by kernel_rfl))
  t46 := Tryz.underlying191
  a46 := Tryz.isAgg191
  z46 := Tryz.sizeOf191
  v46 := Tryz.zeroValue191
  t53 := Tryz.underlying75
  a53 := Tryz.isAgg75
  z53 := Tryz.sizeOf75
  v53 := Tryz.zeroValue75 }
open Go.RowKit Go.Lib in
theorem Tryz.bits_Mul64 (x y : Nat) (hx : x < 18446744073709551616) (hy : y < 18446744073709551616) (w : World) :
    Calls Tryz.prog 157 #[.int .u64 x, .int .u64 y] w fun e w' => e = .returned (.tuple #[.int .u64 ((x * y / 18446744073709551616 : Nat) : Int), .int .u64 ((x * y % 18446744073709551616 : Nat) : Int)]) ∧ w' = w := Any.bits_Mul64 Tryz.lays264 x y hx hy w
end Go.Proofs
end
section
namespace Go.Num
theorem pow_split (n w : Nat) : 2 ^ n = (2 ^ w) ^ (n / w) * 2 ^ (n % w) := by
  rw [← Nat.pow_mul, ← Nat.pow_add, Nat.div_add_mod]
theorem shl32 (a n : Nat) : a * 2 ^ n = b32 ^ (n / 32) * (a * 2 ^ (n % 32)) := by
  rw [pow_split n 32, ← b32_two, Nat.mul_left_comm]
theorem shr64 (a n : Nat) : a / 2 ^ n = a / B ^ (n / 64) / 2 ^ (n % 64) := by
  rw [pow_split n 64, ← B_two, Nat.div_div_eq_div_mul]
theorem shr_up (a : Nat) {r : Nat} (hr : r < 64) : a * 2 ^ (64 - r) / B = a / 2 ^ r := by
  have e : B = 2 ^ r * 2 ^ (64 - r) := by rw [← Nat.pow_add, B_two]; congr 1; omega
  rw [e, Nat.mul_div_mul_right _ _ (Nat.pow_pos (by decide))]
theorem shr32 (a n k : Nat) : dg b32 (a / 2 ^ n) k = (dg b32 a (n / 32 + k) + dg b32 a (n / 32 + k + 1) * b32) / 2 ^ (n % 32) % b32 := by
  have hs : n % 32 < 32 := Nat.mod_lt _ (by decide)
  have e0 : a / 2 ^ n / b32 ^ k = a / b32 ^ (n / 32 + k) / 2 ^ (n % 32) := by
    rw [pow_split n 32, ← b32_two, Nat.div_div_eq_div_mul, Nat.div_div_eq_div_mul, Nat.pow_add]
    congr 1
    rw [Nat.mul_assoc, Nat.mul_assoc, Nat.mul_comm (2 ^ _)]
  have e1 := div_step b32 a (n / 32 + k)
  have e2 := div_step b32 a (n / 32 + k + 1)
  unfold dg at *
  rw [e0]
  generalize a / b32 ^ (n / 32 + k) = w at *
  generalize a / b32 ^ (n / 32 + k + 1) = w1 at *
  generalize a / b32 ^ (n / 32 + k + 1 + 1) = w2 at *
  generalize n % 32 = s at *
  have e3 : b32 * b32 = 2 ^ s * (b32 * 2 ^ (32 - s)) := by
    rw [Nat.mul_left_comm, ← Nat.pow_add, show s + (32 - s) = 32 by omega, ← b32_two]
  have e4 : w = (w % b32 + w1 % b32 * b32) + 2 ^ s * (b32 * 2 ^ (32 - s) * w2) := by
    rw [← Nat.mul_assoc, ← e3]
    conv => lhs; rw [e1, e2, Nat.mul_add, Nat.mul_comm b32 (w1 % b32), ← Nat.mul_assoc]
    omega
  conv => lhs; rw [e4]
  rw [Nat.add_mul_div_left _ _ (Nat.pow_pos (by decide)), Nat.mul_assoc, Nat.add_mul_mod_self_left]
theorem limb_bit (n i : Nat) : dg B n (i / 64) / 2 ^ (i % 64) % 2 = n / 2 ^ i % 2 := by
  have h1 := Nat.mod_lt i (show 0 < 64 by decide)
  have e : 2 ^ i = B ^ (i / 64) * 2 ^ (i % 64) := by rw [B_two]; exact pow_split i 64
  unfold dg
  rw [e, ← Nat.div_div_eq_div_mul]
  generalize n / B ^ (i / 64) = w
  generalize i % 64 = s at *
  have e2 : B = 2 ^ s * (2 * 2 ^ (63 - s)) := by
    rw [Nat.mul_left_comm, ← Nat.pow_add, ← Nat.pow_succ', B_two]; congr 1; omega
  rw [e2, Nat.mod_mul_right_div_self, Nat.mod_mul_right_mod]
theorem bl_down {n k : Nat} (h : bl n ≤ k + 1) (h0 : n / 2 ^ k % 2 = 0) : bl n ≤ k := by
  have h1 := bl_iff.1 h
  refine bl_iff.2 ?_
  have h2 : n / 2 ^ k < 2 := by
    refine (Nat.div_lt_iff_lt_mul (Nat.pow_pos (by decide))).2 ?_
    rw [Nat.mul_comm, ← Nat.pow_succ]; exact h1
  have h3 : n / 2 ^ k = 0 := by generalize n / 2 ^ k = q at *; omega
  rcases Nat.lt_or_ge n (2 ^ k) with h4 | h4
  · exact h4
  have := Nat.div_pos h4 (Nat.pow_pos (by decide)); omega
theorem bl_up {n k : Nat} (h : bl n ≤ k + 1) (h0 : n / 2 ^ k % 2 ≠ 0) : bl n = k + 1 := by
  rcases Nat.lt_or_ge (bl n) (k + 1) with h1 | h1
  · have h2 := bl_iff.1 (by omega : bl n ≤ k)
    rw [Nat.div_eq_of_lt h2] at h0
    exact absurd rfl h0
  omega
theorem bl_limb {n : Nat} (h : n ≠ 0) : bl n = 64 * (sz n - 1) + bl (dg B n (sz n - 1)) := by
  have hp := sz_pos h
  have ht := top_ne h
  have h1 := lt_sz n
  have h2 := div_step B n (sz n - 1)
  rw [show sz n - 1 + 1 = sz n by omega, Nat.div_eq_of_lt h1, Nat.mul_zero, Nat.add_zero] at h2
  generalize dg B n (sz n - 1) = t at *
  generalize sz n - 1 = k at *
  have h3 := Nat.mod_lt n (Bpow_pos k)
  have h4 := Nat.mod_add_div n (B ^ k)
  rw [h2] at h4
  generalize n % B ^ k = r at *
  have h5 := bl_ge ht
  have h6 := lt_bl t
  have h7 := bl_pos ht
  have e : 64 * k + bl t = (64 * k + (bl t - 1)) + 1 := by omega
  rw [e, ← h4]
  refine bl_eq ?_ ?_
  · rw [Nat.pow_add, ← B_pow]
    exact Nat.le_trans (Nat.mul_le_mul_left _ h5) (Nat.le_add_left _ _)
  rw [show 64 * k + (bl t - 1) + 1 = 64 * k + bl t by omega, Nat.pow_add, ← B_pow]
  have : B ^ k * (t + 1) ≤ B ^ k * 2 ^ bl t := Nat.mul_le_mul_left _ h6
  rw [Nat.mul_add] at this; omega
end Go.Num
end
