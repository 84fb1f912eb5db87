import Derived.Test.YtmcajoiembfjiaaDoorSx
import Derived.Laws.CopyRow
import Derived.Laws.MakeOwn
import Derived.Laws.Concat
import Derived.Laws.Strings2
import Derived.Laws.StructEq
namespace Go.Sx
open Go.RowKit
section
variable {P : Program} {ρ : Operand → Value} {w : World} {D : Option Tmp} {ty : TypeId} {pos : String} {aft : Array Edge} {g : Option (Nat × Bool)} {x y z c : Operand} {v u : Value} {t s : TypeId} {k : IntKind} {i j : Int} {yt : TypeId}

/-- type t takes k cells; is it a struct or an array? -/
def szB (P : Program) (t : TypeId) (k : Nat) (agg : Bool) : Bool :=
  match P.info? t, P.underlying t with
  | some i, some d => Nat.beq i.size k && (agg == match d with | .struct _ | .array _ _ => true | _ => false)
  | _, _ => false
/-- field f of struct s lies off cells behind its head -/
def faB (P : Program) (s : TypeId) (f off : Nat) : Bool :=
  match P.underlying s with
  | some (.struct fs) => match fs[f]? with
    | some fl => Nat.beq fl.offset off && match P.info? fl.type with | some i => !(Nat.beq i.size 0) | none => false
    | none => false
  | _ => false
/-- t is a slice of elements of k cells -/
def slB (P : Program) (t : TypeId) (k : Nat) : Bool :=
  match P.underlying t with
  | some (.slice e) => match P.info? e with | some i => Nat.beq i.size k | none => false
  | _ => false
def strB (P : Program) (t : TypeId) : Bool := match P.underlying t with | some .string => true | _ => false

theorem szB_spec {n : Nat} {b : Bool} (h : szB P t n b = true) : ∃ i d, P.info? t = some i ∧ P.underlying t = some d ∧ i.size = n ∧ (b = match d with | .struct _ | .array _ _ => true | _ => false) := by
  unfold szB at h
  split at h
  · rename_i i d h1 h2
    simp only [Bool.and_eq_true, beq_iff_eq] at h
    exact ⟨i, d, h1, h2, Nat.eq_of_beq_eq_true h.1, h.2⟩
  · cases h
theorem run_isAgg {n : Nat} {b : Bool} (h : szB P t n b = true) : (isAgg t).run P w = .ok b w := by
  obtain ⟨i, d, h1, h2, h3, h4⟩ := szB_spec h
  subst h4
  unfold isAgg
  simp only [Sem.run_bind, run_underlying h2, Result.andThen_ok]
  cases d <;> rfl
theorem run_sizeOf {n : Nat} {b : Bool} (h : szB P t n b = true) : (sizeOf t).run P w = .ok n w := by
  obtain ⟨i, d, h1, h2, h3, h4⟩ := szB_spec h
  subst h3
  simp [sizeOf, typeInfo, h1, go_sem]

theorem pure_run {α : Type} (a : α) (w : World) : (pure a : Sem α).run P w = .ok a w := rfl
theorem R_move (hx : ρ x = v) : Run P ⟨D, .move x, ty, pos, aft, g⟩ ρ w v w := by simp [Run, execOp, hx, pure]
theorem R_assign (hx : ρ x = v) : Run P ⟨D, .assign x, ty, pos, aft, g⟩ ρ w v w := by simp [Run, execOp, hx, pure]
theorem R_nil {a : Addr} (hx : ρ x = .pointer (some a)) : Run P ⟨D, .nilCheck x, ty, pos, aft, g⟩ ρ w (.pointer (some a)) w := by simp [Run, execOp, hx, pure]
theorem R_pick {b : Bool} (hc : ρ c = .bool b) : Run P ⟨D, .pick c x y, ty, pos, aft, g⟩ ρ w (if b then ρ x else ρ y) w := by simp [Run, execOp, hc, go_sem]
theorem R_pickT (hc : ρ c = .bool true) (hx : ρ x = v) : Run P ⟨D, .pick c x y, ty, pos, aft, g⟩ ρ w v w := by simp [Run, execOp, hc, hx, go_sem]
theorem R_pickF (hc : ρ c = .bool false) (hy : ρ y = v) : Run P ⟨D, .pick c x y, ty, pos, aft, g⟩ ρ w v w := by simp [Run, execOp, hc, hy, go_sem]
theorem R_extract {vs : Array Value} {ix : Nat} (hx : ρ x = .tuple vs) (hi : vs[ix]? = some v) : Run P ⟨D, .extract x ix, ty, pos, aft, g⟩ ρ w v w := by simp [Run, execOp, hx, hi, go_sem, Instr.extract]

theorem R_fa {f off o b : Nat} (hf : faB P s f off = true) (hx : ρ x = .pointer (some ⟨b, o, none⟩)) : Run P ⟨D, .fieldAddr s x f, ty, pos, aft, g⟩ ρ w (.pointer (some ⟨b, o + off, none⟩)) w := by
  unfold faB at hf
  split at hf <;> try cases hf
  rename_i fs hs
  split at hf <;> try cases hf
  rename_i fl hfl
  simp only [Bool.and_eq_true] at hf
  obtain ⟨h1, h2⟩ := hf
  replace h1 := Nat.eq_of_beq_eq_true h1
  split at h2 <;> try cases h2
  rename_i i hi
  have h3 : i.size ≠ 0 := by intro h; rw [h] at h2; cases h2
  simp [Run, execOp, hx, go_sem, run_underlying hs, hfl, Instr.fieldAt, fieldPlace, hi, h3, sizeOf, typeInfo, h1]

theorem R_ld1 {a : Addr} (hz : szB P t 1 false = true) (hx : ρ x = .pointer (some a)) (hc : w.cell? a = some v) : Run P ⟨D, .load t x, ty, pos, aft, g⟩ ρ w v w := by
  simp [Run, execOp, hx, Instr.loadAt, Instr.sureAddr, loadVar, run_isAgg hz, hc, go_sem]

theorem R_ldA {b o n : Nat} {l : List Value} (hz : szB P t n true = true) (hx : ρ x = .pointer (some ⟨b, o, none⟩)) (hl : l.length = n) (hc : ∀ j v, l[j]? = some v → w.cell? ⟨b, o + j, none⟩ = some v) :
    Run P ⟨D, .load t x, ty, pos, aft, g⟩ ρ w (.agg l.toArray) w := by
  have h := run_loadCells_list (P := P) (w := w) ⟨b, o, none⟩ l (by intro j v hj; have := hc j v hj; simp only [Addr.add]; split <;> simp_all)
  subst hl
  have e : (loadVar t ⟨b, o, none⟩).run P w = .ok (.agg l.toArray) w := by
    unfold loadVar
    rw [Sem.run_bind, run_isAgg hz, Result.andThen_ok]
    simp only [if_true]
    rw [Sem.run_bind, run_sizeOf hz, Result.andThen_ok, Sem.run_bind, h, Result.andThen_ok]
    rfl
  unfold Run
  simp only [execOp, hx, Instr.loadAt, Instr.sureAddr, Sem.run_bind, pure_run, Result.andThen_ok, e]

/-- a struct that lies in a block -/
theorem R_ldb {b o n : Nat} {cs : List Value} {T : TypeId} (hz : szB P t n true = true) (hx : ρ x = .pointer (some ⟨b, o, none⟩)) (hb : w.heap[b]? = some (.cells cs.toArray T (0, 0))) (hn : Nat.ble (o + n) cs.length = true) :
    Run P ⟨D, .load t x, ty, pos, aft, g⟩ ρ w (.agg ((cs.drop o).take n).toArray) w := by
  have hn' := Nat.le_of_ble_eq_true hn
  refine R_ldA hz hx (by simp; omega) ?_
  intro j v hj
  rw [List.getElem?_take] at hj
  split at hj
  · rw [List.getElem?_drop] at hj
    simp [World.cell?, hb, hj]
  · cases hj

theorem run_storeVar_row {b o n : Nat} {T : TypeId} {cs vs : List Value} {ag : Bool} (hz : szB P t n ag = true) (hv : v.cells = vs.toArray) (hl : vs.length = n) (h1 : vs.all Value.oneCell' = true)
    (hb : w.heap[b]? = some (.cells cs.toArray T (0, 0))) (ho : o + n ≤ cs.length) :
    (storeVar t ⟨b, o, none⟩ v).run P w = .ok () (w.setRow b (cs.take o ++ vs ++ cs.drop (o + n)).toArray) := by
  have h := run_storeCells_at (P := P) b o T vs 0 cs.toArray w hb (by simp; omega) (fun v hv => List.all_eq_true.1 h1 v hv)
  simp only [Nat.add_zero] at h
  subst hl
  unfold storeVar
  rw [Sem.run_bind, run_sizeOf hz, Result.andThen_ok, if_neg (by simp [hv])]
  rw [hv]
  exact h

theorem R_st {b o n : Nat} {T : TypeId} {cs vs : List Value} {ag : Bool} (hz : szB P t n ag = true) (ha : ρ x = .pointer (some ⟨b, o, none⟩)) (hy : ρ y = v) (hv : v.cells = vs.toArray) (hl : vs.length = n)
    (h1 : vs.all Value.oneCell' = true) (hb : w.heap[b]? = some (.cells cs.toArray T (0, 0))) (ho : o + n ≤ cs.length) :
    RunU P ⟨D, .store t x y, ty, pos, aft, g⟩ ρ w (w.setRow b (cs.take o ++ vs ++ cs.drop (o + n)).toArray) := by
  unfold RunU
  simp only [execOp, ha, hy, Instr.storeAt, Instr.sureAddr, Sem.run_bind, pure_run, Result.andThen_ok, run_storeVar_row hz hv hl h1 hb ho]

/-- the zero value of type t has the cells l -/
def zeroB (P : Program) (t : TypeId) (z : Value) : Prop := (P.info? t).map (·.zero) = some (some z)
theorem R_alloc {zv : Value} (hz : zeroB P t zv) : Run P ⟨D, .alloc t, ty, pos, aft, g⟩ ρ w (.pointer (some ⟨w.heap.size, 0, none⟩)) (w.alloc (.cells zv.cells t (0, 0))) := by
  obtain ⟨i, h1, h2⟩ : ∃ i, P.info? t = some i ∧ i.zero = some zv := by
    unfold zeroB at hz
    cases hi : P.info? t with
    | none => rw [hi] at hz; cases hz
    | some i => rw [hi] at hz; exact ⟨i, rfl, by simpa using hz⟩
  simp [Run, execOp, Instr.alloc, zeroValue, typeInfo, h1, h2, newVar, newRow, go_sem]
theorem R_box (hx : ρ x = v) : Run P ⟨D, .box t x, ty, pos, aft, g⟩ ρ w (.pointer (some ⟨w.heap.size, 0, none⟩)) (w.alloc (.cells v.cells t (0, 0))) := by
  subst hx
  rfl

/-! integers -/
theorem wrap_i64 {n : Int} (h1 : -9223372036854775808 ≤ n) (h2 : n ≤ 9223372036854775807) : IntKind.i64.wrap n = n := by rw [IntKind.wrap_i64]; omega
theorem R_add (hx : ρ x = .int k i) (hy : ρ y = .int k j) : Run P ⟨D, .binOp .add t x y yt, ty, pos, aft, g⟩ ρ w (.int k (k.wrap (i + j))) w := by simp [Run, execOp, hx, hy, go_sem]
theorem R_sub (hx : ρ x = .int k i) (hy : ρ y = .int k j) : Run P ⟨D, .binOp .sub t x y yt, ty, pos, aft, g⟩ ρ w (.int k (k.wrap (i - j))) w := by simp [Run, execOp, hx, hy, go_sem]
theorem R_mul (hx : ρ x = .int k i) (hy : ρ y = .int k j) : Run P ⟨D, .binOp .mul t x y yt, ty, pos, aft, g⟩ ρ w (.int k (k.wrap (i * j))) w := by simp [Run, execOp, hx, hy, go_sem]
theorem R_addi (hx : ρ x = .int .i64 i) (hy : ρ y = .int .i64 j) (h : -9223372036854775808 ≤ i + j ∧ i + j ≤ 9223372036854775807) : Run P ⟨D, .binOp .add t x y yt, ty, pos, aft, g⟩ ρ w (.int .i64 (i + j)) w := by
  have := R_add (P := P) (w := w) (D := D) (t := t) (yt := yt) (ty := ty) (pos := pos) (aft := aft) (g := g) hx hy; rwa [wrap_i64 h.1 h.2] at this
theorem R_subi (hx : ρ x = .int .i64 i) (hy : ρ y = .int .i64 j) (h : -9223372036854775808 ≤ i - j ∧ i - j ≤ 9223372036854775807) : Run P ⟨D, .binOp .sub t x y yt, ty, pos, aft, g⟩ ρ w (.int .i64 (i - j)) w := by
  have := R_sub (P := P) (w := w) (D := D) (t := t) (yt := yt) (ty := ty) (pos := pos) (aft := aft) (g := g) hx hy; rwa [wrap_i64 h.1 h.2] at this
theorem R_muli (hx : ρ x = .int .i64 i) (hy : ρ y = .int .i64 j) (h : -9223372036854775808 ≤ i * j ∧ i * j ≤ 9223372036854775807) : Run P ⟨D, .binOp .mul t x y yt, ty, pos, aft, g⟩ ρ w (.int .i64 (i * j)) w := by
  have := R_mul (P := P) (w := w) (D := D) (t := t) (yt := yt) (ty := ty) (pos := pos) (aft := aft) (g := g) hx hy; rwa [wrap_i64 h.1 h.2] at this
theorem R_lt (hx : ρ x = .int k i) (hy : ρ y = .int k j) : Run P ⟨D, .binOp .lss t x y yt, ty, pos, aft, g⟩ ρ w (.bool (decide (i < j))) w := by simp [Run, execOp, hx, hy, go_sem]
theorem R_le (hx : ρ x = .int k i) (hy : ρ y = .int k j) : Run P ⟨D, .binOp .leq t x y yt, ty, pos, aft, g⟩ ρ w (.bool (decide (i ≤ j))) w := by simp [Run, execOp, hx, hy, go_sem]
theorem R_gt (hx : ρ x = .int k i) (hy : ρ y = .int k j) : Run P ⟨D, .binOp .gtr t x y yt, ty, pos, aft, g⟩ ρ w (.bool (decide (j < i))) w := by simp [Run, execOp, hx, hy, go_sem]
theorem R_ge (hx : ρ x = .int k i) (hy : ρ y = .int k j) : Run P ⟨D, .binOp .geq t x y yt, ty, pos, aft, g⟩ ρ w (.bool (decide (j ≤ i))) w := by simp [Run, execOp, hx, hy, go_sem]
theorem R_eq (hx : ρ x = .int k i) (hy : ρ y = .int k j) : Run P ⟨D, .binOp .eql t x y yt, ty, pos, aft, g⟩ ρ w (.bool (decide (i = j))) w := by
  have : decide (i = j) = (i == j) := by by_cases h : i = j <;> simp [h]
  rw [this]; simp [Run, execOp, hx, hy, go_sem]
theorem R_ne (hx : ρ x = .int k i) (hy : ρ y = .int k j) : Run P ⟨D, .binOp .neq t x y yt, ty, pos, aft, g⟩ ρ w (.bool (decide (¬ i = j))) w := by
  have : decide (¬ i = j) = (i != j) := by by_cases h : i = j <;> simp [h]
  rw [this]; simp [Run, execOp, hx, hy, go_sem]
theorem R_not {b : Bool} (hx : ρ x = .bool b) : Run P ⟨D, .unOp .not t x, ty, pos, aft, g⟩ ρ w (.bool (!b)) w := by simp [Run, execOp, hx, go_sem]
theorem R_neg (hx : ρ x = .int k i) : Run P ⟨D, .unOp .neg t x, ty, pos, aft, g⟩ ρ w (.int k (k.wrap (-i))) w := by simp [Run, execOp, hx, go_sem]

/-! strings: as lists of bytes -/
abbrev str (l : List UInt8) : Value := .string ⟨l.toArray⟩
variable {a b : List UInt8} {tys : Array TypeId}
theorem size_mk : (⟨a.toArray⟩ : ByteArray).size = a.length := rfl
theorem ba_inj : ((⟨a.toArray⟩ : ByteArray) = ⟨b.toArray⟩) ↔ a = b := by
  constructor
  · intro h; injection h with h; simpa using h
  · rintro rfl; rfl
theorem R_seq (hx : ρ x = str a) (hy : ρ y = str b) : Run P ⟨D, .binOp .eql t x y yt, ty, pos, aft, g⟩ ρ w (.bool (decide (a = b))) w := by
  have e : (a == b) = decide (a = b) := by by_cases h : a = b <;> simp [h]
  simp [Run, execOp, hx, hy, go_sem, e]
theorem R_sne (hx : ρ x = str a) (hy : ρ y = str b) : Run P ⟨D, .binOp .neq t x y yt, ty, pos, aft, g⟩ ρ w (.bool (decide (¬ a = b))) w := by
  have e : (a == b) = decide (a = b) := by by_cases h : a = b <;> simp [h]
  simp [Run, execOp, hx, hy, go_sem, e]
theorem R_cat (hx : ρ x = str a) (hy : ρ y = str b) (h : a.length + b.length ≤ 9223372036854775807) : Run P ⟨D, .binOp .add t x y yt, ty, pos, aft, g⟩ ρ w (str (a ++ b)) w := by
  have := run_string_add_sum (P := P) w ⟨a.toArray⟩ ⟨b.toArray⟩ h
  rw [ByteArray.mk_append_mk] at this
  simp [Run, execOp, hx, hy, this, go_sem]
theorem strB_spec (h : strB P t = true) : P.underlying t = some .string := by
  unfold strB at h
  split at h
  · assumption
  · cases h
theorem R_slen (hu : strB P t = true) (hx : ρ x = str a) (h : a.length ≤ 9223372036854775807) : Run P ⟨D, .call ⟨.builtin .len, #[x], #[t]⟩, ty, pos, aft, g⟩ ρ w (.int .i64 a.length) w := by
  simp [Run, execOp, hx, go_sem, Builtin.len_, run_underlying (strB_spec hu), goInt, size_mk]
theorem R_sidx (hu : strB P t = true) (hx : ρ x = str a) (hy : ρ y = .int k i) (h0 : 0 ≤ i) (h1 : i.toNat < a.length) : Run P ⟨D, .index t x y, ty, pos, aft, g⟩ ρ w (.int .u8 (a[i.toNat].toNat : Int)) w := by
  have h2 : i < (a.length : Int) := by omega
  simp [Run, execOp, hx, hy, go_sem, run_index_string, strB_spec hu, h0, h1, h2, size_mk]
  rfl
theorem R_ssl {lo hi : Operand} {kl kh : IntKind} {l h : Int} (hu : strB P t = true) (hx : ρ x = str a) (hlo : ρ lo = .int kl l) (hhi : ρ hi = .int kh h) (h0 : 0 ≤ l) (h1 : l ≤ h) (h2 : h ≤ a.length) :
    Run P ⟨D, .slice t x (some lo) (some hi) none, ty, pos, aft, g⟩ ρ w (str ((a.drop l.toNat).take (h.toNat - l.toNat))) w := by
  have := ByteArray.extract_mk a l.toNat h.toNat
  simp [Run, execOp, hx, hlo, hhi, go_sem, Instr.sliceAt, Instr.slice, run_underlying (strB_spec hu), Instr.sliceBounds, Instr.sliceBound, h0, h1, h2, this, size_mk, Int.le_trans h0 h1]
  intro hm; exfalso; omega
theorem R_ssl_lo {lo : Operand} {kl : IntKind} {l : Int} (hu : strB P t = true) (hx : ρ x = str a) (hlo : ρ lo = .int kl l) (h0 : 0 ≤ l) (h1 : l ≤ a.length) :
    Run P ⟨D, .slice t x (some lo) none none, ty, pos, aft, g⟩ ρ w (str (a.drop l.toNat)) w := by
  have := ByteArray.extract_mk a l.toNat a.length
  simp [Run, execOp, hx, hlo, go_sem, Instr.sliceAt, Instr.slice, run_underlying (strB_spec hu), Instr.sliceBounds, Instr.sliceBound, h0, h1, this, size_mk, List.take_of_length_le]
theorem R_ssl_hi {hi : Operand} {kh : IntKind} {h : Int} (hu : strB P t = true) (hx : ρ x = str a) (hhi : ρ hi = .int kh h) (h0 : 0 ≤ h) (h1 : h ≤ a.length) :
    Run P ⟨D, .slice t x none (some hi) none, ty, pos, aft, g⟩ ρ w (str (a.take h.toNat)) w := by
  have := ByteArray.extract_mk a 0 h.toNat
  simp [Run, execOp, hx, hhi, go_sem, Instr.sliceAt, Instr.slice, run_underlying (strB_spec hu), Instr.sliceBounds, Instr.sliceBound, h0, h1, this, size_mk]

/-! the same at places that are natural numbers -/
theorem R_sslN {lo hi : Operand} {kl kh : IntKind} {l h : Nat} (hu : strB P t = true) (hx : ρ x = str a) (hlo : ρ lo = .int kl (l : Nat)) (hhi : ρ hi = .int kh (h : Nat)) (h1 : l ≤ h) (h2 : h ≤ a.length) :
    Run P ⟨D, .slice t x (some lo) (some hi) none, ty, pos, aft, g⟩ ρ w (str ((a.drop l).take (h - l))) w := R_ssl hu hx hlo hhi (Int.natCast_nonneg _) (by omega) (by omega)
theorem R_ssl_loN {lo : Operand} {kl : IntKind} {l : Nat} (hu : strB P t = true) (hx : ρ x = str a) (hlo : ρ lo = .int kl (l : Nat)) (h1 : l ≤ a.length) :
    Run P ⟨D, .slice t x (some lo) none none, ty, pos, aft, g⟩ ρ w (str (a.drop l)) w := R_ssl_lo hu hx hlo (Int.natCast_nonneg _) (by omega)
theorem R_ssl_hiN {hi : Operand} {kh : IntKind} {h : Nat} (hu : strB P t = true) (hx : ρ x = str a) (hhi : ρ hi = .int kh (h : Nat)) (h1 : h ≤ a.length) :
    Run P ⟨D, .slice t x none (some hi) none, ty, pos, aft, g⟩ ρ w (str (a.take h)) w := R_ssl_hi hu hx hhi (Int.natCast_nonneg _) (by omega)

/-! slices -/
variable {ad : Option Addr} {n m : Nat}
theorem slB_spec {q : Nat} (h : slB P t q = true) : ∃ e i, P.underlying t = some (.slice e) ∧ P.info? e = some i ∧ i.size = q := by
  unfold slB at h
  split at h
  · rename_i e h1
    split at h
    · rename_i i h2; exact ⟨e, i, h1, h2, Nat.eq_of_beq_eq_true h⟩
    · cases h
  · cases h
theorem R_len {q : Nat} (hu : slB P t q = true) (hx : ρ x = .slice ad n m) : Run P ⟨D, .call ⟨.builtin .len, #[x], #[t]⟩, ty, pos, aft, g⟩ ρ w (.int .i64 n) w := by
  obtain ⟨e, i, h1, _, _⟩ := slB_spec hu
  simp [Run, execOp, hx, go_sem, Builtin.len_, run_underlying h1, goInt]
theorem R_ia {q b o : Nat} (hu : slB P t q = true) (hx : ρ x = .slice (some ⟨b, o, none⟩) n m) (hy : ρ y = .int k i) (h0 : 0 ≤ i) (h1 : i < n) : Run P ⟨D, .indexAddr t x y, ty, pos, aft, g⟩ ρ w (.pointer (some ⟨b, o + i.toNat * q, none⟩)) w := by
  obtain ⟨e, ti, h2, h3, h4⟩ := slB_spec hu
  simp [Run, execOp, hx, hy, go_sem, Instr.indexAt, run_underlying h2, sizeOf, typeInfo, h3, h4, asIntOf, h0, h1]

theorem R_iaN {q b o i : Nat} (hu : slB P t q = true) (hx : ρ x = .slice (some ⟨b, o, none⟩) n m) (hy : ρ y = .int k (i : Nat)) (h1 : i < n) : Run P ⟨D, .indexAddr t x y, ty, pos, aft, g⟩ ρ w (.pointer (some ⟨b, o + i * q, none⟩)) w := R_ia hu hx hy (Int.natCast_nonneg _) (by omega)
/-! arrays as values -/
/-- t is an array of n elements of k cells; ag: are these structs or arrays? -/
def arB (P : Program) (t : TypeId) (n k : Nat) (ag : Bool) : Bool :=
  match P.underlying t with
  | some (.array m e) => Nat.beq m n && szB P e k ag
  | _ => false
theorem R_aidx {m i : Nat} {kk : IntKind} {l : List Value} (hu : arB P t m 1 false = true) (hx : ρ x = .agg l.toArray) (hy : ρ y = .int kk (i : Nat)) (h1 : Nat.blt i m = true) (hv : l[i]? = some v) : Run P ⟨D, .index t x y, ty, pos, aft, g⟩ ρ w v w := by
  unfold arB at hu
  split at hu
  · rename_i m' e he
    simp only [Bool.and_eq_true] at hu
    obtain ⟨hm, hz⟩ := hu
    have hm := Nat.eq_of_beq_eq_true hm
    subst hm
    have hi : i < m' := by simpa [Nat.blt_eq] using h1
    have hp : (part e l.toArray (i * 1)).run P w = .ok v w := by
      unfold part
      rw [Sem.run_bind, run_isAgg hz, Result.andThen_ok]
      simp [hv]
    unfold Run
    simp only [execOp, hx, hy, Instr.index, asIntOf, Sem.run_bind, pure_run, Result.andThen_ok, run_underlying he]
    rw [if_pos (by omega)]
    simp only [Sem.run_bind, run_sizeOf hz, Result.andThen_ok, Int.toNat_natCast, hp]
  · cases hu
/-! put together -/
def fillL (pl : List (Nat × Nat)) : List (Nat × Value) → List Value → List Value
  | [], z => z
  | (i, v) :: rest, z =>
    match pl[i]? with
    | none => z
    | some (off, _) => fillL pl rest (z.take off ++ v.cells.toList ++ z.drop (off + v.cells.toList.length))
def fillB (pl : List (Nat × Nat)) : List (Nat × Value) → Nat → Bool
  | [], _ => true
  | (i, v) :: rest, m =>
    match pl[i]? with
    | none => false
    | some (off, size) => Nat.beq v.cells.toList.length size && Nat.ble (off + v.cells.toList.length) m && fillB pl rest m
theorem foldl_put (l : List Value) : ∀ (off j : Nat) (z : List Value), off + j + l.length ≤ z.length →
    (l.zipIdx j).foldl (fun (cs : Array Value) (x : Value × Nat) => cs.setIfInBounds (off + x.2) x.1) z.toArray = (z.take (off + j) ++ l ++ z.drop (off + j + l.length)).toArray := by
  induction l with
  | nil => intro off j z h; simp
  | cons v l ih =>
    intro off j z h
    simp only [List.length_cons] at h
    rw [List.zipIdx_cons, List.foldl_cons]
    rw [List.setIfInBounds_toArray]
    rw [show off + j = off + j from rfl]
    have hih := ih off (j + 1) (z.set (off + j) v) (by simp; omega)
    rw [hih]
    congr 1
    rw [List.take_set, List.drop_set]
    simp only [List.length_cons]
    rw [if_pos (by omega)]
    have e1 : (List.take (off + (j + 1)) z).set (off + j) v = List.take (off + j) z ++ [v] := by
      rw [show off + (j + 1) = off + j + 1 from by omega, List.take_succ_eq_append_getElem (by omega), List.set_append_right _ _ (by simp; omega)]
      simp; rw [show off + j - min (off + j) z.length = 0 from by omega]; rfl
    rw [e1, show off + (j + 1) + l.length = off + j + (l.length + 1) from by omega]
    simp
theorem fill_eq (pl : List (Nat × Nat)) : ∀ (parts : List (Nat × Value)) (z : List Value), fillB pl parts z.length = true → Instr.fill (pl[·]?) z.toArray parts = some (fillL pl parts z).toArray
  | [], z, _ => rfl
  | (i, v) :: rest, z, h => by
    unfold fillB at h
    unfold Instr.fill fillL
    split at h
    · cases h
    · rename_i off size he
      simp only [Bool.and_eq_true] at h
      obtain ⟨⟨h1, h2⟩, h3⟩ := h
      replace h1 := Nat.eq_of_beq_eq_true h1
      replace h2 := Nat.le_of_ble_eq_true h2
      simp only [Array.length_toList] at h1 h2
      simp only [he]
      rw [if_neg (by simp only [ne_eq, h1, not_true, decide_false, Bool.false_or, List.size_toArray, gt_iff_lt, decide_eq_true_eq]; omega)]
      have hf := foldl_put v.cells.toList off 0 z (by simp; omega)
      have e2 : Array.foldl (fun cs x => match x with | (c, j) => cs.setIfInBounds (off + j) c) z.toArray v.cells.zipIdx = (z.take off ++ v.cells.toList ++ z.drop (off + v.cells.toList.length)).toArray := by
        rw [← Array.foldl_toList, Array.toList_zipIdx]
        simpa using hf
      rw [e2]
      exact fill_eq pl rest _ (by
        have : (z.take off ++ v.cells.toList ++ z.drop (off + v.cells.toList.length)).length = z.length := by simp; omega
        rw [this]; exact h3)
/-- what 'build' reads of the table of types -/
def buildTab (P : Program) (t : TypeId) : Option (List (Nat × Nat) × List Value) :=
  match P.underlying t, P.info? t with
  | some (.struct fs), some i =>
    match i.zero, fs.toList.mapM (fun f => (P.info? f.type).map fun j => (f.offset, j.size)) with
    | some z, some pl => some (pl, z.cells.toList)
    | _, _ => none
  | _, _ => none
theorem mapM_places {w : World} : ∀ (l : List Field) (pl : List (Nat × Nat)), l.mapM (fun f => (P.info? f.type).map fun j => (f.offset, j.size)) = some pl →
    (l.mapM (fun f => do pure (f.offset, ← sizeOf f.type) : Field → Sem (Nat × Nat))).run P w = .ok pl w
  | [], pl, h => by simp at h; subst h; rfl
  | f :: l, pl, h => by
    rw [List.mapM_cons] at h
    cases hj : P.info? f.type with
    | none => simp [hj] at h
    | some j =>
      cases hr : l.mapM (fun f => (P.info? f.type).map fun j => (f.offset, j.size)) with
      | none => simp [hj, hr] at h
      | some r =>
        simp [hj, hr] at h
        subst h
        have ih := mapM_places (w := w) l r hr
        rw [List.mapM_cons]
        simp only [Sem.run_bind, sizeOf, typeInfo, run_program, Result.andThen_ok, hj, Sem.run_pure]
        simp only [sizeOf, typeInfo] at ih
        rw [ih]
        rfl
theorem R_build {pl : List (Nat × Nat)} {zl : List Value} {parts : List (Nat × Operand)} (ht : buildTab P t = some (pl, zl)) (hf : fillB pl (parts.map fun p => (p.1, ρ p.2)) zl.length = true) :
    Run P ⟨D, .build t parts.toArray, ty, pos, aft, g⟩ ρ w (.agg (fillL pl (parts.map fun p => (p.1, ρ p.2)) zl).toArray) w := by
  unfold buildTab at ht
  split at ht <;> try cases ht
  rename_i fs i h1 h2
  split at ht <;> try cases ht
  rename_i z h3 h4
  have hm := mapM_places (w := w) fs.toList pl h4
  have hm' : (fs.mapM (fun f => do pure (f.offset, ← sizeOf f.type) : Field → Sem (Nat × Nat))).run P w = .ok pl.toArray w := by
    rw [← Array.toArray_toList (xs := fs), List.mapM_toArray]
    simp only [Sem.run_map, hm, Result.andThen_ok]
  have hfe := fill_eq pl (parts.map fun p => (p.1, ρ p.2)) z.cells.toList hf
  unfold Run
  simp only [execOp, Instr.build, Sem.run_bind, zeroValue, typeInfo, run_program, Result.andThen_ok, h2, h3, Sem.run_pure, run_underlying h1, hm']
  simp only [Array.toArray_toList] at hfe
  simp only [List.map_toArray, List.getElem?_toArray]
  rw [hfe]
  rfl
/-- places of an array's elements -/
def plA (m k : Nat) : List (Nat × Nat) := (List.range m).map fun i => (i * k, k)
theorem fill_arr (m k : Nat) : ∀ (parts : List (Nat × Value)) (z : List Value), fillB (plA m k) parts z.length = true → Instr.fill (fun i => some (i * k, k)) z.toArray parts = Instr.fill ((plA m k)[·]?) z.toArray parts
  | [], z, _ => rfl
  | (i, v) :: rest, z, h => by
    have h' := fill_eq (plA m k) ((i, v) :: rest) z h
    unfold fillB at h
    unfold Instr.fill
    split at h
    · cases h
    · rename_i off size he
      have e2 : off = i * k ∧ k = size := by
        simp only [plA, List.getElem?_map, Option.map_eq_some_iff] at he
        obtain ⟨j, hj, he⟩ := he
        have := (List.getElem?_eq_some_iff.1 hj).2
        simp at this
        subst this
        simp at he
        exact ⟨he.1.symm, he.2⟩
      obtain ⟨rfl, rfl⟩ := e2
      simp only [he]
      simp only [Bool.and_eq_true] at h
      obtain ⟨⟨h1, h2⟩, h3⟩ := h
      replace h1 := Nat.eq_of_beq_eq_true h1
      replace h2 := Nat.le_of_ble_eq_true h2
      simp only [Array.length_toList] at h1 h2
      rw [if_neg (by simp only [ne_eq, h1, not_true, decide_false, Bool.false_or, List.size_toArray, gt_iff_lt, decide_eq_true_eq]; omega)]
      rw [if_neg (by simp only [ne_eq, h1, not_true, decide_false, Bool.false_or, List.size_toArray, gt_iff_lt, decide_eq_true_eq]; omega)]
      have hf := foldl_put v.cells.toList (i * k) 0 z (by simp; omega)
      have e2 : Array.foldl (fun cs x => match x with | (c, j) => cs.setIfInBounds (i * k + j) c) z.toArray v.cells.zipIdx = (z.take (i * k) ++ v.cells.toList ++ z.drop (i * k + v.cells.toList.length)).toArray := by
        rw [← Array.foldl_toList, Array.toList_zipIdx]
        simpa using hf
      rw [e2]
      refine fill_arr m k rest _ ?_
      have : (z.take (i * k) ++ v.cells.toList ++ z.drop (i * k + v.cells.toList.length)).length = z.length := by simp; omega
      rw [this]; exact h3
theorem R_buildA {m q : Nat} {ag : Bool} {zl : List Value} {parts : List (Nat × Operand)} (hu : arB P t m q ag = true) (hz : zeroB P t (.agg zl.toArray)) (hf : fillB (plA m q) (parts.map fun p => (p.1, ρ p.2)) zl.length = true) :
    Run P ⟨D, .build t parts.toArray, ty, pos, aft, g⟩ ρ w (.agg (fillL (plA m q) (parts.map fun p => (p.1, ρ p.2)) zl).toArray) w := by
  unfold arB at hu
  split at hu
  · rename_i m' e he
    simp only [Bool.and_eq_true] at hu
    obtain ⟨hm, hs⟩ := hu
    have hm := Nat.eq_of_beq_eq_true hm
    subst hm
    obtain ⟨i, h1, h2⟩ : ∃ i, P.info? t = some i ∧ i.zero = some (.agg zl.toArray) := by
      unfold zeroB at hz
      cases hi : P.info? t with
      | none => rw [hi] at hz; cases hz
      | some i => rw [hi] at hz; exact ⟨i, rfl, by simpa using hz⟩
    have hfe := fill_eq (plA m' q) (parts.map fun p => (p.1, ρ p.2)) zl hf
    rw [← fill_arr m' q _ _ hf] at hfe
    unfold Run
    simp only [execOp, Instr.build, Sem.run_bind, zeroValue, typeInfo, run_program, Result.andThen_ok, h1, h2, Sem.run_pure, run_underlying he, run_sizeOf hs, Value.cells, List.map_toArray]
    rw [hfe]
    rfl
  · cases hu
/-! calls -/
theorem R_call {f : FuncId} {fn : Func} {al : List Operand} {c : Code} (hf : P.funcs[f]? = some fn) (hb : fn.body = some c) (hn : (fn.name == "runtime.NumGoroutine") = false) (hx : ρ x = .func (.func f) #[] #[]) :
    RunE P ⟨D, .call ⟨.value x, al.toArray, tys⟩, ty, pos, aft, g⟩ ρ w f (al.map ρ).toArray := by
  have hn' : ¬ fn.name = "runtime.NumGoroutine" := by intro h; rw [h] at hn; exact absurd hn (by decide)
  simp [RunE, execOp, hx, go_sem, resolve, invoke, callFunc, hf, hb, hn']
/-- a closure, a function value -/
theorem R_callv {f : FuncId} {fn : Func} {al : List Operand} {c : Code} {fi ca : List Value} (hx : ρ x = .func (.func f) fi.toArray ca.toArray) (hf : P.funcs[f]? = some fn) (hb : fn.body = some c) (hn : (fn.name == "runtime.NumGoroutine") = false) :
    RunE P ⟨D, .call ⟨.value x, al.toArray, tys⟩, ty, pos, aft, g⟩ ρ w f (fi ++ al.map ρ ++ ca).toArray := by
  have hn' : ¬ fn.name = "runtime.NumGoroutine" := by intro h; rw [h] at hn; exact absurd hn (by decide)
  simp [RunE, execOp, hx, go_sem, resolve, invoke, callFunc, hf, hb, hn']
theorem R_makeFunc {fn : Fn} {fi ca : List Operand} : Run P ⟨D, .makeFunc fn fi.toArray ca.toArray, ty, pos, aft, g⟩ ρ w (.func fn (fi.map ρ).toArray (ca.map ρ).toArray) w := by
  simp [Run, execOp, Instr.makeFunc, go_sem]
theorem R_min (hx : ρ x = .int k i) (hy : ρ y = .int k j) : Run P ⟨D, .call ⟨.builtin .min, #[x, y], tys⟩, ty, pos, aft, g⟩ ρ w (.int k (if j < i then j else i)) w := by
  simp [Run, execOp, hx, hy, go_sem, resolve, invoke, builtin, Builtin.min_, Builtin.min2]
theorem R_max (hx : ρ x = .int k i) (hy : ρ y = .int k j) : Run P ⟨D, .call ⟨.builtin .max, #[x, y], tys⟩, ty, pos, aft, g⟩ ρ w (.int k (if i < j then j else i)) w := by
  simp [Run, execOp, hx, hy, go_sem, resolve, invoke, builtin, Builtin.max_, Builtin.max2]
end
end Go.Sx
