/- The plain part of layer token: the reference's bytes. -/
import Derived.Test.YtmcajoiembfjiaaDoorTokR
namespace Go.Tok
theorem digit_int (b : UInt8) : digitB b = (decide ((b.toNat : Int) ≥ 48) && decide ((b.toNat : Int) ≤ 57)) := byte_all (fun b => digitB b = (decide ((b.toNat : Int) ≥ 48) && decide ((b.toNat : Int) ≤ 57))) (by decide +kernel) b
theorem letter_int (b : UInt8) : letterB b = ((decide ((b.toNat : Int) ≥ 97) && decide ((b.toNat : Int) ≤ 122)) || (decide ((b.toNat : Int) ≥ 65) && decide ((b.toNat : Int) ≤ 90)) || decide ((b.toNat : Int) = 95)) := byte_all (fun b => letterB b = ((decide ((b.toNat : Int) ≥ 97) && decide ((b.toNat : Int) ≤ 122)) || (decide ((b.toNat : Int) ≥ 65) && decide ((b.toNat : Int) ≤ 90)) || decide ((b.toNat : Int) = 95))) (by decide +kernel) b
theorem blank_int (b : UInt8) : blankB b = (decide ((b.toNat : Int) = 32) || decide ((b.toNat : Int) = 9) || decide ((b.toNat : Int) = 10) || decide ((b.toNat : Int) = 13)) := byte_all (fun b => blankB b = (decide ((b.toNat : Int) = 32) || decide ((b.toNat : Int) = 9) || decide ((b.toNat : Int) = 10) || decide ((b.toNat : Int) = 13))) (by decide +kernel) b
theorem eq_int (x b : UInt8) : eqB x b = decide ((b.toNat : Int) = (x.toNat : Int)) := by
  have h : b = x ↔ (b.toNat : Int) = (x.toNat : Int) := by
    rw [← UInt8.toNat_inj]; omega
  unfold eqB
  by_cases hx : b = x
  · subst hx; simp
  · have h2 := mt h.2 hx
    have h3 : (b == x) = false := by simpa using hx
    rw [h3, decide_eq_false h2]
theorem eq_int' (x : UInt8) (k : Int) (hk : k = (x.toNat : Int)) (b : UInt8) : eqB x b = decide ((b.toNat : Int) = k) := by rw [hk, eq_int]
end Go.Tok
namespace Go.Tok
theorem skip_blank {s : List UInt8} {i : Nat} (hi : i < s.length) (h : atP blankB s i = true) : skipTo s i = skipTo s (i + 1) := by
  rw [skipTo_eq (Nat.le_of_lt hi), skipTo_eq (by omega : i + 1 ≤ s.length), runTo_step h]
theorem skip_stop {s : List UInt8} {i : Nat} (hi : i ≤ s.length) (h : atP blankB s i = false) (h2 : cmt s i = false) : skipTo s i = i := by
  rw [skipTo_eq hi, runTo_stop h, if_neg (by rw [h2]; simp)]
theorem skip_cmt {s : List UInt8} {i : Nat} (hi : i ≤ s.length) (h : atP blankB s i = false) (h2 : cmt s i = true) : skipTo s i = skipTo s (runTo notNl s i) := by
  rw [skipTo_eq hi, runTo_stop h, if_pos h2]
theorem notNl_int (b : UInt8) : notNl b = decide ¬((b.toNat : Int) = 10) := byte_all (fun b => notNl b = decide ¬((b.toNat : Int) = 10)) (by decide +kernel) b
theorem at_or {p q r : UInt8 → Bool} (h : ∀ b, r b = (p b || q b)) (s : List UInt8) (i : Nat) : atP r s i = (atP p s i || atP q s i) := by
  unfold atP; split <;> simp [h]
theorem at_word (s : List UInt8) (i : Nat) : atP wordB s i = (atP letterB s i || atP digitB s i) := at_or (fun _ => rfl) s i
theorem at_tail (s : List UInt8) (i : Nat) : atP tailB s i = (atP letterB s i || atP digitB s i || atP (eqB 46) s i) := by
  rw [at_or (p := wordB) (q := eqB 46) (r := tailB) (fun _ => rfl), at_word]
theorem at_pm (s : List UInt8) (i : Nat) : atP pmB s i = (atP (eqB 43) s i || atP (eqB 45) s i) := at_or (fun _ => rfl) s i
end Go.Tok
namespace Go.Tok
theorem pre_two {s : List UInt8} {i : Nat} (t : List UInt8) (ht : t.length = 2) : t.isPrefixOf (s.drop i) = (decide (i + 2 ≤ s.length) && decide ((s.drop i).take 2 = t)) := by
  rw [Bool.eq_iff_iff]
  simp only [List.isPrefixOf_iff_prefix, Bool.and_eq_true, decide_eq_true_eq]
  constructor
  · intro h
    have h1 := h.length_le
    have h2 := List.prefix_iff_eq_take.1 h
    simp only [List.length_drop] at h1
    rw [ht] at h1 h2
    exact ⟨by omega, h2.symm⟩
  · intro h
    rw [List.prefix_iff_eq_take, ht, h.2]
theorem pre_one {s : List UInt8} {i : Nat} (b : UInt8) (hi : i < s.length) : [b].isPrefixOf (s.drop i) = decide ((s[i].toNat : Int) = (b.toNat : Int)) := by
  rw [List.drop_eq_getElem_cons hi]
  have := eq_int b s[i]
  simp only [eqB] at this
  rw [← this]
  simp [List.isPrefixOf, Bool.beq_comm]
def oneT : List UInt8 := [123, 125, 91, 93, 40, 41, 60, 62, 61, 43, 45, 42, 47, 126, 44, 59, 58]
theorem sig_two (k : Nat) (h : k < 5) : (signsL.getD k []).length = 2 := by revert k; decide +kernel
theorem sig_one (k : Nat) (h : k < 17) : signsL.getD (5 + k) [] = [oneT.getD k 0] := by revert k; decide +kernel
end Go.Tok
