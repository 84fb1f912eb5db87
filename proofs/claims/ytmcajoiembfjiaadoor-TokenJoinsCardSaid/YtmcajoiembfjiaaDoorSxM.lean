import Derived.Test.YtmcajoiembfjiaaDoorSxE
import Derived.Laws.MakeOwn
import Derived.Laws.IdiomStrings
namespace Go.Sx
open Go.RowKit
theorem made_one (v : Value) (n : Nat) : madeCells #[v] n = (List.replicate n v).toArray := by
  apply Array.ext
  · simp [madeCells]
  · intro i h1 h2
    simp [madeCells, Nat.mod_one]
def byF (x : Int) (n i : Nat) : List Value := List.replicate i (.int .u8 x) ++ List.replicate (n - i) (.int .u8 0)
theorem byF_zero (x : Int) (n : Nat) : byF x n 0 = List.replicate n (.int .u8 0) := by simp [byF]
theorem byF_len {x : Int} {n i : Nat} (h : i ≤ n) : (byF x n i).length = n := by simp [byF]; omega
theorem byF_step {x : Int} {n i : Nat} (h : i < n) : (byF x n i).take (0 + i * 1) ++ [.int .u8 x] ++ (byF x n i).drop (0 + i * 1 + 1) = byF x n (i + 1) := by
  have e1 : n - i = (n - (i + 1)) + 1 := by omega
  unfold byF
  rw [Nat.zero_add, Nat.mul_one, e1, List.replicate_succ (n := n - (i + 1))]
  rw [List.take_left' (by simp), List.drop_append]
  simp [List.replicate_succ', List.drop_eq_nil_of_le]
theorem byF_full (x : Int) (n : Nat) : byF x n n = List.replicate n (.int .u8 x) := by simp [byF]
section
variable {P : Program} {ops : Array Oper} {Q : Exit → Act → World → Prop} {q : Md} {c : Cf} {e : Env} {B : Base} {L : Heap} {rest : List Oper} {d : Nat}
theorem w_make {x y : Operand} {T : TypeId} {p : String} {ed : Array Edge} {t el bytes n : Nat} {kl kc : IntKind} (hT : slT P t el 1 bytes (.int .u8 0)) (hx : ev c.n e x = .int kl (n : Nat)) (hy : ev c.n e y = .int kc (n : Nat)) (hb : bytes * n ≤ 281474976710656) (h63 : n ≤ 9223372036854775807)
    (h : ∀ b, (∀ x ∈ L, x.1 < b) → (∀ x ∈ B, x.1.heap.size ≤ b) → WX .sq P ops c Q rest (upd e d (.slice (some ⟨b, 0, none⟩) n n)) B ((b, cel (List.replicate n (.int .u8 0)) el) :: L)) :
    WX .sq P ops c Q (⟨some d, .makeSlice t x y, T, p, ed, none⟩ :: rest) e B L := by
  obtain ⟨i, ht, hi, hsz, hby, hz, hzs⟩ := slT_spec hT
  subst hby
  unfold WX at *
  intro w hw
  have hb2 : (i.bytes : Int) * (n : Int) ≤ 281474976710656 := by rw [← Int.natCast_mul]; omega
  have hr := run_make (P := P) w t el i (.int .u8 0) ht hi hz kl kc n n (Int.natCast_nonneg _) (Int.le_refl _) hb2 (by omega)
  have hc : (Value.int .u8 0).cells = #[.int .u8 0] := rfl
  rw [hc, Int.toNat_natCast, hsz, Nat.mul_one, made_one] at hr
  exact s_run (by unfold Run; simp only [execOp, hx, hy, Sem.run_bind, hr, Result.andThen_ok]; rfl) rfl rfl (h w.heap.size (fun p hp => lt_of_blk (hw.own p hp)) (fun x hx => (hw.fr x hx).size) _ hw.new)
theorem w_convB {x : Operand} {T ty : TypeId} {p : String} {ed : Array Edge} {src dst el n b cap : Nat} {v : UInt8} (i : Nat) (hi : L[i]? = some (b, cel (List.replicate n (.int .u8 (v.toNat : Nat))) T)) (hs : P.underlying src = some (.slice el)) (he : P.underlying el = some (.int .u8)) (hd : P.underlying dst = some .string)
    (hx : ev c.n e x = .slice (some ⟨b, 0, none⟩) n cap) (h : WX q P ops c Q rest (upd e d (str (List.replicate n v))) B L) : WX q P ops c Q (⟨some d, .convert src dst x, ty, p, ed, none⟩ :: rest) e B L :=
  w_run (fun w hw => by
    have hr := run_convert_bytes_back (P := P) w src dst el ⟨b, 0, none⟩ cap (List.replicate n v) hs he hd (fun j hj => by
      have hj' : j < n := by simpa using hj
      have h1 := cel_own i hi (show (List.replicate n (Value.int .u8 (v.toNat : Nat)))[j]? = some (.int .u8 (v.toNat : Nat)) by simp [hj']) hw
      have e1 : (⟨b, 0, none⟩ : Addr).add j = ⟨b, j, none⟩ := by simp [Addr.add]; omega
      rw [e1, h1]; simp)
    simp only [List.length_replicate] at hr
    unfold Run
    simp only [execOp, hx, Sem.run_bind, hr, Result.andThen_ok]
    rfl) rfl rfl h
theorem R_convI {ρ : Operand → Value} {w : World} {D : Option Tmp} {ty src dst : TypeId} {pos : String} {aft : Array Edge} {g : Option (Nat × Bool)} {x : Operand} {k k2 : IntKind} {m : Int} (hs : P.underlying src = some (.int k)) (hd : P.underlying dst = some (.int k2)) (hx : ρ x = .int k m) :
    Run P ⟨D, .convert src dst x, ty, pos, aft, g⟩ ρ w (.int k2 (k2.wrap m)) w := by
  simp [Run, execOp, hx, convert, run_underlying hs, run_underlying hd, go_sem]
end
end Go.Sx
