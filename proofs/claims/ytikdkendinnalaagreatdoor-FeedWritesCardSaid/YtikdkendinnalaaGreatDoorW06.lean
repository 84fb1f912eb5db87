/- Layer 14, FeedWrites: that Write and Find tell what the document says, and that what is written is read as the same data again. Part 6 of 14. -/
import Derived.Test.YtikdkendinnalaaGreatDoorW05
import Derived.Lib.LastIndexByte
import Derived.Lib.IndexMore
import Derived.Lib.Fields
set_option maxRecDepth 100000
set_option maxHeartbeats 16000000
section
namespace Go.Proofs.YtikdkendinnalaaGreatDoor
open Go.RowKit Go.Sx
open Go.Num
theorem ext_bytes (w : World) (e : TypeId) (t : ByteArray) : Ext w (Lib.bytesWorld w e t) := by
  unfold Lib.bytesWorld World.freeze
  rw [if_neg (by decide)]
  refine ⟨rfl, rfl, rfl, ?_, fun j hj _ => ?_⟩
  · show w.heap.size ≤ (Array.modify (w.heap.push _) _ _).size
    rw [Array.size_modify, Array.size_push]; omega
  show (Array.modify (w.heap.push _) w.heap.size _)[j]? = _
  rw [Array.getElem?_modify, if_neg (by omega), Array.getElem?_push_lt hj, Array.getElem?_eq_getElem hj]
theorem ext_below {w w' : World} (h : Below w.heap.size w w') : Ext w w' := ⟨h.os, h.tape, h.output, h.size, fun k hk _ => h.block k hk⟩
def cutm (s : List UInt8) : List UInt8 := if s.head? = some 45 then s.tail else s
theorem CutPrefix_ok (s : List UInt8) (w : World) : Ret Tryz.prog 171 #[str s, str [45]] w fun v w' => v = .tuple #[str (cutm s), .bool (decide (s.head? = some 45))] ∧ Ext w w' :=
  Calls.mono (Tryz.strings_CutPrefix ⟨s.toArray⟩ ⟨#[45]⟩ w) fun e w' ⟨h1, h2⟩ => ⟨_, h1, by
    have hp : Lib.hasPrefix s [45] = decide (s.head? = some 45) := by
      unfold Lib.hasPrefix
      cases s with
      | nil => rfl
      | cons c s =>
        show (45 == c && true) = _
        rw [Bool.and_true, List.head?_cons]
        by_cases h : c = 45
        · subst h; rfl
        · rw [decide_eq_false (by simpa using h)]
          exact beq_false_of_ne (Ne.symm h)
    have ht : Lib.trimPrefix s [45] = if s.head? = some 45 then s.tail else s := by
      unfold Lib.trimPrefix
      rw [hp]
      by_cases h : s.head? = some 45
      · rw [decide_eq_true h, if_pos rfl, if_pos h]; simp
      · rw [decide_eq_false h, if_neg (by simp), if_neg h]
    unfold cutm
    rw [← hp, ← ht], by rw [h2]; exact Fr.refl _ _⟩
theorem Atoi_yes {s : List UInt8} {e : Int} (w : World) (hs : s.length ≤ 1000) (h : Lib.atoiAll s = .ok e) : Ret Tryz.prog 170 #[str s] w fun v w' => v = .tuple #[.int .i64 e, .nilIface] ∧ Ext w w' :=
  Calls.mono (Tryz.strconv_Atoi_ok ⟨s.toArray⟩ (by show s.length ≤ _; omega) e h w) fun e w' ⟨h1, h2⟩ => ⟨_, h1, rfl, by
    rcases h2 with rfl | ⟨t, rfl⟩
    · exact Fr.refl _ _
    exact ext_bytes _ _ _⟩
theorem zoldC_ok (s : Bool) {a : Option Addr} {k c n : Nat} (w : World) (hA : Nm w a k c n) (e9 : Int) (hs : k ≤ 4000000 ∧ sz n ≤ 2048) : Ret Tryz.prog 130 #[.bool s, .slice a k c, .int .i64 e9] w
    (Tel (fun a c => .tuple #[.agg #[.bool (s && decide ((if e9 = 0 then n else 0) ≠ 0)), .slice a (sz (if e9 = 0 then n else 0)) c], .int .i64 e9]) (sz (if e9 = 0 then n else 0)) (if e9 = 0 then n else 0) w) := by
  by_cases h : e9 = 0
  · subst h
    rw [if_pos rfl]
    exact zold_ok s w hA hs
  rw [if_neg h, decide_eq_false (by simp), Bool.and_false]
  exact zoldE_ok s a k c e9 w h
def zpe (s : List UInt8) : Int := match zpv s with | none => 5 | some _ => 0
theorem zpv_eq (s : List UInt8) : zpv s = (npv (cutm s)).map (iv (decide (s.head? = some 45))) := by
  unfold zpv cutm
  by_cases h : s.head? = some 45
  · rw [if_pos h, if_pos h, decide_eq_true h]; rfl
  rw [if_neg h, if_neg h, decide_eq_false h]; rfl
theorem zp_all (s : List UInt8) : npe (cutm s) = zpe s ∧ (if npe (cutm s) = 0 then (npv (cutm s)).getD 0 else 0) = ((zpv s).getD 0).natAbs ∧ (decide (s.head? = some 45) && decide ((if npe (cutm s) = 0 then (npv (cutm s)).getD 0 else 0) ≠ 0)) = ng ((zpv s).getD 0) := by
  unfold zpe npe
  rw [zpv_eq]
  cases h : npv (cutm s) with
  | none => exact ⟨rfl, rfl, by simp [ng]⟩
  | some n => exact ⟨rfl, (iv_abs _ n).symm, (ng_iv _ n).symm⟩
theorem cutm_len (s : List UInt8) : (cutm s).length ≤ s.length := by
  unfold cutm; split
  · rw [List.length_tail]; exact Nat.sub_le _ _
  exact Nat.le_refl _
theorem npv_sz {s : List UInt8} (h : s.length ≤ 400) : sz ((npv s).getD 0) ≤ 400 := by
  unfold npv
  split
  · decide
  rename_i h2
  exact Nat.le_trans (sz_ten (pv_lt s (by cases ha : s.all isD; (exact absurd (.inr ha) h2); rfl))) h
theorem zParse_ok (s : List UInt8) (w : World) (hs : s.length ≤ 400) :
    Ret Tryz.prog 145 #[str s] w (Tel (fun a c => .tuple #[.agg #[.bool (ng ((zpv s).getD 0)), .slice a (sz (Int.natAbs ((zpv s).getD 0))) c], .int .i64 (zpe s)]) (sz (Int.natAbs ((zpv s).getD 0))) (Int.natAbs ((zpv s).getD 0)) w) := by
  have hcl := cutm_len s
  have hnz := npv_sz (s := cutm s) (by omega)
  refine enter (S := No) (l := [_]) (L := []) 24 Tryz.func145 rfl rfl rfl (St.start w No) ?_; refine yA ?_; refine zA zr44 (fun b1 gb1 ub1 => ?_)
  refine aI rfl ?_; refine yC ?_; refine zm (v := str _) rfl ?_; refine jD Tryz.func171 (fun w h => CutPrefix_ok s w) ?_; refine zm rfl ?_; refine jx rfl rfl ?_; refine jx rfl rfl ?_; refine za (v := str _) rfl ?_; refine aB rfl ?_; refine yC ?_; refine zm (v := str _) rfl ?_; refine w_tel (fun w => zR Tryz.func172 rfl rfl rfl) rfl rfl (fun w h => Parse_ok (cutm s) w (by omega)) (fun x2 a2 c2 hK2 hN2 => ?_)
  refine zm rfl ?_; refine jx rfl rfl ?_; refine jx rfl rfl ?_; refine za (v := .slice _ _ _) rfl ?_; refine aI rfl ?_; refine yC ?_; refine mB rfl ?_; refine mS rfl ?_; refine mI rfl ?_; refine w_tel (fun w => zR Tryz.func130 rfl rfl rfl) rfl rfl (fun w h => zoldC_ok (decide (s.head? = some 45)) w (hK2.at_ 0 rfl h) (npe (cutm s)) ⟨by omega, by omega⟩) (fun x3 a3 c3 hK3 hN3 => ?_)
  refine jx rfl rfl ?_; refine jx rfl rfl ?_; refine jv 0 z44 rfl ?_; refine aI rfl ?_; refine yB ?_; refine ze ?_
  rw [← (zp_all s).2.1, ← (zp_all s).2.2, ← (zp_all s).1]
  refine r_fin (.inl rfl) rfl (.agg rfl rfl z44 (fun _ h => h.at_ 0 rfl) rfl (.tmp rfl rfl .nil)) ?_; exact fun w' hw => ⟨_, _, rfl, (hK3.at_ 0 rfl hw), (hN3 _ zm1), hw.fr (w, No) zm2⟩
theorem zNorm_ok (s : Bool) {a : Option Addr} {k c n : Nat} (w : World) (hA : Nm w a k c n) (hs : k ≤ 4000000 ∧ sz n ≤ 2048) :
    Ret Tryz.prog 84 #[.agg #[.bool s, .slice a k c]] w (Tel (fun a c => .tuple #[.agg #[.bool (s && decide (n ≠ 0)), .slice a (sz (n)) c], .int .i64 0]) (sz n) n w) := by
  refine enter (S := No) (l := [_]) (L := []) 11 Tryz.func84 rfl rfl rfl (St.start w No) ?_; refine yA ?_; refine w_boxA rfl (fun p gp up => ?_)
  refine zA zr44 (fun r gr ur => ?_)
  refine aI rfl ?_; refine yC ?_; refine zf fa44_0 rfl ?_; refine jM 1 z4 rfl ?_; refine zf fa44_1 rfl ?_; refine jM 1 z42 rfl ?_; refine w_tel (fun w => zR Tryz.func130 rfl rfl rfl) rfl rfl (fun w h => zold_ok _ w ((Kn.old hA).at_ 0 rfl h) hs) (fun x3 a3 c3 hK3 hN3 => ?_)
  refine jx rfl rfl ?_; refine jx rfl rfl ?_; refine jv 0 z44 rfl ?_; refine aI rfl ?_; refine yB ?_; refine ze ?_; refine r_fin (.inl rfl) rfl (.agg rfl rfl z44 (fun _ h => h.at_ 0 rfl) rfl (.tmp rfl rfl .nil)) ?_; exact fun w' hw => ⟨_, _, rfl, (hK3.at_ 0 rfl hw), (hN3 _ zm0), hw.fr (w, No) zm1⟩
theorem zMul_ok (s t : Bool) {a : Option Addr} {k c n : Nat} {a2 : Option Addr} {k2 c2 m : Nat} (w : World) (hA : Nm w a k c n) (hA2 : Nm w a2 k2 c2 m) (hs : k ≤ 4000000 ∧ k2 ≤ 4000000 ∧ sz n ≤ 2048 ∧ sz m ≤ 2048 ∧ sz (n * m) ≤ 2048) :
    Ret Tryz.prog 88 #[.agg #[.bool s, .slice a k c], .agg #[.bool t, .slice a2 k2 c2]] w (Tel (fun a c => .tuple #[.agg #[.bool ((s != t) && decide (n * m ≠ 0)), .slice a (sz (n * m)) c], .int .i64 0]) (sz (n * m)) (n * m) w) := by
  refine enter (S := No) (l := [_, _]) (L := []) 26 Tryz.func88 rfl rfl rfl (St.start w No) ?_; refine yA ?_; refine w_boxA rfl (fun p gp up => ?_)
  refine w_boxA rfl (fun q gq uq => ?_)
  refine zA zr44 (fun r gr ur => ?_)
  refine aI rfl ?_; refine yC ?_; refine zf fa44_1 rfl ?_; refine jM 2 z42 rfl ?_; refine zf fa44_1 rfl ?_; refine jM 1 z42 rfl ?_; refine w_tel (fun w => zR Tryz.func131 rfl rfl rfl) rfl rfl (fun w h => Mul_ok w ((Kn.old hA).at_ 0 rfl h) ((Kn.old hA2).at_ 0 rfl h) hs) (fun x4 a4 c4 hK4 hN4 => ?_)
  refine zm rfl ?_; refine jx rfl rfl ?_; refine jx rfl rfl ?_; refine za (v := .slice _ _ _) rfl ?_; refine aI rfl ?_; refine yC ?_; refine zf fa44_0 rfl ?_; refine jM 2 z4 rfl ?_; refine zf fa44_0 rfl ?_; refine jM 1 z4 rfl ?_; refine zg (fun _ => R_bne unb4 rfl rfl) ?_; refine mS rfl ?_; refine mI rfl ?_; refine w_tel (fun w => zR Tryz.func130 rfl rfl rfl) rfl rfl (fun w h => zold_ok _ w (hK4.at_ 0 rfl h) ⟨by omega, by omega⟩) (fun x5 a5 c5 hK5 hN5 => ?_)
  refine jx rfl rfl ?_; refine jx rfl rfl ?_; refine jv 0 z44 rfl ?_; refine aI rfl ?_; refine yB ?_; refine ze ?_; refine r_fin (.inl rfl) rfl (.agg rfl rfl z44 (fun _ h => h.at_ 0 rfl) rfl (.tmp rfl rfl .nil)) ?_; exact fun w' hw => ⟨_, _, rfl, (hK5.at_ 0 rfl hw), (hN5 _ zm1), hw.fr (w, No) zm2⟩
theorem one_ok {a : Option Addr} {k c n : Nat} (w : World) (hA : Nm w a k c n) (hk : k ≤ 4000000) :
    Ret Tryz.prog 173 #[.agg #[.slice a k c]] w (fun v w' => v = .bool (decide (bl n ≤ 1)) ∧ Ext w w') := by
  refine enter (S := No) (l := [_]) (L := []) 7 Tryz.func173 rfl rfl rfl (St.start w No) ?_; refine yA ?_; refine w_boxA rfl (fun p gp up => ?_)
  refine aB rfl ?_; refine yC ?_; refine zf fa118_0 rfl ?_; refine jM 0 z42 rfl ?_; refine jD Tryz.func155 (fun w h => Bits_ok w ((Kn.old hA).at_ 0 rfl h) (by omega)) ?_; refine zg (fun _ => R_leN (a := (bl n)) (b := 1) rfl rfl) ?_; refine aB rfl ?_; refine yB ?_; refine ze ?_; refine zo (v := .bool _) rfl rfl rfl ?_; exact fun w' hw => ⟨rfl, hw.fr (w, No) zm0⟩
end Go.Proofs.YtikdkendinnalaaGreatDoor
end
section
namespace Go.Tok
theorem digit_int (b : UInt8) : digitB b = (decide ((b.toNat : Int) ≥ 48) && decide ((b.toNat : Int) ≤ 57)) := byte_all (fun b => digitB b = (decide ((b.toNat : Int) ≥ 48) && decide ((b.toNat : Int) ≤ 57))) (by decide +kernel) b
theorem letter_int (b : UInt8) : letterB b = ((decide ((b.toNat : Int) ≥ 97) && decide ((b.toNat : Int) ≤ 122)) || (decide ((b.toNat : Int) ≥ 65) && decide ((b.toNat : Int) ≤ 90)) || decide ((b.toNat : Int) = 95)) := byte_all (fun b => letterB b = ((decide ((b.toNat : Int) ≥ 97) && decide ((b.toNat : Int) ≤ 122)) || (decide ((b.toNat : Int) ≥ 65) && decide ((b.toNat : Int) ≤ 90)) || decide ((b.toNat : Int) = 95))) (by decide +kernel) b
theorem blank_int (b : UInt8) : blankB b = (decide ((b.toNat : Int) = 32) || decide ((b.toNat : Int) = 9) || decide ((b.toNat : Int) = 10) || decide ((b.toNat : Int) = 13)) := byte_all (fun b => blankB b = (decide ((b.toNat : Int) = 32) || decide ((b.toNat : Int) = 9) || decide ((b.toNat : Int) = 10) || decide ((b.toNat : Int) = 13))) (by decide +kernel) b
theorem eq_int (x b : UInt8) : eqB x b = decide ((b.toNat : Int) = (x.toNat : Int)) := by
  have h : b = x ↔ (b.toNat : Int) = (x.toNat : Int) := by
    rw [← UInt8.toNat_inj]; omega
  unfold eqB
  by_cases hx : b = x
  · subst hx; simp
  have h2 := mt h.2 hx
  have h3 : (b == x) = false := by simpa using hx
  rw [h3, decide_eq_false h2]
theorem eq_int' (x : UInt8) (k : Int) (hk : k = (x.toNat : Int)) (b : UInt8) : eqB x b = decide ((b.toNat : Int) = k) := by rw [hk, eq_int]
theorem skip_blank {s : List UInt8} {i : Nat} (hi : i < s.length) (h : atP blankB s i = true) : skipTo s i = skipTo s (i + 1) := by
  rw [skipTo_eq (Nat.le_of_lt hi), skipTo_eq (by omega : i + 1 ≤ s.length), runTo_step h]
theorem skip_stop {s : List UInt8} {i : Nat} (hi : i ≤ s.length) (h : atP blankB s i = false) (h2 : cmt s i = false) : skipTo s i = i := by
  rw [skipTo_eq hi, runTo_stop h, if_neg (by rw [h2]; simp)]
theorem skip_cmt {s : List UInt8} {i : Nat} (hi : i ≤ s.length) (h : atP blankB s i = false) (h2 : cmt s i = true) : skipTo s i = skipTo s (runTo notNl s i) := by
  rw [skipTo_eq hi, runTo_stop h, if_pos h2]
theorem notNl_int (b : UInt8) : notNl b = decide ¬((b.toNat : Int) = 10) := byte_all (fun b => notNl b = decide ¬((b.toNat : Int) = 10)) (by decide +kernel) b
theorem at_or {p q r : UInt8 → Bool} (h : ∀ b, r b = (p b || q b)) (s : List UInt8) (i : Nat) : atP r s i = (atP p s i || atP q s i) := by
  unfold atP; split <;> simp [h]
theorem at_word (s : List UInt8) (i : Nat) : atP wordB s i = (atP letterB s i || atP digitB s i) := at_or (fun _ => rfl) s i
theorem at_tail (s : List UInt8) (i : Nat) : atP tailB s i = (atP letterB s i || atP digitB s i || atP (eqB 46) s i) := by
  rw [at_or (p := wordB) (q := eqB 46) (r := tailB) (fun _ => rfl), at_word]
theorem at_pm (s : List UInt8) (i : Nat) : atP pmB s i = (atP (eqB 43) s i || atP (eqB 45) s i) := at_or (fun _ => rfl) s i
theorem pre_two {s : List UInt8} {i : Nat} (t : List UInt8) (ht : t.length = 2) : t.isPrefixOf (s.drop i) = (decide (i + 2 ≤ s.length) && decide ((s.drop i).take 2 = t)) := by
  rw [Bool.eq_iff_iff]
  simp only [List.isPrefixOf_iff_prefix, Bool.and_eq_true, decide_eq_true_eq]
  constructor
  · intro h
    have h1 := h.length_le
    have h2 := List.prefix_iff_eq_take.1 h
    simp only [List.length_drop] at h1
    rw [ht] at h1 h2
    exact ⟨by omega, h2.symm⟩
  intro h
  rw [List.prefix_iff_eq_take, ht, h.2]
theorem pre_one {s : List UInt8} {i : Nat} (b : UInt8) (hi : i < s.length) : [b].isPrefixOf (s.drop i) = decide ((s[i].toNat : Int) = (b.toNat : Int)) := by
  rw [List.drop_eq_getElem_cons hi]
  have := eq_int b s[i]
  simp only [eqB] at this
  rw [← this]
  simp [List.isPrefixOf, Bool.beq_comm]
def oneT : List UInt8 := [123, 125, 91, 93, 40, 41, 60, 62, 61, 43, 45, 42, 47, 126, 44, 59, 58]
theorem sig_two (k : Nat) (h : k < 5) : (signsL.getD k []).length = 2 := by revert k; decide +kernel
theorem sig_one (k : Nat) (h : k < 17) : signsL.getD (5 + k) [] = [oneT.getD k 0] := by revert k; decide +kernel
end Go.Tok
end
section
namespace Go.Tok
def lineN (s : List UInt8) : Nat → Nat
  | 0 => 1
  | i + 1 => if atP (eqB 10) s i then lineN s i + 1 else lineN s i
def colN (s : List UInt8) : Nat → Nat
  | 0 => 1
  | i + 1 => if atP (eqB 10) s i then 1 else colN s i + 1
def plcK (n : Nat) (a : Int) : Nat := (if (n : Int) < (if a < 0 then 0 else a) then (n : Int) else (if a < 0 then 0 else a)).toNat
theorem readN_len {x : Rd} (h : x.1.length ≤ 6000) (k : Nat) (t : List UInt8) (a : Nat) (b : Bool) : (readN x k t a b).1.1.length ≤ 6000 := by
  unfold readN
  split
  · exact h
  split
  · exact h
  simp; omega
theorem lexF_len (s : List UInt8) : ∀ (f i : Nat) (x : Rd), x.1.length ≤ 6000 → (lexF readN s f i x).1.length ≤ 6000
  | 0, _, _, h => h
  | f + 1, i, x, h => by
    unfold lexF
    split
    · split
      · exact lexF_len s f _ _ (readN_len h _ _ _ _)
      · exact readN_len h _ _ _ _
    · exact h
theorem readP_len (s : List UInt8) : (readP s).1.length ≤ 6000 := by
  unfold readP
  split
  · simp
  split
  · exact lexF_len s _ _ _ (by simp)
  simp
end Go.Tok
end
section
namespace Go.Tok
variable {u v : List UInt8}
theorem atP_sh (p : UInt8 → Bool) (i : Nat) : atP p (u ++ v) (u.length + i) = atP p v i := by
  unfold atP
  rw [List.getElem?_append_right (Nat.le_add_right _ _), Nat.add_sub_cancel_left]
theorem drop_sh (i : Nat) : (u ++ v).drop (u.length + i) = v.drop i := by
  rw [List.drop_append]; simp
theorem runTo_sh (p : UInt8 → Bool) (i : Nat) : runTo p (u ++ v) (u.length + i) = u.length + runTo p v i := by
  unfold runTo; rw [drop_sh]; omega
theorem cmt_sh (i : Nat) : cmt (u ++ v) (u.length + i) = cmt v i := by
  unfold cmt; rw [atP_sh, Nat.add_assoc, atP_sh]
theorem skipF_sh : ∀ (f i : Nat), skipF f (u ++ v) (u.length + i) = u.length + skipF f v i
  | 0, _ => rfl
  | f + 1, i => by
    unfold skipF
    rw [runTo_sh, cmt_sh, runTo_sh, skipF_sh f]
    split <;> rfl
theorem skip_sh (i : Nat) : skipTo (u ++ v) (u.length + i) = u.length + skipTo v i := by
  unfold skipTo
  rw [List.length_append, show u.length + v.length + 1 - (u.length + i) = v.length + 1 - i by omega, skipF_sh]
theorem numDot_sh (i : Nat) : numDot (u ++ v) (u.length + i) = u.length + numDot v i := by
  unfold numDot
  rw [Nat.add_assoc, atP_sh, atP_sh, runTo_sh]
  split <;> rfl
theorem numTens_sh (i : Nat) : numTens (u ++ v) (u.length + i) = ((numTens v i).1, u.length + (numTens v i).2) := by
  unfold numTens
  rw [Nat.add_assoc, Nat.add_assoc, atP_sh, atP_sh, atP_sh, atP_sh, runTo_sh, runTo_sh]
  split
  · simp only [Prod.mk.injEq, and_true]; omega
  split
  · simp only [Prod.mk.injEq, and_true]; omega
  rfl
theorem num_sh (i : Nat) : numEnd (u ++ v) (u.length + i) = u.length + numEnd v i ∧ numFine (u ++ v) (u.length + i) = numFine v i := by
  have e1 : numEnd (u ++ v) (u.length + i) = u.length + numEnd v i := by
    unfold numEnd; rw [runTo_sh, numDot_sh, numTens_sh]
  refine ⟨e1, ?_⟩
  unfold numFine
  rw [e1, runTo_sh, numDot_sh, numTens_sh, atP_sh]
theorem sign_sh (i : Nat) : signLen (u ++ v) (u.length + i) = signLen v i := by
  unfold signLen signOf; rw [drop_sh]
theorem tok_sh (i : Nat) : tokAt (u ++ v) (u.length + i) = ((tokAt v i).1, u.length + (tokAt v i).2.1, (tokAt v i).2.2) := by
  unfold tokAt nameB
  rw [atP_sh, atP_sh, atP_sh, runTo_sh, (num_sh i).1, (num_sh i).2, sign_sh]
  split
  · rfl
  split
  · rfl
  split
  · rfl
  simp only [Prod.mk.injEq, and_true, true_and]; omega
theorem tx_sh (i : Nat) : tokTx (u ++ v) (u.length + i) = tokTx v i := by
  unfold tokTx
  rw [tok_sh, drop_sh]
  congr 1
  simp only; omega
end Go.Tok
end
section
namespace Go.Tok
theorem readN_go {x : Rd} {k : Nat} {t : List UInt8} {a : Nat} {b : Bool} (h : (readN x k t a b).2 = true) : b = true ∧ readN x k t a b = ((x.1 ++ [(k, t, a)], x.2), true) := by
  unfold readN at h ⊢
  split at h
  · cases h
  rename_i hb
  split at h
  · cases h
  rename_i h6
  rw [if_neg hb, if_neg h6]
  exact ⟨by cases b <;> simp_all, rfl⟩
theorem readN_end {x : Rd} {k : Nat} {t : List UInt8} {a : Nat} {b : Bool} (h : (readN x k t a b).2 = false) : (readN x k t a b).1.2.1 ≠ 0 := by
  unfold readN at h ⊢
  split at h
  · rename_i hb; rw [if_pos hb]; simp
  rename_i hb
  split at h
  · rename_i h6; rw [if_neg hb, if_pos h6]; simp
  cases h
def sh (d : Nat) (t : Tk) : Tk := (t.1, t.2.1, d + t.2.2)
def shF (d : Nat) (f : Nat × Nat) : Nat × Nat := if f.1 = 0 then (0, 0) else (f.1, d + f.2)
theorem lex_at {s : List UInt8} : ∀ (m i : Nat) (x : Rd), m = s.length - i → i ≤ s.length → (∀ t ∈ x.1, t.2.2 ≤ s.length) → x.2.2 ≤ s.length → (∀ t ∈ (lexS readN s i x).1, t.2.2 ≤ s.length) ∧ (lexS readN s i x).2.2 ≤ s.length := by
  intro m
  induction m using Nat.strongRecOn with
  | _ m ih =>
    intro i x hm hi hx h0
    rcases Nat.lt_or_ge i s.length with hl | hl
    · cases hgo : (readN x (tokAt s i).1 (tokTx s i) i (tokAt s i).2.2).2 with
      | true =>
        have hN := readN_go hgo
        have h1 := tok_le hi
        have h2 := h1.2.2 hN.1
        have h3 := skipTo_le h1.2.1
        rw [lexS_go readN readN_no hl hgo]
        refine ih _ (by omega) _ _ rfl h3.1 ?_ (by rw [hN.2]; exact h0)
        rw [hN.2]
        intro t ht
        rcases List.mem_append.1 ht with ht | ht
        · exact hx t ht
        · obtain rfl := List.mem_singleton.1 ht; exact hi
      | false =>
        rw [lexS_end readN hl hgo]
        unfold readN at hgo ⊢
        split
        · exact ⟨hx, hi⟩
        · rename_i hb
          split
          · exact ⟨hx, hi⟩
          · rename_i h6; rw [if_neg hb, if_neg h6] at hgo; cases hgo
    · rw [lexS_stop readN (by omega)]; exact ⟨hx, h0⟩
theorem readP_at (s : List UInt8) : (∀ t ∈ (readP s).1, t.2.2 ≤ s.length) ∧ (readP s).2.2 ≤ s.length := by
  have h1 := skipTo_le (s := s) (Nat.zero_le _)
  have h2 := lex_at _ _ ([], 0, 0) rfl h1.1 (fun t ht => (List.not_mem_nil ht).elim) (Nat.zero_le _)
  unfold readP
  split
  · exact ⟨fun t ht => (List.not_mem_nil ht).elim, Nat.zero_le _⟩
  split
  · exact ⟨h2.1, Nat.zero_le _⟩
  exact ⟨fun t ht => (List.not_mem_nil ht).elim, h2.2⟩
end Go.Tok
end
section
namespace Go.Tok
theorem atP_take {p : UInt8 → Bool} {s : List UInt8} {j k : Nat} (h : k < j) : atP p (s.take j) k = atP p s k := by
  unfold atP; rw [List.getElem?_take_of_lt h]
end Go.Tok
end
section
namespace Go.Tok
inductive Chain (s : List UInt8) : Nat → List Tk → Prop
  | nil (i : Nat) : Chain s i []
  | cons {i e kd : Nat} {ts : List Tk} : i ≤ s.length → skipTo s i < s.length → tokAt s (skipTo s i) = (kd, e, true) → Chain s e ts → Chain s i ((kd, tokTx s (skipTo s i), skipTo s i) :: ts)
theorem chain_lex {s : List UInt8} : ∀ (m i : Nat) (x : Rd), m = s.length - i → i ≤ s.length → x.2 = (0, 0) → (lexS readN s (skipTo s i) x).2.1 = 0 → ∃ ts, (lexS readN s (skipTo s i) x).1 = x.1 ++ ts ∧ Chain s i ts := by
  intro m
  induction m using Nat.strongRecOn with
  | _ m ih =>
    intro i x hm hi h0 hz
    have hk := skipTo_le hi
    rcases Nat.lt_or_ge (skipTo s i) s.length with hl | hl
    · cases hgo : (readN x (tokAt s (skipTo s i)).1 (tokTx s (skipTo s i)) (skipTo s i) (tokAt s (skipTo s i)).2.2).2 with
      | true =>
        have hN := readN_go hgo
        have h1 := tok_le hk.1
        have h2 := h1.2.2 hN.1
        rw [lexS_go readN readN_no hl hgo] at hz ⊢
        rw [hN.2] at hz ⊢
        obtain ⟨ts, e1, e2⟩ := ih _ (by omega) (tokAt s (skipTo s i)).2.1 _ rfl h1.2.1 (by exact h0) hz
        exact ⟨_ :: ts, by rw [e1]; simp, Chain.cons hi hl (Prod.ext rfl (Prod.ext rfl hN.1)) e2⟩
      | false => rw [lexS_end readN hl hgo] at hz; exact absurd hz (readN_end hgo)
    · rw [lexS_stop readN (by omega)]
      exact ⟨[], by simp, .nil _⟩
theorem chain_read {s : List UInt8} (h : (readS s).2.1 = 0) : Chain s 0 (readS s).1 := by
  obtain ⟨ts, e1, e2⟩ := chain_lex _ 0 ([], 0, 0) rfl (Nat.zero_le _) rfl h
  have : (readS s).1 = ts := by simpa [readS] using e1
  rw [this]; exact e2
def Bl (R : List UInt8) : Prop := R = [] ∨ ∃ r, R = 32 :: r
theorem bl_at {p : UInt8 → Bool} {t R : List UInt8} {i : Nat} (hR : Bl R) (hp : p 32 = false) (h : i ≤ t.length) : atP p (t ++ R) i = atP p t i := by
  rcases Nat.lt_or_ge i t.length with hl | hl
  · unfold atP; rw [List.getElem?_append_left hl]
  have : i = t.length := by omega
  subst this
  rw [atP_out (Nat.le_refl _)]
  rcases hR with rfl | ⟨r, rfl⟩
  · rw [List.append_nil]; exact atP_out (Nat.le_refl _)
  unfold atP; rw [List.getElem?_append_right (Nat.le_refl _)]; simpa using hp
theorem cut_at {p : UInt8 → Bool} {s : List UInt8} {k e i : Nat} (he : e ≤ s.length) (h : k + i < e) : atP p ((s.drop k).take (e - k)) i = atP p s (k + i) := by
  rw [atP_take (by omega)]
  unfold atP; rw [List.getElem?_drop]
theorem cut_len {s : List UInt8} {k e : Nat} (he : e ≤ s.length) (h : k ≤ e) : ((s.drop k).take (e - k)).length = e - k := by simp; omega
theorem bl_cut {p : UInt8 → Bool} {s R : List UInt8} {k e i : Nat} (hR : Bl R) (hp : p 32 = false) (he : e ≤ s.length) (h : k + i ≤ e) : atP p ((s.drop k).take (e - k) ++ R) i = if k + i < e then atP p s (k + i) else false := by
  have hl := cut_len he (by omega : k ≤ e)
  rw [bl_at hR hp (by omega)]
  split
  · rename_i h2; exact cut_at he h2
  exact atP_out (by omega)
theorem run_cut {p : UInt8 → Bool} {s R : List UInt8} {k e : Nat} (hR : Bl R) (hp : p 32 = false) (he : e ≤ s.length) : ∀ (m i : Nat), m = e - (k + i) → k + i ≤ e → runTo p s (k + i) ≤ e → k + runTo p ((s.drop k).take (e - k) ++ R) i = runTo p s (k + i) := by
  intro m
  induction m with
  | zero =>
    intro i hm hi h
    have hg := runTo_ge p s (k + i)
    rw [runTo_stop (by rw [bl_cut hR hp he hi, if_neg (by omega)])]; omega
  | succ m ih =>
    intro i hm hi h
    have hb := bl_cut (i := i) hR hp he hi
    rw [if_pos (by omega)] at hb
    cases ha : atP p s (k + i) with
    | true =>
      rw [runTo_step ha, runTo_step (hb.trans ha)]
      exact ih (i + 1) (by omega) (by omega) (by rw [← Nat.add_assoc, ← runTo_step ha]; exact h)
    | false => rw [runTo_stop ha, runTo_stop (hb.trans ha)]
end Go.Tok
end
section
namespace Go.Tok
theorem and_cut {p q : UInt8 → Bool} {s R : List UInt8} {k e j i : Nat} (hR : Bl R) (hp : p 32 = false) (hq : q 32 = false) (he : e ≤ s.length) (hk : k ≤ j) (h : j ≤ e) (hi : i = j - k) (hend : (atP p s j && atP q s (j + 1)) = true → j + 2 ≤ e) :
    (atP p ((s.drop k).take (e - k) ++ R) i && atP q ((s.drop k).take (e - k) ++ R) (i + 1)) = (atP p s j && atP q s (j + 1)) := by
  subst hi
  have b1 := bl_cut (k := k) (i := j - k) hR hp he (by omega)
  rw [show k + (j - k) = j by omega] at b1
  rw [b1]
  split
  · rename_i h1
    have b2 := bl_cut (k := k) (i := j - k + 1) hR hq he (by omega)
    rw [show k + (j - k + 1) = j + 1 by omega] at b2
    rw [b2]
    split
    · rfl
    · cases hc : (atP p s j && atP q s (j + 1)) with
      | true => have := hend hc; omega
      | false => simp
  · cases hc : (atP p s j && atP q s (j + 1)) with
    | true => have := hend hc; omega
    | false => simp
theorem run_cut' {p : UInt8 → Bool} {s R : List UInt8} {k e j i : Nat} (hR : Bl R) (hp : p 32 = false) (he : e ≤ s.length) (hk : k ≤ j) (h : j ≤ e) (hi : i = j - k) (hr : runTo p s j ≤ e) : runTo p ((s.drop k).take (e - k) ++ R) i = runTo p s j - k := by
  subst hi
  have := run_cut (k := k) (i := j - k) hR hp he _ rfl (by omega) (by rw [show k + (j - k) = j by omega]; exact hr)
  rw [show k + (j - k) = j by omega] at this
  omega
theorem dot_cut {s R : List UInt8} {k e j i : Nat} (hR : Bl R) (he : e ≤ s.length) (hk : k ≤ j) (h : j ≤ e) (hi : i = j - k) (hr : numDot s j ≤ e) : numDot ((s.drop k).take (e - k) ++ R) i = numDot s j - k := by
  have ha := and_cut (p := eqB 46) (q := digitB) hR (by decide) (by decide) he hk h hi (fun hc => by
    unfold numDot at hr
    rw [if_pos hc] at hr
    simp only [Bool.and_eq_true] at hc
    have h1 := runTo_step hc.2
    have h2 := runTo_ge digitB s (j + 1 + 1)
    omega)
  unfold numDot at hr ⊢
  rw [ha]
  split
  · rename_i hc
    rw [if_pos hc] at hr
    exact run_cut' hR (by decide) he (by omega) (by have := runTo_ge digitB s (j + 1); omega) (by omega) hr
  exact hi
theorem tens_cut {s R : List UInt8} {k e j i : Nat} (hR : Bl R) (he : e ≤ s.length) (hk : k ≤ j) (h : j ≤ e) (hi : i = j - k) (hr : (numTens s j).2 = e) : numTens ((s.drop k).take (e - k) ++ R) i = ((numTens s j).1, e - k) := by
  by_cases c1 : (atP (eqB 101) s j && atP digitB s (j + 1)) = true
  · have hs : numTens s j = (runTo digitB s (j + 1) - (j + 1), runTo digitB s (j + 1)) := by unfold numTens; rw [if_pos c1]
    rw [hs] at hr ⊢
    simp only at hr ⊢
    have c1' := c1
    simp only [Bool.and_eq_true] at c1'
    have h1 := runTo_step c1'.2
    have h2 := runTo_ge digitB s (j + 1 + 1)
    have ha := and_cut (p := eqB 101) (q := digitB) hR (by decide) (by decide) he hk h hi (fun _ => by omega)
    have hrun := run_cut' (p := digitB) (i := i + 1) hR (by decide) he (by omega : k ≤ j + 1) (by omega) (by omega) (by omega)
    unfold numTens
    rw [ha, if_pos c1, hrun, hr]
    simp only [Prod.mk.injEq, and_true]; omega
  by_cases c2 : (atP (eqB 101) s j && (atP pmB s (j + 1) && atP digitB s (j + 2))) = true
  · have hs : numTens s j = (runTo digitB s (j + 2) - (j + 2), runTo digitB s (j + 2)) := by unfold numTens; rw [if_neg c1, if_pos c2]
    rw [hs] at hr ⊢
    simp only at hr ⊢
    have c2' := c2
    simp only [Bool.and_eq_true] at c2'
    have h1 := runTo_step c2'.2.2
    have h2 := runTo_ge digitB s (j + 2 + 1)
    have ha := and_cut (p := eqB 101) (q := digitB) hR (by decide) (by decide) he hk h hi (fun hc => absurd hc c1)
    have b0 := bl_cut (p := eqB 101) (k := k) (i := i) hR (by decide) he (by omega : k + i ≤ e)
    have b1 := bl_cut (p := pmB) (k := k) (i := i + 1) hR (by decide) he (by omega : k + (i + 1) ≤ e)
    have b2 := bl_cut (p := digitB) (k := k) (i := i + 2) hR (by decide) he (by omega : k + (i + 2) ≤ e)
    rw [if_pos (by omega), show k + i = j by omega] at b0
    rw [if_pos (by omega), show k + (i + 1) = j + 1 by omega] at b1
    rw [if_pos (by omega), show k + (i + 2) = j + 2 by omega] at b2
    have hrun := run_cut' (p := digitB) (i := i + 2) hR (by decide) he (by omega : k ≤ j + 2) (by omega) (by omega) (by omega)
    unfold numTens
    rw [ha, if_neg c1, b0, b1, b2, if_pos c2, hrun, hr]
    simp only [Prod.mk.injEq, and_true]; omega
  have hs : numTens s j = (0, j) := by unfold numTens; rw [if_neg c1, if_neg c2]
  rw [hs] at hr ⊢
  simp only at hr ⊢
  have b0 := bl_cut (p := eqB 101) (k := k) (i := i) hR (by decide) he (by omega : k + i ≤ e)
  rw [if_neg (by omega)] at b0
  unfold numTens
  rw [b0]
  simp only [Bool.false_and, Bool.false_eq_true, if_false, Prod.mk.injEq, true_and]
  omega
theorem num_cut {s R : List UInt8} {k e : Nat} (hR : Bl R) (he : e ≤ s.length) (hk : k ≤ e) (hn : numEnd s k = e) (hf : numFine s k = true) : numEnd ((s.drop k).take (e - k) ++ R) 0 = e - k ∧ numFine ((s.drop k).take (e - k) ++ R) 0 = true := by
  have h1 := runTo_le (p := digitB) (s := s) (i := k) (by omega)
  have h2 := numDot_le h1
  have h3 := numTens_le h2.1
  have g1 := runTo_ge digitB s k
  unfold numEnd at hn
  have e1 := run_cut' (p := digitB) (i := 0) (j := k) hR (by decide) he (Nat.le_refl _) hk (by omega) (by omega)
  have e2 := dot_cut (i := runTo digitB s k - k) (j := runTo digitB s k) hR he g1 (by omega) rfl (by omega)
  have e3 := tens_cut (i := numDot s (runTo digitB s k) - k) (j := numDot s (runTo digitB s k)) hR he (by omega) (by omega) rfl hn
  have hE : numEnd ((s.drop k).take (e - k) ++ R) 0 = e - k := by unfold numEnd; rw [e1, e2, e3]
  refine ⟨hE, ?_⟩
  unfold numFine at hf ⊢
  rw [hE, e1, e2, e3]
  simp only [Bool.and_eq_true] at hf
  have b := bl_cut (p := tailB) (k := k) (i := e - k) hR (by decide) he (by omega : k + (e - k) ≤ e)
  rw [if_neg (by omega)] at b
  rw [b]
  simp only [Bool.and_eq_true]
  exact ⟨hf.1, rfl⟩
end Go.Tok
end
section
namespace Go.Tree
open Go.Tok
theorem oneB_E {k : Nat} {s : Str} (h : (readP s).2.1 ≠ 0) : oneB k s = false := by unfold oneB; rw [decide_eq_false h]; rfl
theorem oneB_len {k : Nat} {s : Str} (h : (readP s).1.length ≠ 1) : oneB k s = false := by
  unfold oneB
  rw [Bool.and_eq_false_iff]; right
  split
  · rename_i t ht; rw [ht] at h; exact absurd rfl h
  rfl
theorem oneB_at {k : Nat} {s : Str} {t : Tk} (h0 : (readP s).2.1 = 0) (h1 : (readP s).1[0]? = some t) (hl : (readP s).1.length = 1) : oneB k s = (decide ((t.1 : Int) = (k : Int)) && decide (t.2.1 = s)) := by
  have h2 : (readP s).1 = [t] := by
    match hr : (readP s).1, hl with
    | [x], _ => rw [hr] at h1; simpa using h1
  unfold oneB
  rw [decide_eq_true h0, h2]
  have : decide (t.1 = k) = decide ((t.1 : Int) = (k : Int)) := by congr 1; apply propext; omega
  simp only [this, Bool.true_and]
theorem tokTx_word {s : Str} {i : Nat} (h : (tokAt s i).1 = 1) : (32 : UInt8) ∉ tokTx s i := by
  unfold tokTx
  unfold tokAt at h ⊢
  split
  · intro hm
    have e : (s.drop i).take (runTo wordB s i - i) = (s.drop i).takeWhile wordB := by
      unfold runTo
      rw [show i + ((s.drop i).takeWhile wordB).length - i = ((s.drop i).takeWhile wordB).length by omega]
      exact (List.prefix_iff_eq_take.1 (List.takeWhile_prefix wordB)).symm
    rw [e] at hm
    have := List.all_eq_true.1 (List.all_takeWhile (p := wordB) (l := s.drop i)) _ hm
    exact absurd this (by decide)
  rename_i hn
  rw [if_neg hn] at h
  split at h
  · cases h
  split at h <;> cases h
theorem lexF_names (s : Str) : ∀ (f i : Nat) (x : Rd), (∀ t ∈ x.1, t.1 = 1 → (32 : UInt8) ∉ t.2.1) → ∀ t ∈ (lexF readN s f i x).1, t.1 = 1 → (32 : UInt8) ∉ t.2.1
  | 0, _, x, h => h
  | f + 1, i, x, h => by
    have h2 : ∀ t ∈ (readN x (tokAt s i).1 (tokTx s i) i (tokAt s i).2.2).1.1, t.1 = 1 → (32 : UInt8) ∉ t.2.1 := by
      unfold readN
      split
      · exact h
      · split
        · exact h
        · intro t ht
          rcases List.mem_append.1 ht with ht | ht
          · exact h t ht
          · obtain rfl : t = _ := by simpa using ht
            exact fun hk => tokTx_word hk
    unfold lexF
    split
    · split
      · exact lexF_names s f _ _ h2
      · exact h2
    · exact h
theorem readP_names (s : Str) : ∀ t ∈ (readP s).1, t.1 = 1 → (32 : UInt8) ∉ t.2.1 := by
  have h : ∀ t ∈ (readS s).1, t.1 = 1 → (32 : UInt8) ∉ t.2.1 := lexF_names s _ _ _ (fun t ht => (List.not_mem_nil ht).elim)
  unfold readP
  split
  · exact fun t ht => (List.not_mem_nil ht).elim
  split
  · exact h
  exact fun t ht => (List.not_mem_nil ht).elim
theorem one_name {s : Str} (h : oneB 1 s = true) : (32 : UInt8) ∉ s := by
  unfold oneB at h
  rw [Bool.and_eq_true] at h
  obtain ⟨_, h2⟩ := h
  split at h2
  · rename_i t ht
    simp only [Bool.and_eq_true, decide_eq_true_eq] at h2
    have := readP_names s t (by rw [ht]; exact .head _) h2.1
    rwa [h2.2] at this
  cases h2
theorem index_iff {sub : List UInt8} (hs : sub ≠ []) : ∀ s : List UInt8, 0 ≤ Lib.index s sub ↔ ∃ i, sub.isPrefixOf (s.drop i) = true
  | [] => by
    have : sub.isEmpty = false := by cases sub with | nil => exact absurd rfl hs | cons => rfl
    unfold Lib.index
    rw [this]
    constructor
    · intro h; exact absurd h (by decide)
    · rintro ⟨i, hi⟩
      cases sub with
      | nil => exact absurd rfl hs
      | cons a l => simp at hi
  | b :: l => by
    have ih := index_iff hs l
    have hg := Lib.index_ge l sub
    unfold Lib.index
    split
    · rename_i hp
      exact ⟨fun _ => ⟨0, by simpa using hp⟩, fun _ => Int.le_refl _⟩
    · rename_i hp
      split
      · rename_i h1
        have h1 : Lib.index l sub = -1 := by simpa using h1
        constructor
        · intro h; exact absurd h (by decide)
        · rintro ⟨i, hi⟩
          cases i with
          | zero => exact absurd (by simpa using hi) hp
          | succ i => have := ih.2 ⟨i, by simpa using hi⟩; omega
      · rename_i h1
        have h1 : ¬ Lib.index l sub = -1 := by simpa using h1
        constructor
        · intro _
          obtain ⟨i, hi⟩ := ih.1 (by omega)
          exact ⟨i + 1, by simpa using hi⟩
        · intro _; omega
theorem words_fwd : ∀ i, i < 112 → (wordsT.drop i).head? = some 32 → i = 111 ∨ wordsL.contains ((wordsT.drop (i + 1)).takeWhile (fun b => b != 32)) = true := by decide +kernel
theorem words_bwd : ∀ x ∈ wordsL, Lib.contains wordsT ([32] ++ x ++ [32]) = true := by decide +kernel
theorem words_len : wordsT.length = 112 := by decide +kernel
theorem take_while_stop (s : List UInt8) (hs : (32 : UInt8) ∉ s) (r : List UInt8) : (s ++ 32 :: r).takeWhile (fun b => b != 32) = s := by
  induction s with
  | nil => simp
  | cons a l ih =>
    have ha : a ≠ 32 := fun h => hs (by simp [h])
    have hl : (32 : UInt8) ∉ l := fun h => hs (List.mem_cons_of_mem _ h)
    rw [List.cons_append, List.takeWhile_cons, if_pos (by simpa using ha), ih hl]
theorem words_contains {s : Str} (hs : (32 : UInt8) ∉ s) : Lib.contains wordsT ([32] ++ s ++ [32]) = wordsL.contains s := by
  rw [Bool.eq_iff_iff]
  constructor
  · intro h
    unfold Lib.contains at h
    obtain ⟨i, hi⟩ := (index_iff (by simp) _).1 (of_decide_eq_true h)
    obtain ⟨r, hr⟩ := List.isPrefixOf_iff_prefix.1 hi
    have hl : i < 112 := by
      rcases Nat.lt_or_ge i 112 with h1 | h1
      · exact h1
      rw [List.drop_eq_nil_of_le (by rw [words_len]; exact h1)] at hr; simp at hr
    have e1 : wordsT.drop i = 32 :: (s ++ 32 :: r) := by rw [← hr]; simp
    have e2 : wordsT.drop (i + 1) = s ++ 32 :: r := by
      rw [← List.drop_drop, e1]; rfl
    rcases words_fwd i hl (by rw [e1]; rfl) with h1 | h1
    · subst h1
      rw [List.drop_eq_nil_of_le (by rw [words_len]; exact Nat.le_refl _)] at e2
      simp at e2
    rw [e2, take_while_stop s hs] at h1; exact h1
  intro h
  exact words_bwd s (by simpa using h)
theorem nameOk_one {s : Str} (h : oneB 1 s = true) : nameOk s = !Lib.contains wordsT ([32] ++ s ++ [32]) := by
  unfold nameOk; rw [h, words_contains (one_name h)]; rfl
theorem nameOk_no {s : Str} (h : oneB 1 s = false) : nameOk s = false := by unfold nameOk; rw [h]; rfl
def firstI {α : Type} (p : α → Bool) (l : List α) : Int := match l.findIdx? p with | some k => k | none => -1
theorem take_all {α : Type} {p : α → Bool} {l : List α} {k : Nat} {x : α} (h : ∀ y ∈ l.take k, p y = false) (hx : l[k]? = some x) (hp : p x = false) : ∀ y ∈ l.take (k + 1), p y = false := by
  obtain ⟨hk, hg⟩ := List.getElem?_eq_some_iff.1 hx
  intro y hy
  rw [List.take_succ_eq_append_getElem hk, List.mem_append, hg] at hy
  rcases hy with hy | hy
  · exact h y hy
  obtain rfl : y = x := by simpa using hy
  exact hp
end Go.Tree
end
section
namespace Go.Tree
open Go.Tok
def brk (s : Str) : Bool := s == [123] || s == [125] || s == [59]
def endT (n k : Nat) (s : Str) : Str := if brk s then [10] else if k + 1 < n then [32] else []
def textTo (xs : List Str) (k : Nat) : Str := (List.range k).flatMap fun i => xs.getD i [] ++ endT xs.length i (xs.getD i [])
def textT (xs : List Str) : Str := textTo xs xs.length
attribute [irreducible] textTo
end Go.Tree
end
section
namespace Go.Tree
open Go.Tok
def headS : Nat → Str
  | 0 => [100, 97, 116, 97]
  | 1 => [116, 114, 97, 110, 115, 102, 111, 114, 109, 101, 100, 32, 100, 97, 116, 97]
  | 2 => [112, 97, 114, 97, 109, 101, 116, 101, 114, 115]
  | 3 => [116, 114, 97, 110, 115, 102, 111, 114, 109, 101, 100, 32, 112, 97, 114, 97, 109, 101, 116, 101, 114, 115]
  | 4 => [109, 111, 100, 101, 108]
  | 5 => [103, 101, 110, 101, 114, 97, 116, 101, 100, 32, 113, 117, 97, 110, 116, 105, 116, 105, 101, 115]
  | _ => []
def headW : Nat → List Str
  | 0 => [[100, 97, 116, 97]]
  | 1 => [[116, 114, 97, 110, 115, 102, 111, 114, 109, 101, 100], [100, 97, 116, 97]]
  | 2 => [[112, 97, 114, 97, 109, 101, 116, 101, 114, 115]]
  | 3 => [[116, 114, 97, 110, 115, 102, 111, 114, 109, 101, 100], [112, 97, 114, 97, 109, 101, 116, 101, 114, 115]]
  | 4 => [[109, 111, 100, 101, 108]]
  | 5 => [[103, 101, 110, 101, 114, 97, 116, 101, 100], [113, 117, 97, 110, 116, 105, 116, 105, 101, 115]]
  | _ => []
def dcsT (l : List Dc) : List Str := l.flatMap dcT
def bkT (i : Nat) (b : Bk) : List Str := if b.is then headW i ++ [[123]] ++ dcsT b.decls ++ (smsT b.stmts).flatten ++ [[125]] else []
def pgTo (p : List Bk) (i : Nat) : List Str := (List.range i).flatMap fun j => match p[j]? with | some b => bkT j b | none => []
def pgT (p : List Bk) : List Str := pgTo p 6
attribute [irreducible] pgTo
end Go.Tree
end
section
namespace Go.Tree
mutual
def exN : Ex → Nat
  | .mk _ _ _ ks => 1 + exsN ks
def exsN : List Ex → Nat
  | [] => 0
  | e :: l => exN e + exsN l
end
end Go.Tree
end
section
namespace Go.Tree
mutual
def smN : Sm → Nat
  | .mk _ _ _ ks b e => 1 + exsN ks + smsN b + smsN e
def smsN : List Sm → Nat
  | [] => 0
  | s :: l => smN s + smsN l
end
end Go.Tree
end
section
namespace Go.Tree
def dcN (d : Dc) : Nat := 1 + (exsN d.size + exsN d.lower + exsN d.upper + exsN d.init)
def dcsN : List Dc → Nat
  | [] => 0
  | d :: l => dcN d + dcsN l
def bkN (b : Bk) : Nat := smsN b.stmts + dcsN b.decls
def pgNTo (p : List Bk) (i : Nat) : Nat := ((List.range i).map fun j => match p[j]? with | some b => bkN b | none => 0).sum
def pgN (p : List Bk) : Nat := pgNTo p 6
end Go.Tree
end
section
namespace Go.Tree
mutual
def exLong : Ex → Bool
  | .mk _ _ nm ks => decide (200 < nm.length) || exsLong ks
def exsLong : List Ex → Bool
  | [] => false
  | e :: l => exLong e || exsLong l
end
mutual
def smLong : Sm → Bool
  | .mk _ _ nm ks b e => decide (200 < nm.length) || exsLong ks || smsLong b || smsLong e
def smsLong : List Sm → Bool
  | [] => false
  | e :: l => smLong e || smsLong l
end
def dcLong (d : Dc) : Bool := decide (200 < d.nm.length) || exsLong d.size || exsLong d.lower || exsLong d.upper || exsLong d.init
def bkLong (b : Bk) : Bool := smsLong b.stmts || b.decls.any dcLong
def pgLong (p : List Bk) : Bool := p.any bkLong
def exSmall (x : Ex) : Bool := decide (exN x ≤ 400) && !exLong x
def pgSmall (p : List Bk) : Bool := decide (pgN p ≤ 600) && !pgLong p
mutual
def exSame : Ex → Ex → Bool
  | .mk o _ n k, y => decide (o = y.op) && (decide (n = y.nm) && exsSame k y.kids)
def exsSame : List Ex → List Ex → Bool
  | [], m => m.isEmpty
  | x :: l, m => match m with
    | [] => false
    | y :: m => exSame x y && exsSame l m
end
def pairOk {α : Type} (q : α → α → Bool) (l m : List α) : Bool := decide (l.length = m.length) && (l.zip m).all (fun p => q p.1 p.2)
namespace Sm
def nm : Sm → Str | .mk _ _ n _ _ _ => n
def kids : Sm → List Ex | .mk _ _ _ k _ _ => k
def body : Sm → List Sm | .mk _ _ _ _ b _ => b
def els : Sm → List Sm | .mk _ _ _ _ _ e => e
end Sm
mutual
def smSame : Sm → Sm → Bool
  | .mk o _ n k b e, y => decide (o = y.op) && (decide (n = y.nm) && (exsSame k y.kids && (smsSame b y.body && smsSame e y.els)))
def smsSame : List Sm → List Sm → Bool
  | [], m => m.isEmpty
  | x :: l, m => match m with
    | [] => false
    | y :: m => smSame x y && smsSame l m
end
def dcSame (c d : Dc) : Bool := decide (c.ty = d.ty) && (decide (c.nm = d.nm) && (exsSame c.size d.size && (exsSame c.lower d.lower && (exsSame c.upper d.upper && exsSame c.init d.init))))
def bkSame (x y : Bk) : Bool := decide (x.is = y.is) && (pairOk dcSame x.decls y.decls && smsSame x.stmts y.stmts)
def pgSame (p q : List Bk) : Bool := pairOk bkSame p q
end Go.Tree
end
section
namespace Go.Prs
open Go.Tok Go.Tree
abbrev Fl := Nat × Nat
def place (z : Nat) : List Tk → Nat
  | [] => z
  | t :: _ => t.2.2
def isW (x : Str) : List Tk → Bool
  | [] => false
  | t :: _ => !decide (t.1 = 2) && decide (t.2.1 = x)
def named : List Tk → Bool
  | [] => false
  | t :: _ => decide (t.1 = 1) && nameOk t.2.1
def txt : List Tk → Str
  | [] => []
  | t :: _ => t.2.1
abbrev Rs (α : Type) := Except Fl (α × List Tk)
def andR {α β : Type} (x : Rs α) (f : α → List Tk → Except Fl β) : Except Fl β :=
  match x with
  | .ok (a, r) => f a r
  | .error e => .error e
theorem andR_ok {α β : Type} (a : α) (r : List Tk) (f : α → List Tk → Except Fl β) : andR (.ok (a, r)) f = f a r := rfl
theorem andR_no {α β : Type} (e : Fl) (f : α → List Tk → Except Fl β) : andR (.error e) f = .error e := rfl
def nowT (z : Nat) : List Tk → Tk
  | [] => (0, [], z)
  | t :: _ => t
def want {β : Type} (z : Nat) (x : Str) (ts : List Tk) (f : List Tk → Except Fl β) : Except Fl β := if isW x ts then f ts.tail else .error (130, place z ts)
def opn {β : Type} (z o : Nat) (x : Str) (ts : List Tk) (f : List Tk → Except Fl β) : Except Fl β := if isW x ts then (if o < 64 then f ts.tail else .error (131, place z ts)) else .error (130, place z ts)
def name {β : Type} (z : Nat) (ts : List Tk) (f : Str → List Tk → Except Fl β) : Except Fl β := if named ts then f (txt ts) ts.tail else .error (130, place z ts)
def nameX (z : Nat) (ts : List Tk) : Rs Str := if named ts = true then .ok (txt ts, ts.tail) else .error (130, place z ts)
def pair (op : Nat) (a b : Ex) : Ex := .mk op a.at_ [] [a, b]
def setAt (e : Ex) (a : Int) : Ex := .mk e.op a e.nm e.kids
mutual
def pSum (z : Nat) : Nat → List Tk → Nat → Rs Ex
  | 0, _, _ => .error (0, 0)
  | n + 1, ts, o => andR (pProd z n ts o) fun e r => pSumL z n e r o
def pSumL (z : Nat) : Nat → Ex → List Tk → Nat → Rs Ex
  | 0, _, _, _ => .error (0, 0)
  | n + 1, e, ts, o =>
    if isW [43] ts then andR (pProd z n ts.tail o) fun k r => pSumL z n (pair 6 e k) r o
    else if isW [45] ts then andR (pProd z n ts.tail o) fun k r => pSumL z n (pair 7 e k) r o
    else .ok (e, ts)
def pProd (z : Nat) : Nat → List Tk → Nat → Rs Ex
  | 0, _, _ => .error (0, 0)
  | n + 1, ts, o => andR (pSign z n ts o) fun e r => pProdL z n e r o
def pProdL (z : Nat) : Nat → Ex → List Tk → Nat → Rs Ex
  | 0, _, _, _ => .error (0, 0)
  | n + 1, e, ts, o =>
    if isW [42] ts then andR (pSign z n ts.tail o) fun k r => pProdL z n (pair 8 e k) r o
    else if isW [47] ts then andR (pSign z n ts.tail o) fun k r => pProdL z n (pair 9 e k) r o
    else .ok (e, ts)
def pSign (z : Nat) : Nat → List Tk → Nat → Rs Ex
  | 0, _, _ => .error (0, 0)
  | n + 1, ts, o =>
    if isW [45] ts then opn z o [45] ts fun r => andR (pSign z n r (o + 1)) fun k r => .ok (.mk 5 (place z ts) [] [k], r)
    else if isW [40] ts then opn z o [40] ts fun r => andR (pSum z n r (o + 1)) fun e r => want z [41] r fun r => .ok (setAt e (place z ts), r)
    else match ts with
      | [] => .error (130, z)
      | t :: r =>
        if t.1 = 2 then (if 400 < t.2.1.length then .error (3, t.2.2) else .ok (.mk 1 t.2.2 t.2.1 [], r))
        else name z (t :: r) fun nm r =>
          if isW [91] r then opn z o [91] r fun r => andR (pSum z n r (o + 1)) fun k r => want z [93] r fun r => .ok (.mk 3 t.2.2 nm [k], r)
          else if isW [40] r then opn z o [40] r fun r => andR (pSums z n r (o + 1)) fun l r => want z [41] r fun r => .ok (.mk 4 t.2.2 nm l, r)
          else .ok (.mk 2 t.2.2 nm [], r)
def pSums (z : Nat) : Nat → List Tk → Nat → Rs (List Ex)
  | 0, _, _ => .error (0, 0)
  | n + 1, ts, o => if isW [41] ts then .ok ([], ts) else andR (pSum z n ts o) fun e r => pSumsL z n [e] r o
def pSumsL (z : Nat) : Nat → List Ex → List Tk → Nat → Rs (List Ex)
  | 0, _, _, _ => .error (0, 0)
  | n + 1, l, ts, o => if isW [44] ts then andR (pSum z n ts.tail o) fun e r => pSumsL z n (l ++ [e]) r o else .ok (l, ts)
end
def cmpS : List Str := [[61, 61], [33, 61], [60], [60, 61], [62], [62, 61]]
def cmpU : Nat → List Tk → Nat
  | 0, _ => 0
  | i + 1, ts => if cmpU i ts = 0 then (if isW (cmpS.getD i []) ts = true then 10 + i else 0) else cmpU i ts
def setS : Sm → Int → Sm | .mk o _ n k b e, a => .mk o a n k b e
def pAdd (z n : Nat) (ts : List Tk) (o : Nat) : Rs Sm := want z [116, 97, 114, 103, 101, 116] ts fun r => want z [43, 61] r fun r => andR (pSum z n r o) fun e r => want z [59] r fun r => .ok (.mk 2 0 [] [e] [] [], r)
def pLoopC (body : List Tk → Rs (List Sm)) (z : Nat) (nm : Str) (x y : Ex) (r : List Tk) : Rs Sm := want z [41] r fun r => andR (body r) fun b r => .ok (.mk 4 0 nm [x, y] b [], r)
def pLoopB (body : List Tk → Rs (List Sm)) (z n o : Nat) (nm : Str) (x : Ex) (r : List Tk) : Rs Sm := want z [58] r fun r => andR (pSum z n r (o + 1)) fun y r => pLoopC body z nm x y r
def pLoop (body : List Tk → Rs (List Sm)) (z n : Nat) (ts : List Tk) (o : Nat) : Rs Sm := want z [102, 111, 114] ts fun r => opn z o [40] r fun r => andR (nameX z r) fun nm r => want z [105, 110] r fun r => andR (pSum z n r (o + 1)) fun x r => pLoopB body z n o nm x r
def pChoiceB (body : List Tk → Rs (List Sm)) (z : Nat) (x : Ex) (r : List Tk) : Rs Sm := want z [41] r fun r => andR (body r) fun b r =>
  if isW [101, 108, 115, 101] r = true then andR (body r.tail) fun e r => .ok (.mk 5 0 [] [x] b e, r) else .ok (.mk 5 0 [] [x] b [], r)
def pChoiceA (body : List Tk → Rs (List Sm)) (z n o : Nat) (x : Ex) (r : List Tk) : Rs Sm :=
  if cmpU 6 r = 0 then .error (130, place z r) else andR (pSum z n r.tail (o + 1)) fun y r' => pChoiceB body z (pair (cmpU 6 r) x y) r'
def pChoice (body : List Tk → Rs (List Sm)) (z n : Nat) (ts : List Tk) (o : Nat) : Rs Sm := want z [105, 102] ts fun r => opn z o [40] r fun r => andR (pSum z n r (o + 1)) fun x r => pChoiceA body z n o x r
def pPlainB (z n o : Nat) (pl : Bool) (e : Ex) (r : List Tk) : Rs Sm :=
  if (pl && isW [61] r) = true then andR (pSum z n r.tail o) fun k r => want z [59] r fun r => .ok (.mk 1 0 e.nm (e.kids ++ [k]) [] [], r)
  else want z [126] r fun r => andR (nameX z r) fun nm r => opn z o [40] r fun r => andR (pSums z n r (o + 1)) fun l r => want z [41] r fun r => want z [59] r fun r => .ok (.mk 3 0 nm (e :: l) [] [], r)
def pPlain (z n : Nat) (ts : List Tk) (o : Nat) : Rs Sm := andR (pSum z n ts o) fun e r => pPlainB z n o (named ts && (decide (e.op = 2) || decide (e.op = 3))) e r
mutual
def pStmt (z : Nat) : Nat → List Tk → Nat → Rs Sm
  | 0, _, _ => .error (0, 0)
  | n + 1, ts, o => andR (
      if isW [116, 97, 114, 103, 101, 116] ts = true then pAdd z n ts o
      else if isW [102, 111, 114] ts = true then pLoop (fun r => pBody z n r o) z n ts o
      else if isW [105, 102] ts = true then pChoice (fun r => pBody z n r o) z n ts o
      else if isW [123] ts = true then andR (pBody z n ts o) fun b r => .ok (.mk 6 0 [] [] b [], r)
      else pPlain z n ts o) fun s r => .ok (setS s ((nowT z ts).2.2 : Nat), r)
def pBody (z : Nat) : Nat → List Tk → Nat → Rs (List Sm)
  | 0, _, _ => .error (0, 0)
  | n + 1, ts, o => opn z o [123] ts fun r => andR (pStmts z n [] r (o + 1)) fun l r => want z [125] r fun r => .ok (l, r)
def pStmts (z : Nat) : Nat → List Sm → List Tk → Nat → Rs (List Sm)
  | 0, _, _, _ => .error (0, 0)
  | n + 1, l, ts, o => if isW [125] ts = true then .ok (l, ts) else andR (pStmt z n ts o) fun s r => pStmts z n (l ++ [s]) r o
end
def pSize (z n : Nat) (ts : List Tk) (o : Nat) : Rs (List Ex) := opn z o [91] ts fun r => andR (pSum z n r (o + 1)) fun e r => want z [93] r fun r => .ok ([e], r)
def pUpper (z n : Nat) (lo : List Ex) (ts : List Tk) (o : Nat) : Rs (List Ex × List Ex) := want z [117, 112, 112, 101, 114] ts fun r => want z [61] r fun r => andR (pSum z n r o) fun e r => want z [62] r fun r => .ok ((lo, [e]), r)
def pBoundsB (z n o : Nat) (e : Ex) (r : List Tk) : Rs (List Ex × List Ex) := if isW [44] r = true then pUpper z n [e] r.tail o else want z [62] r fun r => .ok (([e], []), r)
def pBounds (z n : Nat) (ts : List Tk) (o : Nat) : Rs (List Ex × List Ex) :=
  if isW [60] ts = true then
    (if isW [108, 111, 119, 101, 114] ts.tail = true then want z [61] ts.tail.tail fun r => andR (pSum z n r o) fun e r => pBoundsB z n o e r
    else pUpper z n [] ts.tail o)
  else .ok (([], []), ts)
def pDeclE (z ty a : Nat) (nm : Str) (size lo up init : List Ex) (r : List Tk) : Rs (Bool × Dc) := want z [59] r fun r => .ok ((true, ⟨ty, a, nm, size, lo, up, init⟩), r)
def pDeclN (z n : Nat) (first : Bool) (ty a o : Nat) (size lo up : List Ex) (nm : Str) (r : List Tk) : Rs (Bool × Dc) :=
  if ((first && decide (ty ≤ 3)) && isW [61] r) = true then andR (pSum z n r.tail o) fun e r => pDeclE z ty a nm size lo up [e] r else pDeclE z ty a nm size lo up [] r
def pDeclV (z n : Nat) (first : Bool) (ty a o : Nat) (size lo up : List Ex) (r : List Tk) : Rs (Bool × Dc) := andR (nameX z r) fun nm r => pDeclN z n first ty a o size lo up nm r
def pDeclU (z n : Nat) (first : Bool) (ty a o : Nat) (size : List Ex) (b : List Ex × List Ex) (r : List Tk) : Rs (Bool × Dc) :=
  if ty = 3 then andR (pSize z n r o) fun size r => pDeclV z n first ty a o size b.1 b.2 r else pDeclV z n first ty a o size b.1 b.2 r
def pDeclT (z n : Nat) (first : Bool) (ty a o : Nat) (size : List Ex) (ts : List Tk) : Rs (Bool × Dc) := andR (pBounds z n ts o) fun b r => pDeclU z n first ty a o size b r
def pDecl (z n : Nat) (first : Bool) (ts : List Tk) (o : Nat) : Rs (Bool × Dc) :=
  if isW [105, 110, 116] ts = true then pDeclT z n first 1 (nowT z ts).2.2 o [] ts.tail
  else if isW [114, 101, 97, 108] ts = true then pDeclT z n first 2 (nowT z ts).2.2 o [] ts.tail
  else if isW [118, 101, 99, 116, 111, 114] ts = true then pDeclT z n first 3 (nowT z ts).2.2 o [] ts.tail
  else if isW [97, 114, 114, 97, 121] ts = true then andR (pSize z n ts.tail o) fun size r =>
    if isW [105, 110, 116] r = true then pDeclT z n first 4 (nowT z ts).2.2 o size r.tail else want z [114, 101, 97, 108] r fun r => pDeclT z n first 5 (nowT z ts).2.2 o size r
  else .ok ((false, ⟨0, (nowT z ts).2.2, [], [], [], [], []⟩), ts)
def pDecls (z : Nat) : Nat → Bool → List Dc → List Tk → Nat → Rs (List Dc)
  | 0, _, _, _, _ => .error (0, 0)
  | n + 1, first, l, ts, o => andR (pDecl z n first ts o) fun d r => if d.1 = true then pDecls z n first (l ++ [d.2]) r o else .ok (l, r)
def pFillE (z : Nat) (ds : List Dc) (ss : List Sm) (r : List Tk) : Rs Bk := want z [125] r fun r => .ok (⟨true, ds, ss⟩, r)
def pFillS (z n i o : Nat) (ds : List Dc) (r : List Tk) : Rs Bk := if gv i = true then pFillE z ds [] r else andR (pStmts z n [] r (o + 1)) fun ss r => pFillE z ds ss r
def pFillD (z n q i o : Nat) (l : List Dc) (r : List Tk) : Rs Bk := andR (if i = 4 then .ok (l, r) else pDecls z q (!gv i) l r (o + 1)) fun ds r => pFillS z n i o ds r
def pFill (z n i : Nat) (ts : List Tk) (o : Nat) : Rs Bk := opn z o [123] ts fun r => pFillD z n n i o [] r
def pHead (z last : Nat) (ts : List Tk) : Rs (Nat × Bool) :=
  if (decide (last < 1) && isW [100, 97, 116, 97] ts) = true then .ok ((0, true), ts.tail)
  else if (decide (last < 4) && isW [116, 114, 97, 110, 115, 102, 111, 114, 109, 101, 100] ts) = true then
    (if (decide (last < 2) && isW [100, 97, 116, 97] ts.tail) = true then .ok ((1, true), ts.tail.tail) else want z [112, 97, 114, 97, 109, 101, 116, 101, 114, 115] ts.tail fun r => .ok ((3, true), r))
  else if (decide (last < 3) && isW [112, 97, 114, 97, 109, 101, 116, 101, 114, 115] ts) = true then .ok ((2, true), ts.tail)
  else if (decide (last < 5) && isW [109, 111, 100, 101, 108] ts) = true then .ok ((4, true), ts.tail)
  else if (decide (last < 6) && isW [103, 101, 110, 101, 114, 97, 116, 101, 100] ts) = true then want z [113, 117, 97, 110, 116, 105, 116, 105, 101, 115] ts.tail fun r => .ok ((5, true), r)
  else .ok ((0, false), ts)
def noBk : Bk := ⟨false, [], []⟩
def pProg (z : Nat) : Nat → Nat → List Bk → List Tk → Rs (List Bk)
  | 0, _, _, _ => .error (0, 0)
  | n + 1, last, out, ts => andR (pHead z last ts) fun i r => if i.2 = true then andR (pFill z n i.1 r 0) fun b r => pProg z n (i.1 + 1) (out.set i.1 b) r else .ok (out, r)
def whole {α : Type} (z : Nat) (x : Rs α) : Except Fl α := andR x fun a r => match r with
  | [] => .ok a
  | t :: _ => .error (130, t.2.2)
def fuel (ts : List Tk) : Nat := 8 * ts.length + 16
def face {α : Type} (s : Str) (f : Nat → Nat → List Tk → Rs α) : Except Fl α :=
  if (readP s).2.1 = 0 then whole s.length (f s.length (fuel (readP s).1) (readP s).1) else .error (readP s).2
def parseP (s : Str) : Except Fl (List Bk) := face s fun z n ts => pProg z n 0 (List.replicate 6 noBk) ts
def exprP (s : Str) : Except Fl Ex := face s fun z n ts => pSum z n ts 0
theorem place_now (z : Nat) (ts : List Tk) : place z ts = (nowT z ts).2.2 := by cases ts <;> rfl
def openB (x : Str) : Bool := decide (x = [40]) || decide (x = [91]) || decide (x = [123])
def closeB (x : Str) : Bool := decide (x = [41]) || decide (x = [93]) || decide (x = [125])
def upo (x : Str) (o : Nat) : Nat := if openB x = true then o + 1 else if closeB x = true then o - 1 else o
def upos : Nat → List Str → Nat
  | o, [] => o
  | o, x :: xs => upos (upo x o) xs
def wants (z : Nat) : Nat → List Str → List Tk → Rs Nat
  | o, [], ts => .ok (o, ts)
  | o, x :: xs, ts => if isW x ts = true then (if openB x = true ∧ ¬ o < 64 then .error (131, place z ts) else wants z (upo x o) xs ts.tail) else .error (130, place z ts)
section
variable {z n o : Nat} {ts : List Tk} {e : Ex} {l : List Ex}
def pTail (z n o a : Nat) (nm : Str) (r : List Tk) : Rs Ex :=
  if isW [91] r = true then opn z o [91] r fun r => andR (pSum z n r (o + 1)) fun k r => want z [93] r fun r => .ok (.mk 3 a nm [k], r)
  else if isW [40] r = true then opn z o [40] r fun r => andR (pSums z n r (o + 1)) fun l r => want z [41] r fun r => .ok (.mk 4 a nm l, r)
  else .ok (.mk 2 a nm [], r)
end
end Go.Prs
end
section
namespace Go.Feed
open Go.Tok Go.Tree Go.Prs Go.Num
abbrev Rt := Int × Nat
def mkR (s : Bool) (n d : Nat) : Rt := (iv s (n / Nat.gcd n d), d / Nat.gcd n d)
def ngR (x : Rt) : Rt := mkR (!ng x.1) x.1.natAbs x.2
def i1 (s : Str) : Nat := runTo digitB s 0
def dotB (s : Str) : Bool := atP (eqB 46) s (i1 s)
def i2 (s : Str) : Nat := if dotB s = true then runTo digitB s (i1 s + 1) else i1 s
def exB (s : Str) : Bool := atP (eqB 101) s (i2 s)
def plB (s : Str) : Bool := atP (eqB 43) s (i2 s + 1)
def mnB (s : Str) : Bool := atP (eqB 45) s (i2 s + 1)
def k0 (s : Str) : Nat := if (plB s || mnB s) = true then i2 s + 2 else i2 s + 1
def k1 (s : Str) : Nat := runTo digitB s (k0 s)
structure NumT (s : Str) : Prop where
  a : 0 < i1 s
  b : dotB s = true → i1 s + 1 < i2 s
  c : exB s = true → k0 s < k1 s ∧ k1 s ≤ k0 s + 4 ∧ k1 s = s.length
  d : exB s = false → i2 s = s.length
def cutS (s : Str) (i j : Nat) : Str := (s.drop i).take (j - i)
def digs (s : Str) : Str := s.take (i1 s) ++ (if dotB s = true then cutS s (i1 s + 1) (i2 s) else [])
def expo (s : Str) : Nat := pv 0 (cutS s (k0 s) (k1 s))
def powr (s : Str) : Int := (if dotB s = true then -((i2 s - (i1 s + 1) : Nat) : Int) else 0) + (if exB s = true then iv (mnB s) (expo s) else 0)
def numV (s : Str) : Rt := if powr s < 0 then mkR false (pv 0 (digs s)) (10 ^ (powr s).natAbs) else mkR false (pv 0 (digs s) * 10 ^ (powr s).natAbs) 1
def wholeT (s : Str) : Bool := !s.any (fun b => b == 46 || b == 101)
theorem pm_eq (s : Str) (i : Nat) : atP pmB s i = (atP (eqB 43) s i || atP (eqB 45) s i) := by
  unfold atP
  cases s[i]? <;> rfl
theorem digit_not {s : Str} {i : Nat} (h : atP digitB s i = true) : atP (eqB 46) s i = false ∧ atP (eqB 101) s i = false ∧ atP (eqB 43) s i = false ∧ atP (eqB 45) s i = false := by
  have hl := atP_lt h
  rw [atP_in hl] at h
  rw [atP_in hl, atP_in hl, atP_in hl, atP_in hl]
  revert h
  exact byte_all (fun b => digitB b = true → eqB 46 b = false ∧ eqB 101 b = false ∧ eqB 43 b = false ∧ eqB 45 b = false) (by decide +kernel) _
theorem dot_not {s : Str} {i : Nat} (h : atP (eqB 46) s i = true) : atP (eqB 101) s i = false ∧ atP tailB s i = true ∧ atP digitB s i = false := by
  have hl := atP_lt h
  rw [atP_in hl] at h
  rw [atP_in hl, atP_in hl, atP_in hl]
  revert h
  exact byte_all (fun b => eqB 46 b = true → eqB 101 b = false ∧ tailB b = true ∧ digitB b = false) (by decide +kernel) _
theorem pl_not {s : Str} {i : Nat} (h : atP (eqB 43) s i = true) : atP (eqB 45) s i = false := by
  have hl := atP_lt h
  rw [atP_in hl] at h
  rw [atP_in hl]
  revert h
  exact byte_all (fun b => eqB 43 b = true → eqB 45 b = false) (by decide +kernel) _
theorem numT_of {s : Str} (hd : atP digitB s 0 = true) (he : numEnd s 0 = s.length) (hf : numFine s 0 = true) : NumT s := by
  have ha : 0 < i1 s := digit_run hd
  unfold numFine at hf
  rw [Bool.and_eq_true, decide_eq_true_eq] at hf
  rw [he] at hf
  have h2 : numDot s (i1 s) = i2 s ∧ (dotB s = true → i1 s + 1 < i2 s) := by
    unfold numDot
    cases hb : dotB s with
    | false =>
      have hb' : atP (eqB 46) s (i1 s) = false := hb
      refine ⟨?_, fun h => by cases h⟩
      rw [hb', if_neg (by simp)]
      unfold i2; rw [hb, if_neg (by decide)]
    | true =>
      have hb' : atP (eqB 46) s (i1 s) = true := hb
      have hi2 : i2 s = runTo digitB s (i1 s + 1) := by unfold i2; rw [if_pos hb]
      cases hc : atP digitB s (i1 s + 1) with
      | true =>
        refine ⟨?_, fun _ => by rw [hi2]; exact digit_run hc⟩
        rw [hb', Bool.and_self, if_pos rfl, hi2]
      | false =>
        exfalso
        have e1 : numDot s (runTo digitB s 0) = runTo digitB s 0 := by
          unfold numDot
          rw [if_neg (by rw [show atP digitB s (runTo digitB s 0 + 1) = false from hc, Bool.and_false]; decide)]
        have e2 : numTens s (runTo digitB s 0) = (0, runTo digitB s 0) := by
          unfold numTens
          have := (dot_not hb').1
          rw [show atP (eqB 101) s (runTo digitB s 0) = false from this]
          simp
        have e3 : numEnd s 0 = runTo digitB s 0 := by unfold numEnd; rw [e1, e2]
        have e4 := atP_lt hb'
        rw [e3] at he
        unfold i1 at e4
        omega
  have h3 : numTens s (i2 s) = numTens s (numDot s (runTo digitB s 0)) := by rw [← h2.1]; rfl
  unfold numEnd at he
  rw [← h3] at he hf
  have key : (exB s = true → k0 s < k1 s ∧ k1 s ≤ k0 s + 4 ∧ k1 s = s.length) ∧ (exB s = false → i2 s = s.length) := by
    unfold numTens at he hf
    cases hx : exB s with
    | false =>
      have hx' : atP (eqB 101) s (i2 s) = false := hx
      rw [hx'] at he
      exact ⟨fun h => by (cases h), fun _ => by simpa using he⟩
    | true =>
      have hx' : atP (eqB 101) s (i2 s) = true := hx
      refine ⟨fun _ => ?_, fun h => by cases h⟩
      rw [hx'] at he hf
      rw [Bool.true_and, Bool.true_and] at he hf
      cases hg : atP digitB s (i2 s + 1) with
      | true =>
        rw [hg, if_pos rfl] at he hf
        have h0 : k0 s = i2 s + 1 := by
          unfold k0 plB mnB
          rw [(digit_not hg).2.2.1, (digit_not hg).2.2.2, if_neg (by decide)]
        have hk : k1 s = runTo digitB s (i2 s + 1) := by unfold k1; rw [h0]
        have := digit_run hg
        rw [hk, h0]
        simp only at he hf
        exact ⟨this, by omega, he⟩
      | false =>
        rw [hg, if_neg (by decide)] at he hf
        cases hq : (atP pmB s (i2 s + 1) && atP digitB s (i2 s + 2)) with
        | true =>
          rw [hq, if_pos rfl] at he hf
          rw [Bool.and_eq_true] at hq
          have h0 : k0 s = i2 s + 2 := by
            unfold k0 plB mnB
            rw [← pm_eq, if_pos hq.1]
          have hk : k1 s = runTo digitB s (i2 s + 2) := by unfold k1; rw [h0]
          have := digit_run hq.2
          rw [hk, h0]
          simp only at he hf
          exact ⟨this, by omega, he⟩
        | false =>
          rw [hq, if_neg (by decide)] at he
          have := atP_lt hx'
          simp only at he
          omega
  exact ⟨ha, h2.2, key.1, key.2⟩
theorem chain_num {s : Str} {i : Nat} {ts : List Tk} (h : Chain s i ts) : ∀ t ∈ ts, t.1 = 2 → NumT t.2.1 := by
  induction h with
  | nil => intro t ht; cases ht
  | @cons i e kd ts hi hl ht _ ih =>
    intro t hm h2
    rcases List.mem_cons.1 hm with rfl | hm
    · simp only at h2
      subst h2
      have htx : tokTx s (skipTo s i) = (s.drop (skipTo s i)).take (e - skipTo s i) := by unfold tokTx; rw [ht]
      have hle := tok_le (s := s) (i := skipTo s i) (Nat.le_of_lt hl)
      rw [ht] at hle
      simp only at hle
      have hlt := hle.2.2 trivial
      unfold tokAt at ht
      split at ht
      · cases ht
      · split at ht
        · rename_i hdg
          simp only [Prod.mk.injEq, true_and] at ht
          have hc := num_cut (R := []) (.inl rfl) hle.2.1 hle.1 ht.1 ht.2
          rw [List.append_nil] at hc
          have hlen := cut_len hle.2.1 hle.1
          simp only
          rw [htx]
          refine numT_of ?_ (by rw [hc.1, hlen]) hc.2
          rw [cut_at hle.2.1 (by omega), Nat.add_zero]; exact hdg
        · split at ht <;> cases ht
    · exact ih t hm h2
theorem read_num (s : Str) : ∀ t ∈ (readP s).1, t.1 = 2 → NumT t.2.1 := by
  rcases Nat.lt_or_ge 20000 s.length with h | h
  · rw [readP_long h]; intro t ht; cases ht
  by_cases h2 : (readS s).2.1 = 0
  · rw [readP_fine (by omega) h2]; exact chain_num (chain_read h2)
  rw [readP_bad (by omega) h2]; intro t ht; cases ht
theorem NumT.le {s : Str} (_ : NumT s) : i1 s ≤ s.length ∧ i1 s ≤ i2 s ∧ i2 s ≤ s.length := by
  have h1 : i1 s ≤ s.length := runTo_le (Nat.zero_le _)
  have h2 : i1 s ≤ i2 s := by
    unfold i2
    split
    · exact Nat.le_trans (Nat.le_succ _) (runTo_ge _ _ _)
    exact Nat.le_refl _
  refine ⟨h1, h2, ?_⟩
  unfold i2
  split
  · rename_i hb
    have := atP_lt (show atP (eqB 46) s (i1 s) = true from hb)
    exact runTo_le (by omega)
  exact h1
theorem cutS_len {s : Str} {i j : Nat} (h : j ≤ s.length) : (cutS s i j).length = j - i := by
  unfold cutS; rw [List.length_take, List.length_drop]; omega
theorem run_all {p : UInt8 → Bool} {s : Str} {j : Nat} : ∀ (m i : Nat), m = j - i → i ≤ j → j < runTo p s i → atP p s j = true := by
  intro m
  induction m with
  | zero =>
    intro i hm h1 h2
    obtain rfl : i = j := by omega
    cases ha : atP p s i with
    | true => rfl
    | false => rw [runTo_stop ha] at h2; omega
  | succ m ih =>
    intro i hm h1 h2
    cases ha : atP p s i with
    | true => exact ih (i + 1) (by omega) (by omega) (by rw [← runTo_step ha]; exact h2)
    | false => rw [runTo_stop ha] at h2; omega
theorem digit_isD {b : UInt8} (h : digitB b = true) : isD b = true := by
  revert h; exact byte_all (fun b => digitB b = true → isD b = true) (by decide +kernel) b
theorem cut_all {s : Str} {i j : Nat} (hj : j ≤ runTo digitB s i) : (cutS s i j).all isD = true := by
  rw [List.all_eq_true]
  intro b hb
  obtain ⟨k, hk⟩ := List.getElem?_of_mem hb
  unfold cutS at hk
  have hk2 : k < j - i := by
    have := (List.getElem?_eq_some_iff.1 hk).1
    rw [List.length_take] at this; omega
  rw [List.getElem?_take_of_lt hk2, List.getElem?_drop] at hk
  have := run_all (p := digitB) (s := s) (j := i + k) _ i rfl (by omega) (by omega)
  unfold atP at this
  rw [hk] at this
  exact digit_isD this
theorem NumT.dig {s : Str} (h : NumT s) : (digs s).all isD = true ∧ digs s ≠ [] ∧ (digs s).length ≤ s.length := by
  have hl := h.le
  have e1 : s.take (i1 s) = cutS s 0 (i1 s) := by unfold cutS; simp
  refine ⟨?_, ?_, ?_⟩
  · unfold digs
    rw [List.all_append, e1, cut_all (show i1 s ≤ runTo digitB s 0 from Nat.le_refl _), Bool.true_and]
    split
    · rename_i hb; exact cut_all (by unfold i2; rw [if_pos hb]; exact Nat.le_refl _)
    rfl
  · unfold digs
    intro h0
    have := (List.append_eq_nil_iff.1 h0).1
    have h2 : (s.take (i1 s)).length = 0 := by rw [this]; rfl
    rw [List.length_take] at h2
    have := h.a; omega
  unfold digs
  rw [List.length_append, e1, cutS_len hl.1]
  split
  · rename_i hb
    rw [cutS_len hl.2.2]; have := h.b hb; omega
  simp; omega
theorem NumT.exp {s : Str} (h : NumT s) (hx : exB s = true) : (cutS s (k0 s) (k1 s)).all isD = true ∧ cutS s (k0 s) (k1 s) ≠ [] ∧ (cutS s (k0 s) (k1 s)).length ≤ 4 := by
  have hc := h.c hx
  have hlen := cutS_len (i := k0 s) (show k1 s ≤ s.length by omega)
  refine ⟨cut_all (Nat.le_refl _), fun h0 => ?_, by omega⟩
  rw [h0] at hlen
  simp at hlen
  omega
theorem pv_bound : ∀ (l : Str), l.all isD = true → pv 0 l < 10 ^ l.length := by
  have h : ∀ (l : Str) (a m : Nat), l.all isD = true → a < 10 ^ m → pv a l < 10 ^ (m + l.length) := by
    intro l
    induction l with
    | nil => intro a m _ h; exact h
    | cons c l ih =>
      intro a m hl ha
      simp only [List.all_cons, Bool.and_eq_true] at hl
      have hc := parse_dig hl.1
      rw [pv_cons, List.length_cons, show m + (l.length + 1) = (m + 1) + l.length by omega]
      exact ih _ _ hl.2 (by rw [Nat.pow_succ]; omega)
  intro l hl
  have := h l 0 0 hl (by decide)
  rwa [Nat.zero_add] at this
theorem NumT.expo_lt {s : Str} (h : NumT s) (hx : exB s = true) : expo s ≤ 9999 := by
  have he := h.exp hx
  have h1 := pv_bound _ he.1
  have h2 : 10 ^ (cutS s (k0 s) (k1 s)).length ≤ 10 ^ 4 := Nat.pow_le_pow_right (by decide) he.2.2
  unfold expo
  have : (10 : Nat) ^ 4 = 10000 := by decide
  omega
theorem atoi_digits {l : Str} (h : l.all isD = true) (h0 : l ≠ []) (hl : l.length ≤ 4) : Lib.atoiAll l = .ok ((pv 0 l : Nat) : Int) := by
  have hb := pv_bound l h
  have hb2 : 10 ^ l.length ≤ 10 ^ 4 := Nat.pow_le_pow_right (by decide) hl
  have e4 : (10 : Nat) ^ 4 = 10000 := by decide
  have hp : Lib.parseMag l = .ok (pv 0 l) := by
    unfold Lib.parseMag
    rw [if_neg h0, parse_pv _ _ h (by omega)]
  cases l with
  | nil => exact absurd rfl h0
  | cons c l =>
    have hc := parse_dig (show isD c = true by rw [List.all_cons, Bool.and_eq_true] at h; exact h.1)
    have hm : ¬(c.toNat = 45) := by omega
    unfold Lib.atoiAll
    dsimp only
    rw [show (if c.toNat = 43 ∨ c.toNat = 45 then l else c :: l) = c :: l from if_neg (by omega)]
    simp only [hp]
    rw [if_neg (by omega), if_neg (by omega), if_neg hm]
theorem i2_yes {s : Str} (h : dotB s = true) : runTo digitB s (i1 s + 1) = i2 s := by unfold i2; rw [if_pos h]
theorem i2_no {s : Str} (h : dotB s = false) : i2 s = i1 s := by unfold i2; rw [h]; rfl
theorem k0_pl {s : Str} (h : plB s = true) : k0 s = i2 s + 2 ∧ mnB s = false := ⟨by unfold k0; rw [h]; rfl, pl_not h⟩
theorem k0_mn {s : Str} (h : mnB s = true) : k0 s = i2 s + 2 := by unfold k0; rw [h, Bool.or_true]; rfl
theorem k0_no {s : Str} (h : plB s = false) (h2 : mnB s = false) : k0 s = i2 s + 1 := by unfold k0; rw [h, h2]; rfl
theorem cut_zero (s : Str) (i : Nat) : cutS s 0 i = s.take i := by unfold cutS; simp
theorem digs_yes {s : Str} (h : dotB s = true) : digs s = cutS s 0 (i1 s) ++ cutS s (i1 s + 1) (i2 s) := by unfold digs; rw [if_pos h, cut_zero]
theorem digs_no {s : Str} (h : dotB s = false) : digs s = cutS s 0 (i1 s) := by unfold digs; rw [h, cut_zero]; simp
theorem powr_eq (s : Str) : powr s = (if dotB s = true then -((i2 s - (i1 s + 1) : Nat) : Int) else 0) + (if exB s = true then iv (mnB s) (expo s) else 0) := rfl
theorem NumT.pow_le {s : Str} (h : NumT s) (hs : s.length ≤ 400) : -10399 ≤ powr s ∧ powr s ≤ 9999 := by
  have hl := h.le
  have h1 : (if exB s = true then iv (mnB s) (expo s) else 0) ≤ 9999 ∧ -9999 ≤ (if exB s = true then iv (mnB s) (expo s) else 0) := by
    split
    · rename_i hx
      have := h.expo_lt hx
      unfold iv
      split <;> omega
    omega
  unfold powr
  split <;> omega
theorem ten16 (q : Nat) : 10 ^ (16 * q + 15) < B ^ (q + 1) := by
  rw [Nat.pow_add, Nat.pow_mul, Nat.pow_succ]
  have h3 : (10 ^ 16) ^ q ≤ B ^ q := Nat.pow_le_pow_left (by decide) _
  exact Nat.lt_of_le_of_lt (Nat.mul_le_mul_right _ h3) (Nat.mul_lt_mul_of_pos_left (by decide) (Bpow_pos _))
theorem sz_ten16 (k : Nat) : sz (10 ^ k) ≤ k / 16 + 1 :=
  sz_iff.2 (Nat.lt_of_le_of_lt (Nat.pow_le_pow_right (by decide) (by omega)) (ten16 (k / 16)))
structure Dt where
  nm : Str
  at_ : Nat
  list : Bool
  whole : Bool
  nums : List Rt
def isG (x : Str) : List Tk → Bool
  | [] => false
  | t :: _ => decide (t.1 = 3) && decide (t.2.1 = x)
def wantG {β : Type} (z : Nat) (x : Str) (ts : List Tk) (f : List Tk → Except Fl β) : Except Fl β := if isG x ts = true then f ts.tail else .error (130, place z ts)
def fTok (z : Nat) (neg : Bool) (ts : List Tk) : Rs (Rt × Bool) :=
  if (nowT z ts).1 = 2 then (if 400 < (nowT z ts).2.1.length then .error (3, place z ts) else .ok ((if neg = true then ngR (numV (nowT z ts).2.1) else numV (nowT z ts).2.1, wholeT (nowT z ts).2.1), ts.tail)) else .error (130, place z ts)
def fNum (z : Nat) (ts : List Tk) : Rs (Rt × Bool) := if isG [45] ts = true then fTok z true ts.tail else fTok z false ts
def fRow (z : Nat) : Nat → List Rt → Bool → List Tk → Rs (List Rt × Bool)
  | 0, _, _, _ => .error (0, 0)
  | n + 1, l, b, ts => andR (fNum z ts) fun a r => if isG [44] r = true then fRow z n (l ++ [a.1]) (b && a.2) r.tail else wantG z [93] r fun r => .ok ((l ++ [a.1], b && a.2), r)
def fVal (z n : Nat) (ts : List Tk) : Rs (Bool × List Rt × Bool) :=
  if isG [91] ts = true then (if isG [93] ts.tail = true then .ok ((true, [], true), ts.tail.tail) else andR (fRow z n [] true ts.tail) fun v r => .ok ((true, v.1, v.2), r))
  else andR (fNum z ts) fun a r => .ok ((false, [a.1], a.2), r)
def fOne (z n : Nat) (out : List Dt) (ts : List Tk) : Rs Dt :=
  if ((nowT z ts).1 = 1 ∧ nameOk (nowT z ts).2.1 = true) then
    (if out.any (fun d => decide (d.nm = (nowT z ts).2.1)) = true then .error (8, place z ts)
    else wantG z [61] ts.tail fun r => andR (fVal z n r) fun v r => wantG z [59] r fun r => .ok (⟨(nowT z ts).2.1, place z ts, v.1, v.2.2, v.2.1⟩, r))
  else .error (130, place z ts)
def fAll (z : Nat) : Nat → List Dt → List Tk → Except Fl (List Dt)
  | 0, _, _ => .error (0, 0)
  | n + 1, out, ts => if ts = [] then .ok out else andR (fOne z n out ts) fun d r => fAll z n (out ++ [d]) r
def fRead (s : Str) : Except Fl (List Dt) := if (readP s).2.1 = 0 then fAll s.length 20001 [] (readP s).1 else .error (readP s).2
end Go.Feed
end
section
namespace Go.Sx
open Go.RowKit
section
variable {P : Program} {w : World} {ρ : Operand → Value} {x : Operand} {ty t : TypeId} {pos : String} {aft : Array Edge} {D : Option Tmp} {g : Option (Nat × Bool)}
theorem R_fieldG {f ft off k : Nat} {xs ys : List Value} (hf : fdB P t f ft off = true) (hz : szB P ft k true = true) (hx : ρ x = .agg xs.toArray) (hy : (xs.drop off).take k = ys) : Run P ⟨D, .field t x f, ty, pos, aft, g⟩ ρ w (.agg ys.toArray) w := by
 unfold fdB at hf
 split at hf
 ·rename_i fs h1
  split at hf
  ·rename_i fl h2
   simp only [Bool.and_eq_true, beq_iff_eq] at hf
   simp only [Run, execOp, hx, Instr.field, Sem.run_bind, run_underlying h1, Result.andThen, h2, hf.1, hf.2]
   have h4 : (asAgg (.agg xs.toArray)).run P w = .ok xs.toArray w := rfl
   have h5 : (xs.toArray.extract off (off + k)) = ys.toArray := by
    subst hy
    simp only [List.extract_toArray, List.extract_eq_take_drop, Nat.add_sub_cancel_left]
   have h3 : (part ft xs.toArray off).run P w = .ok (.agg ys.toArray) w := by
    simp only [part, Sem.run_bind, run_isAgg hz, Result.andThen, if_true, run_sizeOf hz, h5]
    rfl
   simp only [Sem.run_bind, h4, Result.andThen, h3]
   rfl
  ·cases hf
 ·cases hf
variable {yt : TypeId} {y : Operand} {k ky : IntKind} {i j : Int} {ms : Array (String × TypeId)}
theorem R_leT (hx : ρ x = .int k i) (hy : ρ y = .int k j) (h : i ≤ j) : Run P ⟨D, .binOp .leq t x y yt, ty, pos, aft, g⟩ ρ w (.bool true) w := by
 have := R_le (P := P) (w := w) (D := D) (t := t) (ty := ty) (yt := yt) (pos := pos) (aft := aft) (g := g) hx hy
 rwa [decide_eq_true h] at this
theorem R_eqT (hx : ρ x = .int k i) (hy : ρ y = .int k j) (h : i = j) : Run P ⟨D, .binOp .eql t x y yt, ty, pos, aft, g⟩ ρ w (.bool true) w := by
 have := R_eq (P := P) (w := w) (D := D) (t := t) (ty := ty) (yt := yt) (pos := pos) (aft := aft) (g := g) hx hy
 rwa [decide_eq_true h] at this
theorem R_gtT (hx : ρ x = .int k i) (hy : ρ y = .int k j) (h : j < i) : Run P ⟨D, .binOp .gtr t x y yt, ty, pos, aft, g⟩ ρ w (.bool true) w := by
 have := R_gt (P := P) (w := w) (D := D) (t := t) (ty := ty) (yt := yt) (pos := pos) (aft := aft) (g := g) hx hy
 rwa [decide_eq_true h] at this
theorem R_gtF (hx : ρ x = .int k i) (hy : ρ y = .int k j) (h : ¬ j < i) : Run P ⟨D, .binOp .gtr t x y yt, ty, pos, aft, g⟩ ρ w (.bool false) w := by
 have := R_gt (P := P) (w := w) (D := D) (t := t) (ty := ty) (yt := yt) (pos := pos) (aft := aft) (g := g) hx hy
 rwa [decide_eq_false h] at this
theorem R_ieq0 (h : P.underlying t = some (.interface ms)) (hx : ρ x = .nilIface) (hk : ρ (.const .nilIface) = .nilIface) : Run P ⟨D, .binOp .eql t x (.const .nilIface) yt, ty, pos, aft, g⟩ ρ w (.bool true) w := by
 simp only [Run, execOp, hx, hk, eqGuard, binOp, Sem.run_bind, eq_n0 h, Result.andThen, Bool.or_true, if_true]
 rfl
end
end Go.Sx
end
section
namespace Go.Proofs.YtikdkendinnalaaGreatDoor
open Go.RowKit Go.Sx
open Go.Num Go.Feed
theorem gcd_next (N M : Nat) : Nat.gcd M (N % M) = Nat.gcd N M := by rw [Nat.gcd_comm N M, Nat.gcd_rec M N, Nat.gcd_comm]
theorem Gcd_ok {a a2 : Option Addr} {k c k2 c2 n m : Nat} (w : World) (hA : Nm w a k c n) (hB : Nm w a2 k2 c2 m) (hs : k ≤ 1000000 ∧ k2 ≤ 1000000 ∧ sz n ≤ 2000 ∧ sz m ≤ 2000) :
  Ret Tryz.prog 153 #[.slice a k c, .slice a2 k2 c2] w (Tel (fun a c => .tuple #[.slice a (sz (Nat.gcd n m)) c, .int .i64 0]) (sz (Nat.gcd n m)) (Nat.gcd n m) w) := by
 refine enter (S := No) (l := [_, _]) (L := []) 33 Tryz.func153 rfl rfl rfl (St.start w No) ?_; refine yA ?_; refine za (v := .slice _ _ _) rfl ?_; refine aI rfl ?_; refine yB ?_; refine zq ?_; refine yA ?_; refine mS rfl ?_; refine mS rfl ?_; refine zS slt169 (by decide) rfl rfl (fun b1 gb1 ub1 => ?_)
 refine jD Tryz.func91 (fun w h => long2_ok w (h.at_ 0 rfl) ((Kn.old hA).at_ 0 rfl h) ((Kn.old hB).at_ 0 rfl h) ⟨by omega, by omega⟩ ⟨by omega, by omega⟩) ?_; refine yB ?_; refine zG rfl ?_; refine zi ?_; refine zk ?_; refine yA ?_; refine mS rfl ?_; refine w_tel (fun w => zR Tryz.func92 rfl rfl rfl) rfl rfl (fun w h => normal_ok w ((Kn.old hA).at_ 0 rfl h) (by omega)) (fun xp ap cp hKp hNp => ?_)
 refine mS rfl ?_; refine w_tel (fun w => zR Tryz.func92 rfl rfl rfl) rfl rfl (fun w h => normal_ok w ((Kn.old hB).at_ 1 rfl h) (by omega)) (fun xq aq cq hKq hNq => ?_)
 refine za (v := .slice _ _ _) rfl ?_; refine za (v := .slice _ _ _) rfl ?_; refine yB ?_; refine zq ?_; refine zB ?_; refine c_st (B' := [xq, xp, (w, No)]) (L' := []) (fun w h => h.drop (List.nil_sublist _)) ?_; refine c_loop (fun m9 e B L => ∃ (N M : Nat) (xN xM : BaseW) (aN : Option Addr) (cN : Nat) (aM : Option Addr) (cM : Nat), e 0 = .slice aN (sz N) cN ∧ e 1 = .slice aM (sz M) cM ∧ B = [xM, xN, (w, No)] ∧ L = [] ∧ Kn xN aN (sz N) cN N ∧ New_ [(w, No)] aN (sz N) ∧ Kn xM aM (sz M) cM M ∧ New_ [(w, No)] aM (sz M) ∧ Nat.gcd N M = Nat.gcd n m ∧ sz N ≤ 2000 ∧ sz M ≤ 2000 ∧ m9 = M + 1) _ ⟨n, m, xp, xq, ap, cp, aq, cq, rfl, rfl, rfl, rfl, hKp, hNp, hKq, (fun y hy => hNq y (.tail _ hy)), rfl, hs.2.2.1, hs.2.2.2, rfl⟩ ?_
 rintro m9 e B L ⟨N, M, xN, xM, aN, cN, aM, cM, e0_1, e1_1, rfl, rfl, hKN, hNN, hKM, hNM, hg, hsN, hsM, rfl⟩
 have hdr := sz_mono (Nat.div_le_self N M)
 refine zq ?_; refine yA ?_; refine mS e1_1 ?_; refine jj sl42 rfl ?_; refine zg (fun _ => R_gtN (a := (sz M)) (b := 0) rfl rfl) ?_; refine yB ?_; refine zD rfl (fun h4 => ?_) (fun h4 => ?_)
 ·have hM0 : M ≠ 0 := fun h => by rw [h] at h4; exact absurd h4 (by decide)
  refine zi ?_; refine zk ?_; refine zB ?_; refine yA ?_; refine mS e0_1 ?_; refine mS e1_1 ?_; refine w_tel2 (fun w => zR Tryz.func154 rfl rfl rfl) rfl rfl (fun w h => Div_ok w (hKN.at_ 1 rfl h) (hKM.at_ 0 rfl h) ⟨by omega, by omega, by omega, by omega, by omega⟩) (fun xd ad cd ad' cd' hKd hNd hKd' hNd' => ?_)
  refine zm rfl ?_; refine jx rfl rfl ?_; refine jx rfl rfl ?_; refine jx rfl rfl ?_; refine za (v := .slice _ _ _) rfl ?_; refine za (v := .slice _ _ _) rfl ?_; refine aI rfl ?_; refine yB ?_; refine zr ?_; refine mS e1_1 ?_; refine mS rfl ?_; refine za (v := .slice _ _ _) rfl ?_; refine za (v := .slice _ _ _) rfl ?_; refine zn ?_; refine zO (?_)
  refine zK (B' := [xd, xM, (w, No)]) (L' := _) (fun w h => (h.pick [] (by decide)).unbase (fun x hx => by rcases List.mem_cons.1 hx with rfl | hx; (exact zm0); rcases List.mem_cons.1 hx with rfl | hx; (exact zm1); rcases List.mem_cons.1 hx with rfl | hx; (exact zm3); exact absurd hx (by simp))) ?_; exact k_again _ (by have := Nat.mod_lt N (show 0 < M by omega); omega) ⟨M, (N % M), xM, xd, aM, cM, ad', cd', rfl, rfl, rfl, rfl, hKM, hNM, hKd', (fun y hy => hNd' y (.tail _ (.tail _ hy))), (by rw [gcd_next]; exact hg), hsM, (Nat.le_trans (sz_mono (Nat.le_of_lt (Nat.mod_lt _ (by omega)))) hsM), rfl⟩
 ·have hM0 : M = 0 := sz_eq_zero.1 (by omega); rw [hM0, Nat.gcd_zero_right] at hg; subst hg
  refine zX ?_; refine zx (zx (b_here rfl (zk ?_))); refine yA ?_; refine mS e0_1 ?_; refine w_tel (fun w => zR Tryz.func90 rfl rfl rfl) rfl rfl (fun w h => told_ok w (hKN.at_ 1 rfl h) ⟨by omega, by omega⟩) (fun x6 a6 c6 hK6 hN6 => ?_)
  refine jx rfl rfl ?_; refine jx rfl rfl ?_; refine za (v := .slice _ _ _) rfl ?_; refine aI rfl ?_; refine yB ?_; refine ze ?_; refine r_two (v := .slice _ _ _) (v2 := .int _ _) rfl rfl rfl rfl rfl ?_; exact fun w' hw => ⟨_, _, rfl, (hK6.at_ 0 rfl hw), (hN6 _ zm2), hw.fr (w, No) zm3⟩
theorem zOfS_ok (x : Nat) (w : World) (hx : x ≤ 1000) : Ret Tryz.prog 86 #[.int .i64 (x : Nat)] w (Tel (fun a c => .agg #[.bool false, .slice a (sz x) c]) (sz x) x w) := by
 have := zOf_ok (x := (x : Int)) w ⟨by omega, by omega⟩
 rw [show ng (x : Int) = false from ng_false.2 (by omega), Int.natAbs_natCast] at this
 exact this
theorem Pow_ok {a : Option Addr} {k c : Nat} (w : World) (hA : Nm w a k c 10) (q9 : Nat) (hs : q9 ≤ 20000 ∧ k ≤ 1000) :
  Ret Tryz.prog 146 #[.agg #[.bool false, .slice a k c], .int .i64 (q9 : Nat)] w (Tel (fun a c => .tuple #[.agg #[.bool false, .slice a (sz (10 ^ q9)) c], .int .i64 0]) (sz (10 ^ q9)) (10 ^ q9) w) := by
 have hs10 : sz 10 = 1 := rfl
 refine enter (S := No) (l := [_, _]) (L := []) 63 Tryz.func146 rfl rfl rfl (St.start w No) ?_; refine yA ?_; refine w_boxA rfl (fun pa gpa upa => ?_)
 refine zA zr44 (fun r gr ur => ?_)
 refine aI rfl ?_; refine yC ?_; refine jy 1 z44 rfl rfl ?_; refine w_tel (fun w => zR Tryz.func84 rfl rfl rfl) rfl rfl (fun w h => zNorm_ok false w ((Kn.old hA).at_ 0 rfl h) ⟨by omega, by decide⟩) (fun xp ap cp hKp hNp => ?_)
 refine zm rfl ?_; refine jx rfl rfl ?_; refine jx rfl rfl ?_; refine jv 1 z44 rfl ?_; refine aI rfl ?_; refine yB ?_; refine zq ?_; refine zB ?_; refine yA ?_; refine mI rfl ?_; refine jn rfl rfl ?_; refine aB rfl ?_; refine yB ?_; refine zG bE ?_; refine yA ?_; refine mI rfl ?_; refine zg (fun _ => R_ltN (a := q9) (b := 0) rfl rfl) ?_; refine aB rfl ?_; refine yB ?_; refine zD rfl (fun h4 => ?_) (fun h4 => ?_)
 ·omega
 ·refine yA ?_; refine mI rfl ?_; refine zg (fun _ => R_eqN (a := q9) (b := 0) rfl rfl) ?_; refine aB rfl ?_; refine yB ?_; refine zD rfl (fun h5 => ?_) (fun h5 => ?_)
  ·have hq0 : q9 = 0 := (by omega); subst hq0
   refine yA ?_; refine w_tel (fun w => zR Tryz.func86 rfl rfl rfl) rfl rfl (fun w h => zOfS_ok 1 w (by decide)) (fun x6 a6 c6 hK6 hN6 => ?_)
   refine jv 0 z44 rfl ?_; refine aI rfl ?_; refine yB ?_; refine ze ?_; refine zb (zt (?_))
   refine r_fin (.inl rfl) rfl (.agg rfl rfl z44 (fun _ h => h.at_ 0 rfl) rfl (.tmp rfl rfl .nil)) ?_; exact fun w' hw => ⟨_, _, rfl, (hK6.at_ 0 rfl hw), (hN6 _ zm1), hw.fr (w, No) zm2⟩
  ·refine yA ?_; refine jy 1 z44 rfl rfl ?_; refine jD Tryz.func73 (fun w h => of_ok _ w (hKp.at_ 0 rfl h) (by omega)) ?_; refine zg (fun _ => R_fieldG fd120_0 z118 rfl rfl) ?_; refine jD Tryz.func173 (fun w h => one_ok w (hKp.at_ 0 rfl h) (by omega)) ?_; refine aB rfl ?_; refine yB ?_; refine c_cond rfl (fun h7 => ?_) (fun h7 => ?_)
   ·exact absurd h7 (by decide)
   ·refine yA ?_; refine mI rfl ?_; refine zg (fun _ => R_gtN (a := q9) (b := 100000) rfl rfl) ?_; refine aB rfl ?_; refine yB ?_; refine zD rfl (fun h8 => ?_) (fun h8 => ?_)
    ·omega
    ·refine zi ?_; refine zO (zk ?_); refine yA ?_; refine w_tel (fun w => zR Tryz.func86 rfl rfl rfl) rfl rfl (fun w h => zOfS_ok 1 w (by decide)) (fun xo ao co hKo hNo => ?_)
     refine zA zr44 (fun ob gob uob => ?_)
     refine jv 0 z44 rfl ?_; refine yB ?_; refine zq ?_; refine yA ?_; refine mI rfl ?_; refine mI rfl ?_; refine yB ?_; refine zB ?_; refine c_st (B' := [xo, xp, (w, No)]) (L' := [(ob, cel [.bool false, .slice ao (sz 1) co] 44), (r, cel [.bool false, .slice none 0 0] 44), (pa, cel [.bool false, .slice ap (sz 10) cp] 44)]) (fun w h => h) ?_
     refine c_loop (fun m9 e B L => ∃ (i : Nat) (xN : BaseW) (aN : Option Addr) (cN : Nat), e 1 = .int .i64 (q9 : Nat) ∧ e 2 = pX pa ∧ e 4 = pX r ∧ e 7 = pX ob ∧ e 48 = .int .i64 (q9 : Nat) ∧ e 49 = .int .i64 (i : Nat) ∧ B = [xN, xp, (w, No)] ∧ L = [(ob, cel [.bool false, .slice aN (sz (10 ^ i)) cN] 44), (r, cel [.bool false, .slice none 0 0] 44), (pa, cel [.bool false, .slice ap (sz 10) cp] 44)] ∧ i ≤ q9 ∧ Kn xN aN (sz (10 ^ i)) cN (10 ^ i) ∧ New_ [(w, No)] aN (sz (10 ^ i)) ∧ m9 = q9 - i) _ ⟨0, xo, ao, co, rfl, rfl, rfl, rfl, rfl, rfl, rfl, rfl, Nat.zero_le _, (by rw [Nat.pow_zero]; exact hKo), (by rw [Nat.pow_zero]; exact fun y hy => hNo y (.tail _ hy)), rfl⟩ ?_
     rintro m9 e B L ⟨i, xN, aN, cN, e1_1, e2_1, e4_1, e7_1, e48_1, e49_1, rfl, rfl, hi, hKN, hNN, rfl⟩
     have hz1 := sz_ten16 i
     have hz2 := sz_ten16 (i + 1)
     refine yA ?_; refine zg (fun _ => R_ltN (a := i) (b := q9) e49_1 e48_1) ?_; refine yB ?_; refine zq ?_; refine zD rfl (fun h11 => ?_) (fun h11 => ?_)
     ·refine zi ?_; refine zk ?_; refine zq ?_; refine zB ?_; refine yA ?_; refine jy 0 z44 e7_1 rfl ?_; refine jy 2 z44 e2_1 rfl ?_; refine w_tel (fun w => zR Tryz.func88 rfl rfl rfl) rfl rfl (fun w h => (by have h9 := zMul_ok false false w (hKN.at_ 0 rfl h) (hKp.at_ 1 rfl h) ⟨by omega, by omega, by omega, by omega, (show sz (10 ^ (i + 1)) ≤ 2048 by omega)⟩; exact h9)) (fun xm am cm hKm hNm => ?_)
      refine zm rfl ?_; refine jx rfl rfl ?_; refine jx rfl rfl ?_; refine ju 0 z44 e7_1 rfl rfl ?_; refine aI rfl ?_; refine yC ?_; refine mI rfl ?_; refine jn rfl rfl ?_; refine yB ?_; refine zG bE ?_; refine zi ?_; refine zO (zk ?_); refine zr ?_; refine zg (fun _ => R_addN (n := i) (b := 1) e49_1 rfl (by omega)) ?_; refine mI rfl ?_; refine zn ?_
      refine zK (B' := [xm, xp, (w, No)]) (L' := _) (fun w h => (h.pick [0, 1, 2] (by decide)).unbase (fun x hx => by rcases List.mem_cons.1 hx with rfl | hx; (exact zm0); rcases List.mem_cons.1 hx with rfl | hx; (exact zm2); rcases List.mem_cons.1 hx with rfl | hx; (exact zm3); exact absurd hx (by simp))) ?_; exact k_again _ (by omega) ⟨i + 1, xm, am, cm, e1_1, e2_1, e4_1, e7_1, e48_1, rfl, rfl, rfl, by omega, hKm, (fun y hy => hNm y (.tail _ (.tail _ hy))), rfl⟩
     ·refine zX ?_; refine zx (zx (b_here rfl (zk ?_))); refine yA ?_; refine jy 0 z44 e7_1 rfl ?_; refine ju 1 z44 e4_1 rfl rfl ?_; refine aI rfl ?_; refine yB ?_; refine ze ?_
      obtain rfl : i = q9 := by omega
      refine r_fin (.inl rfl) rfl (.agg rfl e4_1 z44 (fun _ h => h.at_ 1 rfl) rfl (.tmp rfl rfl .nil)) ?_; exact fun w' hw => ⟨_, _, rfl, (hKN.at_ 0 rfl hw), (hNN _ zm0), hw.fr (w, No) zm2⟩
end Go.Proofs.YtikdkendinnalaaGreatDoor
end
section
namespace Go.Proofs.YtikdkendinnalaaGreatDoor
open Go.RowKit Go.Sx
open Go.Num Go.Feed
theorem mustI_ok (s : Bool) (a : Option Addr) (k c : Nat) (w : World) :
  Ret Tryz.prog 87 #[.agg #[.bool s, .slice a k c], .int .i64 0] w (fun v w' => v = .agg #[.bool s, .slice a k c] ∧ Ext w w') := by
 refine enter (S := No) (l := [_, _]) (L := []) 10 Tryz.func87 rfl rfl rfl (St.start w No) ?_; refine yA ?_; refine w_boxA rfl (fun p gp up => ?_)
 refine zA zr44 (fun r gr ur => ?_)
 refine yB ?_; refine zq ?_; refine yA ?_; refine mI rfl ?_; refine jn rfl rfl ?_; refine yB ?_; refine zD rfl (fun h3 => ?_) (fun h3 => ?_)
 ·exact absurd h3 (by decide)
 ·refine zi ?_; refine zk ?_; refine yA ?_; refine jy 1 z44 rfl rfl ?_; refine jv 0 z44 rfl ?_; refine yB ?_; refine ze ?_; refine r_fin (.inl rfl) rfl (.agg rfl rfl z44 (fun _ h => h.at_ 0 rfl) rfl .nil) ?_; exact fun w' hw => ⟨rfl, hw.fr (w, No) zm0⟩
theorem mustN_ok (a : Option Addr) (k c : Nat) (w : World) :
  Ret Tryz.prog 152 #[.slice a k c, .int .i64 0] w (fun v w' => v = .slice a k c ∧ Ext w w') := by
 refine enter (S := No) (l := [_, _]) (L := []) 10 Tryz.func152 rfl rfl rfl (St.start w No) ?_; refine yA ?_; refine za (v := .slice _ _ _) rfl ?_; refine yB ?_; refine zq ?_; refine yA ?_; refine mI rfl ?_; refine jn rfl rfl ?_; refine yB ?_; refine zD rfl (fun h1 => ?_) (fun h1 => ?_)
 ·exact absurd h1 (by decide)
 ·refine zi ?_; refine zk ?_; refine yA ?_; refine mS rfl ?_; refine za (v := .slice _ _ _) rfl ?_; refine yB ?_; refine ze ?_; refine zo (v := .slice _ _ _) rfl rfl rfl ?_; exact fun w' hw => ⟨rfl, hw.fr (w, No) zm0⟩
theorem whole_ok (a : Option Addr) (k c : Nat) (w : World) :
  Ret Tryz.prog 54 #[.slice a k c] w (fun v w' => v = .agg #[.bool false, .slice a k c] ∧ Ext w w') := by
 refine enter (S := No) (l := [_]) (L := []) 5 Tryz.func54 rfl rfl rfl (St.start w No) ?_; refine yA ?_; refine zA zr44 (fun p gp up => ?_)
 refine yC ?_; refine mS rfl ?_; refine jb bt44 rfl ?_; refine jv 0 z44 rfl ?_; refine yB ?_; refine ze ?_; refine r_fin (.inl rfl) rfl (.agg rfl rfl z44 (fun _ h => h.at_ 0 rfl) rfl .nil) ?_; exact fun w' hw => ⟨rfl, hw.fr (w, No) zm0⟩
theorem prod_sg (s t : Bool) (n m : Nat) : ((((false != s) && decide (n ≠ 0)) != t) && decide (n * m ≠ 0)) = ((s != t) && decide (n * m ≠ 0)) := by
 by_cases h : n * m = 0
 ·rw [show decide (n * m ≠ 0) = false from decide_eq_false (fun h' => h' h), Bool.and_false, Bool.and_false]
 ·have hn : n ≠ 0 := fun h0 => h (by rw [h0, Nat.zero_mul])
  rw [decide_eq_true hn, Bool.and_true, Bool.false_bne]
theorem mkR_parts (s : Bool) (n m : Nat) : ((s != false) && decide (n / Nat.gcd n m ≠ 0)) = ng (mkR s n m).1 ∧ n / Nat.gcd n m = (mkR s n m).1.natAbs ∧ m / Nat.gcd n m = (mkR s n m).2 := by
 refine ⟨?_, (iv_abs _ _).symm, rfl⟩
 show _ = ng (iv s _)
 rw [ng_iv, Bool.bne_false]
theorem product_ok (s t : Bool) {a a8 : Option Addr} {k c k8 c8 n m sb : Nat} (w : World) (hA : Nm w a k c n) (hA8 : Nm w a8 k8 c8 m) (hb : w.heap[sb]? = some (cel [.bool s, .slice a k c, .bool t, .slice a8 k8 c8] 44)) (hs : k ≤ 4000000 ∧ k8 ≤ 4000000 ∧ sz n ≤ 2048 ∧ sz m ≤ 2048 ∧ sz (n * m) ≤ 2048) :
  Ret Tryz.prog 53 #[.slice (some ⟨sb, 0, none⟩) 2 2] w (Tel (fun a c => .agg #[.bool ((s != t) && decide (n * m ≠ 0)), .slice a (sz (n * m)) c]) (sz (n * m)) (n * m) w) := by
 have hs1 : sz 1 = 1 := rfl
 refine enter (S := No) (l := [_]) (L := []) 21 Tryz.func53 rfl rfl rfl (St.start w No) ?_; refine yA ?_; refine zA zr44 (fun r gr ur => ?_)
 refine yC ?_; refine w_tel (fun w => zR Tryz.func86 rfl rfl rfl) rfl rfl (fun w h => zOfS_ok 1 w (by decide)) (fun x2 a2 c2 hK2 hN2 => ?_)
 refine zA zr44 (fun ob gob uob => ?_)
 refine jv 0 z44 rfl ?_; refine yB ?_; refine zq ?_; refine yA ?_; refine mS rfl ?_; refine jj sl133 rfl ?_; refine mI rfl ?_; refine yB ?_; refine zB ?_; refine c_rounds 3 ?_; refine yA ?_; refine jl rfl rfl ?_; refine yB ?_; refine zq ?_; refine zE bD ?_; refine zi ?_; refine zk ?_; refine zq ?_; refine zB ?_; refine yA ?_; refine zg (fun _ => R_iaN (i := 0) sl133 rfl rfl (by first | omega | decide | exact Nat.succ_pos _ | exact Nat.succ_lt_succ (Nat.succ_pos _))) ?_
 refine w_loadC (l := [.bool s, .slice a k c]) z44 rfl rfl (fun w h j v hj => cel_oldb hb zm1 (fun x => x) (by rcases j with _ | _ | j; (exact hj); (exact hj); (cases hj)) h) ?_; refine zA zr44 (fun eb geb ueb => ?_)
 refine jv 0 z44 rfl ?_; refine yB ?_; refine zr ?_; refine jy 1 z44 rfl rfl ?_; refine jy 0 z44 rfl rfl ?_; refine w_tel (fun w => zR Tryz.func88 rfl rfl rfl) rfl rfl (fun w h => (by have h9 := zMul_ok false s w (hK2.at_ 0 rfl h) ((Kn.old hA).at_ 1 rfl h) ⟨by omega, by omega, by decide, by omega, by rw [Nat.one_mul]; omega⟩; rw [Nat.one_mul] at h9; exact h9)) (fun x5 a5 c5 hK5 hN5 => ?_)
 refine jx rfl rfl ?_; refine jx rfl rfl ?_; refine jD Tryz.func87 (fun w h => mustI_ok _ _ _ _ w) ?_; refine jv 1 z44 rfl ?_; refine zn ?_; refine zO (zk ?_); refine zr ?_; refine zg (fun _ => R_addN (n := 0) (b := 1) rfl rfl (by omega)) ?_; refine mI rfl ?_; refine zn ?_; refine k_rounds ?_; refine yA ?_; refine jl rfl rfl ?_; refine yB ?_; refine zq ?_; refine zE bD ?_; refine zi ?_; refine zk ?_; refine zq ?_; refine zB ?_
 refine yA ?_; refine zg (fun _ => R_iaN (i := (0 + 1)) sl133 rfl rfl (by first | omega | decide | exact Nat.succ_pos _ | exact Nat.succ_lt_succ (Nat.succ_pos _))) ?_; refine w_loadC (l := [.bool t, .slice a8 k8 c8]) z44 rfl rfl (fun w h j v hj => cel_oldb hb zm2 (fun x => x) (by rcases j with _ | _ | j; (exact hj); (exact hj); (cases hj)) h) ?_; refine zA zr44 (fun eb geb ueb => ?_)
 refine jv 0 z44 rfl ?_; refine yB ?_; refine zr ?_; refine jy 2 z44 rfl rfl ?_; refine jy 0 z44 rfl rfl ?_; refine w_tel (fun w => zR Tryz.func88 rfl rfl rfl) rfl rfl (fun w h => zMul_ok _ t w (hK5.at_ 0 rfl h) ((Kn.old hA8).at_ 2 rfl h) ⟨by omega, by omega, by omega, by omega, by omega⟩) (fun x7 a7 c7 hK7 hN7 => ?_)
 refine jx rfl rfl ?_; refine jx rfl rfl ?_; refine jD Tryz.func87 (fun w h => mustI_ok _ _ _ _ w) ?_; refine jv 2 z44 rfl ?_; refine zn ?_; refine zO (zk ?_); refine zr ?_; refine zg (fun _ => R_addN (n := (0 + 1)) (b := 1) rfl rfl (by omega)) ?_; refine mI rfl ?_; refine zn ?_; refine k_rounds ?_; refine yA ?_; refine jl rfl rfl ?_; refine yB ?_; refine zq ?_; refine zG bE ?_; refine zX ?_; refine zx (zx (b_here rfl (zk ?_)))
 refine yA ?_; refine jy 2 z44 rfl rfl ?_; refine jv 3 z44 rfl ?_; refine yB ?_; refine ze ?_
 rw [← prod_sg]
 refine r_fin (.inl rfl) rfl (.agg rfl rfl z44 (fun _ h => h.at_ 3 rfl) rfl .nil) ?_; exact fun w' hw => ⟨_, _, rfl, (hK7.at_ 0 rfl hw), (hN7 _ zm2), hw.fr (w, No) zm3⟩
theorem ftold_ok (s : Bool) {a : Option Addr} {k c n : Nat} {a8 : Option Addr} {k8 c8 m : Nat} (w : World) (hA : Nm w a k c n) (hA8 : Nm w a8 k8 c8 m) (hs : k ≤ 1000000 ∧ k8 ≤ 1000000 ∧ sz n ≤ 2000 ∧ sz m ≤ 2000 ∧ m ≠ 0) :
  Ret Tryz.prog 116 #[.agg #[.bool s, .slice a k c], .agg #[.bool false, .slice a8 k8 c8]] w (Tel2 (fun a c a2 c2 => .agg #[.bool (ng (mkR s n m).1), .slice a (sz (mkR s n m).1.natAbs) c, .slice a2 (sz (mkR s n m).2) c2]) (sz (mkR s n m).1.natAbs) (mkR s n m).1.natAbs (sz (mkR s n m).2) (mkR s n m).2 w) := by
 have hg0 : Nat.gcd n m ≠ 0 := Nat.pos_iff_ne_zero.1 (Nat.gcd_pos_of_pos_right _ (Nat.pos_of_ne_zero hs.2.2.2.2))
 have hgs : sz (Nat.gcd n m) ≤ sz m := sz_mono (Nat.le_of_dvd (Nat.pos_of_ne_zero hs.2.2.2.2) (Nat.gcd_dvd_right n m))
 have hd1 := sz_mono (Nat.div_le_self n (Nat.gcd n m))
 have hd2 := sz_mono (Nat.div_le_self m (Nat.gcd n m))
 refine enter (S := No) (l := [_, _]) (L := []) 58 Tryz.func116 rfl rfl rfl (St.start w No) ?_; refine yA ?_; refine w_boxA rfl (fun p gp up => ?_)
 refine w_boxA rfl (fun p2 gp2 up2 => ?_)
 refine zA zr46 (fun r gr ur => ?_)
 refine yB ?_; refine zq ?_; refine yA ?_; refine jy 1 z44 rfl rfl ?_; refine jD Tryz.func151 (fun w h => zSign_ok _ w ((Kn.old hA8).at_ 0 rfl h) (by omega)) ?_; refine je rfl rfl ?_; refine yB ?_; refine zD rfl (fun h4 => ?_) (fun h4 => ?_)
 ·rw [iv_sign, if_neg hs.2.2.2.2] at h4; exact absurd h4 (by decide)
 ·refine zi ?_; refine zk ?_; refine yA ?_; refine zf fa44_1 rfl ?_; refine jM 2 z42 rfl ?_; refine zf fa44_1 rfl ?_; refine jM 1 z42 rfl ?_; refine w_tel (fun w => zR Tryz.func153 rfl rfl rfl) rfl rfl (fun w h => Gcd_ok w ((Kn.old hA).at_ 0 rfl h) ((Kn.old hA8).at_ 0 rfl h) ⟨by omega, by omega, by omega, by omega⟩) (fun x5 a5 c5 hK5 hN5 => ?_)
  refine jx rfl rfl ?_; refine jx rfl rfl ?_; refine jD Tryz.func152 (fun w h => mustN_ok _ _ _ w) ?_; refine za (v := .slice _ _ _) rfl ?_; refine yC ?_; refine zf fa44_1 rfl ?_; refine jM 2 z42 rfl ?_; refine mS rfl ?_; refine w_tel2 (fun w => zR Tryz.func154 rfl rfl rfl) rfl rfl (fun w h => Div_ok w ((Kn.old hA).at_ 1 rfl h) (hK5.at_ 0 rfl h) ⟨by omega, by omega, by omega, by omega, hg0⟩) (fun x6 a6 c6 a6' c6' hK6 hN6 hK6' hN6' => ?_)
  refine zm rfl ?_; refine jx rfl rfl ?_; refine jx rfl rfl ?_; refine jx rfl rfl ?_; refine za (v := .slice _ _ _) rfl ?_; refine za (v := .slice _ _ _) rfl ?_; refine aI rfl ?_; refine yC ?_; refine mS rfl ?_; refine mI rfl ?_; refine jD Tryz.func152 (fun w h => mustN_ok _ _ _ w) ?_; refine za (v := .slice _ _ _) rfl ?_; refine yC ?_; refine zf fa44_1 rfl ?_; refine jM 1 z42 rfl ?_; refine mS rfl ?_
  refine w_tel2 (fun w => zR Tryz.func154 rfl rfl rfl) rfl rfl (fun w h => Div_ok w ((Kn.old hA8).at_ 2 rfl h) (hK5.at_ 1 rfl h) ⟨by omega, by omega, by omega, by omega, hg0⟩) (fun x7 a7 c7 a7' c7' hK7 hN7 hK7' hN7' => ?_)
  refine zm rfl ?_; refine jx rfl rfl ?_; refine jx rfl rfl ?_; refine jx rfl rfl ?_; refine za (v := .slice _ _ _) rfl ?_; refine za (v := .slice _ _ _) rfl ?_; refine aI rfl ?_; refine yC ?_; refine mS rfl ?_; refine mI rfl ?_; refine jD Tryz.func152 (fun w h => mustN_ok _ _ _ w) ?_; refine za (v := .slice _ _ _) rfl ?_; refine yC ?_; refine zf fa44_0 rfl ?_; refine jM 2 z4 rfl ?_
  refine zf fa44_0 rfl ?_; refine jM 1 z4 rfl ?_; refine zg (fun _ => R_bne unb4 rfl rfl) ?_; refine mS rfl ?_; refine jb bt44 rfl ?_; refine w_tel (fun w => zR Tryz.func84 rfl rfl rfl) rfl rfl (fun w h => zNorm_ok _ w (hK6.at_ 1 rfl h) ⟨by omega, by omega⟩) (fun x8 a8 c8 hK8 hN8 => ?_)
  refine jx rfl rfl ?_; refine jx rfl rfl ?_; refine jD Tryz.func87 (fun w h => mustI_ok _ _ _ _ w) ?_; refine mS rfl ?_; refine jb bt46 rfl ?_; refine jv 0 z46 rfl ?_; refine yB ?_; refine ze ?_
  rw [← (mkR_parts s n m).1, ← (mkR_parts s n m).2.1, ← (mkR_parts s n m).2.2]
  refine r_fin (.inl rfl) rfl (.agg rfl rfl z46 (fun _ h => h.at_ 0 rfl) rfl .nil) ?_; exact fun w' hw => ⟨_, _, _, _, rfl, (hK8.at_ 0 rfl hw), (hK7.at_ 1 rfl hw), (hN8 _ zm3), (hN7 _ zm2), hw.fr (w, No) zm4⟩
end Go.Proofs.YtikdkendinnalaaGreatDoor
end
section
namespace Go.Proofs.YtikdkendinnalaaGreatDoor
open Go.RowKit Go.Sx
open Go.Num Go.Feed
def panE (e : Int) : List PanicEntry := [{ v := .iface 25 (.int .i64 e), recovered := false }]
theorem fcatchF_ok (e9 : Int) (ob fb : Nat) (xs ys : List Value) (hxl : xs.length = 3) (hyl : ys.length = 1) (w : World) (ho : w.heap[ob]? = some (cel xs 46)) (hf : w.heap[fb]? = some (cel ys 25)) (hne : ob ≠ fb) : CallsD Tryz.prog 150 #[pX ob, pX fb] (.panicking (panE e9)) w fun e u w' => (∃ v, e = .returned v) ∧ settle u = .returning ∧ Fr (fun j => j = ob ∨ j = fb) w w' ∧ w'.heap[ob]? = some (cel [.bool false, .slice none 0 0, .slice none 0 0] 46) ∧ w'.heap[fb]? = some (cel [.int .i64 e9] 25) := by
 refine (enterR (l := [_, _]) (t := 25) (pv := .int .i64 e9) (older := []) (R := fun w' => Fr (fun j => j = ob ∨ j = fb) w w' ∧ w'.heap[ob]? = some (cel [.bool false, .slice none 0 0, .slice none 0 0] 46) ∧ w'.heap[fb]? = some (cel [.int .i64 e9] 25)) 10 Tryz.func150 rfl rfl rfl rfl ⟨_, _, St.start2 (S := (fun j => j = ob ∨ j = fb)) w ho hf hne (.inl rfl) (.inr rfl), ?_⟩).mono (fun e u w' ⟨h1, h2, h3⟩ => ⟨h1, by rw [h2]; rfl, h3⟩)
 refine yA ?_; refine zm rfl ?_; refine zg (fun _ => R_ine uni20 rfl rfl) ?_; refine yB ?_; refine zE rfl ?_; refine yA ?_; refine zA zr46 (fun nb gnb unb => ?_)
 refine yB ?_; refine c_held (fun w => w.heap[nb]? = some (cel [.bool false, .slice none 0 0, .slice none 0 0] 46)) mixed ?_; refine zh2 0 rfl rfl (fun w h => h.at_ 0 rfl) (fun w h => R_ldb z46 rfl h rfl) ?_; refine zh2 1 rfl rfl (fun w h => h.at_ 0 rfl) (fun w h => R_move rfl) ?_; refine zh2 2 rfl rfl (fun w h => h.at_ 0 rfl) (fun w h => R_ta tab25 rfl) ?_; refine zH2 3 (fun w h => h.at_ 0 rfl) ?_; refine o_storeW [.bool false, .slice none 0 0, .slice none 0 0] 1 rfl rfl z46 rfl rfl rfl rfl rfl hxl ?_; refine zH2 4 (fun w h => h.at_ 0 rfl) ?_; refine o_storeW [.int .i64 e9] 2 rfl rfl z25 rfl rfl rfl rfl rfl hyl ?_; refine zN2 (fun w h => h.at_ 0 rfl) ?_; exact r_rec (.inr rfl) rfl fun w' hw => ⟨hw.f0, hw.at_ 1 rfl, hw.at_ 2 rfl⟩
theorem fidleF_ok (ob fb : Nat) {B : Base} {L : Heap} (w : World) (hw : St B L w) : CallsD Tryz.prog 150 #[pX ob, pX fb] .returning w fun e u w' => (∃ v, e = .returned v) ∧ u = .returning ∧ St B L w' := by
 refine enterR0 (l := [_, _]) 10 Tryz.func150 rfl rfl rfl rfl ⟨_, _, hw, ?_⟩
 refine yA ?_; refine zm rfl ?_; refine zg (fun _ => R_ine0 uni20 rfl rfl) ?_; refine yB ?_; refine zG rfl ?_; refine zi ?_; exact r_rec (.inr rfl) rfl fun w' hw => hw
theorem faceF_ok (cf : FuncId) (F9 : Func) (C9 : Code) (hf9 : Tryz.prog.funcs[cf]? = some F9) (hb9 : F9.body = some C9) (hn9 : (F9.name == "runtime.NumGoroutine") = false) (ca : List Value) (s9 : Bool) (k9 n9 k8 n8 : Nat) (w : World) (hc : ∀ w1, Ext w w1 → Ret Tryz.prog cf ca.toArray w1 (Tel2 (fun a c a2 c2 => .agg #[.bool s9, .slice a k9 c, .slice a2 k8 c2]) k9 n9 k8 n8 w1)) :
  Ret Tryz.prog 114 #[.func (.func cf) #[] ca.toArray] w (Tel2 (fun a c a2 c2 => .tuple #[.agg #[.bool s9, .slice a k9 c, .slice a2 k8 c2], .int .i64 0]) k9 n9 k8 n8 w) := by
 refine enterD (S := No) (l := [_]) (L := []) 7 Tryz.func114 rfl rfl rfl (St.start w No) ?_; refine yA ?_; refine zA zr46 (fun ob gob uob => ?_)
 refine zA zr25 (fun fb gfb ufb => ?_)
 refine yC ?_; refine zg (fun _ => R_makeFunc) ?_; refine w_defer (fun w => R_defer (ca := [pX ob, pX fb]) rfl) rfl rfl ?_; refine yC ?_; refine zm rfl ?_; refine w_tel2 (fun w => R_callv rfl hf9 hb9 hn9) rfl rfl (fun w h => hc w (h.fr (_, No) zm0)) (fun x9 a9 c9 a9' c9' hK9 hN9 hK9' hN9' => ?_)
 refine jv 1 z46 rfl ?_; refine jv 0 z25 rfl ?_; refine yB ?_; refine ze ?_; refine r_finD (.inl rfl) rfl (f := 150) (ca := [pX ob, pX fb]) (fun _ => invoke_cl Tryz.func150 rfl rfl) (fun w hw => fidleF_ok ob fb w hw) (.agg rfl rfl z46 (fun _ h => h.at_ 1 rfl) rfl (.cell rfl rfl z25 (fun _ h => zc 0 rfl rfl h) .nil)) ?_; exact fun w' hw => ⟨_, _, _, _, rfl, (hK9.at_ 0 rfl hw), (hK9'.at_ 0 rfl hw), (hN9 _ zm0), (hN9' _ zm0), hw.fr (w, No) zm1⟩
theorem faceF_no (cf : FuncId) (F9 : Func) (C9 : Code) (hf9 : Tryz.prog.funcs[cf]? = some F9) (hb9 : F9.body = some C9) (hn9 : (F9.name == "runtime.NumGoroutine") = false) (ca : List Value) (e9 : Int) (w : World) (hc : ∀ w1, Ext w w1 → RetP Tryz.prog cf ca.toArray w1 (fun _ _ => False) (fun ch w' => ch = panE e9 ∧ Ext w1 w')) :
  Ret Tryz.prog 114 #[.func (.func cf) #[] ca.toArray] w (fun v w' => v = .tuple #[.agg #[.bool false, .slice none 0 0, .slice none 0 0], .int .i64 e9] ∧ Ext w w') := by
 refine enterD (S := No) (l := [_]) (L := []) 7 Tryz.func114 rfl rfl rfl (St.start w No) ?_; refine yA ?_; refine zA zr46 (fun ob gob uob => ?_)
 refine zA zr25 (fun fb gfb ufb => ?_)
 refine yC ?_; refine zg (fun _ => R_makeFunc) ?_; refine w_defer (fun w => R_defer (ca := [pX ob, pX fb]) rfl) rfl rfl ?_; refine yC ?_; refine zm rfl ?_
 refine w_callD (R := fun _ _ _ => False) (E := fun w ch w' => ch = panE e9 ∧ Ext w w') (fun w => R_callv rfl hf9 hb9 hn9) rfl rfl (fun w h => hc w (h.fr (_, No) zm0)) (fun w hw v w' h => h.elim) (fun w hw ch w' hh => by obtain ⟨rfl, hxx⟩ := hh; have hw' := hw.ext hxx; exact d_out (l := [.cell 2 46, .cell 3 25]) (B := _) (L := _) rfl (fun _ => invoke_cl (ca := [pX ob, pX fb]) Tryz.func150 rfl rfl) ((fcatchF_ok _ ob fb [.bool false, .slice none 0 0, .slice none 0 0] [.int .i64 0] rfl rfl _ (hw'.at_ 1 rfl) (hw'.at_ 0 rfl) (hw'.ne 1 0 rfl rfl (by decide))).mono (fun e u w2 ⟨h1, h2, h3, h4, h5⟩ => ⟨h1, h2, hw'.mod2 1 0 rfl rfl (by decide) h3 h4 h5⟩)) (.agg rfl rfl z46 (fun _ h => h.at_ 1 rfl) rfl (.cell rfl rfl z25 (fun _ h => zc 0 rfl rfl h) .nil)) (fun w2 hw2 => ⟨rfl, hw2.fr (_, No) zm0⟩))
end Go.Proofs.YtikdkendinnalaaGreatDoor
end
section
namespace Go.Sx
open Go.RowKit Go.Num
section
variable {P : Program} {ops : Array Oper} {Q : Exit → Act → World → Prop} {c : Cf} {e : Env} {B : Base} {L : Heap} {d fuel : Nat} {S : World → Prop} {listed : Array Bool} {o : Oper}
theorem o_tel2 {f : FuncId} {args : Array Value} {F : Option Addr → Nat → Option Addr → Nat → Value} {i k n k2 m : Nat} (hi : ops[i]? = some o) (hw : Region.wanted o (yielded ops (act c e).tmps) = true) (hd : o.dst = some d) (hr : ∀ w, RunE P o (ev c.n e) w f args)
    (hc : ∀ w, St B L w → Ret P f args w (Tel2 F k n k2 m w))
    (h : ∀ x a c' a2 c2, Kn x a k c' n → New_ B a k → Kn x a2 k2 c2 m → New_ B a2 k2 → WH P ops c Q S fuel (listed.setIfInBounds i true) (upd e d (F a c' a2 c2)) (x :: B) L) : WO P ops c Q S fuel listed i e B L := by
  refine o_callV (R := fun w v w' => Tel2 F k n k2 m w v w') (E := fun _ _ _ => False) hi hw hd hr (fun w hw => (hc w hw).toP) (fun w hw v w' ⟨a, c', a2, c2, hv, hN, hN2, hF, hF2, hx⟩ => ?_) (fun _ _ _ _ h => h.elim)
  subst hv
  exact ⟨_, L, hw.told hx, h _ a c' a2 c2 (Kn.new hN hF hw) (fun y hy => hF.mono (hw.fr y hy).size) (Kn.new hN2 hF2 hw) (fun y hy => hF2.mono (hw.fr y hy).size)⟩
end
end Go.Sx
end
