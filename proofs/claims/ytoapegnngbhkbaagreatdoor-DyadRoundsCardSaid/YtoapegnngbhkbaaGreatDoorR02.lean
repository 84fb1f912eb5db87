/- Layer 5, DyadRounds: at every two small dyadic numbers and every way, the law of rounding, quotients, scales and grids answers true. Part 2 of 10. -/
import Derived.Test.YtoapegnngbhkbaaGreatDoorR01
import Derived.Test.YtoapegnngbhkbaaGreatDoorProg
import Derived.Shelf.Small.Bits
import Derived.Shelf.Small.Wraps
import Derived.Shelf.Strconv.Atoi
import Derived.Shelf.Strconv.Itoa0
import Derived.Shelf.Strconv.Itoa1
import Derived.Shelf.LaysM
import Derived.Shelf.Strconv.Itoa2
import Derived.Shelf.Strconv.Itoa3
import Derived.Shelf.Strconv.AtoiErrFast
import Derived.Shelf.Strconv.ParseIntEmpty
import Derived.Shelf.Strconv.AtoiFail
import Derived.Shelf.Strconv.Clone
import Derived.Shelf.Strconv.SyntaxError
import Derived.Shelf.LaysC
import Derived.Shelf.Strconv.ToError
import Derived.Shelf.Strconv.Lower
import Derived.Shelf.Strconv.ParseUint10
import Derived.Shelf.Strconv.ParseUint10Empty
import Derived.Shelf.Strconv.ParseUint10Any
import Derived.Shelf.Strconv.ParseInt10
import Derived.Shelf.Strconv.AtoiLong
import Derived.Shelf.Strconv.AtoiInnerAll
import Derived.Shelf.Strconv.RangeError
import Derived.Shelf.Strconv.ToErrorRange
import Derived.Shelf.Strconv.AtoiAll
import Derived.Shelf.Strconv.ErrVarAll
import Derived.Shelf.Strings.Search1
import Derived.Shelf.Strings.Search2
import Derived.Shelf.Strings.Cut
import Derived.Shelf.Strings.Shaped
import Derived.Shelf.Strings.Prefix
import Derived.Shelf.Bits.Mul64
import Derived.Lib.Bytealg
import Derived.Laws.Bits64b
import Derived.Defers
import Derived.Recover
import Derived.WalkSmall
import Derived.Deep.Upon
import Derived.Laws.Externs
import Derived.Lib.SliceRun
section
/- Trees in memory. -/
namespace Go.Sx
open Go.RowKit Go.Tree
/-- a row of k-cell elements at a place: each where it should be, in a block that may be looked at -/
def At (W : World) (N : Nat → Prop) (a : Option Addr) (i : Nat) (cs : List Value) : Prop :=
  ∃ b o, a = some ⟨b, o, none⟩ ∧ N b ∧ ∀ j v, cs[j]? = some v → W.cell? ⟨b, o + i + j, none⟩ = some v
mutual
def exM (W : World) (N : Nat → Prop) : Ex → List Value → Prop
  | .mk op at_ nm ks, cs => ∃ a c, cs = [.int .u8 (op : Nat), .int .i64 at_, str nm, .slice a ks.length c] ∧ ks.length ≤ c ∧ exsM W N ks a 0
def exsM (W : World) (N : Nat → Prop) : List Ex → Option Addr → Nat → Prop
  | [], _, _ => True
  | e :: l, a, i => (∃ cs, At W N a i cs ∧ exM W N e cs) ∧ exsM W N l a (i + 4)
end
mutual
def smM (W : World) (N : Nat → Prop) : Sm → List Value → Prop
  | .mk op at_ nm ks b e, cs => ∃ a c ab cb ae ce, cs = [.int .u8 (op : Nat), .int .i64 at_, str nm, .slice a ks.length c, .slice ab b.length cb, .slice ae e.length ce] ∧ ks.length ≤ c ∧ exsM W N ks a 0 ∧ smsM W N b ab 0 ∧ smsM W N e ae 0
def smsM (W : World) (N : Nat → Prop) : List Sm → Option Addr → Nat → Prop
  | [], _, _ => True
  | e :: l, a, i => (∃ cs, At W N a i cs ∧ smM W N e cs) ∧ smsM W N l a (i + 6)
end
theorem At.fr {W W' : World} {S N : Nat → Prop} {a : Option Addr} {i : Nat} {cs : List Value} (h : At W N a i cs) (hf : Fr S W W') (hn : ∀ b, N b → ¬ S b) : At W' N a i cs := by
  obtain ⟨b, o, ha, hb, hc⟩ := h
  exact ⟨b, o, ha, hb, fun j v hj => hf.cell (hc j v hj) (hn b hb)⟩
mutual
theorem exM.fr {W W' : World} {S N : Nat → Prop} (hf : Fr S W W') (hn : ∀ b, N b → ¬ S b) : ∀ (e : Ex) (cs : List Value), exM W N e cs → exM W' N e cs
  | .mk op at_ nm ks, cs, h => by
    unfold exM at h ⊢
    obtain ⟨a, c, h1, h2, h3⟩ := h
    exact ⟨a, c, h1, h2, exsM.fr hf hn ks a 0 h3⟩
theorem exsM.fr {W W' : World} {S N : Nat → Prop} (hf : Fr S W W') (hn : ∀ b, N b → ¬ S b) : ∀ (l : List Ex) (a : Option Addr) (i : Nat), exsM W N l a i → exsM W' N l a i
  | [], _, _, _ => by unfold exsM; trivial
  | e :: l, a, i, h => by
    unfold exsM at h ⊢
    obtain ⟨⟨cs, h1, h2⟩, h3⟩ := h
    exact ⟨⟨cs, h1.fr hf hn, exM.fr hf hn e cs h2⟩, exsM.fr hf hn l a (i + 4) h3⟩
end
mutual
theorem smM.fr {W W' : World} {S N : Nat → Prop} (hf : Fr S W W') (hn : ∀ b, N b → ¬ S b) : ∀ (e : Sm) (cs : List Value), smM W N e cs → smM W' N e cs
  | .mk op at_ nm ks b e, cs, h => by
    unfold smM at h ⊢
    obtain ⟨a, c, ab, cb, ae, ce, h1, h2, h3, h4, h5⟩ := h
    exact ⟨a, c, ab, cb, ae, ce, h1, h2, exsM.fr hf hn ks a 0 h3, smsM.fr hf hn b ab 0 h4, smsM.fr hf hn e ae 0 h5⟩
theorem smsM.fr {W W' : World} {S N : Nat → Prop} (hf : Fr S W W') (hn : ∀ b, N b → ¬ S b) : ∀ (l : List Sm) (a : Option Addr) (i : Nat), smsM W N l a i → smsM W' N l a i
  | [], _, _, _ => by unfold smsM; trivial
  | e :: l, a, i, h => by
    unfold smsM at h ⊢
    obtain ⟨⟨cs, h1, h2⟩, h3⟩ := h
    exact ⟨⟨cs, h1.fr hf hn, smM.fr hf hn e cs h2⟩, smsM.fr hf hn l a (i + 6) h3⟩
end
/-- what is known at a world that is looked back at -/
abbrev Apart (x : World × (Nat → Prop)) (N : Nat → Prop) : Prop := ∀ b, N b → ¬ x.2 b
theorem exM.now {x : World × (Nat → Prop)} {N : Nat → Prop} {e : Ex} {cs : List Value} {B : Base} {L : Heap} {w : World} (h : exM x.1 N e cs) (hn : Apart x N) (hx : x ∈ B) (hw : St B L w) : exM w N e cs := exM.fr (hw.fr x hx) hn e cs h
theorem exsM.now {x : World × (Nat → Prop)} {N : Nat → Prop} {l : List Ex} {a : Option Addr} {i : Nat} {B : Base} {L : Heap} {w : World} (h : exsM x.1 N l a i) (hn : Apart x N) (hx : x ∈ B) (hw : St B L w) : exsM w N l a i := exsM.fr (hw.fr x hx) hn l a i h
theorem smM.now {x : World × (Nat → Prop)} {N : Nat → Prop} {e : Sm} {cs : List Value} {B : Base} {L : Heap} {w : World} (h : smM x.1 N e cs) (hn : Apart x N) (hx : x ∈ B) (hw : St B L w) : smM w N e cs := smM.fr (hw.fr x hx) hn e cs h
theorem smsM.now {x : World × (Nat → Prop)} {N : Nat → Prop} {l : List Sm} {a : Option Addr} {i : Nat} {B : Base} {L : Heap} {w : World} (h : smsM x.1 N l a i) (hn : Apart x N) (hx : x ∈ B) (hw : St B L w) : smsM w N l a i := smsM.fr (hw.fr x hx) hn l a i h
/-- one of a row -/
theorem exsM.get {W : World} {N : Nat → Prop} : ∀ {l : List Ex} {a : Option Addr} {i k : Nat} {e : Ex}, exsM W N l a i → l[k]? = some e → ∃ cs, At W N a (i + k * 4) cs ∧ exM W N e cs
  | [], _, _, _, _, _, h => by simp at h
  | x :: l, a, i, 0, e, h, hk => by
    obtain rfl : x = e := by simpa using hk
    unfold exsM at h
    obtain ⟨⟨cs, h1, h2⟩, _⟩ := h
    exact ⟨cs, by simpa using h1, h2⟩
  | x :: l, a, i, k + 1, e, h, hk => by
    unfold exsM at h
    obtain ⟨cs, h1, h2⟩ := exsM.get (k := k) h.2 (by simpa using hk)
    exact ⟨cs, by rw [show i + (k + 1) * 4 = i + 4 + k * 4 by omega]; exact h1, h2⟩
theorem smsM.get {W : World} {N : Nat → Prop} : ∀ {l : List Sm} {a : Option Addr} {i k : Nat} {e : Sm}, smsM W N l a i → l[k]? = some e → ∃ cs, At W N a (i + k * 6) cs ∧ smM W N e cs
  | [], _, _, _, _, _, h => by simp at h
  | x :: l, a, i, 0, e, h, hk => by
    obtain rfl : x = e := by simpa using hk
    unfold smsM at h
    obtain ⟨⟨cs, h1, h2⟩, _⟩ := h
    exact ⟨cs, by simpa using h1, h2⟩
  | x :: l, a, i, k + 1, e, h, hk => by
    unfold smsM at h
    obtain ⟨cs, h1, h2⟩ := smsM.get (k := k) h.2 (by simpa using hk)
    exact ⟨cs, by rw [show i + (k + 1) * 6 = i + 6 + k * 6 by omega]; exact h1, h2⟩
/-- a cell that is known at a world that is looked back at -/
theorem At.cell {x : World × (Nat → Prop)} {N : Nat → Prop} {b o i : Nat} {cs : List Value} {B : Base} {L : Heap} {w : World} (h : At x.1 N (some ⟨b, o, none⟩) i cs) (hn : Apart x N) (hx : x ∈ B) (hw : St B L w) (j : Nat) (v : Value) (hj : cs[j]? = some v) : w.cell? ⟨b, o + i + j, none⟩ = some v := by
  obtain ⟨b', o', ha, hb, hc⟩ := h.fr (hw.fr x hx) hn
  cases ha
  exact hc j v hj
theorem At.ptr {W : World} {N : Nat → Prop} {a : Option Addr} {i : Nat} {cs : List Value} (h : At W N a i cs) : ∃ b o, a = some ⟨b, o, none⟩ := by obtain ⟨b, o, ha, _⟩ := h; exact ⟨b, o, ha⟩
section
variable {P : Program} {ops : Array Oper} {Q : Exit → Act → World → Prop} {c : Cf} {e : Env} {B : Base} {L : Heap} {rest : List Oper} {o : Oper} {v : Value} {d : Nat} {q : Md} {w : World} {ρ : Operand → Value} {x y z : Operand} {ty T : TypeId} {pos p : String} {aft a : Array Edge} {D : Option Tmp} {g : Option (Nat × Bool)}
def fdB (P : Program) (t f ft off : Nat) : Bool :=
  match P.underlying t with
  | some (.struct fs) => (match fs[f]? with | some x => x.type == ft && x.offset == off | none => false)
  | _ => false
theorem R_fieldA {t f ft off : Nat} {xs : List Value} (hf : fdB P t f ft off = true) (hz : szB P ft 1 false = true) (hx : ρ x = .agg xs.toArray) (hv : xs[off]? = some v) : Run P ⟨D, .field t x f, ty, pos, aft, g⟩ ρ w v w := by
  unfold fdB at hf
  split at hf
  · rename_i fs h1
    split at hf
    · rename_i fl h2
      simp only [Bool.and_eq_true, beq_iff_eq] at hf
      simp only [Run, execOp, hx, Instr.field, Sem.run_bind, run_underlying h1, Result.andThen, h2, hf.1, hf.2]
      have h3 := run_part1 (w := w) hz hv
      have h4 : (asAgg (.agg xs.toArray)).run P w = .ok xs.toArray w := rfl
      simp only [Sem.run_bind, h4, Result.andThen, h3]
      rfl
    · cases hf
  · cases hf
theorem eq_bb {t : TypeId} {a b : Bool} (h : P.underlying t = some .bool) : (Op.equal t (.bool a) (.bool b)).run P w = .ok (a == b) w := by
  unfold Op.equal Op.maxDepth
  rw [show 10000 = 9999 + 1 from rfl]
  unfold Op.equalIn
  simp only [Sem.run_bind, run_underlying h, Result.andThen]
  rfl
theorem R_bne {t yt : TypeId} {a b : Bool} (h : P.underlying t = some .bool) (hx : ρ x = .bool a) (hy : ρ y = .bool b) : Run P ⟨D, .binOp .neq t x y yt, ty, pos, aft, g⟩ ρ w (.bool (!(a == b))) w := by
  simp only [Run, execOp, hx, hy, eqGuard, binOp, Sem.run_bind, eq_bb h, Result.andThen]
  rfl
theorem R_beq {t yt : TypeId} {a b : Bool} (h : P.underlying t = some .bool) (hx : ρ x = .bool a) (hy : ρ y = .bool b) : Run P ⟨D, .binOp .eql t x y yt, ty, pos, aft, g⟩ ρ w (.bool (a == b)) w := by
  simp only [Run, execOp, hx, hy, eqGuard, binOp, Sem.run_bind, eq_bb h, Result.andThen]
  rfl
end
end Go.Sx
end
namespace Go.Proofs.YtoapegnngbhkbaaGreatDoor
open Go.Sx
theorem mixed : Tryz.prog.follows .mixedOrders = true := by kernel_rfl
theorem fa40_0 : faB Tryz.prog 40 0 0 = true := by kernel_rfl
theorem fa40_1 : faB Tryz.prog 40 1 1 = true := by kernel_rfl
theorem fa40_2 : faB Tryz.prog 40 2 2 = true := by kernel_rfl
theorem z25 : szB Tryz.prog 25 2 true = true := by kernel_rfl
theorem z27 : szB Tryz.prog 27 3 true = true := by kernel_rfl
theorem z3 : szB Tryz.prog 3 1 false = true := by kernel_rfl
theorem z4 : szB Tryz.prog 4 1 false = true := by kernel_rfl
theorem zr25 : zeroB Tryz.prog 25 (.agg #[(.bool false), (.slice none 0 0)]) := by unfold zeroB; kernel_rfl
theorem zr27 : zeroB Tryz.prog 27 (.agg #[(.bool false), (.slice none 0 0), (.int .i64 0)]) := by unfold zeroB; kernel_rfl
theorem bt27 : buildTab Tryz.prog 27 = some ([(0, 2), (2, 1)], [(.bool false), (.slice none 0 0), (.int .i64 0)]) := by kernel_rfl
theorem fa25_1 : faB Tryz.prog 25 1 1 = true := by kernel_rfl
theorem fa27_0 : faB Tryz.prog 27 0 0 = true := by kernel_rfl
theorem z23 : szB Tryz.prog 23 1 false = true := by kernel_rfl
theorem fa27_1 : faB Tryz.prog 27 1 2 = true := by kernel_rfl
theorem st9 : strB Tryz.prog 9 = true := by kernel_rfl
theorem fa25_0 : faB Tryz.prog 25 0 0 = true := by kernel_rfl
theorem sl23 : slB Tryz.prog 23 1 = true := by kernel_rfl
theorem un3 : Tryz.prog.underlying 3 = some (.int .i64) := by kernel_rfl
theorem un66 : Tryz.prog.underlying 66 = some (.int .u64) := by kernel_rfl
theorem z66 : szB Tryz.prog 66 1 false = true := by kernel_rfl
theorem bt25 : buildTab Tryz.prog 25 = some ([(0, 1), (1, 1)], [(.bool false), (.slice none 0 0)]) := by kernel_rfl
theorem unb4 : Tryz.prog.underlying 4 = some .bool := by kernel_rfl
theorem slt23 : slT Tryz.prog 23 66 1 8 (.int .u64 0) := ⟨by kernel_rfl, by kernel_rfl, by kernel_rfl⟩
theorem un2 : Tryz.prog.underlying 2 = some (.int .i64) := by kernel_rfl
theorem slt113 : slT Tryz.prog 113 5 1 1 (.int .u8 0) := ⟨by kernel_rfl, by kernel_rfl, by kernel_rfl⟩
theorem un113 : Tryz.prog.underlying 113 = some (.slice 5) := by kernel_rfl
theorem un5 : Tryz.prog.underlying 5 = some (.int .u8) := by kernel_rfl
theorem un9 : Tryz.prog.underlying 9 = some .string := by kernel_rfl
theorem sl22 : slB Tryz.prog 22 1 = true := by kernel_rfl
theorem slt22 : slT Tryz.prog 22 66 1 8 (.int .u64 0) := ⟨by kernel_rfl, by kernel_rfl, by kernel_rfl⟩
theorem un99 : Tryz.prog.underlying 99 = some (.int .u64) := by kernel_rfl
theorem slt101 : slT Tryz.prog 101 27 3 40 (.agg #[(.bool false), (.slice none 0 0), (.int .i64 0)]) := ⟨by kernel_rfl, by kernel_rfl, by kernel_rfl⟩
theorem uni61 : Tryz.prog.underlying 61 = some (.interface #[("Error", 177)]) := by kernel_rfl
theorem sl101 : slB Tryz.prog 101 3 = true := by kernel_rfl
theorem fa86_1 : faB Tryz.prog 86 1 1 = true := by kernel_rfl
theorem fd86_1 : fdB Tryz.prog 86 1 4 1 = true := by kernel_rfl
theorem fa86_0 : faB Tryz.prog 86 0 0 = true := by kernel_rfl
theorem z84 : szB Tryz.prog 84 1 true = true := by kernel_rfl
theorem z86 : szB Tryz.prog 86 2 true = true := by kernel_rfl
theorem zr86 : zeroB Tryz.prog 86 (.agg #[(.slice none 0 0), (.bool false)]) := by unfold zeroB; kernel_rfl
theorem bt84 : buildTab Tryz.prog 84 = some ([(0, 1)], [(.slice none 0 0)]) := by kernel_rfl
theorem bt86 : buildTab Tryz.prog 86 = some ([(0, 1), (1, 1)], [(.slice none 0 0), (.bool false)]) := by kernel_rfl
theorem fa84_0 : faB Tryz.prog 84 0 0 = true := by kernel_rfl
theorem sl113 : slB Tryz.prog 113 1 = true := by kernel_rfl
theorem z5 : szB Tryz.prog 5 1 false = true := by kernel_rfl
theorem slt139 : slT Tryz.prog 139 23 1 24 (.slice none 0 0) := ⟨by kernel_rfl, by kernel_rfl, by kernel_rfl⟩
theorem sl139 : slB Tryz.prog 139 1 = true := by kernel_rfl
theorem ar135 : arB Tryz.prog 135 2 1 false = true := by kernel_rfl
theorem z135 : szB Tryz.prog 135 2 true = true := by kernel_rfl
theorem z98 : szB Tryz.prog 98 1 false = true := by kernel_rfl
theorem zr135 : zeroB Tryz.prog 135 (.agg #[(.int .u64 0), (.int .u64 0)]) := by unfold zeroB; kernel_rfl
theorem zr23 : zeroB Tryz.prog 23 (.slice none 0 0) := by unfold zeroB; kernel_rfl
theorem zr3 : zeroB Tryz.prog 3 (.int .i64 0) := by unfold zeroB; kernel_rfl
theorem zr66 : zeroB Tryz.prog 66 (.int .u64 0) := by unfold zeroB; kernel_rfl
theorem zr98 : zeroB Tryz.prog 98 .nilFunc := by unfold zeroB; kernel_rfl
theorem un23 : Tryz.prog.underlying 23 = some (.slice 66) := by kernel_rfl
end Go.Proofs.YtoapegnngbhkbaaGreatDoor
section
/-
  DERIVED: THE SHELF's CONTRACTS AT THIS DUMP, IN PLAIN WORDS (tools/lay-plain.mjs out of 'YtoapegnngbhkbaaGreatDoorShelf.lean', which tools/lay-shelf.mjs wrote): THE SAME DECLARATIONS UNDER THE SAME NAMES: 'import', 'namespace', 'open', 'def', 'theorem' AND NOTHING ELSE: no command of the shelf's: FOR A HAND-IN. Each laying: the table of numbers ('.._ren') and one theorem, a field a fact of the dump's own or the kernel's comparison; each contract: ONE APPLICATION.
-/
namespace Go.Proofs
open Go.Shelf
def Tryz.lays134_ren : Go.Shelf.Ren := ⟨fun | 134 => 137 | 129 => 79 | n => n, fun | 53 => 66 | 3 => 3 | 4 => 4 | 46 => 99 | 5 => 5 | 9 => 9 | n => n, fun | n => n⟩
theorem Tryz.lays134 : Go.Proofs.Lays.n134 Tryz.prog Tryz.lays134_ren := {
  mixed := by kernel_rfl
  f129 := Tryz.func79.trans (congrArg some (by kernel_rfl))
  f134 := Tryz.func137.trans (congrArg some (by kernel_rfl))
  t3 := Tryz.underlying3
  a3 := Tryz.isAgg3
  z3 := Tryz.sizeOf3
  v3 := Tryz.zeroValue3
  t4 := Tryz.underlying4
  a4 := Tryz.isAgg4
  z4 := Tryz.sizeOf4
  v4 := Tryz.zeroValue4
  t5 := Tryz.underlying5
  a5 := Tryz.isAgg5
  z5 := Tryz.sizeOf5
  v5 := Tryz.zeroValue5
  t9 := Tryz.underlying9
  a9 := Tryz.isAgg9
  z9 := Tryz.sizeOf9
  v9 := Tryz.zeroValue9
  t46 := Tryz.underlying99
  a46 := Tryz.isAgg99
  z46 := Tryz.sizeOf99
  v46 := Tryz.zeroValue99
  t53 := Tryz.underlying66
  a53 := Tryz.isAgg66
  z53 := Tryz.sizeOf66
  v53 := Tryz.zeroValue66 }
/-- bits.LeadingZeros64: "LeadingZeros64 returns the number of leading zero bits in x; the result is 64 for x == 0.": IT RETURNS '64 - Lib.bitLen x'; the world is as it was. ITS CALLEE bits.Len64 IS MET BY ITS OWN CONTRACT OFF THE SHELF (lay that first): entered in place it sends the kernel out of memory. (LAID: no walk: one application.) -/
theorem Tryz.bits_LeadingZeros64 (x : Int) (w : World) (h0 : 0 ≤ x) (h1 : x ≤ 18446744073709551615) :
    Calls Tryz.prog 137 #[.int .u64 x] w fun e w' => e = .returned (.int .i64 (64 - (Lib.bitLen x.toNat : Int))) ∧ w' = w := Any.bits_LeadingZeros64 Tryz.lays134 x w h0 h1
def Tryz.lays103_ren : Go.Shelf.Ren := ⟨fun | 103 => 60 | 210 => 93 | 206 => 128 | n => n, fun | 9 => 9 | 4 => 4 | 24 => 88 | 3 => 3 | n => n, fun | n => n⟩
theorem Tryz.lays103 : Go.Proofs.Lays.n103 Tryz.prog Tryz.lays103_ren := {
  mixed := by kernel_rfl
  f103 := Tryz.func60.trans (congrArg some (by kernel_rfl))
  f206 := Tryz.func128.trans (congrArg some (by kernel_rfl))
  f210 := Tryz.func93.trans (congrArg some (by kernel_rfl))
  t3 := Tryz.underlying3
  a3 := Tryz.isAgg3
  z3 := Tryz.sizeOf3
  v3 := Tryz.zeroValue3
  t4 := Tryz.underlying4
  a4 := Tryz.isAgg4
  z4 := Tryz.sizeOf4
  v4 := Tryz.zeroValue4
  t9 := Tryz.underlying9
  a9 := Tryz.isAgg9
  z9 := Tryz.sizeOf9
  v9 := Tryz.zeroValue9
  t24 := Tryz.underlying88
  a24 := Tryz.isAgg88
  z24 := Tryz.sizeOf88
  v24 := Tryz.zeroValue88 }
open Go.RowKit in
/-- strings.CutPrefix: "CutPrefix returns s without the provided leading prefix string and reports whether it found the prefix. If s doesn't start with prefix, CutPrefix returns s, false. If prefix is the empty string, CutPrefix returns s, true.": IT RETURNS '(Lib.trimPrefix s p, Lib.hasPrefix s p)'; the world is as it was. (LAID: no walk: one application.) -/
theorem Tryz.strings_CutPrefix (s p : ByteArray) (w : World) :
    Calls Tryz.prog 60 #[.string s, .string p] w fun e w' => e = .returned (.tuple #[.string ⟨(Lib.trimPrefix s.data.toList p.data.toList).toArray⟩, .bool (Lib.hasPrefix s.data.toList p.data.toList)]) ∧ w' = w := Any.strings_CutPrefix Tryz.lays103 s p w
def Tryz.lays172_ren : Go.Shelf.Ren := ⟨fun | 172 => 30 | 244 => 63 | 245 => 64 | 247 => 97 | 279 => 98 | 280 => 99 | 281 => 100 | 282 => 101 | 287 => 131 | 316 => 132 | 171 => 27 | 205 => 133 | 321 => 151 | 322 => 152 | 243 => 58 | 246 => 91 | 283 => 120 | 284 => 121 | 285 => 122 | 286 => 123 | 129 => 79 | 317 => 145 | 318 => 146 | 319 => 147 | 320 => 148 | 337 => 154 | 338 => 155 | n => n, fun | 9 => 9 | 3 => 3 | 75 => 61 | 76 => 62 | 4 => 4 | 5 => 5 | 167 => 121 | 37 => 113 | 0 => 0 | 85 => 122 | 2 => 2 | 168 => 124 | 53 => 66 | 175 => 150 | 46 => 99 | 210 => 154 | 127 => 170 | 145 => 173 | 143 => 171 | 21 => 21 | 171 => 141 | 173 => 143 | 212 => 161 | 51 => 162 | 20 => 20 | 213 => 163 | 232 => 175 | 233 => 176 | 80 => 177 | n => n, fun | 15 => 1 | 16 => 2 | 17 => 5 | 18 => 6 | 19 => 7 | n => n⟩
open Go.RowKit in
def Tryz.lays129_ren : Go.Shelf.Ren := ⟨fun | 129 => 79 | n => n, fun | 53 => 66 | 3 => 3 | 4 => 4 | 46 => 99 | 5 => 5 | 9 => 9 | n => n, fun | n => n⟩
theorem Tryz.lays129 : Go.Proofs.Lays.n129 Tryz.prog Tryz.lays129_ren := {
  mixed := by kernel_rfl
  f129 := Tryz.func79.trans (congrArg some (by kernel_rfl))
  t3 := Tryz.underlying3
  a3 := Tryz.isAgg3
  z3 := Tryz.sizeOf3
  v3 := Tryz.zeroValue3
  t4 := Tryz.underlying4
  a4 := Tryz.isAgg4
  z4 := Tryz.sizeOf4
  v4 := Tryz.zeroValue4
  t5 := Tryz.underlying5
  a5 := Tryz.isAgg5
  z5 := Tryz.sizeOf5
  v5 := Tryz.zeroValue5
  t9 := Tryz.underlying9
  a9 := Tryz.isAgg9
  z9 := Tryz.sizeOf9
  v9 := Tryz.zeroValue9
  t46 := Tryz.underlying99
  a46 := Tryz.isAgg99
  z46 := Tryz.sizeOf99
  v46 := Tryz.zeroValue99
  t53 := Tryz.underlying66
  a53 := Tryz.isAgg66
  z53 := Tryz.sizeOf66
  v53 := Tryz.zeroValue66 }
/-- bits.Len64: "Len64 returns the minimum number of bits required to represent x; the result is 0 for x == 0.": IT RETURNS 'Lib.bitLen x'; the world is as it was. ('h0', 'h1': x is a uint64.) (LAID: no walk: one application.) -/
theorem Tryz.bits_Len64 (x : Int) (w : World) (h0 : 0 ≤ x) (h1 : x ≤ 18446744073709551615) :
    Calls Tryz.prog 79 #[.int .u64 x] w fun e w' => e = .returned (.int .i64 (Lib.bitLen x.toNat)) ∧ w' = w := Any.bits_Len64 Tryz.lays129 x w h0 h1
def Tryz.laysM171_ren : Go.Shelf.Ren := ⟨fun | 171 => 27 | 243 => 58 | 246 => 91 | 283 => 120 | 284 => 121 | 285 => 122 | 286 => 123 | 129 => 79 | 317 => 145 | 318 => 146 | 319 => 147 | 320 => 148 | 337 => 154 | 338 => 155 | n => n, fun | 3 => 3 | 9 => 9 | 2 => 2 | 4 => 4 | 171 => 141 | 0 => 0 | 53 => 66 | 37 => 113 | 5 => 5 | 173 => 143 | 212 => 161 | 51 => 162 | 20 => 20 | 213 => 163 | 46 => 99 | 232 => 175 | 233 => 176 | n => n, fun | 17 => 5 | 18 => 6 | 19 => 7 | n => n⟩
theorem Tryz.laysM171 : Go.Proofs.LaysM.n171 Tryz.prog Tryz.laysM171_ren := {
  mixed := by kernel_rfl
  f129 := Tryz.func79.trans (congrArg some (by kernel_rfl))
  f171 := Tryz.func27.trans (congrArg some (by kernel_rfl))
  f243 := Tryz.func58.trans (congrArg some (by kernel_rfl))
  f246 := Tryz.func91.trans (congrArg some (by kernel_rfl))
  f283 := Tryz.func120.trans (congrArg some (by kernel_rfl))
  f284 := Tryz.func121.trans (congrArg some (by kernel_rfl))
  f285 := Tryz.func122.trans (congrArg some (by kernel_rfl))
  f286 := Tryz.func123.trans (congrArg some (by kernel_rfl))
  f317 := Tryz.func145.trans (congrArg some (by kernel_rfl))
  f318 := Tryz.func146.trans (congrArg some (by kernel_rfl))
  f319 := Tryz.func147.trans (congrArg some (by kernel_rfl))
  f320 := Tryz.func148.trans (congrArg some (by kernel_rfl))
  f337 := Tryz.func154.trans (congrArg some (by kernel_rfl))
  f338 := Tryz.func155.trans (congrArg some (by kernel_rfl))
  t0 := Tryz.underlying0
  a0 := Tryz.isAgg0
  z0 := Tryz.sizeOf0
  v0 := Tryz.zeroValue0
  t2 := Tryz.underlying2
  a2 := Tryz.isAgg2
  z2 := Tryz.sizeOf2
  v2 := Tryz.zeroValue2
  t3 := Tryz.underlying3
  a3 := Tryz.isAgg3
  z3 := Tryz.sizeOf3
  v3 := Tryz.zeroValue3
  t4 := Tryz.underlying4
  a4 := Tryz.isAgg4
  z4 := Tryz.sizeOf4
  v4 := Tryz.zeroValue4
  t5 := Tryz.underlying5
  a5 := Tryz.isAgg5
  z5 := Tryz.sizeOf5
  v5 := Tryz.zeroValue5
  t9 := Tryz.underlying9
  a9 := Tryz.isAgg9
  z9 := Tryz.sizeOf9
  v9 := Tryz.zeroValue9
  t20 := Tryz.underlying20
  a20 := Tryz.isAgg20
  z20 := Tryz.sizeOf20
  v20 := Tryz.zeroValue20
  t37 := Tryz.underlying113
  a37 := Tryz.isAgg113
  z37 := Tryz.sizeOf113
  v37 := Tryz.zeroValue113
  t46 := Tryz.underlying99
  a46 := Tryz.isAgg99
  z46 := Tryz.sizeOf99
  v46 := Tryz.zeroValue99
  t51 := Tryz.underlying162
  a51 := Tryz.isAgg162
  z51 := Tryz.sizeOf162
  v51 := Tryz.zeroValue162
  t53 := Tryz.underlying66
  a53 := Tryz.isAgg66
  z53 := Tryz.sizeOf66
  v53 := Tryz.zeroValue66
  t171 := Tryz.underlying141
  a171 := Tryz.isAgg141
  z171 := Tryz.sizeOf141
  v171 := Tryz.zeroValue141
  t173 := Tryz.underlying143
  a173 := Tryz.isAgg143
  z173 := Tryz.sizeOf143
  v173 := Tryz.zeroValue143
  t212 := Tryz.underlying161
  a212 := Tryz.isAgg161
  z212 := Tryz.sizeOf161
  v212 := Tryz.zeroValue161
  t213 := Tryz.underlying163
  a213 := Tryz.isAgg163
  z213 := Tryz.sizeOf163
  t232 := Tryz.underlying175
  a232 := Tryz.isAgg175
  z232 := Tryz.sizeOf175
  v232 := Tryz.zeroValue175
  t233 := Tryz.underlying176
  a233 := Tryz.isAgg176
  z233 := Tryz.sizeOf176
  v233 := Tryz.zeroValue176
  g17 := by kernel_rfl
  g18 := by kernel_rfl
  g19 := by kernel_rfl
  i0 := by kernel_rfl
  i2 := by kernel_rfl
  i3 := by kernel_rfl
  i4 := by kernel_rfl
  i5 := by kernel_rfl
  i9 := by kernel_rfl
  i20 := by kernel_rfl
  i37 := by kernel_rfl
  i46 := by kernel_rfl
  i51 := by kernel_rfl
  i53 := by kernel_rfl
  i171 := by kernel_rfl
  i173 := by kernel_rfl
  i212 := by kernel_rfl
  i232 := by kernel_rfl
  i233 := by kernel_rfl
  m17 := by kernel_rfl
  m18 := by kernel_rfl
  m19 := by kernel_rfl }
open Go.RowKit Go.Sort Go.Lib in
/-- strconv.Itoa: "Itoa is equivalent to FormatInt(int64(i), 10).": i's DECIMAL NUMERAL ('Lib.itoa': a '-' where i is negative, then the digits), FOR EVERY int. The world behind the call: the world before it, new blocks behind the heap (the library's 'var a [24]byte'), draws. (LAID: no walk: one application.) -/
theorem Tryz.strconv_Itoa (n : Int) (h0 : -9223372036854775808 ≤ n) (h1 : n ≤ 9223372036854775807) (w : World) (htab : Lib.TabIs Tryz.prog w "internal/strconv.uint64pow10" .u64 Lib.pow10Tab) :
    Calls Tryz.prog 27 #[.int .i64 n] w fun e w' => e = .returned (.string ⟨(Lib.itoa n).toArray⟩) ∧ ∃ k os, w' = grow (w.drewN k) os := Any.strconv_Itoa Tryz.laysM171 n h0 h1 w htab
def Tryz.lays171_ren : Go.Shelf.Ren := ⟨fun | 171 => 27 | 243 => 58 | 246 => 91 | 283 => 120 | 284 => 121 | 285 => 122 | 286 => 123 | 129 => 79 | 317 => 145 | 318 => 146 | 319 => 147 | 320 => 148 | 337 => 154 | 338 => 155 | n => n, fun | 3 => 3 | 9 => 9 | 2 => 2 | 4 => 4 | 171 => 141 | 0 => 0 | 53 => 66 | 37 => 113 | 5 => 5 | 173 => 143 | 212 => 161 | 51 => 162 | 20 => 20 | 213 => 163 | 46 => 99 | 232 => 175 | 233 => 176 | n => n, fun | 17 => 5 | 18 => 6 | 19 => 7 | n => n⟩
open Go.RowKit Go.Sort Go.Lib in
def Tryz.laysC172_ren : Go.Shelf.Ren := ⟨fun | 172 => 30 | 244 => 63 | 245 => 64 | 247 => 97 | 279 => 98 | 280 => 99 | 281 => 100 | 282 => 101 | 287 => 131 | 316 => 132 | 171 => 27 | 205 => 133 | 321 => 151 | 322 => 152 | 243 => 58 | 246 => 91 | 283 => 120 | 284 => 121 | 285 => 122 | 286 => 123 | 129 => 79 | 317 => 145 | 318 => 146 | 319 => 147 | 320 => 148 | 337 => 154 | 338 => 155 | n => n, fun | 9 => 9 | 3 => 3 | 75 => 61 | 76 => 62 | 4 => 4 | 5 => 5 | 167 => 121 | 37 => 113 | 0 => 0 | 85 => 122 | 2 => 2 | 168 => 124 | 53 => 66 | 175 => 150 | 46 => 99 | 210 => 154 | 127 => 170 | 145 => 173 | 143 => 171 | 21 => 21 | 171 => 141 | 173 => 143 | 212 => 161 | 51 => 162 | 20 => 20 | 213 => 163 | 232 => 175 | 233 => 176 | 80 => 177 | n => n, fun | 15 => 1 | 16 => 2 | 17 => 5 | 18 => 6 | 19 => 7 | n => n⟩
theorem Tryz.laysC172 : Go.Proofs.LaysC.n172 Tryz.prog Tryz.laysC172_ren := {
  mixed := by kernel_rfl
  f129 := Tryz.func79.trans (congrArg some (by kernel_rfl))
  f171 := Tryz.func27.trans (congrArg some (by kernel_rfl))
  f172 := Tryz.func30.trans (congrArg some (by kernel_rfl))
  f205 := Tryz.func133.trans (congrArg some (by kernel_rfl))
  f243 := Tryz.func58.trans (congrArg some (by kernel_rfl))
  f244 := Tryz.func63.trans (congrArg some (by kernel_rfl))
  f245 := Tryz.func64.trans (congrArg some (by kernel_rfl))
  f246 := Tryz.func91.trans (congrArg some (by kernel_rfl))
  f247 := Tryz.func97.trans (congrArg some (by kernel_rfl))
  f279 := Tryz.func98.trans (congrArg some (by kernel_rfl))
  f280 := Tryz.func99.trans (congrArg some (by kernel_rfl))
  f281 := Tryz.func100.trans (congrArg some (by kernel_rfl))
  f282 := Tryz.func101.trans (congrArg some (by kernel_rfl))
  f283 := Tryz.func120.trans (congrArg some (by kernel_rfl))
  f284 := Tryz.func121.trans (congrArg some (by kernel_rfl))
  f285 := Tryz.func122.trans (congrArg some (by kernel_rfl))
  f286 := Tryz.func123.trans (congrArg some (by kernel_rfl))
  f287 := Tryz.func131.trans (congrArg some (by kernel_rfl))
  f316 := Tryz.func132.trans (congrArg some (by kernel_rfl))
  f317 := Tryz.func145.trans (congrArg some (by kernel_rfl))
  f318 := Tryz.func146.trans (congrArg some (by kernel_rfl))
  f319 := Tryz.func147.trans (congrArg some (by kernel_rfl))
  f320 := Tryz.func148.trans (congrArg some (by kernel_rfl))
  f321 := Tryz.func151.trans (congrArg some (by kernel_rfl))
  f322 := Tryz.func152.trans (congrArg some (by kernel_rfl))
  f337 := Tryz.func154.trans (congrArg some (by kernel_rfl))
  f338 := Tryz.func155.trans (congrArg some (by kernel_rfl))
  t0 := Tryz.underlying0
  a0 := Tryz.isAgg0
  z0 := Tryz.sizeOf0
  v0 := Tryz.zeroValue0
  t2 := Tryz.underlying2
  a2 := Tryz.isAgg2
  z2 := Tryz.sizeOf2
  v2 := Tryz.zeroValue2
  t3 := Tryz.underlying3
  a3 := Tryz.isAgg3
  z3 := Tryz.sizeOf3
  v3 := Tryz.zeroValue3
  t4 := Tryz.underlying4
  a4 := Tryz.isAgg4
  z4 := Tryz.sizeOf4
  v4 := Tryz.zeroValue4
  t5 := Tryz.underlying5
  a5 := Tryz.isAgg5
  z5 := Tryz.sizeOf5
  v5 := Tryz.zeroValue5
  t9 := Tryz.underlying9
  a9 := Tryz.isAgg9
  z9 := Tryz.sizeOf9
  v9 := Tryz.zeroValue9
  t20 := Tryz.underlying20
  a20 := Tryz.isAgg20
  z20 := Tryz.sizeOf20
  v20 := Tryz.zeroValue20
  t21 := Tryz.underlying21
  a21 := Tryz.isAgg21
  z21 := Tryz.sizeOf21
  v21 := Tryz.zeroValue21
  t37 := Tryz.underlying113
  a37 := Tryz.isAgg113
  z37 := Tryz.sizeOf113
  v37 := Tryz.zeroValue113
  t46 := Tryz.underlying99
  a46 := Tryz.isAgg99
  z46 := Tryz.sizeOf99
  v46 := Tryz.zeroValue99
  t51 := Tryz.underlying162
  a51 := Tryz.isAgg162
  z51 := Tryz.sizeOf162
  v51 := Tryz.zeroValue162
  t53 := Tryz.underlying66
  a53 := Tryz.isAgg66
  z53 := Tryz.sizeOf66
  v53 := Tryz.zeroValue66
  t75 := Tryz.underlying61
  a75 := Tryz.isAgg61
  z75 := Tryz.sizeOf61
  v75 := Tryz.zeroValue61
  t76 := Tryz.underlying62
  a76 := Tryz.isAgg62
  z76 := Tryz.sizeOf62
  v76 := Tryz.zeroValue62
  t85 := Tryz.underlying122
  a85 := Tryz.isAgg122
  z85 := Tryz.sizeOf122
  v85 := Tryz.zeroValue122
  t127 := Tryz.underlying170
  a127 := Tryz.isAgg170
  z127 := Tryz.sizeOf170
  v127 := Tryz.zeroValue170
  t143 := Tryz.underlying171
  a143 := Tryz.isAgg171
  z143 := Tryz.sizeOf171
  v143 := Tryz.zeroValue171
  t145 := Tryz.underlying173
  a145 := Tryz.isAgg173
  z145 := Tryz.sizeOf173
  v145 := Tryz.zeroValue173
  t167 := Tryz.underlying121
  a167 := Tryz.isAgg121
  z167 := Tryz.sizeOf121
  v167 := Tryz.zeroValue121
  t168 := Tryz.underlying124
  a168 := Tryz.isAgg124
  z168 := Tryz.sizeOf124
  v168 := Tryz.zeroValue124
  t171 := Tryz.underlying141
  a171 := Tryz.isAgg141
  z171 := Tryz.sizeOf141
  v171 := Tryz.zeroValue141
  t173 := Tryz.underlying143
  a173 := Tryz.isAgg143
  z173 := Tryz.sizeOf143
  v173 := Tryz.zeroValue143
  t175 := Tryz.underlying150
  a175 := Tryz.isAgg150
  z175 := Tryz.sizeOf150
  v175 := Tryz.zeroValue150
  t210 := Tryz.underlying154
  a210 := Tryz.isAgg154
  z210 := Tryz.sizeOf154
  v210 := Tryz.zeroValue154
  t212 := Tryz.underlying161
  a212 := Tryz.isAgg161
  z212 := Tryz.sizeOf161
  v212 := Tryz.zeroValue161
  t213 := Tryz.underlying163
  a213 := Tryz.isAgg163
  z213 := Tryz.sizeOf163
  t232 := Tryz.underlying175
  a232 := Tryz.isAgg175
  z232 := Tryz.sizeOf175
  v232 := Tryz.zeroValue175
  t233 := Tryz.underlying176
  a233 := Tryz.isAgg176
  z233 := Tryz.sizeOf176
  v233 := Tryz.zeroValue176
  g15 := by kernel_rfl
  g16 := by kernel_rfl
  g17 := by kernel_rfl
  g18 := by kernel_rfl
  g19 := by kernel_rfl
  t80 := Tryz.underlying177
  a80 := Tryz.isAgg177
  z80 := Tryz.sizeOf177
  v80 := Tryz.zeroValue177
  i0 := by kernel_rfl
  i2 := by kernel_rfl
  i3 := by kernel_rfl
  i4 := by kernel_rfl
  i5 := by kernel_rfl
  i9 := by kernel_rfl
  i20 := by kernel_rfl
  i21 := by kernel_rfl
  i37 := by kernel_rfl
  i46 := by kernel_rfl
  i51 := by kernel_rfl
  i53 := by kernel_rfl
  i75 := by kernel_rfl
  i76 := by kernel_rfl
  i80 := by kernel_rfl
  i85 := by kernel_rfl
  i127 := by kernel_rfl
  i143 := by kernel_rfl
  i145 := by kernel_rfl
  i167 := by kernel_rfl
  i168 := by kernel_rfl
  i171 := by kernel_rfl
  i173 := by kernel_rfl
  i175 := by kernel_rfl
  i210 := by kernel_rfl
  i212 := by kernel_rfl
  i232 := by kernel_rfl
  i233 := by kernel_rfl
  m15 := by kernel_rfl
  m16 := by kernel_rfl
  m17 := by kernel_rfl
  m18 := by kernel_rfl
  m19 := by kernel_rfl
  c0 := by kernel_rfl
  c2 := by kernel_rfl
  c3 := by kernel_rfl
  c4 := by kernel_rfl
  c5 := by kernel_rfl
  c9 := by kernel_rfl
  c20 := by kernel_rfl
  c21 := by kernel_rfl
  c37 := by kernel_rfl
  c46 := by kernel_rfl
  c51 := by kernel_rfl
  c53 := by kernel_rfl
  c75 := by kernel_rfl
  c76 := by kernel_rfl
  c80 := by kernel_rfl
  c85 := by kernel_rfl
  c127 := by kernel_rfl
  c143 := by kernel_rfl
  c145 := by kernel_rfl
  c167 := by kernel_rfl
  c168 := by kernel_rfl
  c171 := by kernel_rfl
  c173 := by kernel_rfl
  c175 := by kernel_rfl
  c210 := by kernel_rfl
  c212 := by kernel_rfl
  c213 := by kernel_rfl
  c232 := by kernel_rfl
  c233 := by kernel_rfl }
open Go.RowKit in
/-- strconv.Atoi, AT EVERY STRING THAT SPELLS AN int ('Lib.atoiAll .. = .ok v'; of whatever length: leading zeros count): v, AND NO ERROR. The world: as it was, or with the one new row that '[]byte(..)' lays. (LAID: no walk: one application.) -/
theorem Tryz.strconv_Atoi_ok (s : ByteArray) (hmax : s.size ≤ 9223372036854775806) (v : Int) (h : Lib.atoiAll s.data.toList = .ok v) (w : World) :
    Calls Tryz.prog 30 #[.string s] w fun e w' => e = .returned (.tuple #[.int .i64 v, .nilIface]) ∧ (w' = w ∨ ∃ t, w' = Lib.bytesWorld w 5 t) := Any.strconv_Atoi_ok Tryz.laysC172 s hmax v h w
open Go.RowKit in
open Go.RowKit in
/-- strconv.Atoi, AT EVERY NUMERAL THAT NO int HOLDS ('.range'): THE GREATEST OR THE LEAST int, BY THE SIGN ('Lib.atoiSat'), AND AN ERROR THAT IS NOT nil: a *NumError in a new block N: {Func: "Atoi", Num: s's bytes, Err: what the variable ErrRange holds}. Of what was there nothing has turned. (LAID: no walk: one application.) -/
theorem Tryz.strconv_Atoi_range (s : ByteArray) (hlim : s.size ≤ 281474976710656) (h : Lib.atoiAll s.data.toList = .range) (ev : Value) (w : World) (hv : w.cell? ⟨2, 0, none⟩ = some ev) (hev : ev = .nilIface ∨ ∃ te pe, ev = .iface te pe) :
    Calls Tryz.prog 30 #[.string s] w fun e w' => ∃ N, e = .returned (.tuple #[.int .i64 (Lib.atoiSat s.data.toList), .iface 124 (.pointer (some ⟨N, 0, none⟩))]) ∧ w.heap.size ≤ N ∧ w'.heap[N]? = some (.cells #[.string ⟨#[65, 116, 111, 105]⟩, .string s, ev] 154 (0, 0)) ∧ Below w.heap.size w w' := Any.strconv_Atoi_range Tryz.laysC172 s hlim h ev w hv hev
def Tryz.lays145_ren : Go.Shelf.Ren := ⟨fun | 145 => 28 | 220 => 59 | 219 => 92 | 217 => 124 | 225 => 125 | 224 => 126 | 267 => 127 | 266 => 149 | 314 => 150 | n => n, fun | 9 => 9 | 4 => 4 | 59 => 57 | 3 => 3 | 5 => 5 | 46 => 99 | 146 => 166 | 51 => 162 | n => n, fun | 1 => 0 | n => n⟩
theorem Tryz.lays145 : Go.Proofs.Lays.n145 Tryz.prog Tryz.lays145_ren := {
  mixed := by kernel_rfl
  f145 := Tryz.func28.trans (congrArg some (by kernel_rfl))
  f217 := Tryz.func124.trans (congrArg some (by kernel_rfl))
  f219 := Tryz.func92.trans (congrArg some (by kernel_rfl))
  f220 := Tryz.func59.trans (congrArg some (by kernel_rfl))
  f224 := Tryz.func126.trans (congrArg some (by kernel_rfl))
  f225 := Tryz.func125.trans (congrArg some (by kernel_rfl))
  f266 := Tryz.func149.trans (congrArg some (by kernel_rfl))
  f267 := Tryz.func127.trans (congrArg some (by kernel_rfl))
  f314 := Tryz.func150.trans (congrArg some (by kernel_rfl))
  t3 := Tryz.underlying3
  a3 := Tryz.isAgg3
  z3 := Tryz.sizeOf3
  v3 := Tryz.zeroValue3
  t4 := Tryz.underlying4
  a4 := Tryz.isAgg4
  z4 := Tryz.sizeOf4
  v4 := Tryz.zeroValue4
  t5 := Tryz.underlying5
  a5 := Tryz.isAgg5
  z5 := Tryz.sizeOf5
  v5 := Tryz.zeroValue5
  t9 := Tryz.underlying9
  a9 := Tryz.isAgg9
  z9 := Tryz.sizeOf9
  v9 := Tryz.zeroValue9
  t46 := Tryz.underlying99
  a46 := Tryz.isAgg99
  z46 := Tryz.sizeOf99
  v46 := Tryz.zeroValue99
  t51 := Tryz.underlying162
  a51 := Tryz.isAgg162
  z51 := Tryz.sizeOf162
  v51 := Tryz.zeroValue162
  t59 := Tryz.underlying57
  a59 := Tryz.isAgg57
  z59 := Tryz.sizeOf57
  v59 := Tryz.zeroValue57
  t146 := Tryz.underlying166
  a146 := Tryz.isAgg166
  z146 := Tryz.sizeOf166
  v146 := Tryz.zeroValue166
  g1 := by kernel_rfl }
open Go.RowKit Go.Lib in
/-- strings.Cut: "Cut slices s around the first instance of sep, returning the text before and after sep. The found result reports whether sep appears in s. If sep does not appear in s, cut returns s, "", false.": IT RETURNS 'Lib.cut s sep'; the world is as it was but for the count of draws. (LAID: no walk: one application.) -/
theorem Tryz.strings_Cut (s sep : ByteArray) (m : Int) (w : World) (hs : s.size < 4294967281) (hm : w.cell? ⟨0, 0, none⟩ = some (.int .i64 m)) :
    Calls Tryz.prog 28 #[.string s, .string sep] w fun e w' => e = .returned (.tuple #[.string ⟨(Lib.cut s.data.toList sep.data.toList).1.toArray⟩, .string ⟨(Lib.cut s.data.toList sep.data.toList).2.1.toArray⟩, .bool (Lib.cut s.data.toList sep.data.toList).2.2]) ∧ ∃ n, w' = w.drewN n := Any.strings_Cut Tryz.lays145 s sep m w hs hm
def Tryz.lays264_ren : Go.Shelf.Ren := ⟨fun | 264 => 130 | n => n, fun | 53 => 66 | 46 => 99 | n => n, fun | n => n⟩
theorem Tryz.lays264 : Go.Proofs.Lays.n264 Tryz.prog Tryz.lays264_ren := {
  mixed := by kernel_rfl
  f264 := Tryz.func130.trans (congrArg some (by kernel_rfl))
  t46 := Tryz.underlying99
  a46 := Tryz.isAgg99
  z46 := Tryz.sizeOf99
  v46 := Tryz.zeroValue99
  t53 := Tryz.underlying66
  a53 := Tryz.isAgg66
  z53 := Tryz.sizeOf66
  v53 := Tryz.zeroValue66 }
open Go.RowKit Go.Lib in
theorem Tryz.bits_Mul64 (x y : Nat) (hx : x < 18446744073709551616) (hy : y < 18446744073709551616) (w : World) :
    Calls Tryz.prog 130 #[.int .u64 x, .int .u64 y] w fun e w' => e = .returned (.tuple #[.int .u64 ((x * y / 18446744073709551616 : Nat) : Int), .int .u64 ((x * y % 18446744073709551616 : Nat) : Int)]) ∧ w' = w := Any.bits_Mul64 Tryz.lays264 x y hx hy w
end Go.Proofs
end
section
/- The plain part of the natural numbers: digits in a base, sizes. -/
namespace Go.Num
/-- digit i of n in base b -/
def dg (b n i : Nat) : Nat := n / b ^ i % b
section
variable {b : Nat}
theorem dg_lt (hb : 0 < b) (n i : Nat) : dg b n i < b := Nat.mod_lt _ hb
theorem mod_step (b n i : Nat) : n % b ^ (i + 1) = n % b ^ i + b ^ i * dg b n i := Nat.mod_pow_succ
theorem dg_out {n i : Nat} (h : n < b ^ i) : dg b n i = 0 := by unfold dg; rw [Nat.div_eq_of_lt h, Nat.zero_mod]
theorem dg_zero (b i : Nat) : dg b 0 i = 0 := by unfold dg; rw [Nat.zero_div, Nat.zero_mod]
theorem div_step (b n i : Nat) : n / b ^ i = dg b n i + b * (n / b ^ (i + 1)) := by
  unfold dg; rw [Nat.pow_succ, ← Nat.div_div_eq_div_mul, Nat.mod_add_div]
theorem dg_div (b n j i : Nat) : dg b (n / b ^ j) i = dg b n (j + i) := by
  unfold dg; rw [Nat.div_div_eq_div_mul, ← Nat.pow_add]
theorem dg_low {x y i j : Nat} (hb : 0 < b) (h : i < j) : dg b (x + b ^ j * y) i = dg b x i := by
  unfold dg
  obtain ⟨d, rfl⟩ : ∃ d, j = i + (d + 1) := ⟨j - i - 1, by omega⟩
  have hp : 0 < b ^ i := Nat.pow_pos hb
  rw [Nat.pow_add, Nat.mul_assoc, Nat.add_mul_div_left _ _ hp, Nat.pow_succ, Nat.mul_comm (b ^ d) b, Nat.mul_assoc, Nat.add_mul_mod_self_left]
theorem dg_high {x y i j : Nat} (hx : x < b ^ j) : dg b (x + b ^ j * y) (j + i) = dg b y i := by
  rw [← dg_div]
  have hp : 0 < b ^ j := by omega
  rw [Nat.add_mul_div_left _ _ hp, Nat.div_eq_of_lt hx, Nat.zero_add]
theorem dg_mod {n i j : Nat} (hb : 0 < b) (h : i < j) : dg b (n % b ^ j) i = dg b n i := by
  have := dg_low (x := n % b ^ j) (y := n / b ^ j) hb h
  rw [Nat.mod_add_div] at this
  exact this.symm
theorem dg_self {d : Nat} (hd : d < b) : dg b d 0 = d := by unfold dg; rw [Nat.pow_zero, Nat.div_one, Nat.mod_eq_of_lt hd]
theorem dg_top {x d j : Nat} (hx : x < b ^ j) (hd : d < b) : dg b (x + b ^ j * d) j = d := by
  have := dg_high (y := d) (i := 0) hx
  rw [Nat.add_zero] at this
  rw [this, dg_self hd]
/-- equal digits, equal numbers -/
theorem eq_of_dg {x y : Nat} : ∀ k : Nat, (∀ i, i < k → dg b x i = dg b y i) → x % b ^ k = y % b ^ k
  | 0, _ => by simp [Nat.mod_one]
  | k + 1, h => by rw [mod_step, mod_step, eq_of_dg k (fun i hi => h i (by omega)), h k (by omega)]
/-- a digit changed -/
def setd (b z j d : Nat) : Nat := (z % b ^ j + b ^ j * d) + b ^ (j + 1) * (z / b ^ (j + 1))
theorem lt_snoc {x d j : Nat} (hx : x < b ^ j) (hd : d < b) : x + b ^ j * d < b ^ (j + 1) := by
  have h1 : b ^ j * (d + 1) ≤ b ^ j * b := Nat.mul_le_mul_left _ hd
  rw [Nat.pow_succ]
  rw [Nat.mul_add] at h1
  omega
theorem setd_same {z j d : Nat} (hb : 0 < b) (hd : d < b) : dg b (setd b z j d) j = d := by
  unfold setd
  rw [dg_low hb (Nat.lt_succ_self j), dg_top (Nat.mod_lt _ (Nat.pow_pos hb)) hd]
theorem setd_other {z i j d : Nat} (hb : 0 < b) (hd : d < b) (h : i ≠ j) : dg b (setd b z j d) i = dg b z i := by
  unfold setd
  rcases Nat.lt_or_ge i j with h1 | h1
  · rw [dg_low hb (by omega), dg_low hb h1, dg_mod hb h1]
  · obtain ⟨e, rfl⟩ : ∃ e, i = (j + 1) + e := ⟨i - (j + 1), by omega⟩
    rw [dg_high (lt_snoc (Nat.mod_lt _ (Nat.pow_pos hb)) hd), dg_div]
theorem setd_mod {z j d : Nat} (hb : 0 < b) (hd : d < b) : setd b z j d % b ^ (j + 1) = z % b ^ j + b ^ j * d := by
  unfold setd
  rw [Nat.add_mul_mod_self_left, Nat.mod_eq_of_lt (lt_snoc (Nat.mod_lt _ (Nat.pow_pos hb)) hd)]
theorem setd_div {z j d : Nat} (hb : 0 < b) (hd : d < b) : setd b z j d / b ^ (j + 1) = z / b ^ (j + 1) := by
  unfold setd
  rw [Nat.add_mul_div_left _ _ (Nat.pow_pos hb), Nat.div_eq_of_lt (lt_snoc (Nat.mod_lt _ (Nat.pow_pos hb)) hd), Nat.zero_add]
theorem setd_lt {z j d k : Nat} (hb : 0 < b) (hd : d < b) (hz : z < b ^ k) (hj : j < k) : setd b z j d < b ^ k := by
  obtain ⟨e, rfl⟩ : ∃ e, k = (j + 1) + e := ⟨k - (j + 1), by omega⟩
  have h1 : setd b z j d / b ^ (j + 1) < b ^ e := by
    rw [setd_div hb hd]
    exact Nat.div_lt_of_lt_mul (by rw [← Nat.pow_add]; exact hz)
  rw [Nat.pow_add, Nat.mul_comm]
  exact (Nat.div_lt_iff_lt_mul (Nat.pow_pos hb)).1 h1
theorem lt_of_dg {n k : Nat} (h : n < b ^ (k + 1)) (h0 : dg b n k = 0) : n < b ^ k := by
  have := mod_step b n k
  rw [h0, Nat.mul_zero, Nat.add_zero, Nat.mod_eq_of_lt h] at this
  rcases Nat.eq_zero_or_pos (b ^ k) with hp | hp
  · rw [Nat.pow_succ, hp] at h; omega
  · rw [this]; exact Nat.mod_lt _ hp
end
abbrev B : Nat := 18446744073709551616
abbrev b32 : Nat := 4294967296
theorem B_two : B = 2 ^ 64 := by decide
theorem b32_two : b32 = 2 ^ 32 := by decide
theorem B_pos : 0 < B := by decide
theorem b32_pos : 0 < b32 := by decide
theorem B_pow (i : Nat) : B ^ i = 2 ^ (64 * i) := by rw [B_two, ← Nat.pow_mul]
theorem b32_pow (i : Nat) : b32 ^ i = 2 ^ (32 * i) := by rw [b32_two, ← Nat.pow_mul]
theorem Bpow_pos (i : Nat) : 0 < B ^ i := Nat.pow_pos B_pos
theorem b32pow_pos (i : Nat) : 0 < b32 ^ i := Nat.pow_pos b32_pos
theorem B_b32 (i : Nat) : B ^ i = b32 ^ (2 * i) := by rw [B_pow, b32_pow, show 64 * i = 32 * (2 * i) by omega]
/-- bits of a number -/
def bl (n : Nat) : Nat := if n = 0 then 0 else Nat.log2 n + 1
theorem lt_bl (n : Nat) : n < 2 ^ bl n := by
  unfold bl
  split
  · rename_i h; subst h; decide
  · exact Nat.lt_log2_self
theorem bl_le {n k : Nat} (h : n < 2 ^ k) : bl n ≤ k := by
  unfold bl
  split
  · omega
  · rename_i h0; exact (Nat.log2_lt h0).2 h
theorem bl_iff {n k : Nat} : bl n ≤ k ↔ n < 2 ^ k := ⟨fun h => Nat.lt_of_lt_of_le (lt_bl n) (Nat.pow_le_pow_right (by decide) h), bl_le⟩
theorem bl_pos {n : Nat} (h : n ≠ 0) : 0 < bl n := by unfold bl; rw [if_neg h]; omega
theorem bl_ge {n : Nat} (h : n ≠ 0) : 2 ^ (bl n - 1) ≤ n := by
  rcases Nat.lt_or_ge n (2 ^ (bl n - 1)) with h1 | h1
  · have := bl_le h1; have := bl_pos h; omega
  · exact h1
theorem bl_eq {n k : Nat} (h1 : 2 ^ k ≤ n) (h2 : n < 2 ^ (k + 1)) : bl n = k + 1 := by
  have h3 := bl_le h2
  rcases Nat.lt_or_ge (bl n) (k + 1) with h | h
  · have := (bl_iff (n := n) (k := k)).1 (by omega); omega
  · omega
/-- limbs of a number -/
def sz (n : Nat) : Nat := (bl n + 63) / 64
theorem sz_iff {n k : Nat} : sz n ≤ k ↔ n < B ^ k := by
  rw [B_pow, ← bl_iff]; unfold sz; omega
theorem lt_sz (n : Nat) : n < B ^ sz n := sz_iff.1 (Nat.le_refl _)
theorem sz_zero : sz 0 = 0 := rfl
theorem sz_eq_zero {n : Nat} : sz n = 0 ↔ n = 0 := by
  constructor
  · intro h
    have := lt_sz n
    rw [h, Nat.pow_zero] at this; omega
  · rintro rfl; rfl
theorem sz_pos {n : Nat} (h : n ≠ 0) : 0 < sz n := by
  have := mt sz_eq_zero.1 h; omega
theorem sz_ge {n : Nat} (h : n ≠ 0) : B ^ (sz n - 1) ≤ n := by
  rcases Nat.lt_or_ge n (B ^ (sz n - 1)) with h1 | h1
  · have := sz_iff.2 h1; have := sz_pos h; omega
  · exact h1
/-- the top limb is not 0: so many limbs -/
theorem sz_of_top {n k : Nat} (h : n < B ^ (k + 1)) (h0 : dg B n k ≠ 0) : sz n = k + 1 := by
  have h1 := sz_iff.2 h
  rcases Nat.lt_or_ge (sz n) (k + 1) with h2 | h2
  · exact absurd (dg_out (sz_iff.1 (by omega : sz n ≤ k))) h0
  · omega
theorem top_ne {n : Nat} (h : n ≠ 0) : dg B n (sz n - 1) ≠ 0 := by
  intro h0
  have hp := sz_pos h
  have := lt_of_dg (b := B) (n := n) (k := sz n - 1) (by rw [show sz n - 1 + 1 = sz n by omega]; exact lt_sz n) h0
  have := sz_ge h
  omega
end Go.Num
end
section
/- Numbers in memory: limbs, and what is known of them later on. -/
namespace Go.Sx
open Go.RowKit Go.Num
/-- limbs of a number, as values -/
def lmV (n k : Nat) : List Value := (List.range k).map fun j => .int .u64 (dg Go.Num.B n j : Nat)
theorem lmV_len (n k : Nat) : (lmV n k).length = k := by simp [lmV]
theorem lmV_at {n k j : Nat} (h : j < k) : (lmV n k)[j]? = some (.int .u64 (dg Go.Num.B n j : Nat)) := by simp [lmV, h]
theorem lmV_zero (k : Nat) : lmV 0 k = List.replicate k (.int .u64 0) := by
  apply List.ext_getElem?
  intro j
  rcases Nat.lt_or_ge j k with h | h
  · rw [lmV_at h, dg_zero]; simp [h]
  · rw [List.getElem?_eq_none (by rw [lmV_len]; exact h), List.getElem?_eq_none (by simpa using h)]
theorem lmV_ext {k : Nat} {l : List Value} {n : Nat} (hl : l.length = k) (h : ∀ j, j < k → l[j]? = some (.int .u64 (dg Go.Num.B n j : Nat))) : l = lmV n k := by
  apply List.ext_getElem?
  intro j
  rcases Nat.lt_or_ge j k with hj | hj
  · rw [lmV_at hj, h j hj]
  · rw [List.getElem?_eq_none (by omega), List.getElem?_eq_none (by rw [lmV_len]; exact hj)]
theorem lmV_set {n k j d : Nat} (hd : d < Go.Num.B) (hj : j < k) : (lmV n k).set j (.int .u64 (d : Nat)) = lmV (setd Go.Num.B n j d) k := by
  apply lmV_ext (by simp [lmV_len])
  intro i hi
  rw [List.getElem?_set]
  split
  · rename_i h; subst h; rw [lmV_len, if_pos hj, setd_same B_pos hd]
  · rename_i h; rw [lmV_at hi, setd_other B_pos hd (Ne.symm h)]
theorem lmV_put {n k j d : Nat} (hd : d < Go.Num.B) (hj : j < k) : (lmV n k).take (0 + j * 1) ++ [.int .u64 (d : Nat)] ++ (lmV n k).drop (0 + j * 1 + 1) = lmV (setd Go.Num.B n j d) k := by
  rw [← lmV_set hd hj, Nat.zero_add, Nat.mul_one, List.set_eq_take_append_cons_drop, if_pos (by rw [lmV_len]; exact hj)]
  simp
/-- a slice of limbs that holds a number -/
structure Nm (w : World) (a : Option Addr) (k c n : Nat) : Prop where
  lt : n < Go.Num.B ^ k
  kc : k ≤ c
  ad : a = none ∨ ∃ b o, a = some ⟨b, o, none⟩
  cell : ∀ j, j < k → ∃ b o, a = some ⟨b, o, none⟩ ∧ w.cell? ⟨b, o + j, none⟩ = some (.int .u64 (dg Go.Num.B n j : Nat))
/-- its block is not older than m -/
def Fsh (m : Nat) (a : Option Addr) (k : Nat) : Prop := ∀ b o q, a = some ⟨b, o, q⟩ → 0 < k → m ≤ b
theorem Fsh.mono {m m' : Nat} {a : Option Addr} {k : Nat} (h : Fsh m a k) (hm : m' ≤ m) : Fsh m' a k := fun b o q ha hk => Nat.le_trans hm (h b o q ha hk)
theorem Fsh.nil (m : Nat) (a : Option Addr) : Fsh m a 0 := fun _ _ _ _ hk => absurd hk (Nat.lt_irrefl 0)
theorem Nm.nil (w : World) : Nm w none 0 0 0 := ⟨by simp, Nat.le_refl _, .inl rfl, fun j hj => absurd hj (Nat.not_lt_zero j)⟩
theorem Nm.frS {w w' : World} {a : Option Addr} {k c n : Nat} {S : Nat → Prop} (h : Nm w a k c n) (hf : Fr S w w') (hs : ∀ b o q, a = some ⟨b, o, q⟩ → 0 < k → ¬ S b) : Nm w' a k c n :=
  ⟨h.lt, h.kc, h.ad, fun j hj => by
    obtain ⟨b, o, ha, hc⟩ := h.cell j hj
    exact ⟨b, o, ha, hf.cell hc (hs b o none ha (by omega))⟩⟩
theorem Nm.ext {w w' : World} {a : Option Addr} {k c n : Nat} (h : Nm w a k c n) (hf : Ext w w') : Nm w' a k c n := h.frS hf (fun _ _ _ _ _ x => x)
/-- what was known when a world was looked back at, and is not written since -/
def Kn (x : World × (Nat → Prop)) (a : Option Addr) (k c n : Nat) : Prop := Nm x.1 a k c n ∧ ∀ b o q, a = some ⟨b, o, q⟩ → 0 < k → ¬ x.2 b
theorem Kn.at_ {x : World × (Nat → Prop)} {a : Option Addr} {k c n : Nat} {B : Base} {L : Heap} {w : World} (h : Kn x a k c n) (i : Nat) (hx : B[i]? = some x) (hw : St B L w) : Nm w a k c n :=
  h.1.frS (hw.fr x (List.mem_of_getElem? hx)) h.2
theorem Kn.old {w : World} {a : Option Addr} {k c n : Nat} (h : Nm w a k c n) : Kn (w, No) a k c n := ⟨h, fun _ _ _ _ _ x => x⟩
theorem Kn.new {B : Base} {L : Heap} {w0 w1 : World} {a : Option Addr} {k c n : Nat} (h : Nm w1 a k c n) (hf : Fsh w0.heap.size a k) (hs : St B L w0) : Kn (w1, fun j => j ∈ L.map (·.1)) a k c n :=
  ⟨h, fun b o q ha hk hm => by
    obtain ⟨p, hp, rfl⟩ := List.mem_map.1 hm
    have := hs.newN p hp
    have := hf _ _ _ ha hk
    omega⟩
/-- a cell of a number -/
theorem Kn.cl {x : World × (Nat → Prop)} {b o k c n j : Nat} {B : Base} {L : Heap} {w : World} (h : Kn x (some ⟨b, o, none⟩) k c n) (i : Nat) (hx : B[i]? = some x) (hj : j < k) (hw : St B L w) : w.cell? ⟨b, o + j * 1, none⟩ = some (.int .u64 (dg Go.Num.B n j : Nat)) := by
  obtain ⟨b', o', ha, hc⟩ := (h.at_ i hx hw).cell j hj
  cases ha
  rw [Nat.mul_one]; exact hc
theorem Kn.ptr {x : World × (Nat → Prop)} {a : Option Addr} {k c n : Nat} (h : Kn x a k c n) (hk : 0 < k) : ∃ b o, a = some ⟨b, o, none⟩ := by
  obtain ⟨b, o, ha, _⟩ := h.1.cell 0 hk; exact ⟨b, o, ha⟩
end Go.Sx
end
section
/- Words of 64 bits as natural numbers; calls that tell numbers. -/
namespace Go.Sx
open Go.RowKit Go.Num
section
variable {P : Program} {ρ : Operand → Value} {w : World} {D : Option Tmp} {t ty yt : TypeId} {pos : String} {aft : Array Edge} {g : Option (Nat × Bool)} {x y : Operand} {a b n : Nat} {k ky : IntKind}
theorem wrap_u (h : a < Go.Num.B) : IntKind.u64.wrap (a : Int) = ((a : Nat) : Int) := by rw [IntKind.wrap_u64]; unfold Go.Num.B at h; omega
theorem wrap_um (a : Nat) : IntKind.u64.wrap (a : Int) = ((a % Go.Num.B : Nat) : Int) := by rw [IntKind.wrap_u64]; unfold Go.Num.B; omega
theorem R_addU (hx : ρ x = .int .u64 (a : Nat)) (hy : ρ y = .int .u64 (b : Nat)) (h : a + b < Go.Num.B) : Run P ⟨D, .binOp .add t x y yt, ty, pos, aft, g⟩ ρ w (.int .u64 ((a + b : Nat) : Int)) w := by
  have := R_add (P := P) (w := w) (D := D) (t := t) (ty := ty) (yt := yt) (pos := pos) (aft := aft) (g := g) hx hy
  rwa [show ((a : Int) + (b : Int)) = ((a + b : Nat) : Int) by omega, wrap_u h] at this
theorem R_addM (hx : ρ x = .int .u64 (a : Nat)) (hy : ρ y = .int .u64 (b : Nat)) : Run P ⟨D, .binOp .add t x y yt, ty, pos, aft, g⟩ ρ w (.int .u64 (((a + b) % Go.Num.B : Nat) : Int)) w := by
  have := R_add (P := P) (w := w) (D := D) (t := t) (ty := ty) (yt := yt) (pos := pos) (aft := aft) (g := g) hx hy
  rwa [show ((a : Int) + (b : Int)) = ((a + b : Nat) : Int) by omega, wrap_um] at this
theorem R_subU (hx : ρ x = .int .u64 (a : Nat)) (hy : ρ y = .int .u64 (b : Nat)) (h : b ≤ a) (h2 : a < Go.Num.B) : Run P ⟨D, .binOp .sub t x y yt, ty, pos, aft, g⟩ ρ w (.int .u64 ((a - b : Nat) : Int)) w := by
  have := R_sub (P := P) (w := w) (D := D) (t := t) (ty := ty) (yt := yt) (pos := pos) (aft := aft) (g := g) hx hy
  rwa [show ((a : Int) - (b : Int)) = ((a - b : Nat) : Int) by omega, wrap_u (by omega)] at this
theorem R_mulU (hx : ρ x = .int .u64 (a : Nat)) (hy : ρ y = .int .u64 (b : Nat)) (h : a * b < Go.Num.B) : Run P ⟨D, .binOp .mul t x y yt, ty, pos, aft, g⟩ ρ w (.int .u64 ((a * b : Nat) : Int)) w := by
  have := R_mul (P := P) (w := w) (D := D) (t := t) (ty := ty) (yt := yt) (pos := pos) (aft := aft) (g := g) hx hy
  rwa [show ((a : Int) * (b : Int)) = ((a * b : Nat) : Int) by simp, wrap_u h] at this
theorem R_quoU (hx : ρ x = .int .u64 (a : Nat)) (hy : ρ y = .int .u64 (b : Nat)) (h : b ≠ 0) (h2 : a < Go.Num.B) : Run P ⟨D, .binOp .quo t x y yt, ty, pos, aft, g⟩ ρ w (.int .u64 ((a / b : Nat) : Int)) w := by
  have hb : ¬ (b : Int) = 0 := by omega
  have e1 : IntKind.u64.wrap ((a : Int).tdiv (b : Int)) = ((a / b : Nat) : Int) := by
    rw [← Int.ofNat_tdiv, wrap_u (Nat.lt_of_le_of_lt (Nat.div_le_self _ _) h2)]
  unfold Run
  simp only [execOp, hx, hy, binOp, Op.intDiv, ne_eq, not_true, if_false, hb, e1]
  rfl
theorem R_remU (hx : ρ x = .int k (a : Nat)) (hy : ρ y = .int k (b : Nat)) (h : b ≠ 0) : Run P ⟨D, .binOp .rem t x y yt, ty, pos, aft, g⟩ ρ w (.int k ((a % b : Nat) : Int)) w := by
  have hb : ¬ (b : Int) = 0 := by omega
  have e1 : (a : Int).tmod (b : Int) = ((a % b : Nat) : Int) := (Int.ofNat_tmod a b).symm
  unfold Run
  simp only [execOp, hx, hy, binOp, Op.intDiv, ne_eq, not_true, if_false, hb, e1]
  rfl
theorem R_quoN (hx : ρ x = .int .i64 (a : Nat)) (hy : ρ y = .int .i64 (b : Nat)) (h : b ≠ 0) (h2 : a ≤ 9223372036854775807) : Run P ⟨D, .binOp .quo t x y yt, ty, pos, aft, g⟩ ρ w (.int .i64 ((a / b : Nat) : Int)) w := by
  have hb : ¬ (b : Int) = 0 := by omega
  have h3 : a / b ≤ a := Nat.div_le_self _ _
  have e1 : IntKind.i64.wrap ((a : Int).tdiv (b : Int)) = ((a / b : Nat) : Int) := by
    rw [← Int.ofNat_tdiv, wrap_i64 (by have := Int.natCast_nonneg (a / b); omega) (by have : ((a / b : Nat) : Int) ≤ (a : Int) := Int.ofNat_le.2 h3; omega)]
  unfold Run
  simp only [execOp, hx, hy, binOp, Op.intDiv, ne_eq, not_true, if_false, hb, e1]
  rfl
theorem R_shlU (hx : ρ x = .int .u64 (a : Nat)) (hy : ρ y = .int ky (n : Nat)) (h : n ≤ 64) : Run P ⟨D, .binOp .shl t x y yt, ty, pos, aft, g⟩ ρ w (.int .u64 ((a * 2 ^ n % Go.Num.B : Nat) : Int)) w := by
  have h0 : ¬ ((n : Nat) : Int) < 0 := by omega
  have h1 : min ((n : Nat) : Int).toNat IntKind.u64.bits = n := by rw [Int.toNat_natCast]; exact Nat.min_eq_left h
  have e1 : IntKind.u64.wrap ((a : Int) * 2 ^ n) = ((a * 2 ^ n % Go.Num.B : Nat) : Int) := by
    rw [show (a : Int) * 2 ^ n = ((a * 2 ^ n : Nat) : Int) by simp, wrap_um]
  unfold Run
  simp only [execOp, hx, hy, binOp, Op.shift, h0, if_false, h1, e1]
  rfl
theorem R_shrU (hx : ρ x = .int .u64 (a : Nat)) (hy : ρ y = .int ky (n : Nat)) (h : n ≤ 64) : Run P ⟨D, .binOp .shr t x y yt, ty, pos, aft, g⟩ ρ w (.int .u64 ((a / 2 ^ n : Nat) : Int)) w := by
  have h0 : ¬ ((n : Nat) : Int) < 0 := by omega
  have h1 : min ((n : Nat) : Int).toNat IntKind.u64.bits = n := by rw [Int.toNat_natCast]; exact Nat.min_eq_left h
  have e1 : ((a : Nat) : Int).fdiv (2 ^ n) = ((a / 2 ^ n : Nat) : Int) := by
    rw [show (2 : Int) ^ n = ((2 ^ n : Nat) : Int) by simp, Int.fdiv_eq_ediv_of_nonneg _ (Int.natCast_nonneg _)]; rfl
  unfold Run
  simp only [execOp, hx, hy, binOp, Op.shift, h0, if_false, h1, e1]
  rfl
theorem R_and1 (hx : ρ x = .int .u64 (a : Nat)) (hy : ρ y = .int .u64 1) (h : a < Go.Num.B) : Run P ⟨D, .binOp .and t x y yt, ty, pos, aft, g⟩ ρ w (.int .u64 ((a % 2 : Nat) : Int)) w := by
  have e1 : IntKind.u64.wrap (BitVec.toNat (BitVec.ofInt IntKind.u64.bits ((a : Nat) : Int) &&& BitVec.ofInt IntKind.u64.bits 1)) = ((a % 2 : Nat) : Int) := by
    have : BitVec.toNat (BitVec.ofInt IntKind.u64.bits ((a : Nat) : Int) &&& BitVec.ofInt IntKind.u64.bits 1) = a % 2 := by
      rw [BitVec.toNat_and, BitVec.toNat_ofInt, BitVec.toNat_ofInt, show ((2 ^ IntKind.u64.bits : Nat) : Int) = 18446744073709551616 from rfl,
        show ((a : Int) % 18446744073709551616).toNat = a by unfold Go.Num.B at h; omega, show ((1 : Int) % 18446744073709551616).toNat = 1 from rfl, Nat.and_one_is_mod]
    rw [this, wrap_u (by unfold Go.Num.B; omega)]
  unfold Run
  simp only [execOp, hx, hy, binOp, Op.intBits, ne_eq, not_true, if_false, e1]
  rfl
theorem R_mulM (hx : ρ x = .int .u64 (a : Nat)) (hy : ρ y = .int .u64 (b : Nat)) : Run P ⟨D, .binOp .mul t x y yt, ty, pos, aft, g⟩ ρ w (.int .u64 ((a * b % Go.Num.B : Nat) : Int)) w := by
  have := R_mul (P := P) (w := w) (D := D) (t := t) (ty := ty) (yt := yt) (pos := pos) (aft := aft) (g := g) hx hy
  rwa [show ((a : Int) * (b : Int)) = ((a * b : Nat) : Int) by simp, wrap_um] at this
theorem R_subM (hx : ρ x = .int .u64 (a : Nat)) (hy : ρ y = .int .u64 (b : Nat)) (h2 : b ≤ Go.Num.B) : Run P ⟨D, .binOp .sub t x y yt, ty, pos, aft, g⟩ ρ w (.int .u64 (((a + Go.Num.B - b) % Go.Num.B : Nat) : Int)) w := by
  have := R_sub (P := P) (w := w) (D := D) (t := t) (ty := ty) (yt := yt) (pos := pos) (aft := aft) (g := g) hx hy
  have e1 : IntKind.u64.wrap ((a : Int) - (b : Int)) = (((a + Go.Num.B - b) % Go.Num.B : Nat) : Int) := by
    rw [IntKind.wrap_u64]
    unfold Go.Num.B at *
    omega
  rwa [e1] at this
theorem R_andM (hx : ρ x = .int .u64 (a : Nat)) (hy : ρ y = .int .u64 4294967295) (h : a < Go.Num.B) : Run P ⟨D, .binOp .and t x y yt, ty, pos, aft, g⟩ ρ w (.int .u64 ((a % 4294967296 : Nat) : Int)) w := by
  have e1 : IntKind.u64.wrap (BitVec.toNat (BitVec.ofInt IntKind.u64.bits ((a : Nat) : Int) &&& BitVec.ofInt IntKind.u64.bits 4294967295)) = ((a % 4294967296 : Nat) : Int) := by
    have : BitVec.toNat (BitVec.ofInt IntKind.u64.bits ((a : Nat) : Int) &&& BitVec.ofInt IntKind.u64.bits 4294967295) = a % 4294967296 := by
      rw [BitVec.toNat_and, BitVec.toNat_ofInt, BitVec.toNat_ofInt, show ((2 ^ IntKind.u64.bits : Nat) : Int) = 18446744073709551616 from rfl,
        show ((a : Int) % 18446744073709551616).toNat = a by unfold Go.Num.B at h; omega, show ((4294967295 : Int) % 18446744073709551616).toNat = 2 ^ 32 - 1 from rfl, Nat.and_two_pow_sub_one_eq_mod]
    rw [this, wrap_u (by unfold Go.Num.B; omega)]
  unfold Run
  simp only [execOp, hx, hy, binOp, Op.intBits, ne_eq, not_true, if_false, e1]
  rfl
theorem R_orU (hx : ρ x = .int .u64 (a : Nat)) (hy : ρ y = .int .u64 (b : Nat)) (h : a < Go.Num.B) (h2 : b < Go.Num.B) : Run P ⟨D, .binOp .or t x y yt, ty, pos, aft, g⟩ ρ w (.int .u64 ((a ||| b : Nat) : Int)) w := by
  have e1 : IntKind.u64.wrap (BitVec.toNat (BitVec.ofInt IntKind.u64.bits ((a : Nat) : Int) ||| BitVec.ofInt IntKind.u64.bits ((b : Nat) : Int))) = ((a ||| b : Nat) : Int) := by
    have : BitVec.toNat (BitVec.ofInt IntKind.u64.bits ((a : Nat) : Int) ||| BitVec.ofInt IntKind.u64.bits ((b : Nat) : Int)) = a ||| b := by
      rw [BitVec.toNat_or, BitVec.toNat_ofInt, BitVec.toNat_ofInt, show ((2 ^ IntKind.u64.bits : Nat) : Int) = 18446744073709551616 from rfl,
        show ((a : Int) % 18446744073709551616).toNat = a by unfold Go.Num.B at h; omega, show ((b : Int) % 18446744073709551616).toNat = b by unfold Go.Num.B at h2; omega]
    rw [this, wrap_u (by rw [B_two] at *; exact Nat.or_lt_two_pow h h2)]
  unfold Run
  simp only [execOp, hx, hy, binOp, Op.intBits, ne_eq, not_true, if_false, e1]
  rfl
/-! held against each other, as natural numbers -/
theorem R_ltN (hx : ρ x = .int k (a : Nat)) (hy : ρ y = .int k (b : Nat)) : Run P ⟨D, .binOp .lss t x y yt, ty, pos, aft, g⟩ ρ w (.bool (decide (a < b))) w := by
  have := R_lt (P := P) (w := w) (D := D) (t := t) (ty := ty) (yt := yt) (pos := pos) (aft := aft) (g := g) hx hy
  rwa [show decide ((a : Int) < (b : Int)) = decide (a < b) from decide_eq_decide.2 (by omega)] at this
theorem R_leN (hx : ρ x = .int k (a : Nat)) (hy : ρ y = .int k (b : Nat)) : Run P ⟨D, .binOp .leq t x y yt, ty, pos, aft, g⟩ ρ w (.bool (decide (a ≤ b))) w := by
  have := R_le (P := P) (w := w) (D := D) (t := t) (ty := ty) (yt := yt) (pos := pos) (aft := aft) (g := g) hx hy
  rwa [show decide ((a : Int) ≤ (b : Int)) = decide (a ≤ b) from decide_eq_decide.2 (by omega)] at this
theorem R_gtN (hx : ρ x = .int k (a : Nat)) (hy : ρ y = .int k (b : Nat)) : Run P ⟨D, .binOp .gtr t x y yt, ty, pos, aft, g⟩ ρ w (.bool (decide (b < a))) w := by
  have := R_gt (P := P) (w := w) (D := D) (t := t) (ty := ty) (yt := yt) (pos := pos) (aft := aft) (g := g) hx hy
  rwa [show decide ((b : Int) < (a : Int)) = decide (b < a) from decide_eq_decide.2 (by omega)] at this
theorem R_geN (hx : ρ x = .int k (a : Nat)) (hy : ρ y = .int k (b : Nat)) : Run P ⟨D, .binOp .geq t x y yt, ty, pos, aft, g⟩ ρ w (.bool (decide (b ≤ a))) w := by
  have := R_ge (P := P) (w := w) (D := D) (t := t) (ty := ty) (yt := yt) (pos := pos) (aft := aft) (g := g) hx hy
  rwa [show decide ((b : Int) ≤ (a : Int)) = decide (b ≤ a) from decide_eq_decide.2 (by omega)] at this
theorem R_eqN (hx : ρ x = .int k (a : Nat)) (hy : ρ y = .int k (b : Nat)) : Run P ⟨D, .binOp .eql t x y yt, ty, pos, aft, g⟩ ρ w (.bool (decide (a = b))) w := by
  have := R_eq (P := P) (w := w) (D := D) (t := t) (ty := ty) (yt := yt) (pos := pos) (aft := aft) (g := g) hx hy
  rwa [show decide ((a : Int) = (b : Int)) = decide (a = b) from decide_eq_decide.2 (by omega)] at this
theorem R_neN (hx : ρ x = .int k (a : Nat)) (hy : ρ y = .int k (b : Nat)) : Run P ⟨D, .binOp .neq t x y yt, ty, pos, aft, g⟩ ρ w (.bool (decide (¬ a = b))) w := by
  have := R_ne (P := P) (w := w) (D := D) (t := t) (ty := ty) (yt := yt) (pos := pos) (aft := aft) (g := g) hx hy
  rwa [show decide (¬ (a : Int) = (b : Int)) = decide (¬ a = b) from decide_eq_decide.2 (by omega)] at this
end
/-! what tells a number: F of a slice that holds n in k limbs, not older than the call -/
def Tel (F : Option Addr → Nat → Value) (k n : Nat) (w : World) (v : Value) (w' : World) : Prop := ∃ a c, v = F a c ∧ Nm w' a k c n ∧ Fsh w.heap.size a k ∧ Ext w w'
/-- what is known of a number behind these bases: it is newer than each of them -/
def New_ (B : Base) (a : Option Addr) (k : Nat) : Prop := ∀ y ∈ B, Fsh y.1.heap.size a k
section
variable {P : Program} {ops : Array Oper} {Q : Exit → Act → World → Prop} {c : Cf} {e : Env} {B : Base} {L : Heap} {rest : List Oper} {d : Nat} {o : Oper}
theorem w_tel {f : FuncId} {args : Array Value} {F : Option Addr → Nat → Value} {k n : Nat} (hr : ∀ w, RunE P o (ev c.n e) w f args) (hg : plainB o = true) (hd : o.dst = some d)
    (hc : ∀ w, St B L w → Ret P f args w (Tel F k n w))
    (h : ∀ x a c', Kn x a k c' n → New_ B a k → WX .sq P ops c Q rest (upd e d (F a c')) (x :: B) L) : WX .sq P ops c Q (o :: rest) e B L := by
  refine w_callR (R := fun w u w' => Tel F k n w u w') hr hg hd hc fun w hw v w' ⟨a, c', hv, hN, hF, hx⟩ => ?_
  subst hv
  have h1 := hw.ext hx
  refine ⟨(w', fun j => j ∈ L.map (·.1)) :: B, L, ?_, h _ a c' (Kn.new hN hF hw) fun y hy => hF.mono (hw.fr y hy).size⟩
  refine ⟨?_, h1.own, h1.nd, ?_⟩
  · intro x hx
    rcases List.mem_cons.1 hx with rfl | hx
    · exact Fr.refl _ _
    · exact h1.fr x hx
  · intro p hp x hx
    rcases List.mem_cons.1 hx with rfl | hx
    · exact .inl (List.mem_map_of_mem hp)
    · exact h1.ok p hp x hx
end
/-! numbers in blocks of one's own -/
theorem cel_lmV {n k j : Nat} {sp : List Value} (h : j < k) : (lmV n k ++ sp)[j]? = some (.int .u64 (dg Go.Num.B n j : Nat)) := by
  rw [List.getElem?_append_left (by rw [lmV_len]; exact h), lmV_at h]
theorem Nm.row {w : World} {b k c n : Nat} {sp : List Value} {T : TypeId} (hb : w.heap[b]? = some (cel (lmV n k ++ sp) T)) (hn : n < Go.Num.B ^ k) (hc : k ≤ c) : Nm w (some ⟨b, 0, none⟩) k c n :=
  ⟨hn, hc, .inr ⟨_, _, rfl⟩, fun j hj => ⟨_, _, rfl, by
    simp only [World.cell?, hb]
    simp [cel_lmV hj]⟩⟩
theorem Own.nm {T : TypeId} {v : Value} {k n : Nat} {W : Heap} (h : Own T 1 v (lmV n k) k W) (hn : n < Go.Num.B ^ k) : ∃ a c, v = .slice a k c ∧ (∀ w, (∀ p ∈ W, w.heap[p.1]? = some p.2) → Nm w a k c n) ∧ (∀ m, (∀ p ∈ W, m ≤ p.1) → Fsh m a k) := by
  rcases h.2 with ⟨rfl, rfl, rfl⟩ | ⟨b, c, sp, rfl, hc, _, rfl⟩
  · refine ⟨none, 0, rfl, fun w _ => ?_, fun _ _ => Fsh.nil _ _⟩
    rw [Nat.pow_zero] at hn
    obtain rfl : n = 0 := by omega
    exact Nm.nil w
  · exact ⟨_, _, rfl, fun w hw => Nm.row (hw _ (.head _)) hn hc, fun m hm b' o q e _ => by cases e; exact hm _ (.head _)⟩
theorem Nm.part {w : World} {b o q k c n j : Nat} (h : Nm w (some ⟨b, o, none⟩) k c n) (hj : j + q ≤ k) (c' : Nat) (hc : q ≤ c') : Nm w (some ⟨b, o + j, none⟩) q c' (n / Go.Num.B ^ j % Go.Num.B ^ q) :=
  ⟨Nat.mod_lt _ (Bpow_pos q), hc, .inr ⟨_, _, rfl⟩, fun i hi => by
    obtain ⟨b', o', he, h2⟩ := h.cell (j + i) (by omega)
    cases he
    refine ⟨_, _, rfl, ?_⟩
    rw [Nat.add_assoc, h2, dg_mod B_pos hi, dg_div]⟩
theorem Nm.cut {w : World} {a : Option Addr} {k c n q : Nat} (h : Nm w a k c n) (hq : q ≤ k) (hn : n < Go.Num.B ^ q) (c' : Nat) (hc : q ≤ c') : Nm w a q c' n :=
  ⟨hn, hc, h.ad, fun j hj => h.cell j (by omega)⟩
/-- a number's cells, as what is appended wants them -/
theorem Nm.news {w : World} {b o k c n : Nat} (h : Nm w (some ⟨b, o, none⟩) k c n) : ∀ j u, (lmV n k)[j]? = some u → w.cell? ⟨b, o + j, none⟩ = some u := fun j u hu => by
  have hj : j < k := by have := (List.getElem?_eq_some_iff.1 hu).1; rwa [lmV_len] at this
  rw [lmV_at hj] at hu
  obtain ⟨b', o', he, h2⟩ := h.cell j hj
  cases he
  rw [h2]; exact hu
theorem lmV_one (n k : Nat) : (lmV n k).all Value.oneCell' = true := by
  rw [List.all_eq_true]
  intro u hu
  obtain ⟨j, hj⟩ := List.getElem?_of_mem hu
  have hl : j < k := by have := (List.getElem?_eq_some_iff.1 hj).1; rwa [lmV_len] at this
  rw [lmV_at hl] at hj
  cases hj
  rfl
end Go.Sx
end
section
/- Regions that draw their order: two that may come up, one by one; allocations and stores among them. -/
namespace Go.Sx
open Go.RowKit
/-- number i comes up -/
def WO (P : Program) (ops : Array Oper) (c : Cf) (Q : Exit → Act → World → Prop) (S : World → Prop) (fuel : Nat) (listed : Array Bool) (i : Nat) (e : Env) (B : Base) (L : Heap) : Prop :=
  ∀ w, St B L w → wpOp P ops (Qn Q) i (fun a' w' => S w' ∧ wpAnyH P .any ops (Qn Q) S fuel (listed.setIfInBounds i true) a' w') (act c e) w
section
variable {P : Program} {ops : Array Oper} {Q : Exit → Act → World → Prop} {c : Cf} {e : Env} {B B' : Base} {L L' : Heap} {o : Oper} {v : Value} {d id fuel : Nat} {S : World → Prop} {listed : Array Bool}
theorem h_two (i j : Nat) (hr : Region.ready .any ops listed = [i, j]) (hs : ∀ w, St B L w → S w) (h1 : WO P ops c Q S fuel listed i e B L) (h2 : WO P ops c Q S fuel listed j e B L) : WH P ops c Q S (fuel + 1) listed e B L := by
  refine ⟨hs, fun w hw => wpAnyH_all hr (by simp) (fun k hk => ?_)⟩
  rcases List.mem_cons.1 hk with rfl | hk
  · exact h1 w hw
  · obtain rfl : k = j := by simpa using hk
    exact h2 w hw
theorem h_one (i : Nat) (hr : Region.ready .any ops listed = [i]) (hs : ∀ w, St B L w → S w) (h1 : WO P ops c Q S fuel listed i e B L) : WH P ops c Q S (fuel + 1) listed e B L := by
  refine ⟨hs, fun w hw => wpAnyH_all hr (by simp) (fun k hk => ?_)⟩
  obtain rfl : k = i := by simpa using hk
  exact h1 w hw
theorem o_val {i : Nat} (hi : ops[i]? = some o) (hg : plainB o = true) (hd : o.dst = some d)
    (h : ∀ w, St B L w → ∃ v w' B' L', Run P o (ev c.n e) w v w' ∧ St B' L' w' ∧ WH P ops c Q S fuel (listed.setIfInBounds i true) (upd e d v) B' L') : WO P ops c Q S fuel listed i e B L := by
  intro w hw
  obtain ⟨v, w', B', L', h1, h2, h3⟩ := h w hw
  unfold wpOp
  simp only [hi, Region.wanted, (plainB_spec hg).1, if_true]
  refine .inl ?_
  unfold Oper.wp
  unfold Run at h1
  rw [act_eval, h1, Oper.upon_value, hd, act_put]
  exact ⟨h3.s w' h2, h3.h w' h2⟩
theorem o_unit {i : Nat} (hi : ops[i]? = some o) (hg : plainB o = true) (hd : o.dst = none)
    (h : ∀ w, St B L w → ∃ w' B' L', RunU P o (ev c.n e) w w' ∧ St B' L' w' ∧ WH P ops c Q S fuel (listed.setIfInBounds i true) e B' L') : WO P ops c Q S fuel listed i e B L := by
  intro w hw
  obtain ⟨w', B', L', h1, h2, h3⟩ := h w hw
  unfold wpOp
  simp only [hi, Region.wanted, (plainB_spec hg).1, if_true]
  refine .inl ?_
  unfold Oper.wp
  unfold RunU at h1
  rw [act_eval, h1]
  simp only [Oper.upon, hd, act_put_none]
  exact ⟨h3.s w' h2, h3.h w' h2⟩
theorem o_alloc {i : Nat} {t T : TypeId} {zv : Value} {p : String} {a : Array Edge} (hi : ops[i]? = some ⟨some d, .alloc t, T, p, a, none⟩) (hz : zeroB P t zv)
    (h : ∀ b, (∀ x ∈ L, x.1 < b) → (∀ x ∈ B, x.1.heap.size ≤ b) → WH P ops c Q S fuel (listed.setIfInBounds i true) (upd e d (.pointer (some ⟨b, 0, none⟩))) B ((b, .cells zv.cells t (0, 0)) :: L)) : WO P ops c Q S fuel listed i e B L :=
  o_val hi rfl rfl fun w hw => ⟨_, _, B, _, R_alloc hz, hw.new, h w.heap.size (fun p hp => lt_of_blk (hw.own p hp)) (fun x hx => (hw.fr x hx).size)⟩
theorem o_store {i : Nat} {t T ty : TypeId} {x y : Operand} {p : String} {a : Array Edge} {b off k : Nat} {cs vs cs' : List Value} {ag : Bool} (j : Nat) (hi : ops[i]? = some ⟨none, .store t x y, ty, p, a, none⟩) (hj : L[j]? = some (b, cel cs T)) (hz : szB P t k ag = true) (hx : ev c.n e x = .pointer (some ⟨b, off, none⟩)) (hy : ev c.n e y = v)
    (hv : v.cells = vs.toArray) (hl : vs.length = k) (h1 : vs.all Value.oneCell' = true) (ho : Nat.ble (off + k) cs.length = true) (hc : cs.take off ++ vs ++ cs.drop (off + k) = cs')
    (h : WH P ops c Q S fuel (listed.setIfInBounds i true) e B (L.set j (b, cel cs' T))) : WO P ops c Q S fuel listed i e B L :=
  o_unit hi rfl rfl fun w hw => by
    subst hc
    exact ⟨_, B, _, R_st hz hx hy hv hl h1 (hw.at_ j hj) (Nat.le_of_ble_eq_true ho), hw.put j hj, h⟩
end
attribute [irreducible] WO
/-! naturals among integers: for simp -/
end Go.Sx
end
section
/- Calls that hand back or panic. -/
namespace Go.Sx
open Go.RowKit
/-- a call that hands back (R) or panics (E) -/
def RetP (P : Program) (f : FuncId) (args : Array Value) (w : World) (R : Value → World → Prop) (E : List PanicEntry → World → Prop) : Prop :=
 Calls P f args w fun e w' => (∃ v, e = .returned v ∧ R v w') ∨ (∃ ch, e = .panicked ch ∧ E ch w')
theorem RetP.mono {P : Program} {f : FuncId} {args : Array Value} {w : World} {R R' : Value → World → Prop} {E E' : List PanicEntry → World → Prop} (h : RetP P f args w R E) (hr : ∀ v w', R v w' → R' v w') (he : ∀ ch w', E ch w' → E' ch w') : RetP P f args w R' E' :=
 Calls.mono h fun _ _ h => h.elim (fun ⟨v, h1, h2⟩ => .inl ⟨v, h1, hr _ _ h2⟩) (fun ⟨ch, h1, h2⟩ => .inr ⟨ch, h1, he _ _ h2⟩)
theorem Ret.toP {P : Program} {f : FuncId} {args : Array Value} {w : World} {R : Value → World → Prop} {E : List PanicEntry → World → Prop} (h : Ret P f args w R) : RetP P f args w R E :=
 Calls.mono h fun _ _ ⟨v, h1, h2⟩ => .inl ⟨v, h1, h2⟩
/-- what is asked at the end of a body that may panic -/
def PostP (P : Program) (fn : Func) (R : Value → World → Prop) (E : List PanicEntry → World → Prop) : Exit → Act → World → Prop :=
 bodyPost P fn fun e w' => (∃ v, e = .returned v ∧ R v w') ∨ (∃ ch, e = .panicked ch ∧ E ch w')
attribute [irreducible] PostP
/-! regions that draw their order, with calls that may panic -/
section
variable {P : Program} {ops : Array Oper} {Q : Exit → Act → World → Prop} {c : Cf} {e : Env} {B : Base} {L : Heap} {d i fuel : Nat} {S : World → Prop} {listed : Array Bool}
theorem o_run {o : Oper} {v : Value} (hi : ops[i]? = some o) (hg : plainB o = true) (hd : o.dst = some d) (hr : ∀ w, St B L w → Run P o (ev c.n e) w v w) (h : WH P ops c Q S fuel (listed.setIfInBounds i true) (upd e d v) B L) : WO P ops c Q S fuel listed i e B L :=
 o_val hi hg hd fun w hw => ⟨v, w, B, L, hr w hw, hw, h⟩
end
end Go.Sx
end
section
/- Programs in memory; whole structs out of blocks. -/
namespace Go.Sx
open Go.RowKit Go.Tree
/-- a declaration in memory -/
def dcM (W : World) (N : Nat → Prop) (d : Dc) (cs : List Value) : Prop := ∃ sa sc la lc ua uc ia ic, cs = [.int .u8 (d.ty : Nat), .int .i64 d.at_, str d.nm, .slice sa d.size.length sc, .slice la d.lower.length lc, .slice ua d.upper.length uc, .slice ia d.init.length ic] ∧ exsM W N d.size sa 0 ∧ exsM W N d.lower la 0 ∧ exsM W N d.upper ua 0 ∧ exsM W N d.init ia 0
theorem dcM.fr {W W' : World} {S N : Nat → Prop} {d : Dc} {cs : List Value} (h : dcM W N d cs) (hf : Fr S W W') (hn : ∀ b, N b → ¬ S b) : dcM W' N d cs := by
 obtain ⟨sa, sc, la, lc, ua, uc, ia, ic, h1, h2, h3, h4, h5⟩ := h
 exact ⟨sa, sc, la, lc, ua, uc, ia, ic, h1, exsM.fr hf hn _ _ _ h2, exsM.fr hf hn _ _ _ h3, exsM.fr hf hn _ _ _ h4, exsM.fr hf hn _ _ _ h5⟩
theorem dcM.now {x : World × (Nat → Prop)} {N : Nat → Prop} {d : Dc} {cs : List Value} {B : Base} {L : Heap} {w : World} (h : dcM x.1 N d cs) (hn : Apart x N) (hx : x ∈ B) (hw : St B L w) : dcM w N d cs := h.fr (hw.fr x hx) hn
def dcsM (W : World) (N : Nat → Prop) (l : List Dc) (a : Option Addr) : Prop := ∀ k d, l[k]? = some d → ∃ cs, At W N a (k * 7) cs ∧ dcM W N d cs
theorem dcsM.fr {W W' : World} {S N : Nat → Prop} {l : List Dc} {a : Option Addr} (h : dcsM W N l a) (hf : Fr S W W') (hn : ∀ b, N b → ¬ S b) : dcsM W' N l a := fun k d hk => by
 obtain ⟨cs, h1, h2⟩ := h k d hk
 exact ⟨cs, h1.fr hf hn, h2.fr hf hn⟩
theorem dcsM.now {x : World × (Nat → Prop)} {N : Nat → Prop} {l : List Dc} {a : Option Addr} {B : Base} {L : Heap} {w : World} (h : dcsM x.1 N l a) (hn : Apart x N) (hx : x ∈ B) (hw : St B L w) : dcsM w N l a := h.fr (hw.fr x hx) hn
def bkM (W : World) (N : Nat → Prop) (b : Bk) (cs : List Value) : Prop := ∃ da dc sa sc, cs = [.bool b.is, .slice da b.decls.length dc, .slice sa b.stmts.length sc] ∧ dcsM W N b.decls da ∧ smsM W N b.stmts sa 0
theorem bkM.fr {W W' : World} {S N : Nat → Prop} {b : Bk} {cs : List Value} (h : bkM W N b cs) (hf : Fr S W W') (hn : ∀ b, N b → ¬ S b) : bkM W' N b cs := by
 obtain ⟨da, dc, sa, sc, h1, h2, h3⟩ := h
 exact ⟨da, dc, sa, sc, h1, h2.fr hf hn, smsM.fr hf hn _ _ _ h3⟩
/-- a program: six blocks of three cells -/
structure pgM (W : World) (N : Nat → Prop) (p : List Bk) (cs : List Value) : Prop where
 six : p.length = 6
 len : cs.length = 18
 one : ∀ i b, p[i]? = some b → bkM W N b ((cs.drop (i * 3)).take 3)
theorem pgM.fr {W W' : World} {S N : Nat → Prop} {p : List Bk} {cs : List Value} (h : pgM W N p cs) (hf : Fr S W W') (hn : ∀ b, N b → ¬ S b) : pgM W' N p cs := ⟨h.six, h.len, fun i b hb => (h.one i b hb).fr hf hn⟩
theorem pgM.now {x : World × (Nat → Prop)} {N : Nat → Prop} {p : List Bk} {cs : List Value} {B : Base} {L : Heap} {w : World} (h : pgM x.1 N p cs) (hn : Apart x N) (hx : x ∈ B) (hw : St B L w) : pgM w N p cs := h.fr (hw.fr x hx) hn
end Go.Sx
end
section
/- A pen: a slice of texts in a block of its own, written on by calls. -/
namespace Go.Sx
open Go.RowKit Go.Tree
abbrev OwnS (te : TypeId) (v : Value) (ts : List (List UInt8)) (W : Heap) : Prop := Own te 1 v (ts.map str) ts.length W
theorem OwnS.more {te : TypeId} {v : Value} {xs ts : List (List UInt8)} {W : Heap} (h : Own te 1 v (xs.map str ++ ts.map str) (xs.length + ts.length) W) : OwnS te v (xs ++ ts) W := by
  unfold OwnS; rw [List.map_append, List.length_append]; exact h
def PenAt (te T : TypeId) (p : Nat) (xs : List (List UInt8)) (B : Base) (Lr : Heap) (w : World) : Prop := ∃ v W, OwnS te v xs W ∧ St B ((p, cel [v] T) :: (W ++ Lr)) w
theorem At.shift {W : World} {N : Nat → Prop} {b o i : Nat} {cs : List Value} (h : At W N (some ⟨b, o, none⟩) (i + 4) cs) : At W N (some ⟨b, o + 4, none⟩) i cs := by
  obtain ⟨b', o', ha, hb, hc⟩ := h
  cases ha
  exact ⟨b, o + 4, rfl, hb, fun j v hj => by have := hc j v hj; rwa [show o + (i + 4) + j = o + 4 + i + j by omega] at this⟩
theorem exsM.shift {W : World} {N : Nat → Prop} {b o : Nat} : ∀ {l : List Ex} {i : Nat}, exsM W N l (some ⟨b, o, none⟩) (i + 4) → exsM W N l (some ⟨b, o + 4, none⟩) i
  | [], _, _ => by unfold exsM; trivial
  | x :: l, i, h => by
    unfold exsM at h ⊢
    obtain ⟨⟨cs, h1, h2⟩, h3⟩ := h
    exact ⟨⟨cs, h1.shift, h2⟩, exsM.shift h3⟩
/-- a row but for its first one -/
theorem exsM.rest {W : World} {N : Nat → Prop} {b o c : Nat} {l : List Ex} (h : exsM W N l (some ⟨b, o, none⟩) 0) (hl : 1 ≤ l.length) (hc : l.length ≤ c) : ∃ a, (if c = 1 then (some ⟨b, o, none⟩ : Option Addr) else (some ⟨b, o, none⟩ : Option Addr).map (fun z => z.add (1 * 4))) = a ∧ exsM W N (l.drop 1) a 0 := by
  match l, hl with
  | x :: l, _ =>
    unfold exsM at h
    refine ⟨_, rfl, ?_⟩
    simp only [List.drop_succ_cons, List.drop_zero]
    split
    · have : l = [] := by cases l with | nil => rfl | cons => simp at hc; omega
      subst this; unfold exsM; trivial
    · exact exsM.shift h.2
theorem PenAt.fin {te T : TypeId} {p : Nat} {xs ys : List (List UInt8)} {B : Base} {A Lr W : Heap} {v : Value} {w : World} (hO : OwnS te v xs W) (h : xs = ys) (hs : St B (A ++ ((p, cel [v] T) :: (W ++ Lr))) w) : PenAt te T p ys B Lr w := by
  subst h
  exact ⟨v, W, hO, hs.drop (List.sublist_append_right _ _)⟩
end Go.Sx
end
section
/- Texts of one's own, put together: append. -/
namespace Go.Sx
open Go.RowKit Go.Tree
section
variable {P : Program} {ops : Array Oper} {Q : Exit → Act → World → Prop} {c : Cf} {e : Env} {B : Base} {L L1 A : Heap} {rest : List Oper} {d : Nat}
theorem app_run {ρ : Operand → Value} {D : Option Tmp} {g : Option (Nat × Bool)} {x y : Operand} {T : TypeId} {p : String} {ed : Array Edge} {t el k bytes : Nat} {z v : Value} {xs news : List Value} {n m b2 o2 c2 : Nat} (hT : slT P t el k bytes z) (hk : 0 < k) (hx : ρ x = v) (hown : OwnR el k v xs n A L L1) (hy : ρ y = .slice (some ⟨b2, o2, none⟩) m c2)
    (hl : news.length = m * k) (hnews : ∀ w, St B L1 w → ∀ j u, news[j]? = some u → w.cell? ⟨b2, o2 + j, none⟩ = some u) (h1 : news.all Value.oneCell' = true) (hm : 0 < m) (h63 : n + m ≤ 9223372036854775807) (hbytes : (n + m) * bytes ≤ 140737488355328) {w : World} (hw : St B L1 w) :
    ∃ v' w' L2, Run P ⟨D, .call ⟨.builtin .append, #[x, y], #[t, t]⟩, T, p, ed, g⟩ ρ w v' w' ∧ OwnR el k v' (xs ++ news) (n + m) A L L2 ∧ St B L2 w' := by
  obtain ⟨i, ht, hi, hsz, hby, hz, hzs⟩ := slT_spec hT
  subst hsz; subst hby
  obtain ⟨hxl, hown⟩ := hown
  have hn2 : ∀ w, St B L1 w → ∀ j u, news[j]? = some u → w.cell? ((⟨b2, o2, none⟩ : Addr).add j) = some u := fun w hw j u hu => by
    have := hnews w hw j u hu
    simp only [Addr.add]; split <;> simp_all
  have hlen : (xs ++ news).length = (n + m) * i.size := by rw [List.length_append, hxl, hl, Nat.add_mul]
  rcases hown with ⟨rfl, rfl, rfl⟩ | ⟨b, cp, sp, rfl, hc, hs', rfl⟩
  · rw [Nat.zero_add] at *
    have hr := run_append_nil (P := P) w t T el i z ht hi hz ⟨b2, o2, none⟩ m c2 news hl (hn2 w hw) hm (by omega) (by omega)
    have hx0 : xs = [] := by simpa using hxl
    subst hx0
    have hge := grownCap_ge w m 0 el
    have hs := (hw.drawn (w.drawn + 1)).new (o := cel ([] ++ news ++ (Builtin.zeroCells z.cells (grownCap w m 0 el - m)).toList) el)
    refine ⟨_, _, (A ++ (w.heap.size, cel ([] ++ news ++ (Builtin.zeroCells z.cells (grownCap w m 0 el - m)).toList) el) :: L), R_append hx hy hr, ⟨hlen, .inr ⟨w.heap.size, grownCap w m 0 el, _, rfl, hge, ?_, rfl⟩⟩, ?_⟩
    · rw [Array.length_toList, size_zeroCells, hzs]
    · have := hs.perm (List.perm_middle.symm)
      have e1 : (news.toArray ++ Builtin.zeroCells z.cells (grownCap w m 0 el - m) : Array Value) = ([] ++ news ++ (Builtin.zeroCells z.cells (grownCap w m 0 el - m)).toList).toArray := by simp
      rw [e1]
      exact this
  · have hb := hw.own (b, cel (xs ++ sp) el) (by simp)
    by_cases hroom : n + m ≤ cp
    · have hmk : (cp - n) * i.size = m * i.size + (cp - (n + m)) * i.size := by rw [← Nat.add_mul]; congr 1; omega
      have hr := run_append_room (P := P) w t T el i ht hi b n cp (xs ++ sp).toArray hb ⟨b2, o2, none⟩ m c2 news hl (hn2 w hw) (all_mem h1) hroom (by simp; omega)
      have hs := hw.put A.length (l' := xs ++ news ++ sp.drop news.length) (b := b) (l := xs ++ sp) (T := el) (by simp)
      rw [set_mid] at hs
      have e1 : ((xs ++ sp).toArray.toList.take (n * i.size) ++ news ++ (xs ++ sp).toArray.toList.drop (n * i.size + news.length)) = xs ++ news ++ sp.drop news.length := by
        simp only []
        rw [← hxl, List.take_left', List.drop_append]
        · simp [List.drop_eq_nil_of_le]
        · rfl
      rw [e1] at hr
      refine ⟨_, _, _, R_append hx hy hr, ⟨hlen, .inr ⟨b, cp, sp.drop news.length, rfl, hroom, ?_, rfl⟩⟩, hs⟩
      rw [List.length_drop, hs', hl] <;> omega
    · have hge := grownCap_ge w (n + m) cp el
      have hr := run_append_grow (P := P) w t T el i z ht hi hz ⟨b, 0, none⟩ n cp xs hxl (fun j u hu => by
          have hj := (List.getElem?_eq_some_iff.1 hu).1
          have : w.cell? ⟨b, 0 + j, none⟩ = some u := by
            simp only [World.cell?, hb]
            simp [List.getElem?_append_left hj, hu]
          simp only [Addr.add]; split <;> simp_all) ⟨b2, o2, none⟩ m c2 news hl (hn2 w hw) (by omega) (by omega) (growslice_fits (by omega) hbytes)
      have hs := (hw.drawn (w.drawn + 1)).new (o := cel (xs ++ news ++ (Builtin.zeroCells z.cells (grownCap w (n + m) cp el - (n + m))).toList) el)
      refine ⟨_, _, (A ++ (w.heap.size, cel (xs ++ news ++ (Builtin.zeroCells z.cells (grownCap w (n + m) cp el - (n + m))).toList) el) :: L), R_append hx hy hr, ⟨hlen, .inr ⟨w.heap.size, grownCap w (n + m) cp el, _, rfl, hge, ?_, rfl⟩⟩, ?_⟩
      · rw [Array.length_toList, size_zeroCells, hzs]
      · have h2 := hs.drop (L' := (w.heap.size, cel (xs ++ news ++ (Builtin.zeroCells z.cells (grownCap w (n + m) cp el - (n + m))).toList) el) :: (A ++ L)) (by
          refine List.Sublist.cons_cons _ ?_
          exact List.Sublist.append (List.Sublist.refl _) (List.sublist_cons_self _ _))
        have := h2.perm (List.perm_middle.symm)
        have e1 : (xs.toArray ++ news.toArray ++ Builtin.zeroCells z.cells (grownCap w (n + m) cp el - (n + m)) : Array Value) = (xs ++ news ++ (Builtin.zeroCells z.cells (grownCap w (n + m) cp el - (n + m))).toList).toArray := by simp
        rw [e1]
        exact this
theorem Own.le {T : TypeId} {k : Nat} {a : Option Addr} {n c : Nat} {xs : List Value} {W : Heap} (h : Own T k (.slice a n c) xs n W) : n ≤ c := by
  rcases h.2 with ⟨h1, h2, _⟩ | ⟨b, c', sp, h1, h2, _⟩
  · omega
  · simp only [Value.slice.injEq] at h1; omega
/-- a call that lays blocks of its own, in a region that draws -/
theorem o_callW {o : Oper} {i fuel : Nat} {S : World → Prop} {listed : Array Bool} {f : FuncId} {args : Array Value} {R : Value → Heap → Prop} (hi : ops[i]? = some o) (hg : plainB o = true) (hd : o.dst = some d)
    (hr : ∀ w, RunE P o (ev c.n e) w f args) (hc : ∀ w, St B L w → Ret P f args w fun u w' => ∃ W, R u W ∧ New w w' W)
    (h : ∀ u W, R u W → WH P ops c Q S fuel (listed.setIfInBounds i true) (upd e d u) B (W ++ L)) : WO P ops c Q S fuel listed i e B L := by
  unfold WO
  intro w hw
  unfold wpOp
  simp only [hi, Region.wanted, (plainB_spec hg).1, if_true]
  refine .inl ?_
  unfold Oper.wp
  have h1 := hr w
  unfold RunE at h1
  rw [act_eval, h1]
  simp only [Oper.upon]
  refine Calls.mono (hc w hw) ?_
  rintro x w' ⟨v, rfl, W, hR, hn⟩
  have h2 := hw.newW hn
  have h3 := h v W hR
  show S w' ∧ _
  rw [hd, act_put]
  exact ⟨h3.s w' h2, h3.h w' h2⟩
end
end Go.Sx
end
section
/- Regions that draw their order, with guards, calls and blocks among them. -/
namespace Go.Sx
open Go.RowKit
section
variable {P : Program} {ops : Array Oper} {Q : Exit → Act → World → Prop} {c : Cf} {e : Env} {B B' : Base} {L L' : Heap} {o : Oper} {v : Value} {d id fuel : Nat} {S : World → Prop} {listed : Array Bool} {f : FuncId} {args : Array Value}
theorem c_heldS {n : Nat} {ds : List Deferred} (hm : P.follows .mixedOrders = true) (h : WH P ops ⟨n, ds, none⟩ Q (St B L) ops.size (Array.replicate ops.size false) e B L) : WC P ⟨n, ds, none⟩ (.region id ops true) Q e B L := c_held _ hm h
theorem wn_none (hg : o.guard = none) {t : Array Value} : Region.wanted o (yielded ops t) = true := by simp [Region.wanted, hg]
theorem wn_yes {j t : Nat} {b : Bool} (hg : o.guard = some (j, b)) (hj : (ops[j]?).bind (·.dst) = some t) (ht : Nat.blt t c.n = true) (he : e t = .bool b) : Region.wanted o (yielded ops (act c e).tmps) = true := by
  rw [wanted_of hg hj ht he]; cases b <;> rfl
/-- a guarded one that is wanted, and quiet -/
theorem h_takeG (i : Nat) {j t : Nat} {b : Bool} (hi : ops[i]? = some o) (hk : (Region.noSelect ops && Region.free .any ops listed i && (Region.ready .any ops listed).contains i) = true) (hg : o.guard = some (j, b)) (hj : (ops[j]?).bind (·.dst) = some t) (ht : Nat.blt t c.n = true) (he : e t = .bool b) (hd : o.dst = some d) (hs : ∀ w, St B L w → S w)
    (hv : ∀ w, S w → Run P o (ev c.n e) w v w) (h : WH P ops c Q S fuel (listed.setIfInBounds i true) (upd e d v) B L) : WH P ops c Q S (fuel + 1) listed e B L := by
  simp only [Bool.and_eq_true] at hk
  refine ⟨hs, fun w hw => wpAnyH_take hi hk.1.1 hk.1.2 hk.2 (fun _ a _ hq a' ha => hq a' (ha.trans (by cases o.dst <;> rfl))) (v := v) (.inl ⟨wn_yes hg hj ht he, fun w hw => ?_⟩) (hs w hw) ?_⟩
  · rw [act_eval]; exact hv w hw
  · rw [hd, act_put]; exact h.h w hw
theorem h_not (i : Nat) (hi : ops[i]? = some o) (hk : (Region.noSelect ops && Region.free .any ops listed i && (Region.ready .any ops listed).contains i) = true) (hw : Region.wanted o (yielded ops (act c e).tmps) = false) (hd : o.dst = some d) (hs : ∀ w, St B L w → S w)
    (h : WH P ops c Q S fuel (listed.setIfInBounds i true) (upd e d undef) B L) : WH P ops c Q S (fuel + 1) listed e B L := by
  simp only [Bool.and_eq_true] at hk
  refine ⟨hs, fun w hw' => wpAnyH_take hi hk.1.1 hk.1.2 hk.2 (fun _ a _ hq a' ha => hq a' (ha.trans (by cases o.dst <;> rfl))) (v := undef) (.inr ⟨hw, rfl⟩) (hs w hw') ?_⟩
  rw [hd, act_put]; exact h.h w hw'
/-- a guarded one that is not wanted -/
theorem h_skip (i : Nat) {j t : Nat} {b : Bool} (hi : ops[i]? = some o) (hk : (Region.noSelect ops && Region.free .any ops listed i && (Region.ready .any ops listed).contains i) = true) (hg : o.guard = some (j, b)) (hj : (ops[j]?).bind (·.dst) = some t) (ht : Nat.blt t c.n = true) (he : e t = .bool (!b)) (hd : o.dst = some d) (hs : ∀ w, St B L w → S w)
    (h : WH P ops c Q S fuel (listed.setIfInBounds i true) (upd e d undef) B L) : WH P ops c Q S (fuel + 1) listed e B L :=
  h_not i hi hk (by rw [wanted_of hg hj ht he]; cases b <;> rfl) hd hs h
theorem h_loadA (i : Nat) {t ty T : TypeId} {x : Operand} {p : String} {a : Array Edge} {b off k : Nat} {cs : List Value} (hi : ops[i]? = some ⟨some d, .load t x, ty, p, a, none⟩) (hk : (Region.noSelect ops && Region.free .any ops listed i && (Region.ready .any ops listed).contains i) = true) (hs : ∀ w, St B L w → S w)
    (hz : szB P t k true = true) (hx : ev c.n e x = .pointer (some ⟨b, off, none⟩)) (hc : ∀ w, S w → w.heap[b]? = some (cel cs T)) (hn : Nat.ble (off + k) cs.length = true) (h : WH P ops c Q S fuel (listed.setIfInBounds i true) (upd e d (.agg ((cs.drop off).take k).toArray)) B L) : WH P ops c Q S (fuel + 1) listed e B L :=
  zh i hi hk rfl rfl hs (fun w hw => R_ldb hz hx (hc w hw) hn) h
theorem h_splitD {t : Nat} {p : Prop} [Decidable p] (he : e t = .bool (decide p)) (h1 : p → WH P ops c Q S fuel listed e B L) (h2 : ¬ p → WH P ops c Q S fuel listed e B L) : WH P ops c Q S fuel listed e B L := by
  by_cases h : p
  · exact h1 h
  · exact h2 h
/-- a call, when it is wanted -/
theorem o_callV {i : Nat} {R : World → Value → World → Prop} {E : World → List PanicEntry → World → Prop} (hi : ops[i]? = some o) (hw : Region.wanted o (yielded ops (act c e).tmps) = true) (hd : o.dst = some d)
    (hr : ∀ w, RunE P o (ev c.n e) w f args) (hc : ∀ w, St B L w → RetP P f args w (R w) (E w))
    (h : ∀ w, St B L w → ∀ v w', R w v w' → ∃ B' L', St B' L' w' ∧ WH P ops c Q S fuel (listed.setIfInBounds i true) (upd e d v) B' L')
    (hE : ∀ w, St B L w → ∀ ch w', E w ch w' → ∀ a : Act, a.defers = c.ds → Q (.panic ch) a w') : WO P ops c Q S fuel listed i e B L := by
  unfold WO
  intro w hw'
  unfold wpOp
  simp only [hi, hw, if_true]
  refine .inl ?_
  unfold Oper.wp
  have h1 := hr w
  unfold RunE at h1
  rw [act_eval, h1]
  simp only [Oper.upon]
  refine Calls.mono (hc w hw') ?_
  rintro x w' (⟨v, rfl, hv⟩ | ⟨ch, rfl, hv⟩)
  · obtain ⟨B', L', h2, h3⟩ := h w hw' v w' hv
    show S w' ∧ _
    rw [hd, act_put]
    exact ⟨h3.s w' h2, h3.h w' h2⟩
  · exact fun a' ha' => hE w hw' ch w' hv a' (ha'.trans rfl)
theorem o_pureW {i : Nat} {u : Value} (hi : ops[i]? = some o) (hw : Region.wanted o (yielded ops (act c e).tmps) = true) (hd : o.dst = some d) (hr : ∀ w, RunE P o (ev c.n e) w f args)
    (hc : ∀ w, St B L w → Ret P f args w fun v w' => v = u ∧ Ext w w') (h : WH P ops c Q S fuel (listed.setIfInBounds i true) (upd e d u) B L) : WO P ops c Q S fuel listed i e B L :=
  o_callV (R := fun w v w' => v = u ∧ Ext w w') (E := fun _ _ _ => False) hi hw hd hr (fun w hw => (hc w hw).toP) (fun w hw v w' ⟨hv, hx⟩ => ⟨B, L, hw.ext hx, by subst hv; exact h⟩) (fun _ _ _ _ h => h.elim)
theorem o_valW {i : Nat} (hi : ops[i]? = some o) (hw : Region.wanted o (yielded ops (act c e).tmps) = true) (hd : o.dst = some d)
    (h : ∀ w, St B L w → ∃ v w' B' L', Run P o (ev c.n e) w v w' ∧ St B' L' w' ∧ WH P ops c Q S fuel (listed.setIfInBounds i true) (upd e d v) B' L') : WO P ops c Q S fuel listed i e B L := by
  unfold WO
  intro w hw'
  obtain ⟨v, w', B', L', h1, h2, h3⟩ := h w hw'
  unfold wpOp
  simp only [hi, hw, if_true]
  refine .inl ?_
  unfold Oper.wp
  unfold Run at h1
  rw [act_eval, h1, Oper.upon_value, hd, act_put]
  exact ⟨h3.s w' h2, h3.h w' h2⟩
theorem o_bsliceV {T : TypeId} {pp : String} {ed : Array Edge} {t el k bytes len i : Nat} {z : Value} {parts : List (Nat × Operand)} {g : Option (Nat × Bool)} (hi : ops[i]? = some ⟨some d, .buildSlice t len parts.toArray, T, pp, ed, g⟩) (hw : Region.wanted ⟨some d, .buildSlice t len parts.toArray, T, pp, ed, g⟩ (yielded ops (act c e).tmps) = true) (hT : slT P t el k bytes z) (hk : 0 < len * k) (hs : Nat.ble (len * k) 16777216 = true) (hf : fillB (plA len k) (parts.map fun p => (p.1, ev c.n e p.2)) (len * k) = true)
    (h : ∀ b, (∀ x ∈ L, x.1 < b) → (∀ x ∈ B, x.1.heap.size ≤ b) → WH P ops c Q S fuel (listed.setIfInBounds i true) (upd e d (.slice (some ⟨b, 0, none⟩) len len)) B ((b, cel (fillL (plA len k) (parts.map fun p => (p.1, ev c.n e p.2)) (zsL z (len * k))) el) :: L)) :
    WO P ops c Q S fuel listed i e B L := by
  obtain ⟨ti, ht, hti, hsize, hby, hz, hzs⟩ := slT_spec hT
  subst hsize
  have hlen : (zsL z (len * ti.size)).length = len * ti.size := by simp [zsL]
  have hf' := hf
  rw [← hlen] at hf'
  have hfe := fill_eq (plA len ti.size) (parts.map fun p => (p.1, ev c.n e p.2)) _ hf'
  rw [← fill_arr len ti.size _ _ hf'] at hfe
  refine o_valW hi hw rfl (fun w hw => ⟨_, _, B, _, ?_, hw.new, h w.heap.size (fun p hp => lt_of_blk (hw.own p hp)) (fun x hx => (hw.fr x hx).size)⟩)
  have e1 : ((Array.range (len * ti.size)).map (fun j => z.cells[j % z.cells.size]!)) = (zsL z (len * ti.size)).toArray := by simp [zsL, Array.toList_range, ← List.toArray_range]
  have h0 : ¬ len * ti.size = 0 := by omega
  have h1 : ¬ 16777216 < len * ti.size := by have := Nat.le_of_ble_eq_true hs; omega
  unfold Run
  simp only [execOp, Instr.buildSlice, Sem.run_bind, run_underlying ht, Result.andThen_ok, sizeOf, typeInfo, run_program, hti, Sem.run_pure, zeroValue, hz, h0, if_false, List.map_toArray]
  rw [if_neg (by simpa using h1)]
  simp only [Sem.run_bind, run_program, Result.andThen_ok, hti, Sem.run_pure, hz, e1, hfe, newRow, run_newObj]
  rfl
end
end Go.Sx
end
section
/- Numbers in memory: places, parts, calls that the model stands in for. -/
namespace Go.Sx
open Go.RowKit Go.Num
/-- the place of limb j -/
def adr (a : Option Addr) (j : Nat) : Addr := match a with
  | some z => ⟨z.block, z.off + j * 1, none⟩
  | none => ⟨0, 0, none⟩
theorem adr_some (b o j : Nat) : adr (some ⟨b, o, none⟩) j = ⟨b, o + j * 1, none⟩ := rfl
/-- the slice behind l limbs -/
def slA (a : Option Addr) (l c : Nat) : Option Addr := if c = l then a else a.map fun z => z.add (l * 1)
section
variable {P : Program} {ρ : Operand → Value} {w : World} {D : Option Tmp} {t ty yt : TypeId} {pos : String} {aft : Array Edge} {g : Option (Nat × Bool)} {x y : Operand} {a : Option Addr} {k c n i : Nat} {kk kl kh : IntKind}
theorem R_iaK (hu : slB P t 1 = true) (hx : ρ x = .slice a k c) (hp : ∃ b o, a = some ⟨b, o, none⟩) (hy : ρ y = .int kk (i : Nat)) (h1 : i < k) : Run P ⟨D, .indexAddr t x y, ty, pos, aft, g⟩ ρ w (.pointer (some (adr a i))) w := by
  obtain ⟨b, o, rfl⟩ := hp
  exact R_iaN hu hx hy h1
theorem R_lowN {lo : Operand} {l : Nat} (hu : slB P t 1 = true) (hx : ρ x = .slice a k c) (hlo : ρ lo = .int kl (l : Nat)) (h1 : l ≤ k) (h2 : k ≤ c) :
    Run P ⟨D, .slice t x (some lo) none none, ty, pos, aft, g⟩ ρ w (.slice (slA a l c) (k - l) (c - l)) w := by
  obtain ⟨e, ti, h3, h4, h5⟩ := slB_spec hu
  have h6 : (l : Int) ≤ (k : Int) := by omega
  simp [Run, execOp, hx, hlo, go_sem, Instr.sliceAt, Instr.slice, run_underlying h3, Instr.sliceBounds, Instr.sliceBound, asIntOf, h1, sizeOf, typeInfo, h4, h5, slA]
theorem R_cutN {hi mx : Operand} {q : Nat} (hu : slB P t 1 = true) (hx : ρ x = .slice a k c) (hh : ρ hi = .int kl (q : Nat)) (hm : ρ mx = .int kh (q : Nat)) (h2 : q ≤ c) :
    Run P ⟨D, .slice t x none (some hi) (some mx), ty, pos, aft, g⟩ ρ w (.slice a q q) w := by
  obtain ⟨e, ti, h3, h4, h5⟩ := slB_spec hu
  have h6 : (q : Int) ≤ (c : Int) := by omega
  cases a <;> simp [Run, execOp, hx, hh, hm, go_sem, Instr.sliceAt, Instr.slice, run_underlying h3, Instr.sliceBounds, Instr.sliceBound, asIntOf, h2, h6, sizeOf, typeInfo, h4, h5, Addr.add]
theorem R_hiN {hi : Operand} {q : Nat} (hu : slB P t 1 = true) (hx : ρ x = .slice a k c) (hh : ρ hi = .int kl (q : Nat)) (h2 : q ≤ c) :
    Run P ⟨D, .slice t x none (some hi) none, ty, pos, aft, g⟩ ρ w (.slice a q c) w := by
  obtain ⟨e, ti, h3, h4, h5⟩ := slB_spec hu
  have h6 : (q : Int) ≤ (c : Int) := by omega
  cases a <;> simp [Run, execOp, hx, hh, go_sem, Instr.sliceAt, Instr.slice, run_underlying h3, Instr.sliceBounds, Instr.sliceBound, asIntOf, h2, h6, sizeOf, typeInfo, h4, h5, Addr.add]
/-- is it nil? -/
theorem R_isnil {te : TypeId} (hu : P.underlying t = some (.slice te)) (hx : ρ x = .slice a k c) (hy : ρ y = .slice none 0 0) : Run P ⟨D, .binOp .eql t x y yt, ty, pos, aft, g⟩ ρ w (.bool a.isNone) w := by
  have hb := Go.Lib.run_eql_slice_nil (P := P) w t te a k c 0 0 hu
  have hg : eqGuard .eql t x y (.slice a k c) (.slice none 0 0) = pure () := by cases a <;> rfl
  unfold Run
  simp only [execOp, hx, hy, hg, Sem.run_bind, pure_run, Result.andThen_ok, hb]
theorem R_cap {q : Nat} (hu : slB P t q = true) (hx : ρ x = .slice a k c) : Run P ⟨D, .call ⟨.builtin .cap, #[x], #[t]⟩, ty, pos, aft, g⟩ ρ w (.int .i64 c) w := by
  obtain ⟨e, i, h1, _, _⟩ := slB_spec hu
  simp [Run, execOp, hx, go_sem, Builtin.cap_, run_underlying h1, goInt]
theorem R_subN {b : Nat} (hx : ρ x = .int .i64 (n : Nat)) (hy : ρ y = .int .i64 (b : Nat)) (h : b ≤ n) (h2 : n ≤ 9223372036854775807) : Run P ⟨D, .binOp .sub t x y yt, ty, pos, aft, g⟩ ρ w (.int .i64 ((n - b : Nat) : Int)) w := by
  have := R_subi (P := P) (w := w) (D := D) (t := t) (ty := ty) (yt := yt) (pos := pos) (aft := aft) (g := g) hx hy (by omega)
  rwa [show ((n : Int) - (b : Int)) = ((n - b : Nat) : Int) by omega] at this
theorem R_addN {b : Nat} (hx : ρ x = .int .i64 (n : Nat)) (hy : ρ y = .int .i64 (b : Nat)) (h : n + b ≤ 9223372036854775807) : Run P ⟨D, .binOp .add t x y yt, ty, pos, aft, g⟩ ρ w (.int .i64 ((n + b : Nat) : Int)) w :=
  R_addi hx hy (by omega)
theorem R_mulN {b : Nat} (hx : ρ x = .int .i64 (n : Nat)) (hy : ρ y = .int .i64 (b : Nat)) (h : n * b ≤ 9223372036854775807) : Run P ⟨D, .binOp .mul t x y yt, ty, pos, aft, g⟩ ρ w (.int .i64 ((n * b : Nat) : Int)) w := by
  have h3 : ((n : Int) * (b : Int)) = ((n * b : Nat) : Int) := by simp
  have := R_muli (P := P) (w := w) (D := D) (t := t) (ty := ty) (yt := yt) (pos := pos) (aft := aft) (g := g) hx hy (by omega)
  rwa [h3] at this
/-- conversion between kinds that keeps the number -/
theorem R_convK {s : TypeId} {k k2 : IntKind} (hs : P.underlying s = some (.int k)) (hd : P.underlying t = some (.int k2)) (hx : ρ x = .int k (n : Nat)) (h : k2.wrap (n : Int) = (n : Nat)) : Run P ⟨D, .convert s t x, ty, pos, aft, g⟩ ρ w (.int k2 (n : Nat)) w := by
  have := R_convI (P := P) (w := w) (D := D) (ty := ty) (pos := pos) (aft := aft) (g := g) hs hd hx
  rwa [h] at this
theorem wrap_u8 (h : n < 256) : IntKind.u8.wrap (n : Int) = ((n : Nat) : Int) := by rw [IntKind.wrap_u8]; omega
/-- a call that the model stands in for -/
theorem R_callX {f : FuncId} {al : List Operand} {v : Value} {tys : Array TypeId} (hx : ρ x = .func (.func f) #[] #[]) (h : (callFunc f (al.map ρ).toArray).run P w = .ok (.value v) w) : Run P ⟨D, .call ⟨.value x, al.toArray, tys⟩, ty, pos, aft, g⟩ ρ w v w := by
  unfold Run
  simp [execOp, hx, go_sem, resolve, invoke, h]
end
/-- the model's row of bits.Sub64 -/
def sub64E : Array Value → Sem Value := fun args => do
  let (x, y, b) ← Extern.MathBitsCarry.three "Sub64" args
  pure (Extern.MathBitsCarry.pair ((x + Extern.MathBitsCarry.m64 - y - b) % Extern.MathBitsCarry.m64) (if x < y + b then 1 else 0))
theorem run_sub64E {P : Program} (x y b : Nat) (hb : b ≤ 1) (w : World) :
    (sub64E #[.int .u64 x, .int .u64 y, .int .u64 b]).run P w =
      .ok (.tuple #[.int .u64 (((x + Go.Num.B - y - b) % Go.Num.B : Nat) : Int), .int .u64 ((if x < y + b then 1 else 0 : Nat) : Int)]) w := by
  have : b = 0 ∨ b = 1 := by omega
  rcases this with rfl | rfl <;> rfl
theorem sub64_call {P : Program} {f : FuncId} {fn : Func} (hf : P.funcs[f]? = some fn) (hname : (fn.name == "runtime.NumGoroutine") = false) (hb : fn.body.isNone = true) (hn : Extern.findNext fn = none) (he : Extern.find fn = some sub64E) (x y b : Nat) (h : b ≤ 1) (w : World) :
    (callFunc f #[.int .u64 x, .int .u64 y, .int .u64 b]).run P w = .ok (.value (.tuple #[.int .u64 (((x + Go.Num.B - y - b) % Go.Num.B : Nat) : Int), .int .u64 ((if x < y + b then 1 else 0 : Nat) : Int)])) w := by
  rw [run_callFunc_extern hf hname hb hn he, run_sub64E x y b h]; rfl
theorem add64_call {P : Program} {f : FuncId} {fn : Func} (hf : P.funcs[f]? = some fn) (hname : (fn.name == "runtime.NumGoroutine") = false) (hb : fn.body.isNone = true) (hn : Extern.findNext fn = none) (he : Extern.find fn = some add64Entry) (x y c : Nat) (h : c ≤ 1) (w : World) :
    (callFunc f #[.int .u64 x, .int .u64 y, .int .u64 c]).run P w = .ok (.value (.tuple #[.int .u64 (((x + y + c) % Go.Num.B : Nat) : Int), .int .u64 (((x + y + c) / Go.Num.B : Nat) : Int)])) w := by
  rw [run_callFunc_extern hf hname hb hn he, run_add64 x y c (by omega) (by omega) (by omega) (by omega)]
  simp only [Result.andThen]
  congr 5 <;> (unfold Go.Num.B; omega)
section
variable {a : Option Addr} {k c n l : Nat} {x : World × (Nat → Prop)} {B : Base} {L : Heap} {w : World}
theorem Kn.ca {j : Nat} (h : Kn x a k c n) (i : Nat) (hx : B[i]? = some x) (hj : j < k) (hw : St B L w) : w.cell? (adr a j) = some (.int .u64 (dg Go.Num.B n j : Nat)) := by
  obtain ⟨b, o, ha, hc⟩ := (h.at_ i hx hw).cell j hj
  subst ha
  rw [adr_some, Nat.mul_one]; exact hc
theorem Nm.ca {j : Nat} (h : Nm w a k c n) (hj : j < k) : w.cell? (adr a j) = some (.int .u64 (dg Go.Num.B n j : Nat)) := by
  obtain ⟨b, o, ha, hc⟩ := h.cell j hj
  subst ha
  rw [adr_some, Nat.mul_one]; exact hc
theorem Nm.ptr (h : Nm w a k c n) (hk : 0 < k) : ∃ b o, a = some ⟨b, o, none⟩ := by
  obtain ⟨b, o, ha, _⟩ := h.cell 0 hk; exact ⟨b, o, ha⟩
theorem Nm.low (h : Nm w a k c n) (hl : l ≤ k) : Nm w (slA a l c) (k - l) (c - l) (n / Go.Num.B ^ l) := by
  refine ⟨?_, by have := h.kc; omega, ?_, fun j hj => ?_⟩
  · have := h.lt
    rw [Nat.div_lt_iff_lt_mul (Bpow_pos l), ← Nat.pow_add, Nat.sub_add_cancel hl]; exact this
  · unfold slA
    split
    · exact h.ad
    · rcases h.ad with rfl | ⟨b, o, rfl⟩
      · exact .inl rfl
      · exact .inr ⟨b, o + l * 1, by simp [Addr.add]⟩
  · have := h.kc
    obtain ⟨b, o, ha, hc⟩ := h.cell (l + j) (by omega)
    refine ⟨b, o + l * 1, ?_, ?_⟩
    · unfold slA; rw [if_neg (by omega), ha]; simp [Addr.add]
    · rw [Nat.mul_one, Nat.add_assoc, hc, dg_div]
theorem Fsh.low {m : Nat} (h : Fsh m a k) (hl : l ≤ k) : Fsh m (slA a l c) (k - l) := fun b o q e hk => by
  unfold slA at e
  split at e
  · exact h b o q e (by omega)
  · rw [Option.map_eq_some_iff] at e
    obtain ⟨z, hz, e⟩ := e
    have hb : z.block = b := by
      have := congrArg Addr.block e
      unfold Addr.add at this
      split at this <;> exact this
    exact h b z.off z.spot (by rw [hz, ← hb]) (by omega)
theorem Kn.low (h : Kn x a k c n) (hl : l ≤ k) : Kn x (slA a l c) (k - l) (c - l) (n / Go.Num.B ^ l) := by
  refine ⟨h.1.low hl, fun b o q e hk => ?_⟩
  unfold slA at e
  split at e
  · exact h.2 b o q e (by omega)
  · rw [Option.map_eq_some_iff] at e
    obtain ⟨z, hz, e⟩ := e
    have hb : z.block = b := by
      have := congrArg Addr.block e
      unfold Addr.add at this
      split at this <;> exact this
    exact h.2 b z.off z.spot (by rw [hz, ← hb]) (by omega)
theorem Kn.cut {q : Nat} (h : Kn x a k c n) (hq : q ≤ k) (hn : n < Go.Num.B ^ q) (c' : Nat) (hc : q ≤ c') : Kn x a q c' n :=
  ⟨h.1.cut hq hn c' hc, fun b o r e hk => h.2 b o r e (by omega)⟩
theorem Kn.lt (h : Kn x a k c n) : n < Go.Num.B ^ k := h.1.lt
theorem Kn.kc (h : Kn x a k c n) : k ≤ c := h.1.kc
theorem New_.low (h : New_ B a k) (hl : l ≤ k) : New_ B (slA a l c) (k - l) := fun y hy => (h y hy).low hl
theorem Fsh.cut {m q : Nat} (h : Fsh m a k) (hq : q ≤ k) : Fsh m a q := fun b o r e hk => h b o r e (by omega)
theorem New_.cut {q : Nat} (h : New_ B a k) (hq : q ≤ k) : New_ B a q := fun y hy => (h y hy).cut hq
/-- a row in hand is not older than what is looked back at with nothing written -/
theorem St.fresh {w0 : World} {p : Nat × Obj} (hs : St B L w) (hB : (w0, No) ∈ B) (hp : p ∈ L) : w0.heap.size ≤ p.1 := (hs.ok p hp _ hB).resolve_left (fun h => h)
theorem Nm.zero (w : World) (c : Nat) (h : a = none ∨ ∃ b o, a = some ⟨b, o, none⟩) : Nm w a 0 c 0 := ⟨by simp, Nat.zero_le _, h, fun j hj => absurd hj (Nat.not_lt_zero j)⟩
end
section
variable {P : Program} {ops : Array Oper} {Q : Exit → Act → World → Prop} {c : Cf} {e : Env} {B : Base} {L : Heap} {d : Nat} {o : Oper} {S : World → Prop} {fuel : Nat} {listed : Array Bool}
theorem c_heldI {id n : Nat} {ds : List Deferred} (idx : List Nat) (hm : P.follows .mixedOrders = true) (h : WH P ops ⟨n, ds, none⟩ Q (St B (idx.filterMap fun i => L[i]?)) ops.size (Array.replicate ops.size false) e B L) : WC P ⟨n, ds, none⟩ (.region id ops true) Q e B L := c_held _ hm h
theorem o_tel {f : FuncId} {args : Array Value} {F : Option Addr → Nat → Value} {i k n : Nat} (hi : ops[i]? = some o) (hw : Region.wanted o (yielded ops (act c e).tmps) = true) (hd : o.dst = some d) (hr : ∀ w, RunE P o (ev c.n e) w f args)
    (hc : ∀ w, St B L w → Ret P f args w (Tel F k n w))
    (h : ∀ x a c', Kn x a k c' n → New_ B a k → WH P ops c Q S fuel (listed.setIfInBounds i true) (upd e d (F a c')) (x :: B) L) : WO P ops c Q S fuel listed i e B L := by
  refine o_callV (R := fun w v w' => Tel F k n w v w') (E := fun _ _ _ => False) hi hw hd hr (fun w hw => (hc w hw).toP) (fun w hw v w' ⟨a, c', hv, hN, hF, hx⟩ => ?_) (fun _ _ _ _ h => h.elim)
  subst hv
  have h1 := hw.ext hx
  refine ⟨(w', fun j => j ∈ L.map (·.1)) :: B, L, ?_, h _ a c' (Kn.new hN hF hw) fun y hy => hF.mono (hw.fr y hy).size⟩
  refine ⟨?_, h1.own, h1.nd, ?_⟩
  · intro x hx
    rcases List.mem_cons.1 hx with rfl | hx
    · exact Fr.refl _ _
    · exact h1.fr x hx
  · intro p hp x hx
    rcases List.mem_cons.1 hx with rfl | hx
    · exact .inl (List.mem_map_of_mem hp)
    · exact h1.ok p hp x hx
end
end Go.Sx
end
section
/- The plain part of the natural numbers: sums, differences, comparisons, digit by digit. -/
namespace Go.Num
section
variable {b : Nat}
theorem add_step {n m i z c : Nat} (h : z + b ^ i * c = n % b ^ i + m % b ^ i) :
    (z + b ^ i * ((dg b n i + dg b m i + c) % b)) + b ^ (i + 1) * ((dg b n i + dg b m i + c) / b) = n % b ^ (i + 1) + m % b ^ (i + 1) := by
  rw [mod_step, mod_step, Nat.pow_succ]
  generalize dg b n i = x at *
  generalize dg b m i = y at *
  generalize b ^ i = p at *
  have e : p * ((x + y + c) % b) + p * b * ((x + y + c) / b) = p * (x + y + c) := by rw [Nat.mul_assoc, ← Nat.mul_add, Nat.mod_add_div]
  rw [Nat.mul_add, Nat.mul_add] at e
  omega
theorem add_carry {n m i c : Nat} (hb : 0 < b) (hc : c ≤ 1) : (dg b n i + dg b m i + c) / b ≤ 1 := by
  have h1 := dg_lt hb n i
  have h2 := dg_lt hb m i
  have : (dg b n i + dg b m i + c) / b < 2 := Nat.div_lt_of_lt_mul (by omega)
  omega
theorem sub_step {n m i z r d r' : Nat} (h : z + m % b ^ i = n % b ^ i + b ^ i * r) (hd : d + dg b m i + r = dg b n i + b * r') :
    (z + b ^ i * d) + m % b ^ (i + 1) = n % b ^ (i + 1) + b ^ (i + 1) * r' := by
  rw [mod_step, mod_step, Nat.pow_succ]
  generalize dg b n i = x at *
  generalize dg b m i = y at *
  generalize b ^ i = p at *
  have e : p * (d + y + r) = p * (x + b * r') := by rw [hd]
  rw [Nat.mul_add, Nat.mul_add, Nat.mul_add, ← Nat.mul_assoc] at e
  omega
theorem sub_digit {x y r : Nat} (hx : x < b) (hy : y < b) (hr : r ≤ 1) : (x + b - y - r) % b + y + r = x + b * (if x < y + r then 1 else 0) := by
  split
  · rw [Nat.mod_eq_of_lt (by omega)]; omega
  · rw [show x + b - y - r = (x - y - r) + b by omega, Nat.add_mod_right, Nat.mod_eq_of_lt (by omega)]; omega
theorem sub_end {n m k z r : Nat} (h : z + m % b ^ k = n % b ^ k + b ^ k * r) (hn : n < b ^ k) (hm : m ≤ n) (hz : z < b ^ k) : z = n - m ∧ r = 0 := by
  rw [Nat.mod_eq_of_lt hn, Nat.mod_eq_of_lt (by omega)] at h
  have hr : r = 0 := by
    rcases Nat.eq_zero_or_pos r with h0 | h0
    · exact h0
    · have := Nat.mul_le_mul_left (b ^ k) h0
      omega
  subst hr
  rw [Nat.mul_zero] at h
  omega
/-- which is greater -/
def cmpN (n m : Nat) : Int := if n < m then -1 else if m < n then 1 else 0
theorem cmpN_self (n : Nat) : cmpN n n = 0 := by simp [cmpN]
theorem pair_lt {p x y s t : Nat} (hx : x < p) (hst : s < t) : x + p * s < y + p * t := by
  have := Nat.mul_le_mul_left p hst
  rw [Nat.mul_succ] at this
  omega
theorem cmp_step {n m i : Nat} (hb : 0 < b) : cmpN (n % b ^ (i + 1)) (m % b ^ (i + 1)) = if dg b n i < dg b m i then -1 else if dg b m i < dg b n i then 1 else cmpN (n % b ^ i) (m % b ^ i) := by
  have hp : 0 < b ^ i := Nat.pow_pos hb
  have h1 := Nat.mod_lt n hp
  have h2 := Nat.mod_lt m hp
  rw [mod_step, mod_step]
  generalize n % b ^ i = x at *
  generalize m % b ^ i = y at *
  generalize dg b n i = s at *
  generalize dg b m i = t at *
  generalize b ^ i = p at *
  rcases Nat.lt_trichotomy s t with h | h | h
  · have := pair_lt (y := y) h1 h
    unfold cmpN; rw [if_pos this, if_pos h]
  · subst h
    rw [if_neg (Nat.lt_irrefl _), if_neg (Nat.lt_irrefl _)]
    unfold cmpN
    simp only [Nat.add_lt_add_iff_right]
  · have := pair_lt (y := x) h2 h
    unfold cmpN; rw [if_neg (by omega), if_pos this, if_neg (by omega), if_pos h]
theorem cmp_end {n m k : Nat} (hn : n < b ^ k) (hm : m < b ^ k) : cmpN (n % b ^ k) (m % b ^ k) = cmpN n m := by rw [Nat.mod_eq_of_lt hn, Nat.mod_eq_of_lt hm]
/-- from above: what is above is the same -/
theorem top_lt {n m i : Nat} (h : n / b ^ (i + 1) = m / b ^ (i + 1)) (hd : dg b n i < dg b m i) : n < m := by
  rcases Nat.lt_or_ge n m with h1 | h1
  · exact h1
  · have h2 := Nat.div_le_div_right (c := b ^ i) h1
    rw [div_step b n, div_step b m, h] at h2
    omega
theorem top_eq {n m i : Nat} (h : n / b ^ (i + 1) = m / b ^ (i + 1)) (hd : dg b n i = dg b m i) : n / b ^ i = m / b ^ i := by
  rw [div_step b n, div_step b m, h, hd]
end
/-! a product, row by row -/
section
variable {b : Nat}
theorem mul_digit {x y o c : Nat} (hx : x < b) (hy : y < b) (ho : o < b) (hc : c < b) : (x * y + o + c) / b < b := by
  have h1 : x * y ≤ (b - 1) * (b - 1) := Nat.mul_le_mul (by omega) (by omega)
  have h2 : (b - 1) * (b - 1) + (b - 1) + (b - 1) < b * b := by
    obtain ⟨d, rfl⟩ : ∃ d, b = d + 1 := ⟨b - 1, by omega⟩
    simp only [Nat.add_sub_cancel]
    rw [Nat.add_mul, Nat.mul_add]; omega
  exact Nat.div_lt_of_lt_mul (by omega)
/-- within a row: z with what was in it at the row's beginning -/
theorem mul_step {z z0 x m i k c : Nat} (hb : 0 < b) (h : z % b ^ (i + k) + b ^ (i + k) * c = z0 % b ^ (i + k) + x * (m % b ^ k) * b ^ i) (hd : dg b z (i + k) = dg b z0 (i + k)) :
    setd b z (i + k) ((x * dg b m k + dg b z (i + k) + c) % b) % b ^ (i + (k + 1)) + b ^ (i + (k + 1)) * ((x * dg b m k + dg b z (i + k) + c) / b) = z0 % b ^ (i + (k + 1)) + x * (m % b ^ (k + 1)) * b ^ i := by
  rw [← Nat.add_assoc, setd_mod hb (Nat.mod_lt _ hb), mod_step b z0, mod_step b m, hd, Nat.pow_succ]
  generalize dg b z0 (i + k) = y
  have e0 : b ^ (i + k) = b ^ i * b ^ k := Nat.pow_add _ _ _
  generalize hp : b ^ (i + k) = p at *
  generalize dg b m k = u
  have e : p * ((x * u + y + c) % b) + p * b * ((x * u + y + c) / b) = p * (x * u + y + c) := by rw [Nat.mul_assoc, ← Nat.mul_add, Nat.mod_add_div]
  have e2 : x * (m % b ^ k + b ^ k * u) * b ^ i = x * (m % b ^ k) * b ^ i + p * (x * u) := by rw [e0]; grind
  rw [e2]
  rw [Nat.mul_add, Nat.mul_add] at e
  omega
end
end Go.Num
end
section
/- The plain part of the natural numbers: rows of limbs. -/
namespace Go.Num
/-- the number of a row of digits -/
def vlb (b : Nat) : List Nat → Nat
  | [] => 0
  | x :: l => x + b * vlb b l
abbrev vl : List Nat → Nat := vlb B
/-- digits all below the base -/
def Dig (b : Nat) (l : List Nat) : Prop := ∀ x ∈ l, x < b
section
variable {b : Nat}
theorem vlb_app : ∀ l m : List Nat, vlb b (l ++ m) = vlb b l + b ^ l.length * vlb b m
  | [], m => by simp [vlb]
  | x :: l, m => by
    rw [List.cons_append, vlb, vlb, vlb_app l m, List.length_cons, Nat.pow_succ, Nat.mul_add, ← Nat.add_assoc]
    congr 1
    rw [← Nat.mul_assoc, Nat.mul_comm b]
theorem vlb_snoc (l : List Nat) (x : Nat) : vlb b (l ++ [x]) = vlb b l + b ^ l.length * x := by
  rw [vlb_app]; simp [vlb]
theorem Dig.nil : Dig b [] := fun _ h => by simp at h
theorem Dig.cons {x : Nat} {l : List Nat} (hx : x < b) (hl : Dig b l) : Dig b (x :: l) := fun y hy => by
  rcases List.mem_cons.1 hy with rfl | hy
  · exact hx
  · exact hl y hy
theorem Dig.tail {x : Nat} {l : List Nat} (h : Dig b (x :: l)) : Dig b l := fun y hy => h y (.tail _ hy)
theorem Dig.head {x : Nat} {l : List Nat} (h : Dig b (x :: l)) : x < b := h x (.head _)
theorem Dig.take {l : List Nat} (h : Dig b l) (k : Nat) : Dig b (l.take k) := fun y hy => h y (List.mem_of_mem_take hy)
theorem Dig.drop {l : List Nat} (h : Dig b l) (k : Nat) : Dig b (l.drop k) := fun y hy => h y (List.mem_of_mem_drop hy)
theorem Dig.get {l : List Nat} (h : Dig b l) {i x : Nat} (hi : l[i]? = some x) : x < b := h x (List.mem_of_getElem? hi)
theorem Dig.set {l : List Nat} (h : Dig b l) {i x : Nat} (hx : x < b) : Dig b (l.set i x) := fun y hy => by
  rcases List.mem_or_eq_of_mem_set hy with hy | rfl
  · exact h y hy
  · exact hx
theorem Dig.zeros (hb : 0 < b) (n : Nat) : Dig b (List.replicate n 0) := fun y hy => by rw [(List.mem_replicate.1 hy).2]; exact hb
theorem vlb_lt : ∀ {l : List Nat}, Dig b l → vlb b l < b ^ l.length
  | [], _ => by simp [vlb]
  | x :: l, h => by
    have h1 := vlb_lt h.tail
    have h2 := h.head
    rw [vlb, List.length_cons, Nat.pow_succ]
    have h3 : b * (vlb b l + 1) ≤ b * b ^ l.length := Nat.mul_le_mul_left _ h1
    rw [Nat.mul_comm (b ^ l.length)]
    rw [Nat.mul_add] at h3; omega
/-- a row's digits are its number's -/
theorem dg_vlb {l : List Nat} (hb : 0 < b) (h : Dig b l) {i x : Nat} (hi : l[i]? = some x) : dg b (vlb b l) i = x := by
  obtain ⟨h1, h2⟩ := List.getElem?_eq_some_iff.1 hi
  have e : l = l.take i ++ x :: l.drop (i + 1) := by
    rw [← h2]
    conv => lhs; rw [← List.take_append_drop i l, List.drop_eq_getElem_cons h1]
  have hlen : (l.take i).length = i := by rw [List.length_take]; omega
  rw [e, vlb_app, hlen]
  have h3 := dg_high (b := b) (x := vlb b (l.take i)) (y := vlb b (x :: l.drop (i + 1))) (i := 0) (j := i) (by have := vlb_lt (h.take i); rwa [hlen] at this)
  refine Eq.trans (show dg b _ i = dg b _ 0 from h3) ?_
  unfold dg
  rw [Nat.pow_zero, Nat.div_one, vlb, Nat.add_mul_mod_self_left, Nat.mod_eq_of_lt (h.get hi)]
/-- so many digits of a number -/
def dgs (b n k : Nat) : List Nat := (List.range k).map (dg b n)
theorem dgs_len (n k : Nat) : (dgs b n k).length = k := by unfold dgs; rw [List.length_map, List.length_range]
theorem dgs_get {n k i : Nat} (h : i < k) : (dgs b n k)[i]? = some (dg b n i) := by
  unfold dgs; rw [List.getElem?_map, List.getElem?_range h]; rfl
theorem dgs_dig (hb : 0 < b) (n k : Nat) : Dig b (dgs b n k) := fun x hx => by
  unfold dgs at hx
  obtain ⟨i, _, rfl⟩ := List.mem_map.1 hx
  exact dg_lt hb n i
theorem dgs_succ (n k : Nat) : dgs b n (k + 1) = dgs b n k ++ [dg b n k] := by
  unfold dgs; rw [List.range_succ, List.map_append]; rfl
theorem vlb_dgs (n : Nat) : ∀ k : Nat, vlb b (dgs b n k) = n % b ^ k
  | 0 => by simp [dgs, vlb, Nat.mod_one]
  | k + 1 => by rw [dgs_succ, vlb_snoc, vlb_dgs n k, dgs_len, mod_step]
end
theorem B_gt : 1 < B := by decide
/-- the limbs of a number, normal -/
def lm (n : Nat) : List Nat := dgs B n (sz n)
end Go.Num
end
section
/- The plain part of the natural numbers: rows of digits that are set one by one: shifts, products with a limb, quotients by a limb. -/
namespace Go.Num
section
variable {b n m k i j x y : Nat}
theorem dgs_set (hb : 0 < b) (hx : x < b) (hj : j < k) : (dgs b n k).set j x = dgs b (setd b n j x) k := by
  apply List.ext_getElem?
  intro i
  rcases Nat.lt_or_ge i k with h1 | h1
  · rw [dgs_get h1, List.getElem?_set, dgs_len]
    by_cases h : j = i
    · subst h; rw [if_pos rfl, if_pos hj, setd_same hb hx]
    · rw [if_neg h, dgs_get h1, setd_other hb hx (by omega)]
  · rw [List.getElem?_eq_none (by rw [List.length_set, dgs_len]; exact h1), List.getElem?_eq_none (by rw [dgs_len]; exact h1)]
theorem dg_parts (b n j : Nat) : n % b ^ j + b ^ j * dg b n j + b ^ (j + 1) * (n / b ^ (j + 1)) = n := by
  have h1 := Nat.mod_add_div n (b ^ (j + 1))
  rw [mod_step] at h1; exact h1
/-- a digit is added to -/
theorem setd_add : setd b n j (dg b n j + y) = n + b ^ j * y := by
  have h := dg_parts b n j
  unfold setd
  rw [Nat.mul_add]; omega
theorem dgs_add (hb : 0 < b) (hy : dg b n j + y < b) (hj : j < k) : (dgs b n k).set j (dg b n j + y) = dgs b (n + b ^ j * y) k := by
  rw [dgs_set hb hy hj, setd_add]
/-- a digit that was 0 is set -/
theorem dgs_put (hb : 0 < b) (h0 : dg b n j = 0) (hy : y < b) (hj : j < k) : (dgs b n k).set j y = dgs b (n + b ^ j * y) k := by
  have := dgs_add (y := y) hb (by omega : dg b n j + y < b) hj
  rw [h0, Nat.zero_add] at this; exact this
/-! a product with a limb -/
theorem times_step (hb : 0 < b) (a g i : Nat) :
    let t := a % b ^ i * g
    let u := dg b a i * g + t / b ^ i
    (a % b ^ (i + 1) * g) % b ^ (i + 1) = t % b ^ i + b ^ i * (u % b) ∧ (a % b ^ (i + 1) * g) / b ^ (i + 1) = u / b := by
  intro t u
  have hp : 0 < b ^ i := Nat.pow_pos hb
  have e : a % b ^ (i + 1) * g = t % b ^ i + b ^ i * u := by
    have h1 := Nat.mod_add_div t (b ^ i)
    have h2 : u = dg b a i * g + t / b ^ i := rfl
    rw [mod_step, Nat.add_mul, h2, Nat.mul_add, Nat.mul_assoc]
    have h3 : a % b ^ i * g = t := rfl
    rw [h3]
    clear_value t
    omega
  have h3 := Nat.mod_lt t hp
  rw [e]
  generalize t % b ^ i = z at *
  clear e
  clear_value u
  clear t
  have e2 : z + b ^ i * u = z + b ^ i * (u % b) + b ^ (i + 1) * (u / b) := by
    have := Nat.mod_add_div u b
    conv => lhs; rw [← this]
    rw [Nat.mul_add, Nat.pow_succ, Nat.mul_assoc, Nat.add_assoc]
  have h4 := lt_snoc h3 (Nat.mod_lt u hb)
  have hp2 : 0 < b ^ (i + 1) := Nat.pow_pos hb
  constructor
  · rw [e2, Nat.add_mul_mod_self_left, Nat.mod_eq_of_lt h4]
  · rw [e2, Nat.add_mul_div_left _ _ hp2, Nat.div_eq_of_lt h4, Nat.zero_add]
theorem times_carry (hb : 0 < b) {a g : Nat} (hg : g < b) (i : Nat) : a % b ^ i * g / b ^ i < b := by
  have hp : 0 < b ^ i := Nat.pow_pos hb
  refine (Nat.div_lt_iff_lt_mul hp).2 ?_
  have h1 := Nat.mod_lt a hp
  have h2 : a % b ^ i * g ≤ b ^ i * g := Nat.mul_le_mul_right _ (Nat.le_of_lt h1)
  have h3 : b ^ i * (g + 1) ≤ b ^ i * b := Nat.mul_le_mul_left _ hg
  rw [Nat.mul_add] at h3
  rw [Nat.mul_comm b]; omega
/-! a quotient by a limb, from above -/
theorem small_step (_hb : 0 < b) {d : Nat} (hd : 0 < d) (a i : Nat) :
    let r := a / b ^ (i + 1) % d
    let u := r * b + dg b a i
    a / b ^ i / d = a / b ^ (i + 1) / d * b + u / d ∧ a / b ^ i % d = u % d := by
  intro r u
  have h1 := div_step b a i
  have h2 := Nat.div_add_mod (a / b ^ (i + 1)) d
  have hu : u = a / b ^ (i + 1) % d * b + dg b a i := rfl
  generalize a / b ^ (i + 1) = w at *
  clear_value u
  clear r
  generalize a / b ^ i = v at *
  generalize dg b a i = c at *
  have e : v = w / d * b * d + u := by
    have h4 : w * b = d * (w / d) * b + w % d * b := by rw [← Nat.add_mul, h2]
    have e2 : w / d * b * d = d * (w / d) * b := by rw [Nat.mul_right_comm, Nat.mul_comm (w / d)]
    rw [h1, hu, e2, Nat.mul_comm b]; omega
  rw [e, Nat.add_comm, Nat.add_mul_div_right _ _ hd, Nat.add_mul_mod_self_right, Nat.add_comm]
  exact ⟨rfl, rfl⟩
theorem small_digit (hb : 0 < b) {d : Nat} (hd : 0 < d) (a i : Nat) : (a / b ^ (i + 1) % d * b + dg b a i) / d < b ∧ dg b (a / d) i = (a / b ^ (i + 1) % d * b + dg b a i) / d := by
  have h0 : (a / b ^ (i + 1) % d * b + dg b a i) / d < b := by
    refine (Nat.div_lt_iff_lt_mul hd).2 ?_
    have h1 := Nat.mod_lt (a / b ^ (i + 1)) hd
    have h2 := dg_lt hb a i
    have h3 : (a / b ^ (i + 1) % d + 1) * b ≤ d * b := Nat.mul_le_mul_right _ h1
    rw [Nat.add_mul] at h3
    rw [Nat.mul_comm b]; omega
  refine ⟨h0, ?_⟩
  unfold dg at *
  rw [Nat.div_div_eq_div_mul, Nat.mul_comm d, ← Nat.div_div_eq_div_mul, (small_step hb hd a i).1]
  unfold dg
  rw [Nat.add_comm, Nat.add_mul_mod_self_right, Nat.mod_eq_of_lt h0]
/-- the digits from a place on -/
theorem high_step (b n i : Nat) : n / b ^ i * b ^ i = n / b ^ (i + 1) * b ^ (i + 1) + b ^ i * dg b n i := by
  rw [div_step b n i, Nat.add_mul, Nat.pow_succ, Nat.mul_comm (dg b n i), Nat.mul_comm b, Nat.mul_assoc, Nat.mul_comm b (b ^ i)]; omega
theorem high_dg (hb : 0 < b) (n i : Nat) : dg b (n / b ^ (i + 1) * b ^ (i + 1)) i = 0 := by
  have := dg_low (b := b) (x := 0) (y := n / b ^ (i + 1)) hb (Nat.lt_succ_self i)
  rw [Nat.zero_add, Nat.mul_comm, dg_zero] at this
  exact this
end
/-! a shift by less than a limb -/
theorem or_add {c y n : Nat} (hc : c < 2 ^ n) : c ||| (2 ^ n * y) = c + 2 ^ n * y := by
  rw [Nat.or_comm, Nat.add_comm, Nat.two_pow_add_eq_or_of_lt hc]
theorem shl_parts (x : Nat) {n : Nat} (hn : n < 64) : x * 2 ^ n = 2 ^ n * (x % 2 ^ (64 - n)) + B * (x / 2 ^ (64 - n)) ∧ x * 2 ^ n % B = 2 ^ n * (x % 2 ^ (64 - n)) ∧ x / 2 / 2 ^ (63 - n) = x / 2 ^ (64 - n) := by
  have e : B = 2 ^ n * 2 ^ (64 - n) := by rw [← Nat.pow_add, B_two]; congr 1; omega
  have h1 := Nat.mod_add_div x (2 ^ (64 - n))
  refine ⟨?_, ?_, ?_⟩
  · rw [e, Nat.mul_assoc, ← Nat.mul_add, h1, Nat.mul_comm]
  · rw [e, Nat.mul_comm x, Nat.mul_mod_mul_left]
  · rw [Nat.div_div_eq_div_mul, show 64 - n = 63 - n + 1 by omega, Nat.pow_succ, Nat.mul_comm 2]
theorem shift_step {a i n k x c : Nat} (hn : n < 64) (hk : i + 1 < k) (hx : x = dg B a i) (hc : c = dg B (a % B ^ i * 2 ^ n) i) :
    c < 2 ^ n ∧ (c ||| (x * 2 ^ n % B)) < B ∧ x / 2 / 2 ^ (63 - n) < B ∧
    ((dgs B (a % B ^ i * 2 ^ n) k).set i (c ||| (x * 2 ^ n % B))).set (i + 1) (x / 2 / 2 ^ (63 - n)) = dgs B (a % B ^ (i + 1) * 2 ^ n) k := by
  obtain ⟨h1, h2, h3⟩ := shl_parts x hn
  have hxB : x < B := by rw [hx]; exact dg_lt B_pos _ _
  have hp : 0 < B ^ i := Bpow_pos i
  have hz : a % B ^ i * 2 ^ n < 2 ^ n * B ^ i := by rw [Nat.mul_comm (2 ^ n)]; exact Nat.mul_lt_mul_of_pos_right (Nat.mod_lt _ hp) (Nat.pow_pos (by decide))
  have hcd : c = a % B ^ i * 2 ^ n / B ^ i := by
    rw [hc]; unfold dg
    refine Nat.mod_eq_of_lt ?_; refine Nat.lt_of_lt_of_le ((Nat.div_lt_iff_lt_mul hp).2 hz) ?_
    rw [B_two]; exact Nat.pow_le_pow_right (by decide) (by omega)
  have hcl : c < 2 ^ n := by rw [hcd]; exact (Nat.div_lt_iff_lt_mul hp).2 hz
  have e : B = 2 ^ n * 2 ^ (64 - n) := by rw [← Nat.pow_add, B_two]; congr 1; omega
  have hm : x % 2 ^ (64 - n) < 2 ^ (64 - n) := Nat.mod_lt _ (Nat.pow_pos (by decide))
  have hs : c + 2 ^ n * (x % 2 ^ (64 - n)) < B := by
    rw [e]
    have : 2 ^ n * (x % 2 ^ (64 - n) + 1) ≤ 2 ^ n * 2 ^ (64 - n) := Nat.mul_le_mul_left _ hm
    rw [Nat.mul_add] at this; omega
  have hd : x / 2 ^ (64 - n) < B := Nat.lt_of_le_of_lt (Nat.div_le_self _ _) hxB
  rw [h2, h3, or_add hcl]
  refine ⟨hcl, hs, hd, ?_⟩
  have s1 := dgs_add (n := a % B ^ i * 2 ^ n) (j := i) (k := k) (y := 2 ^ n * (x % 2 ^ (64 - n))) B_pos (by rw [← hc]; exact hs) (by omega)
  rw [← hc] at s1
  rw [s1]
  have hlow : a % B ^ i * 2 ^ n + B ^ i * (2 ^ n * (x % 2 ^ (64 - n))) < B ^ (i + 1) := by
    have h4 := Nat.mod_add_div (a % B ^ i * 2 ^ n) (B ^ i)
    have h5 := Nat.mod_lt (a % B ^ i * 2 ^ n) hp
    rw [← hcd] at h4
    have h6 := lt_snoc (b := B) h5 hs
    rw [Nat.mul_add] at h6; omega
  rw [dgs_put B_pos (dg_out hlow) hd hk]
  congr 1
  rw [mod_step, Nat.add_mul, ← hx, Nat.mul_assoc, h1, Nat.mul_add, Nat.pow_succ, Nat.mul_assoc]; omega
/-! halves of limbs -/
theorem dg_half (n i : Nat) : dg b32 n (2 * i) = dg B n i % b32 ∧ dg b32 n (2 * i + 1) = dg B n i / b32 := by
  unfold dg
  have e : B = b32 * b32 := by decide
  rw [← B_b32]
  constructor
  · rw [e, Nat.mod_mul_right_mod]
  · rw [Nat.pow_succ, ← B_b32, ← Nat.div_div_eq_div_mul, e, Nat.mod_mul_right_div_self]
end Go.Num
end
