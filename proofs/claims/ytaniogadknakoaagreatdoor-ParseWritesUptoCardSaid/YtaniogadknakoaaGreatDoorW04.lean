/- Layer 13, ParseWrites. Part 4 of 15. -/
import Derived.Shelf.Strings.Builder1
import Derived.Shelf.Small.Strs
import Derived.Shelf.Strings.Search1
import Derived.Shelf.Strings.Search2
import Derived.Shelf.Strings.Search3
import Derived.Shelf.LaysM
import Derived.Shelf.Strings.Shaped
import Derived.Shelf.Strings.Prefix
import Derived.Shelf.Strings.Fields
import Derived.Shelf.Strings.SplitShaped
import Derived.Shelf.Unicode.Latin
import Derived.Shelf.Unicode.Is16White
import Derived.Shelf.Unicode.IsSpaceAny
import Derived.Shelf.Unicode.Is16WhiteD
import Derived.Shelf.Unicode.IsSpaceAnyD
import Derived.Shelf.Strings.FieldsAny
import Derived.Shelf.Strings.FieldsFuncAny
import Derived.Shelf.Unicode.Is16Any
import Derived.Shelf.Unicode.Is32Any
import Derived.Shelf.Unicode.ExclAny
import Derived.Test.YtaniogadknakoaaGreatDoorProg
import Derived.Test.YtaniogadknakoaaGreatDoorW03
set_option maxRecDepth 100000
set_option maxHeartbeats 16000000
section
namespace Go.Proofs
open Go.Shelf
def Tryz.lays137_ren : Go.Shelf.Ren := ⟨fun | 137 => 152 | 217 => 161 | 266 => 166 | n => n, fun | 9 => 9 | 5 => 5 | 3 => 3 | n => n, fun | n => n⟩
theorem Tryz.lays137 : Go.Proofs.Lays.n137 Tryz.prog Tryz.lays137_ren := {
  mixed := by kernel_rfl
  f137 := Tryz.func152.trans (congrArg some (by kernel_rfl))
  f217 := Tryz.func161.trans (congrArg some (by kernel_rfl))
  f266 := Tryz.func166.trans (congrArg some (by kernel_rfl))
  t3 := Tryz.underlying3
  a3 := Tryz.isAgg3
  z3 := Tryz.sizeOf3
  v3 := Tryz.zeroValue3
  t5 := Tryz.underlying5
  a5 := Tryz.isAgg5
  z5 := Tryz.sizeOf5
  v5 := Tryz.zeroValue5
  t9 := Tryz.underlying9
  a9 := Tryz.isAgg9
  z9 := Tryz.sizeOf9
  v9 := Tryz.zeroValue9 }
open Go.RowKit in
theorem Tryz.strings_IndexByte (s : ByteArray) (c : Int) (w : World) :
    Calls Tryz.prog 152 #[.string s, .int .u8 c] w fun e w' => e = .returned (.int .i64 (Lib.indexByte s.data.toList c.toNat.toUInt8)) ∧ w' = w := Any.strings_IndexByte Tryz.lays137 s c w
def Tryz.lays144_ren : Go.Shelf.Ren := ⟨fun | 144 => 121 | 143 => 147 | 219 => 159 | 217 => 161 | 225 => 163 | 224 => 164 | 267 => 165 | 266 => 166 | 314 => 167 | n => n, fun | 9 => 9 | 4 => 4 | 3 => 3 | 5 => 5 | 46 => 188 | 146 => 191 | 51 => 150 | n => n, fun | 1 => 2 | n => n⟩
theorem Tryz.lays144 : Go.Proofs.Lays.n144 Tryz.prog Tryz.lays144_ren := {
  mixed := by kernel_rfl
  f143 := Tryz.func147.trans (congrArg some (by kernel_rfl))
  f144 := Tryz.func121.trans (congrArg some (by kernel_rfl))
  f217 := Tryz.func161.trans (congrArg some (by kernel_rfl))
  f219 := Tryz.func159.trans (congrArg some (by kernel_rfl))
  f224 := Tryz.func164.trans (congrArg some (by kernel_rfl))
  f225 := Tryz.func163.trans (congrArg some (by kernel_rfl))
  f266 := Tryz.func166.trans (congrArg some (by kernel_rfl))
  f267 := Tryz.func165.trans (congrArg some (by kernel_rfl))
  f314 := Tryz.func167.trans (congrArg some (by kernel_rfl))
  t3 := Tryz.underlying3
  a3 := Tryz.isAgg3
  z3 := Tryz.sizeOf3
  v3 := Tryz.zeroValue3
  t4 := Tryz.underlying4
  a4 := Tryz.isAgg4
  z4 := Tryz.sizeOf4
  v4 := Tryz.zeroValue4
  t5 := Tryz.underlying5
  a5 := Tryz.isAgg5
  z5 := Tryz.sizeOf5
  v5 := Tryz.zeroValue5
  t9 := Tryz.underlying9
  a9 := Tryz.isAgg9
  z9 := Tryz.sizeOf9
  v9 := Tryz.zeroValue9
  t46 := Tryz.underlying188
  a46 := Tryz.isAgg188
  z46 := Tryz.sizeOf188
  v46 := Tryz.zeroValue188
  t51 := Tryz.underlying150
  a51 := Tryz.isAgg150
  z51 := Tryz.sizeOf150
  v51 := Tryz.zeroValue150
  t146 := Tryz.underlying191
  a146 := Tryz.isAgg191
  z146 := Tryz.sizeOf191
  v146 := Tryz.zeroValue191
  g1 := by kernel_rfl }
open Go.RowKit Go.Lib in
theorem Tryz.strings_Contains (s sub : ByteArray) (m : Int) (w : World) (hs : s.size < 4294967281) (hm : w.cell? ⟨2, 0, none⟩ = some (.int .i64 m)) :
    Calls Tryz.prog 121 #[.string s, .string sub] w fun e w' => e = .returned (.bool (Lib.contains s.data.toList sub.data.toList)) ∧ w' = w := Any.strings_Contains Tryz.lays144 s sub m w hs hm
def Tryz.lays99_ren : Go.Shelf.Ren := ⟨fun | 99 => 151 | 206 => 160 | n => n, fun | 9 => 9 | 4 => 4 | 3 => 3 | n => n, fun | n => n⟩
theorem Tryz.lays99 : Go.Proofs.Lays.n99 Tryz.prog Tryz.lays99_ren := {
  mixed := by kernel_rfl
  f99 := Tryz.func151.trans (congrArg some (by kernel_rfl))
  f206 := Tryz.func160.trans (congrArg some (by kernel_rfl))
  t3 := Tryz.underlying3
  a3 := Tryz.isAgg3
  z3 := Tryz.sizeOf3
  v3 := Tryz.zeroValue3
  t4 := Tryz.underlying4
  a4 := Tryz.isAgg4
  z4 := Tryz.sizeOf4
  v4 := Tryz.zeroValue4
  t9 := Tryz.underlying9
  a9 := Tryz.isAgg9
  z9 := Tryz.sizeOf9
  v9 := Tryz.zeroValue9 }
open Go.RowKit Go.Lib in
theorem Tryz.strings_HasPrefix (s p : ByteArray) (w : World) :
    Calls Tryz.prog 151 #[.string s, .string p] w fun e w' => e = .returned (.bool (Lib.hasPrefix s.data.toList p.data.toList)) ∧ w' = w := Any.strings_HasPrefix Tryz.lays99 s p w
def Tryz.lays157_ren : Go.Shelf.Ren := ⟨fun | 157 => 41 | 229 => 77 | 199 => 78 | 261 => 119 | 311 => 144 | 312 => 145 | n => n, fun | 9 => 9 | 31 => 56 | 3 => 3 | 5 => 5 | 4 => 4 | 119 => 115 | 0 => 0 | 40 => 117 | 152 => 147 | 21 => 21 | 154 => 149 | 51 => 150 | 141 => 152 | 196 => 171 | 193 => 168 | 198 => 174 | 49 => 172 | 194 => 169 | 201 => 177 | 226 => 187 | 46 => 188 | 227 => 189 | n => n, fun | 0 => 0 | 6 => 1 | n => n⟩
theorem Tryz.lays157 : Go.Proofs.Lays.n157 Tryz.prog Tryz.lays157_ren := {
  mixed := by kernel_rfl
  f157 := Tryz.func41.trans (congrArg some (by kernel_rfl))
  f199 := Tryz.func78.trans (congrArg some (by kernel_rfl))
  f229 := Tryz.func77.trans (congrArg some (by kernel_rfl))
  f261 := Tryz.func119.trans (congrArg some (by kernel_rfl))
  f311 := Tryz.func144.trans (congrArg some (by kernel_rfl))
  f312 := Tryz.func145.trans (congrArg some (by kernel_rfl))
  t0 := Tryz.underlying0
  a0 := Tryz.isAgg0
  z0 := Tryz.sizeOf0
  v0 := Tryz.zeroValue0
  t3 := Tryz.underlying3
  a3 := Tryz.isAgg3
  z3 := Tryz.sizeOf3
  v3 := Tryz.zeroValue3
  t4 := Tryz.underlying4
  a4 := Tryz.isAgg4
  z4 := Tryz.sizeOf4
  v4 := Tryz.zeroValue4
  t5 := Tryz.underlying5
  a5 := Tryz.isAgg5
  z5 := Tryz.sizeOf5
  v5 := Tryz.zeroValue5
  t9 := Tryz.underlying9
  a9 := Tryz.isAgg9
  z9 := Tryz.sizeOf9
  v9 := Tryz.zeroValue9
  t21 := Tryz.underlying21
  a21 := Tryz.isAgg21
  z21 := Tryz.sizeOf21
  v21 := Tryz.zeroValue21
  t31 := Tryz.underlying56
  a31 := Tryz.isAgg56
  z31 := Tryz.sizeOf56
  v31 := Tryz.zeroValue56
  t40 := Tryz.underlying117
  a40 := Tryz.isAgg117
  z40 := Tryz.sizeOf117
  v40 := Tryz.zeroValue117
  t46 := Tryz.underlying188
  a46 := Tryz.isAgg188
  z46 := Tryz.sizeOf188
  v46 := Tryz.zeroValue188
  t49 := Tryz.underlying172
  a49 := Tryz.isAgg172
  z49 := Tryz.sizeOf172
  v49 := Tryz.zeroValue172
  t51 := Tryz.underlying150
  a51 := Tryz.isAgg150
  z51 := Tryz.sizeOf150
  v51 := Tryz.zeroValue150
  t119 := Tryz.underlying115
  a119 := Tryz.isAgg115
  z119 := Tryz.sizeOf115
  t141 := Tryz.underlying152
  a141 := Tryz.isAgg152
  z141 := Tryz.sizeOf152
  v141 := Tryz.zeroValue152
  t152 := Tryz.underlying147
  a152 := Tryz.isAgg147
  z152 := Tryz.sizeOf147
  v152 := Tryz.zeroValue147
  t154 := Tryz.underlying149
  a154 := Tryz.isAgg149
  z154 := Tryz.sizeOf149
  v154 := Tryz.zeroValue149
  t193 := Tryz.underlying168
  a193 := Tryz.isAgg168
  z193 := Tryz.sizeOf168
  v193 := Tryz.zeroValue168
  t194 := Tryz.underlying169
  a194 := Tryz.isAgg169
  z194 := Tryz.sizeOf169
  v194 := Tryz.zeroValue169
  t196 := Tryz.underlying171
  a196 := Tryz.isAgg171
  z196 := Tryz.sizeOf171
  v196 := Tryz.zeroValue171
  t198 := Tryz.underlying174
  a198 := Tryz.isAgg174
  z198 := Tryz.sizeOf174
  v198 := Tryz.zeroValue174
  t201 := Tryz.underlying177
  a201 := Tryz.isAgg177
  z201 := Tryz.sizeOf177
  v201 := Tryz.zeroValue177
  t226 := Tryz.underlying187
  a226 := Tryz.isAgg187
  z226 := Tryz.sizeOf187
  v226 := Tryz.zeroValue187
  t227 := Tryz.underlying189
  a227 := Tryz.isAgg189
  z227 := Tryz.sizeOf189
  v227 := Tryz.zeroValue189
  g0 := by kernel_rfl
  g6 := by kernel_rfl }
open Go.RowKit Go.Lib in
theorem Tryz.strings_Fields (s : ByteArray) (w : World) (hs : s.size < 4294967281) (hascii : ∀ (j : Nat) b, s.data.toList[j]? = some b → b.toNat < 128) (htab : Lib.TabIs Tryz.prog w "strings.asciiSpace" .u8 Lib.asciiSpaceTab) :
    Calls Tryz.prog 41 #[.string s] w fun e w' =>
      e = .returned (.slice (some ⟨w.heap.size, 0, none⟩) (Lib.fields s.data.toList).length (Lib.fields s.data.toList).length) ∧ w' = w.alloc (.cells ((Lib.fields s.data.toList).map fun l => Value.string ⟨l.toArray⟩).toArray 9) := Any.strings_Fields Tryz.lays157 (by kernel_rfl) (by kernel_rfl) s w hs hascii htab
end Go.Proofs
end

section
namespace Go.Proofs.YtaniogadknakoaaGreatDoor
open Go.RowKit Go.Sx


def Tb (w : World) : Prop := ∃ T f, w.heap[0]? = some (.cells (Lib.asciiSpaceTab.map fun z => Value.int .u8 z).toArray T f)
theorem Tb.tab {w : World} (h : Tb w) : Lib.TabIs Tryz.prog w "strings.asciiSpace" .u8 Lib.asciiSpaceTab := by
 obtain ⟨T, f, h⟩ := h
 unfold Lib.TabIs World.var?
 have : Tryz.prog.globalNamed "strings.asciiSpace" = some 0 := by kernel_rfl
 rw [this]
 simp [h]
theorem Tb.of {w : World} (h : Lib.TabIs Tryz.prog w "strings.asciiSpace" .u8 Lib.asciiSpaceTab) : Tb w := by
 unfold Lib.TabIs World.var? at h
 have : Tryz.prog.globalNamed "strings.asciiSpace" = some 0 := by kernel_rfl
 rw [this] at h
 simp only [Option.bind_some] at h
 split at h
 ·rename_i cs T f hh; cases h; exact ⟨T, f, hh⟩
 ·cases h
theorem Tb.fr {S : Nat → Prop} {w w' : World} (h : Tb w) (k : Fr S w w') (hs : ¬ S 0) : Tb w' := by
 obtain ⟨T, f, h⟩ := h
 exact ⟨T, f, k.get h hs⟩
theorem Tb.lt {w : World} (h : Tb w) : 0 < w.heap.size := by
 obtain ⟨T, f, h⟩ := h
 exact lt_of_blk h
theorem IndexByte_spec (s : List UInt8) (c : Int) (w : World) : Ret Tryz.prog 152 #[str s, .int .u8 c] w fun v w' => v = .int .i64 (Lib.indexByte s c.toNat.toUInt8) ∧ Ext w w' :=
 Calls.mono (Tryz.strings_IndexByte ⟨s.toArray⟩ c w) fun e w' ⟨h1, h2⟩ => ⟨_, h1, by simp, by rw [h2]; exact Fr.refl _ _⟩
theorem u8_back (b : UInt8) : ((b.toNat : Nat) : Int).toNat.toUInt8 = b := by simp
theorem IndexByte_at (s : List UInt8) (b : UInt8) (w : World) : Ret Tryz.prog 152 #[str s, .int .u8 (b.toNat : Nat)] w fun v w' => v = .int .i64 (Lib.indexByte s b) ∧ Ext w w' := by
 have := IndexByte_spec s (b.toNat : Nat) w
 rwa [u8_back] at this
theorem HasPrefix_spec (s p : List UInt8) (w : World) : Ret Tryz.prog 151 #[str s, str p] w fun v w' => v = .bool (p.isPrefixOf s) ∧ Ext w w' :=
 Calls.mono (Tryz.strings_HasPrefix ⟨s.toArray⟩ ⟨p.toArray⟩ w) fun e w' ⟨h1, h2⟩ => ⟨_, h1, by simp [Lib.hasPrefix], by rw [h2]; exact Fr.refl _ _⟩
theorem Fields_spec (s : List UInt8) (w : World) (hs : s.length < 4294967281) (ha : ∀ (j : Nat) b, s[j]? = some b → b.toNat < 128) (ht : Tb w) : Ret Tryz.prog 41 #[str s] w fun v w' =>
  v = .slice (some ⟨w.heap.size, 0, none⟩) (Lib.fields s).length (Lib.fields s).length ∧ w' = w.alloc (cel ((Lib.fields s).map str) 9) :=
 Calls.mono (Tryz.strings_Fields ⟨s.toArray⟩ w hs (by simpa using ha) ht.tab) fun e w' ⟨h1, h2⟩ => ⟨_, h1, by simp, by simpa using h2⟩
end Go.Proofs.YtaniogadknakoaaGreatDoor
end

section
namespace Go.Proofs.YtaniogadknakoaaGreatDoor
open Go.RowKit Go.Sx
open Go.Tok
theorem Fields_signs (x : List UInt8) (hx : x = signsT) (w : World) (ht : Tb w) : Ret Tryz.prog 41 #[str x] w fun v w' =>
  v = .slice (some ⟨w.heap.size, 0, none⟩) 22 22 ∧ w' = w.alloc (cel (signsL.map str) 9) := by
 subst hx
 have := Fields_spec signsT w (by decide) signs_ascii ht
 rw [signs_fields] at this
 exact this
theorem sig_at {k : Nat} (h : k < 22) : (signsL.map str)[0 + k * 1]? = some (str (signsL.getD k [])) := by
 have : k < signsL.length := h
 simp [this]

theorem is_spec (p : Nat) (s so : List UInt8) (q : UInt8 → Bool) (hq : so.contains = q) (j on : Nat) (w : World) (hp : w.heap[p]? = some (cel [str s, .int .i64 (j : Nat)] 139)) (hs : s.length ≤ 10000000) (hj : j ≤ 10000000) (h1 : on ≤ 10) :
  Ret Tryz.prog 149 #[.pointer (some ⟨p, 0, none⟩), str so, .int .i64 (on : Nat)] w (fun v w' => v = .bool (atP q s (j + on)) ∧ Ext w w') := by
 refine enter (S := No) (l := [_, _, _]) (L := []) 35 Tryz.func149 rfl rfl rfl (St.start w No) (yA (aB rfl (yB (zq (c_draw mixed (by kernel_rfl) (mP rfl (zI rfl (zf fa139_1 rfl (zl z3 rfl (fun _ h => cel_oldb hp zm0 id rfl h) (mI rfl (zg (fun _ => R_addi rfl rfl (by omega)) (mP rfl (zI rfl (zf fa139_0 rfl (zl z9 rfl (fun _ h => cel_oldb hp zm0 id rfl h) (zg (fun _ => R_slen st9 rfl (by omega)) (zg (fun _ => R_lt rfl rfl) (mB rfl ?_)))))))))))))))))); refine zd (t := 19) rfl (fun h1 => ?_) (fun h1 => ?_)
 ·refine zw rfl rfl (bT h1) (zm (v := str _) rfl (zw rfl rfl (bT h1) (mP rfl (zw rfl rfl (bT h1) (zI rfl (zw rfl rfl (bT h1) (zf fa139_0 rfl (zw rfl rfl (bT h1) (zl z9 rfl (fun _ h => cel_oldb hp zm0 id rfl h) (zw rfl rfl (bT h1) (mP rfl (zw rfl rfl (bT h1) (zI rfl (zw rfl rfl (bT h1) (zf fa139_1 rfl (zw rfl rfl (bT h1) (zl z3 rfl (fun _ h => cel_oldb hp zm0 id rfl h) (zw rfl rfl (bT h1) (mI rfl (zw rfl rfl (bT h1) (zg (fun _ => R_addi rfl rfl (by omega)) (zw rfl rfl (bT h1) (w_sidx st9 rfl rfl (by omega) (zw rfl rfl (bT h1) (zC (fun w => zR Tryz.func152 rfl rfl rfl) rfl rfl (fun w h => IndexByte_at _ _ w) (zw rfl rfl (bT h1) (zg (fun _ => R_ge rfl rfl) (zg (v := .bool _) (fun _ => zT (bT h1) rfl) (aB rfl (yB (ze (zo (v := .bool _) rfl rfl rfl ?_)))))))))))))))))))))))))))))))); exact fun w' hw => ⟨by subst hq; rw [atP_in (by omega), ← index_contains], hw.fr _ zm0⟩
 ·refine zs rfl rfl (bF h1) (zs rfl rfl (bF h1) (zs rfl rfl (bF h1) (zs rfl rfl (bF h1) (zs rfl rfl (bF h1) (zs rfl rfl (bF h1) (zs rfl rfl (bF h1) (zs rfl rfl (bF h1) (zs rfl rfl (bF h1) (zs rfl rfl (bF h1) (zs rfl rfl (bF h1) (zs rfl rfl (bF h1) (zs rfl rfl (bF h1) (zs rfl rfl (bF h1) (zg (v := .bool _) (fun _ => zF (bF h1) rfl) (aB rfl (yB (ze (zo (v := .bool _) rfl rfl rfl ?_)))))))))))))))))); exact fun w' hw => ⟨by rw [atP_out (by omega)], hw.fr _ zm0⟩

theorem run_spec (p : Nat) (s so : List UInt8) (q : UInt8 → Bool) (hq : so.contains = q) (j : Nat) (w : World) (hp : w.heap[p]? = some (cel [str s, .int .i64 (j : Nat)] 139)) (hs : s.length ≤ 10000000) (hj : j ≤ s.length) :
  Ret Tryz.prog 150 #[.pointer (some ⟨p, 0, none⟩), str so] w (fun v w' => v = .int .i64 (runTo q s j - j : Nat) ∧ Fr (fun i => i = p) w w' ∧ w'.heap[p]? = some (cel [str s, .int .i64 (runTo q s j : Nat)] 139)) := by
 refine enter (S := (fun i => i = p)) (l := [_, _]) (L := [(p, cel [str s, .int .i64 (j : Nat)] 139)]) 26 Tryz.func150 rfl rfl rfl (St.start1 w hp rfl) (yA (aI rfl (yC (mP rfl (zI rfl (zf fa139_1 rfl (zL 0 z3 rfl rfl rfl (aI rfl (yB (zq (zB ?_))))))))))); refine c_loop (fun m e B L => ∃ (k : Nat), e 0 = .pointer (some ⟨p, 0, none⟩) ∧ e 1 = str so ∧ e 5 = .int .i64 (j : Nat) ∧ B = [(w, (fun i => i = p))] ∧ L = [(p, cel [str s, .int .i64 (k : Nat)] 139)] ∧ j ≤ k ∧ k ≤ s.length ∧ runTo q s k = runTo q s j ∧ m = s.length - k) _ ⟨j, rfl, rfl, rfl, rfl, rfl, by omega, by omega, rfl, rfl⟩ ?_
 rintro m e B L ⟨k, e0_1, e1_1, e5_1, rfl, rfl, p0_1, p1_1, p2_1, rfl⟩
 refine zq (yA (mP e0_1 (zm (v := str _) e1_1 (zC (fun w => zR Tryz.func149 rfl rfl rfl) rfl rfl (fun w h => is_spec p s _ _ hq _ 0 w (h.at_ 0 rfl) hs (by omega) (by decide)) (yB ?_))))); refine c_cond rfl (fun h1 => ?_) (fun h1 => ?_)
 ·replace h1 : atP q s k = true := h1; have h2 := atP_lt h1
  refine zi (zk (zB (zr (mP e0_1 (zI rfl (zf fa139_1 rfl (zL 0 z3 rfl rfl rfl (zg (fun _ => R_addi rfl rfl (by omega)) (zI rfl (zf fa139_1 rfl (zV 0 rfl z3 rfl rfl rfl rfl rfl rfl rfl (zn (zO (?_))))))))))))))
  exact k_again _ (by omega) ⟨k + 1, e0_1, e1_1, e5_1, rfl, rfl, by omega, by omega, by rw [← p2_1, runTo_step h1], rfl⟩
 ·refine zX (zx (zx (b_here rfl (zk (yA (mP e0_1 (zI rfl (zf fa139_1 rfl (zL 0 z3 rfl rfl rfl (mI e5_1 (zg (fun _ => R_subi rfl rfl (by omega)) (aI rfl (yB (ze ?_))))))))))))))
  replace h1 : atP q s k = false := h1
  have h2 : runTo q s j = k := by rw [← p2_1, runTo_stop h1]
  rw [h2]
  refine zo (v := .int _ _) rfl rfl rfl ?_; exact fun w' hw => ⟨by congr 1; omega, hw.fr _ zm0, hw.at_ 0 rfl⟩

theorem skip_spec (p : Nat) (s : List UInt8) (j : Nat) (w : World) (hp : w.heap[p]? = some (cel [str s, .int .i64 (j : Nat)] 139)) (hs : s.length ≤ 10000000) (hj : j ≤ s.length) :
  Ret Tryz.prog 128 #[.pointer (some ⟨p, 0, none⟩)] w (fun v w' => v = .tuple #[] ∧ Fr (fun i => i = p) w w' ∧ w'.heap[p]? = some (cel [str s, .int .i64 (skipTo s j : Nat)] 139)) := by
 refine enter (S := (fun i => i = p)) (l := [_]) (L := [(p, cel [str s, .int .i64 (j : Nat)] 139)]) 46 Tryz.func128 rfl rfl rfl (St.start1 w hp rfl) (zB ?_); refine c_loop (fun m e B L => ∃ (k : Nat), e 0 = .pointer (some ⟨p, 0, none⟩) ∧ B = [(w, (fun i => i = p))] ∧ L = [(p, cel [str s, .int .i64 (k : Nat)] 139)] ∧ k ≤ s.length ∧ skipTo s k = skipTo s j ∧ m = s.length - k) _ ⟨j, rfl, rfl, rfl, by omega, rfl, rfl⟩ ?_
 rintro m e B L ⟨k, e0_1, rfl, rfl, p0_1, p1_1, rfl⟩
 have r0 := Lib.indexByte_ge (s.drop (runTo blankB s k)) 10
 have r6 := runTo_le (p := notNl) (runTo_le (p := blankB) p0_1)
 have r7 := index_run s _ (runTo_le (p := blankB) p0_1)
 have r1 := runTo_ge blankB s k
 have r2 := runTo_le (p := blankB) p0_1
 refine zB (yA (mP e0_1 (w_call1 0 rfl (fun w => zR Tryz.func150 rfl rfl rfl) rfl rfl (fun w h => run_spec p s _ _ con_blanks _ w (h.at_ 0 rfl) hs (by omega)) (yB (zq (zq (c_draw mixed (by kernel_rfl) (mP e0_1 (zI rfl (zf fa139_0 rfl (zL 0 z9 rfl rfl rfl (mP e0_1 (zI rfl (zf fa139_1 rfl (zL 0 z3 rfl rfl rfl (zg (fun _ => R_ssl_loN st9 rfl rfl (by omega)) (zC (fun w => zR Tryz.func151 rfl rfl rfl) rfl rfl (fun w h => HasPrefix_spec _ _ w) (zg (fun _ => R_not rfl) (yB ?_)))))))))))))))))))
 refine c_condN rfl (fun h1 => ?_) (fun h1 => ?_)
 ·rw [prefix_cmt] at h1
  refine ze (zt (zb (zt (zb ((r_none (.inl rfl) rfl ?_)))))); exact fun w' hw => ⟨rfl, hw.fr _ zm0, by have := hw.at_ 0 rfl; rw [← p1_1, skipTo_eq p0_1, if_neg (by simp [h1])]; exact this⟩
 ·rw [prefix_cmt] at h1
  refine zi (zk (zq (c_draw mixed (by kernel_rfl) (mP e0_1 (zI rfl (zf fa139_0 rfl (zL 0 z9 rfl rfl rfl (mP e0_1 (zI rfl (zf fa139_1 rfl (zL 0 z3 rfl rfl rfl (zg (fun _ => R_ssl_loN st9 rfl rfl (by omega)) (zC (fun w => zR Tryz.func152 rfl rfl rfl) rfl rfl (fun w h => IndexByte_at _ 10 w) (aI rfl (yB (zq (yA (mI rfl (zg (fun _ => R_lt rfl rfl) (yB ?_)))))))))))))))))))); refine zD rfl (fun h2 => ?_) (fun h2 => ?_)
  ·rw [if_pos h2] at r7
   refine c_draw mixed (by kernel_rfl) (mP e0_1 (zI rfl (zf fa139_0 rfl (zL 0 z9 rfl rfl rfl (zg (fun _ => R_slen st9 rfl (by omega)) (mP e0_1 (zI rfl (zf fa139_1 rfl (zL 0 z3 rfl rfl rfl (zg (fun _ => R_subi rfl rfl (by omega)) (aI rfl (yB (zr (mP e0_1 (zI rfl (zf fa139_1 rfl (zL 0 z3 rfl rfl rfl (mI rfl (zg (fun _ => R_addi rfl rfl (by omega)) (zI rfl (zf fa139_1 rfl (zV 0 rfl z3 rfl rfl rfl rfl rfl rfl rfl (zn (zO (?_)))))))))))))))))))))))))
   have r3 := cmt_run h1
   have r4 := r7
   exact k_again _ (by omega) ⟨s.length, (by assumption), (by rfl), congrArg (fun x : Int => [(p, cel [str s, .int .i64 x] 139)]) (by omega), by omega, by rw [← p1_1, skipTo_eq p0_1, if_pos h1, r4], rfl⟩
  ·rw [if_neg h2] at r7
   refine zi (zk (zr (mP e0_1 (zI rfl (zf fa139_1 rfl (zL 0 z3 rfl rfl rfl (mI rfl (zg (fun _ => R_addi rfl rfl (by omega)) (zI rfl (zf fa139_1 rfl (zV 0 rfl z3 rfl rfl rfl rfl rfl rfl rfl (zn (zO (?_))))))))))))))
   have r3 := cmt_run h1
   have r4 := r7
   exact k_again _ (by omega) ⟨runTo notNl s (runTo blankB s k), (by assumption), (by rfl), congrArg (fun x : Int => [(p, cel [str s, .int .i64 x] 139)]) (by omega), by omega, by rw [← p1_1, skipTo_eq p0_1, if_pos h1], rfl⟩

theorem name_spec (p : Nat) (s : List UInt8) (j : Nat) (w : World) (hp : w.heap[p]? = some (cel [str s, .int .i64 (j : Nat)] 139)) (hs : s.length ≤ 10000000) (hj : j ≤ s.length) :
  Ret Tryz.prog 125 #[.pointer (some ⟨p, 0, none⟩)] w (fun v w' => v = .tuple #[.int .u8 (if nameB s j then 1 else 0), .bool (nameB s j)] ∧ Fr (fun i => i = p) w w' ∧ w'.heap[p]? = some (cel [str s, .int .i64 (if nameB s j then runTo wordB s j else j : Nat)] 139)) := by
 refine enter (S := (fun i => i = p)) (l := [_]) (L := [(p, cel [str s, .int .i64 (j : Nat)] 139)]) 13 Tryz.func125 rfl rfl rfl (St.start1 w hp rfl) (yA (aI rfl (aB rfl (yB (zq (yA (mP rfl (zC (fun w => zR Tryz.func149 rfl rfl rfl) rfl rfl (fun w h => is_spec p s _ _ (con_one 95) _ 0 w (h.at_ 0 rfl) hs (by omega) (by decide)) (mB rfl ?_))))))))); refine zp (t := 6) rfl (fun h1 => ?_) (fun h1 => ?_)
 ·refine zs rfl rfl (bV h1) (zs rfl rfl (bV h1) (zs rfl rfl (bV h1) (zg (v := .bool _) (fun _ => zT (bV h1) rfl) (yB (zE rfl (yA (aI rfl (aB rfl (yB (ze (zt (?_))))))))))))
  have h0 : nameB s j = false := by simp only [nameB]; rw [show atP (eqB 95) s j = true from h1]; simp
  rw [h0]
  refine r_two (v := .int _ _) (v2 := .bool _) rfl rfl rfl rfl rfl ?_; exact fun w' hw => ⟨rfl, hw.fr _ zm0, hw.at_ 0 rfl⟩
 ·refine zw rfl rfl (bV h1) (mP rfl (zw rfl rfl (bV h1) (zC (fun w => zR Tryz.func149 rfl rfl rfl) rfl rfl (fun w h => is_spec p s _ _ con_letters _ 0 w (h.at_ 0 rfl) hs (by omega) (by decide)) (zw rfl rfl (bV h1) (zg (fun _ => R_not rfl) (zg (v := .bool _) (fun _ => zF (bV h1) rfl) (yB ?_))))))); refine c_condN rfl (fun h2 => ?_) (fun h2 => ?_)
  ·refine yA (aI rfl (aB rfl (yB (ze (zt (?_))))))
   have h0 : nameB s j = false := by simp only [nameB]; rw [show atP letterB s j = false from h2]; rfl
   rw [h0]
   refine r_two (v := .int _ _) (v2 := .bool _) rfl rfl rfl rfl rfl ?_; exact fun w' hw => ⟨rfl, hw.fr _ zm0, hw.at_ 0 rfl⟩
  ·refine zi (zk (yA (mP rfl (w_call1 0 rfl (fun w => zR Tryz.func150 rfl rfl rfl) rfl rfl (fun w h => run_spec p s _ _ con_words _ w (h.at_ 0 rfl) hs (by omega)) (yC (aI rfl (aB rfl (yB (ze ?_)))))))))
   have h0 : nameB s j = true := by simp only [nameB]; rw [show atP (eqB 95) s j = false from h1, show atP letterB s j = true from h2]; rfl
   rw [h0]
   refine r_two (v := .int _ _) (v2 := .bool _) rfl rfl rfl rfl rfl ?_; exact fun w' hw => ⟨rfl, hw.fr _ zm0, hw.at_ 0 rfl⟩

theorem number_spec (p : Nat) (s : List UInt8) (j : Nat) (w : World) (hp : w.heap[p]? = some (cel [str s, .int .i64 (j : Nat)] 139)) (hs : s.length ≤ 10000000) (hj : j ≤ s.length) :
  Ret Tryz.prog 126 #[.pointer (some ⟨p, 0, none⟩)] w (fun v w' => v = .tuple #[.int .u8 (if atP digitB s j then 2 else 0), .bool (if atP digitB s j then numFine s j else false)] ∧ Fr (fun i => i = p) w w' ∧ w'.heap[p]? = some (cel [str s, .int .i64 (if atP digitB s j then numEnd s j else j : Nat)] 139)) := by
 have g1 := runTo_le (p := digitB) hj
 have g2 := runTo_ge digitB s j
 refine enter (S := (fun i => i = p)) (l := [_]) (L := [(p, cel [str s, .int .i64 (j : Nat)] 139)]) 66 Tryz.func126 rfl rfl rfl (St.start1 w hp rfl) (yA (aI rfl (aB rfl (yB (zq (yA (mP rfl (w_call1 0 rfl (fun w => zR Tryz.func150 rfl rfl rfl) rfl rfl (fun w h => run_spec p s _ _ con_digits _ w (h.at_ 0 rfl) hs (by omega)) (zg (fun _ => R_eq rfl rfl) (yB ?_)))))))))); refine zD rfl (fun h1 => ?_) (fun h1 => ?_)
 ·(try simp only [Nat.add_zero] at h1); (try have qh1 := atP_lt h1)
  have g0 := run_zero digitB s j
  refine yA (aI rfl (aB rfl (yB (ze (zt (?_))))))
  have g5 : atP digitB s j = false := by rw [← g0]; omega
  rw [g5]
  refine r_two (v := .int _ _) (v2 := .bool _) rfl rfl rfl rfl rfl ?_; exact fun w' hw => ⟨rfl, hw.fr _ zm0, by have := hw.at_ 0 rfl; rw [runTo_stop g5] at this; exact this⟩
 ·(try simp only [Nat.add_zero] at h1)
  have g0 := run_zero digitB s j
  refine zi (zk ?_); refine c_cut (fun e B L => e 0 = .pointer (some ⟨p, 0, none⟩) ∧ B = [(w, (fun i => i = p))] ∧ L = [(p, cel [str s, .int .i64 (numDot s (runTo digitB s j) : Nat)] 139)]) ?_ ?_
  ·(try simp only [Nat.add_zero] at mid1); (try have qmid1 := atP_lt mid1)
   refine yA (mP rfl (zC (fun w => zR Tryz.func149 rfl rfl rfl) rfl rfl (fun w h => is_spec p s _ _ (con_one 46) _ 0 w (h.at_ 0 rfl) hs (by omega) (by decide)) (mB rfl ?_))); refine zp (t := 10) rfl (fun h2 => ?_) (fun h2 => ?_)
   ·(try simp only [Nat.add_zero] at h2); (try have qh2 := atP_lt h2)
    refine zw rfl rfl (bV h2) (mP rfl (zw rfl rfl (bV h2) (zC (fun w => zR Tryz.func149 rfl rfl rfl) rfl rfl (fun w h => is_spec p s _ _ con_digits _ 1 w (h.at_ 0 rfl) hs (by omega) (by decide)) (zg (v := .bool _) (fun _ => zT (bV h2) rfl) (yB ?_))))); refine c_cond rfl (fun h3 => ?_) (fun h3 => ?_)
    ·(try simp only [Nat.add_zero] at h3); (try have qh3 := atP_lt h3)
     refine yA (mP rfl (zI rfl (zf fa139_1 rfl (zL 0 z3 rfl rfl rfl (zg (fun _ => R_addi rfl rfl (by omega)) (zI rfl (zf fa139_1 rfl (zV 0 rfl z3 rfl rfl rfl rfl rfl rfl rfl (yB (zr (mP rfl (w_call1 0 rfl (fun w => zR Tryz.func150 rfl rfl rfl) rfl rfl (fun w h => run_spec p s _ _ con_digits ((runTo digitB s j) + 1) w (h.at_ 0 rfl) hs (by omega)) (zn ?_))))))))))))); exact k_mid ⟨rfl, rfl, by rw [numDot, if_pos (by rw [h2, h3]; rfl)]; rfl⟩
    ·(try simp only [Nat.add_zero] at h3)
     refine zi ?_; exact k_mid ⟨rfl, rfl, by rw [numDot, if_neg (by rw [h2, h3]; simp)]; rfl⟩
   ·(try simp only [Nat.add_zero] at h2)
    refine zs rfl rfl (bV h2) (zs rfl rfl (bV h2) (zg (v := .bool _) (fun _ => zF (bV h2) rfl) (yB (zG rfl (zi ?_))))); exact k_mid ⟨rfl, rfl, by rw [numDot, if_neg (by rw [h2]; simp)]; rfl⟩
  rintro e B L ⟨e0_1, rfl, rfl⟩
  have g3 := numDot_le (runTo_le (p := digitB) hj)
  refine yA (aI rfl (yB ?_)); refine c_cut (fun e B L => e 0 = .pointer (some ⟨p, 0, none⟩) ∧ e 4 = .int .i64 ((numTens s (numDot s (runTo digitB s j))).1 : Nat) ∧ B = [(w, (fun i => i = p))] ∧ L = [(p, cel [str s, .int .i64 ((numTens s (numDot s (runTo digitB s j))).2 : Nat)] 139)]) ?_ ?_
  ·(try simp only [Nat.add_zero] at mid2); (try have qmid2 := atP_lt mid2)
   refine zB (yA (mP e0_1 (zC (fun w => zR Tryz.func149 rfl rfl rfl) rfl rfl (fun w h => is_spec p s _ _ (con_one 101) _ 0 w (h.at_ 0 rfl) hs (by omega) (by decide)) (mB rfl ?_)))); refine zp (t := 26) rfl (fun h4 => ?_) (fun h4 => ?_)
   ·(try simp only [Nat.add_zero] at h4); (try have qh4 := atP_lt h4)
    refine zw rfl rfl (bV h4) (mP e0_1 (zw rfl rfl (bV h4) (zC (fun w => zR Tryz.func149 rfl rfl rfl) rfl rfl (fun w h => is_spec p s _ _ con_digits _ 1 w (h.at_ 0 rfl) hs (by omega) (by decide)) (zg (v := .bool _) (fun _ => zT (bV h4) rfl) (aB rfl (yB ?_)))))); refine c_cond rfl (fun h5 => ?_) (fun h5 => ?_)
    ·(try simp only [Nat.add_zero] at h5); (try have qh5 := atP_lt h5)
     refine yA (mP e0_1 (zI rfl (zf fa139_1 rfl (zL 0 z3 rfl rfl rfl (zg (fun _ => R_addi rfl rfl (by omega)) (zI rfl (zf fa139_1 rfl (zV 0 rfl z3 rfl rfl rfl rfl rfl rfl rfl (yB (zr (mP e0_1 (w_call1 0 rfl (fun w => zR Tryz.func150 rfl rfl rfl) rfl rfl (fun w h => run_spec p s _ _ con_digits ((numDot s (runTo digitB s j)) + 1) w (h.at_ 0 rfl) hs (by omega)) (aI rfl (zn (zO (?_))))))))))))))))
     have e4 : numTens s (numDot s (runTo digitB s j)) = (runTo digitB s ((numDot s (runTo digitB s j)) + 1) - ((numDot s (runTo digitB s j)) + 1), runTo digitB s ((numDot s (runTo digitB s j)) + 1)) := by rw [numTens, if_pos (by rw [h4, h5]; rfl)]
     exact k_mid ⟨e0_1, by rw [e4]; rfl, rfl, by rw [e4]; rfl⟩
    ·(try simp only [Nat.add_zero] at h5)
     refine yA (mP e0_1 (zC (fun w => zR Tryz.func149 rfl rfl rfl) rfl rfl (fun w h => is_spec p s _ _ (con_one 101) _ 0 w (h.at_ 0 rfl) hs (by omega) (by decide)) (mB rfl ?_))); refine zp (t := 42) rfl (fun h6 => ?_) (fun h6 => ?_)
     ·(try simp only [Nat.add_zero] at h6); (try have qh6 := atP_lt h6)
      refine zw rfl rfl (bV h6) (mP e0_1 (zw rfl rfl (bV h6) (zC (fun w => zR Tryz.func149 rfl rfl rfl) rfl rfl (fun w h => is_spec p s _ _ con_pm _ 1 w (h.at_ 0 rfl) hs (by omega) (by decide)) (zg (v := .bool _) (fun _ => zT (bV h6) rfl) (mB rfl ?_))))); refine zp (t := 46) rfl (fun h7 => ?_) (fun h7 => ?_)
      ·(try simp only [Nat.add_zero] at h7); (try have qh7 := atP_lt h7)
       refine zw rfl rfl (bV h7) (mP e0_1 (zw rfl rfl (bV h7) (zC (fun w => zR Tryz.func149 rfl rfl rfl) rfl rfl (fun w h => is_spec p s _ _ con_digits _ 2 w (h.at_ 0 rfl) hs (by omega) (by decide)) (zg (v := .bool _) (fun _ => zT (bV h7) rfl) (aB rfl (yB ?_)))))); refine c_cond rfl (fun h8 => ?_) (fun h8 => ?_)
       ·(try simp only [Nat.add_zero] at h8); (try have qh8 := atP_lt h8)
        refine yA (mP e0_1 (zI rfl (zf fa139_1 rfl (zL 0 z3 rfl rfl rfl (zg (fun _ => R_addi rfl rfl (by omega)) (zI rfl (zf fa139_1 rfl (zV 0 rfl z3 rfl rfl rfl rfl rfl rfl rfl (yB (zr (mP e0_1 (w_call1 0 rfl (fun w => zR Tryz.func150 rfl rfl rfl) rfl rfl (fun w h => run_spec p s _ _ con_digits ((numDot s (runTo digitB s j)) + 2) w (h.at_ 0 rfl) hs (by omega)) (aI rfl (zn (zO (?_))))))))))))))))
        have e4 : numTens s (numDot s (runTo digitB s j)) = (runTo digitB s ((numDot s (runTo digitB s j)) + 2) - ((numDot s (runTo digitB s j)) + 2), runTo digitB s ((numDot s (runTo digitB s j)) + 2)) := by rw [numTens, if_neg (by rw [h4, h5]; simp), if_pos (by rw [h6, h7, h8]; rfl)]
        exact k_mid ⟨e0_1, by rw [e4]; rfl, rfl, by rw [e4]; rfl⟩
       ·(try simp only [Nat.add_zero] at h8)
        refine zi (zO (?_))
        have e4 : numTens s (numDot s (runTo digitB s j)) = (0, (numDot s (runTo digitB s j))) := by rw [numTens, if_neg (by rw [h4, h5]; simp), if_neg (by rw [h6, h7, h8]; simp)]
        exact k_mid ⟨e0_1, by rw [e4]; rfl, rfl, by rw [e4]; done⟩
      ·(try simp only [Nat.add_zero] at h7)
       refine zs rfl rfl (bV h7) (zs rfl rfl (bV h7) (zg (v := .bool _) (fun _ => zF (bV h7) rfl) (aB rfl (yB (zG rfl (zi (zO (?_))))))))
       have e4 : numTens s (numDot s (runTo digitB s j)) = (0, (numDot s (runTo digitB s j))) := by rw [numTens, if_neg (by rw [h4, h5]; simp), if_neg (by rw [h6, h7]; simp)]
       exact k_mid ⟨e0_1, by rw [e4]; rfl, rfl, by rw [e4]; done⟩
     ·(try simp only [Nat.add_zero] at h6)
      refine zs rfl rfl (bV h6) (zs rfl rfl (bV h6) (zg (v := .bool _) (fun _ => zF (bV h6) rfl) (mB rfl ?_))); (iterate 2 refine zs rfl rfl rfl ?_); refine zg (v := .bool _) (fun _ => zF rfl rfl) (aB rfl (yB (zG rfl (zi (zO (?_))))))
      have e4 : numTens s (numDot s (runTo digitB s j)) = (0, (numDot s (runTo digitB s j))) := by rw [numTens, if_neg (by rw [h4, h5]; simp), if_neg (by rw [h6]; simp)]
      exact k_mid ⟨e0_1, by rw [e4]; rfl, rfl, by rw [e4]; done⟩
   ·(try simp only [Nat.add_zero] at h4)
    refine zs rfl rfl (bV h4) (zs rfl rfl (bV h4) (zg (v := .bool _) (fun _ => zF (bV h4) rfl) (aB rfl (yB (zG rfl (yA (mP e0_1 (zC (fun w => zR Tryz.func149 rfl rfl rfl) rfl rfl (fun w h => is_spec p s _ _ (con_one 101) _ 0 w (h.at_ 0 rfl) hs (by omega) (by decide)) (mB rfl ?_))))))))); refine zp (t := 42) rfl (fun h9 => ?_) (fun h9 => ?_)
    ·rw [Nat.add_zero] at h9; rw [h4] at h9; cases h9
    ·(try simp only [Nat.add_zero] at h9)
     refine zs rfl rfl (bV h9) (zs rfl rfl (bV h9) (zg (v := .bool _) (fun _ => zF (bV h9) rfl) (mB rfl ?_))); (iterate 2 refine zs rfl rfl rfl ?_); refine zg (v := .bool _) (fun _ => zF rfl rfl) (aB rfl (yB (zG rfl (zi (zO (?_))))))
     have e4 : numTens s (numDot s (runTo digitB s j)) = (0, (numDot s (runTo digitB s j))) := by rw [numTens, if_neg (by rw [h4]; simp), if_neg (by rw [h4]; simp)]
     exact k_mid ⟨e0_1, by rw [e4]; rfl, rfl, by rw [e4]; done⟩
  rintro e B L ⟨e0_2, e4_2, rfl, rfl⟩
  have g4 := numTens_le g3.1
  refine yA (mI e4_2 (zg (fun _ => R_le rfl rfl) (mB rfl ?_))); refine zd (t := 61) rfl (fun h10 => ?_) (fun h10 => ?_)
  ·(try simp only [Nat.add_zero] at h10); (try have qh10 := atP_lt h10)
   refine zw rfl rfl (bT h10) (mP e0_2 (zw rfl rfl (bT h10) (zC (fun w => zR Tryz.func149 rfl rfl rfl) rfl rfl (fun w h => is_spec p s _ _ con_tails _ 0 w (h.at_ 0 rfl) hs (by omega) (by decide)) (zw rfl rfl (bT h10) (zg (fun _ => R_not rfl) (zg (v := .bool _) (fun _ => zT (bT h10) rfl) (aI rfl (aB rfl (yB (ze ?_))))))))))
   have g5 : atP digitB s j = true := by cases hc : atP digitB s j; exact absurd (g0.mpr hc) (by omega); rfl
   have g6 : numFine s j = !atP tailB s (numEnd s j) := by rw [numFine, decide_eq_true (by omega)]; rfl
   rw [g5, if_pos rfl, if_pos rfl, if_pos rfl, g6]
   refine r_two (v := .int _ _) (v2 := .bool _) rfl rfl rfl rfl rfl ?_; exact fun w' hw => ⟨rfl, hw.fr _ zm0, hw.at_ 0 rfl⟩
  ·(try simp only [Nat.add_zero] at h10)
   refine zs rfl rfl (bF h10) (zs rfl rfl (bF h10) (zs rfl rfl (bF h10) (zg (v := .bool _) (fun _ => zF (bF h10) rfl) (aI rfl (aB rfl (yB (ze ?_)))))))
   have g5 : atP digitB s j = true := by cases hc : atP digitB s j; exact absurd (g0.mpr hc) (by omega); rfl
   have g6 : numFine s j = false := by rw [numFine, decide_eq_false (by omega)]; rfl
   rw [g5, if_pos rfl, if_pos rfl, if_pos rfl, g6]
   refine r_two (v := .int _ _) (v2 := .bool _) rfl rfl rfl rfl rfl ?_; exact fun w' hw => ⟨rfl, hw.fr _ zm0, hw.at_ 0 rfl⟩

theorem sign_spec (p : Nat) (s : List UInt8) (j : Nat) (w : World) (hp : w.heap[p]? = some (cel [str s, .int .i64 (j : Nat)] 139)) (hs : s.length ≤ 10000000) (hj : j ≤ s.length) (ht : Tb w) (hg : 0 < p) :
  Ret Tryz.prog 127 #[.pointer (some ⟨p, 0, none⟩)] w (fun v w' => v = .tuple #[.int .u8 (if signLen s j = 0 then 0 else 3), .bool (!decide (signLen s j = 0))] ∧ Fr (fun i => i = p) w w' ∧ w'.heap[p]? = some (cel [str s, .int .i64 (j + signLen s j : Nat)] 139)) := by
 refine enter (S := (fun i => i = p)) (l := [_]) (L := [(p, cel [str s, .int .i64 (j : Nat)] 139)]) 33 Tryz.func127 rfl rfl rfl (St.start1 w hp rfl) (yA (aI rfl (aB rfl (yB (zq (yA (w_callN (g := fun b => .slice (some ⟨b, 0, none⟩) 22 22) (fun w => zR Tryz.func41 rfl rfl rfl) rfl rfl (fun w h => Fields_signs _ rfl w (ht.fr (h.fr _ zm0) (by intro hh; omega))) (fun fb gfb ufb => zg (fun _ => R_len sl56 rfl) (mI rfl (yB (zB ?_))))))))))); refine c_loop (fun m e B L => ∃ (k : Nat), e 0 = .pointer (some ⟨p, 0, none⟩) ∧ e 6 = .slice (some ⟨fb, 0, none⟩) 22 22 ∧ e 7 = .int .i64 22 ∧ e 8 = .int .i64 (k : Nat) ∧ B = [(w, (fun i => i = p))] ∧ L = [(fb, cel (signsL.map str) 9), (p, cel [str s, .int .i64 (j : Nat)] 139)] ∧ k ≤ 22 ∧ (signsL.take k).find? (fun t => t.isPrefixOf (s.drop j)) = none ∧ m = 22 - k) _ ⟨0, rfl, rfl, rfl, rfl, rfl, rfl, by omega, rfl, rfl⟩ ?_
 rintro m e B L ⟨k, e0_1, e6_1, e7_1, e8_1, rfl, rfl, p0_1, p1_1, rfl⟩
 have r1 := sig_len k
 refine yA (zg (fun _ => R_lt e8_1 e7_1) (yB (zq ?_))); refine zD rfl (fun h1 => ?_) (fun h1 => ?_)
 ·refine zi (zk (zq (zB (yA (zg (fun _ => R_iaN (i := k) sl56 e6_1 e8_1 (by omega)) ?_))))); refine zl z9 rfl (fun _ h => by exact zc 0 rfl (sig_at (by omega)) h) ?_; refine za (v := str _) rfl (yB (zq (c_draw mixed (by kernel_rfl) (mP e0_1 (zI rfl (zf fa139_0 rfl (zL 1 z9 rfl rfl rfl (mP e0_1 (zI rfl (zf fa139_1 rfl (zL 1 z3 rfl rfl rfl (zg (fun _ => R_ssl_loN st9 rfl rfl (by omega)) (zm (v := str _) rfl (zC (fun w => zR Tryz.func151 rfl rfl rfl) rfl rfl (fun w h => HasPrefix_spec _ _ w) ?_))))))))))))))
  refine yB ?_; refine c_cond rfl (fun h2 => ?_) (fun h2 => ?_)
  ·refine yA (mP e0_1 (zI rfl (zf fa139_1 rfl (zL 1 z3 rfl rfl rfl (zm (v := str _) rfl (zg (fun _ => R_slen st9 rfl (by omega)) (zg (fun _ => R_addi rfl rfl (by omega)) (zI rfl (zf fa139_1 rfl (zV 1 rfl z3 rfl rfl rfl rfl rfl rfl rfl (yC (aI rfl (aB rfl (yB (ze (zb (zt (zt (zb (zt (?_)))))))))))))))))))))
   have r2 := sig_found (by omega) p1_1 h2
   rw [r2]
   refine r_two (v := .int _ _) (v2 := .bool _) rfl rfl rfl rfl rfl ?_; exact fun w' hw => ⟨by rw [if_neg (by have := sig_pos k (by omega); omega), decide_eq_false (by have := sig_pos k (by omega); omega)]; rfl, hw.fr _ zm0, hw.at_ 1 rfl⟩
  ·refine zi (zO (zk (zr (zg (fun _ => R_addi e8_1 rfl (by omega)) (mI rfl (zn ?_)))))); exact k_again _ (by omega) ⟨k + 1, e0_1, e6_1, e7_1, rfl, rfl, rfl, by omega, sig_step (by omega) p1_1 h2, rfl⟩
 ·refine zX (zx (zx (b_here rfl (zk (yA (aI rfl (aB rfl (yB (ze ?_)))))))))
  have r2 := sig_none (by omega) p1_1
  rw [r2]
  refine r_two (v := .int _ _) (v2 := .bool _) rfl rfl rfl rfl rfl ?_; exact fun w' hw => ⟨rfl, hw.fr _ zm0, hw.at_ 1 rfl⟩
end Go.Proofs.YtaniogadknakoaaGreatDoor
end

section
namespace Go.Proofs.YtaniogadknakoaaGreatDoor
open Go.RowKit Go.Sx
open Go.Tok
variable {σ : Type}
def Rounds (J : Bool → σ → Heap → Prop) (nx : σ → Nat → List UInt8 → Nat → Bool → σ × Bool) (l : Nat) : Prop :=
 ∀ (x : σ) (k : Nat) (t : List UInt8) (a : Nat) (b : Bool) (Lc Lr : Heap) (B : Base) (w : World), t.length ≤ 10000000 → J true x Lc → St B (Lc ++ Lr) w →
  YieldAt (fw none) 0 Tryz.prog l #[.agg #[.int .u8 (k : Nat), str t, .int .i64 (a : Nat)], .bool b] w (fun en w' => ∃ v, en = .returned v ∧ ∃ Lc', v = .bool (nx x k t a b).2 ∧ J (nx x k t a b).2 (nx x k t a b).1 Lc' ∧ St B (Lc' ++ Lr) w')

theorem all1_spec (J : Bool → σ → Heap → Prop) (nx : σ → Nat → List UInt8 → Nat → Bool → σ × Bool) (hn : ∀ x k t a, (nx x k t a false).2 = false) (l p vb : Nat) (s : List UInt8) (hs : s.length ≤ 10000000) (hy : Rounds J nx l) (wb : World) (Sb : Nat → Prop) (ht : Tb wb) (hgl : ¬ Sb 0) (hg : 0 < p) (x0 : σ) (Lc0 Lr : Heap) (Bs : Base) (hB : (wb, Sb) ∈ Bs) (hJ0 : J true x0 Lc0) (w : World) (hw : St Bs ((vb, cel [.pointer (some ⟨p, 0, none⟩)] 137) :: (p, cel [str s, .int .i64 (0 : Nat)] 139) :: (Lc0 ++ Lr)) w) :
  Ret Tryz.prog 124 #[.func (.yield l) #[] #[], .pointer (some ⟨vb, 0, none⟩)] w (fun v w' => v = .tuple #[] ∧ ∃ (j : Nat) (g : Bool) (Lc' : Heap), J g (lexS nx s (skipTo s 0) x0) Lc' ∧ St Bs ((vb, cel [.pointer (some ⟨p, 0, none⟩)] 137) :: (p, cel [str s, .int .i64 (j : Nat)] 139) :: (Lc' ++ Lr)) w') := by
 have g0 := skipTo_le (s := s) (Nat.zero_le _)
 refine enterB (l := [_, _]) 67 Tryz.func124 rfl rfl rfl (hw) (yA (zg (fun _ => R_buildA ar162 zr162 rfl) (zA zr162 (fun b1 gb1 ub1 => zV 0 rfl z162 rfl rfl rfl rfl rfl rfl rfl (yC (zL 1 z137 rfl rfl rfl (w_call1 2 rfl (fun w => zR Tryz.func128 rfl rfl rfl) rfl rfl (fun w h => skip_spec p s _ w (h.at_ 2 rfl) hs (Nat.zero_le _)) (yB (zB (c_loop (fun m e B L => ∃ (k : Nat) (x : σ) (Lc : Heap), e 0 = .func (.yield l) #[] #[] ∧ e 1 = .pointer (some ⟨vb, 0, none⟩) ∧ e 3 = .pointer (some ⟨b1, 0, none⟩) ∧ Bs = B ∧ L = (b1, cel [.func (.func 125) #[] #[], .func (.func 126) #[] #[], .func (.func 127) #[] #[]] 162) :: (vb, cel [.pointer (some ⟨p, 0, none⟩)] 137) :: (p, cel [str s, .int .i64 (k : Nat)] 139) :: (Lc ++ Lr) ∧ k ≤ s.length ∧ J true x Lc ∧ lexS nx s k x = lexS nx s (skipTo s 0) x0 ∧ m = s.length - k) _ ⟨skipTo s 0, x0, Lc0, rfl, rfl, rfl, rfl, rfl, g0.1, hJ0, rfl, rfl⟩ ?_))))))))))
 rintro m e B L ⟨k, x, Lc, e0_1, e1_1, e3_1, rfl, rfl, hk, hJ, hl, rfl⟩
 have g2 := tok_le hk
 refine zq (zq (c_draw mixed (by kernel_rfl) (zL 1 z137 e1_1 rfl rfl (zI rfl (zf fa139_1 rfl (zL 2 z3 rfl rfl rfl (zL 1 z137 e1_1 rfl rfl (zI rfl (zf fa139_0 rfl (zL 2 z9 rfl rfl rfl (zg (fun _ => R_slen st9 rfl (by omega)) (zg (fun _ => R_lt rfl rfl) (yB ?_))))))))))))); refine zD rfl (fun h2 => ?_) (fun h2 => ?_)
 ·have hlt : k < s.length := by omega
  refine zi (zk (zq (zB (yA (zL 1 z137 e1_1 rfl rfl (zI rfl (zf fa139_1 rfl (zL 2 z3 rfl rfl rfl (zg (fun _ => R_build bt58 rfl) (zA zr58 (fun t4b gt4b ut4b => zV 0 rfl z58 rfl rfl rfl rfl rfl rfl rfl (yC (aB rfl (yB ?_)))))))))))))); refine c_cut (fun e B L => e 0 = .func (.yield l) #[] #[] ∧ e 1 = .pointer (some ⟨vb, 0, none⟩) ∧ e 3 = .pointer (some ⟨b1, 0, none⟩) ∧ e 4 = .pointer (some ⟨t4b, 0, none⟩) ∧ e 5 = .bool (tokAt s k).2.2 ∧ Bs = B ∧ L = (t4b, cel [.int .u8 ((tokAt s k).1 : Nat), str ([]), .int .i64 (k : Nat)] 58) :: (b1, cel [.func (.func 125) #[] #[], .func (.func 126) #[] #[], .func (.func 127) #[] #[]] 162) :: (vb, cel [.pointer (some ⟨p, 0, none⟩)] 137) :: (p, cel [str s, .int .i64 ((tokAt s k).2.1 : Nat)] 139) :: (Lc ++ Lr)) ?_ ?_
  ·refine yA (zY z162 e3_1 (fun _ h => h.at_ 1 rfl) rfl (mI rfl (yB (zB (c_rounds 4 (yA (zg (fun _ => R_lt rfl rfl) (yB (zq (zE (congrArg Value.bool (decide_eq_true (by decide))) (zi (zk (zq (zB (yA (zg (fun _ => R_aidx (i := 0) ar162 rfl rfl rfl rfl) (za rfl (yC (zm rfl (zL 2 z137 e1_1 rfl rfl ?_))))))))))))))))))))
   cases hN : nameB s k
   ·refine w_call1 3 rfl (fun w => R_callv rfl Tryz.func125 rfl rfl) rfl rfl (fun w h => by have hh := name_spec p s _ w (h.at_ 3 rfl) hs (by omega); simp only [hN, Bool.false_eq_true, if_false, if_true, ↓reduceIte, decide_true, decide_false, Bool.not_true, Bool.not_false, Nat.add_zero] at hh; exact hh) ?_; refine zm rfl (zg (fun _ => R_extract rfl rfl) (zg (fun _ => R_extract rfl rfl) (zf fa58_0 rfl (zV 0 rfl z5 rfl rfl rfl rfl rfl rfl rfl (aB rfl (yB (zq (c_draw mixed (by kernel_rfl) (mB rfl (mB rfl (zw rfl rfl rfl (zL 2 z137 e1_1 rfl rfl (zw rfl rfl rfl (zI rfl ?_))))))))))))))
    refine zw rfl rfl rfl (zf fa139_1 rfl (zw rfl rfl rfl (zL 3 z3 rfl rfl rfl (zw rfl rfl rfl (zf fa58_2 rfl (zw rfl rfl rfl (zL 0 z3 rfl rfl rfl (zw rfl rfl rfl (zg (fun _ => R_gt rfl rfl) (zg (v := .bool _) (fun _ => zF rfl rfl) (yB ?_))))))))))); refine zD rfl (fun h4 => ?_) (fun h4 => ?_)
    ·omega
    ·refine zi (zO (zk (zr (zg (fun _ => R_addi rfl rfl (by omega)) (mI rfl (zn (k_rounds (yA (zg (fun _ => R_lt rfl rfl) (yB (zq (zE (congrArg Value.bool (decide_eq_true (by decide))) (zi (zk (zq (zB (yA (zg (fun _ => R_aidx (i := 1) ar162 rfl rfl rfl rfl) (za rfl (yC (zm rfl (zL 2 z137 e1_1 rfl rfl ?_))))))))))))))))))))))
     cases hD : atP digitB s k
     ·refine w_call1 3 rfl (fun w => R_callv rfl Tryz.func126 rfl rfl) rfl rfl (fun w h => by have hh := number_spec p s _ w (h.at_ 3 rfl) hs (by omega); simp only [hD, Bool.false_eq_true, if_false, if_true, ↓reduceIte, decide_true, decide_false, Bool.not_true, Bool.not_false, Nat.add_zero] at hh; exact hh) ?_; refine zm rfl (zg (fun _ => R_extract rfl rfl) (zg (fun _ => R_extract rfl rfl) (zf fa58_0 rfl (zV 0 rfl z5 rfl rfl rfl rfl rfl rfl rfl (aB rfl (yB (zq (c_draw mixed (by kernel_rfl) (mB rfl (mB rfl (zw rfl rfl rfl (zL 2 z137 e1_1 rfl rfl (zw rfl rfl rfl (zI rfl ?_))))))))))))))
      refine zw rfl rfl rfl (zf fa139_1 rfl (zw rfl rfl rfl (zL 3 z3 rfl rfl rfl (zw rfl rfl rfl (zf fa58_2 rfl (zw rfl rfl rfl (zL 0 z3 rfl rfl rfl (zw rfl rfl rfl (zg (fun _ => R_gt rfl rfl) (zg (v := .bool _) (fun _ => zF rfl rfl) (yB ?_))))))))))); refine zD rfl (fun h5 => ?_) (fun h5 => ?_)
      ·omega
      ·refine zi (zO (zk (zr (zg (fun _ => R_addi rfl rfl (by omega)) (mI rfl (zn (k_rounds (yA (zg (fun _ => R_lt rfl rfl) (yB (zq (zE (congrArg Value.bool (decide_eq_true (by decide))) (zi (zk (zq (zB (yA (zg (fun _ => R_aidx (i := 2) ar162 rfl rfl rfl rfl) (za rfl (yC (zm rfl (zL 2 z137 e1_1 rfl rfl ?_))))))))))))))))))))))
       rcases Classical.em (signLen s k = 0) with hS | hS
       ·refine w_call1 3 rfl (fun w => R_callv rfl Tryz.func127 rfl rfl) rfl rfl (fun w h => by have hh := sign_spec p s _ w (h.at_ 3 rfl) hs (by omega) (ht.fr (h.fr _ hB) hgl) hg; simp only [hS, Bool.false_eq_true, if_false, if_true, ↓reduceIte, decide_true, decide_false, Bool.not_true, Bool.not_false, Nat.add_zero] at hh; exact hh) ?_; refine zm rfl (zg (fun _ => R_extract rfl rfl) (zg (fun _ => R_extract rfl rfl) (zf fa58_0 rfl (zV 0 rfl z5 rfl rfl rfl rfl rfl rfl rfl (aB rfl (yB (zq (c_draw mixed (by kernel_rfl) (mB rfl (mB rfl (zw rfl rfl rfl (zL 2 z137 e1_1 rfl rfl (zw rfl rfl rfl (zI rfl ?_))))))))))))))
        refine zw rfl rfl rfl (zf fa139_1 rfl (zw rfl rfl rfl (zL 3 z3 rfl rfl rfl (zw rfl rfl rfl (zf fa58_2 rfl (zw rfl rfl rfl (zL 0 z3 rfl rfl rfl (zw rfl rfl rfl (zg (fun _ => R_gt rfl rfl) (zg (v := .bool _) (fun _ => zF rfl rfl) (yB ?_))))))))))); refine zD rfl (fun h6 => ?_) (fun h6 => ?_)
        ·omega
        ·refine zi (zO (zk (zr (zg (fun _ => R_addi rfl rfl (by omega)) (mI rfl (zn (k_rounds (yA (zg (fun _ => R_lt rfl rfl) (yB (zq (zG (congrArg Value.bool (decide_eq_false (by decide))) (zX (zx (zx (b_here rfl (?_)))))))))))))))))
         have e0 : tokAt s k = (0, k, false) := by rw [tokAt, if_neg (by rw [hN]; simp), if_neg (by rw [hD]; simp), if_pos hS]
         exact k_mid ⟨e0_1, e1_1, e3_1, rfl, by rw [e0]; rfl, rfl, by rw [e0]; rfl⟩
       ·refine w_call1 3 rfl (fun w => R_callv rfl Tryz.func127 rfl rfl) rfl rfl (fun w h => by have hh := sign_spec p s _ w (h.at_ 3 rfl) hs (by omega) (ht.fr (h.fr _ hB) hgl) hg; simp only [hS, Bool.false_eq_true, if_false, if_true, ↓reduceIte, decide_true, decide_false, Bool.not_true, Bool.not_false, Nat.add_zero] at hh; exact hh) ?_; refine zm rfl (zg (fun _ => R_extract rfl rfl) (zg (fun _ => R_extract rfl rfl) (zf fa58_0 rfl (zV 0 rfl z5 rfl rfl rfl rfl rfl rfl rfl (aB rfl (yB (zq (c_draw mixed (by kernel_rfl) (mB rfl ?_)))))))))
        refine mB rfl ?_; (iterate 7 refine zs rfl rfl rfl ?_); refine zg (v := .bool _) (fun _ => zT rfl rfl) (yB (zE rfl (zX (b_past rfl (zx (zx (b_here rfl (?_))))))))
        have e0 : tokAt s k = (3, k + signLen s k, true) := by rw [tokAt, if_neg (by rw [hN]; simp), if_neg (by rw [hD]; simp), if_neg hS]
        exact k_mid ⟨e0_1, e1_1, e3_1, rfl, by rw [e0]; rfl, rfl, by rw [e0]; rfl⟩
     ·refine w_call1 3 rfl (fun w => R_callv rfl Tryz.func126 rfl rfl) rfl rfl (fun w h => by have hh := number_spec p s _ w (h.at_ 3 rfl) hs (by omega); simp only [hD, Bool.false_eq_true, if_false, if_true, ↓reduceIte, decide_true, decide_false, Bool.not_true, Bool.not_false, Nat.add_zero] at hh; exact hh) ?_; refine zm rfl (zg (fun _ => R_extract rfl rfl) (zg (fun _ => R_extract rfl rfl) (zf fa58_0 rfl (zV 0 rfl z5 rfl rfl rfl rfl rfl rfl rfl (aB rfl (yB (zq (c_draw mixed (by kernel_rfl) (mB rfl (mB rfl ?_)))))))))); refine zp (t := 40) rfl (fun h7 => ?_) (fun h7 => ?_)
      ·refine zs rfl rfl (bV h7) (zs rfl rfl (bV h7) (zs rfl rfl (bV h7) (zs rfl rfl (bV h7) (zs rfl rfl (bV h7) (zs rfl rfl (bV h7) (zs rfl rfl (bV h7) (zg (v := .bool _) (fun _ => zT (bV h7) rfl) (yB (zE rfl (zX (b_past rfl (zx (zx (b_here rfl (?_)))))))))))))))
       have e0 : tokAt s k = (2, numEnd s k, true) := by rw [tokAt, if_neg (by rw [hN]; simp), if_pos hD, h7]
       exact k_mid ⟨e0_1, e1_1, e3_1, rfl, by rw [e0]; exact congrArg Value.bool h7, rfl, by rw [e0]; rfl⟩
      ·refine zw rfl rfl (bV h7) (zL 2 z137 e1_1 rfl rfl (zw rfl rfl (bV h7) (zI rfl (zw rfl rfl (bV h7) (zf fa139_1 rfl (zw rfl rfl (bV h7) (zL 3 z3 rfl rfl rfl (zw rfl rfl (bV h7) (zf fa58_2 rfl (zw rfl rfl (bV h7) (zL 0 z3 rfl rfl rfl (zw rfl rfl (bV h7) (zg (fun _ => R_gt rfl rfl) (zg (v := .bool _) (fun _ => zF (bV h7) rfl) (yB ?_))))))))))))))); refine zD rfl (fun h8 => ?_) (fun h8 => ?_)
       ·refine zX (b_past rfl (zx (zx (b_here rfl (?_)))))
        have e0 : tokAt s k = (2, numEnd s k, false) := by rw [tokAt, if_neg (by rw [hN]; simp), if_pos hD, h7]
        exact k_mid ⟨e0_1, e1_1, e3_1, rfl, by rw [e0]; exact congrArg Value.bool h7, rfl, by rw [e0]; rfl⟩
       ·exfalso; have := digit_run hD; have := numEnd_le hk; omega
   ·refine w_call1 3 rfl (fun w => R_callv rfl Tryz.func125 rfl rfl) rfl rfl (fun w h => by have hh := name_spec p s _ w (h.at_ 3 rfl) hs (by omega); simp only [hN, Bool.false_eq_true, if_false, if_true, ↓reduceIte, decide_true, decide_false, Bool.not_true, Bool.not_false, Nat.add_zero] at hh; exact hh) ?_; refine zm rfl (zg (fun _ => R_extract rfl rfl) (zg (fun _ => R_extract rfl rfl) (zf fa58_0 rfl (zV 0 rfl z5 rfl rfl rfl rfl rfl rfl rfl (aB rfl (yB (zq (c_draw mixed (by kernel_rfl) (mB rfl (mB rfl ?_)))))))))); (iterate 4 refine zs rfl rfl rfl ?_); refine zs rfl rfl rfl ?_
    (iterate 2 refine zs rfl rfl rfl ?_); refine zg (v := .bool _) (fun _ => zT rfl rfl) (yB (zE rfl (zX (b_past rfl (zx (zx (b_here rfl (?_))))))))
    have e0 : tokAt s k = (1, runTo wordB s k, true) := by rw [tokAt, if_pos hN]
    exact k_mid ⟨e0_1, e1_1, e3_1, rfl, by rw [e0]; rfl, rfl, by rw [e0]; rfl⟩
  rintro e B L ⟨e0_2, e1_2, e3_2, e4_2, e5_2, rfl, rfl⟩
  refine zq (c_tail 12 mixed (by kernel_rfl) (zL 2 z137 e1_2 rfl rfl (zI rfl (zf fa139_0 rfl (zL 3 z9 rfl rfl rfl (zf fa58_2 e4_2 (zL 0 z3 rfl rfl rfl (zL 2 z137 e1_2 rfl rfl (zI rfl (zf fa139_1 rfl (zL 3 z3 rfl rfl rfl (zg (fun _ => R_sslN st9 rfl rfl rfl (by omega) (by omega)) (zf fa58_1 e4_2 (w_tailst 0 rfl z9 rfl rfl rfl rfl rfl rfl rfl (zk (yA (zm e0_2 (zY z58 e4_2 (fun _ h => h.at_ 0 rfl) rfl (mB e5_2 (w_yield rfl (fun w h => hy x (tokAt s k).1 (tokTx s k) k (tokAt s k).2.2 Lc ([(t4b, cel [.int .u8 ((tokAt s k).1 : Nat), str (tokTx s k), .int .i64 (k : Nat)] 58), (b1, cel [.func (.func 125) #[] #[], .func (.func 126) #[] #[], .func (.func 127) #[] #[]] 162), (vb, cel [.pointer (some ⟨p, 0, none⟩)] 137), (p, cel [str s, .int .i64 ((tokAt s k).2.1 : Nat)] 139)] ++ Lr) Bs w (tokTx_len s k hs) hJ (h.perm (perm_mid [(t4b, cel [.int .u8 ((tokAt s k).1 : Nat), str (tokTx s k), .int .i64 (k : Nat)] 58), (b1, cel [.func (.func 125) #[] #[], .func (.func 126) #[] #[], .func (.func 127) #[] #[]] 162), (vb, cel [.pointer (some ⟨p, 0, none⟩)] 137), (p, cel [str s, .int .i64 ((tokAt s k).2.1 : Nat)] 139)] Lc Lr))) ?_))))))))))))))))))))
  rintro w h v w' ⟨Lc2, rfl, hJ2, hs2⟩
  refine ⟨Bs, [(t4b, cel [.int .u8 ((tokAt s k).1 : Nat), str (tokTx s k), .int .i64 (k : Nat)] 58), (b1, cel [.func (.func 125) #[] #[], .func (.func 126) #[] #[], .func (.func 127) #[] #[]] 162), (vb, cel [.pointer (some ⟨p, 0, none⟩)] 137), (p, cel [str s, .int .i64 ((tokAt s k).2.1 : Nat)] 139)] ++ (Lc2 ++ Lr), hs2.perm (perm_mid [(t4b, cel [.int .u8 ((tokAt s k).1 : Nat), str (tokTx s k), .int .i64 (k : Nat)] 58), (b1, cel [.func (.func 125) #[] #[], .func (.func 126) #[] #[], .func (.func 127) #[] #[]] 162), (vb, cel [.pointer (some ⟨p, 0, none⟩)] 137), (p, cel [str s, .int .i64 ((tokAt s k).2.1 : Nat)] 139)] Lc2 Lr).symm, ?_⟩
  refine zg (fun _ => R_not rfl) (yB ?_); refine c_condN rfl (fun h9 => ?_) (fun h9 => ?_)
  ·refine ze (zb (zt (zt (zb ((r_none (.inl rfl) rfl ?_)))))); exact fun w' hw => ⟨rfl, _, _, Lc2, by rw [← hl, lexS_end nx hlt h9]; exact hJ2, hw.drop (.cons _ (.cons _ (List.Sublist.refl _)))⟩
  ·have hgo := h9; rw [hgo] at hJ2
   refine zi (zO (zk (zr (zL 2 z137 e1_2 rfl rfl (w_call1 3 rfl (fun w => zR Tryz.func128 rfl rfl rfl) rfl rfl (fun w h => skip_spec p s _ w (h.at_ 3 rfl) hs g2.2.1) (zn (zK (B' := Bs) (L' := (b1, cel [.func (.func 125) #[] #[], .func (.func 126) #[] #[], .func (.func 127) #[] #[]] 162) :: (vb, cel [.pointer (some ⟨p, 0, none⟩)] 137) :: (p, cel [str s, .int .i64 (skipTo s (tokAt s k).2.1 : Nat)] 139) :: (Lc2 ++ Lr)) (fun w h => h.drop (List.sublist_cons_self _ _)) ?_)))))))
   have g4 := g2.2.2 (fine_of nx hn hgo)
   have g5 := skipTo_le g2.2.1
   exact k_again _ (by omega) ⟨skipTo s (tokAt s k).2.1, (nx x (tokAt s k).1 (tokTx s k) k (tokAt s k).2.2).1, Lc2, e0_2, e1_2, e3_2, rfl, rfl, g5.1, hJ2, by rw [← hl, lexS_go nx hn hlt hgo], rfl⟩
 ·refine zX (zx (zx (b_here rfl ((r_none (.inr rfl) rfl ?_))))); exact fun w' hw => ⟨rfl, k, true, Lc, by rw [← hl, lexS_stop nx (by omega)]; exact hJ, hw.drop (List.sublist_cons_self _ _)⟩
end Go.Proofs.YtaniogadknakoaaGreatDoor
end

section
namespace Go.Proofs.YtaniogadknakoaaGreatDoor
open Go.RowKit Go.Sx
open Go.Tok
def rdPs : Array Go.Tmp := #[18, 19]
def rdAs : Go.Code := (Go.Code.seq (Go.Code.region 7 #[(Go.Oper.mk (some 7) (Go.Op.alloc 58) 0 "token.go:123" #[] none), (Go.Oper.mk none (Go.Op.store 58 (Go.Operand.tmp 7) (Go.Operand.tmp 18)) 0 "token.go:123" #[(Go.Edge.mk 0 Go.Ground.data), (Go.Edge.mk 0 Go.Ground.phase)] none)] false) (Go.Code.region 8 #[(Go.Oper.mk (some 8) (Go.Op.assign (Go.Operand.tmp 19)) 4 "token.go:123" #[] none)] false))
def rdBo : Go.Code := (Go.Code.block 1 (Go.Code.seq (Go.Code.block 2 (Go.Code.seq (Go.Code.region 9 #[(Go.Oper.mk (some 21) (Go.Op.move (Go.Operand.tmp 8)) 4 "token.go:125" #[] none), (Go.Oper.mk (some 22) (Go.Op.unOp Go.UnOp.not 4 (Go.Operand.tmp 21)) 4 "token.go:125" #[(Go.Edge.mk 0 Go.Ground.data)] none), (Go.Oper.mk (some 20) (Go.Op.assign (Go.Operand.tmp 22)) 4 "token.go:125" #[(Go.Edge.mk 1 Go.Ground.data)] none)] false) (Go.Code.cond (Go.Operand.tmp 20) (Go.Code.seq (Go.Code.region 10 #[(Go.Oper.mk (some 23) (Go.Op.fieldAddr 58 (Go.Operand.tmp 7) 2) 0 "token.go:126" #[] none), (Go.Oper.mk (some 24) (Go.Op.load 3 (Go.Operand.tmp 23)) 3 "token.go:126" #[(Go.Edge.mk 0 Go.Ground.data)] none), (Go.Oper.mk (some 25) (Go.Op.build 32 #[(0, (Go.Operand.const (Go.Value.int Go.IntKind.i64 110))), (1, (Go.Operand.tmp 24))]) 32 "token.go:126" #[(Go.Edge.mk 1 Go.Ground.data)] none), (Go.Oper.mk none (Go.Op.store 32 (Go.Operand.tmp 6) (Go.Operand.tmp 25)) 0 "token.go:126" #[(Go.Edge.mk 2 Go.Ground.data), (Go.Edge.mk 0 Go.Ground.phase), (Go.Edge.mk 1 Go.Ground.phase), (Go.Edge.mk 2 Go.Ground.phase)] none)] false) (Go.Code.exit 0)) (Go.Code.seq (Go.Code.region 11 #[(Go.Oper.mk (some 27) (Go.Op.load 50 (Go.Operand.tmp 5)) 50 "token.go:128" #[] none), (Go.Oper.mk (some 28) (Go.Op.call (Go.Call.mk (Go.Callee.builtin Go.Builtin.len) #[(Go.Operand.tmp 27)] #[50])) 3 "token.go:128" #[(Go.Edge.mk 0 Go.Ground.data)] none), (Go.Oper.mk (some 29) (Go.Op.binOp Go.BinOp.eql 3 (Go.Operand.tmp 28) (Go.Operand.const (Go.Value.int Go.IntKind.i64 6000)) 3) 4 "token.go:128" #[(Go.Edge.mk 1 Go.Ground.data)] none), (Go.Oper.mk (some 26) (Go.Op.assign (Go.Operand.tmp 29)) 4 "token.go:128" #[(Go.Edge.mk 2 Go.Ground.data)] none)] false) (Go.Code.cond (Go.Operand.tmp 26) (Go.Code.seq (Go.Code.region 12 #[(Go.Oper.mk (some 30) (Go.Op.fieldAddr 58 (Go.Operand.tmp 7) 2) 0 "token.go:129" #[] none), (Go.Oper.mk (some 31) (Go.Op.load 3 (Go.Operand.tmp 30)) 3 "token.go:129" #[(Go.Edge.mk 0 Go.Ground.data)] none), (Go.Oper.mk (some 32) (Go.Op.build 32 #[(0, (Go.Operand.const (Go.Value.int Go.IntKind.i64 6))), (1, (Go.Operand.tmp 31))]) 32 "token.go:129" #[(Go.Edge.mk 1 Go.Ground.data)] none), (Go.Oper.mk none (Go.Op.store 32 (Go.Operand.tmp 6) (Go.Operand.tmp 32)) 0 "token.go:129" #[(Go.Edge.mk 2 Go.Ground.data), (Go.Edge.mk 0 Go.Ground.phase), (Go.Edge.mk 1 Go.Ground.phase), (Go.Edge.mk 2 Go.Ground.phase)] none)] false) (Go.Code.exit 0)) Go.Code.skip))))) (Go.Code.region 13 #[(Go.Oper.mk (some 33) (Go.Op.load 50 (Go.Operand.tmp 5)) 50 "token.go:132" #[] none), (Go.Oper.mk (some 34) (Go.Op.load 58 (Go.Operand.tmp 7)) 58 "token.go:132" #[] none), (Go.Oper.mk (some 35) (Go.Op.buildSlice 50 1 #[(0, (Go.Operand.tmp 34))]) 50 "token.go:132" #[(Go.Edge.mk 1 Go.Ground.data)] none), (Go.Oper.mk (some 36) (Go.Op.call (Go.Call.mk (Go.Callee.builtin Go.Builtin.append) #[(Go.Operand.tmp 33), (Go.Operand.tmp 35)] #[50, 50])) 50 "token.go:132" #[(Go.Edge.mk 0 Go.Ground.data), (Go.Edge.mk 2 Go.Ground.data)] none), (Go.Oper.mk none (Go.Op.store 50 (Go.Operand.tmp 5) (Go.Operand.tmp 36)) 0 "token.go:132" #[(Go.Edge.mk 3 Go.Ground.data), (Go.Edge.mk 3 Go.Ground.chain), (Go.Edge.mk 0 Go.Ground.phase), (Go.Edge.mk 1 Go.Ground.phase), (Go.Edge.mk 2 Go.Ground.phase), (Go.Edge.mk 3 Go.Ground.phase)] none)] false)))

def tkC (t : Tk) : List Value := [.int .u8 (t.1 : Nat), str t.2.1, .int .i64 (t.2.2 : Nat)]
def tksC (l : List Tk) : List Value := l.flatMap tkC
abbrev Toks (v : Value) (l : List Tk) (W : Heap) : Prop := Own 58 3 v (tksC l) l.length W
theorem Toks.more {v : Value} {l : List Tk} {t : Tk} {W : Heap} (h : Own 58 3 v (tksC l ++ tkC t) (l.length + 1) W) : Toks v (l ++ [t]) W := by
  have e1 : tksC (l ++ [t]) = tksC l ++ tkC t := by simp [tksC]
  have e2 : (l ++ [t]).length = l.length + 1 := by simp
  unfold Toks; rw [e1, e2]; exact h
def rdL (t5b t6b l : Nat) (v : Value) (fc fa : Nat) (ob : Obj) (W : Heap) : Heap := (t5b, cel [v] 50) :: (t6b, cel [.int .i64 (fc : Nat), .int .i64 (fa : Nat)] 32) :: (l, ob) :: W
def rdO (e : Env) (fn : FuncId) (r : Nat) : Bool → Obj
  | true => lpO .ready none fn ⟨43, [], none⟩ e rdPs rdAs rdBo r
  | false => lpO .done (some (.exit 0)) fn ⟨43, [], none⟩ e rdPs rdAs rdBo r
def RdJ (e : Env) (fn : FuncId) (r l t5b t6b : Nat) (g : Bool) (x : Rd) (Lc : Heap) : Prop :=
  ∃ a c W, Toks (.slice a x.1.length c) x.1 W ∧ x.1.length ≤ 6000 ∧ (g = true → x.2 = (0, 0)) ∧ (g = false → x.2.1 ≠ 0) ∧ Lc = rdL t5b t6b l (.slice a x.1.length c) x.2.1 x.2.2 (rdO e fn r g) W
def RdV (r : Rd) (v : Value) (W : Heap) : Prop := ∃ a c, v = .tuple #[.slice a r.1.length c, .agg #[.int .i64 (r.2.1 : Nat), .int .i64 (r.2.2 : Nat)]] ∧ Toks (.slice a r.1.length c) r.1 W

theorem all_spec (p : Nat) (w : World) :
    Ret Tryz.prog 105 #[.pointer (some ⟨p, 0, none⟩)] w (fun v w' => ∃ W, (∃ vb, v = .func (.func 124) #[] #[.pointer (some ⟨vb, 0, none⟩)] ∧ W = [(vb, cel [.pointer (some ⟨p, 0, none⟩)] 137)]) ∧ New w w' W) := by
  refine enter (S := No) (l := [_]) (L := []) 4 Tryz.func105 rfl rfl rfl (St.start w No) (yA (w_box rfl (fun vb gvb uvb => za rfl (yC (zg (fun _ => R_makeFunc) (za rfl (yB (ze (zo rfl rfl rfl ?_))))))))); exact fun w' hw => ⟨_, ⟨vb, rfl, rfl⟩, St.made (A := []) hw⟩

theorem Read_round (e : Env) (fn r l t5b t6b : Nat) (he5 : e 5 = .pointer (some ⟨t5b, 0, none⟩)) (he6 : e 6 = .pointer (some ⟨t6b, 0, none⟩)) : Rounds (RdJ e fn r l t5b t6b) readN l := by
  intro x k t a b Lc Lr B w htx hJ hw
  obtain ⟨a0, c0, W, hO, hx6, hxt, -, rfl⟩ := hJ
  have hx0 := hxt rfl
  refine yield_round 2 (L := rdL t5b t6b l _ _ _ _ _ ++ Lr) hw rfl rfl (yA (zA zr58 (fun t7b gt7b ut7b => zV 0 rfl z58 rfl rfl rfl rfl rfl rfl rfl (yB (zr (aB rfl (zn (k_begin (l' := 0) 3 rfl (zB (zq (zB (yA (mB rfl (zg (fun _ => R_not rfl) (aB rfl (yB ?_)))))))))))))))); refine c_condN rfl (fun h2 => ?_) (fun h2 => ?_)
  · refine yA (zf fa58_2 rfl (zL 0 z3 rfl rfl rfl (zg (fun _ => R_build bt32 rfl) (zV 2 rfl z32 he6 rfl rfl rfl rfl rfl rfl (yB (zX (b_past rfl (zx (b_past rfl ((k_roundX 3 rfl ?_)))))))))))
    subst h2
    exact fun w h => ⟨_, rfl, rdL t5b t6b l (.slice a0 x.1.length c0) 110 a (rdO e fn r false) W, rfl, ⟨a0, c0, W, hO, hx6, (fun h => by cases h), fun _ => by simp [readN], rfl⟩, h.drop (List.sublist_cons_self _ _)⟩
  · refine yA (zL 1 z50 he5 rfl rfl (zg (fun _ => R_len sl50 rfl) (zg (fun _ => R_eq rfl rfl) (aB rfl (yB ?_))))); refine zD rfl (fun h3 => ?_) (fun h3 => ?_)
    · refine yA (zf fa58_2 rfl (zL 0 z3 rfl rfl rfl (zg (fun _ => R_build bt32 rfl) (zV 2 rfl z32 he6 rfl rfl rfl rfl rfl rfl (yB (zX (b_past rfl (zx (b_past rfl ((k_roundX 3 rfl ?_)))))))))))
      subst h2
      have hN : readN x k t a true = ((x.1, 6, a), false) := by rw [readN, if_neg (by decide), if_pos (by omega)]
      exact fun w h => ⟨_, rfl, rdL t5b t6b l (.slice a0 x.1.length c0) 6 a (rdO e fn r false) W, by rw [hN], by rw [hN]; exact ⟨a0, c0, W, hO, hx6, (fun h => by cases h), fun _ => by simp [readN], rfl⟩, h.drop (List.sublist_cons_self _ _)⟩
    · refine zi (zO (zk (zr (zL 1 z50 he5 rfl rfl (zY z58 rfl (fun _ h => h.at_ 0 rfl) rfl (zS slt50 (by decide) rfl rfl (fun bs gbs ubs => w_app [(bs, _), (t7b, _), (t5b, _), (t6b, _), (l, _)] (news := tkC (k, t, a)) slt50 (by decide) rfl hO rfl rfl (row_own 0 rfl (fun _ _ h => h)) rfl (by decide) (by omega) (by omega) (fun v2 W2 hO2 => ?_))))))))
      obtain ⟨a2, c2, rfl⟩ := hO2.slice
      refine zV 2 rfl z50 he5 rfl rfl rfl rfl rfl rfl (zn (zO ((k_round 4 rfl ?_))))
      subst h2
      have hN : readN x k t a true = ((x.1 ++ [(k, t, a)], x.2), true) := by rw [readN, if_neg (by decide), if_neg (by omega)]
      exact fun w h => ⟨_, rfl, rdL t5b t6b l (.slice a2 (x.1.length + 1) c2) x.2.1 x.2.2 (rdO e fn r true) W2, by rw [hN], by rw [hN]; exact ⟨a2, c2, W2, by simpa using Toks.more hO2, by simp; omega, fun _ => hx0, (fun h => by cases h), by simp⟩, h.drop (.cons _ (.cons _ (List.Sublist.refl _)))⟩

theorem Read_spec (s : List UInt8) (hs : s.length ≤ 10000000) (w : World) (ht : Tb w) (hgs : 0 < w.heap.size) :
    Ret Tryz.prog 56 #[str s] w (fun v w' => ∃ W, RdV (readP s) v W ∧ New w w' W) := by
  refine enterM (S := No) (l := [_]) (L := []) 43 Tryz.func56 rfl rfl rfl (St.start w No) (yA (za (v := .slice _ _ _) rfl (zA zr32 (fun t3b gt3b ut3b => yB (c_scope (zq (yA (zm (v := str _) rfl (zg (fun _ => R_slen st9 rfl (by omega)) (zg (fun _ => R_gt rfl rfl) (yB ?_))))))))))); refine zD rfl (fun h2 => ?_) (fun h2 => ?_)
  · refine yA (zg (fun _ => R_build bt32 rfl) (za (v := .slice _ _ _) rfl (zV 0 rfl z32 rfl rfl rfl rfl rfl rfl rfl (yB (ze (zt (g_ret ((r_finM (.inl rfl) rfl (.tmp rfl rfl (.agg rfl rfl z32 (fun _ h => h.at_ 0 rfl) rfl .nil)) ?_))))))))); exact fun w' hw => ⟨[], by rw [readP_long (by omega)]; exact ⟨none, 0, rfl, Own.nil _ _⟩, .none (hw.fr _ zm0)⟩
  · refine zi (zk (yA (zm (v := str _) rfl (zg (fun _ => R_build bt139 rfl) (w_boxA rfl (fun p gp up => za (v := .pointer _) rfl (yC (zA zr50 (fun t5b gt5b ut5b => yC (zA zr32 (fun t6b gt6b ut6b => yB (zq (c_label (zk (zq (yA (mP rfl (w_callW (fun w => zR Tryz.func105 rfl rfl rfl) rfl rfl (fun w _ => all_spec p w) ?_))))))))))))))))))
    rintro u W0 ⟨vb, rfl, rfl⟩
    refine yB (zB (c_gen fun e he => ?_))
    have he3 : e 3 = .pointer (some ⟨t3b, 0, none⟩) := congrFun he 3
    have he5 : e 5 = .pointer (some ⟨t5b, 0, none⟩) := congrFun he 5
    have he6 : e 6 = .pointer (some ⟨t6b, 0, none⟩) := congrFun he 6
    have he17 : e 17 = .func (.func 124) #[] #[.pointer (some ⟨vb, 0, none⟩)] := congrFun he 17
    refine c_range (f := 124) (fi := []) (ca := [.pointer (some ⟨vb, 0, none⟩)]) he17 rfl rfl rfl (fun r l fn w' => ∃ (g : Bool) (j : Nat) (Lc' : Heap), RdJ e fn r l t5b t6b g (readS s) Lc' ∧ St [(w, No)] ((vb, cel [.pointer (some ⟨p, 0, none⟩)] 137) :: (p, cel [str s, .int .i64 (j : Nat)] 139) :: (Lc' ++ [(r, .deferred (some [])), (t3b, cel [.int .i64 0, .int .i64 0] 32)])) w') ?_ ?_
    · intro fn r l hr1 hr2 hl w1 hw1
      refine (all1_spec (RdJ e fn r l t5b t6b) readN readN_no l p vb s (by omega) (Read_round e fn r l t5b t6b he5 he6) w No ht (fun h => h) (Nat.le_trans hgs (up (w, No) zm0)) ([], 0, 0) (rdL t5b t6b l (.slice none 0 0) 0 0 (rdO e fn r true) []) [(r, .deferred (some [])), (t3b, cel [.int .i64 0, .int .i64 0] 32)] [(w, No)] zm0 ⟨none, 0, [], Own.nil _ _, Nat.zero_le _, fun _ => rfl, (fun h => by cases h), rfl⟩ w1 (hw1.pick [2, 5, 4, 3, 0, 1, 6] (by decide))).mono ?_
      rintro v w2 ⟨rfl, j, g, Lc', hJ, hs⟩
      exact ⟨g, j, Lc', hJ, hs⟩
    · rintro fn r l hr1 hr2 hl w1 ⟨g, j, Lc', ⟨a0, c0, W, hO, h6, hg1, hg0, rfl⟩, hs⟩
      have hs2 := St.pickT [(vb, cel [.pointer (some ⟨p, 0, none⟩)] 137), (p, cel [str s, .int .i64 (j : Nat)] 139), (t5b, cel [.slice a0 (readS s).1.length c0] 50), (t6b, cel [.int .i64 ((readS s).2.1 : Nat), .int .i64 ((readS s).2.2 : Nat)] 32), (l, rdO e fn r g), (r, .deferred (some [])), (t3b, cel [.int .i64 0, .int .i64 0] 32)] (hs.perm (.cons _ (.cons _ (.cons _ (.cons _ (.cons _ List.perm_append_comm)))))) [4, 2, 3, 5, 6] (by decide)
      cases g
      · have hz : (readS s).2.1 ≠ 0 := hg0 rfl
        refine ⟨_, _, .done, some (.exit 0), (fun h => by cases h), hs2, ?_⟩
        refine zX (b_here rfl (zk (zq (yA (zf fa32_0 he6 (zL 2 z30 rfl rfl rfl (zg (fun _ => R_ne rfl rfl) (yB ?_)))))))); refine zD rfl (fun h6 => ?_) (fun h6 => ?_)
        · refine zq (c_tail 2 mixed (by kernel_rfl) (zY z32 he6 (fun _ h => h.at_ 2 rfl) rfl (za (v := .slice _ _ _) rfl (w_tailst 4 rfl z32 he3 rfl rfl rfl rfl rfl rfl (zk (ze (zt (g_ret ((r_finM1 3 rfl (.inl rfl) rfl (.tmp rfl rfl (.agg rfl he3 z32 (fun _ h => h.at_ 4 rfl) rfl .nil)) ?_)))))))))); exact fun w' hw => ⟨[], by rw [readP_bad (by omega) hz]; exact ⟨none, 0, rfl, Own.nil _ _⟩, .none (hw.fr _ zm0)⟩
        · exfalso; omega
      · have hz : (readS s).2.1 = 0 := by rw [hg1 rfl]
        refine ⟨_, _, .ready, none, (fun h => by cases h), hs2, ?_⟩
        refine zO (zk (zq (yA (zf fa32_0 he6 (zL 2 z30 rfl rfl rfl (zg (fun _ => R_ne rfl rfl) (yB ?_))))))); refine zD rfl (fun h7 => ?_) (fun h7 => ?_)
        · exfalso; omega
        · refine zi (zk (yA (zL 1 z50 he5 rfl rfl (zg (fun _ => R_build bt32 rfl) (za (v := .slice _ _ _) rfl (zV 4 rfl z32 he3 rfl rfl rfl rfl rfl rfl (yB (ze (g_ret ((r_finM1 3 rfl (.inl rfl) rfl (.tmp rfl rfl (.agg rfl he3 z32 (fun _ h => h.at_ 4 rfl) rfl .nil)) ?_))))))))))); exact fun w' hw => ⟨W, by rw [readP_fine (by omega) hz]; exact ⟨a0, c0, rfl, hO⟩, St.made (A := []) (hw.drop (.cons _ (.cons _ (.cons _ (.cons _ (.cons _ (List.Sublist.refl _)))))))⟩
end Go.Proofs.YtaniogadknakoaaGreatDoor
end
