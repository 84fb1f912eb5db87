import Derived.Test.YtmcajoiembfjiaaDoorLibT
import Derived.Test.YtmcajoiembfjiaaDoorShelf
namespace Go.Proofs.YtmcajoiembfjiaaDoor
open Go.RowKit Go.Sx


/-- the table that strings.Fields reads -/
def Tb (w : World) : Prop := ∃ T f, w.heap[1]? = some (.cells (Lib.asciiSpaceTab.map fun z => Value.int .u8 z).toArray T f)
theorem Tb.tab {w : World} (h : Tb w) : Lib.TabIs Tryd.prog w "strings.asciiSpace" .u8 Lib.asciiSpaceTab := by
  obtain ⟨T, f, h⟩ := h
  unfold Lib.TabIs World.var?
  have : Tryd.prog.globalNamed "strings.asciiSpace" = some 1 := by kernel_rfl
  rw [this]
  simp [h]
theorem Tb.of {w : World} (h : Lib.TabIs Tryd.prog w "strings.asciiSpace" .u8 Lib.asciiSpaceTab) : Tb w := by
  unfold Lib.TabIs World.var? at h
  have : Tryd.prog.globalNamed "strings.asciiSpace" = some 1 := by kernel_rfl
  rw [this] at h
  simp only [Option.bind_some] at h
  split at h
  · rename_i cs T f hh; cases h; exact ⟨T, f, hh⟩
  · cases h
theorem Tb.fr {S : Nat → Prop} {w w' : World} (h : Tb w) (k : Fr S w w') (hs : ¬ S 1) : Tb w' := by
  obtain ⟨T, f, h⟩ := h
  exact ⟨T, f, k.get h hs⟩
theorem Tb.lt {w : World} (h : Tb w) : 1 < w.heap.size := by
  obtain ⟨T, f, h⟩ := h
  exact lt_of_blk h
theorem IndexByte_spec (s : List UInt8) (c : Int) (w : World) : Ret Tryd.prog 38 #[str s, .int .u8 c] w fun v w' => v = .int .i64 (Lib.indexByte s c.toNat.toUInt8) ∧ Ext w w' :=
  Calls.mono (Tryd.strings_IndexByte ⟨s.toArray⟩ c w) fun e w' ⟨h1, h2⟩ => ⟨_, h1, by simp, by rw [h2]; exact Fr.refl _ _⟩
theorem u8_back (b : UInt8) : ((b.toNat : Nat) : Int).toNat.toUInt8 = b := by simp
theorem IndexByte_at (s : List UInt8) (b : UInt8) (w : World) : Ret Tryd.prog 38 #[str s, .int .u8 (b.toNat : Nat)] w fun v w' => v = .int .i64 (Lib.indexByte s b) ∧ Ext w w' := by
  have := IndexByte_spec s (b.toNat : Nat) w
  rwa [u8_back] at this
theorem HasPrefix_spec (s p : List UInt8) (w : World) : Ret Tryd.prog 37 #[str s, str p] w fun v w' => v = .bool (p.isPrefixOf s) ∧ Ext w w' :=
  Calls.mono (Tryd.strings_HasPrefix ⟨s.toArray⟩ ⟨p.toArray⟩ w) fun e w' ⟨h1, h2⟩ => ⟨_, h1, by simp [Lib.hasPrefix], by rw [h2]; exact Fr.refl _ _⟩
theorem Count_spec (s : List UInt8) (c : UInt8) (w : World) : Ret Tryd.prog 20 #[str s, str [c]] w fun v w' => v = .int .i64 (s.count c : Nat) ∧ Ext w w' :=
  Calls.mono (Tryd.strings_Count_one ⟨s.toArray⟩ c w) fun e w' ⟨h1, h2⟩ => ⟨_, h1, by simp [Lib.countByte], by rw [h2]; exact Fr.refl _ _⟩
theorem LastIndexByte_spec (s : List UInt8) (c : Int) (w : World) (h : s.length < 4611686018427387904) : Ret Tryd.prog 21 #[str s, .int .u8 c] w fun v w' => v = .int .i64 (Lib.lastIndexByte (⟨s.toArray⟩ : ByteArray) c) ∧ Ext w w' :=
  Calls.mono (Tryd.strings_LastIndexByte ⟨s.toArray⟩ c h w) fun e w' ⟨h1, h2⟩ => ⟨_, h1, rfl, by rw [h2]; exact Fr.refl _ _⟩
theorem Fields_spec (s : List UInt8) (w : World) (hs : s.length < 4294967281) (ha : ∀ (j : Nat) b, s[j]? = some b → b.toNat < 128) (ht : Tb w) : Ret Tryd.prog 36 #[str s] w fun v w' =>
    v = .slice (some ⟨w.heap.size, 0, none⟩) (Lib.fields s).length (Lib.fields s).length ∧ w' = w.alloc (cel ((Lib.fields s).map str) 9) :=
  Calls.mono (Tryd.strings_Fields ⟨s.toArray⟩ w hs (by simpa using ha) ht.tab) fun e w' ⟨h1, h2⟩ => ⟨_, h1, by simp, by simpa using h2⟩
end Go.Proofs.YtmcajoiembfjiaaDoor
