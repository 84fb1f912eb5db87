/- Layer 14, FeedWrites: that Write and Find tell what the document says, and that what is written is read as the same data again. Part 10 of 14. -/
import Derived.Test.YtikdkendinnalaaGreatDoorW09
import Derived.Lib.UnsafeStr
import Derived.Lib.Builder
import Derived.Laws.Externs
import Derived.Shelf.Strings.OnBuilder
import Derived.Test.YtikdkendinnalaaGreatDoorProg
set_option maxRecDepth 100000
set_option maxHeartbeats 16000000
section
namespace Go.Feed
open Go.Tok Go.Tree Go.Prs Go.Num Go.Lib
theorem isG_yes {x : Str} {ts : List Tk} (h : isG x ts = true) : ∃ a r, ts = (3, x, a) :: r := by
  cases ts with
  | nil => cases h
  | cons t r =>
    obtain ⟨t1, t2, t3⟩ := t
    unfold isG at h
    simp only [Bool.and_eq_true, decide_eq_true_eq] at h
    obtain ⟨rfl, rfl⟩ := h
    exact ⟨t3, r, rfl⟩
theorem fTok_cut {z : Nat} {neg : Bool} {ts r : List Tk} {a : Rt × Bool} (h : fTok z neg ts = .ok (a, r)) : ∃ tx p, ts = (2, tx, p) :: r ∧ ∀ z' p' R, fTok z' neg ((2, tx, p') :: R) = .ok (a, R) := by
  unfold fTok at h
  split at h
  · rename_i h2
    split at h
    · cases h
    · rename_i h4
      cases ts with
      | nil => cases h2
      | cons t tl =>
        obtain ⟨t1, t2, t3⟩ := t
        simp only [nowT] at h2 h4 h
        subst h2
        simp only [Except.ok.injEq, Prod.mk.injEq, List.tail_cons] at h
        obtain ⟨h, rfl⟩ := h
        refine ⟨t2, t3, rfl, fun z' p' R => ?_⟩
        unfold fTok nowT
        simp only [if_true]
        rw [if_neg h4, h]; rfl
  · cases h
def Cut {α : Type} (f : Nat → List Tk → Rs α) (a : α) (c : List Tk) : Prop := c ≠ [] ∧ ∀ z' c' R, shp c' = shp c → f z' (c' ++ R) = .ok (a, R)
theorem fNum_cut {z : Nat} {ts r : List Tk} {a : Rt × Bool} (h : fNum z ts = .ok (a, r)) : ∃ c, ts = c ++ r ∧ Cut fNum a c := by
  unfold fNum at h
  split at h
  · rename_i hx
    obtain ⟨p, tl, rfl⟩ := isG_yes hx
    obtain ⟨tx, p2, h1, h2⟩ := fTok_cut h
    rw [List.tail_cons] at h1
    subst h1
    refine ⟨[(3, [45], p), (2, tx, p2)], rfl, by simp, fun z' c' R hc => ?_⟩
    obtain ⟨q, c1, rfl, hc1⟩ := shp_cons (k := 3) (t := [45]) (ks := [(2, tx)]) hc
    obtain ⟨q2, c2, rfl, hc2⟩ := shp_cons (ks := []) hc1
    have : c2 = [] := by simpa [shp] using hc2
    subst this
    unfold fNum
    rw [List.cons_append, isG_head, if_pos (by decide), List.tail_cons]
    exact h2 z' q2 R
  obtain ⟨tx, p2, rfl, h2⟩ := fTok_cut h
  refine ⟨[(2, tx, p2)], rfl, by simp, fun z' c' R hc => ?_⟩
  obtain ⟨q2, c2, rfl, hc2⟩ := shp_cons (k := 2) (t := tx) (ks := []) hc
  have : c2 = [] := by simpa [shp] using hc2
  subst this
  unfold fNum
  rw [if_neg (by unfold isG; simp)]
  exact h2 z' q2 R
def atD (d : Dt) (p : Nat) : Dt := ⟨d.nm, p, d.list, d.whole, d.nums⟩
structure Pc (c : List Tk) (d : Dt) : Prop where
  ne : c ≠ []
  at_ : d.at_ = place 0 c
  go : ∀ z' n' c' R out', shp c' = shp c → c.length ≤ n' → fOne z' n' out' (c' ++ R) = if out'.any (fun e => decide (e.nm = d.nm)) = true then .error (8, place 0 c') else .ok (atD d (place 0 c'), R)
abbrev Ck := List Tk × Dt
def flatC (cs : List Ck) : List Tk := cs.flatMap (·.1)
def Bnd (z : Nat) (ts : List Tk) : Prop := ∀ t ∈ ts, t.2.2 ≤ z
theorem Bnd.place {z : Nat} {ts : List Tk} (h : Bnd z ts) : Prs.place z ts ≤ z := by
  cases ts with
  | nil => exact Nat.le_refl _
  | cons t ts => exact h t (.head _)
theorem Bnd.tail {z : Nat} {ts : List Tk} (h : Bnd z ts) : Bnd z ts.tail := fun t ht => h t (List.mem_of_mem_tail ht)
theorem Bnd.app {z : Nat} {c r : List Tk} (h : Bnd z (c ++ r)) : Bnd z r := fun t ht => h t (List.mem_append_right _ ht)
abbrev Er (z : Nat) (fl : Fl) : Prop := fl.1 ≠ 0 ∧ fl.2 ≤ z
theorem fNum_er {z : Nat} {ts : List Tk} {fl : Fl} (hb : Bnd z ts) (h : fNum z ts = .error fl) : Er z fl := by
  have key : ∀ neg (ts : List Tk), Bnd z ts → fTok z neg ts = .error fl → Er z fl := by
    intro neg ts hb h
    unfold fTok at h
    split at h
    · split at h
      · cases h; exact ⟨by simp, hb.place⟩
      cases h
    cases h; exact ⟨by simp, hb.place⟩
  unfold fNum at h
  split at h
  · exact key _ _ hb.tail h
  exact key _ _ hb h
theorem andR_err {α β : Type} {x : Rs α} {f : α → List Tk → Except Fl β} {fl : Fl} (h : andR x f = .error fl) : x = .error fl ∨ ∃ a r, x = .ok (a, r) ∧ f a r = .error fl := by
  cases x with
  | error e => left; rw [andR_no] at h; cases h; rfl
  | ok p => right; exact ⟨p.1, p.2, rfl, h⟩
theorem wantG_er {β : Type} {z : Nat} {x : Str} {ts : List Tk} {f : List Tk → Except Fl β} {fl : Fl} (hb : Bnd z ts) (h : wantG z x ts f = .error fl) : Er z fl ∨ ∃ a r, ts = (3, x, a) :: r ∧ f r = .error fl := by
  unfold wantG at h
  split at h
  · rename_i hx
    obtain ⟨a, r, rfl⟩ := isG_yes hx
    exact .inr ⟨a, r, rfl, h⟩
  cases h; exact .inl ⟨by simp, hb.place⟩
theorem fRow_er {z : Nat} {fl : Fl} : ∀ (n : Nat) (l : List Rt) (b : Bool) (ts : List Tk), Bnd z ts → ts.length < n → fRow z n l b ts = .error fl → Er z fl
  | 0, _, _, _, _, hn, _ => by omega
  | n + 1, l, b, ts, hb, hn, h => by
    rw [fRow] at h
    rcases andR_err h with g | ⟨a, r, e1, g⟩
    · exact fNum_er hb g
    · clear h
      obtain ⟨c, rfl, k0, _⟩ := fNum_cut e1
      have hl : 0 < c.length := by cases c with | nil => exact absurd rfl k0 | cons => simp
      rw [List.length_append] at hn
      split at g
      · exact fRow_er n _ _ _ hb.app.tail (by rw [List.length_tail]; omega) g
      · rcases wantG_er hb.app g with h | ⟨a, r, _, h⟩
        · exact h
        · cases h
theorem fVal_er {z n : Nat} {fl : Fl} {ts : List Tk} (hb : Bnd z ts) (hn : ts.length < n) (h : fVal z n ts = .error fl) : Er z fl := by
  unfold fVal at h
  split at h
  · split at h
    · cases h
    rcases andR_err h with h | ⟨a, r, _, h⟩
    · exact fRow_er n _ _ _ hb.tail (by rw [List.length_tail]; omega) h
    cases h
  rcases andR_err h with h | ⟨a, r, _, h⟩
  · exact fNum_er hb h
  cases h
theorem Pc.first {c : List Tk} {d : Dt} (h : Pc c d) : ∃ t c2, c = t :: c2 ∧ d.at_ = t.2.2 := by
  cases hc : c with
  | nil => exact absurd hc h.ne
  | cons t c2 => exact ⟨t, c2, rfl, by rw [h.at_, hc]; rfl⟩
def shC (k : Nat) (x : Ck) : Ck := (x.1.map (sh k), atD x.2 (place 0 (x.1.map (sh k))))
end Go.Feed
end
section
namespace Go.Proofs.YtikdkendinnalaaGreatDoor
open Go.RowKit Go.Sx
open Go.Tok Go.Tree Go.Prs Go.Feed Go.Num
theorem toks_f {T : List Tk} {a : Option Addr} {c : Nat} {W : Heap} {w : World} {N : Nat → Prop} (h : Toks (.slice a T.length c) T W) (hm : ∀ p ∈ W, w.heap[p.1]? = some p.2) (hN : ∀ p ∈ W, N p.1) {k : Nat} {t : Tk} (hk : T[k]? = some t) : At w N a (k * 3) (tkC t) := by
  obtain ⟨hl, ⟨_, h0, _⟩ | ⟨q, cc, sp, hv, hc, hsp, rfl⟩⟩ := h
  · have := (List.getElem?_eq_some_iff.1 hk).1; omega
  cases hv
  refine ⟨q, 0, rfl, hN (q, cel (tksC T ++ sp) 64) (by simp), fun j u hj => ?_⟩
  have h1 := hm (q, cel (tksC T ++ sp) 64) (by simp)
  have h2 := tks_at T k t hk j u hj
  have h3 : (tksC T ++ sp)[k * 3 + j]? = some u := by rw [List.getElem?_append_left (List.getElem?_eq_some_iff.1 h2).1]; exact h2
  dsimp only at h1
  simp [World.cell?, h1, h3]
theorem Bnd.drop {z : Nat} {T T' : List Tk} (h : Bnd z T') (he : T' = T) (i : Nat) : Bnd z (T.drop i) := fun t ht => h t (by rw [he]; exact List.mem_of_mem_drop ht)
theorem rr_zero (ta : Option Addr) (tc n z : Nat) : Rr ta tc n z 0 0 0 = cel [.slice ta n tc, .int .i64 (z : Nat), .int .i64 0, .int .i64 0] 61 := by
  unfold Rr; rw [aK_zero]; rfl
theorem toks_le {T : List Tk} {a : Option Addr} {c : Nat} {W : Heap} (h : Toks (.slice a T.length c) T W) : T.length ≤ c := by
  obtain ⟨hl, ⟨hv, h0, _⟩ | ⟨q, cc, sp, hv, hc, hsp, rfl⟩⟩ := h
  · omega
  simp only [Value.slice.injEq] at hv
  omega
theorem readP_tx (s : Str) : ∀ t ∈ (readP s).1, t.2.1.length ≤ s.length := by
  have h : ∀ (f i : Nat) (x : Rd), (∀ t ∈ x.1, t.2.1.length ≤ s.length) → ∀ t ∈ (lexF readN s f i x).1, t.2.1.length ≤ s.length := by
    intro f
    induction f with
    | zero => intro i x h; exact h
    | succ f ih =>
      intro i x h
      have hx : ∀ t ∈ (readN x (tokAt s i).1 (tokTx s i) i (tokAt s i).2.2).1.1, t.2.1.length ≤ s.length := by
        unfold readN
        split
        · exact h
        · split
          · exact h
          · intro t ht
            rcases List.mem_append.1 ht with ht | ht
            · exact h t ht
            · obtain rfl := List.mem_singleton.1 ht
              unfold tokTx
              simp only [List.length_take, List.length_drop]; omega
      unfold lexF
      split
      · split
        · exact ih _ _ hx
        · exact hx
      · exact h
  rcases Nat.lt_or_ge 20000 s.length with h1 | h1
  · rw [readP_long h1]; intro t ht; cases ht
  · by_cases h2 : (readS s).2.1 = 0
    · rw [readP_fine (by omega) h2]; exact h _ _ _ (fun t ht => by cases ht)
    · rw [readP_bad (by omega) h2]; intro t ht; cases ht
theorem pf_init {B : Base} {L L' W0 : Heap} {w w1 : World} {ta : Option Addr} {tc : Nat} {T : List Tk} {s : Str} (hw : St B (L ++ W0) w1) (hs : L'.Sublist L) (hx : (w, No) ∈ B) (hng : 11 ≤ w.heap.size) (hW : Wd w1) (hO : Toks (.slice ta T.length tc) T W0) (hT : (readP s).1 = T) (hl : s.length ≤ 20000) :
    ∃ G : Nat → Prop, Pf w1 G T ta tc s.length ∧ (∀ j, inL L' j → G j) ∧ (∀ j, w1.heap.size ≤ j → G j) := by
  have hnd := hw.nd
  rw [List.map_append, List.nodup_append] at hnd
  refine ⟨fun j => inL L' j ∨ w1.heap.size ≤ j, ⟨hW, ?_, ?_, toks_le hO, by rw [← hT]; exact readP_len s, by omega, ?_, by rw [← hT]; exact read_num s⟩, fun j h => .inl h, fun j h => .inr h⟩
  · rintro j (hj | hj)
    · obtain ⟨p, hp, rfl⟩ := List.mem_map.1 hj
      rcases hw.ok p (List.mem_append_left _ (hs.subset hp)) _ hx with h1 | h1
      · exact h1.elim
      exact Nat.le_trans hng h1
    exact Nat.le_trans hng (Nat.le_trans (hw.fr _ hx).size hj)
  · intro k t hk
    refine toks_f hO (fun p hp => hw.own p (List.mem_append_right _ hp)) (fun p hp => ?_) hk
    rintro (hj | hj)
    · exact hnd.2.2 _ ((hs.map (·.1)).subset hj) _ (List.mem_map_of_mem (f := fun q : Nat × Obj => q.1) hp) rfl
    have := lt_of_blk (hw.own p (List.mem_append_right _ hp)); omega
  intro t ht
  exact ⟨Nat.le_trans (readP_tx s t (by rw [hT]; exact ht)) hl, Nat.le_trans ((readP_at s).1 t (by rw [hT]; exact ht)) (by omega)⟩
def RdF (X : Except Fl (List Dt)) (w : World) : Value → World → Prop := fun v w' =>
  (match X with
  | .ok ds => ∃ b : Option Addr × Nat, v = .tuple #[.slice b.1 ds.length b.2, .agg #[.int .i64 0, .int .i64 0]] ∧ disV w' (Nn w w') (ds.map diD) b
  | .error fl => v = .tuple #[.slice none 0 0, .agg #[.int .i64 (fl.1 : Nat), .int .i64 (fl.2 : Nat)]]) ∧ Ext w w'
theorem fRead_no {s : Str} (h : ¬ (readP s).2.1 = 0) : fRead s = .error (readP s).2 := if_neg h
theorem fRead_go {s : Str} (h : (readP s).2.1 = 0) : fRead s = fAll s.length 20001 [] (readP s).1 := if_pos h
section
variable {z n : Nat} {out : List Dt} {ts : List Tk}
theorem fA_end : fAll z (n + 1) out [] = .ok out := by rw [fAll, if_pos rfl]
theorem fA_kind (h0 : ts ≠ []) (h : ¬ ((nowT z ts).1 = 1 ∧ nameOk (nowT z ts).2.1 = true)) : fAll z (n + 1) out ts = .error (130, place z ts) := by
  rw [fAll, if_neg h0]; unfold fOne; rw [if_neg h]; rfl
theorem fA_there (h0 : ts ≠ []) (h : (nowT z ts).1 = 1 ∧ nameOk (nowT z ts).2.1 = true) (h2 : out.any (fun d => decide (d.nm = (nowT z ts).2.1)) = true) : fAll z (n + 1) out ts = .error (8, place z ts) := by
  rw [fAll, if_neg h0]; unfold fOne; rw [if_pos h, if_pos h2]; rfl
theorem fA_eq (h0 : ts ≠ []) (h : (nowT z ts).1 = 1 ∧ nameOk (nowT z ts).2.1 = true) (h2 : out.any (fun d => decide (d.nm = (nowT z ts).2.1)) = false) (h3 : isG [61] ts.tail = false) : fAll z (n + 1) out ts = .error (130, place z ts.tail) := by
  rw [fAll, if_neg h0]; unfold fOne wantG; rw [if_pos h, if_neg (by rw [h2]; decide), if_neg (by rw [h3]; decide)]; rfl
theorem fA_val {fl : Fl} (h0 : ts ≠ []) (h : (nowT z ts).1 = 1 ∧ nameOk (nowT z ts).2.1 = true) (h2 : out.any (fun d => decide (d.nm = (nowT z ts).2.1)) = false) (h3 : isG [61] ts.tail = true) (h4 : fVal z n ts.tail.tail = .error fl) : fAll z (n + 1) out ts = .error fl := by
  rw [fAll, if_neg h0]; unfold fOne wantG; rw [if_pos h, if_neg (by rw [h2]; decide), if_pos h3]; dsimp only; rw [h4]; rfl
theorem fA_semi {v : Bool × List Rt × Bool} {r : List Tk} (h0 : ts ≠ []) (h : (nowT z ts).1 = 1 ∧ nameOk (nowT z ts).2.1 = true) (h2 : out.any (fun d => decide (d.nm = (nowT z ts).2.1)) = false) (h3 : isG [61] ts.tail = true) (h4 : fVal z n ts.tail.tail = .ok (v, r)) (h5 : isG [59] r = false) : fAll z (n + 1) out ts = .error (130, place z r) := by
  rw [fAll, if_neg h0]; unfold fOne wantG; rw [if_pos h, if_neg (by rw [h2]; decide), if_pos h3]; dsimp only; rw [h4, andR_ok, if_neg (by rw [h5]; decide)]; rfl
theorem fA_ok {v : Bool × List Rt × Bool} {r : List Tk} (h0 : ts ≠ []) (h : (nowT z ts).1 = 1 ∧ nameOk (nowT z ts).2.1 = true) (h2 : out.any (fun d => decide (d.nm = (nowT z ts).2.1)) = false) (h3 : isG [61] ts.tail = true) (h4 : fVal z n ts.tail.tail = .ok (v, r)) (h5 : isG [59] r = true) : fAll z (n + 1) out ts = fAll z n (out ++ [⟨(nowT z ts).2.1, place z ts, v.1, v.2.2, v.2.1⟩]) r.tail := by
  rw [fAll, if_neg h0]; unfold fOne wantG; rw [if_pos h, if_neg (by rw [h2]; decide), if_pos h3]; dsimp only; rw [h4, andR_ok, if_pos h5]; rfl
end
abbrev seenL (out : List Dt) : List (List UInt8 × Value) := out.map fun d => (d.nm, Value.int .i64 1)
theorem seen_look (out : List Dt) (s : Str) : ((seenL out).lookup s).getD (.int .i64 0) = .int .i64 (if out.any (fun d => decide (d.nm = s)) = true then 1 else 0) := by
  induction out with
  | nil => rfl
  | cons d out ih =>
    show (List.lookup s ((d.nm, Value.int .i64 1) :: seenL out)).getD (.int .i64 0) = _
    rw [List.lookup_cons, List.any_cons]
    by_cases h : s = d.nm
    · rw [beq_iff_eq.2 h, decide_eq_true h.symm]; rfl
    · rw [beq_false_of_ne h, decide_eq_false (Ne.symm h), Bool.false_or]; exact ih
theorem seen_none {out : List Dt} {s : Str} (h : out.any (fun d => decide (d.nm = s)) = false) : ((seenL out).lookup s).isNone = true := by
  induction out with
  | nil => rfl
  | cons d out ih =>
    rw [List.any_cons, Bool.or_eq_false_iff] at h
    show (List.lookup s ((d.nm, Value.int .i64 1) :: seenL out)).isNone = true
    rw [List.lookup_cons, beq_false_of_ne (fun he => absurd he.symm (of_decide_eq_false h.1))]
    exact ih h.2
theorem fRead_ok (s : Str) (T : List Tk) (hTe : (readP s).1 = T) (w : World) (hs : s.length ≤ 1000000) (hW : Wd w) (hng : 11 ≤ w.heap.size) :
    Ret Tryz.prog 9 #[str s] w (RdF (fRead s) w) := by
  refine enter (S := No) (l := [_]) (L := []) 99 Tryz.func9 rfl rfl rfl (St.start w No) ?_; refine yA ?_; refine za (v := .slice _ _ _) rfl ?_; refine zA zr27 (fun t3b gt3b ut3b => ?_)
  refine yB ?_; refine c_scope ?_; refine yA ?_; refine zm (v := str _) rfl ?_; refine w_callW (R := fun v W => ∃ a c, v = .tuple #[.slice a T.length c, .agg #[.int .i64 ((readP s).2.1 : Nat), .int .i64 ((readP s).2.2 : Nat)]] ∧ Toks (.slice a T.length c) T W) (fun w => zR Tryz.func21 rfl rfl rfl) rfl rfl (fun w h => by subst hTe; exact Read_spec s (by omega) w (hW.now zm0 h).tb (hW.now zm0 h).gs) ?_
  rintro v W0 ⟨ta, tc, rfl, hO⟩
  refine w_st (fun w h => h.perm List.perm_append_comm) ?_; refine zm rfl ?_; refine jx rfl rfl ?_; refine jx rfl rfl ?_; refine zA zr27 (fun t5b gt5b ut5b => ?_)
  refine za (v := .slice _ _ _) rfl ?_; refine jv 0 z27 rfl ?_; refine yB ?_; refine zq ?_; refine yA ?_; refine zf fa27_0 rfl ?_; refine jM 0 z25 rfl ?_; refine jn rfl rfl ?_; refine yB ?_; refine zD rfl (fun h3 => ?_) (fun h3 => ?_)
  · refine zq ?_; refine c_heldI [0] mixed ?_; refine h_loadA 0 rfl (by kernel_rfl) (pk [0]) z27 rfl (fun _ h => h.at_ 0 rfl) rfl ?_; refine zh (v := .slice _ _ _) 1 rfl (by kernel_rfl) rfl rfl (pk [0]) (fun w h => R_assign rfl) ?_; refine zH2 2 (pk [0]) ?_; refine zJ 1 rfl rfl z27 rfl rfl rfl rfl rfl rfl rfl ?_; refine zN2 (pk [0]) ?_; refine zk ?_; refine ze ?_; refine zt (g_ret (?_))
    refine r_fin (.inl rfl) rfl (.tmp rfl rfl (.agg rfl rfl z27 (fun _ h => h.at_ 1 rfl) rfl .nil)) ?_; exact fun w' hw => by rw [fRead_no (by omega)]; exact ⟨rfl, hw.fr (w, No) zm0⟩
  have hz : (readP s).2.1 = 0 := (by omega)
  refine zi ?_; refine zk ?_; refine yA ?_; refine mS rfl ?_; refine zm (v := str _) rfl ?_; refine zg (fun _ => R_slen st9 rfl (by omega)) ?_; refine jb bt61 rfl ?_; refine w_boxA rfl (fun rb grb urb => ?_)
  refine za (v := .pointer _) rfl ?_; refine yC ?_; refine w_makeMapS (fun mb gmb umb => ?_)
  refine za rfl ?_; refine yC ?_; refine za (v := .slice _ _ _) rfl ?_; refine yB ?_; refine zq ?_; refine c_label ?_; refine zk ?_; refine zq ?_; refine zB ?_; refine c_st (B' := _) (L' := [(rb, Rr ta tc T.length s.length 0 0 0), (mb, mpS []), (t5b, _), (t3b, cel [.int .i64 0, .int .i64 0] 27)] ++ W0) (fun w h => by rw [rr_zero]; exact St.pickT [_, _, _, _] h [1, 0, 2, 3] (by decide)) ?_; refine c_join (L' := [(rb, Rr ta tc T.length s.length 0 0 0), (mb, mpS []), (t3b, cel [.int .i64 0, .int .i64 0] 27)] ++ []) (B0 := [(w, No)]) (by rw [List.append_nil]; exact .cons_cons _ (.cons_cons _ (.cons _ (.cons_cons _ (List.nil_sublist _))))) (fun x hx => hx) (fun w1 hw1 => ?_)
  obtain ⟨G, hPf, hGi, hGn⟩ := pf_init (L' := [(rb, Rr ta tc T.length s.length 0 0 0), (mb, mpS []), (t3b, cel [.int .i64 0, .int .i64 0] 27)]) hw1 (.cons_cons _ (.cons_cons _ (.cons _ (.cons_cons _ (List.nil_sublist _))))) zm0 hng (hW.now zm0 hw1) hO hTe (by have h9 := hz; false_or_by_contra; rename_i h8; rw [readP_long (by omega)] at h9; exact absurd h9 (by decide))
  have hGr : G rb := hGi rb zm0
  refine c_base (fun w2 hw2 => ?_)
  refine c_st (B' := _) (L' := [(rb, Rr ta tc T.length s.length (0) (0) (0)), (mb, mpS (seenL [])), (t3b, cel [.int .i64 0, .int .i64 0] 27)] ++ []) (fun w h => h) ?_
  refine c_loop (fun m e B L => ∃ (q k : Nat) (out : List Dt) (va : Option Addr) (vc : Nat) (ys : List Value) (W : Heap) (x : Bw), e 2 = .slice none 0 0 ∧ e 3 = pX t3b ∧ e 6 = pX rb ∧ e 7 = .map (some mb) ∧ e 8 = .slice va out.length vc ∧ B = [x, (w1, inL ([(rb, Rr ta tc T.length s.length 0 0 0), (mb, mpS []), (t3b, cel [.int .i64 0, .int .i64 0] 27)] ++ [])), (w, No)] ∧ L = [(rb, Rr ta tc T.length s.length (k) (0) (0)), (mb, mpS (seenL out)), (t3b, cel [.int .i64 0, .int .i64 0] 27)] ++ W ∧ k ≤ T.length ∧ fRead s = fAll s.length q out (T.drop k) ∧ T.length - k < q ∧ q ≤ 20001 ∧ Own 33 5 (.slice va out.length vc) ys out.length W ∧ Kt x w.heap.size (Mc 5 diC) (out.map diD) ys ∧ out.length ≤ k ∧ m = T.length - k + 1) _ ⟨20001, 0, [], none, 0, [], [], (w2, inL _), rfl, rfl, rfl, rfl, rfl, rfl, rfl, Nat.zero_le _, by rw [fRead_go hz, hTe]; rfl, by have := hPf.len; omega, by omega, Own.nil _ _, Mc.nil, Nat.zero_le _, rfl⟩ ?_
  rintro m e B L ⟨q, k, out, va, vc, ys, W, x, e2_1, e3_1, e6_1, e7_1, e8_1, rfl, rfl, hk, hG, hq, hq2, hO2, hKl, hol, rfl⟩
  have hlen := hPf.len; have hnb := nowT_b (k := k) hPf
  refine zq ?_; refine yA ?_; refine mP e6_1 ?_; refine zI rfl ?_; refine zf fa61_0 rfl ?_; refine jM 0 z59 rfl ?_; refine jj sl59 rfl ?_; refine jg rfl rfl ?_; refine yB ?_; refine zD rfl (fun h5 => ?_) (fun h5 => ?_)
  · have hlt : k < T.length := (by omega); have h0 : T.drop k ≠ [] := (fun h9 => by have := congrArg List.length h9; rw [List.length_drop] at this; simp at this; omega); obtain ⟨q', rfl⟩ : ∃ q', q = q' + 1 := ⟨q - 1, by omega⟩
    refine zi ?_; refine zk ?_; refine zB ?_; refine yA ?_; refine mP e6_1 ?_; refine jD Tryz.func22 (fun w h => fnow_ok rb s.length (k) (0) (0) G tc ta T w (hPf.now zm1 (fun j hj => hGi j (by simpa using hj)) h) (h.at_ 0 rfl) (by omega)) ?_; refine zA zr64 (fun t9b gt9b ut9b => ?_)
    refine jv 0 z64 rfl ?_; refine yB ?_; refine zq ?_; refine zB ?_; refine yA ?_; refine zf fa64_0 rfl ?_; refine jM 0 z5 rfl ?_; refine jn rfl rfl ?_; refine mB rfl ?_; refine zd (t := 38) rfl (fun h7 => ?_) (fun h7 => ?_)
    · refine zs rfl rfl (bT h7) ?_; refine zs rfl rfl (bT h7) ?_; refine zs rfl rfl (bT h7) ?_; refine zs rfl rfl (bT h7) ?_; refine jT (bT h7) rfl ?_; refine aB rfl ?_; refine yB ?_; refine zE rfl ?_; refine yA ?_; refine mP e6_1 ?_
      have hkn : ¬ ((nowT s.length (T.drop k)).1 = 1 ∧ nameOk (nowT s.length (T.drop k)).2.1 = true) := fun h9 => by first | omega | simp_all
      refine w_call1 1 rfl (fun w => zR Tryz.func24 rfl rfl rfl) rfl rfl (fun w h => ffail_ok 130 rb s.length (k) (0) (0) G tc ta T w (hPf.now zm1 (fun j hj => hGi j (by simpa using hj)) h) (h.at_ 1 rfl) (by omega) hGr) ?_; refine yB ?_; refine zX ?_; refine b_past rfl (zx (b_past rfl (zx (b_here rfl (zk ?_))))); refine zq ?_; refine yA ?_; refine mP e6_1 ?_; refine zI rfl ?_; refine zf fa61_2 rfl ?_; refine zf fa27_0 rfl ?_; refine jM 1 z25 rfl ?_; refine jn rfl rfl ?_; refine yB ?_; refine zD rfl (fun h8 => ?_) (fun h8 => ?_)
      · refine zq ?_; refine c_heldI [0, 1, 2] mixed ?_; refine zh (v := .pointer _) 0 rfl (by kernel_rfl) rfl rfl (pk [0, 1, 2]) (fun w h => R_move e6_1) ?_; refine zh2 1 rfl rfl (pk [0, 1, 2]) (fun w h => R_nil rfl) ?_; refine zh2 2 rfl rfl (pk [0, 1, 2]) (fun w h => R_fa fa61_2 rfl) ?_; refine h_loadA 3 rfl (by kernel_rfl) (pk [0, 1, 2]) z27 rfl (fun _ h => h.at_ 1 rfl) rfl ?_; refine zh (v := .slice _ _ _) 4 rfl (by kernel_rfl) rfl rfl (pk [0, 1, 2]) (fun w h => R_assign rfl) ?_; refine zH2 5 (pk [0, 1, 2]) ?_; refine zJ 3 rfl rfl z27 e3_1 rfl rfl rfl rfl rfl rfl ?_
        refine zN2 (pk [0, 1, 2]) ?_; refine zk ?_; refine ze ?_; refine zt (g_ret (?_))
        have hR : fRead s = .error (130, place s.length (T.drop (k))) := by rw [hG, fA_kind h0 hkn]
        rw [hR]
        refine r_fin (.inl rfl) rfl (.tmp rfl rfl (.agg rfl e3_1 z27 (fun _ h => h.at_ 3 rfl) rfl .nil)) ?_; exact fun w' hw => ⟨rfl, hw.fr (w, No) zm2⟩
      omega
    refine zw rfl rfl (bF h7) ?_; refine zf fa64_1 rfl ?_; refine zw rfl rfl (bF h7) ?_; refine jM 0 z9 rfl ?_; refine zw rfl rfl (bF h7) ?_; refine jD Tryz.func23 (fun w h => Name_spec (nowT s.length (T.drop k)).2.1 (by omega) w (hW.now zm2 h)) ?_; refine zw rfl rfl (bF h7) ?_; refine jk rfl ?_; refine jF (bF h7) rfl ?_; refine aB rfl ?_; refine yB ?_; refine c_condN rfl (fun h9 => ?_) (fun h9 => ?_)
    · refine yA ?_; refine mP e6_1 ?_
      have hkn : ¬ ((nowT s.length (T.drop k)).1 = 1 ∧ nameOk (nowT s.length (T.drop k)).2.1 = true) := fun h9 => by first | omega | simp_all
      refine w_call1 1 rfl (fun w => zR Tryz.func24 rfl rfl rfl) rfl rfl (fun w h => ffail_ok 130 rb s.length (k) (0) (0) G tc ta T w (hPf.now zm1 (fun j hj => hGi j (by simpa using hj)) h) (h.at_ 1 rfl) (by omega) hGr) ?_; refine yB ?_; refine zX ?_; refine b_past rfl (zx (b_past rfl (zx (b_here rfl (zk ?_))))); refine zq ?_; refine yA ?_; refine mP e6_1 ?_; refine zI rfl ?_; refine zf fa61_2 rfl ?_; refine zf fa27_0 rfl ?_; refine jM 1 z25 rfl ?_; refine jn rfl rfl ?_; refine yB ?_; refine zD rfl (fun h10 => ?_) (fun h10 => ?_)
      · refine zq ?_; refine c_heldI [0, 1, 2] mixed ?_; refine zh (v := .pointer _) 0 rfl (by kernel_rfl) rfl rfl (pk [0, 1, 2]) (fun w h => R_move e6_1) ?_; refine zh2 1 rfl rfl (pk [0, 1, 2]) (fun w h => R_nil rfl) ?_; refine zh2 2 rfl rfl (pk [0, 1, 2]) (fun w h => R_fa fa61_2 rfl) ?_; refine h_loadA 3 rfl (by kernel_rfl) (pk [0, 1, 2]) z27 rfl (fun _ h => h.at_ 1 rfl) rfl ?_; refine zh (v := .slice _ _ _) 4 rfl (by kernel_rfl) rfl rfl (pk [0, 1, 2]) (fun w h => R_assign rfl) ?_; refine zH2 5 (pk [0, 1, 2]) ?_; refine zJ 3 rfl rfl z27 e3_1 rfl rfl rfl rfl rfl rfl ?_
        refine zN2 (pk [0, 1, 2]) ?_; refine zk ?_; refine ze ?_; refine zt (g_ret (?_))
        have hR : fRead s = .error (130, place s.length (T.drop (k))) := by rw [hG, fA_kind h0 hkn]
        rw [hR]
        refine r_fin (.inl rfl) rfl (.tmp rfl rfl (.agg rfl e3_1 z27 (fun _ h => h.at_ 3 rfl) rfl .nil)) ?_; exact fun w' hw => ⟨rfl, hw.fr (w, No) zm2⟩
      omega
    refine yA ?_; refine zm e7_1 ?_; refine zf fa64_1 rfl ?_; refine jM 0 z9 rfl ?_
    have hkn : (nowT s.length (T.drop k)).1 = 1 ∧ nameOk (nowT s.length (T.drop k)).2.1 = true := ⟨by omega, by simp_all⟩
    cases hse : out.any (fun d => decide (d.nm = (nowT s.length (T.drop k)).2.1))
    · refine w_lookS (v := .int .i64 0) 2 rfl unm62 unk9 zr3 rfl rfl (by rw [seen_look, hse]; rfl) ?_; refine jg rfl rfl ?_; refine aB rfl ?_; refine yB ?_; refine zG bE ?_; refine zi ?_; refine zO (zk ?_); refine yA ?_; refine zm e7_1 ?_; refine zf fa64_1 rfl ?_; refine jM 0 z9 rfl ?_; refine w_updS 2 rfl unm62 unk9 rfl rfl rfl (seen_none hse) ?_; refine yC ?_; refine mP e6_1 ?_; refine mP e6_1 ?_; refine zI rfl ?_; refine zf fa61_0 rfl ?_; refine jM 1 z59 rfl ?_; refine zg (fun _ => R_low3 sl59 rfl rfl hlt hPf.le) ?_; refine zI rfl ?_
      refine zf fa61_0 rfl ?_; refine jv 1 z59 rfl ?_; refine yC ?_; refine zf fa64_1 rfl ?_; refine jM 0 z9 rfl ?_; refine zf fa64_2 rfl ?_; refine jM 0 z3 rfl ?_; refine jb bt33 rfl ?_; refine zA zr33 (fun db gdb udb => ?_)
      refine jv 0 z33 rfl ?_; refine yB ?_; refine zq ?_; refine yA ?_; refine mP e6_1 ?_
      cases heq : isG [61] (T.drop (k + 1))
      · refine w_call1 2 rfl (fun w => zR Tryz.func25 rfl rfl rfl) rfl rfl (fun w h => by have h9 := fwant_ok [61] rb s.length (k + 1) (0) (0) G tc ta T w (hPf.now zm1 (fun j hj => hGi j (by simpa using hj)) h) (h.at_ 2 rfl) (by omega) hGr; rw [heq, if_neg (by decide)] at h9; exact h9) ?_; refine jk rfl ?_; refine mB rfl ?_; (iterate 3 refine zs rfl rfl rfl ?_); refine jT rfl rfl ?_; refine mB rfl ?_; (iterate 3 refine zs rfl rfl rfl ?_); refine jT rfl rfl ?_; refine yB ?_; refine zE rfl ?_; refine zX ?_
        refine zx (b_past rfl (zx (b_here rfl (zk ?_)))); refine zq ?_; refine yA ?_; refine mP e6_1 ?_; refine zI rfl ?_; refine zf fa61_2 rfl ?_; refine zf fa27_0 rfl ?_; refine jM 2 z25 rfl ?_; refine jn rfl rfl ?_; refine yB ?_; refine zD rfl (fun h12 => ?_) (fun h12 => ?_)
        · refine zq ?_; refine c_heldI [0, 1, 2, 3] mixed ?_; refine zh (v := .pointer _) 0 rfl (by kernel_rfl) rfl rfl (pk [0, 1, 2, 3]) (fun w h => R_move e6_1) ?_; refine zh2 1 rfl rfl (pk [0, 1, 2, 3]) (fun w h => R_nil rfl) ?_; refine zh2 2 rfl rfl (pk [0, 1, 2, 3]) (fun w h => R_fa fa61_2 rfl) ?_; refine h_loadA 3 rfl (by kernel_rfl) (pk [0, 1, 2, 3]) z27 rfl (fun _ h => h.at_ 2 rfl) rfl ?_; refine zh (v := .slice _ _ _) 4 rfl (by kernel_rfl) rfl rfl (pk [0, 1, 2, 3]) (fun w h => R_assign rfl) ?_; refine zH2 5 (pk [0, 1, 2, 3]) ?_; refine zJ 4 rfl rfl z27 e3_1 rfl rfl rfl rfl rfl rfl ?_
          refine zN2 (pk [0, 1, 2, 3]) ?_; refine zk ?_; refine ze ?_; refine zt (g_ret (?_))
          have hR : fRead s = .error (130, place s.length (T.drop (k + 1))) := by rw [hG, fA_eq h0 hkn hse (by rw [drop_tl]; exact heq), drop_tl]
          rw [hR]
          refine r_fin (.inl rfl) rfl (.tmp rfl rfl (.agg rfl e3_1 z27 (fun _ h => h.at_ 4 rfl) rfl .nil)) ?_; exact fun w' hw => ⟨rfl, hw.fr (w, No) zm2⟩
        omega
      refine w_call1 2 rfl (fun w => zR Tryz.func25 rfl rfl rfl) rfl rfl (fun w h => by have h9 := fwant_ok [61] rb s.length (k + 1) (0) (0) G tc ta T w (hPf.now zm1 (fun j hj => hGi j (by simpa using hj)) h) (h.at_ 2 rfl) (by omega) hGr; rw [heq, if_pos rfl] at h9; exact h9) ?_
      have hltheq := isG_lt heq
      refine jk rfl ?_; refine mB rfl ?_; refine zw rfl rfl rfl ?_; refine mP e6_1 ?_; refine zw rfl rfl rfl ?_
      have hGd : G db := hGn db (udb _ zm1)
      refine w_st (B' := _) (L' := [_, _, _, _, _] ++ W) (fun w h => St.pickT [_, _, _, _, _] h [2, 0, 1, 3, 4] (by decide)) ?_; refine w_st (B' := _) (L' := ((rb, Rr ta tc T.length s.length (k + 1 + 1) 0 0) :: (db, Dd (nowT s.length (T.drop k)).2.1 (nowT s.length (T.drop k)).2.2 false true (.slice none 0 0)) :: []) ++ ([_, _, _] ++ W)) (fun w h => h) ?_
      refine w_callXh (X := ((rb, Rr ta tc T.length s.length (k + 1 + 1) 0 0) :: (db, Dd (nowT s.length (T.drop k)).2.1 (nowT s.length (T.drop k)).2.2 false true (.slice none 0 0)) :: [])) (R := ValQ rb db tc s.length 0 0 (k + 1 + 1) ta T (nowT s.length (T.drop k)).2.1 (nowT s.length (T.drop k)).2.2 (fVal s.length q' (T.drop (k + 1 + 1)))) (s0 := w.heap.size) ValQ.mono (fun w => zR Tryz.func26 rfl rfl rfl) rfl rfl (fun w1 h => (h.fr _ zm2).size) (fun w2 h N => value_ok rb db s.length (k + 1 + 1) 0 0 G tc q' ta T w2 (hPf.now zm1 (fun j hj => hGi j (by simpa using hj)) h) (by omega) (by omega) hGr hGd (fun j hj => hGn j (Nat.le_trans (h.fr _ zm1).size hj)) (nowT s.length (T.drop k)).2.1 (nowT s.length (T.drop k)).2.2 N (St.part (h.perm List.perm_append_comm))) (fun u9 X9 x9 hR9 => ?_)
      rcases hq9 : fVal s.length q' (T.drop (k + 1 + 1)) with fl9 | ⟨ar9, r9⟩
      · rw [hq9] at hR9; obtain ⟨rfl, k9, Y9, hk9, rfl⟩ := hR9; have hne9 := (fVal_er (Bnd.drop ((readP_at s).1) hTe _) (by rw [List.length_drop]; omega) hq9).1
        refine w_st (B' := _) (L' := [_, _]) (fun w h => h.drop (.cons_cons _ (.trans (.cons _ (.cons _ (.cons_cons _ (List.nil_sublist _)))) (List.sublist_append_right Y9 _)))) ?_; refine zw rfl rfl rfl ?_; refine jk rfl ?_; refine jF rfl rfl ?_; refine mB rfl ?_; (iterate 3 refine zs rfl rfl rfl ?_); refine jT rfl rfl ?_; refine yB ?_; refine zE rfl ?_; refine zX ?_; refine zx (b_past rfl (zx (b_here rfl (zk ?_)))); refine zq ?_; refine yA ?_; refine mP e6_1 ?_; refine zI rfl ?_; refine zf fa61_2 rfl ?_; refine zf fa27_0 rfl ?_; refine jM 0 z25 rfl ?_
        refine jn rfl rfl ?_; refine yB ?_; refine zD rfl (fun h13 => ?_) (fun h13 => ?_)
        · refine zq ?_; refine c_heldI [0] mixed ?_; refine zh (v := .pointer _) 0 rfl (by kernel_rfl) rfl rfl (pk [0]) (fun w h => R_move e6_1) ?_; refine zh2 1 rfl rfl (pk [0]) (fun w h => R_nil rfl) ?_; refine zh2 2 rfl rfl (pk [0]) (fun w h => R_fa fa61_2 rfl) ?_; refine h_loadA 3 rfl (by kernel_rfl) (pk [0]) z27 rfl (fun _ h => h.at_ 0 rfl) rfl ?_; refine zh (v := .slice _ _ _) 4 rfl (by kernel_rfl) rfl rfl (pk [0]) (fun w h => R_assign rfl) ?_; refine zH2 5 (pk [0]) ?_; refine zJ 1 rfl rfl z27 e3_1 rfl rfl rfl rfl rfl rfl ?_; refine zN2 (pk [0]) ?_
          refine zk ?_; refine ze ?_; refine zt (g_ret (?_))
          have hR : fRead s = .error (fl9.1, fl9.2) := by rw [hG, fA_val h0 hkn hse (by rw [drop_tl]; exact heq) (by rw [drop_tl, drop_tl]; exact hq9)]
          rw [hR]
          refine r_fin (.inl rfl) rfl (.tmp rfl rfl (.agg rfl e3_1 z27 (fun _ h => h.at_ 1 rfl) rfl .nil)) ?_; exact fun w' hw => ⟨rfl, hw.fr (w, No) zm3⟩
        omega
      rw [hq9] at hR9; obtain ⟨rfl, k9, v9, xs9, W9, rfl, hk9, hkl9, rfl, hO9, hK9, hnl9⟩ := hR9; obtain ⟨va9, vc9, rfl⟩ := hO9.slice
      refine zw rfl rfl rfl ?_; refine jk rfl ?_; refine jF rfl rfl ?_; refine mB rfl ?_; refine zw rfl rfl rfl ?_; refine mP e6_1 ?_; refine zw rfl rfl rfl ?_
      cases hsc : isG [59] (T.drop (k9))
      · refine w_call1 0 rfl (fun w => zR Tryz.func25 rfl rfl rfl) rfl rfl (fun w h => by have h9 := fwant_ok [59] rb s.length (k9) (0) (0) G tc ta T w (hPf.now zm2 (fun j hj => hGi j (by simpa using hj)) h) (h.at_ 0 rfl) (by omega) hGr; rw [hsc, if_neg (by decide)] at h9; exact h9) ?_; refine w_st (B' := _) (L' := [_, _]) (fun w h => h.drop (.cons_cons _ (.cons _ (.trans (.cons _ (.cons _ (.cons_cons _ (List.nil_sublist _)))) (List.sublist_append_right W9 _))))) ?_; refine zw rfl rfl rfl ?_; refine jk rfl ?_; refine jF rfl rfl ?_; refine yB ?_; refine zE rfl ?_; refine zX ?_; refine zx (b_past rfl (zx (b_here rfl (zk ?_)))); refine zq ?_; refine yA ?_; refine mP e6_1 ?_
        refine zI rfl ?_; refine zf fa61_2 rfl ?_; refine zf fa27_0 rfl ?_; refine jM 0 z25 rfl ?_; refine jn rfl rfl ?_; refine yB ?_; refine zD rfl (fun h14 => ?_) (fun h14 => ?_)
        · refine zq ?_; refine c_heldI [0] mixed ?_; refine zh (v := .pointer _) 0 rfl (by kernel_rfl) rfl rfl (pk [0]) (fun w h => R_move e6_1) ?_; refine zh2 1 rfl rfl (pk [0]) (fun w h => R_nil rfl) ?_; refine zh2 2 rfl rfl (pk [0]) (fun w h => R_fa fa61_2 rfl) ?_; refine h_loadA 3 rfl (by kernel_rfl) (pk [0]) z27 rfl (fun _ h => h.at_ 0 rfl) rfl ?_; refine zh (v := .slice _ _ _) 4 rfl (by kernel_rfl) rfl rfl (pk [0]) (fun w h => R_assign rfl) ?_; refine zH2 5 (pk [0]) ?_; refine zJ 1 rfl rfl z27 e3_1 rfl rfl rfl rfl rfl rfl ?_; refine zN2 (pk [0]) ?_
          refine zk ?_; refine ze ?_; refine zt (g_ret (?_))
          have hR : fRead s = .error (130, place s.length (T.drop (k9))) := by rw [hG, fA_semi h0 hkn hse (by rw [drop_tl]; exact heq) (by rw [drop_tl, drop_tl]; exact hq9) hsc]
          rw [hR]
          refine r_fin (.inl rfl) rfl (.tmp rfl rfl (.agg rfl e3_1 z27 (fun _ h => h.at_ 1 rfl) rfl .nil)) ?_; exact fun w' hw => ⟨rfl, hw.fr (w, No) zm3⟩
        omega
      refine w_call1 0 rfl (fun w => zR Tryz.func25 rfl rfl rfl) rfl rfl (fun w h => by have h9 := fwant_ok [59] rb s.length (k9) (0) (0) G tc ta T w (hPf.now zm2 (fun j hj => hGi j (by simpa using hj)) h) (h.at_ 0 rfl) (by omega) hGr; rw [hsc, if_pos rfl] at h9; exact h9) ?_
      have hlthsc := isG_lt hsc
      refine zw rfl rfl rfl ?_; refine jk rfl ?_; refine jF rfl rfl ?_; refine yB ?_; refine zG rfl ?_; refine zi ?_; refine zk ?_; refine zr ?_; refine mS e8_1 ?_; refine jy 1 z33 rfl rfl ?_; refine zS slt24 (by decide) rfl rfl (fun b15 gb15 ub15 => ?_)
      refine w_st (B' := _) (L' := ([_, _, _] ++ (W9 ++ [_, _, _])) ++ (W ++ [])) (fun w h => by rw [List.append_nil, List.append_assoc, List.append_assoc]; exact h) ?_; refine w_app (L := []) (W := W) (news := diE (diD ⟨(nowT s.length (T.drop k)).2.1, (nowT s.length (T.drop k)).2.2, ar9.1, ar9.2.2, ar9.2.1⟩) (va9, vc9)) ([_, _, _] ++ (W9 ++ [_, _, _])) slt24 (by decide) rfl hO2 rfl rfl (row_own 0 rfl (fun j u h => by rw [show diE (diD ⟨(nowT s.length (T.drop k)).2.1, (nowT s.length (T.drop k)).2.2, ar9.1, ar9.2.2, ar9.2.1⟩) (va9, vc9) = [str (nowT s.length (T.drop k)).2.1, .int .i64 ((nowT s.length (T.drop k)).2.2 : Nat), .bool ar9.1, .bool ar9.2.2, .slice va9 ar9.2.1.length vc9] by simp only [diE, diD, List.length_map]] at h; exact h)) rfl (by decide) (by omega) (by omega) (fun v2 W2 hO3 => ?_)
      obtain ⟨a2, c2, rfl⟩ := hO3.slice
      refine za (v := .slice a2 (out.length + 1) c2) rfl ?_; refine zn ?_; refine zO (?_)
      refine zK (B' := _) (L' := [_, (rb, Rr ta tc T.length s.length (k9 + 1) 0 0), _] ++ (W9 ++ ([_, (mb, mpS (seenL (out ++ [(⟨(nowT s.length (T.drop k)).2.1, (nowT s.length (T.drop k)).2.2, ar9.1, ar9.2.2, ar9.2.1⟩ : Dt)]))), (t3b, cel [.int .i64 0, .int .i64 0] 27)] ++ W2))) (fun w h => by rw [show seenL (out ++ [(⟨(nowT s.length (T.drop k)).2.1, (nowT s.length (T.drop k)).2.2, ar9.1, ar9.2.2, ar9.2.1⟩ : Dt)]) = seenL out ++ [((nowT s.length (T.drop k)).2.1, Value.int .i64 1)] from List.map_append]; simp only [List.append_nil, List.append_assoc] at h; exact h) ?_
      refine k_join (L' := ([(rb, Rr ta tc T.length s.length (k9 + 1) 0 0), (mb, mpS (seenL (out ++ [(⟨(nowT s.length (T.drop k)).2.1, (nowT s.length (T.drop k)).2.2, ar9.1, ar9.2.2, ar9.2.1⟩ : Dt)]))), (t3b, cel [.int .i64 0, .int .i64 0] 27)] ++ W2)) (B0 := [(w1, inL ([(rb, Rr ta tc T.length s.length 0 0 0), (mb, mpS []), (t3b, cel [.int .i64 0, .int .i64 0] 27)] ++ [])), (w, No)]) (.cons _ (.cons_cons _ (.cons _ (.trans (.cons _ (.cons_cons _ (.cons_cons _ (List.Sublist.refl _)))) (List.sublist_append_right W9 _))))) (fun x hx => by rcases List.mem_cons.1 hx with rfl | hx; (exact zm2); (rcases List.mem_cons.1 hx with rfl | hx; (exact zm3); (exact absurd hx (by simp)))) (fun w5 hw5 => ?_)
      have hA5 : Kt (w5, inL ([(rb, Rr ta tc T.length s.length (k9 + 1) 0 0), (mb, mpS (seenL (out ++ [(⟨(nowT s.length (T.drop k)).2.1, (nowT s.length (T.drop k)).2.2, ar9.1, ar9.2.2, ar9.2.1⟩ : Dt)]))), (t3b, cel [.int .i64 0, .int .i64 0] 27)] ++ W2)) w.heap.size (Mc 5 diC) (out.map diD) ys := (hKl.now (TL.cells TL.dic) zm1 hw5).sub (TL.cells TL.dic) (.cons _ (.cons_cons _ (.cons _ (.trans (.cons _ (.cons_cons _ (.cons_cons _ (List.Sublist.refl _)))) (List.sublist_append_right W9 _)))))
      have hN5 : Kt (w5, inL ([(rb, Rr ta tc T.length s.length (k9 + 1) 0 0), (mb, mpS (seenL (out ++ [(⟨(nowT s.length (T.drop k)).2.1, (nowT s.length (T.drop k)).2.2, ar9.1, ar9.2.2, ar9.2.1⟩ : Dt)]))), (t3b, cel [.int .i64 0, .int .i64 0] 27)] ++ W2)) w.heap.size (Mc 3 rwC) (ar9.2.1.map rwR) xs9 := ((show Kt x9 w.heap.size (Mc 3 rwC) (ar9.2.1.map rwR) xs9 from hK9).now (TL.cells TL.rwc) zm0 hw5).sub (TL.cells TL.rwc) (.cons _ (.cons_cons _ (.cons _ (.trans (.cons _ (.cons_cons _ (.cons_cons _ (List.Sublist.refl _)))) (List.sublist_append_right W9 _)))))
      have hD5 : Kt (w5, inL ([(rb, Rr ta tc T.length s.length (k9 + 1) 0 0), (mb, mpS (seenL (out ++ [(⟨(nowT s.length (T.drop k)).2.1, (nowT s.length (T.drop k)).2.2, ar9.1, ar9.2.2, ar9.2.1⟩ : Dt)]))), (t3b, cel [.int .i64 0, .int .i64 0] 27)] ++ W2)) w.heap.size diT (diD (⟨(nowT s.length (T.drop k)).2.1, (nowT s.length (T.drop k)).2.2, ar9.1, ar9.2.2, ar9.2.1⟩ : Dt)) (va9, vc9) := row_kt (A1 := [_, _, _]) (A2 := [_, _, _] ++ W2) (l := ar9.2.1.map rwR) hw5 (.cons _ (.cons_cons _ (.cons _ (.cons _ (.cons_cons _ (.cons_cons _ (List.Sublist.refl _))))))) zm3 (by rw [List.length_map]; exact hO9) hN5
      exact k_again _ (by omega) ⟨q', k9 + 1, out ++ [(⟨(nowT s.length (T.drop k)).2.1, (nowT s.length (T.drop k)).2.2, ar9.1, ar9.2.2, ar9.2.1⟩ : Dt)], a2, c2, _, W2, (w5, inL _), e2_1, e3_1, e6_1, e7_1, (by rw [List.length_append, List.length_singleton]; rfl), rfl, rfl, by omega, (by rw [hG, fA_ok h0 hkn hse (by rw [drop_tl]; exact heq) (by rw [drop_tl, drop_tl]; exact hq9) hsc, drop_tl, place_now]), by omega, by omega, by rw [List.length_append, List.length_singleton]; exact hO3, (by rw [List.map_append]; exact hA5.snocI hD5 (by rw [List.length_map]; exact hO2.1)), by rw [List.length_append, List.length_singleton]; omega, rfl⟩
    refine w_lookS (v := .int .i64 1) 2 rfl unm62 unk9 zr3 rfl rfl (by rw [seen_look, hse]; rfl) ?_; refine jg rfl rfl ?_; refine aB rfl ?_; refine yB ?_; refine zE bD ?_; refine yA ?_; refine mP e6_1 ?_; refine w_call1 1 rfl (fun w => zR Tryz.func24 rfl rfl rfl) rfl rfl (fun w h => ffail_ok 8 rb s.length (k) (0) (0) G tc ta T w (hPf.now zm1 (fun j hj => hGi j (by simpa using hj)) h) (h.at_ 1 rfl) (by omega) hGr) ?_; refine yB ?_; refine zX ?_; refine b_past rfl (zx (b_past rfl (zx (b_here rfl (zk ?_))))); refine zq ?_; refine yA ?_
    refine mP e6_1 ?_; refine zI rfl ?_; refine zf fa61_2 rfl ?_; refine zf fa27_0 rfl ?_; refine jM 1 z25 rfl ?_; refine jn rfl rfl ?_; refine yB ?_; refine zD rfl (fun h16 => ?_) (fun h16 => ?_)
    · refine zq ?_; refine c_heldI [0, 1, 2] mixed ?_; refine zh (v := .pointer _) 0 rfl (by kernel_rfl) rfl rfl (pk [0, 1, 2]) (fun w h => R_move e6_1) ?_; refine zh2 1 rfl rfl (pk [0, 1, 2]) (fun w h => R_nil rfl) ?_; refine zh2 2 rfl rfl (pk [0, 1, 2]) (fun w h => R_fa fa61_2 rfl) ?_; refine h_loadA 3 rfl (by kernel_rfl) (pk [0, 1, 2]) z27 rfl (fun _ h => h.at_ 1 rfl) rfl ?_; refine zh (v := .slice _ _ _) 4 rfl (by kernel_rfl) rfl rfl (pk [0, 1, 2]) (fun w h => R_assign rfl) ?_; refine zH2 5 (pk [0, 1, 2]) ?_; refine zJ 3 rfl rfl z27 e3_1 rfl rfl rfl rfl rfl rfl ?_
      refine zN2 (pk [0, 1, 2]) ?_; refine zk ?_; refine ze ?_; refine zt (g_ret (?_))
      have hR : fRead s = .error (8, place s.length (T.drop (k))) := by rw [hG, fA_there h0 hkn hse]
      rw [hR]
      refine r_fin (.inl rfl) rfl (.tmp rfl rfl (.agg rfl e3_1 z27 (fun _ h => h.at_ 3 rfl) rfl .nil)) ?_; exact fun w' hw => ⟨rfl, hw.fr (w, No) zm2⟩
    omega
  have hke : k = T.length := (by omega); obtain ⟨q', rfl⟩ : ∃ q', q = q' + 1 := ⟨q - 1, by omega⟩
  refine zX ?_; refine zx (zx (b_here rfl (zk ?_))); refine zq ?_; refine yA ?_; refine mP e6_1 ?_; refine zI rfl ?_; refine zf fa61_2 rfl ?_; refine zf fa27_0 rfl ?_; refine jM 0 z25 rfl ?_; refine jn rfl rfl ?_; refine yB ?_; refine zD rfl (fun h17 => ?_) (fun h17 => ?_)
  · omega
  refine zi ?_; refine zk ?_; refine yA ?_; refine mS e8_1 ?_; refine jb bt27 rfl ?_; refine za (v := .slice _ _ _) rfl ?_; refine ju 2 z27 e3_1 rfl rfl ?_; refine yB ?_; refine ze ?_; refine g_ret (?_)
  have hR : fRead s = .ok out := by rw [hG, hke, List.drop_length]; exact fA_end
  rw [hR]
  refine zK (B' := _) (L' := [_, _, _] ++ W) (fun w h => h) ?_; refine r_fin (.inl rfl) rfl (.tmp rfl rfl (.agg rfl e3_1 z27 (fun _ h => h.at_ 2 rfl) rfl .nil)) ?_; exact fun w' hw => ⟨⟨(va, vc), rfl, by obtain ⟨b, hb, hr⟩ := own_row (l := out.map diD) (by rw [List.length_map]; exact hO2) (fun p hp => hw.own p (List.mem_append_right _ hp)) (N := Nn w w') (fun p hp => ⟨(hw.ok p (List.mem_append_right _ hp) (w, No) zm2).elim (fun h => h.elim) (fun h => h), lt_of_blk (hw.own p (List.mem_append_right _ hp))⟩) (hKl.fin (TL.cells TL.dic) zm0 hw); simp only [Value.slice.injEq] at hb; obtain ⟨h1, _, h2⟩ := hb; have h3 : b = (va, vc) := Prod.ext h1.symm h2.symm; rw [h3] at hr; exact hr⟩, hw.fr (w, No) zm2⟩
end Go.Proofs.YtikdkendinnalaaGreatDoor
end
section
namespace Go.Proofs.YtikdkendinnalaaGreatDoor
open Go.RowKit Go.Sx
open Go.Tok Go.Tree Go.Prs Go.Feed Go.Num
theorem _root_.Go.Sx.Kn.kt {x : Bw} {s0 : Nat} {a : Option Addr} {k c n : Nat} {B : Base} {L : Heap} {w : World} (h : Kn x a k c n) (hx : x ∈ B) (hw : St B L w) (f : Fsh s0 a k) : NmN w (Nb s0 (w, inL L)) a k c n := by
  have hT : TL (fun (w : World) (N : Nat → Prop) (_ _ : Unit) => NmN w N a k c n) := ⟨fun h hf hn => h.fr hf hn, fun h hn => h.mono hn⟩
  exact (show Kt x s0 (fun (w : World) (N : Nat → Prop) (_ _ : Unit) => NmN w N a k c n) () () from h.toN f).now hT hx hw
def DisB (l : List Di) : Prop := l.length ≤ 100000 ∧ ∀ d ∈ l, d.nums.length ≤ 100000 ∧ d.nm.length ≤ 30000 ∧ ∀ x ∈ d.nums, x.p ≤ 900000 ∧ x.q ≤ 900000
theorem findD_take {l : List Di} {nm : Str} {i : Nat} {d : Di} (hd : l[i]? = some d) (h : findD (l.take i) nm = none) : findD (l.take (i + 1)) nm = (if d.nm = nm then some d else none) := by
  obtain ⟨hi, rfl⟩ := List.getElem?_eq_some_iff.1 hd
  unfold findD at *
  rw [List.take_succ_eq_append_getElem hi, List.find?_append, h]
  by_cases hc : l[i].nm = nm
  · rw [if_pos hc]; simp [hc]
  rw [if_neg hc]; simp [hc]
theorem findD_hit {l : List Di} {nm : Str} {i : Nat} {d : Di} (hd : l[i]? = some d) (h : findD (l.take i) nm = none) (hc : d.nm = nm) : findD l nm = some d := by
  have h1 := findD_take hd h
  rw [if_pos hc] at h1
  unfold findD at *
  rw [← List.take_append_drop (i + 1) l, List.find?_append, h1]; rfl
def FindF (X : Option Di) (w : World) : Value → World → Prop := fun v w' =>
  (match X with
  | some d => ∃ b : Option Addr × Nat, v = .tuple #[.agg (diE d b).toArray, .bool true] ∧ diT w' (Nn w w') d b
  | none => v = .tuple #[.agg #[str [], .int .i64 0, .bool false, .bool false, .slice none 0 0], .bool false]) ∧ Ext w w'
theorem Find_ok (l : List Di) (nm : Str) (va : Option Addr) (vc : Nat) (w : World) (hD : disV w (fun _ => True) l (va, vc)) (hB : DisB l) :
    Ret Tryz.prog 12 #[.slice va l.length vc, str nm] w (FindF (findD l nm) w) := by
  have hlB := hB.1
  refine enter (S := No) (l := [_, _]) (L := []) 48 Tryz.func12 rfl rfl rfl (St.start w No) ?_; refine yA ?_; refine zA zr33 (fun t4b gt4b ut4b => ?_)
  refine aB rfl ?_; refine yB ?_; refine zq ?_; refine yA ?_; refine mS rfl ?_; refine jj sl24 rfl ?_; refine mI rfl ?_; refine yB ?_; refine zB ?_; refine c_loop (fun m9 e B L => ∃ (i : Nat), e 4 = pX t4b ∧ e 11 = .slice va l.length vc ∧ e 12 = .int .i64 (l.length : Nat) ∧ e 13 = .int .i64 (i : Nat) ∧ e 1 = str nm ∧ B = [(w, No)] ∧ L = [(t4b, cel [str [], .int .i64 0, .bool false, .bool false, .slice none 0 0] 33)] ∧ i ≤ l.length ∧ findD (l.take i) nm = none ∧ m9 = l.length - i) _ ⟨0, rfl, rfl, rfl, rfl, rfl, rfl, rfl, Nat.zero_le _, rfl, rfl⟩ ?_
  rintro m9 e B L ⟨i, e4_1, e11_1, e12_1, e13_1, e1_1, rfl, rfl, hi, hf, rfl⟩
  refine yA ?_; refine zg (fun _ => R_ltN (a := i) (b := (l.length)) e13_1 e12_1) ?_; refine yB ?_; refine zq ?_; refine zD rfl (fun h2 => ?_) (fun h2 => ?_)
  · have hi2 : i < l.length := (by omega); obtain ⟨d7, hd7⟩ : ∃ d, l[i]? = some d := ⟨_, List.getElem?_eq_getElem hi2⟩; obtain ⟨cs7, hA7, ⟨an7, cn7⟩, rfl, hT7⟩ := hD.2 i d7 hd7; obtain ⟨q7, o7, rfl, hne7, hc7⟩ := hA7; obtain ⟨hB7, hBn7, hBx7⟩ := hB.2 d7 (List.mem_of_getElem? hd7)
    refine zi ?_; refine zk ?_; refine zq ?_; refine zB ?_; refine yA ?_; refine zg (fun _ => R_iaN (i := i) sl24 e11_1 e13_1 (by first | omega | decide | exact Nat.succ_pos _ | exact Nat.succ_lt_succ (Nat.succ_pos _))) ?_; refine w_loadC (l := diE d7 (an7, cn7)) z33 rfl rfl (fun w h j v hj => cel_old zm0 (hc7 j v hj) (fun x => x) h) ?_; refine zA zr33 (fun t7b gt7b ut7b => ?_)
    refine jv 0 z33 rfl ?_; refine yC ?_; refine zf fa33_0 rfl ?_; refine jM 0 z9 rfl ?_; refine zm (v := str _) e1_1 ?_; refine js rfl rfl ?_; refine yB ?_; refine zD rfl (fun h4 => ?_) (fun h4 => ?_)
    · have heq : d7.nm = nm := (by simpa using h4)
      refine yA ?_; refine za (v := .slice _ _ _) rfl ?_; refine yB ?_; refine zq ?_; refine yA ?_; refine zf fa33_4 rfl ?_; refine jM 0 z31 rfl ?_; refine jj sl31 rfl ?_; refine mI rfl ?_; refine yB ?_; refine zB ?_; refine c_base (fun w1 hw1 => ?_)
      refine c_st (B' := _) (L' := [(t7b, cel (diE d7 (an7, cn7)) 33), (t4b, cel [str [], .int .i64 0, .bool false, .bool false, .slice none 0 0] 33)] ++ []) (fun w h => h) ?_; refine c_loop (fun m9 e B L => ∃ (k8 : Nat) (va8 : Option Addr) (vc8 : Nat) (ys : List Value) (W : Heap) (x : Bw), e 4 = pX t4b ∧ e 7 = pX t7b ∧ e 8 = .slice va8 k8 vc8 ∧ e 22 = .slice an7 d7.nums.length cn7 ∧ e 23 = .int .i64 (d7.nums.length : Nat) ∧ e 24 = .int .i64 (k8 : Nat) ∧ B = [x, (w, No)] ∧ L = [(t7b, cel (diE d7 (an7, cn7)) 33), (t4b, cel [str [], .int .i64 0, .bool false, .bool false, .slice none 0 0] 33)] ++ W ∧ k8 ≤ d7.nums.length ∧ Own 46 3 (.slice va8 k8 vc8) ys k8 W ∧ Kt x w.heap.size (Mc 3 rwC) (d7.nums.take k8) ys ∧ m9 = d7.nums.length - k8) _ ⟨0, none, 0, [], [], _, e4_1, rfl, rfl, rfl, rfl, rfl, rfl, rfl, Nat.zero_le _, Own.nil _ _, Mc.nil, rfl⟩ ?_
      rintro m9 e B L ⟨k8, va8, vc8, ys, W, x, e4_2, e7_2, e8_2, e22_2, e23_2, e24_2, rfl, rfl, hk8, hO, hKl, rfl⟩
      refine yA ?_; refine zg (fun _ => R_ltN (a := k8) (b := (d7.nums.length)) e24_2 e23_2) ?_; refine yB ?_; refine zq ?_; refine zD rfl (fun h5 => ?_) (fun h5 => ?_)
      · have hk2 : k8 < d7.nums.length := (by omega); obtain ⟨xr, hxr⟩ : ∃ x, d7.nums[k8]? = some x := ⟨_, List.getElem?_eq_getElem hk2⟩; obtain ⟨cs8, hA8, br, rfl, hTr⟩ := hT7.2 k8 xr hxr; obtain ⟨q8, o8, hq8, hne8, hc8⟩ := hA8; dsimp only at hq8; have hBxr := hBx7 xr (List.mem_of_getElem? hxr)
        refine zi ?_; refine zk ?_; refine zq ?_; refine zB ?_; refine yA ?_; refine zg (fun _ => R_iaN (i := k8) sl31 (e22_2.trans (congrArg (fun z => Value.slice z _ _) hq8)) e24_2 hk2) ?_; refine w_loadC (l := rwE xr br) z46 rfl rfl (fun w h j v hj => cel_old zm1 (hc8 j v hj) (fun x => x) h) ?_; refine zA zr46 (fun t10b gt10b ut10b => ?_)
        refine jv 0 z46 rfl ?_; refine yB ?_; refine zq ?_; refine c_heldI [1, 2] mixed ?_; refine zh2 0 rfl rfl (pk [1, 2]) (fun w h => R_fa fa46_0 rfl) ?_; refine zh2 1 rfl rfl (pk [1, 2]) (fun w h => R_fa fa44_1 rfl) ?_; refine zh2 4 rfl rfl (pk [1, 2]) (fun w h => R_fa fa46_1 rfl) ?_; refine h_two 2 5 (by kernel_rfl) (pk [1, 2]) ?_ ?_
        · refine o_run (v := .slice _ _ _) rfl rfl rfl (fun w h => R_ld1 z42 rfl (zc 0 rfl rfl h)) ?_; refine h_two 3 5 (by kernel_rfl) (pk [1, 2]) ?_ ?_
          · refine o_tel rfl (wn_none rfl) rfl (fun w => zR Tryz.func34 rfl rfl rfl) (fun w h => Clone_ok w ((Kn.old hTr.n.nm).at_ 1 rfl h) (by omega)) (fun x7 a7 c7 hK7 hN7 => ?_)
            refine zH2 5 (fun w h => (h.unbase (fun x hx => .tail _ (hx))).pick [1, 2] (by decide)) ?_; refine o_run (v := .slice _ _ _) rfl rfl rfl (fun w h => R_ld1 z42 rfl (zc 0 rfl rfl h)) ?_; refine zh2 7 rfl rfl (fun w h => (h.unbase (fun x hx => .tail _ (hx))).pick [1, 2] (by decide)) (fun w h => R_fa fa46_0 rfl) ?_; refine zh2 8 rfl rfl (fun w h => (h.unbase (fun x hx => .tail _ (hx))).pick [1, 2] (by decide)) (fun w h => R_fa fa44_1 rfl) ?_; refine zH2 6 (fun w h => (h.unbase (fun x hx => .tail _ (hx))).pick [1, 2] (by decide)) ?_; refine o_tel rfl (wn_none rfl) rfl (fun w => zR Tryz.func34 rfl rfl rfl) (fun w h => Clone_ok w ((Kn.old hTr.d.nm).at_ 2 rfl h) (by omega)) (fun x8 a8 c8 hK8 hN8 => ?_)
            refine zH2 9 (fun w h => (h.unbase (fun x hx => .tail _ (.tail _ (hx)))).pick [1, 2] (by decide)) ?_; refine zJ 0 rfl rfl z42 rfl rfl rfl rfl rfl rfl rfl ?_; refine zh2 10 rfl rfl (fun w h => (h.unbase (fun x hx => .tail _ (.tail _ (hx)))).pick [1, 2] (by decide)) (fun w h => R_fa fa46_1 rfl) ?_; refine zH2 11 (fun w h => (h.unbase (fun x hx => .tail _ (.tail _ (hx)))).pick [1, 2] (by decide)) ?_; refine zJ 0 rfl rfl z42 rfl rfl rfl rfl rfl rfl rfl ?_; refine zN2 (fun w h => (h.unbase (fun x hx => .tail _ (.tail _ (hx)))).pick [1, 2] (by decide)) ?_; refine zk ?_; refine zr ?_; refine mS e8_2 ?_; refine jy 0 z46 rfl rfl ?_; refine zS slt31 (by decide) rfl rfl (fun sb gsb usb => ?_)
            refine w_st (B' := _) (L' := [_, _, _, _] ++ (W ++ [])) (fun w h => by rw [List.append_nil]; exact h) ?_; refine w_app (L := []) (W := W) (news := rwE xr ((a7, c7), (a8, c8))) [_, _, _, _] slt31 (by decide) rfl hO rfl rfl (row_own 0 rfl (fun j u h => h)) rfl (by decide) (by omega) (by omega) (fun v2 W2 hO2 => ?_)
            obtain ⟨a2, c2, rfl⟩ := hO2.slice
            refine za (v := .slice a2 (k8 + 1) c2) rfl ?_; refine zn ?_; refine zO (zk ?_); refine zr ?_; refine zg (fun _ => R_addN (n := k8) (b := 1) e24_2 rfl (by omega)) ?_; refine mI rfl ?_; refine zn ?_; refine zK (B' := _) (L' := [_, _] ++ ([(t7b, cel (diE d7 (an7, cn7)) 33), (t4b, cel [str [], .int .i64 0, .bool false, .bool false, .slice none 0 0] 33)] ++ W2)) (fun w h => by simp only [List.append_nil] at h; exact h) ?_; refine k_join (L' := [(t7b, cel (diE d7 (an7, cn7)) 33), (t4b, cel [str [], .int .i64 0, .bool false, .bool false, .slice none 0 0] 33)] ++ W2) (B0 := [(w, No)]) (.cons _ (.cons _ (List.Sublist.refl _))) (fun x hx => by rcases List.mem_cons.1 hx with rfl | hx; (exact zm3); (exact absurd hx (by simp))) (fun w5 hw5 => ?_)
            have hA5 : Kt (w5, inL ([(t7b, cel (diE d7 (an7, cn7)) 33), (t4b, cel [str [], .int .i64 0, .bool false, .bool false, .slice none 0 0] 33)] ++ W2)) w.heap.size (Mc 3 rwC) (d7.nums.take k8) ys := (hKl.now (TL.cells TL.rwc) zm2 hw5).sub (TL.cells TL.rwc) (.cons _ (.cons _ (List.Sublist.refl _)))
            have hR5 : Kt (w5, inL ([(t7b, cel (diE d7 (an7, cn7)) 33), (t4b, cel [str [], .int .i64 0, .bool false, .bool false, .slice none 0 0] 33)] ++ W2)) w.heap.size rwT xr ((a7, c7), (a8, c8)) := Kt.sub (show Kt (w5, inL _) w.heap.size rwT xr _ from ⟨(hK7.kt zm1 hw5 (hN7 _ zm1)), (hK8.kt zm0 hw5 (hN8 _ zm2))⟩) TL.rwt (.cons _ (.cons _ (List.Sublist.refl _)))
            exact k_again _ (by omega) ⟨k8 + 1, a2, c2, _, W2, (w5, inL _), e4_2, e7_2, rfl, e22_2, e23_2, rfl, rfl, rfl, by omega, hO2, (by rw [List.take_succ_eq_append_getElem hk2, (List.getElem?_eq_some_iff.1 hxr).2]; exact hA5.snocW hR5 (by rw [List.length_take, Nat.min_eq_left (by omega)]; exact hO.1)), rfl⟩
          refine o_run (v := .slice _ _ _) rfl rfl rfl (fun w h => R_ld1 z42 rfl (zc 0 rfl rfl h)) ?_; refine zH2 3 (pk [1, 2]) ?_; refine o_tel rfl (wn_none rfl) rfl (fun w => zR Tryz.func34 rfl rfl rfl) (fun w h => Clone_ok w ((Kn.old hTr.n.nm).at_ 1 rfl h) (by omega)) (fun x9 a9 c9 hK9 hN9 => ?_)
          refine zh2 7 rfl rfl (fun w h => (h.unbase (fun x hx => .tail _ (hx))).pick [1, 2] (by decide)) (fun w h => R_fa fa46_0 rfl) ?_; refine zh2 8 rfl rfl (fun w h => (h.unbase (fun x hx => .tail _ (hx))).pick [1, 2] (by decide)) (fun w h => R_fa fa44_1 rfl) ?_; refine zH2 6 (fun w h => (h.unbase (fun x hx => .tail _ (hx))).pick [1, 2] (by decide)) ?_; refine o_tel rfl (wn_none rfl) rfl (fun w => zR Tryz.func34 rfl rfl rfl) (fun w h => Clone_ok w ((Kn.old hTr.d.nm).at_ 2 rfl h) (by omega)) (fun x10 a10 c10 hK10 hN10 => ?_)
          refine zH2 9 (fun w h => (h.unbase (fun x hx => .tail _ (.tail _ (hx)))).pick [1, 2] (by decide)) ?_; refine zJ 0 rfl rfl z42 rfl rfl rfl rfl rfl rfl rfl ?_; refine zh2 10 rfl rfl (fun w h => (h.unbase (fun x hx => .tail _ (.tail _ (hx)))).pick [1, 2] (by decide)) (fun w h => R_fa fa46_1 rfl) ?_; refine zH2 11 (fun w h => (h.unbase (fun x hx => .tail _ (.tail _ (hx)))).pick [1, 2] (by decide)) ?_; refine zJ 0 rfl rfl z42 rfl rfl rfl rfl rfl rfl rfl ?_; refine zN2 (fun w h => (h.unbase (fun x hx => .tail _ (.tail _ (hx)))).pick [1, 2] (by decide)) ?_; refine zk ?_; refine zr ?_; refine mS e8_2 ?_; refine jy 0 z46 rfl rfl ?_; refine zS slt31 (by decide) rfl rfl (fun sb gsb usb => ?_)
          refine w_st (B' := _) (L' := [_, _, _, _] ++ (W ++ [])) (fun w h => by rw [List.append_nil]; exact h) ?_; refine w_app (L := []) (W := W) (news := rwE xr ((a9, c9), (a10, c10))) [_, _, _, _] slt31 (by decide) rfl hO rfl rfl (row_own 0 rfl (fun j u h => h)) rfl (by decide) (by omega) (by omega) (fun v2 W2 hO2 => ?_)
          obtain ⟨a2, c2, rfl⟩ := hO2.slice
          refine za (v := .slice a2 (k8 + 1) c2) rfl ?_; refine zn ?_; refine zO (zk ?_); refine zr ?_; refine zg (fun _ => R_addN (n := k8) (b := 1) e24_2 rfl (by omega)) ?_; refine mI rfl ?_; refine zn ?_; refine zK (B' := _) (L' := [_, _] ++ ([(t7b, cel (diE d7 (an7, cn7)) 33), (t4b, cel [str [], .int .i64 0, .bool false, .bool false, .slice none 0 0] 33)] ++ W2)) (fun w h => by simp only [List.append_nil] at h; exact h) ?_; refine k_join (L' := [(t7b, cel (diE d7 (an7, cn7)) 33), (t4b, cel [str [], .int .i64 0, .bool false, .bool false, .slice none 0 0] 33)] ++ W2) (B0 := [(w, No)]) (.cons _ (.cons _ (List.Sublist.refl _))) (fun x hx => by rcases List.mem_cons.1 hx with rfl | hx; (exact zm3); (exact absurd hx (by simp))) (fun w5 hw5 => ?_)
          have hA5 : Kt (w5, inL ([(t7b, cel (diE d7 (an7, cn7)) 33), (t4b, cel [str [], .int .i64 0, .bool false, .bool false, .slice none 0 0] 33)] ++ W2)) w.heap.size (Mc 3 rwC) (d7.nums.take k8) ys := (hKl.now (TL.cells TL.rwc) zm2 hw5).sub (TL.cells TL.rwc) (.cons _ (.cons _ (List.Sublist.refl _)))
          have hR5 : Kt (w5, inL ([(t7b, cel (diE d7 (an7, cn7)) 33), (t4b, cel [str [], .int .i64 0, .bool false, .bool false, .slice none 0 0] 33)] ++ W2)) w.heap.size rwT xr ((a9, c9), (a10, c10)) := Kt.sub (show Kt (w5, inL _) w.heap.size rwT xr _ from ⟨(hK9.kt zm1 hw5 (hN9 _ zm1)), (hK10.kt zm0 hw5 (hN10 _ zm2))⟩) TL.rwt (.cons _ (.cons _ (List.Sublist.refl _)))
          exact k_again _ (by omega) ⟨k8 + 1, a2, c2, _, W2, (w5, inL _), e4_2, e7_2, rfl, e22_2, e23_2, rfl, rfl, rfl, by omega, hO2, (by rw [List.take_succ_eq_append_getElem hk2, (List.getElem?_eq_some_iff.1 hxr).2]; exact hA5.snocW hR5 (by rw [List.length_take, Nat.min_eq_left (by omega)]; exact hO.1)), rfl⟩
        refine o_run (v := .slice _ _ _) rfl rfl rfl (fun w h => R_ld1 z42 rfl (zc 0 rfl rfl h)) ?_; refine zH2 2 (pk [1, 2]) ?_; refine o_run (v := .slice _ _ _) rfl rfl rfl (fun w h => R_ld1 z42 rfl (zc 0 rfl rfl h)) ?_; refine zH2 3 (pk [1, 2]) ?_; refine o_tel rfl (wn_none rfl) rfl (fun w => zR Tryz.func34 rfl rfl rfl) (fun w h => Clone_ok w ((Kn.old hTr.n.nm).at_ 1 rfl h) (by omega)) (fun x11 a11 c11 hK11 hN11 => ?_)
        refine zh2 7 rfl rfl (fun w h => (h.unbase (fun x hx => .tail _ (hx))).pick [1, 2] (by decide)) (fun w h => R_fa fa46_0 rfl) ?_; refine zh2 8 rfl rfl (fun w h => (h.unbase (fun x hx => .tail _ (hx))).pick [1, 2] (by decide)) (fun w h => R_fa fa44_1 rfl) ?_; refine zH2 6 (fun w h => (h.unbase (fun x hx => .tail _ (hx))).pick [1, 2] (by decide)) ?_; refine o_tel rfl (wn_none rfl) rfl (fun w => zR Tryz.func34 rfl rfl rfl) (fun w h => Clone_ok w ((Kn.old hTr.d.nm).at_ 2 rfl h) (by omega)) (fun x12 a12 c12 hK12 hN12 => ?_)
        refine zH2 9 (fun w h => (h.unbase (fun x hx => .tail _ (.tail _ (hx)))).pick [1, 2] (by decide)) ?_; refine zJ 0 rfl rfl z42 rfl rfl rfl rfl rfl rfl rfl ?_; refine zh2 10 rfl rfl (fun w h => (h.unbase (fun x hx => .tail _ (.tail _ (hx)))).pick [1, 2] (by decide)) (fun w h => R_fa fa46_1 rfl) ?_; refine zH2 11 (fun w h => (h.unbase (fun x hx => .tail _ (.tail _ (hx)))).pick [1, 2] (by decide)) ?_; refine zJ 0 rfl rfl z42 rfl rfl rfl rfl rfl rfl rfl ?_; refine zN2 (fun w h => (h.unbase (fun x hx => .tail _ (.tail _ (hx)))).pick [1, 2] (by decide)) ?_; refine zk ?_; refine zr ?_; refine mS e8_2 ?_; refine jy 0 z46 rfl rfl ?_; refine zS slt31 (by decide) rfl rfl (fun sb gsb usb => ?_)
        refine w_st (B' := _) (L' := [_, _, _, _] ++ (W ++ [])) (fun w h => by rw [List.append_nil]; exact h) ?_; refine w_app (L := []) (W := W) (news := rwE xr ((a11, c11), (a12, c12))) [_, _, _, _] slt31 (by decide) rfl hO rfl rfl (row_own 0 rfl (fun j u h => h)) rfl (by decide) (by omega) (by omega) (fun v2 W2 hO2 => ?_)
        obtain ⟨a2, c2, rfl⟩ := hO2.slice
        refine za (v := .slice a2 (k8 + 1) c2) rfl ?_; refine zn ?_; refine zO (zk ?_); refine zr ?_; refine zg (fun _ => R_addN (n := k8) (b := 1) e24_2 rfl (by omega)) ?_; refine mI rfl ?_; refine zn ?_; refine zK (B' := _) (L' := [_, _] ++ ([(t7b, cel (diE d7 (an7, cn7)) 33), (t4b, cel [str [], .int .i64 0, .bool false, .bool false, .slice none 0 0] 33)] ++ W2)) (fun w h => by simp only [List.append_nil] at h; exact h) ?_; refine k_join (L' := [(t7b, cel (diE d7 (an7, cn7)) 33), (t4b, cel [str [], .int .i64 0, .bool false, .bool false, .slice none 0 0] 33)] ++ W2) (B0 := [(w, No)]) (.cons _ (.cons _ (List.Sublist.refl _))) (fun x hx => by rcases List.mem_cons.1 hx with rfl | hx; (exact zm3); (exact absurd hx (by simp))) (fun w5 hw5 => ?_)
        have hA5 : Kt (w5, inL ([(t7b, cel (diE d7 (an7, cn7)) 33), (t4b, cel [str [], .int .i64 0, .bool false, .bool false, .slice none 0 0] 33)] ++ W2)) w.heap.size (Mc 3 rwC) (d7.nums.take k8) ys := (hKl.now (TL.cells TL.rwc) zm2 hw5).sub (TL.cells TL.rwc) (.cons _ (.cons _ (List.Sublist.refl _)))
        have hR5 : Kt (w5, inL ([(t7b, cel (diE d7 (an7, cn7)) 33), (t4b, cel [str [], .int .i64 0, .bool false, .bool false, .slice none 0 0] 33)] ++ W2)) w.heap.size rwT xr ((a11, c11), (a12, c12)) := Kt.sub (show Kt (w5, inL _) w.heap.size rwT xr _ from ⟨(hK11.kt zm1 hw5 (hN11 _ zm1)), (hK12.kt zm0 hw5 (hN12 _ zm2))⟩) TL.rwt (.cons _ (.cons _ (List.Sublist.refl _)))
        exact k_again _ (by omega) ⟨k8 + 1, a2, c2, _, W2, (w5, inL _), e4_2, e7_2, rfl, e22_2, e23_2, rfl, rfl, rfl, by omega, hO2, (by rw [List.take_succ_eq_append_getElem hk2, (List.getElem?_eq_some_iff.1 hxr).2]; exact hA5.snocW hR5 (by rw [List.length_take, Nat.min_eq_left (by omega)]; exact hO.1)), rfl⟩
      refine zX ?_; refine zx (zx (b_here rfl (zk ?_))); refine yA ?_; refine mS e8_2 ?_; refine zf fa33_4 e7_2 ?_; refine jv 0 z31 rfl ?_; refine yC ?_; refine jy 0 z33 e7_2 rfl ?_; refine ju 1 z33 e4_2 rfl rfl ?_; refine aB rfl ?_; refine yB ?_; refine ze ?_; refine zb (zt (zt (zb (zt (?_)))))
      obtain rfl : k8 = d7.nums.length := (by omega)
      rw [List.take_length] at hKl
      rw [findD_hit hd7 hf heq]
      refine zK (B' := _) (L' := [_, _] ++ W) (fun w h => h) ?_; refine r_fin (.inl rfl) rfl (.agg rfl e4_2 z33 (fun _ h => h.at_ 1 rfl) rfl (.tmp rfl rfl .nil)) ?_; exact fun w' hw => ⟨⟨(va8, vc8), rfl, by obtain ⟨b, hb, hr⟩ := own_row hO (fun p hp => hw.own p (List.mem_append_right _ hp)) (N := Nn w w') (fun p hp => ⟨(hw.ok p (List.mem_append_right _ hp) (w, No) zm1).elim (fun h => h.elim) (fun h => h), lt_of_blk (hw.own p (List.mem_append_right _ hp))⟩) (hKl.fin (TL.cells TL.rwc) zm0 hw); simp only [Value.slice.injEq] at hb; obtain ⟨h1, _, h2⟩ := hb; have h3 : b = (va8, vc8) := Prod.ext h1.symm h2.symm; rw [h3] at hr; exact hr⟩, hw.fr (w, No) zm1⟩
    refine zi ?_; refine zO (zk ?_); refine zr ?_; refine zg (fun _ => R_addN (n := i) (b := 1) e13_1 rfl (by omega)) ?_; refine mI rfl ?_; refine zn ?_; refine zK (B' := _) (L' := [(t4b, cel [str [], .int .i64 0, .bool false, .bool false, .slice none 0 0] 33)]) (fun w h => h.d1) ?_; exact k_again _ (by omega) ⟨i + 1, e4_1, e11_1, e12_1, rfl, e1_1, rfl, rfl, by omega, by rw [findD_take hd7 hf, if_neg (by simpa using h4)], rfl⟩
  refine zX ?_; refine zx (zx (b_here rfl (zk ?_))); refine yA ?_; refine jb bt33 rfl ?_; refine ju 0 z33 e4_1 rfl rfl ?_; refine aB rfl ?_; refine yB ?_; refine ze ?_
  have hF : findD l nm = none := by rw [← hf, List.take_of_length_le (by omega)]
  rw [hF]
  refine r_fin (.inl rfl) rfl (.agg rfl e4_1 z33 (fun _ h => h.at_ 0 rfl) rfl (.tmp rfl rfl .nil)) ?_; exact fun w' hw => ⟨rfl, hw.f0⟩
end Go.Proofs.YtikdkendinnalaaGreatDoor
end
section
namespace Go.Proofs.YtikdkendinnalaaGreatDoor
open Go.RowKit Go.Sx
open Go.Tok Go.Tree Go.Prs Go.Feed Go.Num
theorem cmpN_one_ (n : Nat) : decide (cmpN n 1 = 0) = decide (n = 1) := decide_eq_decide.2 cmpN_eq
theorem fwhole_ok (s : Bool) {a : Option Addr} {k c n : Nat} {a8 : Option Addr} {k8 c8 m : Nat} (w : World) (hA : Nm w a k c n) (hA8 : Nm w a8 k8 c8 m) (hs : k ≤ 1000000 ∧ k8 ≤ 1000000 ∧ sz n ≤ 2000 ∧ sz m ≤ 2000 ∧ m ≠ 0) :
  Ret Tryz.prog 36 #[.agg #[.bool s, .slice a k c, .slice a8 k8 c8]] w (fun v w' => v = .bool (decide ((mkR s n m).2 = 1)) ∧ Ext w w') := by
 have hxs := mkR_sz s n m
 have hs1 : sz 1 = 1 := rfl
 refine enter (S := No) (l := [_]) (L := []) 19 Tryz.func36 rfl rfl rfl (St.start w No) ?_; refine yA ?_; refine w_boxA rfl (fun p gp up => ?_)
 refine aB rfl ?_; refine yC ?_; refine jy 0 z46 rfl rfl ?_; refine w_tel2 (fun w => zR Tryz.func37 rfl rfl rfl) rfl rfl (fun w h => fNorm_ok s w ((Kn.old hA).at_ 0 rfl h) ((Kn.old hA8).at_ 0 rfl h) hs) (fun x2 a2 c2 a2' c2' hK2 hN2 hK2' hN2' => ?_)
 refine zm rfl ?_; refine jx rfl rfl ?_; refine jx rfl rfl ?_; refine zA zr46 (fun t3b gt3b ut3b => ?_)
 refine jv 0 z46 rfl ?_; refine aI rfl ?_; refine yB ?_; refine zq ?_; refine c_heldS mixed ?_; refine zh (v := .int _ _) 0 rfl (by kernel_rfl) rfl rfl (fun w h => h) (fun w h => R_move rfl) ?_; refine zh2 1 rfl rfl (fun w h => h) (fun w h => R_eq rfl rfl) ?_; refine zh (v := .bool _) 2 rfl (by kernel_rfl) rfl rfl (fun w h => h) (fun w h => R_move rfl) ?_; refine h_takeG 3 rfl (by kernel_rfl) rfl rfl rfl bD rfl (fun w h => h) (fun w h => R_fa fa46_1 rfl) ?_; refine h_takeG (v := .slice _ _ _) 4 rfl (by kernel_rfl) rfl rfl rfl bD rfl (fun w h => h) (fun w h => R_ld1 z42 rfl (zc 0 rfl rfl h)) ?_; refine zH2 5 (fun w h => h) ?_
 refine o_tel rfl (wn_yes rfl rfl rfl bD) rfl (fun w => zR Tryz.func56 rfl rfl rfl) (fun w h => Of_ok (s := 1) w (by decide)) (fun x4 a4 c4 hK4 hN4 => ?_)
 refine zH2 6 (fun w h => h.unbase (fun x hx => .tail _ (hx))) ?_; refine o_pureW rfl (wn_yes rfl rfl rfl bD) rfl (fun w => zR Tryz.func55 rfl rfl rfl) (fun w h => Cmp_ok w (hK2'.at_ 1 rfl h) (hK4.at_ 0 rfl h) ⟨by omega, by omega⟩) ?_; refine h_takeG 7 rfl (by kernel_rfl) rfl rfl rfl bD rfl (fun w h => h.unbase (fun x hx => .tail _ (hx))) (fun w h => R_eq rfl rfl) ?_; refine zh (v := .bool _) 8 rfl (by kernel_rfl) rfl rfl (fun w h => h.unbase (fun x hx => .tail _ (hx))) (fun w h => zT bD rfl) ?_; refine zh (v := .bool _) 9 rfl (by kernel_rfl) rfl rfl (fun w h => h.unbase (fun x hx => .tail _ (hx))) (fun w h => R_assign rfl) ?_; refine zN2 (fun w h => h.unbase (fun x hx => .tail _ (hx))) ?_
 refine zk ?_; refine ze ?_; refine zo (v := .bool _) rfl rfl rfl ?_; exact fun w' hw => ⟨by rw [← cmpN_one_], hw.fr (w, No) zm2⟩
theorem fwhole_no (s : Bool) {a : Option Addr} {k c n : Nat} {a8 : Option Addr} {k8 c8 m : Nat} (w : World) (hA : Nm w a k c n) (hA8 : Nm w a8 k8 c8 m) (hs : k ≤ 1000000 ∧ k8 ≤ 1000000 ∧ sz n ≤ 2000 ∧ m = 0) :
  Ret Tryz.prog 36 #[.agg #[.bool s, .slice a k c, .slice a8 k8 c8]] w (fun v w' => v = .bool false ∧ Ext w w') := by
 refine enter (S := No) (l := [_]) (L := []) 19 Tryz.func36 rfl rfl rfl (St.start w No) ?_; refine yA ?_; refine w_boxA rfl (fun p gp up => ?_)
 refine aB rfl ?_; refine yC ?_; refine jy 0 z46 rfl rfl ?_; refine jD Tryz.func37 (fun w h => fNorm_no s w ((Kn.old hA).at_ 0 rfl h) ((Kn.old hA8).at_ 0 rfl h) hs) ?_; refine zm rfl ?_; refine jx rfl rfl ?_; refine jx rfl rfl ?_; refine zA zr46 (fun t3b gt3b ut3b => ?_)
 refine jv 0 z46 rfl ?_; refine aI rfl ?_; refine yB ?_; refine zq ?_; refine c_heldS mixed ?_; refine zh (v := .int _ _) 0 rfl (by kernel_rfl) rfl rfl (fun w h => h) (fun w h => R_move rfl) ?_; refine zh2 1 rfl rfl (fun w h => h) (fun w h => R_eq rfl rfl) ?_; refine zh (v := .bool _) 2 rfl (by kernel_rfl) rfl rfl (fun w h => h) (fun w h => R_move rfl) ?_; refine h_skip 3 rfl (by kernel_rfl) rfl rfl rfl bE rfl (fun w h => h) ?_; refine h_skip 4 rfl (by kernel_rfl) rfl rfl rfl bE rfl (fun w h => h) ?_; refine h_skip 5 rfl (by kernel_rfl) rfl rfl rfl bE rfl (fun w h => h) ?_
 refine h_skip 6 rfl (by kernel_rfl) rfl rfl rfl bE rfl (fun w h => h) ?_; refine h_skip 7 rfl (by kernel_rfl) rfl rfl rfl bE rfl (fun w h => h) ?_; refine zh (v := .bool _) 8 rfl (by kernel_rfl) rfl rfl (fun w h => h) (fun w h => zF bE rfl) ?_; refine zh (v := .bool _) 9 rfl (by kernel_rfl) rfl rfl (fun w h => h) (fun w h => R_assign rfl) ?_; refine zN2 (fun w h => h) ?_; refine zk ?_; refine ze ?_; refine zo (v := .bool _) rfl rfl rfl ?_; exact fun w' hw => ⟨rfl, hw.fr (w, No) zm0⟩
theorem whole_rw {x : Rw} {b : A2} {w : World} {N : Nat → Prop} (h : rwT w N x b) (hp : x.p ≤ 900000 ∧ x.q ≤ 900000) (hs : sz x.n ≤ 2000 ∧ sz x.d ≤ 2000) : Ret Tryz.prog 36 #[.agg (rwE x b).toArray] w fun v w' => v = .bool x.ok ∧ Ext w w' := by
 by_cases hd : x.d = 0
 ·have h1 : x.ok = false := by unfold Rw.ok; simp [hd]
  rw [h1]; exact fwhole_no x.s w h.n.nm h.d.nm ⟨by omega, by omega, hs.1, hd⟩
 ·have h1 : x.ok = decide ((mkR x.s x.n x.d).2 = 1) := by unfold Rw.ok Rw.r; simp [hd]
  rw [h1]; exact fwhole_ok x.s w h.n.nm h.d.nm ⟨by omega, by omega, hs.1, hs.2, hd⟩
end Go.Proofs.YtikdkendinnalaaGreatDoor
end
section
namespace Go.Sx
open Go.RowKit Go.Tree
section
variable {P : Program} {ops : Array Oper} {Q : Exit → Act → World → Prop} {c : Cf} {e : Env} {B : Base} {L : Heap} {rest : List Oper} {d : Nat}
theorem strC (s : List UInt8) : Lib.strCells ⟨s.toArray⟩ = Lib.byteCells s := rfl
theorem strZ (s : List UInt8) : (ByteArray.mk s.toArray).size = s.length := by simp [ByteArray.size]
def NZ (v : Value) : Prop := ∀ a n, v ≠ .slice (some a) n 0
theorem Own.nz {T : TypeId} {k : Nat} {v : Value} {xs : List Value} {n : Nat} {W : Heap} (h : Own T k v xs n W) (hn : 0 < n) : NZ v := by
  intro a m hv
  rcases h.2 with ⟨h1, h2, _⟩ | ⟨b, c, sp, h1, h2, _⟩
  · omega
  rw [h1] at hv; injection hv with _ _ h3; omega
theorem w_appS {W : Heap} {x y : Operand} {T : TypeId} {p : String} {ed : Array Edge} {t u el : Nat} {v : Value} {xs : List Value} {n : Nat} {s : List UInt8} (A : Heap) (hT : slT P t el 1 1 (.int .u8 0)) (hu : P.underlying u = some .string) (hx : ev c.n e x = v) (hown : Own el 1 v xs n W) (hy : ev c.n e y = str s) (hnz : NZ v)
    (hb : n + s.length ≤ 1000000000)
    (h : ∀ v' W', Own el 1 v' (xs ++ Lib.byteCells s) (n + s.length) W' → NZ v' → WX .sq P ops c Q rest (upd e d v') B (A ++ (W' ++ L))) : WX .sq P ops c Q (⟨some d, .call ⟨.builtin .append, #[x, y], #[t, u]⟩, T, p, ed, none⟩ :: rest) e B (A ++ (W ++ L)) := by
  obtain ⟨i, ht, hi, hsz, hby, hz, hzs⟩ := slT_spec hT
  have hrun : ∀ {w : World} {r : Value} {w' : World}, (Builtin.append_ #[t, u] T #[v, str s]).run P w = .ok r w' → Run P ⟨some d, .call ⟨.builtin .append, #[x, y], #[t, u]⟩, T, p, ed, none⟩ (ev c.n e) w r w' := fun hr => by
    unfold Run
    simp only [execOp, resolve, Sem.run_bind, pure_run, Result.andThen_ok, invoke, builtin, List.map_toArray, List.map_cons, List.map_nil, hx, hy, hr]
  have hs0 : str s = .string ⟨s.toArray⟩ := rfl
  unfold WX at *
  intro w hw
  have hxl := hown.1
  have hlen : (xs ++ Lib.byteCells s).length = (n + s.length) * 1 := by rw [List.length_append, Lib.byteCells_length]; omega
  rcases hown.2 with ⟨rfl, rfl, rfl⟩ | ⟨b, cp, sp, rfl, hc, hs', rfl⟩
  · have hx0 : xs = [] := by simpa using hxl
    subst hx0
    by_cases hm : s.length = 0
    · have hs1 : s = [] := by simpa using hm
      subst hs1
      have hf := Lib.run_firstCells_string (P := P) w 1 ⟨#[]⟩
      have hr : (Builtin.append_ #[t, u] T #[.slice none 0 0, str []]).run P w = .ok (.slice none 0 0) w := by
        have hz0 : (ByteArray.mk (#[] : Array UInt8)).size = 0 := rfl
        rw [hz0] at hf
        simp [Builtin.append_, run_underlying ht, run_underlying hu, sizeOf, typeInfo, hi, hsz, Builtin.lenOf, hz0, hf, str]
      exact s_run (hrun hr) rfl rfl (h _ [] (by simpa [Lib.byteCells] using Own.nil el 1) hnz w hw)
    have hr := run_append_nil_string (P := P) w t u T el i (.int .u8 0) ht hu hi hz ⟨s.toArray⟩ (by rw [strZ]; omega) (by rw [strZ]; omega) (by rw [strZ, hby]; omega)
    rw [strZ] at hr
    have hge := grownCap_ge w s.length 0 el
    have hs := (hw.drawn (w.drawn + 1)).new (o := cel ([] ++ Lib.byteCells s ++ (Builtin.zeroCells (Value.cells (.int .u8 0)) (grownCap w s.length 0 el - s.length)).toList) el)
    refine s_run (hrun hr) rfl rfl (h _ [(w.heap.size, cel ([] ++ Lib.byteCells s ++ (Builtin.zeroCells (Value.cells (.int .u8 0)) (grownCap w s.length 0 el - s.length)).toList) el)] ⟨hlen, .inr ⟨w.heap.size, grownCap w s.length 0 el, _, by rw [Nat.zero_add], by rw [Nat.zero_add]; exact hge, ?_, rfl⟩⟩ (fun a m hv => by injection hv with _ _ h3; omega) _ ?_)
    · rw [Array.length_toList, size_zeroCells, hzs, Nat.zero_add]
    have := hs.perm (List.perm_middle.symm)
    have e1 : ((s.toArray.map fun b => Value.int .u8 b.toNat) ++ Builtin.zeroCells (Value.cells (.int .u8 0)) (grownCap w s.length 0 el - s.length) : Array Value) = ([] ++ Lib.byteCells s ++ (Builtin.zeroCells (Value.cells (.int .u8 0)) (grownCap w s.length 0 el - s.length)).toList).toArray := by
      apply Array.ext'
      simp [Lib.byteCells]
    rw [e1]
    exact this
  have hb' := hw.own (b, cel (xs ++ sp) el) (by simp)
  by_cases hroom : n + s.length ≤ cp
  · have hr := Lib.run_append_room_string (P := P) w t u T el i ht hu hi hsz b n cp (xs ++ sp).toArray hb' ⟨s.toArray⟩ (by rw [strZ]; exact hroom) (by rw [strZ]; simp; omega)
    rw [strZ, strC] at hr
    have hs := hw.put A.length (l' := xs ++ Lib.byteCells s ++ sp.drop (Lib.byteCells s).length) (b := b) (l := xs ++ sp) (T := el) (by simp)
    have hset : (A ++ ([(b, cel (xs ++ sp) el)] ++ L)).set A.length (b, cel (xs ++ Lib.byteCells s ++ sp.drop (Lib.byteCells s).length) el) = A ++ ([(b, cel (xs ++ Lib.byteCells s ++ sp.drop (Lib.byteCells s).length) el)] ++ L) := by simp
    rw [hset] at hs
    have e1 : ((xs ++ sp).toArray.toList.take n ++ Lib.byteCells s ++ (xs ++ sp).toArray.toList.drop (n + s.length)) = xs ++ Lib.byteCells s ++ sp.drop (Lib.byteCells s).length := by
      simp only [Lib.byteCells_length]
      rw [show n = xs.length by omega, List.take_left', List.drop_append]
      · simp [List.drop_eq_nil_of_le]
      rfl
    rw [e1] at hr
    refine s_run (hrun hr) rfl rfl (h _ [_] ⟨hlen, .inr ⟨b, cp, sp.drop (Lib.byteCells s).length, rfl, hroom, ?_, rfl⟩⟩ (fun a m hv => by injection hv with _ _ h3; subst h3; exact hnz _ _ rfl) _ hs)
    rw [List.length_drop, hs', Lib.byteCells_length]; omega
  have hge := grownCap_ge w (n + s.length) cp el
  have hr := Lib.run_append_grow_string (P := P) w t u T el i (.int .u8 0) ht hu hi hz ⟨b, 0, none⟩ n cp xs (by rw [hsz]; exact hxl) (fun j u hu => by
      have hj := (List.getElem?_eq_some_iff.1 hu).1
      have : w.cell? ⟨b, 0 + j, none⟩ = some u := by
        simp only [World.cell?, hb']
        simp [List.getElem?_append_left hj, hu]
      simp only [Addr.add]; split <;> simp_all) ⟨s.toArray⟩ (by rw [strZ]; omega) (by rw [strZ]; omega) (by rw [strZ, hby]; exact growslice_fits (by omega) (by omega))
  rw [strZ] at hr
  have hs := (hw.drawn (w.drawn + 1)).new (o := cel (xs ++ Lib.byteCells s ++ (Builtin.zeroCells (Value.cells (.int .u8 0)) (grownCap w (n + s.length) cp el - (n + s.length))).toList) el)
  refine s_run (hrun hr) rfl rfl (h _ [(w.heap.size, cel (xs ++ Lib.byteCells s ++ (Builtin.zeroCells (Value.cells (.int .u8 0)) (grownCap w (n + s.length) cp el - (n + s.length))).toList) el)] ⟨hlen, .inr ⟨w.heap.size, grownCap w (n + s.length) cp el, _, rfl, hge, ?_, rfl⟩⟩ (fun a m hv => by injection hv with _ _ h3; omega) _ ?_)
  · rw [Array.length_toList, size_zeroCells, hzs]
  have h2 := hs.drop (L' := (w.heap.size, cel (xs ++ Lib.byteCells s ++ (Builtin.zeroCells (Value.cells (.int .u8 0)) (grownCap w (n + s.length) cp el - (n + s.length))).toList) el) :: (A ++ L)) (by
    refine List.Sublist.cons_cons _ ?_
    exact List.Sublist.append (List.Sublist.refl _) (List.sublist_cons_self _ _))
  have := h2.perm (List.perm_middle.symm)
  have e1 : (xs.toArray ++ (Lib.strCells ⟨s.toArray⟩).toArray ++ Builtin.zeroCells (Value.cells (.int .u8 0)) (grownCap w (n + s.length) cp el - (n + s.length)) : Array Value) = (xs ++ Lib.byteCells s ++ (Builtin.zeroCells (Value.cells (.int .u8 0)) (grownCap w (n + s.length) cp el - (n + s.length))).toList).toArray := by rw [strC]; simp
  rw [e1]
  exact this
end
section
variable {P : Program} {ρ : Operand → Value} {w : World} {D : Option Tmp} {ty t yt : TypeId} {pos : String} {aft : Array Edge} {g : Option (Nat × Bool)} {x y : Operand}
theorem R_peqN {te : TypeId} (hu : P.underlying t = some (.pointer te)) (hx : ρ x = .pointer none) (hy : ρ y = .pointer none) : Run P ⟨D, .binOp .eql t x y yt, ty, pos, aft, g⟩ ρ w (.bool true) w := by
  have h : ∀ d : Nat, (Op.equalIn (d + 1) t (.pointer none) (.pointer none)).run P w = .ok true w := fun d => by
    simp [Op.equalIn, run_underlying hu, go_sem]
  have h2 := h 9999
  unfold Run
  simp [execOp, hx, hy, eqGuard, binOp, Op.equal, Op.maxDepth, h2, go_sem]
theorem R_peqS {te : TypeId} {a : Addr} (hu : P.underlying t = some (.pointer te)) (hx : ρ x = .pointer (some a)) (hy : ρ y = .pointer none) : Run P ⟨D, .binOp .eql t x y yt, ty, pos, aft, g⟩ ρ w (.bool false) w := by
  have h : ∀ d : Nat, (Op.equalIn (d + 1) t (.pointer (some a)) (.pointer none)).run P w = .ok false w := fun d => by
    simp [Op.equalIn, run_underlying hu, go_sem]
  have h2 := h 9999
  unfold Run
  simp [execOp, hx, hy, eqGuard, binOp, Op.equal, Op.maxDepth, h2, go_sem]
theorem R_pneS {te : TypeId} {a : Addr} (hu : P.underlying t = some (.pointer te)) (hi : (P.info? te).isSome = true) (hx : ρ x = .pointer (some a)) (hy : ρ y = .pointer (some a)) : Run P ⟨D, .binOp .neq t x y yt, ty, pos, aft, g⟩ ρ w (.bool false) w := by
  obtain ⟨j, hj⟩ := Option.isSome_iff_exists.1 hi
  have h2 := Lib.run_neq_ptr_same (P := P) w a hu hj
  unfold Run
  simp [execOp, hx, hy, eqGuard, go_sem] at h2 ⊢
  simp [h2]
theorem R_noEsc {f : FuncId} {fn : Func} {tys : Array TypeId} {v : Value} (hf : P.funcs[f]? = some fn) (hname : (fn.name == "runtime.NumGoroutine") = false) (hb : fn.body.isNone = true) (hn : Extern.findNext fn = none) (he : Extern.find fn = some Extern.AbiNoEscape.same) (hx : ρ x = .func (.func f) #[] #[]) (hy : ρ y = v) :
    Run P ⟨D, .call ⟨.value x, #[y], tys⟩, ty, pos, aft, g⟩ ρ w v w := by
  have h := run_callFunc_extern (P := P) hf hname hb hn he #[v] w
  rw [Lib.run_noEscape] at h
  simp [Run, execOp, hx, hy, go_sem, resolve, invoke, h, Result.andThen]
end
section
variable {P : Program} {ops : Array Oper} {Q : Exit → Act → World → Prop} {c : Cf} {e : Env} {B : Base} {L : Heap} {rest : List Oper} {d : Nat} {q : Md} {x : Operand} {ty src dst : TypeId} {pp : String} {ed : Array Edge}
theorem w_toU {t n : Nat} {b : Nat} {cs : List Value} {T : TypeId} (i : Nat) (hi : L[i]? = some (b, cel cs T)) (hc : 0 < cs.length) (hs : P.underlying src = some (.pointer t)) (hd : P.underlying dst = some .unsafePointer) (ht : (P.info? t).map (·.size) = some (n + 1)) (hx : ev c.n e x = pX b)
    (h : WX q P ops c Q rest (upd e d (pX b)) B L) : WX q P ops c Q (⟨some d, .convert src dst x, ty, pp, ed, none⟩ :: rest) e B L := by
  obtain ⟨j, hj, hj2⟩ := Option.map_eq_some_iff.1 ht
  refine w_run (fun w hw => ?_) rfl rfl h
  have h1 := hw.at_ i hi
  have hr := Lib.run_to_unsafe (P := P) w (⟨b, 0, none⟩ : Addr) hs hd hj (by rw [hj2]; omega) (e := T) (cells := cs.length) (by simp [World.shape?, h1, cel]) hc
  unfold Run
  simp only [execOp, hx, Sem.run_bind, hr, Result.andThen_ok]
  rfl
theorem w_fromU {t : Nat} {b : Nat} {cs : List Value} {T : TypeId} (i : Nat) (hi : L[i]? = some (b, cel cs T)) (hs : P.underlying src = some .unsafePointer) (hd : P.underlying dst = some (.pointer t)) (ht : (P.info? t).isSome = true) (hl : liesAt P P.depth T (cs.length / P.cellsOf T) 0 t 1 = true) (hx : ev c.n e x = pX b)
    (h : WX q P ops c Q rest (upd e d (pX b)) B L) : WX q P ops c Q (⟨some d, .convert src dst x, ty, pp, ed, none⟩ :: rest) e B L := by
  obtain ⟨j, hj⟩ := Option.isSome_iff_exists.1 ht
  refine w_run (fun w hw => ?_) rfl rfl h
  have h1 := hw.at_ i hi
  have hr := Lib.run_from_unsafe (P := P) w (⟨b, 0, none⟩ : Addr) hs hd hj (e := T) (cells := cs.length) (by simp [World.shape?, h1, cel]) hl
  unfold Run
  simp only [execOp, hx, Sem.run_bind, hr, Result.andThen_ok]
  rfl
end
theorem St.frz {B : Base} {L : Heap} {w : World} (h : St B L w) (i : Nat) {b : Nat} {cs : List Value} {T : TypeId} (hi : L[i]? = some (b, cel cs T)) (n : Nat) : ∃ o', St B (L.set i (b, o')) (w.freeze ⟨b, 0, none⟩ n) := by
  have hb := h.at_ i hi
  have hlt := lt_of_blk hb
  have hs : (w.freeze ⟨b, 0, none⟩ n).heap.size = w.heap.size := by unfold World.freeze; split <;> simp
  obtain ⟨o', ho⟩ : ∃ o', (w.freeze ⟨b, 0, none⟩ n).heap[b]? = some o' := ⟨_, Array.getElem?_eq_getElem (by omega)⟩
  refine ⟨o', h.mod i hi ?_ ho⟩
  unfold World.freeze
  split
  · exact Fr.refl _ _
  exact ⟨rfl, rfl, rfl, by simp, fun k _ hk => by
    simp only [Array.getElem?_modify]
    rw [if_neg (fun e => hk e.symm)]⟩
section
variable {P : Program} {ρ : Operand → Value} {w : World} {D : Option Tmp} {ty t yt : TypeId} {pos : String} {aft : Array Edge} {g : Option (Nat × Bool)} {x y : Operand}
theorem R_sliceData {tys : Array TypeId} {a : Option Addr} {n m : Nat} (hx : ρ x = .slice a n m) (hz : NZ (.slice a n m)) : Run P ⟨D, .call ⟨.builtin .unsafeSliceData, #[x], tys⟩, ty, pos, aft, g⟩ ρ w (.pointer a) w := by
  cases a with
  | none =>
    have h := Lib.run_unsafeSliceData_nil (P := P) w tys ty n m
    simp [Run, execOp, hx, go_sem, resolve, invoke, builtin, h, Result.andThen]
  | some a =>
    have hm : m ≠ 0 := fun h => hz a n (by rw [h])
    have h := Lib.run_unsafeSliceData_row (P := P) w tys ty a n m hm
    simp [Run, execOp, hx, go_sem, resolve, invoke, builtin, h, Result.andThen]
end
section
variable {P : Program} {ops : Array Oper} {Q : Exit → Act → World → Prop} {c : Cf} {e : Env} {B : Base} {L : Heap} {d fuel : Nat} {S : World → Prop} {listed : Array Bool} {x y : Operand} {ty : TypeId} {pp : String} {ed : Array Edge}
theorem h_sliceData {tys : Array TypeId} {a : Option Addr} {n m : Nat} (i : Nat) (hi : ops[i]? = some ⟨some d, .call ⟨.builtin .unsafeSliceData, #[x], tys⟩, ty, pp, ed, none⟩) (hr : Region.ready .any ops listed = [i]) (hs : ∀ w, St B L w → S w) (hx : ev c.n e x = .slice a n m) (hz : NZ (.slice a n m))
    (h : WH P ops c Q S fuel (listed.setIfInBounds i true) (upd e d (.pointer a)) B L) : WH P ops c Q S (fuel + 1) listed e B L :=
  h_val i hi hr rfl rfl hs (fun w hw => ⟨_, w, B, L, R_sliceData hx hz, hw, h⟩)
theorem h_unsafeStr {W : Heap} {pt it el : TypeId} {a : Option Addr} {m : Nat} {s : List UInt8} (A : Heap) (i : Nat) (hi : ops[i]? = some ⟨some d, .call ⟨.builtin .unsafeString, #[x, y], #[pt, it]⟩, ty, pp, ed, none⟩) (hr : Region.ready .any ops listed = [i]) (hs : ∀ w, St B (A ++ (W ++ L)) w → S w)
    (hp : P.underlying pt = some (.pointer el)) (hc : P.cellsOf el = 1) (hown : Own el 1 (.slice a s.length m) (Lib.byteCells s) s.length W) (hb : s.length ≤ 1000000000) (hx : ev c.n e x = .pointer a) (hy : ev c.n e y = .int .i64 (s.length : Nat))
    (h : WH P ops c Q S fuel (listed.setIfInBounds i true) (upd e d (str s)) B (A ++ L)) : WH P ops c Q S (fuel + 1) listed e B (A ++ (W ++ L)) := by
  refine h_val i hi hr rfl rfl hs (fun w hw => ?_)
  by_cases h0 : s = []
  · subst h0
    refine ⟨str [], w, B, A ++ L, ?_, hw.drop ((List.Sublist.refl A).append (List.sublist_append_right _ _)), h⟩
    have hr := Lib.run_unsafeString_none (P := P) w pt it ty a
    simp only [List.length_nil] at hy
    unfold Run
    simp only [execOp, resolve, Sem.run_bind, pure_run, Result.andThen_ok, invoke, builtin, List.map_toArray, List.map_cons, List.map_nil, hx, hy]
    simp only [Int.ofNat_zero, Int.natCast_zero] at hr ⊢
    rw [hr]
    rfl
  have hl : 0 < s.length := List.length_pos_iff.2 h0
  rcases hown.2 with ⟨_, h2, _⟩ | ⟨b, cp, sp, hv, hcp, hsp, rfl⟩
  · omega
  injection hv with hv1 hv2 hv3
  subst hv1; subst hv3
  have hm := hw.own (b, cel (Lib.byteCells s ++ sp) el) (by simp)
  obtain ⟨o', ho⟩ := hw.frz A.length (b := b) (cs := Lib.byteCells s ++ sp) (T := el) (by simp) s.length
  refine ⟨str s, _, B, A ++ L, ?_, ho.drop (by simp), h⟩
  have hr := Lib.run_unsafeString_row (P := P) w pt it ty el hp hc b (Lib.byteCells s ++ sp).length (by simp [World.shape?, hm, cel]) s h0 (by simp [Lib.byteCells_length]) (by omega) (fun j u hu => by
    have hj := (List.getElem?_eq_some_iff.1 hu).1
    have e1 : (⟨b, 0, none⟩ : Addr).add j = ⟨b, j, none⟩ := by simp [Addr.add]; omega
    rw [e1]
    have e2 : (Lib.byteCells s ++ sp)[j]? = some (.int .u8 (u.toNat : Nat)) := by
      rw [List.getElem?_append_left (by rw [Lib.byteCells_length]; exact hj)]
      simp [Lib.byteCells, hu]
    exact zc A.length (b := b) (cs := Lib.byteCells s ++ sp) (T := el) (by simp) e2 hw)
  unfold Run
  simp only [execOp, resolve, Sem.run_bind, pure_run, Result.andThen_ok, invoke, builtin, List.map_toArray, List.map_cons, List.map_nil, hx, hy, hr]
end
structure BldO (te : TypeId) (p : Nat) (a : Option Addr) (v : Value) (s : List UInt8) (W : Heap) : Prop where
  ad : a = none ∨ a = some (⟨p, 0, none⟩ : Addr)
  own : Own te 1 v (Lib.byteCells s) s.length W
  nz : NZ v
theorem BldO.eq {te : TypeId} {p : Nat} {a : Option Addr} {v : Value} {s t : List UInt8} {W : Heap} (h : BldO te p a v s W) (he : s = t) : BldO te p a v t W := he ▸ h
theorem BldO.nil (te : TypeId) (p : Nat) : BldO te p none (.slice none 0 0) [] [] := ⟨.inl rfl, Own.nil te 1, fun a n h => by cases h⟩
def BldAt (te T : TypeId) (p : Nat) (s : List UInt8) (B : Base) (Lr : Heap) (w : World) : Prop := ∃ a v W, BldO te p a v s W ∧ St B ((p, cel [.pointer a, v] T) :: (W ++ Lr)) w
section
variable {P : Program} {ops : Array Oper} {Q : Exit → Act → World → Prop} {c : Cf} {e : Env} {B : Base} {rest : List Oper} {o : Oper} {d : Nat} {te T : TypeId} {p : Nat} {L Lr W : Heap} {a : Option Addr} {v : Value} {s : List UInt8} {f : FuncId} {args : Array Value}
theorem w_ck (hr : ∀ w, RunE P o (ev c.n e) w f args) (hg : plainB o = true) (hd : o.dst = some d)
    (hc : ∀ w, St B ((p, cel [.pointer a, v] T) :: L) w → Ret P f args w fun u w' => u = .tuple #[] ∧ St B ((p, cel [pX p, v] T) :: L) w')
    (h : WX .sq P ops c Q rest (upd e d (.tuple #[])) B ((p, cel [pX p, v] T) :: L)) : WX .sq P ops c Q (o :: rest) e B ((p, cel [.pointer a, v] T) :: L) :=
  zP (R := fun _ u w' => u = .tuple #[] ∧ St B ((p, cel [pX p, v] T) :: L) w') hr hg hd hc (fun w hw u w' ⟨hu, hs⟩ => ⟨B, _, hs, by subst hu; exact h⟩)
theorem RunE.to {ρ : Operand → Value} {w : World} {args' : Array Value} (h : RunE P o ρ w f args) (he : args = args') : RunE P o ρ w f args' := he ▸ h
theorem w_lets {L' : Heap} (r : Value) (hr : ∀ w, RunE P o (ev c.n e) w f args) (hg : plainB o = true) (hd : o.dst = some d) (hc : ∀ w, St B L w → Ret P f args w fun u w' => u = r ∧ St B L' w')
    (h : WX .sq P ops c Q rest (upd e d r) B L') : WX .sq P ops c Q (o :: rest) e B L :=
  zP (R := fun _ u w' => u = r ∧ St B L' w') hr hg hd hc (fun w hw u w' ⟨hu, hs⟩ => ⟨B, _, hs, by subst hu; exact h⟩)
theorem w_bld (s' : List UInt8) (r : Value) (hr : ∀ w, RunE P o (ev c.n e) w f args) (hg : plainB o = true) (hd : o.dst = some d) (hO : BldO te p a v s W)
    (hc : ∀ w, BldAt te T p s B Lr w → Ret P f args w fun u w' => u = r ∧ BldAt te T p s' B Lr w')
    (h : ∀ a' v' W', BldO te p a' v' s' W' → WX .sq P ops c Q rest (upd e d r) B ((p, cel [.pointer a', v'] T) :: (W' ++ Lr))) : WX .sq P ops c Q (o :: rest) e B ((p, cel [.pointer a, v] T) :: (W ++ Lr)) :=
  zP (R := fun _ u w' => u = r ∧ BldAt te T p s' B Lr w') hr hg hd (fun w hw => hc w ⟨a, v, W, hO, hw⟩)
    (fun w hw u w' ⟨hu, a', v', W', hO', hs⟩ => ⟨B, _, hs, by subst hu; exact h a' v' W' hO'⟩)
end
theorem OwnS.row {te : TypeId} {a : Option Addr} {n c : Nat} {xs : List (List UInt8)} {W : Heap} (h : OwnS te (.slice a n c) xs W) (hn : 0 < xs.length) : ∃ b sp, a = some ⟨b, 0, none⟩ ∧ n = xs.length ∧ W = [(b, cel (xs.map str ++ sp) te)] := by
  rcases h.2 with ⟨_, h2, _⟩ | ⟨b, cp, sp, hv, _, _, hW⟩
  · omega
  injection hv with h1 h2 h3
  exact ⟨b, sp, h1, h2, hW⟩
end Go.Sx
end
section
namespace Go.Proofs
open Go.Shelf
def Tryz.lays156_ren : Go.Shelf.Ren := ⟨fun | 156 => 39 | 165 => 74 | 166 => 40 | 169 => 41 | 240 => 75 | 241 => 118 | 276 => 119 | 277 => 156 | n => n, fun | 31 => 81 | 9 => 9 | 3 => 3 | 4 => 4 | 0 => 0 | 20 => 20 | 72 => 80 | 76 => 88 | 70 => 77 | 37 => 78 | 75 => 87 | 127 => 123 | 164 => 161 | 5 => 5 | 80 => 90 | n => n, fun | n => n⟩
theorem Tryz.lays156 : Go.Proofs.Lays.n156 Tryz.prog Tryz.lays156_ren := {
  mixed := by kernel_rfl
  f156 := Tryz.func39.trans (congrArg some (by kernel_rfl))
  f165 := Tryz.func74.trans (congrArg some (by kernel_rfl))
  f166 := Tryz.func40.trans (congrArg some (by kernel_rfl))
  f169 := Tryz.func41.trans (congrArg some (by kernel_rfl))
  f240 := Tryz.func75.trans (congrArg some (by kernel_rfl))
  f241 := Tryz.func118.trans (congrArg some (by kernel_rfl))
  f276 := Tryz.func119.trans (congrArg some (by kernel_rfl))
  f277 := Tryz.func156.trans (congrArg some (by kernel_rfl))
  t0 := Tryz.underlying0
  a0 := Tryz.isAgg0
  z0 := Tryz.sizeOf0
  v0 := Tryz.zeroValue0
  t3 := Tryz.underlying3
  a3 := Tryz.isAgg3
  z3 := Tryz.sizeOf3
  v3 := Tryz.zeroValue3
  t4 := Tryz.underlying4
  a4 := Tryz.isAgg4
  z4 := Tryz.sizeOf4
  v4 := Tryz.zeroValue4
  t9 := Tryz.underlying9
  a9 := Tryz.isAgg9
  z9 := Tryz.sizeOf9
  v9 := Tryz.zeroValue9
  t20 := Tryz.underlying20
  a20 := Tryz.isAgg20
  z20 := Tryz.sizeOf20
  v20 := Tryz.zeroValue20
  t31 := Tryz.underlying81
  a31 := Tryz.isAgg81
  z31 := Tryz.sizeOf81
  v31 := Tryz.zeroValue81
  t37 := Tryz.underlying78
  a37 := Tryz.isAgg78
  z37 := Tryz.sizeOf78
  v37 := Tryz.zeroValue78
  t70 := Tryz.underlying77
  a70 := Tryz.isAgg77
  z70 := Tryz.sizeOf77
  v70 := Tryz.zeroValue77
  t72 := Tryz.underlying80
  a72 := Tryz.isAgg80
  z72 := Tryz.sizeOf80
  v72 := Tryz.zeroValue80
  t75 := Tryz.underlying87
  a75 := Tryz.isAgg87
  z75 := Tryz.sizeOf87
  v75 := Tryz.zeroValue87
  t76 := Tryz.underlying88
  a76 := Tryz.isAgg88
  z76 := Tryz.sizeOf88
  v76 := Tryz.zeroValue88
  t127 := Tryz.underlying123
  a127 := Tryz.isAgg123
  z127 := Tryz.sizeOf123
  v127 := Tryz.zeroValue123
  t164 := Tryz.underlying161
  a164 := Tryz.isAgg161
  z164 := Tryz.sizeOf161
  v164 := Tryz.zeroValue161 }
theorem Tryz.Builder_Extra_156 : Builder.Extra Tryz.prog Tryz.lays156_ren := {
  sizeBuilder := by kernel_rfl
  liesBuilder := by kernel_rfl
  t5 := Tryz.underlying5
  a5 := Tryz.isAgg5
  z5 := Tryz.sizeOf5
  v5 := Tryz.zeroValue5
  infoByte := by kernel_rfl
  cellsByte := by kernel_rfl
  sizeByte := by kernel_rfl
  neB5 := by decide }
open Go.RowKit in
theorem Tryz.strings_Join (bk o c : Nat) (xs : List ByteArray) (sep : ByteArray) (w : World) (hcells : ∀ (j : Nat) x, xs[j]? = some x → w.cell? ⟨bk, o + j, none⟩ = some (.string x)) (hbk : bk < w.heap.size) (hN : xs.length ≤ 140737488355328) (hcap : xs.length ≤ c) (hlen : (Lib.join (xs.map (·.data.toList)) sep.data.toList).length ≤ 140737488355328) :
    Calls Tryz.prog 39 #[.slice (some ⟨bk, o, none⟩) xs.length c, .string sep] w fun e w' => e = .returned (.string ⟨(Lib.join (xs.map (·.data.toList)) sep.data.toList).toArray⟩) ∧ Below w.heap.size w w' := Any.strings_Join Tryz.lays156 Tryz.Builder_Extra_156 bk o c xs sep w hcells hbk hN hcap hlen
open Go.RowKit in
theorem Tryz.strings_Join_none (a : Option Addr) (c : Nat) (sep : ByteArray) (w : World) :
    Calls Tryz.prog 39 #[.slice a 0 c, .string sep] w fun e w' => e = .returned (.string ⟨#[]⟩) ∧ w' = w := Any.strings_Join_none Tryz.lays156 Tryz.Builder_Extra_156 a c sep w
end Go.Proofs
end
section
namespace Go.Proofs.YtikdkendinnalaaGreatDoor
open Go.RowKit Go.Sx
open Go.Feed
open Go.Tok Go.Tree
abbrev Bld := BldAt 5 80
abbrev BldT := BldO 5
theorem copyN_spec (p : Nat) (Bs : Base) (Lr : Heap) (w : World) (v : Value) (hs : St Bs ((p, cel [.pointer none, v] 80) :: Lr) w) :
    Ret Tryz.prog 75 #[pX p] w (fun u w' => u = .tuple #[] ∧ St Bs ((p, cel [pX p, v] 80) :: Lr) w') := by
  refine enterB (l := [_]) 20 Tryz.func75 rfl rfl rfl (hs) ?_; refine yA ?_; refine mP rfl ?_; refine zI rfl ?_; refine zf fa80_0 rfl ?_; refine jM 0 z77 rfl ?_; refine zg (fun _ => R_peqN up77 rfl rfl) ?_; refine yB ?_; refine zE rfl ?_; refine zr ?_; refine mP rfl ?_; refine mP rfl ?_; refine w_toU 0 rfl (Nat.succ_pos _) up77 up161 ibz80 rfl ?_; refine zg (fun _ => R_noEsc (fn := Tryz.f119) rfl (by kernel_rfl) (by kernel_rfl) (by kernel_rfl) (by kernel_rfl) rfl rfl) ?_; refine w_fromU 0 rfl up161 up77 isz80 lie80 rfl ?_; refine zI rfl ?_; refine zf fa80_0 rfl ?_; refine jv 0 z77 rfl ?_; refine zn ?_; refine r_none (.inr rfl) rfl ?_; exact fun w' hw => ⟨rfl, hw⟩
theorem copyS_spec (p : Nat) (Bs : Base) (Lr : Heap) (w : World) (v : Value) (hs : St Bs ((p, cel [pX p, v] 80) :: Lr) w) :
    Ret Tryz.prog 75 #[pX p] w (fun u w' => u = .tuple #[] ∧ St Bs ((p, cel [pX p, v] 80) :: Lr) w') := by
  refine enterB (l := [_]) 20 Tryz.func75 rfl rfl rfl (hs) ?_; refine yA ?_; refine mP rfl ?_; refine zI rfl ?_; refine zf fa80_0 rfl ?_; refine jM 0 z77 rfl ?_; refine zg (fun _ => R_peqS up77 rfl rfl) ?_; refine yB ?_; refine zG rfl ?_; refine yA ?_; refine mP rfl ?_; refine zI rfl ?_; refine zf fa80_0 rfl ?_; refine jM 0 z77 rfl ?_; refine mP rfl ?_; refine zg (fun _ => R_pneS up77 isz80 rfl rfl) ?_; refine yB ?_; refine zG rfl ?_; refine zi ?_; refine r_none (.inr rfl) rfl ?_; exact fun w' hw => ⟨rfl, hw⟩
theorem copy_spec (p : Nat) (Bs : Base) (Lr : Heap) (w : World) (a : Option Addr) (v : Value) (ha : a = none ∨ a = some (⟨p, 0, none⟩ : Addr)) (hs : St Bs ((p, cel [.pointer a, v] 80) :: Lr) w) : Ret Tryz.prog 75 #[pX p] w fun u w' => u = .tuple #[] ∧ St Bs ((p, cel [pX p, v] 80) :: Lr) w' := by
  rcases ha with rfl | rfl
  · exact copyN_spec p Bs Lr w v hs
  exact copyS_spec p Bs Lr w v hs
theorem writeS_spec (p : Nat) (Bs : Base) (Lr : Heap) (w : World) (s : Str) (t : Str) (hb : s.length + t.length ≤ 1000000000) (hP : Bld p s Bs Lr w) :
    Ret Tryz.prog 40 #[pX p, str t] w (fun u w' => u = .tuple #[.int .i64 (t.length : Nat), .nilIface] ∧ Bld p (s ++ t) Bs Lr w') := by
  obtain ⟨a, v, W, hO, hs⟩ := hP
  refine enterB (l := [_, _]) 19 Tryz.func40 rfl rfl rfl (hs) ?_; refine yA ?_; refine aI rfl ?_; refine za rfl ?_; refine yC ?_; refine mP rfl ?_; refine w_ck (fun w => zR Tryz.func75 rfl rfl rfl) rfl rfl (fun w h => copy_spec p Bs _ w a v hO.ad h) ?_; refine yC ?_; refine mP rfl ?_; refine mP rfl ?_; refine zI rfl ?_; refine zf fa80_1 rfl ?_; refine jM 0 z78 rfl ?_; refine zm (v := str _) rfl ?_; refine w_appS [(p, _)] (L := Lr) slt78 unS9 rfl hO.own rfl hO.nz hb (fun v2 W2 hO2 hz2 => ?_)
  obtain ⟨a2, c2, rfl⟩ := hO2.slice
  refine zI rfl ?_; refine zf fa80_1 rfl ?_; refine jv 0 z78 rfl ?_; refine yC ?_; refine zm (v := str _) rfl ?_; refine zg (fun _ => R_slen st9 rfl (by omega)) ?_; refine aI rfl ?_; refine za rfl ?_; refine yB ?_; refine ze ?_; refine r_two (v := .int _ _) rfl rfl rfl rfl rfl ?_; exact fun w' hw => ⟨rfl, _, _, W2, ⟨.inr rfl, by rw [Lib.byteCells_append, List.length_append]; exact hO2, hz2⟩, hw⟩
theorem string_spec (p : Nat) (Bs : Base) (Lr : Heap) (w : World) (s : Str) (hb : s.length ≤ 1000000000) (hP : Bld p s Bs Lr w) :
    Ret Tryz.prog 41 #[pX p] w (fun u w' => u = str s ∧ St Bs Lr w') := by
  obtain ⟨a, v, W, hO, hs⟩ := hP
  obtain ⟨va, vc, rfl⟩ := hO.own.slice
  refine enterB (l := [_]) 14 Tryz.func41 rfl rfl rfl (hs) ?_; refine yA ?_; refine za (v := str _) rfl ?_; refine yB ?_; refine zq ?_; refine c_held (St Bs [(p, cel [.pointer a, .slice va s.length vc] 80)]) mixed ?_; refine zh2 0 rfl rfl (fun w h => h.drop (.cons_cons _ (List.nil_sublist _))) (fun w h => R_move rfl) ?_; refine zh2 1 rfl rfl (fun w h => h.drop (.cons_cons _ (List.nil_sublist _))) (fun w h => R_nil rfl) ?_; refine zh2 2 rfl rfl (fun w h => h.drop (.cons_cons _ (List.nil_sublist _))) (fun w h => R_fa fa80_1 rfl) ?_; refine zh2 3 rfl rfl (fun w h => h.drop (.cons_cons _ (List.nil_sublist _))) (fun w h => R_ld1 z78 rfl (zc 0 rfl rfl h)) ?_
  refine zh2 5 rfl rfl (fun w h => h.drop (.cons_cons _ (List.nil_sublist _))) (fun w h => R_move rfl) ?_; refine zh2 6 rfl rfl (fun w h => h.drop (.cons_cons _ (List.nil_sublist _))) (fun w h => R_nil rfl) ?_; refine zh2 7 rfl rfl (fun w h => h.drop (.cons_cons _ (List.nil_sublist _))) (fun w h => R_fa fa80_1 rfl) ?_; refine zh2 8 rfl rfl (fun w h => h.drop (.cons_cons _ (List.nil_sublist _))) (fun w h => R_ld1 z78 rfl (zc 0 rfl rfl h)) ?_; refine zh2 9 rfl rfl (fun w h => h.drop (.cons_cons _ (List.nil_sublist _))) (fun w h => R_len sl78 rfl) ?_; refine h_sliceData 4 rfl (by kernel_rfl) (fun w h => h.drop (.cons_cons _ (List.nil_sublist _))) rfl hO.nz ?_
  refine h_unsafeStr (A := [(p, _)]) (W := W) (L := Lr) 10 rfl (by kernel_rfl) (fun w h => h.drop (.cons_cons _ (List.nil_sublist _))) up123 co5 hO.own hb rfl rfl ?_; refine zh2 11 rfl rfl (fun w h => h.drop (.cons_cons _ (List.nil_sublist _))) (fun w h => R_assign rfl) ?_; refine zN2 (fun w h => h.drop (.cons_cons _ (List.nil_sublist _))) ?_; refine zk ?_; refine ze ?_; refine zo (v := str _) rfl rfl rfl ?_; exact fun w' hw => ⟨rfl, hw.drop (List.sublist_cons_self _ _)⟩
theorem joinC_join : ∀ l : List Str, Lib.join l [44] = joinC l
  | [] => rfl
  | [x] => by rw [Lib.join_one]; rfl
  | x :: y :: l => by
    have := joinC_join (y :: l)
    rw [Lib.join_cons] at this ⊢
    rw [joinC, ← this]
    simp [Lib.joinTail]
theorem joinS_ok {te : TypeId} {v : Value} {xs : List Str} {W : Heap} {w : World} (hO : Own te 1 v (xs.map str) xs.length W) (hW : ∀ p ∈ W, w.heap[p.1]? = some p.2) (hn : xs.length ≤ 1000000) (hl : (joinC xs).length ≤ 1000000000) : Ret Tryz.prog 39 #[v, str [44]] w fun u w' => u = str (joinC xs) ∧ Ext w w' := by
  obtain ⟨ho, ⟨rfl, h0, rfl⟩ | ⟨q, cc, sp, rfl, hc, hsp, rfl⟩⟩ := hO
  · have : xs = [] := List.length_eq_zero_iff.1 h0
    subst this
    refine Calls.mono (Tryz.strings_Join_none none 0 ⟨#[44]⟩ w) fun e w' ⟨h1, h2⟩ => ⟨_, h1, rfl, by rw [h2]; exact Fr.refl _ _⟩
  have hb := hW _ (List.mem_singleton.2 rfl)
  have hm : (xs.map fun s => (⟨s.toArray⟩ : ByteArray)).map (·.data.toList) = xs := by
    rw [List.map_map]; exact List.map_id xs
  have hj := Tryz.strings_Join q 0 cc (xs.map fun s => ⟨s.toArray⟩) ⟨#[44]⟩ w (fun j x hx => by
    rw [List.getElem?_map, Option.map_eq_some_iff] at hx
    obtain ⟨s, hs, rfl⟩ := hx
    refine cell_of hb ?_
    rw [Nat.zero_add, List.getElem?_append_left (by rw [List.length_map]; exact (List.getElem?_eq_some_iff.1 hs).1), List.getElem?_map, hs]; rfl) (lt_of_blk hb) (by rw [List.length_map]; omega) (by rw [List.length_map]; omega) (by rw [hm]; show (Lib.join xs [44]).length ≤ _; rw [joinC_join]; omega)
  rw [List.length_map, hm] at hj
  refine Calls.mono hj fun e w' ⟨h1, h2⟩ => ⟨_, h1, ?_, ext_below h2⟩
  show str (Lib.join xs [44]) = _
  rw [joinC_join]
end Go.Proofs.YtikdkendinnalaaGreatDoor
end
