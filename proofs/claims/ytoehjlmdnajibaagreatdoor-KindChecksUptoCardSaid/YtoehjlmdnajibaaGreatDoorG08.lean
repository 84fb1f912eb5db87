/- Layer 15, KindChecks: Check and Vars of kind tell the fault, and the variables, of the document, for programs of at most 600 nodes and names of at most 200 bytes; in the Upto form. Part 8 of 17. -/
import Derived.Test.YtoehjlmdnajibaaGreatDoorG07
import Derived.Lib.UnsafeStr
import Derived.Lib.Builder
import Derived.Laws.Externs
set_option maxRecDepth 100000
set_option maxHeartbeats 16000000
section
namespace Go.Proofs.YtoehjlmdnajibaaGreatDoor
open Go.RowKit Go.Sx
open Go.Tok Go.Tree Go.Prs
structure Pe2 (w : World) (rb db : Nat) (T : List Tk) (z : Nat) (sv : Value) : Prop where
 pe : Pe w rb T z sv
 tk : ∃ a c, sv = .slice a T.length c ∧ ∀ k t, T[k]? = some t → At w (fun j => ¬ (j = rb ∨ j = db)) a (k * 3) (tkC t)
 dl : 4 ≤ db
theorem Pe2.len {w : World} {rb db z : Nat} {T : List Tk} {sv : Value} (h : Pe2 w rb db T z sv) : T.length ≤ 6000 := h.pe.len
theorem Pe2.now {w w' : World} {rb db z : Nat} {T : List Tk} {sv : Value} {B : Base} {L : Heap} (h : Pe2 w rb db T z sv) (hx : (w, fun j => j = rb ∨ j = db) ∈ B) (hw : St B L w') : Pe w' rb T z sv :=
 ⟨h.pe.wd.frS (hw.fr _ hx) (fun j hj => by rcases hj with rfl | rfl; exact h.pe.gl; exact h.dl), h.pe.gl, by
  obtain ⟨a, c, h1, h2⟩ := h.tk
  exact ⟨a, c, h1, fun i t hi => ((h2 i t hi).fr (hw.fr _ hx) (fun j hj => hj)).mono (fun j hj h => hj (.inl h))⟩, h.pe.len, h.pe.zz, h.pe.tb⟩
theorem Pe.two {w w' : World} {rb db z : Nat} {T : List Tk} {sv : Value} {B : Base} {L : Heap} (h : Pe w rb T z sv) (hx : (w, fun j => j = rb) ∈ B) (hw : St B L w') (hrb : rb < w.heap.size) (hd : w.heap.size ≤ db) : Pe2 w' rb db T z sv :=
 ⟨h.now hx hw, by
  obtain ⟨a, c, h1, h2⟩ := h.tk
  refine ⟨a, c, h1, fun i t hi => ?_⟩
  obtain ⟨b, o, h3, h4, h5⟩ := h2 i t hi
  have h6 := lt_of_cell (h5 0 _ rfl)
  refine ⟨b, o, h3, ?_, fun j v hj => (hw.fr _ hx).cell (h5 j v hj) h4⟩
  rintro (h7 | h7)
  ·exact h4 h7
  ·dsimp only at h6; omega, by have := h.gl; omega⟩
theorem size_ok (T : List Tk) (z : Nat) (sv : Value) (u : Nat)  (rb k o : Nat) (w : World) (hP : Pe w rb T z sv) (hb : w.heap[rb]? = some (Ro sv z k o)) (hk : k ≤ T.length) (ho : o ≤ 64) (hn : 8 * (T.length - k) + 1 ≤ u) :
  RetP Tryz.prog 155 #[.agg #[pX rb]] w (PR T (fun k => Ro sv z k o) rb (k + 1) (fun (l : List Ex) (b : Ad) => .slice b.1 l.length b.2) exsV (pSize z u (T.drop k) o) w) (PE pan rb (pSize z u (T.drop k) o) w) := by
 have hlen := hP.len
 have hG : pSize z u (T.drop k) o = pSize z u (T.drop k) o := rfl
 rw (config := { occs := .pos [2] }) [pSize] at hG
 refine enterP (S := (fun j => j = rb)) (l := [_]) (L := [(rb, Ro sv z k o)]) 16 Tryz.func155 rfl rfl rfl (St.start1 w hb rfl) (yA (w_boxA rfl (fun pb gpb upb => za (v := .slice _ _ _) rfl (yC (zf fa123_0 rfl (jM 0 z121 rfl (zS slt153 (by decide) rfl rfl (fun b2 gb2 ub2 => w_ps (T := T) (ob := fun k => Ro sv z k (o + 1)) (lo := k + 1) (Vs := fun _ => .tuple #[]) (pan := pan) 2 rfl zm0 rfl (hG.trans (opn_as (by decide))) (fun w => zR Tryz.func131 rfl rfl rfl) rfl rfl (fun w h => want_to (o := o) (xs := [[91]]) (o + 1) (by simp [upos, upo, openB, closeB]) rb k o z T sv w (hP.now zm0 h) (h.at_ 2 rfl) (by omega) (by omega) [[91]] (by decide) b2 (h.at_ 0 rfl) (h.ne 0 2 rfl rfl (by decide)) (by decide) (fun h => absurd h (by decide))) (fun fl w' h1 h0 h2 a ha => p_out ha ⟨fl, h1, h0, rfl, h2⟩) (fun e3 k3 hX3 hG3 hl3 hk3 => ?_)))))))))
 have ho3 : o + 1 ≤ 64 := wants_up hX3 (by omega) (by simp [upos, upo, openB, closeB])
 refine w_st (fun w h => h.d1) (yC (jy 0 z123 rfl rfl (w_pc (T := T) (ob := fun k => Ro sv z k (o + 1)) (lo := (k3 + 1)) (V := (fun e b => .agg (exE e b).toArray)) (pan := pan) 1 rfl zm0 rfl TL.ext hG3 (fun w => zR Tryz.func158 rfl rfl rfl) rfl rfl (fun w h => (ex_all T z sv u).1 rb k3 (o + 1) w (hP.now zm0 h) (h.at_ 1 rfl) (by omega) (by omega) (by omega)) (fun fl w' h1 h0 h2 a ha => p_out ha ⟨fl, h1, h0, rfl, h2⟩) (fun e4 b4 k4 w4 hX4 hG4 hl4 hk4 hK4 => zA zr52 (fun t3b gt3b ut3b => jv 0 z52 rfl (yC (zf fa123_0 rfl (jM 1 z121 rfl (zS slt153 (by decide) rfl rfl (fun b6 gb6 ub6 => w_ps (T := T) (ob := fun k => Ro sv z k o) (lo := k4 + 1) (Vs := fun _ => .tuple #[]) (pan := pan) 3 rfl zm1 rfl (hG4.trans (want_as (o + 1) (by decide))) (fun w => zR Tryz.func131 rfl rfl rfl) rfl rfl (fun w h => want_to (o := (o + 1)) (xs := [[93]]) o (by simp [upos, upo, openB, closeB]) rb k4 (o + 1) z T sv w (hP.now zm1 h) (h.at_ 3 rfl) (by omega) (by omega) [[93]] (by decide) b6 (h.at_ 0 rfl) (h.ne 0 3 rfl rfl (by decide)) (by decide) (fun _ => ⟨rfl, Nat.succ_pos _⟩)) (fun fl w' h1 h0 h2 a ha => p_out ha ⟨fl, h1, h0, rfl, h2⟩) (fun e7 k7 hX7 hG7 hl7 hk7 => w_st (fun w h => h.d1) (yC (jy 0 z52 rfl rfl (zS slt47 (by decide) rfl rfl (fun sb gsb usb => ?_)))))))))))))))
 have hsb : w.heap.size ≤ sb := (usb (w, fun j => j = rb) (by simp))
 refine za (v := .slice _ _ _) rfl (yB (ze (k_p (.inl rfl) (zo (v := .slice _ _ _) rfl rfl rfl ?_)))); exact fun w' hw => ⟨[e4], (some ⟨sb, 0, none⟩, 1), k7, hG7, by omega, by omega, rfl, exsV.one (hK4.fin TL.ext zm0 hw) (hw.at_ 0 rfl) ⟨hsb, lt_of_blk (hw.at_ 0 rfl)⟩, hw.fr _ zm1, hw.at_ 3 rfl⟩
theorem bounds_ok (T : List Tk) (z : Nat) (sv : Value) (u : Nat) (rb db k o : Nat) (w : World) (hP : Pe2 w rb db T z sv) (hb : w.heap[rb]? = some (Ro sv z k o)) (c0 c1 c2 c3 c6 : Value) (hd : w.heap[db]? = some (cel [c0, c1, c2, c3, .slice none 0 0, .slice none 0 0, c6] 49)) (hne : db ≠ rb) (hk : k ≤ T.length) (ho : o ≤ 64) (hn : 8 * (T.length - k) + 1 ≤ u) :
  RetP Tryz.prog 156 #[.agg #[pX rb], pX db] w (fun v w' => ∃ lo up bl bu k1, pBounds z u (T.drop k) o = .ok ((lo, up), T.drop k1) ∧ k ≤ k1 ∧ k1 ≤ T.length ∧ exsV w' (Nn w w') lo bl ∧ exsV w' (Nn w w') up bu ∧ Fr (fun j => j = rb ∨ j = db) w w' ∧ w'.heap[rb]? = some (Ro sv z k1 o) ∧ w'.heap[db]? = some (cel [c0, c1, c2, c3, .slice bl.1 lo.length bl.2, .slice bu.1 up.length bu.2, c6] 49)) (fun ch w' => ∃ fl, pBounds z u (T.drop k) o = .error fl ∧ fl.1 ≠ 0 ∧ ch = pan fl ∧ Fr (fun j => j = rb ∨ j = db) w w') := by
 have hlen := hP.len
 have hG : pBounds z u (T.drop k) o = pBounds z u (T.drop k) o := rfl
 rw (config := { occs := .pos [2] }) [pBounds] at hG
 refine enterP (S := (fun j => j = rb ∨ j = db)) (l := [_, _]) (L := [(db, cel [c0, c1, c2, c3, .slice none 0 0, .slice none 0 0, c6] 49), (rb, Ro sv z k o)]) 45 Tryz.func156 rfl rfl rfl (St.start2 w hd hb hne (.inr rfl) (.inl rfl)) (yA (w_boxA rfl (fun pb gpb upb => yB (zq (yA (zf fa123_0 rfl (jM 0 z121 rfl ?_))))))); refine w_take (b := isW [60] (T.drop k)) (lim := True) (o2 := Ro sv z (k + 1) o) (ch0 := pan (131, place z (T.drop k))) 2 rfl zm0 (.inl rfl) (fun w => zR Tryz.func130 rfl rfl rfl) rfl rfl (fun w h => take_w [60] (by decide) (by decide) (by decide) rb k o z T sv w (hP.now zm0 h) (h.at_ 2 rfl) (by omega) (by omega)) (fun w' hi hl => absurd trivial hl) (fun hi2 _ => ?_) (fun hi2 => ?_)
 ·have hlt2 := isW_lt hi2; have hG2 := hG.trans (if_pos hi2); rw [drop_tl] at hG2
  refine jk rfl (yB (zG rfl (zi (zk (yA (aB rfl (yB (zq (yA (zf fa123_0 rfl (jM 0 z121 rfl ?_))))))))))); refine w_take (b := isW [108, 111, 119, 101, 114] (T.drop (k + 1))) (lim := True) (o2 := Ro sv z ((k + 1) + 1) o) (ch0 := pan (131, place z (T.drop (k + 1)))) 2 rfl zm0 (.inl rfl) (fun w => zR Tryz.func130 rfl rfl rfl) rfl rfl (fun w h => take_w [108, 111, 119, 101, 114] (by decide) (by decide) (by decide) rb (k + 1) o z T sv w (hP.now zm0 h) (h.at_ 2 rfl) (by omega) (by omega)) (fun w' hi hl => absurd trivial hl) (fun hi3 _ => ?_) (fun hi3 => ?_)
  ·have hlt3 := isW_lt hi3; have hG3 := hG2.trans (if_pos hi3); rw [drop_tl] at hG3
   refine yB (zE rfl (yA (zf fa123_0 rfl (jM 0 z121 rfl (zS slt153 (by decide) rfl rfl (fun b4 gb4 ub4 => w_ps (T := T) (ob := fun k => Ro sv z k o) (lo := (k + 1 + 1) + 1) (Vs := fun _ => .tuple #[]) (pan := pan) 3 rfl zm0 (.inl rfl) (hG3.trans (want_as o (by decide))) (fun w => zR Tryz.func131 rfl rfl rfl) rfl rfl (fun w h => want_to (o := o) (xs := [[61]]) o (by simp [upos, upo, openB, closeB]) rb (k + 1 + 1) o z T sv w (hP.now zm0 h) (h.at_ 3 rfl) (by omega) (by omega) [[61]] (by decide) b4 (h.at_ 0 rfl) (h.ne 0 3 rfl rfl (by decide)) (by decide) (fun h => absurd h (by decide))) (fun fl w' h1 h0 h2 a ha => p_out ha ⟨fl, h1, h0, rfl, h2⟩) (fun e5 k5 hX5 hG5 hl5 hk5 => w_st (fun w h => h.d1) (yC (mP rfl (jy 0 z123 rfl rfl (w_pc (T := T) (ob := fun k => Ro sv z k o) (lo := (k5 + 1)) (V := (fun e b => .agg (exE e b).toArray)) (pan := pan) 2 rfl zm0 (.inl rfl) TL.ext hG5 (fun w => zR Tryz.func158 rfl rfl rfl) rfl rfl (fun w h => (ex_all T z sv u).1 rb k5 o w (hP.now zm0 h) (h.at_ 2 rfl) (by omega) (by omega) (by omega)) (fun fl w' h1 h0 h2 a ha => p_out ha ⟨fl, h1, h0, rfl, h2⟩) (fun e6 b6 k6 w6 hX6 hG6 hl6 hk6 hK6 => ?_))))))))))))
   have hGw7 := hG6; rw [pBoundsB] at hGw7
   refine zS slt47 (by decide) rfl rfl (fun sb gsb usb => ?_)
   have hsb : w.heap.size ≤ sb := (by have := usb (w, fun j => j = rb ∨ j = db) (by simp); exact this)
   refine zI rfl (zf fa49_4 rfl (jv 2 z47 rfl (yC (zf fa123_0 rfl (jM 1 z121 rfl ?_))))); refine w_take (b := isW [44] (T.drop k6)) (lim := True) (o2 := Ro sv z (k6 + 1) o) (ch0 := pan (131, place z (T.drop k6))) 3 rfl zm1 (.inl rfl) (fun w => zR Tryz.func130 rfl rfl rfl) rfl rfl (fun w h => take_w [44] (by decide) (by decide) (by decide) rb k6 o z T sv w (hP.now zm1 h) (h.at_ 3 rfl) (by omega) (by omega)) (fun w' hi hl => absurd trivial hl) (fun hi8 _ => ?_) (fun hi8 => ?_)
   ·have hlt8 := isW_lt hi8; have hG8 := hGw7.trans (if_pos hi8); rw [drop_tl] at hG8
    refine aB rfl (yC (mB rfl (jk rfl (yB (zG rfl (zi (zk (yA (zf fa123_0 rfl (jM 1 z121 rfl (zS slt153 (by decide) rfl rfl (fun b9 gb9 ub9 => ?_))))))))))))
    have hGw10 := hG8; rw [pUpper] at hGw10
    refine w_ps (T := T) (ob := fun k => Ro sv z k o) (lo := (k6 + 1) + 2) (Vs := fun _ => .tuple #[]) (pan := pan) 4 rfl zm1 (.inl rfl) (hGw10.trans (two_as o (by decide) (by decide) (by decide))) (fun w => zR Tryz.func131 rfl rfl rfl) rfl rfl (fun w h => want_to (o := o) (xs := [[117, 112, 112, 101, 114], [61]]) o (by simp [upos, upo, openB, closeB]) rb (k6 + 1) o z T sv w (hP.now zm1 h) (h.at_ 4 rfl) (by omega) (by omega) [[117, 112, 112, 101, 114], [61]] (by decide) b9 (h.at_ 0 rfl) (h.ne 0 4 rfl rfl (by decide)) (by decide) (fun h => absurd h (by decide))) (fun fl w' h1 h0 h2 a ha => p_out ha ⟨fl, h1, h0, rfl, h2⟩) (fun e11 k11 hX11 hG11 hl11 hk11 => w_st (fun w h => h.d1) (yC (mP rfl (jy 1 z123 rfl rfl (w_pc (T := T) (ob := fun k => Ro sv z k o) (lo := (k11 + 1)) (V := (fun e b => .agg (exE e b).toArray)) (pan := pan) 3 rfl zm1 (.inl rfl) TL.ext hG11 (fun w => zR Tryz.func158 rfl rfl rfl) rfl rfl (fun w h => (ex_all T z sv u).1 rb k11 o w (hP.now zm1 h) (h.at_ 3 rfl) (by omega) (by omega) (by omega)) (fun fl w' h1 h0 h2 a ha => p_out ha ⟨fl, h1, h0, rfl, h2⟩) (fun e12 b12 k12 w12 hX12 hG12 hl12 hk12 hK12 => zS slt47 (by decide) rfl rfl (fun sb2 gsb2 usb2 => ?_)))))))
    have hsb2 : w.heap.size ≤ sb2 := (by have := usb2 (w, fun j => j = rb ∨ j = db) (by simp); exact this)
    refine zI rfl (zf fa49_5 rfl (jv 3 z47 rfl (yB (zr (zf fa123_0 rfl (jM 2 z121 rfl (zS slt153 (by decide) rfl rfl (fun b13 gb13 ub13 => w_ps (T := T) (ob := fun k => Ro sv z k o) (lo := k12 + 1) (Vs := fun _ => .tuple #[]) (pan := pan) 5 rfl zm2 (.inl rfl) (hG12.trans (want_as o (by decide))) (fun w => zR Tryz.func131 rfl rfl rfl) rfl rfl (fun w h => want_to (o := o) (xs := [[62]]) o (by simp [upos, upo, openB, closeB]) rb k12 o z T sv w (hP.now zm2 h) (h.at_ 5 rfl) (by omega) (by omega) [[62]] (by decide) b13 (h.at_ 0 rfl) (h.ne 0 5 rfl rfl (by decide)) (by decide) (fun h => absurd h (by decide))) (fun fl w' h1 h0 h2 a ha => p_out ha ⟨fl, h1, h0, rfl, h2⟩) (fun e14 k14 hX14 hG14 hl14 hk14 => w_st (fun w h => h.d1) (zn (k_p (.inr rfl) (r_none (.inr rfl) rfl ?_)))))))))))); exact fun w' hw => ⟨[e6], [e12], (some ⟨sb, 0, none⟩, 1), (some ⟨sb2, 0, none⟩, 1), k14, hG14, by omega, by omega, exsV.one (hK6.fin TL.ext zm1 hw) (hw.at_ 1 rfl) ⟨hsb, lt_of_blk (hw.at_ 1 rfl)⟩, exsV.one (hK12.fin TL.ext zm0 hw) (hw.at_ 0 rfl) ⟨hsb2, lt_of_blk (hw.at_ 0 rfl)⟩, hw.fr _ zm2, hw.at_ 4 rfl, hw.at_ 3 rfl⟩
   ·have hG8 := hGw7.trans (if_neg (nf hi8))
    refine aB rfl (yC (mB rfl (jk rfl (yB (zE rfl (yA (zf fa123_0 rfl (jM 1 z121 rfl (zS slt153 (by decide) rfl rfl (fun b15 gb15 ub15 => w_ps (T := T) (ob := fun k => Ro sv z k o) (lo := k6 + 1) (Vs := fun _ => .tuple #[]) (pan := pan) 4 rfl zm1 (.inl rfl) (hG8.trans (want_as o (by decide))) (fun w => zR Tryz.func131 rfl rfl rfl) rfl rfl (fun w h => want_to (o := o) (xs := [[62]]) o (by simp [upos, upo, openB, closeB]) rb k6 o z T sv w (hP.now zm1 h) (h.at_ 4 rfl) (by omega) (by omega) [[62]] (by decide) b15 (h.at_ 0 rfl) (h.ne 0 4 rfl rfl (by decide)) (by decide) (fun h => absurd h (by decide))) (fun fl w' h1 h0 h2 a ha => p_out ha ⟨fl, h1, h0, rfl, h2⟩) (fun e16 k16 hX16 hG16 hl16 hk16 => w_st (fun w h => h.d1) (yB (ze (zt ((k_p (.inl rfl) (r_none (.inl rfl) rfl ?_))))))))))))))))); exact fun w' hw => ⟨[e6], [], (some ⟨sb, 0, none⟩, 1), (none, 0), k16, hG16, by omega, by omega, exsV.one (hK6.fin TL.ext zm0 hw) (hw.at_ 0 rfl) ⟨hsb, lt_of_blk (hw.at_ 0 rfl)⟩, exsV.nil, hw.fr _ zm1, hw.at_ 3 rfl, hw.at_ 2 rfl⟩
  ·have hG3 := hG2.trans (if_neg (nf hi3))
   refine yB (zG rfl (zi (zk (yA (zf fa123_0 rfl (jM 0 z121 rfl (zS slt153 (by decide) rfl rfl (fun b17 gb17 ub17 => ?_))))))))
   have hGw18 := hG3; rw [pUpper] at hGw18
   refine w_ps (T := T) (ob := fun k => Ro sv z k o) (lo := (k + 1) + 2) (Vs := fun _ => .tuple #[]) (pan := pan) 3 rfl zm0 (.inl rfl) (hGw18.trans (two_as o (by decide) (by decide) (by decide))) (fun w => zR Tryz.func131 rfl rfl rfl) rfl rfl (fun w h => want_to (o := o) (xs := [[117, 112, 112, 101, 114], [61]]) o (by simp [upos, upo, openB, closeB]) rb (k + 1) o z T sv w (hP.now zm0 h) (h.at_ 3 rfl) (by omega) (by omega) [[117, 112, 112, 101, 114], [61]] (by decide) b17 (h.at_ 0 rfl) (h.ne 0 3 rfl rfl (by decide)) (by decide) (fun h => absurd h (by decide))) (fun fl w' h1 h0 h2 a ha => p_out ha ⟨fl, h1, h0, rfl, h2⟩) (fun e19 k19 hX19 hG19 hl19 hk19 => w_st (fun w h => h.d1) (yC (mP rfl (jy 0 z123 rfl rfl (w_pc (T := T) (ob := fun k => Ro sv z k o) (lo := (k19 + 1)) (V := (fun e b => .agg (exE e b).toArray)) (pan := pan) 2 rfl zm0 (.inl rfl) TL.ext hG19 (fun w => zR Tryz.func158 rfl rfl rfl) rfl rfl (fun w h => (ex_all T z sv u).1 rb k19 o w (hP.now zm0 h) (h.at_ 2 rfl) (by omega) (by omega) (by omega)) (fun fl w' h1 h0 h2 a ha => p_out ha ⟨fl, h1, h0, rfl, h2⟩) (fun e20 b20 k20 w20 hX20 hG20 hl20 hk20 hK20 => zS slt47 (by decide) rfl rfl (fun sb2 gsb2 usb2 => ?_)))))))
   have hsb2 : w.heap.size ≤ sb2 := (by have := usb2 (w, fun j => j = rb ∨ j = db) (by simp); exact this)
   refine zI rfl (zf fa49_5 rfl (jv 2 z47 rfl (yB (zr (zf fa123_0 rfl (jM 1 z121 rfl (zS slt153 (by decide) rfl rfl (fun b21 gb21 ub21 => w_ps (T := T) (ob := fun k => Ro sv z k o) (lo := k20 + 1) (Vs := fun _ => .tuple #[]) (pan := pan) 4 rfl zm1 (.inl rfl) (hG20.trans (want_as o (by decide))) (fun w => zR Tryz.func131 rfl rfl rfl) rfl rfl (fun w h => want_to (o := o) (xs := [[62]]) o (by simp [upos, upo, openB, closeB]) rb k20 o z T sv w (hP.now zm1 h) (h.at_ 4 rfl) (by omega) (by omega) [[62]] (by decide) b21 (h.at_ 0 rfl) (h.ne 0 4 rfl rfl (by decide)) (by decide) (fun h => absurd h (by decide))) (fun fl w' h1 h0 h2 a ha => p_out ha ⟨fl, h1, h0, rfl, h2⟩) (fun e22 k22 hX22 hG22 hl22 hk22 => w_st (fun w h => h.d1) (zn (k_p (.inr rfl) (r_none (.inr rfl) rfl ?_)))))))))))); exact fun w' hw => ⟨[], [e20], (none, 0), (some ⟨sb2, 0, none⟩, 1), k22, hG22, by omega, by omega, exsV.nil, exsV.one (hK20.fin TL.ext zm0 hw) (hw.at_ 0 rfl) ⟨hsb2, lt_of_blk (hw.at_ 0 rfl)⟩, hw.fr _ zm1, hw.at_ 3 rfl, hw.at_ 2 rfl⟩
 ·have hG2 := hG.trans (if_neg (nf hi2))
  refine jk rfl (yB (zE rfl (ze (zt ((k_p (.inl rfl) (r_none (.inl rfl) rfl ?_))))))); exact fun w' hw => ⟨[], [], (none, 0), (none, 0), k, hG2, by omega, by omega, exsV.nil, exsV.nil, hw.f0, hw.at_ 2 rfl, hw.at_ 1 rfl⟩
theorem decl_ok (T : List Tk) (z : Nat) (sv : Value) (u : Nat) (first : Bool) (rb k o : Nat) (w : World) (hP : Pe w rb T z sv) (hb : w.heap[rb]? = some (Ro sv z k o)) (hk : k ≤ T.length) (ho : o ≤ 64) (hn : 8 * (T.length - k) + 1 ≤ u) :
  RetP Tryz.prog 132 #[.agg #[pX rb], .bool first] w (PRg T (fun k => Ro sv z k o) rb (fun d : Bool × Dc => if d.1 = true then k + 1 else k) (fun (d : Bool × Dc) (b : Ad4) => .tuple #[.agg (dcE d.2 b).toArray, .bool d.1]) dcT1 (pDecl z u first (T.drop k) o) w) (PE pan rb (pDecl z u first (T.drop k) o) w) := by
 have hlen := hP.len
 have hG : pDecl z u first (T.drop k) o = pDecl z u first (T.drop k) o := rfl
 rw (config := { occs := .pos [2] }) [pDecl] at hG
 have hrb := lt_of_blk hb
 refine enterP (S := (fun j => j = rb)) (l := [_, _]) (L := [(rb, Ro sv z k o)]) 77 Tryz.func132 rfl rfl rfl (St.start1 w hb rfl) (yA (w_boxA rfl (fun pb gpb upb => zA zr49 (fun t4b gt4b ut4b => aB rfl (yC (zf fa123_0 rfl (jM 1 z121 rfl (jD Tryz.func128 (fun w h => now_ok rb k o z T sv w (hP.now zm0 h) (h.at_ 2 rfl) hk) (zg (fun _ => R_fieldA fd141_2 z3 rfl rfl) (jb bt49 rfl (zA zr49 (fun db gdb udb => ?_))))))))))))
 have hdb : w.heap.size ≤ db := (udb (w, fun j => j = rb) (by simp))
 refine jv 0 z49 rfl (yB ?_); refine c_cut (fun e B L => ∃ (ty : Nat) (l1 : List Ex) (b1 : Ad) (k1 : Nat) (x1 : Bw), e 1 = .bool first ∧ e 2 = pX pb ∧ e 4 = pX t4b ∧ e 6 = pX db ∧ B = [x1, (w, fun j => j = rb)] ∧ L = [(db, cel [.int .u8 (ty : Nat), .int .i64 (((nowT z (T.drop k)).2.2 : Nat)), str [], .slice b1.1 l1.length b1.2, .slice none 0 0, .slice none 0 0, .slice none 0 0] 49), (t4b, cel [.int .u8 0, .int .i64 0, str [], .slice none 0 0, .slice none 0 0, .slice none 0 0, .slice none 0 0] 49), (pb, cel [pX rb] 123), (rb, Ro sv z k1 o)] ∧ pDecl z u first (T.drop k) o = pDeclT z u first ty (nowT z (T.drop k)).2.2 o l1 (T.drop k1) ∧ k + 1 ≤ k1 ∧ k1 ≤ T.length ∧ Kt x1 w.heap.size exsV l1 b1 ∧ ty < 256) ?_ ?_
 ·refine zB (yA (zf fa123_0 rfl (jM 2 z121 rfl ?_))); refine w_take (b := isW [105, 110, 116] (T.drop k)) (lim := True) (o2 := Ro sv z (k + 1) o) (ch0 := pan (131, place z (T.drop k))) 3 rfl zm0 rfl (fun w => zR Tryz.func130 rfl rfl rfl) rfl rfl (fun w h => take_w [105, 110, 116] (by decide) (by decide) (by decide) rb k o z T sv w (hP.now zm0 h) (h.at_ 3 rfl) (by omega) (by omega)) (fun w' hi hl => absurd trivial hl) (fun hi3 _ => ?_) (fun hi3 => ?_)
  ·have hlt3 := isW_lt hi3; have hG3 := hG.trans (if_pos hi3); rw [drop_tl] at hG3
   refine aB rfl (yB (zE rfl (zr (zf fa49_0 rfl (jv 0 z5 rfl (zn (zO ((zK (B' := _) (L' := [_, _, _, _]) (fun w h => h) (k_base (fun w9 h9 => ?_)))))))))))
   exact k_mid ⟨1, [], (none, 0), k + 1, _, rfl, rfl, rfl, rfl, rfl, rfl, hG3, by omega, by omega, exsV.nil, by decide⟩
  ·have hG3 := hG.trans (if_neg (nf hi3))
   refine aB rfl (yB (zG rfl (yA (zf fa123_0 rfl (jM 2 z121 rfl ?_))))); refine w_take (b := isW [114, 101, 97, 108] (T.drop k)) (lim := True) (o2 := Ro sv z (k + 1) o) (ch0 := pan (131, place z (T.drop k))) 3 rfl zm0 rfl (fun w => zR Tryz.func130 rfl rfl rfl) rfl rfl (fun w h => take_w [114, 101, 97, 108] (by decide) (by decide) (by decide) rb k o z T sv w (hP.now zm0 h) (h.at_ 3 rfl) (by omega) (by omega)) (fun w' hi hl => absurd trivial hl) (fun hi4 _ => ?_) (fun hi4 => ?_)
   ·have hlt4 := isW_lt hi4; have hG4 := hG3.trans (if_pos hi4); rw [drop_tl] at hG4
    refine aB rfl (yB (zE rfl (zr (zf fa49_0 rfl (jv 0 z5 rfl (zn (zO ((zK (B' := _) (L' := [_, _, _, _]) (fun w h => h) (k_base (fun w9 h9 => ?_)))))))))))
    exact k_mid ⟨2, [], (none, 0), k + 1, _, rfl, rfl, rfl, rfl, rfl, rfl, hG4, by omega, by omega, exsV.nil, by decide⟩
   ·have hG4 := hG3.trans (if_neg (nf hi4))
    refine aB rfl (yB (zG rfl (yA (zf fa123_0 rfl (jM 2 z121 rfl ?_))))); refine w_take (b := isW [118, 101, 99, 116, 111, 114] (T.drop k)) (lim := True) (o2 := Ro sv z (k + 1) o) (ch0 := pan (131, place z (T.drop k))) 3 rfl zm0 rfl (fun w => zR Tryz.func130 rfl rfl rfl) rfl rfl (fun w h => take_w [118, 101, 99, 116, 111, 114] (by decide) (by decide) (by decide) rb k o z T sv w (hP.now zm0 h) (h.at_ 3 rfl) (by omega) (by omega)) (fun w' hi hl => absurd trivial hl) (fun hi5 _ => ?_) (fun hi5 => ?_)
    ·have hlt5 := isW_lt hi5; have hG5 := hG4.trans (if_pos hi5); rw [drop_tl] at hG5
     refine aB rfl (yB (zE rfl (zr (zf fa49_0 rfl (jv 0 z5 rfl (zn (zO ((zK (B' := _) (L' := [_, _, _, _]) (fun w h => h) (k_base (fun w9 h9 => ?_)))))))))))
     exact k_mid ⟨3, [], (none, 0), k + 1, _, rfl, rfl, rfl, rfl, rfl, rfl, hG5, by omega, by omega, exsV.nil, by decide⟩
    ·have hG5 := hG4.trans (if_neg (nf hi5))
     refine aB rfl (yB (zG rfl (yA (zf fa123_0 rfl (jM 2 z121 rfl ?_))))); refine w_take (b := isW [97, 114, 114, 97, 121] (T.drop k)) (lim := True) (o2 := Ro sv z (k + 1) o) (ch0 := pan (131, place z (T.drop k))) 3 rfl zm0 rfl (fun w => zR Tryz.func130 rfl rfl rfl) rfl rfl (fun w h => take_w [97, 114, 114, 97, 121] (by decide) (by decide) (by decide) rb k o z T sv w (hP.now zm0 h) (h.at_ 3 rfl) (by omega) (by omega)) (fun w' hi hl => absurd trivial hl) (fun hi6 _ => ?_) (fun hi6 => ?_)
     ·have hlt6 := isW_lt hi6; have hG6 := hG5.trans (if_pos hi6); rw [drop_tl] at hG6
      refine aB rfl (yB (zE rfl (yA (jy 2 z123 rfl rfl (w_pc (T := T) (ob := fun k => Ro sv z k o) (lo := (k + 1 + 1)) (V := (fun (l : List Ex) (b : Ad) => .slice b.1 l.length b.2)) (pan := pan) 3 rfl zm0 rfl TL.exs hG6 (fun w => zR Tryz.func155 rfl rfl rfl) rfl rfl (fun w h => size_ok T z sv u rb (k + 1) o w (hP.now zm0 h) (h.at_ 3 rfl) (by omega) (by omega) (by omega)) (fun fl w' h1 h0 h2 a ha => p_out ha ⟨fl, h1, h0, rfl, h2⟩) (fun e7 b7 k7 w7 hX7 hG7 hl7 hk7 hK7 => zf fa49_3 rfl (jv 0 z47 rfl (yC (zf fa49_0 rfl (jv 0 z5 rfl (yC (zf fa123_0 rfl (jM 2 z121 rfl ?_))))))))))))); refine w_take (b := isW [105, 110, 116] (T.drop k7)) (lim := True) (o2 := Ro sv z (k7 + 1) o) (ch0 := pan (131, place z (T.drop k7))) 3 rfl zm1 rfl (fun w => zR Tryz.func130 rfl rfl rfl) rfl rfl (fun w h => take_w [105, 110, 116] (by decide) (by decide) (by decide) rb k7 o z T sv w (hP.now zm1 h) (h.at_ 3 rfl) (by omega) (by omega)) (fun w' hi hl => absurd trivial hl) (fun hi8 _ => ?_) (fun hi8 => ?_)
      ·have hlt8 := isW_lt hi8; have hG8 := hG7.trans (if_pos hi8); rw [drop_tl] at hG8
       refine jk rfl (yB (zG rfl (zi (zO ((zK (B' := _) (L' := [_, _, _, _]) (fun w h => h) ?_)))))); exact k_mid ⟨4, e7, b7, k7 + 1, _, rfl, rfl, rfl, rfl, rfl, rfl, hG8, by omega, by omega, hK7, by decide⟩
      ·have hG8 := hG7.trans (if_neg (nf hi8))
       refine jk rfl (yB (zE rfl (yA (zf fa123_0 rfl (jM 2 z121 rfl (zS slt153 (by decide) rfl rfl (fun b9 gb9 ub9 => w_ps (T := T) (ob := fun k => Ro sv z k o) (lo := k7 + 1) (Vs := fun _ => .tuple #[]) (pan := pan) 4 rfl zm1 rfl (hG8.trans (want_as o (by decide))) (fun w => zR Tryz.func131 rfl rfl rfl) rfl rfl (fun w h => want_to (o := o) (xs := [[114, 101, 97, 108]]) o (by simp [upos, upo, openB, closeB]) rb k7 o z T sv w (hP.now zm1 h) (h.at_ 4 rfl) (by omega) (by omega) [[114, 101, 97, 108]] (by decide) b9 (h.at_ 0 rfl) (h.ne 0 4 rfl rfl (by decide)) (by decide) (fun h => absurd h (by decide))) (fun fl w' h1 h0 h2 a ha => p_out ha ⟨fl, h1, h0, rfl, h2⟩) (fun e10 k10 hX10 hG10 hl10 hk10 => w_st (fun w h => h.d1) (yB (zr (zf fa49_0 rfl (jv 0 z5 rfl (zn (zO ((zK (B' := _) (L' := [_, _, _, _]) (fun w h => h) ?_)))))))))))))))); exact k_mid ⟨5, e7, b7, k10, _, rfl, rfl, rfl, rfl, rfl, rfl, hG10, by omega, by omega, hK7, by decide⟩
     ·have hG6 := hG5.trans (if_neg (nf hi6))
      refine aB rfl (yB (zG rfl (yA (jy 0 z49 rfl rfl (jv 1 z49 rfl (aB rfl (yB (ze (zb (zt ((k_p (.inl rfl) (r_fin (.inl rfl) rfl (.agg rfl rfl z49 (fun _ h => h.at_ 1 rfl) rfl (.tmp rfl rfl .nil)) ?_))))))))))))); exact fun w' hw => ⟨(false, ⟨0, ((nowT z (T.drop k)).2.2 : Nat), [], [], [], [], []⟩), ((none, 0), (none, 0), (none, 0), (none, 0)), k, hG6, Nat.le_refl _, hk, rfl, ⟨exsV.nil, exsV.nil, exsV.nil, exsV.nil⟩, hw.f0, hw.at_ 3 rfl⟩
 rintro e B L ⟨ty, l1, b1, k1, x1, e1_1, e2_1, e4_1, e6_1, rfl, rfl, hGt, hlo1, hk1, hK1, hty⟩
 rw [pDeclT] at hGt
 refine yA (jy 2 z123 e2_1 rfl (w_env (t := 6) (v := pX db) e6_1 ?_))
 refine w_callP (R := fun w v w' => ∃ lo up bl bu k2, pBounds z u (T.drop k1) o = .ok ((lo, up), T.drop k2) ∧ k1 ≤ k2 ∧ k2 ≤ T.length ∧ exsV w' (Nn w w') lo bl ∧ exsV w' (Nn w w') up bu ∧ Fr (fun j => j = rb ∨ j = db) w w' ∧ w'.heap[rb]? = some (Ro sv z k2 o) ∧ w'.heap[db]? = some (cel [.int .u8 (ty : Nat), .int .i64 (((nowT z (T.drop k)).2.2 : Nat)), str [], .slice b1.1 l1.length b1.2, .slice bl.1 lo.length bl.2, .slice bu.1 up.length bu.2, .slice none 0 0] 49)) (E := fun w ch w' => ∃ fl, pBounds z u (T.drop k1) o = .error fl ∧ fl.1 ≠ 0 ∧ ch = pan fl ∧ Fr (fun j => j = rb ∨ j = db) w w') (fun w => zR Tryz.func156 rfl rfl rfl) rfl rfl (fun w h => bounds_ok T z sv u rb db k1 o w (hP.two zm1 h hrb hdb) (h.at_ 3 rfl) _ _ _ _ _ (h.at_ 0 rfl) (h.ne 0 3 rfl rfl (by decide)) (by omega) (by omega) (by omega)) ?_ (fun w hw ch w' hh a ha => ?_)
 rotate_left
 ·obtain ⟨fl, h1, h0, h2, h3⟩ := hh; exact p_out ha ⟨fl, (hGt.trans (andR_er h1)), h0, h2, (hw.fr _ zm1).row2 h3 hdb⟩
 rintro wb hwb v w2 ⟨lo, up, bl, bu, k2, hXb, hkb, hk2, hlo, hup, hf, hrr, hdd⟩
 obtain ⟨hs2, hkt⟩ := bnd_new 3 0 hwb zm1 rfl rfl (by decide) hf hrr hdd
 refine ⟨_, _, hs2, ?_⟩
 have hKlo := hkt _ _ hlo; have hKup := hkt _ _ hup; have hGb : pDecl z u first (T.drop k) o = pDeclU z u first ty (nowT z (T.drop k)).2.2 o l1 (lo, up) (T.drop k2) := hGt.trans (andR_of hXb); rw [pDeclU] at hGb; clear hs2 hkt hlo hup hf hrr hdd hwb
 refine yB ?_; refine c_cut (fun e B L => ∃ (l2 : List Ex) (b2 : Ad) (k2 : Nat) (x2 : Bw), e 1 = .bool first ∧ e 2 = pX pb ∧ e 4 = pX t4b ∧ e 6 = pX db ∧ B = [x2, (w, fun j => j = rb)] ∧ L = [(db, cel [.int .u8 (ty : Nat), .int .i64 (((nowT z (T.drop k)).2.2 : Nat)), str [], .slice b2.1 l2.length b2.2, .slice bl.1 lo.length bl.2, .slice bu.1 up.length bu.2, .slice none 0 0] 49), (t4b, cel [.int .u8 0, .int .i64 0, str [], .slice none 0 0, .slice none 0 0, .slice none 0 0, .slice none 0 0] 49), (pb, cel [pX rb] 123), (rb, Ro sv z k2 o)] ∧ pDecl z u first (T.drop k) o = pDeclV z u first ty (nowT z (T.drop k)).2.2 o l2 lo up (T.drop k2) ∧ k + 1 ≤ k2 ∧ k2 ≤ T.length ∧ Kt x2 w.heap.size exsV l2 b2 ∧ Kt x2 w.heap.size exsV lo bl ∧ Kt x2 w.heap.size exsV up bu) ?_ ?_
 ·refine yA (zf fa49_0 rfl (jM 0 z5 rfl (je rfl rfl (yB ?_)))); refine zD rfl (fun h11 => ?_) (fun h11 => ?_)
  ·have hGs := hGb.trans (if_pos (show ty = 3 by omega))
   refine zr (jy 2 z123 e2_1 rfl (w_pc (T := T) (ob := fun k => Ro sv z k o) (lo := (k2 + 1)) (V := (fun (l : List Ex) (b : Ad) => .slice b.1 l.length b.2)) (pan := pan) 3 rfl zm2 rfl TL.exs hGs (fun w => zR Tryz.func155 rfl rfl rfl) rfl rfl (fun w h => size_ok T z sv u rb k2 o w (hP.now zm2 h) (h.at_ 3 rfl) (by omega) (by omega) (by omega)) (fun fl w' h1 h0 h2 a ha => p_out ha ⟨fl, h1, h0, rfl, h2⟩) (fun e12 b12 k12 w12 hX12 hG12 hl12 hk12 hK12 => zf fa49_3 rfl (jv 0 z47 rfl (zn (zK (B' := _) (L' := [_, _, _, _]) (fun w h => h) (k_base (fun w9 h9 => zK (fun w' h => h.keep2 zm3) ?_)))))))); exact k_mid ⟨e12, b12, k12, _, e1_1, e2_1, e4_1, rfl, rfl, rfl, hG12, by omega, by omega, hK12.now TL.exs zm0 h9, hKlo.now TL.exs zm1 h9, hKup.now TL.exs zm1 h9⟩
  ·have hGs := hGb.trans (if_neg (show ¬ ty = 3 by omega))
   refine zi (zK (B' := _) (L' := [_, _, _, _]) (fun w h => h) (k_base (fun w9 h9 => zK (fun w' h => h.keep2 zm2) ?_))); exact k_mid ⟨l1, b1, k2, _, e1_1, e2_1, e4_1, rfl, rfl, rfl, hGs, by omega, by omega, hK1.now TL.exs zm1 h9, hKlo.now TL.exs zm0 h9, hKup.now TL.exs zm0 h9⟩
 rintro e B L ⟨l2, b2, k2, x2, e1_2, e2_2, e4_2, e6_2, rfl, rfl, hGv, hlo2, hk2, hK2, hKl2, hKu2⟩
 rw [pDeclV] at hGv
 refine yA (zf fa123_0 e2_2 (jM 2 z121 rfl (w_ps (T := T) (ob := fun k => Ro sv z k o) (lo := (k2 + 1)) (Vs := str) (pan := pan) 3 rfl zm1 rfl hGv (fun w => zR Tryz.func157 rfl rfl rfl) rfl rfl (fun w h => name_ok rb k2 o z T sv w (hP.now zm1 h) (h.at_ 3 rfl) (by omega) (by omega)) (fun fl w' h1 h0 h2 a ha => p_out ha ⟨fl, h1, h0, rfl, h2⟩) (fun e13 k13 hX13 hG13 hl13 hk13 => ?_))))
 obtain ⟨nm, rfl⟩ : ∃ q, q = e13 := ⟨_, rfl⟩
 have hGn : pDecl z u first (T.drop k) o = pDeclN z u first ty (nowT z (T.drop k)).2.2 o l2 lo up nm (T.drop k13) := hG13; rw [pDeclN] at hGn
 refine zf fa49_2 e6_2 (jv 0 z9 rfl (yB ?_))
 refine c_cut (fun e B L => ∃ (l3 : List Ex) (b3 : Ad) (k3 : Nat) (x3 : Bw), e 1 = .bool first ∧ e 2 = pX pb ∧ e 4 = pX t4b ∧ e 6 = pX db ∧ B = [x3, (w, fun j => j = rb)] ∧ L = [(db, cel [.int .u8 (ty : Nat), .int .i64 (((nowT z (T.drop k)).2.2 : Nat)), str nm, .slice b2.1 l2.length b2.2, .slice bl.1 lo.length bl.2, .slice bu.1 up.length bu.2, .slice b3.1 l3.length b3.2] 49), (t4b, cel [.int .u8 0, .int .i64 0, str [], .slice none 0 0, .slice none 0 0, .slice none 0 0, .slice none 0 0] 49), (pb, cel [pX rb] 123), (rb, Ro sv z k3 o)] ∧ pDecl z u first (T.drop k) o = pDeclE z ty (nowT z (T.drop k)).2.2 nm l2 lo up l3 (T.drop k3) ∧ k + 1 ≤ k3 ∧ k3 ≤ T.length ∧ Kt x3 w.heap.size exsV l2 b2 ∧ Kt x3 w.heap.size exsV lo bl ∧ Kt x3 w.heap.size exsV up bu ∧ Kt x3 w.heap.size exsV l3 b3) ?_ ?_
 ·refine yA (mB e1_2 (mB rfl ?_)); refine zp (t := 58) rfl (fun h14 => ?_) (fun h14 => ?_)
  ·have hfT : first = true := h14
   refine zw rfl rfl (bV h14) (zf fa49_0 e6_2 (zw rfl rfl (bV h14) (jM 0 z5 rfl (zw rfl rfl (bV h14) (jm rfl rfl (jT (bV h14) rfl (mB rfl ?_))))))); refine zd (t := 63) rfl (fun h15 => ?_) (fun h15 => ?_)
   ·have hle : ty ≤ 3 := (by omega)
    refine zw rfl rfl (bT h15) (zf fa123_0 e2_2 (zw rfl rfl (bT h15) (jM 2 z121 rfl (zw rfl rfl (bT h15) ?_)))); refine w_take (b := isW [61] (T.drop k13)) (lim := True) (o2 := Ro sv z (k13 + 1) o) (ch0 := pan (131, place z (T.drop k13))) 3 rfl zm1 rfl (fun w => zR Tryz.func130 rfl rfl rfl) rfl rfl (fun w h => take_w [61] (by decide) (by decide) (by decide) rb k13 o z T sv w (hP.now zm1 h) (h.at_ 3 rfl) (by omega) (by omega)) (fun w' hi hl => absurd trivial hl) (fun hi16 _ => ?_) (fun hi16 => ?_)
    ·have hlt16 := isW_lt hi16; have hG16 := hGn.trans (if_pos (by rw [hfT, hi16, decide_eq_true hle]; rfl)); rw [drop_tl] at hG16
     refine jT (bT h15) rfl (yB (zE rfl (zr (jy 2 z123 e2_2 rfl (w_pc (T := T) (ob := fun k => Ro sv z k o) (lo := (k13 + 1 + 1)) (V := (fun e b => .agg (exE e b).toArray)) (pan := pan) 3 rfl zm1 rfl TL.ext hG16 (fun w => zR Tryz.func158 rfl rfl rfl) rfl rfl (fun w h => (ex_all T z sv u).1 rb (k13 + 1) o w (hP.now zm1 h) (h.at_ 3 rfl) (by omega) (by omega) (by omega)) (fun fl w' h1 h0 h2 a ha => p_out ha ⟨fl, h1, h0, rfl, h2⟩) (fun e17 b17 k17 w17 hX17 hG17 hl17 hk17 hK17 => zS slt47 (by decide) rfl rfl (fun sb gsb usb => ?_)))))))
     have hsb : w.heap.size ≤ sb := (usb (w, fun j => j = rb) (by simp))
     refine zf fa49_6 e6_2 (jv 1 z47 rfl (zn (zK (B' := _) (L' := (sb, cel (exE e17 b17) 52) :: [_, _, _, _]) (fun w h => h) (k_let (fun w9 h9 hN9 => ?_)))))
     have h8 := h9.drop (List.sublist_cons_self _ _)
     refine zK (fun w' h => h.keep2 zm2) ?_; exact k_mid ⟨[e17], (some ⟨sb, 0, none⟩, 1), k17, _, e1_2, e2_2, e4_2, e6_2, rfl, rfl, hG17, by omega, by omega, hK2.now TL.exs zm1 h8, hKl2.now TL.exs zm1 h8, hKu2.now TL.exs zm1 h8, exsV.one (hK17.now TL.ext zm0 h8) (h9.at_ 0 rfl) (hN9 _ hsb)⟩
    ·have hG16 := hGn.trans (if_neg (by rw [hi16, Bool.and_false]; exact Bool.false_ne_true))
     refine jT (bT h15) rfl (yB (zG rfl (zi (zK (B' := _) (L' := [_, _, _, _]) (fun w h => h) (k_base (fun w9 h9 => zK (fun w' h => h.keep2 zm1) ?_)))))); exact k_mid ⟨[], (none, 0), k13, _, e1_2, e2_2, e4_2, e6_2, rfl, rfl, hG16, by omega, by omega, hK2.now TL.exs zm0 h9, hKl2.now TL.exs zm0 h9, hKu2.now TL.exs zm0 h9, exsV.nil⟩
   ·have hGf := hGn.trans (if_neg (by rw [decide_eq_false (show ¬ ty ≤ 3 by omega), Bool.and_false, Bool.false_and]; exact Bool.false_ne_true))
    refine zs rfl rfl (bF h15) (zs rfl rfl (bF h15) (zs rfl rfl (bF h15) (jF (bF h15) rfl (yB (zG rfl (zi (zK (B' := _) (L' := [_, _, _, _]) (fun w h => h) (k_base (fun w9 h9 => zK (fun w' h => h.keep2 zm1) ?_))))))))); exact k_mid ⟨[], (none, 0), k13, _, e1_2, e2_2, e4_2, e6_2, rfl, rfl, hGf, by omega, by omega, hK2.now TL.exs zm0 h9, hKl2.now TL.exs zm0 h9, hKu2.now TL.exs zm0 h9, exsV.nil⟩
  ·have hGf := hGn.trans (if_neg (by rw [show first = false from h14, Bool.false_and, Bool.false_and]; exact Bool.false_ne_true))
   refine zs rfl rfl (bV h14) (zs rfl rfl (bV h14) (zs rfl rfl (bV h14) (jF (bV h14) rfl (mB rfl ?_)))); (iterate 3 refine zs rfl rfl rfl ?_); refine jF rfl rfl (yB (zG rfl (zi (zK (B' := _) (L' := [_, _, _, _]) (fun w h => h) (k_base (fun w9 h9 => ?_))))))
   refine zK (fun w' h => h.keep2 zm1) ?_; exact k_mid ⟨[], (none, 0), k13, _, e1_2, e2_2, e4_2, e6_2, rfl, rfl, hGf, by omega, by omega, hK2.now TL.exs zm0 h9, hKl2.now TL.exs zm0 h9, hKu2.now TL.exs zm0 h9, exsV.nil⟩
 rintro e B L ⟨l3, b3, k3, x3, e1_3, e2_3, e4_3, e6_3, rfl, rfl, hGe, hlo3, hk3, hK3, hKl3, hKu3, hKi3⟩
 rw [pDeclE] at hGe
 refine yA (zf fa123_0 e2_3 (jM 2 z121 rfl (zS slt153 (by decide) rfl rfl (fun b18 gb18 ub18 => w_ps (T := T) (ob := fun k => Ro sv z k o) (lo := k3 + 1) (Vs := fun _ => .tuple #[]) (pan := pan) 4 rfl zm1 rfl (hGe.trans (want_as o (by decide))) (fun w => zR Tryz.func131 rfl rfl rfl) rfl rfl (fun w h => want_to (o := o) (xs := [[59]]) o (by simp [upos, upo, openB, closeB]) rb k3 o z T sv w (hP.now zm1 h) (h.at_ 4 rfl) (by omega) (by omega) [[59]] (by decide) b18 (h.at_ 0 rfl) (h.ne 0 4 rfl rfl (by decide)) (by decide) (fun h => absurd h (by decide))) (fun fl w' h1 h0 h2 a ha => p_out ha ⟨fl, h1, h0, rfl, h2⟩) (fun e19 k19 hX19 hG19 hl19 hk19 => w_st (fun w h => h.d1) (yC (jy 0 z49 e6_3 rfl (ju 1 z49 e4_3 rfl rfl (aB rfl (yB (ze (k_p (.inl rfl) (r_fin (.inl rfl) rfl (.agg rfl e4_3 z49 (fun _ h => h.at_ 1 rfl) rfl (.tmp rfl rfl .nil)) ?_))))))))))))); exact fun w' hw => ⟨(true, ⟨ty, ((nowT z (T.drop k)).2.2 : Nat), nm, l2, lo, up, l3⟩), (b2, bl, bu, b3), k19, hG19, (by show (if true = true then k + 1 else k) ≤ _; rw [if_pos rfl]; omega), by omega, rfl, ⟨hK3.fin TL.exs zm0 hw, hKl3.fin TL.exs zm0 hw, hKu3.fin TL.exs zm0 hw, hKi3.fin TL.exs zm0 hw⟩, hw.fr _ zm1, hw.at_ 3 rfl⟩
end Go.Proofs.YtoehjlmdnajibaaGreatDoor
end
section
namespace Go.Sx
open Go.RowKit Go.Tree
section
variable {P : Program} {ops : Array Oper} {Q : Exit → Act → World → Prop} {c : Cf} {e : Env} {B : Base} {L : Heap} {rest : List Oper} {d : Nat}
def NZ (v : Value) : Prop := ∀ a n, v ≠ .slice (some a) n 0
theorem Own.nz {T : TypeId} {k : Nat} {v : Value} {xs : List Value} {n : Nat} {W : Heap} (h : Own T k v xs n W) (hn : 0 < n) : NZ v := by
  intro a m hv
  rcases h.2 with ⟨h1, h2, _⟩ | ⟨b, c, sp, h1, h2, _⟩
  · omega
  rw [h1] at hv; injection hv with _ _ h3; omega
end
structure BldO (te : TypeId) (p : Nat) (a : Option Addr) (v : Value) (s : List UInt8) (W : Heap) : Prop where
  ad : a = none ∨ a = some (⟨p, 0, none⟩ : Addr)
  own : Own te 1 v (Lib.byteCells s) s.length W
  nz : NZ v
theorem BldO.nil (te : TypeId) (p : Nat) : BldO te p none (.slice none 0 0) [] [] := ⟨.inl rfl, Own.nil te 1, fun a n h => by cases h⟩
def BldAt (te T : TypeId) (p : Nat) (s : List UInt8) (B : Base) (Lr : Heap) (w : World) : Prop := ∃ a v W, BldO te p a v s W ∧ St B ((p, cel [.pointer a, v] T) :: (W ++ Lr)) w
section
variable {P : Program} {ops : Array Oper} {Q : Exit → Act → World → Prop} {c : Cf} {e : Env} {B : Base} {rest : List Oper} {o : Oper} {d : Nat} {te T : TypeId} {p : Nat} {L Lr W : Heap} {a : Option Addr} {v : Value} {s : List UInt8} {f : FuncId} {args : Array Value}
theorem RunE.to {ρ : Operand → Value} {w : World} {args' : Array Value} (h : RunE P o ρ w f args) (he : args = args') : RunE P o ρ w f args' := he ▸ h
end
theorem OwnS.row {te : TypeId} {a : Option Addr} {n c : Nat} {xs : List (List UInt8)} {W : Heap} (h : OwnS te (.slice a n c) xs W) (hn : 0 < xs.length) : ∃ b sp, a = some ⟨b, 0, none⟩ ∧ n = xs.length ∧ W = [(b, cel (xs.map str ++ sp) te)] := by
  rcases h.2 with ⟨_, h2, _⟩ | ⟨b, cp, sp, hv, _, _, hW⟩
  · omega
  injection hv with h1 h2 h3
  exact ⟨b, sp, h1, h2, hW⟩
theorem R_iaA {P : Program} {ρ : Operand → Value} {w : World} {D : Option Tmp} {ty t : TypeId} {pos : String} {aft : Array Edge} {g : Option (Nat × Bool)} {x y : Operand} {kk : IntKind} {m b o i k : Nat} {ag : Bool} (hu : arB P t m k ag = true) (hm : 1 < m) (hx : ρ x = .pointer (some ⟨b, o, none⟩)) (hy : ρ y = .int kk (i : Nat)) (h1 : i < m) : Run P ⟨D, .indexAddr t x y, ty, pos, aft, g⟩ ρ w (.pointer (some ⟨b, o + i * k, none⟩)) w := by
  unfold arB at hu
  split at hu
  · rename_i m' e he
    simp only [Bool.and_eq_true] at hu
    obtain ⟨hm', hz⟩ := hu
    have hm' := Nat.eq_of_beq_eq_true hm'
    subst hm'
    have hz' := run_sizeOf (P := P) (w := w) hz
    simp [Run, execOp, hx, hy, go_sem, Instr.indexAt, run_underlying he, hz', asIntOf, h1, Result.andThen]
  cases hu
end Go.Sx
end
section
namespace Go.Proofs.YtoehjlmdnajibaaGreatDoor
open Go.RowKit Go.Sx
open Go.Tok Go.Tree Go.Prs
theorem pFillD_4 {z n q i o : Nat} {l : List Dc} {r : List Tk} (h : i = 4) : pFillD z n q i o l r = pFillS z n i o l r := by
  unfold pFillD; rw [if_pos h]; rfl
theorem pFillD_n {z n q i o : Nat} {l : List Dc} {r : List Tk} (h : ¬ i = 4) : pFillD z n (q + 1) i o l r = andR (pDecl z q (!gv i) r (o + 1)) fun d r => if d.1 = true then pFillD z n q i o (l ++ [d.2]) r else pFillS z n i o l r := by
  unfold pFillD
  rw [if_neg h, pDecls_eq]
  cases pDecl z q (!gv i) r (o + 1) with
  | error e => rfl
  | ok x =>
    obtain ⟨d, r⟩ := x
    simp only [andR_ok]
    split
    · rfl
    · rfl
theorem fill_ok (T : List Tk) (z : Nat) (sv : Value) (u : Nat) (i : Nat) (hi6 : i < 6) (rb k o : Nat) (w : World) (hP : Pe w rb T z sv) (hb : w.heap[rb]? = some (Ro sv z k o)) (hk : k ≤ T.length) (ho : o ≤ 64) (hn : 8 * (T.length - k) + 1 ≤ u) :
    RetP Tryz.prog 110 #[.agg #[pX rb], .int .i64 (i : Nat)] w (PR T (fun k => Ro sv z k o) rb (k + 1) (fun (b : Bk) (a : (Option Addr × Nat) × (Option Addr × Nat)) => .agg (bkE b a).toArray) bkU (pFill z u i (T.drop k) o) w) (PE pan rb (pFill z u i (T.drop k) o) w) := by
  have hlen := hP.len
  have hG : pFill z u i (T.drop k) o = pFill z u i (T.drop k) o := rfl
  rw (config := { occs := .pos [2] }) [pFill] at hG
  refine enterP (S := (fun j => j = rb)) (l := [_, _]) (L := [(rb, Ro sv z k o)]) 47 Tryz.func110 rfl rfl rfl (St.start1 w hb rfl) (yA (w_boxA rfl (fun pb gpb upb => zA zr29 (fun t4b gt4b ut4b => yC (jb bt29 rfl (zA zr29 (fun bb gbb ubb => jv 0 z29 rfl (yB ?_)))))))); refine c_cut (fun e B L => e 1 = .int .i64 (i : Nat) ∧ e 2 = pX pb ∧ e 4 = pX t4b ∧ e 5 = pX bb ∧ e 6 = .bool (gv i) ∧ B = [(w, fun j => j = rb)] ∧ L = [(bb, cel [.bool true, .slice none 0 0, .slice none 0 0] 29), (t4b, cel [.bool false, .slice none 0 0, .slice none 0 0] 29), (pb, cel [pX rb] 123), (rb, Ro sv z k o)]) ?_ ?_
  · refine zr (mI rfl (je rfl rfl (mB rfl ?_))); refine zd (t := 12) rfl (fun h4 => ?_) (fun h4 => ?_)
    · refine zs rfl rfl (bT h4) (zs rfl rfl (bT h4) (jT (bT h4) rfl (aB rfl (zn ?_)))); exact k_mid ⟨rfl, rfl, rfl, rfl, (congrArg Value.bool (by rw [show i = 0 by omega]; rfl)), rfl, rfl⟩
    refine zw rfl rfl (bF h4) (mI rfl (zw rfl rfl (bF h4) (je rfl rfl (jF (bF h4) rfl (aB rfl (zn ?_)))))); exact k_mid ⟨rfl, rfl, rfl, rfl, (congrArg Value.bool (by have h0 : ¬ i = 0 := (by omega); have h2 : (i : Int) = 2 ↔ i = 2 := (by omega); unfold gv; rw [decide_eq_false h0, Bool.false_or]; exact decide_eq_decide.2 h2)), rfl, rfl⟩
  rintro e B L ⟨e1_1, e2_1, e4_1, e5_1, e6_1, rfl, rfl⟩
  refine yA (zf fa123_0 e2_1 (jM 2 z121 rfl (zS slt153 (by decide) rfl rfl (fun b5 gb5 ub5 => w_ps (T := T) (ob := fun k => Ro sv z k (o + 1)) (lo := k + 1) (Vs := fun _ => .tuple #[]) (pan := pan) 4 rfl zm0 rfl (hG.trans (opn_as (by decide))) (fun w => zR Tryz.func131 rfl rfl rfl) rfl rfl (fun w h => want_to (o := o) (xs := [[123]]) (o + 1) (by simp [upos, upo, openB, closeB]) rb k o z T sv w (hP.now zm0 h) (h.at_ 4 rfl) (by omega) (by omega) [[123]] (by decide) b5 (h.at_ 0 rfl) (h.ne 0 4 rfl rfl (by decide)) (by decide) (fun h => absurd h (by decide))) (fun fl w' h1 h0 h2 a ha => p_out ha ⟨fl, h1, h0, rfl, h2⟩) (fun e6 k6 hX6 hG6 hl6 hk6 => ?_)))))
  have ho6 : o + 1 ≤ 64 := wants_up hX6 (by omega) (by simp [upos, upo, openB, closeB])
  refine w_st (fun w h => h.d1) (yB ?_); refine c_cut (fun e B L => ∃ (l2 : List Dc) (n2 : Nat) (a2 : Option Addr) (c2 : Nat) (xs2 : List Value) (W2 : Heap) (k2 : Nat) (x2 : Bw), e 1 = .int .i64 (i : Nat) ∧ e 2 = pX pb ∧ e 4 = pX t4b ∧ e 5 = pX bb ∧ e 6 = .bool (gv i) ∧ B = [x2, (w, fun j => j = rb)] ∧ L = [(bb, cel [.bool true, .slice a2 n2 c2, .slice none 0 0] 29), (t4b, cel [.bool false, .slice none 0 0, .slice none 0 0] 29), (pb, cel [pX rb] 123), (rb, Ro sv z k2 (o + 1))] ++ W2 ∧ pFill z u i (T.drop k) o = pFillS z u i o l2 (T.drop k2) ∧ k + 1 ≤ k2 ∧ k2 ≤ T.length ∧ Own 49 7 (.slice a2 n2 c2) xs2 n2 W2 ∧ Kt x2 w.heap.size (Mc 7 dcM) l2 xs2 ∧ n2 = l2.length) ?_ ?_
  · refine zB (c_base (fun w1 hw1 => c_st (B' := _) (L' := [(bb, cel [.bool true, .slice none 0 0, .slice none 0 0] 29), (t4b, cel [.bool false, .slice none 0 0, .slice none 0 0] 29), (pb, cel [pX rb] 123), (rb, Ro sv z k6 (o + 1))] ++ []) (fun w' h => h) ?_))
    refine c_loop (fun m e B L => ∃ (q k' : Nat) (l : List Dc) (n : Nat) (a : Option Addr) (c : Nat) (xs : List Value) (W : Heap) (x : Bw), e 1 = .int .i64 (i : Nat) ∧ e 2 = pX pb ∧ e 4 = pX t4b ∧ e 5 = pX bb ∧ e 6 = .bool (gv i) ∧ B = [x, (w, fun j => j = rb)] ∧ L = [(bb, cel [.bool true, .slice a n c, .slice none 0 0] 29), (t4b, cel [.bool false, .slice none 0 0, .slice none 0 0] 29), (pb, cel [pX rb] 123), (rb, Ro sv z k' (o + 1))] ++ W ∧ k + 1 ≤ k' ∧ k' ≤ T.length ∧ 8 * (T.length - k') + 2 ≤ q ∧ pFill z u i (T.drop k) o = pFillD z u q i o l (T.drop k') ∧ Own 49 7 (.slice a n c) xs n W ∧ Kt x w.heap.size (Mc 7 dcM) l xs ∧ n = l.length ∧ n ≤ k' ∧ m = q + 1) _ ⟨u, k6, [], 0, none, 0, [], [], _, e1_1, e2_1, e4_1, e5_1, e6_1, rfl, rfl, by omega, by omega, by omega, hG6, Own.nil _ _, Mc.nil, rfl, Nat.zero_le _, rfl⟩ ?_
    rintro m e B L ⟨q, k', l, n, a, c, xs, W, x, e1_3, e2_3, e4_3, e5_3, e6_3, rfl, rfl, hlo, hk', hq, hG0, hO, hKl, hnl, hll, rfl⟩
    obtain ⟨q', rfl⟩ : ∃ q', q = q' + 1 := ⟨q - 1, by omega⟩
    refine zq (yA (mI e1_3 (jn rfl rfl (yB ?_)))); refine zD rfl (fun h7 => ?_) (fun h7 => ?_)
    · have hGd := hG0.trans (pFillD_n (show ¬ i = 4 by omega))
      refine zi (zk (zB (yA (jy 2 z123 e2_3 rfl (mB e6_3 (jk rfl (w_pcg (T := T) (ob := fun k => Ro sv z k (o + 1)) (lg := fun d : Bool × Dc => if d.1 = true then k' + 1 else k') (V := (fun (d : Bool × Dc) (b : Ad4) => .tuple #[.agg (dcE d.2 b).toArray, .bool d.1])) (pan := pan) 3 rfl zm1 rfl TL.dct1 hGd (fun w => zR Tryz.func132 rfl rfl rfl) rfl rfl (fun w h => decl_ok T z sv q' (!gv i) rb (k') (o + 1) w (hP.now zm1 h) (h.at_ 3 rfl) (by omega) (by omega) (by omega)) (fun fl w' h1 h0 h2 a ha => p_out ha ⟨fl, h1, h0, rfl, h2⟩) (fun e8 b8 k8 w8 hX8 hG8 hl8 hk8 hK8 => zm rfl (jx rfl rfl (jx rfl rfl (zA zr49 (fun t7b gt7b ut7b => jv 0 z49 rfl (aB rfl (yB (zq (yA (mB rfl (jk rfl (yB ?_))))))))))))))))))); refine c_condN rfl (fun h10 => ?_) (fun h10 => ?_)
      · have hGx := hG8.trans (if_neg (by rw [h10]; exact Bool.false_ne_true)); rw [if_neg (by rw [h10]; exact Bool.false_ne_true)] at hl8
        refine zX (zx (b_past rfl (zx (b_here rfl ((zK (B' := _) (L' := [(bb, cel [.bool true, .slice a n c, .slice none 0 0] 29), (t4b, cel [.bool false, .slice none 0 0, .slice none 0 0] 29), (pb, cel [pX rb] 123), (rb, Ro sv z k8 (o + 1))] ++ W) (fun w' h => St.pickT [_, _, _, _, _] h [1, 2, 3, 4] (by decide)) (k_base (fun w9 h9 => zK (fun w' h => h.keep2 zm2) ?_)))))))); exact k_mid ⟨l, n, a, c, _, W, k8, _, e1_3, e2_3, e4_3, e5_3, e6_3, rfl, rfl, hGx, by omega, by omega, hO, hKl.now (TL.cells TL.dc) zm1 h9, hnl⟩
      have hGx := hG8.trans (if_pos h10); rw [if_pos h10] at hl8
      refine zi (zk (zr (zf fa29_1 e5_3 (jM 1 z26 rfl (jy 0 z49 rfl rfl (zS slt26 (by decide) rfl rfl (fun sb gsb usb => w_st (B' := _) (L' := [(sb, cel (dcE e8.2 b8) 49), (t7b, cel (dcE e8.2 b8) 49), (bb, cel [.bool true, .slice a n c, .slice none 0 0] 29), (t4b, cel [.bool false, .slice none 0 0, .slice none 0 0] 29), (pb, cel [pX rb] 123), (rb, Ro sv z k8 (o + 1))] ++ (W ++ [])) (fun w h => by rw [List.append_nil]; exact h) (w_app (L := []) (W := W) (news := dcE e8.2 b8) [_, _, _, _, _, _] slt26 (by decide) rfl hO rfl rfl (row_own 0 rfl (fun j u h => h)) rfl (by decide) (by omega) (by omega) (fun v2 W2 hO2 => ?_)))))))))
      obtain ⟨a2, c2, rfl⟩ := hO2.slice
      refine zf fa29_1 e5_3 (jv 2 z26 rfl (zn (zO (?_))))
      refine zK (B' := _) (L' := [(bb, cel [.bool true, .slice a2 (n + 1) c2, .slice none 0 0] 29), (t4b, cel [.bool false, .slice none 0 0, .slice none 0 0] 29), (pb, cel [pX rb] 123), (rb, Ro sv z k8 (o + 1))] ++ W2) (fun w' h => by rw [List.append_nil] at h; exact St.pickT [_, _, _, _, _, _] h [2, 3, 4, 5] (by decide)) ?_; refine k_base (fun w9 h9 => ?_)
      refine zK (fun w' h => h.keep2 zm2) ?_; exact k_again _ (by omega) ⟨q', k8, l ++ [e8.2], n + 1, a2, c2, _, W2, _, e1_3, e2_3, e4_3, e5_3, e6_3, rfl, rfl, by omega, by omega, by omega, hGx, hO2, (hKl.now (TL.cells TL.dc) zm1 h9).snocD (hK8.now TL.dct1 zm0 h9) (by rw [← hnl]; exact hO.1), (by rw [List.length_append, List.length_singleton]; omega), by omega, rfl⟩
    have hGd := hG0.trans (pFillD_4 (show i = 4 by omega))
    refine zX (zx (zx (b_here rfl ((zK (B' := _) (L' := [(bb, cel [.bool true, .slice a n c, .slice none 0 0] 29), (t4b, cel [.bool false, .slice none 0 0, .slice none 0 0] 29), (pb, cel [pX rb] 123), (rb, Ro sv z k' (o + 1))] ++ W) (fun w' h => h) ?_))))); exact k_mid ⟨l, n, a, c, _, W, k', x, e1_3, e2_3, e4_3, e5_3, e6_3, rfl, rfl, hGd, by omega, by omega, hO, hKl, hnl⟩
  rintro e B L ⟨l2, n2, a2, c2, xs2, W2, k2, x2, e1_2, e2_2, e4_2, e5_2, e6_2, rfl, rfl, hG8, hlo2, hk2, hO2, hKl2, hnl2⟩
  rw [pFillS] at hG8
  refine zq (yA (mB e6_2 (jk rfl (yB ?_)))); refine c_condN rfl (fun h11 => ?_) (fun h11 => ?_)
  · have hGx := hG8.trans (if_neg (by rw [h11]; exact Bool.false_ne_true))
    refine zr (jy 2 z123 e2_2 rfl (w_pc (T := T) (ob := fun k => Ro sv z k (o + 1)) (lo := k2) (V := (fun (l : List Sm) (b : Ad) => .slice b.1 l.length b.2)) (pan := pan) 3 rfl zm1 rfl TL.sms hGx (fun w => zR Tryz.func133 rfl rfl rfl) rfl rfl (fun w h => (sm_all T z sv u).2.2 rb k2 (o + 1) w (hP.now zm1 h) (h.at_ 3 rfl) (by omega) (by omega) (by omega)) (fun fl w' h1 h0 h2 a ha => p_out ha ⟨fl, h1, h0, rfl, h2⟩) (fun e12 b12 k12 w12 hX12 hG12 hl12 hk12 hK12 => zf fa29_2 e5_2 (jv 0 z27 rfl (yC (zf fa123_0 e2_2 (jM 2 z121 rfl (zS slt153 (by decide) rfl rfl (fun b13 gb13 ub13 => w_ps (T := T) (ob := fun k => Ro sv z k o) (lo := k12 + 1) (Vs := fun _ => .tuple #[]) (pan := pan) 4 rfl zm2 rfl (hG12.trans (want_as (o + 1) (by decide))) (fun w => zR Tryz.func131 rfl rfl rfl) rfl rfl (fun w h => want_to (o := (o + 1)) (xs := [[125]]) o (by simp [upos, upo, openB, closeB]) rb k12 (o + 1) z T sv w (hP.now zm2 h) (h.at_ 4 rfl) (by omega) (by omega) [[125]] (by decide) b13 (h.at_ 0 rfl) (h.ne 0 4 rfl rfl (by decide)) (by decide) (fun _ => ⟨rfl, Nat.succ_pos _⟩)) (fun fl w' h1 h0 h2 a ha => p_out ha ⟨fl, h1, h0, rfl, h2⟩) (fun e14 k14 hX14 hG14 hl14 hk14 => w_st (fun w h => h.d1) (yC (jy 0 z29 e5_2 rfl (ju 1 z29 e4_2 rfl rfl (yB (ze (k_p (.inl rfl) (zK (B' := _) (L' := [_, _, _, _] ++ W2) (fun w h => h) (r_fin (.inl rfl) rfl (.agg rfl e4_2 z29 (fun _ h => h.at_ 1 rfl) rfl .nil) ?_))))))))))))))))))
    exact fun w' hw => by subst hnl2; obtain ⟨⟨_, _⟩, hb9, hv⟩ := own_dcs (l := l2) hO2 (fun p hp => hw.own p (List.mem_append_right _ hp)) (fun p hp => (⟨St.fresh hw zm2 zm3 p hp, lt_of_blk (hw.own p (List.mem_append_right _ hp))⟩ : Nn w w' p.1)) (fun j e he => hKl2.fin (TL.cells TL.dc) zm1 hw j e he); cases hb9; exact ⟨⟨true, l2, e12⟩, ((_, _), b12), k14, hG14, by omega, by omega, rfl, ⟨hv, (hK12.fin TL.sms zm0 hw)⟩, hw.fr _ zm2, hw.at_ 3 rfl⟩
  have hGx := hG8.trans (if_pos h11); rw [pFillE] at hGx
  refine zi (zk (yA (zf fa123_0 e2_2 (jM 2 z121 rfl (zS slt153 (by decide) rfl rfl (fun b15 gb15 ub15 => w_ps (T := T) (ob := fun k => Ro sv z k o) (lo := k2 + 1) (Vs := fun _ => .tuple #[]) (pan := pan) 4 rfl zm1 rfl (hGx.trans (want_as (o + 1) (by decide))) (fun w => zR Tryz.func131 rfl rfl rfl) rfl rfl (fun w h => want_to (o := (o + 1)) (xs := [[125]]) o (by simp [upos, upo, openB, closeB]) rb k2 (o + 1) z T sv w (hP.now zm1 h) (h.at_ 4 rfl) (by omega) (by omega) [[125]] (by decide) b15 (h.at_ 0 rfl) (h.ne 0 4 rfl rfl (by decide)) (by decide) (fun _ => ⟨rfl, Nat.succ_pos _⟩)) (fun fl w' h1 h0 h2 a ha => p_out ha ⟨fl, h1, h0, rfl, h2⟩) (fun e16 k16 hX16 hG16 hl16 hk16 => w_st (fun w h => h.d1) (yC (jy 0 z29 e5_2 rfl (ju 1 z29 e4_2 rfl rfl (yB (ze (k_p (.inl rfl) (zK (B' := _) (L' := [_, _, _, _] ++ W2) (fun w h => h) (r_fin (.inl rfl) rfl (.agg rfl e4_2 z29 (fun _ h => h.at_ 1 rfl) rfl .nil) ?_)))))))))))))))
  exact fun w' hw => by subst hnl2; obtain ⟨⟨_, _⟩, hb9, hv⟩ := own_dcs (l := l2) hO2 (fun p hp => hw.own p (List.mem_append_right _ hp)) (fun p hp => (⟨St.fresh hw zm1 zm3 p hp, lt_of_blk (hw.own p (List.mem_append_right _ hp))⟩ : Nn w w' p.1)) (fun j e he => hKl2.fin (TL.cells TL.dc) zm0 hw j e he); cases hb9; exact ⟨⟨true, l2, []⟩, ((_, _), (none, 0)), k16, hG16, by omega, by omega, rfl, ⟨hv, smsV.nil⟩, hw.fr _ zm1, hw.at_ 3 rfl⟩
theorem from_ok (T : List Tk) (z : Nat) (sv : Value) (i lt : Nat) (x : Str) (hx : x ≠ []) (hx1 : openB x = false) (hx2 : closeB x = false) (lb pb rb k o : Nat) (w : World) (hP : Pe w rb T z sv) (hb : w.heap[rb]? = some (Ro sv z k o)) (hl : w.heap[lb]? = some (cel [.int .i64 ((lt : Int) - 1)] 3)) (hp : w.heap[pb]? = some (cel [pX rb] 123)) (hlr : lb ≠ rb) (hpr : pb ≠ rb) (hk : k ≤ T.length) (ho : o ≤ 64) :
    RetP Tryz.prog 129 #[.int .i64 (i : Nat), str x, pX lb, pX pb] w (TR rb (decide (lt < i + 1) && isW x (T.drop k)) True (Ro sv z k o) (Ro sv z (k + 1) o) w) (TE rb (decide (lt < i + 1) && isW x (T.drop k)) True (pan (131, place z (T.drop k))) w) := by
  refine enterP (S := (fun j => j = rb)) (l := [_, _, _, _]) (L := [(rb, Ro sv z k o)]) 16 Tryz.func129 rfl rfl rfl (St.start1 w hb rfl) (yA (aB rfl (yC (mI rfl (zl z3 rfl (fun _ h => cel_oldb hl zm0 hlr rfl h) (jg rfl rfl (mB rfl ?_))))))); refine zd (t := 10) rfl (fun h1 => ?_) (fun h1 => ?_)
  · refine zw rfl rfl (bT h1) (zf fa123_0 rfl (zw rfl rfl (bT h1) (zl z121 rfl (fun _ h => cel_oldb hp zm0 hpr rfl h) (zw rfl rfl (bT h1) (zm (v := str _) rfl (zw rfl rfl (bT h1) ?_)))))); refine w_take (b := isW x (T.drop k)) (lim := True) (o2 := Ro sv z (k + 1) o) (ch0 := pan (131, place z (T.drop k))) 0 rfl zm0 rfl (fun w => zR Tryz.func130 rfl rfl rfl) rfl rfl (fun w h => take_w x hx hx1 hx2 rb k o z T sv w (hP.now zm0 h) (h.at_ 0 rfl) (by omega) (by omega)) (fun w' hi hl => absurd trivial hl) (fun hi2 _ => ?_) (fun hi2 => ?_)
    · refine jT (bT h1) rfl (aB rfl (yB (ze (k_p (.inl rfl) (zo (v := .bool _) rfl rfl rfl ?_))))); exact fun w' hw => ⟨hw.f0, .inr ⟨by rw [hi2, Bool.and_true]; exact decide_eq_true (by omega), trivial, rfl, hw.at_ 0 rfl⟩⟩
    refine jT (bT h1) rfl (aB rfl (yB (ze (k_p (.inl rfl) (zo (v := .bool _) rfl rfl rfl ?_))))); exact fun w' hw => ⟨hw.f0, .inl ⟨by rw [hi2, Bool.and_false], rfl, hw.at_ 0 rfl⟩⟩
  refine zs rfl rfl (bF h1) (zs rfl rfl (bF h1) (zs rfl rfl (bF h1) (zs rfl rfl (bF h1) (jF (bF h1) rfl (aB rfl (yB (ze (k_p (.inl rfl) (zo (v := .bool _) rfl rfl rfl ?_))))))))); exact fun w' hw => ⟨hw.f0, .inl ⟨by rw [decide_eq_false (by omega), Bool.false_and], rfl, hw.at_ 0 rfl⟩⟩
theorem head_ok (T : List Tk) (z : Nat) (sv : Value) (lt : Nat) (rb k o : Nat) (w : World) (hP : Pe w rb T z sv) (hb : w.heap[rb]? = some (Ro sv z k o)) (hk : k ≤ T.length) (ho : o ≤ 64) :
    RetP Tryz.prog 109 #[.agg #[pX rb], .int .i64 ((lt : Int) - 1)] w (PRs T (fun k => Ro sv z k o) rb k (fun i : Nat × Bool => .tuple #[.int .i64 (i.1 : Nat), .bool i.2]) (pHead z lt (T.drop k)) w) (PE pan rb (pHead z lt (T.drop k)) w) := by
  have hlen := hP.len
  have hG : pHead z lt (T.drop k) = pHead z lt (T.drop k) := rfl
  rw (config := { occs := .pos [2] }) [pHead] at hG
  refine enterP (S := (fun j => j = rb)) (l := [_, _]) (L := [(rb, Ro sv z k o)]) 33 Tryz.func109 rfl rfl rfl (St.start1 w hb rfl) (yA (w_boxA rfl (fun pb gpb upb => w_box rfl (fun lb glb ulb => aI rfl (aB rfl (yC (zg (fun _ => R_makeFunc) (za rfl (yB (zq (zB (yA (zm rfl ?_))))))))))))); refine w_take (b := decide (lt < 1) && isW [100, 97, 116, 97] (T.drop k)) (lim := True) (o2 := Ro sv z (k + 1) o) (ch0 := pan (131, place z (T.drop k))) 2 rfl zm0 rfl (fun w => R_callv rfl Tryz.func129 rfl rfl) rfl rfl (fun w h => from_ok T z sv 0 lt [100, 97, 116, 97] (by decide) (by decide) (by decide) lb pb rb k o w (hP.now zm0 h) (h.at_ 2 rfl) (h.at_ 0 rfl) (h.at_ 1 rfl) (h.ne 0 2 rfl rfl (by decide)) (h.ne 1 2 rfl rfl (by decide)) (by omega) (by omega)) (fun w' hi hl => absurd trivial hl) (fun hi3 _ => ?_) (fun hi3 => ?_)
  · have hlt3 := isW_lt ((Bool.and_eq_true _ _).mp hi3).2; have hG3 := hG.trans (if_pos hi3); rw [drop_tl] at hG3
    refine aB rfl (yB (zE rfl (yA (aI rfl (aB rfl (yB (ze (zb (zt ((k_p (.inl rfl) (r_two (v := .int _ _) (v2 := .bool _) rfl rfl rfl rfl rfl ?_)))))))))))); exact fun w' hw => ⟨(0, true), k + 1, hG3, by omega, by omega, rfl, hw.f0, hw.at_ 2 rfl⟩
  have hG3 := hG.trans (if_neg (nf hi3))
  refine aB rfl (yB (zG rfl (yA (zm rfl ?_)))); refine w_take (b := decide (lt < 4) && isW [116, 114, 97, 110, 115, 102, 111, 114, 109, 101, 100] (T.drop k)) (lim := True) (o2 := Ro sv z (k + 1) o) (ch0 := pan (131, place z (T.drop k))) 2 rfl zm0 rfl (fun w => R_callv rfl Tryz.func129 rfl rfl) rfl rfl (fun w h => from_ok T z sv 3 lt [116, 114, 97, 110, 115, 102, 111, 114, 109, 101, 100] (by decide) (by decide) (by decide) lb pb rb k o w (hP.now zm0 h) (h.at_ 2 rfl) (h.at_ 0 rfl) (h.at_ 1 rfl) (h.ne 0 2 rfl rfl (by decide)) (h.ne 1 2 rfl rfl (by decide)) (by omega) (by omega)) (fun w' hi hl => absurd trivial hl) (fun hi4 _ => ?_) (fun hi4 => ?_)
  · have hlt4 := isW_lt ((Bool.and_eq_true _ _).mp hi4).2; have hG4 := hG3.trans (if_pos hi4); rw [drop_tl] at hG4
    refine aB rfl (yB (zE rfl (zq (yA (zm rfl ?_))))); refine w_take (b := decide (lt < 2) && isW [100, 97, 116, 97] (T.drop (k + 1))) (lim := True) (o2 := Ro sv z ((k + 1) + 1) o) (ch0 := pan (131, place z (T.drop (k + 1)))) 2 rfl zm0 rfl (fun w => R_callv rfl Tryz.func129 rfl rfl) rfl rfl (fun w h => from_ok T z sv 1 lt [100, 97, 116, 97] (by decide) (by decide) (by decide) lb pb rb (k + 1) o w (hP.now zm0 h) (h.at_ 2 rfl) (h.at_ 0 rfl) (h.at_ 1 rfl) (h.ne 0 2 rfl rfl (by decide)) (h.ne 1 2 rfl rfl (by decide)) (by omega) (by omega)) (fun w' hi hl => absurd trivial hl) (fun hi5 _ => ?_) (fun hi5 => ?_)
    · have hlt5 := isW_lt ((Bool.and_eq_true _ _).mp hi5).2; have hG5 := hG4.trans (if_pos hi5); rw [drop_tl] at hG5
      refine yB (zE rfl (yA (aI rfl (aB rfl (yB (ze (zt (zb (zt ((k_p (.inl rfl) (r_two (v := .int _ _) (v2 := .bool _) rfl rfl rfl rfl rfl ?_)))))))))))); exact fun w' hw => ⟨(1, true), k + 1 + 1, hG5, by omega, by omega, rfl, hw.f0, hw.at_ 2 rfl⟩
    have hG5 := hG4.trans (if_neg (nf hi5))
    refine yB (zG rfl (zi (zk (yA (zf fa123_0 rfl (jM 1 z121 rfl (zS slt153 (by decide) rfl rfl (fun b6 gb6 ub6 => w_ps (T := T) (ob := fun k => Ro sv z k o) (lo := (k + 1) + 1) (Vs := fun _ => .tuple #[]) (pan := pan) 3 rfl zm0 rfl (hG5.trans (want_as o (by decide))) (fun w => zR Tryz.func131 rfl rfl rfl) rfl rfl (fun w h => want_to (o := o) (xs := [[112, 97, 114, 97, 109, 101, 116, 101, 114, 115]]) o (by simp [upos, upo, openB, closeB]) rb (k + 1) o z T sv w (hP.now zm0 h) (h.at_ 3 rfl) (by omega) (by omega) [[112, 97, 114, 97, 109, 101, 116, 101, 114, 115]] (by decide) b6 (h.at_ 0 rfl) (h.ne 0 3 rfl rfl (by decide)) (by decide) (fun h => absurd h (by decide))) (fun fl w' h1 h0 h2 a ha => p_out ha ⟨fl, h1, h0, rfl, h2⟩) (fun e7 k7 hX7 hG7 hl7 hk7 => w_st (fun w h => h.d1) (yC (aI rfl (aB rfl (yB (ze (zb (zt ((k_p (.inl rfl) (r_two (v := .int _ _) (v2 := .bool _) rfl rfl rfl rfl rfl ?_))))))))))))))))))); exact fun w' hw => ⟨(3, true), k7, hG7, by omega, by omega, rfl, hw.f0, hw.at_ 2 rfl⟩
  have hG4 := hG3.trans (if_neg (nf hi4))
  refine aB rfl (yB (zG rfl (yA (zm rfl ?_)))); refine w_take (b := decide (lt < 3) && isW [112, 97, 114, 97, 109, 101, 116, 101, 114, 115] (T.drop k)) (lim := True) (o2 := Ro sv z (k + 1) o) (ch0 := pan (131, place z (T.drop k))) 2 rfl zm0 rfl (fun w => R_callv rfl Tryz.func129 rfl rfl) rfl rfl (fun w h => from_ok T z sv 2 lt [112, 97, 114, 97, 109, 101, 116, 101, 114, 115] (by decide) (by decide) (by decide) lb pb rb k o w (hP.now zm0 h) (h.at_ 2 rfl) (h.at_ 0 rfl) (h.at_ 1 rfl) (h.ne 0 2 rfl rfl (by decide)) (h.ne 1 2 rfl rfl (by decide)) (by omega) (by omega)) (fun w' hi hl => absurd trivial hl) (fun hi8 _ => ?_) (fun hi8 => ?_)
  · have hlt8 := isW_lt ((Bool.and_eq_true _ _).mp hi8).2; have hG8 := hG4.trans (if_pos hi8); rw [drop_tl] at hG8
    refine aB rfl (yB (zE rfl (yA (aI rfl (aB rfl (yB (ze (zb (zt ((k_p (.inl rfl) (r_two (v := .int _ _) (v2 := .bool _) rfl rfl rfl rfl rfl ?_)))))))))))); exact fun w' hw => ⟨(2, true), k + 1, hG8, by omega, by omega, rfl, hw.f0, hw.at_ 2 rfl⟩
  have hG8 := hG4.trans (if_neg (nf hi8))
  refine aB rfl (yB (zG rfl (yA (zm rfl ?_)))); refine w_take (b := decide (lt < 5) && isW [109, 111, 100, 101, 108] (T.drop k)) (lim := True) (o2 := Ro sv z (k + 1) o) (ch0 := pan (131, place z (T.drop k))) 2 rfl zm0 rfl (fun w => R_callv rfl Tryz.func129 rfl rfl) rfl rfl (fun w h => from_ok T z sv 4 lt [109, 111, 100, 101, 108] (by decide) (by decide) (by decide) lb pb rb k o w (hP.now zm0 h) (h.at_ 2 rfl) (h.at_ 0 rfl) (h.at_ 1 rfl) (h.ne 0 2 rfl rfl (by decide)) (h.ne 1 2 rfl rfl (by decide)) (by omega) (by omega)) (fun w' hi hl => absurd trivial hl) (fun hi9 _ => ?_) (fun hi9 => ?_)
  · have hlt9 := isW_lt ((Bool.and_eq_true _ _).mp hi9).2; have hG9 := hG8.trans (if_pos hi9); rw [drop_tl] at hG9
    refine aB rfl (yB (zE rfl (yA (aI rfl (aB rfl (yB (ze (zb (zt ((k_p (.inl rfl) (r_two (v := .int _ _) (v2 := .bool _) rfl rfl rfl rfl rfl ?_)))))))))))); exact fun w' hw => ⟨(4, true), k + 1, hG9, by omega, by omega, rfl, hw.f0, hw.at_ 2 rfl⟩
  have hG9 := hG8.trans (if_neg (nf hi9))
  refine aB rfl (yB (zG rfl (yA (zm rfl ?_)))); refine w_take (b := decide (lt < 6) && isW [103, 101, 110, 101, 114, 97, 116, 101, 100] (T.drop k)) (lim := True) (o2 := Ro sv z (k + 1) o) (ch0 := pan (131, place z (T.drop k))) 2 rfl zm0 rfl (fun w => R_callv rfl Tryz.func129 rfl rfl) rfl rfl (fun w h => from_ok T z sv 5 lt [103, 101, 110, 101, 114, 97, 116, 101, 100] (by decide) (by decide) (by decide) lb pb rb k o w (hP.now zm0 h) (h.at_ 2 rfl) (h.at_ 0 rfl) (h.at_ 1 rfl) (h.ne 0 2 rfl rfl (by decide)) (h.ne 1 2 rfl rfl (by decide)) (by omega) (by omega)) (fun w' hi hl => absurd trivial hl) (fun hi10 _ => ?_) (fun hi10 => ?_)
  · have hlt10 := isW_lt ((Bool.and_eq_true _ _).mp hi10).2; have hG10 := hG9.trans (if_pos hi10); rw [drop_tl] at hG10
    refine aB rfl (yB (zE rfl (yA (zf fa123_0 rfl (jM 1 z121 rfl (zS slt153 (by decide) rfl rfl (fun b11 gb11 ub11 => w_ps (T := T) (ob := fun k => Ro sv z k o) (lo := (k + 1) + 1) (Vs := fun _ => .tuple #[]) (pan := pan) 3 rfl zm0 rfl (hG10.trans (want_as o (by decide))) (fun w => zR Tryz.func131 rfl rfl rfl) rfl rfl (fun w h => want_to (o := o) (xs := [[113, 117, 97, 110, 116, 105, 116, 105, 101, 115]]) o (by simp [upos, upo, openB, closeB]) rb (k + 1) o z T sv w (hP.now zm0 h) (h.at_ 3 rfl) (by omega) (by omega) [[113, 117, 97, 110, 116, 105, 116, 105, 101, 115]] (by decide) b11 (h.at_ 0 rfl) (h.ne 0 3 rfl rfl (by decide)) (by decide) (fun h => absurd h (by decide))) (fun fl w' h1 h0 h2 a ha => p_out ha ⟨fl, h1, h0, rfl, h2⟩) (fun e12 k12 hX12 hG12 hl12 hk12 => w_st (fun w h => h.d1) (yC (aI rfl (aB rfl (yB (ze (zb (zt ((k_p (.inl rfl) (r_two (v := .int _ _) (v2 := .bool _) rfl rfl rfl rfl rfl ?_)))))))))))))))))); exact fun w' hw => ⟨(5, true), k12, hG12, by omega, by omega, rfl, hw.f0, hw.at_ 2 rfl⟩
  have hG10 := hG9.trans (if_neg (nf hi10))
  refine aB rfl (yB (zG rfl (zi (zO (zk (yA (aI rfl (aB rfl (yB (ze (k_p (.inl rfl) (r_two (v := .int _ _) (v2 := .bool _) rfl rfl rfl rfl rfl ?_)))))))))))); exact fun w' hw => ⟨(0, false), k, hG10, by omega, by omega, rfl, hw.f0, hw.at_ 2 rfl⟩
theorem pg_one {w : World} {N : Nat → Prop} {p : List Bk} {cs : List Value} (h : pgM w N p cs) : cs.all Value.oneCell' = true := by
  rw [List.all_eq_true]
  intro v hv
  obtain ⟨j, hj⟩ := List.getElem?_of_mem hv
  have hlt := (List.getElem?_eq_some_iff.1 hj).1
  have hl := h.len
  obtain ⟨b, hb⟩ : ∃ b, p[j / 3]? = some b := ⟨_, List.getElem?_eq_getElem (by rw [h.six]; omega)⟩
  obtain ⟨da, dc, sa, sc, he, _, _⟩ := h.one _ b hb
  have hq : ((cs.drop (j / 3 * 3)).take 3)[j % 3]? = some v := by
    rw [List.getElem?_take, if_pos (Nat.mod_lt _ (by decide)), List.getElem?_drop, ← hj]; congr 1; omega
  rw [he] at hq
  have hm := List.mem_of_getElem? hq
  simp only [List.mem_cons, List.not_mem_nil, or_false] at hm
  rcases hm with rfl | rfl | rfl <;> rfl
abbrev putB (cs : List Value) (i : Nat) (vs : List Value) : List Value := cs.take (0 + i * 3) ++ vs ++ cs.drop (0 + i * 3 + 3)
theorem pgM.put {w : World} {N : Nat → Prop} {p : List Bk} {cs vs : List Value} {i : Nat} {b : Bk} (h : pgM w N p cs) (hi : i < 6) (hv : vs.length = 3) (hb : bkM w N b vs) : pgM w N (p.set i b) (putB cs i vs) := by
  have h6 := h.six
  have hl := h.len
  have hlen : (cs.take (0 + i * 3)).length = i * 3 := by rw [List.length_take]; omega
  refine ⟨by rw [List.length_set]; exact h6, by rw [putB, List.length_append, List.length_append, hlen, List.length_drop, hv]; omega, fun j x hx => ?_⟩
  have key : ∀ m, m < 3 → (putB cs i vs)[j * 3 + m]? = if j = i then vs[m]? else cs[j * 3 + m]? := by
    intro m hm
    rw [putB, List.append_assoc]
    by_cases hj : j = i
    · subst hj
      rw [if_pos rfl, List.getElem?_append_right (by omega), hlen, List.getElem?_append_left (by omega)]; congr 1; omega
    rw [if_neg hj]
    rcases Nat.lt_or_ge j i with h1 | h1
    · rw [List.getElem?_append_left (by omega), List.getElem?_take, if_pos (by omega)]
    rw [List.getElem?_append_right (by omega), hlen, List.getElem?_append_right (by omega), List.getElem?_drop, hv]; congr 1; omega
  have key2 : ((putB cs i vs).drop (j * 3)).take 3 = if j = i then vs else (cs.drop (j * 3)).take 3 := by
    apply List.ext_getElem?
    intro m
    rw [List.getElem?_take]
    by_cases hm : m < 3
    · rw [if_pos hm, List.getElem?_drop, key m hm]
      split
      · rfl
      rw [List.getElem?_take, if_pos hm, List.getElem?_drop]
    rw [if_neg hm]
    split
    · rw [List.getElem?_eq_none (by omega)]
    rw [List.getElem?_take, if_neg hm]
  rw [key2]
  by_cases hj : j = i
  · subst hj
    rw [if_pos rfl]
    rw [List.getElem?_set_self (by omega)] at hx
    obtain rfl : b = x := by simpa using hx
    exact hb
  rw [if_neg hj]
  rw [List.getElem?_set_ne (by omega)] at hx
  exact h.one j x hx
theorem pgM.zero {w : World} {N : Nat → Prop} : pgM w N (List.replicate 6 noBk) (List.replicate 6 [Value.bool false, .slice none 0 0, .slice none 0 0]).flatten := by
  refine ⟨rfl, rfl, fun i b hb => ?_⟩
  have hi : i < 6 := by have := (List.getElem?_eq_some_iff.1 hb).1; simpa using this
  obtain rfl : noBk = b := by
    rw [List.getElem?_replicate, if_pos hi] at hb; exact Option.some.inj hb
  refine ⟨none, 0, none, 0, ?_, dcsV.nil, smsV.nil.2⟩
  have : i = 0 ∨ i = 1 ∨ i = 2 ∨ i = 3 ∨ i = 4 ∨ i = 5 := by omega
  rcases this with rfl | rfl | rfl | rfl | rfl | rfl <;> rfl
theorem Kt.put {x : Bw} {s0 : Nat} {p : List Bk} {cs : List Value} {i : Nat} {b : Bk} {a : (Option Addr × Nat) × (Option Addr × Nat)} (h : Kt x s0 pgM p cs) (hi : i < 6) (hb : Kt x s0 bkU b a) : Kt x s0 pgM (p.set i b) (putB cs i (bkE b a)) := pgM.put h hi rfl (bkU.M hb)
theorem prog_ok (T : List Tk) (z : Nat) (sv : Value) (u : Nat) (rb k : Nat) (w : World) (hP : Pe w rb T z sv) (hb : w.heap[rb]? = some (Ro sv z k 0)) (hk : k ≤ T.length) (hn : 8 * (T.length - k) + 2 ≤ u) :
    RetP Tryz.prog 76 #[.agg #[pX rb]] w (PR T (fun k => Ro sv z k 0) rb k (fun (_ : List Bk) (cs : List Value) => .agg cs.toArray) pgM (pProg z u 0 (List.replicate 6 noBk) (T.drop k)) w) (PE pan rb (pProg z u 0 (List.replicate 6 noBk) (T.drop k)) w) := by
  have hlen := hP.len
  refine enterP (S := (fun j => j = rb)) (l := [_]) (L := [(rb, Ro sv z k 0)]) 23 Tryz.func76 rfl rfl rfl (St.start1 w hb rfl) (yA (w_boxA rfl (fun pb gpb upb => zA zr32 (fun t2b gt2b ut2b => yC (zA zr32 (fun ob gob uob => yC (aI rfl (yB (zB (c_base (fun w1 hw1 => c_st (B' := _) (L' := [(ob, cel [.bool false, .slice none 0 0, .slice none 0 0, .bool false, .slice none 0 0, .slice none 0 0, .bool false, .slice none 0 0, .slice none 0 0, .bool false, .slice none 0 0, .slice none 0 0, .bool false, .slice none 0 0, .slice none 0 0, .bool false, .slice none 0 0, .slice none 0 0] 32), (t2b, cel [.bool false, .slice none 0 0, .slice none 0 0, .bool false, .slice none 0 0, .slice none 0 0, .bool false, .slice none 0 0, .slice none 0 0, .bool false, .slice none 0 0, .slice none 0 0, .bool false, .slice none 0 0, .slice none 0 0, .bool false, .slice none 0 0, .slice none 0 0] 32), (pb, cel [pX rb] 123), (rb, Ro sv z k 0)]) (fun w' h => h) ?_)))))))))))
  refine c_loop (fun m e B L => ∃ (q k' lt : Nat) (out : List Bk) (cs : List Value) (x : Bw), e 1 = pX pb ∧ e 2 = pX t2b ∧ e 3 = pX ob ∧ e 4 = .int .i64 ((lt : Int) - 1) ∧ B = [x, (w, fun j => j = rb)] ∧ L = [(ob, cel cs 32), (t2b, cel [.bool false, .slice none 0 0, .slice none 0 0, .bool false, .slice none 0 0, .slice none 0 0, .bool false, .slice none 0 0, .slice none 0 0, .bool false, .slice none 0 0, .slice none 0 0, .bool false, .slice none 0 0, .slice none 0 0, .bool false, .slice none 0 0, .slice none 0 0] 32), (pb, cel [pX rb] 123), (rb, Ro sv z k' 0)] ∧ k ≤ k' ∧ k' ≤ T.length ∧ 8 * (T.length - k') + 2 ≤ q ∧ pProg z u 0 (List.replicate 6 noBk) (T.drop k) = pProg z q lt out (T.drop k') ∧ Kt x w.heap.size pgM out cs ∧ cs.length = 18 ∧ m = q + 1) _ ⟨u, k, 0, List.replicate 6 noBk, _, _, rfl, rfl, rfl, rfl, rfl, rfl, Nat.le_refl _, hk, by omega, rfl, pgM.zero, rfl, rfl⟩ ?_
  rintro m e B L ⟨q, k', lt, out, cs, x, e1_1, e2_1, e3_1, e4_1, rfl, rfl, hlo, hk', hq, hG0, hKp, hcl, rfl⟩
  obtain ⟨q', rfl⟩ : ∃ q', q = q' + 1 := ⟨q - 1, by omega⟩; have hGa := hG0.trans pProg_eq
  refine zB (yA (jy 2 z123 e1_1 rfl (mI e4_1 (w_ps (T := T) (ob := fun k => Ro sv z k 0) (lo := k') (Vs := (fun i : Nat × Bool => .tuple #[.int .i64 (i.1 : Nat), .bool i.2])) (pan := pan) 3 rfl zm1 rfl hGa (fun w => zR Tryz.func109 rfl rfl rfl) rfl rfl (fun w h => head_ok T z sv lt rb (k') 0 w (hP.now zm1 h) (h.at_ 3 rfl) (by omega) (by omega)) (fun fl w' h1 h0 h2 a ha => p_out ha ⟨fl, h1, h0, rfl, h2⟩) (fun e4 k4 hX4 hG4 hl4 hk4 => ?_)))))
  obtain ⟨ib, rfl⟩ : ∃ q, q = e4 := ⟨_, rfl⟩; have hpi := pHead_i hX4
  refine zm rfl (jx rfl rfl (jx rfl rfl (aI rfl (aB rfl (yB (zq (yA (mB rfl (jk rfl (yB ?_)))))))))); refine c_condN rfl (fun h5 => ?_) (fun h5 => ?_)
  · have hGx := hG4.trans (if_neg (by rw [h5]; exact Bool.false_ne_true))
    refine yA (w_loadW z32 e3_1 (fun w h => h.at_ 0 rfl) hcl (zV (vs := cs) (cs' := cs) 1 rfl z32 e2_1 rfl rfl hcl (pg_one hKp) rfl (by simp) (yB (ze (zt (zb (zt (zb ((k_p (.inl rfl) (r_fin (.inl rfl) rfl (.agg rfl e2_1 z32 (fun _ h => h.at_ 1 rfl) (by rw [Nat.ble_eq, hcl]; omega) .nil) ?_)))))))))))
    rw [List.drop_zero, List.take_of_length_le (by omega)]; exact fun w' hw => ⟨out, cs, k4, hGx, by omega, by omega, rfl, hKp.fin TL.pg zm0 hw, hw.fr _ zm1, hw.at_ 3 rfl⟩
  have hGx := hG4.trans (if_pos h5)
  refine zi (zk (yA (mI rfl (jy 2 z123 e1_1 rfl (mI rfl (w_pc (T := T) (ob := fun k => Ro sv z k 0) (lo := (k4 + 1)) (V := (fun (b : Bk) (a : (Option Addr × Nat) × (Option Addr × Nat)) => .agg (bkE b a).toArray)) (pan := pan) 3 rfl zm1 rfl TL.bkt hGx (fun w => zR Tryz.func110 rfl rfl rfl) rfl rfl (fun w h => fill_ok T z sv q' ib.1 hpi.1 rb k4 0 w (hP.now zm1 h) (h.at_ 3 rfl) (by omega) (by omega) (by omega)) (fun fl w' h1 h0 h2 a ha => p_out ha ⟨fl, h1, h0, rfl, h2⟩) (fun e6 b6 k6 w6 hX6 hG6 hl6 hk6 hK6 => zf fa32_0 e3_1 (zg (fun _ => R_iaA (i := ib.1) ara30 (by decide) rfl rfl (by omega)) (zV (vs := bkE e6 b6) (cs' := putB cs ib.1 (bkE e6 b6)) 0 rfl z29 rfl rfl rfl rfl rfl (by rw [Nat.ble_eq, hcl]; omega) rfl (yB (zr (mI rfl (aI rfl (zn (zO ((zK (B' := _) (L' := [_, _, _, _]) (fun w' h => h) (k_base (fun w9 h9 => zK (fun w' h => h.keep2 zm2) ?_))))))))))))))))))); exact k_again _ (by omega) ⟨q', k6, ib.1 + 1, out.set ib.1 e6, _, _, e1_1, e2_1, e3_1, (congrArg (Value.int .i64) (by omega)), rfl, rfl, by omega, by omega, by omega, hG6, pgM.put (hKp.now TL.pg zm1 h9) hpi.1 rfl (bkU.M (hK6.now TL.bkt zm0 h9)), (by rw [List.length_append, List.length_append, List.length_take, List.length_drop, hcl]; show _ + 3 + _ = 18; omega), rfl⟩
end Go.Proofs.YtoehjlmdnajibaaGreatDoor
end
section
namespace Go.Tok
theorem readN_go {x : Rd} {k : Nat} {t : List UInt8} {a : Nat} {b : Bool} (h : (readN x k t a b).2 = true) : b = true ∧ readN x k t a b = ((x.1 ++ [(k, t, a)], x.2), true) := by
  unfold readN at h ⊢
  split at h
  · cases h
  rename_i hb
  split at h
  · cases h
  rename_i h6
  rw [if_neg hb, if_neg h6]
  exact ⟨by cases b <;> simp_all, rfl⟩
def sh (d : Nat) (t : Tk) : Tk := (t.1, t.2.1, d + t.2.2)
def shF (d : Nat) (f : Nat × Nat) : Nat × Nat := if f.1 = 0 then (0, 0) else (f.1, d + f.2)
theorem lex_at {s : List UInt8} : ∀ (m i : Nat) (x : Rd), m = s.length - i → i ≤ s.length → (∀ t ∈ x.1, t.2.2 ≤ s.length) → x.2.2 ≤ s.length → (∀ t ∈ (lexS readN s i x).1, t.2.2 ≤ s.length) ∧ (lexS readN s i x).2.2 ≤ s.length := by
  intro m
  induction m using Nat.strongRecOn with
  | _ m ih =>
    intro i x hm hi hx h0
    rcases Nat.lt_or_ge i s.length with hl | hl
    · cases hgo : (readN x (tokAt s i).1 (tokTx s i) i (tokAt s i).2.2).2 with
      | true =>
        have hN := readN_go hgo
        have h1 := tok_le hi
        have h2 := h1.2.2 hN.1
        have h3 := skipTo_le h1.2.1
        rw [lexS_go readN readN_no hl hgo]
        refine ih _ (by omega) _ _ rfl h3.1 ?_ (by rw [hN.2]; exact h0)
        rw [hN.2]
        intro t ht
        rcases List.mem_append.1 ht with ht | ht
        · exact hx t ht
        · obtain rfl := List.mem_singleton.1 ht; exact hi
      | false =>
        rw [lexS_end readN hl hgo]
        unfold readN at hgo ⊢
        split
        · exact ⟨hx, hi⟩
        · rename_i hb
          split
          · exact ⟨hx, hi⟩
          · rename_i h6; rw [if_neg hb, if_neg h6] at hgo; cases hgo
    · rw [lexS_stop readN (by omega)]; exact ⟨hx, h0⟩
theorem readP_at (s : List UInt8) : (∀ t ∈ (readP s).1, t.2.2 ≤ s.length) ∧ (readP s).2.2 ≤ s.length := by
  have h1 := skipTo_le (s := s) (Nat.zero_le _)
  have h2 := lex_at _ _ ([], 0, 0) rfl h1.1 (fun t ht => (List.not_mem_nil ht).elim) (Nat.zero_le _)
  unfold readP
  split
  · exact ⟨fun t ht => (List.not_mem_nil ht).elim, Nat.zero_le _⟩
  split
  · exact ⟨h2.1, Nat.zero_le _⟩
  exact ⟨fun t ht => (List.not_mem_nil ht).elim, h2.2⟩
end Go.Tok
end
section
namespace Go.Tok
theorem tokTx_le (s : List UInt8) (i : Nat) : (tokTx s i).length ≤ s.length := by
  unfold tokTx; simp only [List.length_take, List.length_drop]; omega
theorem lex_tx {s : List UInt8} : ∀ (m i : Nat) (x : Rd), m = s.length - i → i ≤ s.length → (∀ t ∈ x.1, t.2.1.length ≤ s.length) → ∀ t ∈ (lexS readN s i x).1, t.2.1.length ≤ s.length := by
  intro m
  induction m using Nat.strongRecOn with
  | _ m ih =>
    intro i x hm hi hx
    rcases Nat.lt_or_ge i s.length with hl | hl
    · cases hgo : (readN x (tokAt s i).1 (tokTx s i) i (tokAt s i).2.2).2 with
      | true =>
        have hN := readN_go hgo
        have h1 := tok_le hi
        have h2 := h1.2.2 hN.1
        have h3 := skipTo_le h1.2.1
        rw [lexS_go readN readN_no hl hgo]
        refine ih _ (by omega) _ _ rfl h3.1 ?_
        rw [hN.2]
        intro t ht
        rcases List.mem_append.1 ht with ht | ht
        · exact hx t ht
        · obtain rfl := List.mem_singleton.1 ht; exact tokTx_le s i
      | false =>
        rw [lexS_end readN hl hgo]
        unfold readN
        split
        · exact hx
        · split
          · exact hx
          · rename_i hb h6; unfold readN at hgo; rw [if_neg hb, if_neg h6] at hgo; cases hgo
    · rw [lexS_stop readN (by omega)]; exact hx
theorem readP_tx (s : List UInt8) : ∀ t ∈ (readP s).1, t.2.1.length ≤ s.length := by
  have h1 := skipTo_le (s := s) (Nat.zero_le _)
  have h2 := lex_tx _ _ ([], 0, 0) rfl h1.1 (fun t ht => (List.not_mem_nil ht).elim)
  unfold readP
  split
  · exact fun t ht => (List.not_mem_nil ht).elim
  split
  · exact h2
  exact fun t ht => (List.not_mem_nil ht).elim
end Go.Tok
namespace Go.Prs
open Go.Tok Go.Tree
def endR {α : Type} (a : α) : List Tk → Except Fl α
  | [] => .ok a
  | t :: _ => .error (130, t.2.2)
theorem face_bad {α : Type} {s : Str} {f : Nat → Nat → List Tk → Rs α} (h : (readP s).2.1 ≠ 0) : face s f = .error (readP s).2 := if_neg h
theorem face_go {α : Type} {s : Str} {f : Nat → Nat → List Tk → Rs α} (h : (readP s).2.1 = 0) : face s f = andR (f s.length (fuel (readP s).1) (readP s).1) endR := if_pos h
theorem endR_more {α : Type} {a : α} {T : List Tk} {k : Nat} (z : Nat) (h : k < T.length) : endR a (T.drop k) = .error (130, place z (T.drop k)) := by
  cases hT : T.drop k with
  | nil => have := congrArg List.length hT; rw [List.length_drop] at this; simp at this; omega
  | cons t l => rfl
theorem endR_done {α : Type} {a : α} {T : List Tk} {k : Nat} (h : ¬ k < T.length) : endR a (T.drop k) = .ok a := by
  rw [List.drop_eq_nil_of_le (by omega)]; rfl
def resOf {α : Type} (z : α) : Except Fl α → α × Fl
  | .ok a => (a, (0, 0))
  | .error f => (z, f)
def noEx : Ex := .mk 0 0 [] []
end Go.Prs
end
section
namespace Go.Proofs.YtoehjlmdnajibaaGreatDoor
open Go.RowKit Go.Sx
open Go.Tok Go.Tree Go.Prs
theorem catchP_ok (fl : Fl) (ob fb : Nat) (xs ys : List Value) (hxl : xs.length = 18) (hyl : ys.length = 2) (w : World) (ho : w.heap[ob]? = some (cel xs 32)) (hf : w.heap[fb]? = some (cel ys 37)) (hne : ob ≠ fb) : CallsD Tryz.prog 107 #[pX ob, pX fb] (.panicking (pan fl)) w fun e u w' => (∃ v, e = .returned v) ∧ settle u = .returning ∧ Fr (fun j => j = ob ∨ j = fb) w w' ∧ w'.heap[ob]? = some (cel [.bool false, .slice none 0 0, .slice none 0 0, .bool false, .slice none 0 0, .slice none 0 0, .bool false, .slice none 0 0, .slice none 0 0, .bool false, .slice none 0 0, .slice none 0 0, .bool false, .slice none 0 0, .slice none 0 0, .bool false, .slice none 0 0, .slice none 0 0] 32) ∧ w'.heap[fb]? = some (cel [.int .i64 (fl.1 : Nat), .int .i64 (fl.2 : Nat)] 37) := by
 refine (enterR (l := [_, _]) (t := 37) (pv := (.agg #[.int .i64 (fl.1 : Nat), .int .i64 (fl.2 : Nat)])) (older := []) (R := fun w' => Fr (fun j => j = ob ∨ j = fb) w w' ∧ w'.heap[ob]? = some (cel [.bool false, .slice none 0 0, .slice none 0 0, .bool false, .slice none 0 0, .slice none 0 0, .bool false, .slice none 0 0, .slice none 0 0, .bool false, .slice none 0 0, .slice none 0 0, .bool false, .slice none 0 0, .slice none 0 0, .bool false, .slice none 0 0, .slice none 0 0] 32) ∧ w'.heap[fb]? = some (cel [.int .i64 (fl.1 : Nat), .int .i64 (fl.2 : Nat)] 37)) 10 Tryz.func107 rfl rfl rfl rfl ⟨_, _, St.start2 (S := (fun j => j = ob ∨ j = fb)) w ho hf hne (.inl rfl) (.inr rfl), ?_⟩).mono (fun e u w' ⟨h1, h2, h3⟩ => ⟨h1, by rw [h2]; rfl, h3⟩)
 refine yA (zm rfl (zg (fun _ => R_ine uni20 rfl rfl) (yB (zE rfl (yA (zA zr32 (fun nb gnb unb => yB (c_held (fun w => w.heap[nb]? = some (cel [.bool false, .slice none 0 0, .slice none 0 0, .bool false, .slice none 0 0, .slice none 0 0, .bool false, .slice none 0 0, .slice none 0 0, .bool false, .slice none 0 0, .slice none 0 0, .bool false, .slice none 0 0, .slice none 0 0, .bool false, .slice none 0 0, .slice none 0 0] 32)) mixed (zh2 0 rfl rfl (fun w h => h.at_ 0 rfl) (fun w h => R_ldb z32 rfl h rfl) (zh2 1 rfl rfl (fun w h => h.at_ 0 rfl) (fun w h => R_move rfl) (zh2 2 rfl rfl (fun w h => h.at_ 0 rfl) (fun w h => R_ta tab37 rfl) (zH2 3 (fun w h => h.at_ 0 rfl) (o_storeW [.bool false, .slice none 0 0, .slice none 0 0, .bool false, .slice none 0 0, .slice none 0 0, .bool false, .slice none 0 0, .slice none 0 0, .bool false, .slice none 0 0, .slice none 0 0, .bool false, .slice none 0 0, .slice none 0 0, .bool false, .slice none 0 0, .slice none 0 0] 1 rfl rfl z32 rfl rfl rfl rfl rfl hxl (zH2 4 (fun w h => h.at_ 0 rfl) (o_storeW [.int .i64 (fl.1 : Nat), .int .i64 (fl.2 : Nat)] 2 rfl rfl z37 rfl rfl rfl rfl rfl hyl (zN2 (fun w h => h.at_ 0 rfl) ?_)))))))))))))))); exact r_rec (.inr rfl) rfl fun w' hw => ⟨hw.f0, hw.at_ 1 rfl, hw.at_ 2 rfl⟩
theorem idleP_ok (ob fb : Nat) {B : Base} {L : Heap} (w : World) (hw : St B L w) : CallsD Tryz.prog 107 #[pX ob, pX fb] .returning w fun e u w' => (∃ v, e = .returned v) ∧ u = .returning ∧ St B L w' := by
 refine enterR0 (l := [_, _]) 10 Tryz.func107 rfl rfl rfl rfl ⟨_, _, hw, ?_⟩
 refine yA (zm rfl (zg (fun _ => R_ine0 uni20 rfl rfl) (yB (zG rfl (zi ?_))))); exact r_rec (.inr rfl) rfl fun w' hw => hw
theorem toks_at {T : List Tk} {a : Option Addr} {c : Nat} {W : Heap} {w : World} {rb : Nat} (h : Toks (.slice a T.length c) T W) (hm : ∀ p ∈ W, w.heap[p.1]? = some p.2) (hne : ∀ p ∈ W, p.1 ≠ rb) {k : Nat} {t : Tk} (hk : T[k]? = some t) : At w (fun j => j ≠ rb) a (k * 3) (tkC t) := by
 obtain ⟨hl, ⟨_, h0, _⟩ | ⟨q, cc, sp, hv, hc, hsp, rfl⟩⟩ := h
 ·have := (List.getElem?_eq_some_iff.1 hk).1; omega
 ·cases hv
  refine ⟨q, 0, rfl, hne (q, cel (tksC T ++ sp) 141) (by simp), fun j u hj => ?_⟩
  have h1 := hm (q, cel (tksC T ++ sp) 141) (by simp)
  have h2 := tks_at T k t hk j u hj
  have h3 : (tksC T ++ sp)[k * 3 + j]? = some u := by rw [List.getElem?_append_left (List.getElem?_eq_some_iff.1 h2).1]; exact h2
  dsimp only at h1
  simp [World.cell?, h1, h3]
theorem exT.none {w : World} {N : Nat → Prop} : exT w N noEx (none, 0) := ⟨Nat.le_refl _, by unfold noEx Ex.kids exsM; trivial, fun _ => ⟨rfl, rfl⟩, fun h => by cases h⟩
theorem faceP_ok (s : Str) (hs : s.length ≤ 10000000) (T : List Tk) (hTe : (readP s).1 = T) (w : World) (hW : Wd w) (hng : 4 ≤ w.heap.size) :
  Ret Tryz.prog 75 #[str s, .func (.func 76) #[] #[]] w (fun v w' => ∃ cs, v = .tuple #[.agg cs.toArray, .agg #[.int .i64 ((resOf (List.replicate 6 noBk) (parseP s)).2.1 : Nat), .int .i64 ((resOf (List.replicate 6 noBk) (parseP s)).2.2 : Nat)]] ∧ pgM w' (Nn w w') (resOf (List.replicate 6 noBk) (parseP s)).1 cs ∧ (∀ fl, parseP s = .error fl → fl.1 ≠ 0) ∧ Ext w w') := by
 refine enterD (S := No) (l := [_, _]) (L := []) 42 Tryz.func75 rfl rfl rfl (St.start w No) (yA (zA zr32 (fun ob gob uob => zA zr37 (fun fb gfb ufb => yC (zm (v := str _) rfl ?_))))); refine w_callW (R := fun v W => ∃ a c, v = .tuple #[.slice a T.length c, .agg #[.int .i64 ((readP s).2.1 : Nat), .int .i64 ((readP s).2.2 : Nat)]] ∧ Toks (.slice a T.length c) T W) (fun w => zR Tryz.func106 rfl rfl rfl) rfl rfl (fun w h => by subst hTe; exact Read_spec s hs w (hW.now zm0 h).tb (hW.now zm0 h).gs) ?_
 rintro v W0 ⟨ta, tc, rfl, hO⟩
 refine w_st (fun w h => h.perm List.perm_append_comm) (zm rfl (jx rfl rfl (jx rfl rfl (zA zr37 (fun eb geb ueb => za (v := .slice _ _ _) rfl (jv 0 z37 rfl (yB (zq (yA (zf fa37_0 rfl (jM 0 z35 rfl (jn rfl rfl (yB ?_))))))))))))); refine zD rfl (fun h4 => ?_) (fun h4 => ?_)
 ·refine zq (c_held (fun w => w.heap[ob]? = some (cel [.bool false, .slice none 0 0, .slice none 0 0, .bool false, .slice none 0 0, .slice none 0 0, .bool false, .slice none 0 0, .slice none 0 0, .bool false, .slice none 0 0, .slice none 0 0, .bool false, .slice none 0 0, .slice none 0 0, .bool false, .slice none 0 0, .slice none 0 0] 32) ∧ w.heap[eb]? = some (cel [.int .i64 ((readP s).2.1 : Nat), .int .i64 ((readP s).2.2 : Nat)] 37)) mixed (zh2 0 rfl rfl (fun w h => ⟨h.at_ 2 rfl, h.at_ 0 rfl⟩) (fun w h => R_ldb z32 rfl h.1 rfl) (zh2 1 rfl rfl (fun w h => ⟨h.at_ 2 rfl, h.at_ 0 rfl⟩) (fun w h => R_ldb z37 rfl h.2 rfl) (zH2 2 (fun w h => ⟨h.at_ 2 rfl, h.at_ 0 rfl⟩) (zJ 2 rfl rfl z32 rfl rfl rfl rfl rfl rfl rfl (zH2 3 (fun w h => ⟨h.at_ 2 rfl, h.at_ 0 rfl⟩) (zJ 1 rfl rfl z37 rfl rfl rfl rfl rfl rfl rfl (zN2 (fun w h => ⟨h.at_ 2 rfl, h.at_ 0 rfl⟩) (zk (ze (zt ((r_finD0 (.inl rfl) rfl (.agg rfl rfl z32 (fun _ h => h.at_ 2 rfl) (by rfl) (.agg rfl rfl z37 (fun _ h => h.at_ 1 rfl) rfl .nil)) ?_))))))))))))); exact fun w' hw => by rw [show parseP s = .error (readP s).2 from face_bad (by omega)]; exact ⟨_, rfl, pgM.zero, fun fl' h' => by cases h'; omega, hw.f0⟩
 ·refine zi (zk (yA (zg (fun _ => R_makeFunc) (w_defer (fun w => R_defer (ca := [pX ob, pX fb]) rfl) rfl rfl (yC (mS rfl (zm (v := str _) rfl (zg (fun _ => R_slen st9 rfl (by omega)) (jb bt143 rfl (w_boxA rfl (fun rb grb urb => jb bt123 rfl (zA zr123 (fun pb gpb upb => jv 0 z123 rfl (yC (zm rfl (jy 0 z123 rfl rfl ?_))))))))))))))))
  have hPe : ∀ w', Wd w' → (∀ p ∈ W0, w'.heap[p.1]? = some p.2) → Pe w' rb T s.length (.slice ta T.length tc) := fun w' h1 h2 => ⟨h1, Nat.le_trans hng (urb (w, No) (by simp)), ⟨ta, tc, rfl, fun k t hk => toks_at hO h2 (fun p hp => Nat.ne_of_lt (grb p (by simp [hp]))) hk⟩, by rw [← hTe]; exact readP_len s, hs, fun t ht => ⟨Nat.le_trans (readP_tx s t (by rw [hTe]; exact ht)) hs, Nat.le_trans ((readP_at s).1 t (by rw [hTe]; exact ht)) hs⟩⟩
  have hG : parseP s = andR (pProg s.length (fuel T) 0 (List.replicate 6 noBk) T) endR := (by subst hTe; exact face_go (by omega))
  refine w_pcD (T := T) (ob := fun k => Ro (.slice ta T.length tc) s.length k 0) (lo := 0) (V := (fun (_ : List Bk) (cs : List Value) => .agg cs.toArray)) (pan := pan) 1 rfl zm0 TL.pg hG (fun w => zR Tryz.func76 rfl rfl rfl) rfl rfl (fun w h => prog_ok T s.length (.slice ta T.length tc) (fuel T) rb 0 w (hPe w (hW.now zm0 h) (fun p hp => h.own p (by simp [hp]))) (h.at_ 1 rfl) (Nat.zero_le _) (by unfold fuel; omega)) (fun fl w' o' hf h0 hw' => d_out (l := [.cell 4 32, .cell 5 37]) (B := _) (L := _) rfl (fun _ => invoke_cl (ca := [pX ob, pX fb]) Tryz.func107 rfl rfl) ((catchP_ok _ ob fb [.bool false, .slice none 0 0, .slice none 0 0, .bool false, .slice none 0 0, .slice none 0 0, .bool false, .slice none 0 0, .slice none 0 0, .bool false, .slice none 0 0, .slice none 0 0, .bool false, .slice none 0 0, .slice none 0 0, .bool false, .slice none 0 0, .slice none 0 0] [.int .i64 0, .int .i64 0] rfl rfl _ (hw'.at_ 4 rfl) (hw'.at_ 3 rfl) (hw'.ne 4 3 rfl rfl (by decide))).mono (fun e u w2 ⟨h1, h2, h3, h4, h5⟩ => ⟨h1, h2, hw'.mod2 4 3 rfl rfl (by decide) h3 h4 h5⟩)) (.agg rfl rfl z32 (fun _ h => h.at_ 4 rfl) rfl (.agg rfl rfl z37 (fun _ h => h.at_ 3 rfl) rfl .nil)) (fun w2 hw2 => by rw [hf]; exact ⟨_, rfl, pgM.zero, fun fl' h' => by cases h'; exact h0, hw2.fr _ zm0⟩)) (fun e1 b1 k1 w1 hX hG1 hlo hk1 hK => ?_)
  have hcl : b1.length = 18 := hK.len
  refine w_storeW b1 4 rfl z32 rfl rfl rfl hcl (pg_one hK) rfl (yB (zq (yA (zf fa123_0 rfl (jM 0 z121 rfl (zI rfl (zf fa143_1 rfl (jM 1 z3 rfl (mS rfl (jj sl137 rfl (jl rfl rfl (yB ?_)))))))))))); refine zD rfl (fun h7 => ?_) (fun h7 => ?_)
  ·refine zr (zf fa123_0 rfl (jM 0 z121 rfl ?_))
   have hf : parseP s = .error (130, place s.length (T.drop k1)) := hG1.trans (endR_more _ (by omega))
   refine w_callD (R := fun _ _ _ => False) (E := fun w ch w' => ch = pan (130, place s.length (T.drop k1)) ∧ Ext w w') (fun w => zR Tryz.func108 rfl rfl rfl) rfl rfl (fun w h => fail_ok 130 rb k1 0 s.length T (.slice ta T.length tc) w (hPe w (hW.now zm1 h) (fun p hp => h.own p (by simp [hp]))) (h.at_ 1 rfl) (by omega)) (fun w hw v w' h => h.elim) (fun w hw ch w' hh => by obtain ⟨rfl, hx⟩ := hh; have hw' := hw.ext hx; exact d_out (l := [.cell 4 32, .cell 5 37]) (B := _) (L := _) rfl (fun _ => invoke_cl (ca := [pX ob, pX fb]) Tryz.func107 rfl rfl) ((catchP_ok _ ob fb b1 [.int .i64 0, .int .i64 0] hcl rfl _ (hw'.at_ 4 rfl) (hw'.at_ 3 rfl) (hw'.ne 4 3 rfl rfl (by decide))).mono (fun e u w2 ⟨h1, h2, h3, h4, h5⟩ => ⟨h1, h2, hw'.mod2 4 3 rfl rfl (by decide) h3 h4 h5⟩)) (.agg rfl rfl z32 (fun _ h => h.at_ 4 rfl) rfl (.agg rfl rfl z37 (fun _ h => h.at_ 3 rfl) rfl .nil)) (fun w2 hw2 => by rw [hf]; exact ⟨_, rfl, pgM.zero, fun fl' h' => by cases h'; exact (show (130 : Nat) ≠ 0 by decide), hw2.fr _ zm1⟩))
  ·refine zi (zk (yA (w_loadW z32 rfl (fun w h => h.at_ 4 rfl) hcl (jb bt37 rfl (w_storeW b1 4 rfl z32 rfl rfl rfl hcl (pg_one hK) hcl (jv 3 z37 rfl (yB (ze ?_))))))))
   have hGd : parseP s = .ok e1 := hG1.trans (endR_done (by omega))
   refine r_finD (.inl rfl) rfl (f := 107) (ca := [pX ob, pX fb]) (fun _ => invoke_cl Tryz.func107 rfl rfl) (fun w hw => idleP_ok ob fb w hw) (.agg rfl rfl z32 (fun _ h => h.at_ 4 rfl) (by (rw [Nat.ble_eq, hcl]; omega)) (.agg rfl rfl z37 (fun _ h => h.at_ 3 rfl) rfl .nil)) ?_
   rw [show List.take 18 (List.drop 0 b1) = b1 from by rw [List.drop_zero, List.take_of_length_le (by omega)]]; exact fun w' hw => by rw [hGd]; exact ⟨b1, rfl, hK.fin TL.pg zm0 hw, (fun fl' h' => by cases h'), hw.fr _ zm1⟩
theorem Parse_ok (s : Str) (hs : s.length ≤ 10000000) (w : World) (hW : Wd w) (hng : 4 ≤ w.heap.size) :
  Ret Tryz.prog 44 #[str s] w (fun v w' => ∃ cs, v = .tuple #[.agg cs.toArray, .agg #[.int .i64 ((resOf (List.replicate 6 noBk) (parseP s)).2.1 : Nat), .int .i64 ((resOf (List.replicate 6 noBk) (parseP s)).2.2 : Nat)]] ∧ pgM w' (Nn w w') (resOf (List.replicate 6 noBk) (parseP s)).1 cs ∧ (∀ fl, parseP s = .error fl → fl.1 ≠ 0) ∧ Ext w w') := by
 refine enter (S := No) (l := [_]) (L := []) 8 Tryz.func44 rfl rfl rfl (St.start w No) (yA (zA zr32 (fun ob gob uob => zA zr37 (fun fb gfb ufb => yC (zm (v := str _) rfl (zP (fun w => zR Tryz.func75 rfl rfl rfl) rfl rfl (fun w h => faceP_ok s hs _ rfl w (hW.now zm0 h) (Nat.le_trans hng (h.fr _ zm0).size)) ?_))))))
 rintro w1 hw1 v w2 ⟨cs, rfl, hM, hne, hx⟩
 refine ⟨_, _, (hw1.ext hx).base1, ?_⟩
 have hK : Kt (w2, inL [_, _]) w.heap.size pgM (resOf (List.replicate 6 noBk) (parseP s)).1 cs := Kt.new hM TL.pg hw1 (hw1.fr _ zm0).size; clear hM hx hw1
 have hcl : cs.length = 18 := hK.len
 refine jx rfl rfl (jx rfl rfl (w_storeW cs 1 rfl z32 rfl rfl rfl hcl (pg_one hK) rfl (jv 0 z37 rfl (yB (ze (r_fin (.inl rfl) rfl (.agg rfl rfl z32 (fun _ h => h.at_ 1 rfl) (by rw [Nat.ble_eq, hcl]; omega) (.agg rfl rfl z37 (fun _ h => h.at_ 0 rfl) rfl .nil)) ?_))))))
 rw [show List.take 18 (List.drop 0 cs) = cs from by rw [List.drop_zero, List.take_of_length_le (by omega)]]; exact fun w' hw => ⟨cs, rfl, hK.fin TL.pg zm0 hw, hne, hw.fr _ zm1⟩
end Go.Proofs.YtoehjlmdnajibaaGreatDoor
end
section
namespace Go.Sx
open Go.RowKit
section
variable {P : Program} {ops : Array Oper} {Q : Exit → Act → World → Prop} {c : Cf} {e : Env} {B B' : Base} {L L' : Heap} {o : Oper} {v : Value} {d id fuel : Nat} {S : World → Prop} {listed : Array Bool} {f : FuncId} {args : Array Value}
theorem c_heldS {n : Nat} {ds : List Deferred} (hm : P.follows .mixedOrders = true) (h : WH P ops ⟨n, ds, none⟩ Q (St B L) ops.size (Array.replicate ops.size false) e B L) : WC P ⟨n, ds, none⟩ (.region id ops true) Q e B L := c_held _ hm h
theorem wn_none (hg : o.guard = none) {t : Array Value} : Region.wanted o (yielded ops t) = true := by simp [Region.wanted, hg]
theorem wn_yes {j t : Nat} {b : Bool} (hg : o.guard = some (j, b)) (hj : (ops[j]?).bind (·.dst) = some t) (ht : Nat.blt t c.n = true) (he : e t = .bool b) : Region.wanted o (yielded ops (act c e).tmps) = true := by
  rw [wanted_of hg hj ht he]; cases b <;> rfl
theorem h_takeG (i : Nat) {j t : Nat} {b : Bool} (hi : ops[i]? = some o) (hk : (Region.noSelect ops && Region.free .any ops listed i && (Region.ready .any ops listed).contains i) = true) (hg : o.guard = some (j, b)) (hj : (ops[j]?).bind (·.dst) = some t) (ht : Nat.blt t c.n = true) (he : e t = .bool b) (hd : o.dst = some d) (hs : ∀ w, St B L w → S w)
    (hv : ∀ w, S w → Run P o (ev c.n e) w v w) (h : WH P ops c Q S fuel (listed.setIfInBounds i true) (upd e d v) B L) : WH P ops c Q S (fuel + 1) listed e B L := by
  simp only [Bool.and_eq_true] at hk
  refine ⟨hs, fun w hw => wpAnyH_take hi hk.1.1 hk.1.2 hk.2 (fun _ a _ hq a' ha => hq a' (ha.trans (by cases o.dst <;> rfl))) (v := v) (.inl ⟨wn_yes hg hj ht he, fun w hw => ?_⟩) (hs w hw) ?_⟩
  · rw [act_eval]; exact hv w hw
  rw [hd, act_put]; exact h.h w hw
theorem h_not (i : Nat) (hi : ops[i]? = some o) (hk : (Region.noSelect ops && Region.free .any ops listed i && (Region.ready .any ops listed).contains i) = true) (hw : Region.wanted o (yielded ops (act c e).tmps) = false) (hd : o.dst = some d) (hs : ∀ w, St B L w → S w)
    (h : WH P ops c Q S fuel (listed.setIfInBounds i true) (upd e d undef) B L) : WH P ops c Q S (fuel + 1) listed e B L := by
  simp only [Bool.and_eq_true] at hk
  refine ⟨hs, fun w hw' => wpAnyH_take hi hk.1.1 hk.1.2 hk.2 (fun _ a _ hq a' ha => hq a' (ha.trans (by cases o.dst <;> rfl))) (v := undef) (.inr ⟨hw, rfl⟩) (hs w hw') ?_⟩
  rw [hd, act_put]; exact h.h w hw'
theorem h_skip (i : Nat) {j t : Nat} {b : Bool} (hi : ops[i]? = some o) (hk : (Region.noSelect ops && Region.free .any ops listed i && (Region.ready .any ops listed).contains i) = true) (hg : o.guard = some (j, b)) (hj : (ops[j]?).bind (·.dst) = some t) (ht : Nat.blt t c.n = true) (he : e t = .bool (!b)) (hd : o.dst = some d) (hs : ∀ w, St B L w → S w)
    (h : WH P ops c Q S fuel (listed.setIfInBounds i true) (upd e d undef) B L) : WH P ops c Q S (fuel + 1) listed e B L :=
  h_not i hi hk (by rw [wanted_of hg hj ht he]; cases b <;> rfl) hd hs h
theorem h_skipU (i : Nat) {j t : Nat} {b : Bool} (hi : ops[i]? = some o) (hk : (Region.noSelect ops && Region.free .any ops listed i && (Region.ready .any ops listed).contains i) = true) (hg : o.guard = some (j, b)) (hj : (ops[j]?).bind (·.dst) = some t) (ht : Nat.blt t c.n = true) (he : e t = undef) (hd : o.dst = some d) (hs : ∀ w, St B L w → S w)
    (h : WH P ops c Q S fuel (listed.setIfInBounds i true) (upd e d undef) B L) : WH P ops c Q S (fuel + 1) listed e B L :=
  h_not i hi hk (by simp [Region.wanted, hg, yielded, hj, act_get, ht, he, undef]) hd hs h
theorem h_loadA (i : Nat) {t ty T : TypeId} {x : Operand} {p : String} {a : Array Edge} {b off k : Nat} {cs : List Value} (hi : ops[i]? = some ⟨some d, .load t x, ty, p, a, none⟩) (hk : (Region.noSelect ops && Region.free .any ops listed i && (Region.ready .any ops listed).contains i) = true) (hs : ∀ w, St B L w → S w)
    (hz : szB P t k true = true) (hx : ev c.n e x = .pointer (some ⟨b, off, none⟩)) (hc : ∀ w, S w → w.heap[b]? = some (cel cs T)) (hn : Nat.ble (off + k) cs.length = true) (h : WH P ops c Q S fuel (listed.setIfInBounds i true) (upd e d (.agg ((cs.drop off).take k).toArray)) B L) : WH P ops c Q S (fuel + 1) listed e B L :=
  zh i hi hk rfl rfl hs (fun w hw => R_ldb hz hx (hc w hw) hn) h
theorem h_loadC (i : Nat) {t ty : TypeId} {x : Operand} {p : String} {a : Array Edge} {b off k : Nat} {l : List Value} (hi : ops[i]? = some ⟨some d, .load t x, ty, p, a, none⟩) (hk : (Region.noSelect ops && Region.free .any ops listed i && (Region.ready .any ops listed).contains i) = true) (hs : ∀ w, St B L w → S w)
    (hz : szB P t k true = true) (hx : ev c.n e x = .pointer (some ⟨b, off, none⟩)) (hl : l.length = k) (hc : ∀ w, S w → ∀ j v, l[j]? = some v → w.cell? ⟨b, off + j, none⟩ = some v) (h : WH P ops c Q S fuel (listed.setIfInBounds i true) (upd e d (.agg l.toArray)) B L) : WH P ops c Q S (fuel + 1) listed e B L :=
  zh i hi hk rfl rfl hs (fun w hw => R_ldA hz hx hl (hc w hw)) h
theorem h_splitD {t : Nat} {p : Prop} [Decidable p] (he : e t = .bool (decide p)) (h1 : p → WH P ops c Q S fuel listed e B L) (h2 : ¬ p → WH P ops c Q S fuel listed e B L) : WH P ops c Q S fuel listed e B L := by
  by_cases h : p
  · exact h1 h
  exact h2 h
theorem o_callV {i : Nat} {R : World → Value → World → Prop} {E : World → List PanicEntry → World → Prop} (hi : ops[i]? = some o) (hw : Region.wanted o (yielded ops (act c e).tmps) = true) (hd : o.dst = some d)
    (hr : ∀ w, RunE P o (ev c.n e) w f args) (hc : ∀ w, St B L w → RetP P f args w (R w) (E w))
    (h : ∀ w, St B L w → ∀ v w', R w v w' → ∃ B' L', St B' L' w' ∧ WH P ops c Q S fuel (listed.setIfInBounds i true) (upd e d v) B' L')
    (hE : ∀ w, St B L w → ∀ ch w', E w ch w' → ∀ a : Act, a.defers = c.ds → Q (.panic ch) a w') : WO P ops c Q S fuel listed i e B L := by
  unfold WO
  intro w hw'
  unfold wpOp
  simp only [hi, hw, if_true]
  refine .inl ?_
  unfold Oper.wp
  have h1 := hr w
  unfold RunE at h1
  rw [act_eval, h1]
  simp only [Oper.upon]
  refine Calls.mono (hc w hw') ?_
  rintro x w' (⟨v, rfl, hv⟩ | ⟨ch, rfl, hv⟩)
  · obtain ⟨B', L', h2, h3⟩ := h w hw' v w' hv
    show S w' ∧ _
    rw [hd, act_put]
    exact ⟨h3.s w' h2, h3.h w' h2⟩
  exact fun a' ha' => hE w hw' ch w' hv a' (ha'.trans rfl)
theorem o_pureW {i : Nat} {u : Value} (hi : ops[i]? = some o) (hw : Region.wanted o (yielded ops (act c e).tmps) = true) (hd : o.dst = some d) (hr : ∀ w, RunE P o (ev c.n e) w f args)
    (hc : ∀ w, St B L w → Ret P f args w fun v w' => v = u ∧ Ext w w') (h : WH P ops c Q S fuel (listed.setIfInBounds i true) (upd e d u) B L) : WO P ops c Q S fuel listed i e B L :=
  o_callV (R := fun w v w' => v = u ∧ Ext w w') (E := fun _ _ _ => False) hi hw hd hr (fun w hw => (hc w hw).toP) (fun w hw v w' ⟨hv, hx⟩ => ⟨B, L, hw.ext hx, by subst hv; exact h⟩) (fun _ _ _ _ h => h.elim)
theorem o_valW {i : Nat} (hi : ops[i]? = some o) (hw : Region.wanted o (yielded ops (act c e).tmps) = true) (hd : o.dst = some d)
    (h : ∀ w, St B L w → ∃ v w' B' L', Run P o (ev c.n e) w v w' ∧ St B' L' w' ∧ WH P ops c Q S fuel (listed.setIfInBounds i true) (upd e d v) B' L') : WO P ops c Q S fuel listed i e B L := by
  unfold WO
  intro w hw'
  obtain ⟨v, w', B', L', h1, h2, h3⟩ := h w hw'
  unfold wpOp
  simp only [hi, hw, if_true]
  refine .inl ?_
  unfold Oper.wp
  unfold Run at h1
  rw [act_eval, h1, Oper.upon_value, hd, act_put]
  exact ⟨h3.s w' h2, h3.h w' h2⟩
theorem h_three (i j k : Nat) (hr : Region.ready .any ops listed = [i, j, k]) (hs : ∀ w, St B L w → S w) (h1 : WO P ops c Q S fuel listed i e B L) (h2 : WO P ops c Q S fuel listed j e B L) (h3 : WO P ops c Q S fuel listed k e B L) : WH P ops c Q S (fuel + 1) listed e B L := by
  unfold WO at *
  refine ⟨hs, fun w hw => wpAnyH_all hr (by simp) (fun q hq => ?_)⟩
  rcases List.mem_cons.1 hq with rfl | hq
  · exact h1 w hw
  rcases List.mem_cons.1 hq with rfl | hq
  · exact h2 w hw
  obtain rfl : q = k := by simpa using hq
  exact h3 w hw
theorem o_bsliceV {T : TypeId} {pp : String} {ed : Array Edge} {t el k bytes len i : Nat} {z : Value} {parts : List (Nat × Operand)} {g : Option (Nat × Bool)} (hi : ops[i]? = some ⟨some d, .buildSlice t len parts.toArray, T, pp, ed, g⟩) (hw : Region.wanted ⟨some d, .buildSlice t len parts.toArray, T, pp, ed, g⟩ (yielded ops (act c e).tmps) = true) (hT : slT P t el k bytes z) (hk : 0 < len * k) (hs : Nat.ble (len * k) 16777216 = true) (hf : fillB (plA len k) (parts.map fun p => (p.1, ev c.n e p.2)) (len * k) = true)
    (h : ∀ b, (∀ x ∈ L, x.1 < b) → (∀ x ∈ B, x.1.heap.size ≤ b) → WH P ops c Q S fuel (listed.setIfInBounds i true) (upd e d (.slice (some ⟨b, 0, none⟩) len len)) B ((b, cel (fillL (plA len k) (parts.map fun p => (p.1, ev c.n e p.2)) (zsL z (len * k))) el) :: L)) :
    WO P ops c Q S fuel listed i e B L := by
  obtain ⟨ti, ht, hti, hsize, hby, hz, hzs⟩ := slT_spec hT
  subst hsize
  have hlen : (zsL z (len * ti.size)).length = len * ti.size := by simp [zsL]
  have hf' := hf
  rw [← hlen] at hf'
  have hfe := fill_eq (plA len ti.size) (parts.map fun p => (p.1, ev c.n e p.2)) _ hf'
  rw [← fill_arr len ti.size _ _ hf'] at hfe
  refine o_valW hi hw rfl (fun w hw => ⟨_, _, B, _, ?_, hw.new, h w.heap.size (fun p hp => lt_of_blk (hw.own p hp)) (fun x hx => (hw.fr x hx).size)⟩)
  have e1 : ((Array.range (len * ti.size)).map (fun j => z.cells[j % z.cells.size]!)) = (zsL z (len * ti.size)).toArray := by simp [zsL, Array.toList_range, ← List.toArray_range]
  have h0 : ¬ len * ti.size = 0 := by omega
  have h1 : ¬ 16777216 < len * ti.size := by have := Nat.le_of_ble_eq_true hs; omega
  unfold Run
  simp only [execOp, Instr.buildSlice, Sem.run_bind, run_underlying ht, Result.andThen_ok, sizeOf, typeInfo, run_program, hti, Sem.run_pure, zeroValue, hz, h0, if_false, List.map_toArray]
  rw [if_neg (by simpa using h1)]
  simp only [Sem.run_bind, run_program, Result.andThen_ok, hti, Sem.run_pure, hz, e1, hfe, newRow, run_newObj]
  rfl
end
end Go.Sx
end
