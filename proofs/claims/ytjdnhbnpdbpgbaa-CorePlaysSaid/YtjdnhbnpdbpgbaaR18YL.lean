/- Lemmas. -/
import Derived.Test.YtjdnhbnpdbpgbaaR18O
import Derived.Test.YtjdnhbnpdbpgbaaR18G
namespace Go.Proofs.Ytjdnhbnpdbpgbaa
open Go.Lg
set_option linter.unusedVariables false
set_option maxRecDepth 100000
set_option maxHeartbeats 8000000
set_option linter.unusedSimpArgs false
abbrev coreL (c ks q0 q1 q2 : Nat) (S : List Int) (hand : Int) (l0 l1 l2 : List EN.T) : List HP :=
 [pts c (.obj (cO ks S hand q0 q1 q2)), kP ks S, gP q0 l0, gP q1 l1, gP q2 l2]
def CoreOk (S : List Int) (hand : Int) (l0 l1 l2 : List EN.T) : Prop := okW S = true ∧ (0 ≤ hand ∧ hand < (S.length : Int)) ∧ ((l0.length : Int) ≤ 64 ∧ (l1.length : Int) ≤ 64 ∧ (l2.length : Int) ≤ 64) ∧ LoadOk l0 l1 l2
def coreM (cell : C) (w : List C) (t : Bool) : HP := fun h =>
 (cell = .sc (.pointer none) ∧ w = W0 ∧ t = false) ∨
 ∃ (c ks q0 q1 q2 : Nat) (rc u0 v0 u1 v1 u2 v2 : Bool) (S : List Int) (hand : Int) (l0 l1 l2 : List EN.T), cell = .ptr c 0 ∧ w = wC false rc u0 v0 u1 v1 u2 v2 S hand l0 l1 l2 ∧ t = true ∧ CoreOk S hand l0 l1 l2 ∧ SL (coreL c ks q0 q1 q2 S hand l0 l1 l2) h
def slotM (cl : List C) (j : Nat) : HP := fun h => ∃ cell w t, sub (0 + j * 1) 1 cl = [cell] ∧ sub (3 + j * 5) 5 cl = w ∧ sub (18 + j * 1) 1 cl = [vb t] ∧ coreM cell w t h
def slotsM (cl : List C) : HP := SL [slotM cl 0, slotM cl 1, slotM cl 2]
def restM (cl : List C) (i : Nat) : HP := SL (([0, 1, 2].filter fun j => j != i).map (slotM cl))
def allP (p : Nat) : HP := fun h => ∃ cl : List C, cl.length = 21 ∧ SL [pts p (.obj cl), slotsM cl] h
abbrev updC (cl : List C) (k : Nat) (cell : C) (w : List C) (t : Bool) : List C := splice (18 + k * 1) [vb t] (splice (3 + k * 5) w (splice (0 + k * 1) [cell] cl))
theorem SL_un {A : HP} (hu : Up A) {h : Frag} (x : SL [A] h) : A h := by
 obtain ⟨h1, _, _, s1, _, a, _⟩ := x
 exact hu h1 h s1 a
theorem SL_un2 {A B : HP} (hu : Up B) {h : Frag} (x : SL [A, B] h) : star A B h := star_mono (fun _ y => y) (fun _ y => SL_un hu y) x
theorem slots_take {cl : List C} {i : Nat} (hi : i < 3) {h : Frag} (x : slotsM cl h) : SL [slotM cl i, restM cl i] h := by
 rcases (show i = 0 ∨ i = 1 ∨ i = 2 by omega) with rfl | rfl | rfl
 ·exact SL_two x
 ·exact SL_two (SL_perm (ds := [slotM cl 1, slotM cl 0, slotM cl 2]) (.swap _ _ _) x)
 ·exact SL_two (SL_perm (ds := [slotM cl 2, slotM cl 0, slotM cl 1]) ((List.Perm.cons _ (.swap _ _ _)).trans (.swap _ _ _)) x)
theorem slots_join {cl : List C} {i : Nat} (hi : i < 3) {h : Frag} (x : SL [slotM cl i, restM cl i] h) : slotsM cl h := by
 rcases (show i = 0 ∨ i = 1 ∨ i = 2 by omega) with rfl | rfl | rfl
 ·exact SL_un2 (SL_up _) x
 ·exact SL_perm (cs := [slotM cl 1, slotM cl 0, slotM cl 2]) (.swap _ _ _) (SL_un2 (SL_up _) x)
 ·exact SL_perm (cs := [slotM cl 2, slotM cl 0, slotM cl 1]) ((List.Perm.swap _ _ _).trans (.cons _ (.swap _ _ _))) (SL_un2 (SL_up _) x)
theorem len21 {cl : List C} (hl : cl.length = 21) : ∃ a0 a1 a2 a3 a4 a5 a6 a7 a8 a9 a10 a11 a12 a13 a14 a15 a16 a17 a18 a19 a20, cl = [a0, a1, a2, a3, a4, a5, a6, a7, a8, a9, a10, a11, a12, a13, a14, a15, a16, a17, a18, a19, a20] := by
 match cl, hl with
 | [a0, a1, a2, a3, a4, a5, a6, a7, a8, a9, a10, a11, a12, a13, a14, a15, a16, a17, a18, a19, a20], _ => exact ⟨_, _, _, _, _, _, _, _, _, _, _, _, _, _, _, _, _, _, _, _, _, rfl⟩
theorem len5 {w : List C} (hl : w.length = 5) : ∃ b0 b1 b2 b3 b4, w = [b0, b1, b2, b3, b4] := by
 match w, hl with
 | [b0, b1, b2, b3, b4], _ => exact ⟨_, _, _, _, _, rfl⟩
theorem upd_eq {cl w : List C} {cell : C} {t : Bool} {k : Nat} (hl : cl.length = 21) (hw : w.length = 5) (hk : k < 3) :
  (updC cl k cell w t).length = 21 ∧ sub (0 + k * 1) 1 (updC cl k cell w t) = [cell] ∧ sub (3 + k * 5) 5 (updC cl k cell w t) = w ∧ sub (18 + k * 1) 1 (updC cl k cell w t) = [vb t] := by
 obtain ⟨a0, a1, a2, a3, a4, a5, a6, a7, a8, a9, a10, a11, a12, a13, a14, a15, a16, a17, a18, a19, a20, rfl⟩ := len21 hl
 obtain ⟨b0, b1, b2, b3, b4, rfl⟩ := len5 hw
 rcases (show k = 0 ∨ k = 1 ∨ k = 2 by omega) with rfl | rfl | rfl <;> exact ⟨rfl, rfl, rfl, rfl⟩
theorem upd_ne {cl w : List C} {cell : C} {t : Bool} {k j : Nat} (hl : cl.length = 21) (hw : w.length = 5) (hk : k < 3) (hj : j < 3) (hn : j ≠ k) :
  sub (0 + j * 1) 1 (updC cl k cell w t) = sub (0 + j * 1) 1 cl ∧ sub (3 + j * 5) 5 (updC cl k cell w t) = sub (3 + j * 5) 5 cl ∧ sub (18 + j * 1) 1 (updC cl k cell w t) = sub (18 + j * 1) 1 cl := by
 obtain ⟨a0, a1, a2, a3, a4, a5, a6, a7, a8, a9, a10, a11, a12, a13, a14, a15, a16, a17, a18, a19, a20, rfl⟩ := len21 hl
 obtain ⟨b0, b1, b2, b3, b4, rfl⟩ := len5 hw
 rcases (show k = 0 ∨ k = 1 ∨ k = 2 by omega) with rfl | rfl | rfl <;> rcases (show j = 0 ∨ j = 1 ∨ j = 2 by omega) with rfl | rfl | rfl <;> first | (exfalso; exact hn rfl) | exact ⟨rfl, rfl, rfl⟩
theorem slot_ne {cl w : List C} {cell : C} {t : Bool} {k j : Nat} (hl : cl.length = 21) (hw : w.length = 5) (hk : k < 3) (hj : j < 3) (hn : j ≠ k) {h : Frag} (x : slotM cl j h) : slotM (updC cl k cell w t) j h := by
 obtain ⟨e1, e2, e3⟩ := upd_ne (cell := cell) (t := t) hl hw hk hj hn
 obtain ⟨a, b, c, h1, h2, h3, h4⟩ := x
 exact ⟨a, b, c, e1.trans h1, e2.trans h2, e3.trans h3, h4⟩
theorem slot_eq {cl w : List C} {cell : C} {t : Bool} {k : Nat} (hl : cl.length = 21) (hw : w.length = 5) (hk : k < 3) {h : Frag} (x : coreM cell w t h) : slotM (updC cl k cell w t) k h := by
 obtain ⟨_, e1, e2, e3⟩ := upd_eq (cell := cell) (t := t) hl hw hk
 exact ⟨cell, w, t, e1, e2, e3, x⟩
theorem slots_put {cl w : List C} {cell : C} {t : Bool} {k : Nat} (hl : cl.length = 21) (hw : w.length = 5) (hk : k < 3) {h : Frag} (x : star (slotsM cl) (coreM cell w t) h) : slotsM (updC cl k cell w t) h := by
 have y : star (SL [slotM cl k, restM cl k]) (coreM cell w t) h := star_mono (fun _ z => slots_take hk z) (fun _ z => z) x
 have z : star (coreM cell w t) (restM cl k) h := star_comm (star_mono (fun f z => by obtain ⟨h1, h2, _, s1, s2, _, b⟩ := z; exact SL_up _ h2 f s2 (SL_un (SL_up _) b)) (fun _ z => z) y)
 refine slots_join hk (SL_two (star_mono (fun _ q => slot_eq hl hw hk q) (fun f q => ?_) z))
 rcases (show k = 0 ∨ k = 1 ∨ k = 2 by omega) with rfl | rfl | rfl
 ·exact star_mono (fun _ a => slot_ne hl hw hk (by omega) (by omega) a) (fun _ a => star_mono (fun _ b => slot_ne hl hw hk (by omega) (by omega) b) (fun _ b => b) a) q
 ·exact star_mono (fun _ a => slot_ne hl hw hk (by omega) (by omega) a) (fun _ a => star_mono (fun _ b => slot_ne hl hw hk (by omega) (by omega) b) (fun _ b => b) a) q
 ·exact star_mono (fun _ a => slot_ne hl hw hk (by omega) (by omega) a) (fun _ a => star_mono (fun _ b => slot_ne hl hw hk (by omega) (by omega) b) (fun _ b => b) a) q
theorem core_of {c ks q0 q1 q2 : Nat} {rc u0 v0 u1 v1 u2 v2 : Bool} {S : List Int} {hand : Int} {l0 l1 l2 : List EN.T} (ok : CoreOk S hand l0 l1 l2) {h : Frag} (x : SL (coreL c ks q0 q1 q2 S hand l0 l1 l2) h) : coreM (.ptr c 0) (wC false rc u0 v0 u1 v1 u2 v2 S hand l0 l1 l2) true h :=
 .inr ⟨c, ks, q0, q1, q2, rc, u0, v0, u1, v1, u2, v2, S, hand, l0, l1, l2, rfl, rfl, rfl, ok, x⟩
theorem all_of {p : Nat} {cl : List C} (hl : cl.length = 21) {h : Frag} (x : SL [pts p (.obj cl), slotsM cl] h) : allP p h := ⟨cl, hl, x⟩
theorem all_nil {p k : Nat} {cl : List C} (hl : cl.length = 21) (hk : k < 3) {h : Frag} (x : SL [pts p (.obj (updC cl k (.sc (.pointer none)) W0 false)), slotsM cl] h) : allP p h :=
 ⟨_, (upd_eq hl rfl hk).1, star_mono (fun _ y => y) (fun f y => SL_one (slots_put hl rfl hk ⟨f, fun _ => none, fun _ => .inr rfl, fun _ _ z => z, fun _ _ z => by simp at z, SL_un (SL_up _) y, .inl ⟨rfl, rfl, rfl⟩⟩)) x⟩
theorem all_core {p k : Nat} {cl : List C} {c ks q0 q1 q2 : Nat} {rc u0 v0 u1 v1 u2 v2 : Bool} {S : List Int} {hand : Int} {l0 l1 l2 : List EN.T} (hl : cl.length = 21) (hk : k < 3) (ok : CoreOk S hand l0 l1 l2) {h : Frag}
  (x : SL ([pts p (.obj (updC cl k (.ptr c 0) (wC false rc u0 v0 u1 v1 u2 v2 S hand l0 l1 l2) true)), slotsM cl] ++ coreL c ks q0 q1 q2 S hand l0 l1 l2) h) : allP p h :=
 ⟨_, (upd_eq hl rfl hk).1, star_mono (fun _ y => y) (fun f y => SL_one (slots_put hl rfl hk (star_mono (fun _ z => z) (fun _ z => core_of ok z) y))) x⟩
theorem play_open {cs : List HP} {H : HH} {p : Nat} {i : Int} (h : On cs H) (j : Nat) (hj : cs[j]? = some (allP p)) (h0 : 0 ≤ i) (h1 : i < 3) :
  (∃ cl : List C, cl.length = 21 ∧ sub (0 + i.toNat * 1) 1 cl = [.sc (.pointer none)] ∧ sub (3 + i.toNat * 5) 5 cl = W0 ∧ sub (18 + i.toNat * 1) 1 cl = [vb false] ∧ On (cs.eraseIdx j ++ [pts p (.obj cl), restM cl i.toNat]) H) ∨
  (∃ (cl : List C) (c ks q0 q1 q2 : Nat) (rc u0 v0 u1 v1 u2 v2 : Bool) (S : List Int) (hand : Int) (l0 l1 l2 : List EN.T), cl.length = 21 ∧ sub (0 + i.toNat * 1) 1 cl = [.ptr c 0] ∧ sub (3 + i.toNat * 5) 5 cl = wC false rc u0 v0 u1 v1 u2 v2 S hand l0 l1 l2 ∧ sub (18 + i.toNat * 1) 1 cl = [vb true] ∧ CoreOk S hand l0 l1 l2 ∧
   On (cs.eraseIdx j ++ ([pts p (.obj cl), restM cl i.toNat] ++ coreL c ks q0 q1 q2 S hand l0 l1 l2)) H) := by
 refine On.alt j hj h fun h' ⟨cl, hl, x⟩ => ?_
 have y : star (pts p (.obj cl)) (SL [slotM cl i.toNat, restM cl i.toNat]) h' := star_mono (fun _ y => y) (fun f y => slots_take (by omega) (SL_un (SL_up _) y)) x
 have z : SL [slotM cl i.toNat, pts p (.obj cl), restM cl i.toNat] h' := SL_perm (cs := [pts p (.obj cl), slotM cl i.toNat, restM cl i.toNat]) (.swap _ _ _) y
 obtain ⟨h2, h3, hd, s2, s3, ⟨cell, w, t, e1, e2, e3, m⟩, b⟩ := z
 rcases m with ⟨rfl, rfl, rfl⟩ | ⟨c, ks, q0, q1, q2, rc, u0, v0, u1, v1, u2, v2, S, hand, l0, l1, l2, rfl, rfl, rfl, ok, m⟩
 ·exact ⟨_, SL_up _ h3 _ s3 b, fun hh => .inl ⟨cl, hl, e1, e2, e3, hh⟩⟩
 ·exact ⟨_, SL_app' ⟨h3, h2, fun k => (hd k).symm, s3, s2, b, m⟩, fun hh => .inr ⟨cl, c, ks, q0, q1, q2, rc, u0, v0, u1, v1, u2, v2, S, hand, l0, l1, l2, hl, e1, e2, e3, ok, hh⟩⟩
theorem play_half {cs : List HP} {H : HH} {p : Nat} (h : On cs H) (j : Nat) (hj : cs[j]? = some (allP p)) : ∃ cl : List C, cl.length = 21 ∧ On (cs.eraseIdx j ++ [pts p (.obj cl), slotsM cl]) H :=
 On.alt j hj h fun h' ⟨cl, hl, x⟩ => ⟨_, x, fun hh => ⟨cl, hl, hh⟩⟩
theorem slots_nil {cl : List C} {i : Int} (h0 : 0 ≤ i) (h1 : i < 3) (ha : sub (0 + i.toNat * 1) 1 cl = [.sc (.pointer none)]) (hb : sub (3 + i.toNat * 5) 5 cl = W0) (hc : sub (18 + i.toNat * 1) 1 cl = [vb false]) {h : Frag} (x : SL [restM cl i.toNat] h) : slotsM cl h :=
 slots_join (i := i.toNat) (by omega) ⟨fun _ => none, h, fun _ => .inl rfl, fun _ _ z => by simp at z, fun _ _ z => z, ⟨_, _, _, ha, hb, hc, .inl ⟨rfl, rfl, rfl⟩⟩, x⟩
theorem slots_core {cl : List C} {i : Int} {c ks q0 q1 q2 : Nat} {rc u0 v0 u1 v1 u2 v2 : Bool} {S : List Int} {hand : Int} {l0 l1 l2 : List EN.T} (h0 : 0 ≤ i) (h1 : i < 3) (ha : sub (0 + i.toNat * 1) 1 cl = [.ptr c 0])
  (hb : sub (3 + i.toNat * 5) 5 cl = wC false rc u0 v0 u1 v1 u2 v2 S hand l0 l1 l2) (hc : sub (18 + i.toNat * 1) 1 cl = [vb true]) (ok : CoreOk S hand l0 l1 l2) {h : Frag} (x : SL ([restM cl i.toNat] ++ coreL c ks q0 q1 q2 S hand l0 l1 l2) h) : slotsM cl h := by
 refine slots_join (i := i.toNat) (by omega) (SL_two (star_comm (star_mono (fun f y => SL_un (SL_up _) y) (fun f y => ?_) (SL_app x))))
 exact ⟨_, _, _, ha, hb, hc, core_of ok y⟩
theorem splice_self {cl : List C} {i : Int} {cell : C} {t : Bool} {w : List C} (hl : cl.length = 21) (h0 : 0 ≤ i) (h1 : i < 3) (hw : w.length = 5) (ha : sub (0 + i.toNat * 1) 1 cl = [cell]) (hc : sub (18 + i.toNat * 1) 1 cl = [vb t]) :
  splice (3 + i.toNat * 5) w cl = updC cl i.toNat cell w t := by
 obtain ⟨a0, a1, a2, a3, a4, a5, a6, a7, a8, a9, a10, a11, a12, a13, a14, a15, a16, a17, a18, a19, a20, rfl⟩ := len21 hl
 obtain ⟨b0, b1, b2, b3, b4, rfl⟩ := len5 hw
 rcases (show i = 0 ∨ i = 1 ∨ i = 2 by omega) with rfl | rfl | rfl <;> (cases ha; cases hc; rfl)
theorem all_store {p : Nat} {cl : List C} {i : Int} {c ks q0 q1 q2 : Nat} {rc u0 v0 u1 v1 u2 v2 : Bool} {S : List Int} {hand : Int} {l0 l1 l2 : List EN.T} (hl : cl.length = 21) (h0 : 0 ≤ i) (h1 : i < 3) (ha : sub (0 + i.toNat * 1) 1 cl = [.ptr c 0])
  (hc : sub (18 + i.toNat * 1) 1 cl = [vb true]) (ok : CoreOk S hand l0 l1 l2) {h : Frag}
  (x : SL ([pts p (.obj (splice (3 + i.toNat * 5) (wC false rc u0 v0 u1 v1 u2 v2 S hand l0 l1 l2) cl)), restM cl i.toNat] ++ coreL c ks q0 q1 q2 S hand l0 l1 l2) h) : allP p h := by
 rw [splice_self (w := wC false rc u0 v0 u1 v1 u2 v2 S hand l0 l1 l2) hl h0 h1 rfl ha hc] at x
 refine ⟨_, (upd_eq (cell := .ptr c 0) (w := wC false rc u0 v0 u1 v1 u2 v2 S hand l0 l1 l2) (t := true) hl rfl (show i.toNat < 3 by omega)).1, star_mono (fun _ y => y) (fun f y => SL_one ?_) x⟩
 have z : star (coreM (.ptr c 0) (wC false rc u0 v0 u1 v1 u2 v2 S hand l0 l1 l2) true) (restM cl i.toNat) f := star_comm (star_mono (fun _ q => q) (fun _ q => core_of ok q) y)
 refine slots_join (i := i.toNat) (by omega) (SL_two (star_mono (fun _ q => slot_eq hl rfl (by omega) q) (fun f q => ?_) z))
 have hi : i.toNat < 3 := by omega
 unfold restM at q ⊢
 generalize i.toNat = k at q hi ⊢
 rcases (show k = 0 ∨ k = 1 ∨ k = 2 by omega) with rfl | rfl | rfl
 ·exact star_mono (fun _ a => slot_ne hl rfl hi (by omega) (by omega) a) (fun _ a => star_mono (fun _ b => slot_ne hl rfl hi (by omega) (by omega) b) (fun _ b => b) a) q
 ·exact star_mono (fun _ a => slot_ne hl rfl hi (by omega) (by omega) a) (fun _ a => star_mono (fun _ b => slot_ne hl rfl hi (by omega) (by omega) b) (fun _ b => b) a) q
 ·exact star_mono (fun _ a => slot_ne hl rfl hi (by omega) (by omega) a) (fun _ a => star_mono (fun _ b => slot_ne hl rfl hi (by omega) (by omega) b) (fun _ b => b) a) q
theorem core_in {cell : C} {w : List C} {t : Bool} {h : Frag} {n : Nat} (hn : ∀ i o, h i = some o → i < n) (x : coreM cell w t h) : cell.inH n = true ∧ w.all (C.inH n) = true := by
 rcases x with ⟨rfl, rfl, rfl⟩ | ⟨c, ks, q0, q1, q2, rc, u0, v0, u1, v1, u2, v2, S, hand, l0, l1, l2, rfl, rfl, rfl, ok, m⟩
 ·exact ⟨rfl, rfl⟩
 ·obtain ⟨h1, _, _, s1, _, a, _⟩ := m
  exact ⟨decide_eq_true (hn _ _ (s1 _ _ a)), rfl⟩
theorem slot_in {cl : List C} {j : Nat} {h : Frag} {n : Nat} (hn : ∀ i o, h i = some o → i < n) (x : slotM cl j h) : (sub (0 + j * 1) 1 cl).all (C.inH n) = true ∧ (sub (3 + j * 5) 5 cl).all (C.inH n) = true ∧ (sub (18 + j * 1) 1 cl).all (C.inH n) = true := by
 obtain ⟨cell, w, t, e1, e2, e3, m⟩ := x
 obtain ⟨a, b⟩ := core_in hn m
 rw [e1, e2, e3]
 exact ⟨by simp [a], b, rfl⟩
theorem slots_in {cl : List C} (hl : cl.length = 21) {h : Frag} {n : Nat} (hn : ∀ i o, h i = some o → i < n) (x : slotsM cl h) : cl.all (C.inH n) = true := by
 have y0 := slots_take (show 0 < 3 by omega) x
 have y1 := slots_take (show 1 < 3 by omega) x
 have y2 := slots_take (show 2 < 3 by omega) x
 obtain ⟨f0, _, _, s0, _, m0, _⟩ := y0
 obtain ⟨f1, _, _, s1, _, m1, _⟩ := y1
 obtain ⟨f2, _, _, s2, _, m2, _⟩ := y2
 have g0 := slot_in (fun i o hh => hn i o (s0 i o hh)) m0
 have g1 := slot_in (fun i o hh => hn i o (s1 i o hh)) m1
 have g2 := slot_in (fun i o hh => hn i o (s2 i o hh)) m2
 obtain ⟨a0, a1, a2, a3, a4, a5, a6, a7, a8, a9, a10, a11, a12, a13, a14, a15, a16, a17, a18, a19, a20, rfl⟩ := len21 hl
 simp only [sub, Nat.zero_mul, Nat.one_mul, Nat.add_zero, ed_, List.drop_succ_cons, ec_, List.take_succ_cons, List.take_zero, List.all_cons, List.all_nil, Bool.and_true, kA, Nat.reduceMul, Nat.reduceAdd] at g0 g1 g2 ⊢
 simp only [g0, g1, g2, and_self]
theorem On.frag_lt {H : HH} : ∀ i o, (fun i => H[i]?) i = some o → i < H.length := fun i o h => (List.getElem?_eq_some_iff.1 h).1
theorem On.sub_ {cs : List HP} {H : HH} (is rest : List Nat) {A : HP} (hp : (is ++ rest).isPerm (List.range cs.length) = true) (hA : ∀ h, SL (is.map fun i => cs.getD i emp) h → A h) (h : On cs H) : A (fun i => H[i]?) := hA _ (h.pick is rest hp)
theorem ob_index_sym {P : Program} {A : Ann} {H : HH} {t el ty : TypeId} {p off sz n : Nat} {i : Int} (hu : P.underlying t = some (.array n el)) (hs : szT P el = some sz) (h0 : 0 ≤ i) (h1 : i < n) :
  Ob P A [.y (.one (.ptr p off)), xi i] H (.indexAddr t (.tmp 0) (.tmp 1)) ty (.y (.one (.ptr p (off + i.toNat * sz)))) H := by
 refine ⟨0, ?_⟩
 show ((some (C.ptr p off)).bind fun c => (some i).bind fun n => (indexAddrX P H t c n).map fun c => (X.y (.one c), H)) = _
 simp only [kS, indexAddrX, hu, hs]
 rw [if_pos ⟨h0, h1⟩]
 rfl
theorem ob_load_at {P : Program} {A : Ann} {H : HH} {t ty : TypeId} {id base off m n : Nat} {cs ws : List C} {v : Y} (hH : H[id]? = some (.obj cs)) (hb : sub base m cs = ws) (hl : base + m ≤ cs.length) (ht : szT P t = some n) (hn : (Nat.ble 1 n && Nat.ble (off + n) m) = true)
  (hv : mkY (isAggT P t) (sub off n ws) = some v) : Ob P A [.y (.one (.ptr id (base + off)))] H (.load t (.tmp 0)) ty (.y v) H := by
 simp only [kA, Nat.ble_eq] at hn
 refine ob_load_ptr hH ht (by simp only [kA, Nat.ble_eq]; omega) ?_ hv
 subst hb
 unfold sub
 rw [List.drop_take, List.take_take, List.drop_drop, Nat.min_eq_left (by omega)]
theorem ob_store_at {P : Program} {A : Ann} {H : HH} {t ty : TypeId} {id base : Nat} {cs : List C} {v : Y} (hH : H[id]? = some (.obj cs)) (ht : szT P t = some v.cells.length) (hl : v.cells.all C.live = true) (hn : base + v.cells.length ≤ cs.length) :
  Ob P A [.y (.one (.ptr id base)), .y v] H (.store t (.tmp 0) (.tmp 1)) ty .undef (H.set id (.obj (splice base v.cells cs))) :=
 ob_store_ptr hH ht (by simp only [kA, Nat.ble_eq]; exact ⟨hl, hn⟩) rfl
theorem len_sp {b : Nat} {new cs : List C} (h : b + new.length ≤ cs.length) : (splice b new cs).length = cs.length := by
 unfold splice; simp only [ej_, eh_, ei_]; omega
theorem sub_sp {b n b2 : Nat} {new cs ws : List C} (hs : sub b n cs = ws) (h : b2 + new.length ≤ cs.length) (hd : b2 + new.length ≤ b ∨ b + n ≤ b2) : sub b n (splice b2 new cs) = ws := by
 subst hs
 unfold sub splice
 apply List.ext_getElem?
 intro j
 simp only [ee_, ef_, eg_, ej_, eh_]
 split
 ·rcases hd with hd | hd
  ·rw [if_neg (by omega)]; congr 1; omega
  ·rw [if_pos (by omega), if_pos (by omega), if_pos (show b + j < b2 by omega)]
 ·rfl
theorem sub_sp1 {i k : Nat} {x : C} {cl : List C} (h : 18 + k * 1 + 1 ≤ cl.length) (hs : sub (18 + i * 1) 1 cl = [x]) : sub (18 + i * 1) 1 (splice (18 + k * 1) [x] cl) = [x] := by
 by_cases e : i = k
 ·subst e
  unfold sub splice
  apply List.ext_getElem?
  intro j
  simp only [ee_, ef_, eg_, ej_, eh_]
  cases j with
  | zero => rw [if_pos (by omega), if_pos (by simp; omega), if_neg (by omega), show 18 + i * 1 + 0 - min (18 + i * 1) cl.length = 0 by omega]
  | succ j => rw [if_neg (by omega)]; rfl
 ·exact sub_sp hs (by simpa using h) (by simp; omega)
theorem slots_zero {cl : List C} (h0 : ∀ j, j < 3 → sub (0 + j * 1) 1 cl = [.sc (.pointer none)] ∧ sub (3 + j * 5) 5 cl = W0 ∧ sub (18 + j * 1) 1 cl = [vb false]) {h : Frag} : slotsM cl h := by
 have g : ∀ j, j < 3 → slotM cl j (fun _ => none) := fun j hj => ⟨_, _, _, (h0 j hj).1, (h0 j hj).2.1, (h0 j hj).2.2, .inl ⟨rfl, rfl, rfl⟩⟩
 have e : ∀ (A : HP) (r : List HP) (f : Frag), A (fun _ => none) → SL r f → SL (A :: r) f := fun A r f a b => ⟨fun _ => none, f, fun _ => .inl rfl, fun _ _ z => by simp at z, fun _ _ z => z, a, b⟩
 exact e _ _ _ (g 0 (by omega)) (e _ _ _ (g 1 (by omega)) (e _ _ _ (g 2 (by omega)) trivial ))
abbrev Z21 : List C := [.sc (.pointer none), .sc (.pointer none), .sc (.pointer none)] ++ W0 ++ W0 ++ W0 ++ [vb false, vb false, vb false]
theorem all_zero {p : Nat} {h : Frag} (x : SL [pts p (.obj Z21)] h) : allP p h :=
 ⟨Z21, rfl, star_mono (fun _ y => y) (fun _ _ => SL_one (slots_zero (fun j hj => by rcases (show j = 0 ∨ j = 1 ∨ j = 2 by omega) with rfl | rfl | rfl <;> exact ⟨rfl, rfl, rfl⟩))) x⟩
end Go.Proofs.Ytjdnhbnpdbpgbaa
