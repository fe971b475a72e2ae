/-
 X, part 6: copies, slices, addresses, literals.
-/
import Derived.Test.YtoieblpjklbmoaaX5
import Derived.Great.BuildSlice
import Derived.Laws.MakeOwn
import Derived.Laws.Slices
namespace Go.Lg
section
variable {P : Program} {B : Nat → Prop} {β : Nat → Nat × Nat} {H : Heap} {w : World}
theorem nmin (a b : Nat) : Nat.min a b = min a b := rfl
theorem copy_sound (hst : StR B β H w) {d s : C} {ud us : Value} (hd : Rep B β H w d ud) (hs : Rep B β H w s us) {t ty : TypeId} {ts : Array TypeId} (hts : ts[0]? = some t) {k : Nat} {H' : Heap} (h : copyX P H t d s = some (k, H')) :
  ∃ w', (Builtin.copy_ ts ty #[ud, us]).run P w = .ok (goInt k) w' ∧ StR B β H' w' ∧ Stp β H w β H' w' := by
 unfold copyX at h
 simp only [kB] at h
 obtain ⟨e, he, sz, hsz, ⟨cs, m, pure_⟩, hcs, h⟩ := h
 simp only at h
 have ht := elemT_under he
 obtain ⟨xs, hr, his, himm⟩ := slCells_sound (P := P) hst hs hcs
 obtain ⟨⟨sa, sc, rfl, _⟩, hxl, _, hfk, _⟩ := his
 cases d with
 | sl b nil capd cells n =>
  cases nil with
  | false => cases h
  | true =>
   simp only [kI, kP] at h
   obtain ⟨rfl, rfl⟩ := h
   obtain ⟨a, cap, ys, rfl, ho, _⟩ := hd
   obtain ⟨rfl, rfl, rfl⟩ := ho.nil1 rfl
   have := hfk 0 (Nat.zero_le _)
   refine ⟨w, ?_, hst, Stp.refl _ _ _⟩
   simp at this
   simp [Builtin.copy_, hts, run_underlying ht, run_szT hsz, Builtin.lenOf, this, goInt]
 | row id st off len capd =>
  obtain ⟨pu, mu, d, st', sz', cells, ho, hle, _, hh⟩ := hd
  simp only [ho] at h
  cases mu with
  | false => cases h
  | true =>
   simp only [kR, kI, kP] at h
   obtain ⟨⟨rfl, rfl, hd, hl, hpp, hlive⟩, rfl, rfl⟩ := h
   obtain ⟨_, _, a, cap, rfl, h1, h2, h3, h4⟩ := hh rfl
   obtain ⟨g1, g2, g3, g4, arr, et, hb, hasz, ha⟩ := hst.live id _ ho
   have hk1 : min m len ≤ m := Nat.min_le_left _ _
   have hk2 : min m len ≤ len := Nat.min_le_right _ _
   have hrk := hr.take (min m len * sz)
   have hkl : (cs.take (min m len * sz)).length = min m len * sz := by
    rw [List.length_take, ← hr.length, hxl, Nat.min_eq_left (Nat.mul_le_mul_right _ hk1)]
   have hkx : (xs.take (min m len * sz)).length = min m len * sz := by rw [hrk.length, hkl]
   have hfit : (off - d) * sz + min m len * sz ≤ cells.length := by
    rw [g3, ← Nat.add_mul]; exact Nat.mul_le_mul_right _ (by omega)
   have hfa : (β id).2 + (off - d) * sz + (xs.take (min m len * sz)).length ≤ arr.toList.length := by
    rw [hkx, show arr.toList.length = arr.size from Array.length_toList]; omega
   have hf := hfk (min m len) hk1
   have hrun : (Builtin.copy_ ts ty #[.slice (some a) len cap, .slice sa m sc]).run P w = .ok (goInt (min m len : Nat)) (w.setRow (β id).1 (splice ((β id).2 + (off - d) * sz) (xs.take (min m len * sz)) arr.toList).toArray) := by
    by_cases hz : min m len = 0
    ·rw [hz] at hf
     simp at hf
     have : (splice ((β id).2 + (off - d) * sz) ([] : List Value) arr.toList).toArray = arr := by simp [splice]
     rw [hz, Nat.zero_mul, List.take_zero, this, setRow_self w _ arr et (0, 0) hb]
     simp [Builtin.copy_, hts, run_underlying ht, run_szT hsz, Builtin.lenOf, nmin, hz, hf, storeCells]
    ·have hcap : 0 < cap := by omega
     have haddr := h3 hcap
     subst haddr
     have hone : ∀ v ∈ xs.take (min m len * sz), v.oneCell' = true := fun v hv => by
      obtain ⟨c, hc, hr⟩ := hrk.mem hv
      exact rep_one hr (List.all_eq_true.1 hlive c (List.mem_of_mem_take hc))
     have hst' := run_storeCells_at P (β id).1 ((β id).2 + (off - d) * sz) et (xs.take (min m len * sz)) 0 arr w hb (by simpa using hfa) hone
     simp only [Nat.add_zero] at hst'
     simp [Builtin.copy_, hts, run_underlying ht, run_szT hsz, Builtin.lenOf, nmin, hf, hst', splice]
   have turn : Turn β w id (.row pu true d st sz cells) (β id) (.row pu true d st sz (splice ((off - d) * sz) (cs.take (min m len * sz)) cells)) (w.setRow (β id).1 (splice ((β id).2 + (off - d) * sz) (xs.take (min m len * sz)) arr.toList).toArray) := by
    refine setRow_turn rfl ⟨rfl, rfl, Nat.le_refl _, fun _ => ⟨rfl, rfl, fun arr' e' fr' h => ?_⟩⟩
    rw [hb] at h
    simp only [kI, Obj.cells.injEq] at h
    obtain ⟨rfl, rfl, _⟩ := h
    exact ⟨_, _, _, setRow_heap w _ _ _ _ _ hb, by rw [List.size_toArray, length_splice hfa]; simp⟩
   have stp := turn.stp hst ho
   rw [upd_self] at stp
   have str := turn.str hst ho (by simpa using hst.inb id _ ho (by rfl))
   rw [upd_self] at str
   refine ⟨_, hrun, str ⟨g1, g2, by rw [length_splice (by omega)]; exact g3, fun hp => ?_, _, et, setRow_heap w _ _ _ _ _ hb, ?_, ?_⟩, stp⟩
   ·rw [List.all_eq_true]
    intro y hy
    unfold splice at hy
    simp only [List.mem_append] at hy
    rcases hy with (hy | hy) | hy
    ·exact List.all_eq_true.1 (g4 hp) y (List.mem_of_mem_take hy)
    ·exact List.all_eq_true.1 (himm (hpp hp)) y (List.mem_of_mem_take hy)
    ·exact List.all_eq_true.1 (g4 hp) y (List.mem_of_mem_drop hy)
   ·rw [length_splice (by omega), List.size_toArray, length_splice hfa]
    simpa using hasz
   ·rw [length_splice (by omega)]
    simp only
    rw [sub_splice (by omega) (by simpa using hasz)]
    exact (ha.splice hrk _).mono fun _ _ => Rep.mono stp
 | _ => simp only at h; cases h
/-! ### Slices of slices and strings -/
theorem run_slice3 {t e : TypeId} {sz : Nat} (ht : P.underlying t = some (.slice e)) (hsz : szT P e = some sz) {a : Option Addr} {len cap l h m : Nat} {lo hi mx : Option Value}
  (hlo : (lo = none ∧ l = 0) ∨ ∃ k, lo = some (.int k l)) (hhi : (hi = none ∧ mx = none ∧ h = len) ∨ ∃ k, hi = some (.int k h)) (hmx : (mx = none ∧ m = cap) ∨ ∃ k, mx = some (.int k m))
  (h1 : l ≤ h) (h2 : h ≤ m) (h3 : m ≤ cap) :
  (Instr.sliceAt t (.slice a len cap) lo hi mx).run P w = .ok (.slice (if m = l then a else a.map (·.add (l * sz))) (h - l) (m - l)) w := by
 have b1 : ∀ k (y : Nat) c, l ≤ y → (Instr.sliceBound (.int k (l : Int)) y c).run P w = .ok l w := fun k y c hy => by rw [run_sliceBound w k l y c (by omega) (by omega)]; simp
 have b2 : ∀ k (y : Nat) c, h ≤ y → (Instr.sliceBound (.int k (h : Int)) y c).run P w = .ok h w := fun k y c hy => by rw [run_sliceBound w k h y c (by omega) (by omega)]; simp
 have b3 : ∀ k (y : Nat) c, m ≤ y → (Instr.sliceBound (.int k (m : Int)) y c).run P w = .ok m w := fun k y c hy => by rw [run_sliceBound w k m y c (by omega) (by omega)]; simp
 rcases hmx with ⟨rfl, rfl⟩ | ⟨km, rfl⟩
 ·rcases hhi with ⟨rfl, _, rfl⟩ | ⟨kh, rfl⟩ <;> rcases hlo with ⟨rfl, rfl⟩ | ⟨kl, rfl⟩ <;>
   simp [Instr.sliceAt, Instr.slice, Instr.sliceBounds, run_underlying ht, run_szT hsz, b1, b2, h1, h2]
 ·rcases hhi with ⟨_, hc, _⟩ | ⟨kh, rfl⟩
  ·cases hc
  ·rcases hlo with ⟨rfl, rfl⟩ | ⟨kl, rfl⟩ <;>
    simp [Instr.sliceAt, Instr.slice, Instr.sliceBounds, run_underlying ht, run_szT hsz, b1, b2, b3, h1, h2, h3]
/-- An operand that may be missing. -/
inductive OptR (B : Nat → Prop) (β : Nat → Nat × Nat) (H : Heap) (w : World) : Option X → Option Value → Prop where
 | none : OptR B β H w none none
 | some {x : X} {v : Value} : RepX B β H w x v → OptR B β H w (some x) (some v)
theorem optInt {lo : Option X} {lv : Option Value} (hlo : OptR B β H w lo lv) {d l : Int} (h : optI d lo = some l) : (lv = none ∧ lo = none ∧ l = d) ∨ ∃ k, lv = some (.int k l) := by
 cases hlo with
 | none => simp only [optI, kI] at h; exact .inl ⟨rfl, rfl, h.symm⟩
 | some hr =>
  simp only [optI] at h
  obtain ⟨k, rfl⟩ := repX_int hr h
  exact .inr ⟨k, rfl⟩
theorem capInt {mx : Option X} {mv : Option Value} (hmx : OptR B β H w mx mv) {h : Int} {hi dflt cd : Bool} (e : capI h hi dflt mx = some cd) :
  (mv = none ∧ mx = none ∧ cd = dflt) ∨ ((∃ k, mv = some (.int k h)) ∧ hi = true ∧ cd = true ∧ mx.isNone = false) := by
 cases hmx with
 | none => simp only [capI, kI] at e; exact .inl ⟨rfl, rfl, e.symm⟩
 | some hr =>
  simp only [capI, kB, kR, kI] at e
  obtain ⟨m, hm, ⟨rfl, hhi⟩, rfl⟩ := e
  obtain ⟨k, rfl⟩ := repX_int hr hm
  exact .inr ⟨⟨k, rfl⟩, hhi, rfl, rfl⟩
theorem run_slice_str {t : TypeId} (hu : P.underlying t = some .string) {s : ByteArray} {l h : Int} {lv hv : Option Value} (h0 : 0 ≤ l) (h1 : l ≤ h) (h2 : h ≤ s.size)
  (hl : (lv = none ∧ l = 0) ∨ ∃ k, lv = some (.int k l)) (hh : (hv = none ∧ h = s.size) ∨ ∃ k, hv = some (.int k h)) :
  (Instr.sliceAt t (.string s) lv hv none).run P w = .ok (.string (s.extract l.toNat h.toNat)) w := by
 have b1 : ∀ k (y : Nat) c, l ≤ y → (Instr.sliceBound (.int k l) y c).run P w = .ok l.toNat w := fun k y c hy => run_sliceBound w k l y c h0 hy
 have b2 : ∀ k (y : Nat) c, h ≤ y → (Instr.sliceBound (.int k h) y c).run P w = .ok h.toNat w := fun k y c hy => run_sliceBound w k h y c (by omega) hy
 have h1' : l ≤ (h.toNat : Int) := by omega
 have hm : max h 0 = h := by omega
 rcases hl with ⟨rfl, rfl⟩ | ⟨kl, rfl⟩ <;> rcases hh with ⟨rfl, rfl⟩ | ⟨kh, rfl⟩
 ·simp [Instr.sliceAt, Instr.slice, Instr.sliceBounds, run_underlying hu]
 ·simp [Instr.sliceAt, Instr.slice, Instr.sliceBounds, run_underlying hu, b2 _ _ _ h2]
 ·simp [Instr.sliceAt, Instr.slice, Instr.sliceBounds, run_underlying hu, b1 _ _ _ h1]
 ·simp [Instr.sliceAt, Instr.slice, Instr.sliceBounds, run_underlying hu, b2 _ _ _ h2, b1 _ _ _ h1']
theorem slice_sl {t e : TypeId} {sz : Nat} (ht : P.underlying t = some (.slice e)) (hsz : szT P e = some sz) {b nil capd cd : Bool} {cs : List C} {n : Nat} {u : Value} (hr : Rep B β H w (.sl b nil capd cs n) u) {l h : Nat}
  {lv hv mv : Option Value} (hl : (lv = none ∧ l = 0) ∨ ∃ k, lv = some (.int k l)) (hh : (hv = none ∧ mv = none ∧ h = n) ∨ ∃ k, hv = some (.int k h))
  (hm : (mv = none ∧ cd = (capd && decide (h = n))) ∨ ((∃ k, mv = some (.int k h)) ∧ cd = true)) (h1 : l ≤ h) (h2 : h ≤ n) (hcl : cs.length = n * sz) :
  ∃ v, (Instr.sliceAt t u lv hv mv).run P w = .ok v w ∧ Rep B β H w (.sl b nil cd (sub (l * sz) ((h - l) * sz) cs) (h - l)) v := by
 obtain ⟨a, cap, xs, rfl, ho, hx⟩ := hr
 have hxl := (repIL_iff.1 hx).length
 have hle := ho.le
 obtain ⟨m, hm1, hm2, hm3, hm4⟩ : ∃ m : Nat, h ≤ m ∧ m ≤ cap ∧ (cd = true → m = h) ∧ ((mv = none ∧ m = cap) ∨ ∃ k, mv = some (.int k (m : Int))) := by
  rcases hm with ⟨rfl, rfl⟩ | ⟨⟨k, rfl⟩, rfl⟩
  ·refine ⟨cap, by omega, Nat.le_refl _, fun hc => ?_, .inl ⟨rfl, rfl⟩⟩
   simp only [kA, decide_eq_true_eq] at hc
   have := ho.capd hc.1
   omega
  ·exact ⟨h, Nat.le_refl _, by omega, fun _ => rfl, .inr ⟨k, rfl⟩⟩
 have hrun := run_slice3 (P := P) (w := w) ht hsz (a := a) (len := n) (cap := cap) hl hh hm4 h1 hm1 hm2
 refine ⟨_, hrun, _, _, sub (l * sz) ((h - l) * sz) xs, rfl, ⟨fun hn => ?_, fun hn => ?_, fun hc => by rw [hm3 hc], by omega, fun hne => ?_⟩, ?_⟩
 ·obtain ⟨rfl, rfl, rfl⟩ := ho.nil1 hn
  exact ⟨by simp, by omega, by omega⟩
 ·have := ho.nil0 hn
  split <;> simp [this]
 ·have hpos : 0 < (h - l) * sz := by
   rcases Nat.eq_zero_or_pos ((h - l) * sz) with h | h
   ·exfalso; apply hne; simp [sub, h]
   ·exact h
  have hlt : l < h := by
   rcases Nat.lt_or_ge l h with h | h
   ·exact h
   ·rw [Nat.sub_eq_zero_of_le h] at hpos; simp at hpos
  have hxne : xs ≠ [] := fun e => hne (by simp [sub, e])
  obtain ⟨ad, rfl, hs, hS, hc⟩ := ho.cells hxne
  obtain ⟨ab, ao, as⟩ := ad
  simp only at hs; subst hs
  rw [if_neg (by omega)]
  refine ⟨⟨ab, ao + l * sz, none⟩, by simp [Addr.add_lit], rfl, hS, fun j x hj => ?_⟩
  simp only
  unfold sub at hj
  rw [List.getElem?_take] at hj
  split at hj
  ·rw [List.getElem?_drop] at hj
   rw [Nat.add_assoc]
   exact hc _ x hj
  ·cases hj
 ·exact repIL_iff.2 (((repIL_iff.1 hx).drop _).take _)
theorem slice_row (hst : StR B β H w) {t e : TypeId} {sz : Nat} (ht : P.underlying t = some (.slice e)) (hsz : szT P e = some sz) {id st off len : Nat} {capd cd : Bool} {u : Value} (hr : Rep B β H w (.row id st off len capd) u)
  {pu mu : Bool} {d : Nat} {cs : List C} (ho : H[id]? = some (.row pu mu d st sz cs)) {l h : Nat}
  {lv hv mv : Option Value} (hl : (lv = none ∧ l = 0) ∨ ∃ k, lv = some (.int k l)) (hh : (hv = none ∧ mv = none ∧ h = len) ∨ ∃ k, hv = some (.int k h))
  (hm : (mv = none ∧ cd = capd ∧ (capd = true → h = len)) ∨ ((∃ k, mv = some (.int k h)) ∧ cd = true)) (h1 : l ≤ h) (h2 : if capd then h ≤ len else off + h ≤ st) (hd : d ≤ off) :
  ∃ v, (Instr.sliceAt t u lv hv mv).run P w = .ok v w ∧ Rep B β H w (.row id st (off + l) (h - l) cd) v := by
 obtain ⟨pu', mu', d', st', sz', cs', ho', hle, _, hhd⟩ := hr
 rw [ho] at ho'
 simp only [kI, O.row.injEq] at ho'
 obtain ⟨rfl, rfl, rfl, rfl, rfl, rfl⟩ := ho'
 obtain ⟨_, k2, a, cap, rfl, k3, k4, k5, k6⟩ := hhd rfl
 obtain ⟨g1, g2, g3, g4, arr, et, hb, hasz, ha⟩ := hst.live id _ ho
 have hcap : h ≤ cap ∧ off + h ≤ st := by
  cases hc : capd with
  | true => rw [hc] at h2; simp only [if_true] at h2; omega
  | false =>
   rw [hc] at h2
   simp only [Bool.false_eq_true, if_false] at h2
   obtain ⟨arr', e', fr', hb', hs'⟩ := k6 hc
   rw [hb] at hb'
   simp only [kI, Obj.cells.injEq] at hb'
   obtain ⟨rfl, _, _⟩ := hb'
   rw [hs', g3] at hasz
   have : (st - d) * sz ≤ (off - d + cap) * sz := by omega
   have := Nat.le_of_mul_le_mul_right this g1
   exact ⟨by omega, h2⟩
 obtain ⟨m, hm1, hm2, hm3, hm4⟩ : ∃ m : Nat, h ≤ m ∧ m ≤ cap ∧ (cd = true → m = h) ∧ ((mv = none ∧ m = cap) ∨ ∃ k, mv = some (.int k (m : Int))) := by
  rcases hm with ⟨rfl, rfl, h5⟩ | ⟨⟨k, rfl⟩, rfl⟩
  ·refine ⟨cap, hcap.1, Nat.le_refl _, fun hc => ?_, .inl ⟨rfl, rfl⟩⟩
   have := k4 hc
   have := h5 hc
   omega
  ·exact ⟨h, Nat.le_refl _, hcap.1, fun _ => rfl, .inr ⟨k, rfl⟩⟩
 have hrun := run_slice3 (P := P) (w := w) ht hsz (a := some a) (len := len) (cap := cap) hl hh hm4 h1 hm1 hm2
 have haddr : 0 < cap → a = ⟨(β id).1, (β id).2 + (off - d) * sz, none⟩ := k5
 have hsome : ∃ a', (if m = l then some a else (some a).map (·.add (l * sz))) = some a' ∧ (0 < m - l → a' = ⟨(β id).1, (β id).2 + (off + l - d) * sz, none⟩) := by
  by_cases e : m = l
  ·exact ⟨a, by rw [if_pos e], fun h => by omega⟩
  ·refine ⟨a.add (l * sz), by rw [if_neg e]; rfl, fun h => ?_⟩
   rw [haddr (by omega), Addr.add_lit, Nat.add_assoc, ← Nat.add_mul]
   congr 3; omega
 obtain ⟨a', he, ha'⟩ := hsome
 rw [he] at hrun
 refine ⟨_, hrun, pu, mu, d, st, sz, cs, ho, Nat.le_refl _, ⟨_, _, _, rfl⟩, fun _ => ⟨by omega, by omega, a', m - l, rfl, by omega, fun hc => by rw [hm3 hc], ha', fun hc => ?_⟩⟩
 rcases hm with ⟨hmv, rfl, _⟩ | ⟨_, rfl⟩
 ·obtain ⟨arr', e', fr', hb', hs'⟩ := k6 hc
  refine ⟨arr', e', fr', hb', ?_⟩
  rw [hs']
  rcases hm4 with ⟨_, rfl⟩ | ⟨k, hk⟩
  ·congr 2; omega
  ·rw [hmv] at hk; cases hk
 ·cases hc
theorem slice_sound (hst : StR B β H w) {t : TypeId} {x : X} {u : Value} (hx : RepX B β H w x u) {lo hi mx : Option X} {lv hv mv : Option Value}
  (hlo : OptR B β H w lo lv) (hhi : OptR B β H w hi hv) (hmx : OptR B β H w mx mv) {r : X} (h : sliceX P H t x lo hi mx = some r) :
  ∃ v, (Instr.sliceAt t u lv hv mv).run P w = .ok v w ∧ RepX B β H w r v := by
 unfold sliceX at h
 split at h
 ·rename_i s
  simp only [kB, kR, kI] at h
  obtain ⟨l, hl, hh, hhh, ⟨hmn, h0, h1, h2, hs⟩, rfl⟩ := h
  obtain ⟨_, rfl⟩ := hx
  have hu : P.underlying t = some .string := by
   unfold isStrT at hs
   split at hs
   ·assumption
   ·cases hs
  cases hmx with
  | some _ => cases hmn
  | none =>
   refine ⟨_, run_slice_str hu h0 h1 h2 ?_ ?_, rfl, rfl⟩
   ·rcases optInt hlo hl with ⟨e, _, rfl⟩ | e
    ·exact .inl ⟨e, rfl⟩
    ·exact .inr e
   ·rcases optInt hhi hhh with ⟨e, _, rfl⟩ | e
    ·exact .inl ⟨e, rfl⟩
    ·exact .inr e
 ·rename_i b nil capd cs n
  simp only [kB, kR, kI] at h
  obtain ⟨e, he, sz, hsz, l, hl, hh, hhh, cd, hcd, ⟨h0, h1, h2, hcl⟩, rfl⟩ := h
  have e1 : ((l.toNat : Nat) : Int) = l := by omega
  have e2 : ((hh.toNat : Nat) : Int) = hh := by omega
  have hk1 : (lv = none ∧ l.toNat = 0) ∨ ∃ k, lv = some (.int k (l.toNat : Int)) := by
   rw [e1]; rcases optInt hlo hl with ⟨e, _, rfl⟩ | e
   ·exact .inl ⟨e, rfl⟩
   ·exact .inr e
  have hk3 : (mv = none ∧ cd = (capd && decide (hh.toNat = n))) ∨ ((∃ k, mv = some (.int k (hh.toNat : Int))) ∧ cd = true) := by
   rw [e2]; rcases capInt hmx hcd with ⟨e, _, rfl⟩ | ⟨e, _, e', _⟩
   ·exact .inl ⟨e, by congr 1; simp; omega⟩
   ·exact .inr ⟨e, e'⟩
  have hk2 : (hv = none ∧ mv = none ∧ hh.toNat = n) ∨ ∃ k, hv = some (.int k (hh.toNat : Int)) := by
   rw [e2]; rcases optInt hhi hhh with ⟨e, e', rfl⟩ | e
   ·rcases capInt hmx hcd with ⟨e3, _, _⟩ | ⟨_, e4, _, _⟩
    ·exact .inl ⟨e, e3, by omega⟩
    ·rw [e'] at e4; cases e4
   ·exact .inr e
  have := slice_sl (elemT_under he) hsz hx hk1 hk2 hk3 (by omega) (by omega) hcl
  rw [show (hh - l).toNat = hh.toNat - l.toNat by omega]
  exact this
 ·rename_i id st off len capd
  split at h
  ·rename_i pu mu d st' sz' cs ho
   simp only [kB, kR, kI] at h
   obtain ⟨e, he, sz, hsz, l, hl, hh, hhh, cd, hcd, ⟨h0, h1, h2, h3, rfl, rfl, hd⟩, rfl⟩ := h
   have e1 : ((l.toNat : Nat) : Int) = l := by omega
   have e2 : ((hh.toNat : Nat) : Int) = hh := by omega
   have hk1 : (lv = none ∧ l.toNat = 0) ∨ ∃ k, lv = some (.int k (l.toNat : Int)) := by
    rw [e1]
    rcases optInt hlo hl with ⟨e, _, rfl⟩ | e
    ·exact .inl ⟨e, rfl⟩
    ·exact .inr e
   have hk3 : (mv = none ∧ cd = capd ∧ (capd = true → hh.toNat = len)) ∨ ((∃ k, mv = some (.int k (hh.toNat : Int))) ∧ cd = true) := by
    rw [e2]; rcases capInt hmx hcd with ⟨e, em, rfl⟩ | ⟨e, _, e', _⟩
    ·exact .inl ⟨e, rfl, fun hc => by have := h3 (by rw [em]; rfl) hc; omega⟩
    ·exact .inr ⟨e, e'⟩
   have hk2 : (hv = none ∧ mv = none ∧ hh.toNat = len) ∨ ∃ k, hv = some (.int k (hh.toNat : Int)) := by
    rw [e2]; rcases optInt hhi hhh with ⟨e, e', rfl⟩ | e
    ·rcases capInt hmx hcd with ⟨e3, _, _⟩ | ⟨_, e4, _, _⟩
     ·exact .inl ⟨e, e3, by omega⟩
     ·rw [e'] at e4; cases e4
    ·exact .inr e
   have := slice_row hst (elemT_under he) hsz hx ho hk1 hk2 hk3 (by omega) (by split at h2 <;> simp_all <;> omega) hd
   rw [show (hh - l).toNat = hh.toNat - l.toNat by omega]
   exact this
  ·cases h
 ·cases h
/-! ### Addresses -/
theorem addrAdd_sound {c c' : C} {u : Value} (hr : Rep B β H w c u) {n : Nat} (h : addrAdd c n = some c') : ∃ ad, u = .pointer (some ad) ∧ Rep B β H w c' (.pointer (some (ad.add n))) := by
 cases c with
 | ptr id off =>
  simp only [addrAdd, kI] at h; subst h
  obtain ⟨cells, ho, rfl⟩ := hr
  exact ⟨_, rfl, cells, ho, by rw [Addr.add_lit]⟩
 | rd cs =>
  simp only [addrAdd, kI] at h; subst h
  obtain ⟨ad, xs, rfl, hx, hc⟩ := hr
  refine ⟨_, rfl, _, xs.drop n, rfl, repIL_iff.2 ((repIL_iff.1 hx).drop n), fun hne => ?_⟩
  obtain ⟨h1, h2, h3⟩ := hc (fun e => hne (by simp [e]))
  obtain ⟨b, o, s⟩ := ad
  simp only at h1; subst h1
  rw [Addr.add_lit]
  refine ⟨rfl, h2, fun j x hj => ?_⟩
  rw [List.getElem?_drop] at hj
  simp only [Nat.add_assoc]
  exact h3 _ x hj
 | ra id st pos =>
  simp only [addrAdd, kI] at h; subst h
  obtain ⟨pu, mu, d, st', sz, cells, ho, hle, ⟨ad, rfl⟩, hh⟩ := hr
  refine ⟨ad, rfl, pu, mu, d, st', sz, cells, ho, hle, ⟨_, rfl⟩, fun e => ?_⟩
  obtain ⟨h1, h2⟩ := hh e
  simp only [Value.pointer.injEq, kI] at h2
  subst h2
  rw [Addr.add_lit]
  exact ⟨by omega, by congr 3; omega⟩
 | _ => cases h
theorem indexAddr_sound (hst : StR B β H w) {t : TypeId} {c c' : C} {u : Value} (hr : Rep B β H w c u) {n : Int} {k : IntKind} (h : indexAddrX P H t c n = some c') :
  ∃ v, (Instr.indexAt t u (.int k n)).run P w = .ok v w ∧ Rep B β H w c' v := by
 unfold indexAddrX at h
 split at h
 ·rename_i len e ht
  simp only [kB, kR] at h
  obtain ⟨sz, hsz, ⟨h0, h1⟩, h⟩ := h
  obtain ⟨ad, rfl, hr'⟩ := addrAdd_sound hr h
  refine ⟨_, ?_, hr'⟩
  simp [Instr.indexAt, asIntOf, run_underlying ht, Instr.sureAddr, h0, h1, run_szT hsz]
 ·rename_i e ht
  simp only [kB] at h
  obtain ⟨sz, hsz, h⟩ := h
  cases c with
  | sl b nil capd cs m =>
   simp only [kR, kI] at h
   obtain ⟨⟨h0, h1, h2, h3⟩, rfl⟩ := h
   obtain ⟨a, cap, xs, rfl, ho, hx⟩ := hr
   have hxl := (repIL_iff.1 hx).length
   have hmul : n.toNat * sz + sz ≤ m * sz := by rw [← Nat.succ_mul]; exact Nat.mul_le_mul_right _ (by omega)
   have hne : xs ≠ [] := fun e => by subst e; simp only [List.length_nil] at hxl; omega
   obtain ⟨ad, rfl, hs, hS, hc⟩ := ho.cells hne
   obtain ⟨b', o, s⟩ := ad
   simp only at hs; subst hs
   refine ⟨.pointer (some ⟨b', o + n.toNat * sz, none⟩), ?_, _, xs.drop (n.toNat * sz), rfl, repIL_iff.2 ((repIL_iff.1 hx).drop _), fun _ => ⟨rfl, hS.1, fun j x hj => ?_⟩⟩
   ·simp [Instr.indexAt, asIntOf, run_underlying ht, h0, h1, run_szT hsz, Addr.add_lit]
   ·rw [List.getElem?_drop] at hj
    simp only [Nat.add_assoc]
    exact hc _ x hj
  | row id st off len capd =>
   simp only at h
   obtain ⟨pu, mu, d, st', sz', cells, ho, hle, _, hh⟩ := hr
   simp only [ho, kR, kI] at h
   obtain ⟨⟨h0, h1, rfl, rfl, h4, h5⟩, rfl⟩ := h
   obtain ⟨_, _, a, cap, rfl, k1, k2, k3, k4⟩ := hh rfl
   have haddr := k3 (by omega)
   subst haddr
   refine ⟨.pointer (some ⟨(β id).1, (β id).2 + (off - d) * sz + n.toNat * sz, none⟩), ?_, pu, mu, d, st, sz, cells, ho, Nat.le_refl _, ⟨_, rfl⟩, fun _ => ⟨Nat.mul_le_mul_right _ (by omega), ?_⟩⟩
   ·simp [Instr.indexAt, asIntOf, run_underlying ht, h0, h1, run_szT hsz, Addr.add_lit]
   ·congr 3
    rw [← Nat.sub_mul, Nat.add_assoc, ← Nat.add_mul]; congr 2; omega
  | _ => simp only at h; cases h
 ·cases h
theorem fieldAddr_sound {t : TypeId} {c c' : C} {u : Value} (hr : Rep B β H w c u) {j sz : Nat} {f : Field} (hf : fieldsOf P t j = some f) (hsz : szT P f.type = some sz) (h0 : 0 < sz) (h : addrAdd c f.offset = some c') :
  ∃ v, (Instr.fieldAt t u j).run P w = .ok v w ∧ Rep B β H w c' v := by
 obtain ⟨ad, rfl, hr'⟩ := addrAdd_sound hr h
 refine ⟨_, ?_, hr'⟩
 unfold fieldsOf at hf
 split at hf
 ·rename_i fs hu
  have h0' : sz ≠ 0 := by omega
  simp [Instr.fieldAt, run_underlying hu, hf, Instr.sureAddr, fieldPlace, run_szT hsz, h0']
 ·cases hf
/-! ### Literals -/
theorem fold_splice {off : Nat} : ∀ (l : List Value) (k : Nat) (arr : Array Value), off + k + l.length ≤ arr.size →
  ((l.zipIdx k).foldl (fun cs (x : Value × Nat) => cs.setIfInBounds (off + x.2) x.1) arr).toList = splice (off + k) l arr.toList := by
 intro l
 induction l with
 | nil => intro k arr _; simp [splice]
 | cons v l ih =>
  intro k arr h
  simp only [List.length_cons] at h
  rw [List.zipIdx_cons, List.foldl_cons, ih (k + 1) _ (by simp; omega)]
  have hl : arr.toList.length = arr.size := Array.length_toList
  apply List.ext_getElem?
  intro j
  rw [getElem?_splice (by simp; omega), getElem?_splice (by simp; omega)]
  simp only [Array.toList_setIfInBounds, List.length_cons]
  rw [List.getElem?_set]
  by_cases h1 : j < off + k
  ·rw [if_pos (by omega), if_pos h1, if_neg (by omega)]
  ·rw [if_neg h1]
   by_cases h2 : j = off + k
   ·subst h2
    rw [if_pos (by omega), if_pos rfl, if_pos (by omega), if_pos (by omega)]
    simp
   ·rw [if_neg (by omega)]
    by_cases h3 : j < off + k + (l.length + 1)
    ·rw [if_pos (by omega), if_pos h3]
     rw [show j - (off + k) = (j - (off + (k + 1))) + 1 by omega, List.getElem?_cons_succ]
    ·rw [if_neg (by omega), if_neg h3, if_neg (by omega)]
theorem fill_sound {place place' : Nat → Option (Nat × Nat)} (hp : ∀ i p, place i = some p → place' i = some p) : ∀ {ps : List (Nat × X)} {vs : List (Nat × Value)} {cs cs' : List C} {arr : Array Value},
  All2 (Rep B β H w) cs arr.toList → All2 (fun (p : Nat × X) (q : Nat × Value) => p.1 = q.1 ∧ RepX B β H w p.2 q.2) ps vs → fillX place cs ps = some cs' →
  ∃ arr', Instr.fill place' arr vs = some arr' ∧ All2 (Rep B β H w) cs' arr'.toList := by
 intro ps
 induction ps with
 | nil =>
  intro vs cs cs' arr ha hp' h
  cases hp'
  simp only [fillX, kI] at h
  subst h
  exact ⟨arr, rfl, ha⟩
 | cons p ps ih =>
  intro vs cs cs' arr ha hp' h
  cases hp' with
  | @cons _ q _ vs' r t =>
   obtain ⟨i, x⟩ := p
   obtain ⟨i', v⟩ := q
   obtain ⟨hi, hr⟩ := r
   simp only at hi hr
   subst hi
   simp only [fillX, kB, kR] at h
   obtain ⟨⟨off, sz⟩, hpl, y, hy, ⟨h1, h2, h3⟩, h⟩ := h
   obtain ⟨hc, _⟩ := repY_cells (repX_y hr hy) h3
   have hcl := hc.length
   have hal := ha.length
   have hn : ¬ (v.cells.size ≠ sz ∨ off + v.cells.size > arr.size) := by
    have e1 : v.cells.toList.length = v.cells.size := Array.length_toList
    have e2 : arr.toList.length = arr.size := Array.length_toList
    omega
   have hset : (v.cells.zipIdx.foldl (fun cs (x : Value × Nat) => cs.setIfInBounds (off + x.2) x.1) arr).toList = splice off v.cells.toList arr.toList := by
    have := fold_splice (off := off) v.cells.toList 0 arr (by
     have e1 : v.cells.toList.length = v.cells.size := Array.length_toList
     have e2 : arr.toList.length = arr.size := Array.length_toList
     omega)
    rw [← Array.foldl_toList, Array.toList_zipIdx]
    exact this
   obtain ⟨arr', h4, h5⟩ := ih (arr := v.cells.zipIdx.foldl (fun cs (x : Value × Nat) => cs.setIfInBounds (off + x.2) x.1) arr) (by rw [hset]; exact ha.splice hc off) t h
   refine ⟨arr', ?_, h5⟩
   simp only [Instr.fill, hp i _ hpl]
   rw [if_neg (by simpa using hn)]
   exact h4
end
end Go.Lg
