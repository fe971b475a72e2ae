/-
 X, part 5: stores, appends, copies, slices, indexes, literals.
-/
import Derived.Test.YtoieblpjklbmoaaX4
namespace Go.Lg
section
variable {P : Program} {B : Nat → Prop} {β : Nat → Nat × Nat} {H : Heap} {w : World}
/-- A store into a block of the heap's. -/
theorem storeAt_run {t : TypeId} {b p : Nat} {x : Value} {arr : Array Value} {e : TypeId} (hsz : szT P t = some x.cells.toList.length) (hb : w.heap[b]? = some (.cells arr e (0, 0)))
  (hl : p + x.cells.toList.length ≤ arr.toList.length) (h1 : ∀ v ∈ x.cells.toList, v.oneCell' = true) :
  (Instr.storeAt t (.pointer (some ⟨b, p, none⟩)) x).run P w = .ok () (w.setRow b (splice p x.cells.toList arr.toList).toArray) := by
 have hst := run_storeCells_at P b p e x.cells.toList 0 arr w hb (by simpa using hl) h1
 unfold Instr.storeAt storeVar
 simp only [Instr.sureAddr, Sem.run_bind, Sem.run_pure, Result.andThen_ok, run_szT hsz]
 simp only [Nat.add_zero] at hst
 simp [hst, splice]
theorem setRow_turn {id : Nat} {o o' : O} {xs : Array Value} (hm : o.mut = true)
  (hk : Kept w (w.setRow (β id).1 xs) (β id) (β id) o o') : Turn β w id o (β id) o' (w.setRow (β id).1 xs) :=
 ⟨rfl, rfl, rfl, by simp, fun b _ h => by
  rcases h with h | h
  ·exact setRow_other w _ _ _ h
  ·rw [hm] at h; exact absurd h (by simp), .inl rfl, fun _ => hm, hk, O.there_mut hm⟩
theorem st_sound (hst : StR B β H w) {t : TypeId} {c : C} {u x : Value} {v : Y} (hr : Rep B β H w c u) (hv : RepY B β H w v x) (hsz : szT P t = some v.cells.length) {H' : Heap} (h : stCells H c v.cells = some H') :
  ∃ w', (Instr.storeAt t u x).run P w = .ok () w' ∧ StR B β H' w' ∧ Stp β H w β H' w' := by
 unfold stCells at h
 simp only [kR] at h
 obtain ⟨hlive, h⟩ := h
 obtain ⟨hcs, hone⟩ := repY_cells hv hlive
 have hlen := hcs.length
 rw [← hlen] at hsz
 cases c with
 | ptr id off =>
  simp only at h
  obtain ⟨cells, ho, rfl⟩ := hr
  rw [ho] at h
  simp only [kR, kI] at h
  obtain ⟨hl, rfl⟩ := h
  obtain ⟨h0, arr, e, hb, ha⟩ := hst.live id _ ho
  have halen := ha.length
  have turn : Turn β w id (.obj cells) (β id) (.obj (splice off v.cells cells)) (w.setRow (β id).1 (splice off x.cells.toList arr.toList).toArray) :=
   setRow_turn rfl ⟨length_splice (by omega), rfl⟩
  have stp := turn.stp hst ho
  rw [upd_self] at stp
  refine ⟨_, storeAt_run hsz hb (by omega) hone, ?_, stp⟩
  have := turn.str hst ho (by simpa using hst.inb id _ ho (by rfl))
  rw [upd_self] at this
  refine this ⟨h0, _, e, setRow_heap w _ _ _ _ _ hb, ?_⟩
  simpa using (ha.splice hcs off).mono fun _ _ => Rep.mono stp
 | ra id st pos =>
  simp only at h
  obtain ⟨pu, mu, d, st', sz, cells, ho, hle, _, hh⟩ := hr
  rw [ho] at h
  have main : ∀ {H1 : Heap} {new : List C} {mu : Bool} {d st' sz : Nat} {cells : List C}, StR B β H1 w → Stp β H w β H1 w → H1[id]? = some (.row pu mu d st' sz cells) → All2 (Rep B β H1 w) new x.cells.toList → (pu = true → new.all C.imm = true) →
    (st = st' → d * sz ≤ pos ∧ u = .pointer (some ⟨(β id).1, (β id).2 + (pos - d * sz), none⟩)) → mu = true → st = st' → pos - d * sz + new.length ≤ cells.length →
    ∃ w', (Instr.storeAt t u x).run P w = .ok () w' ∧ StR B β (H1.set id (.row pu true d st' sz (splice (pos - d * sz) new cells))) w' ∧ Stp β H w β (H1.set id (.row pu true d st' sz (splice (pos - d * sz) new cells))) w' := by
   intro H1 new mu d st' sz cells hst1 stp1 ho hnew himm hh hmu hs hl
   subst hmu
   subst hs
   obtain ⟨hd, rfl⟩ := hh rfl
   obtain ⟨g1, g2, g3, g4, arr, e, hb, hsz', ha⟩ := hst1.live id _ ho
   have hn := hnew.length
   have hn' : x.cells.size = new.length := by simpa using hn
   have turn : Turn β w id (.row pu true d st sz cells) (β id) (.row pu true d st sz (splice (pos - d * sz) new cells)) (w.setRow (β id).1 (splice ((β id).2 + (pos - d * sz)) x.cells.toList arr.toList).toArray) := by
    refine setRow_turn rfl ⟨rfl, rfl, Nat.le_refl _, fun _ => ⟨rfl, rfl, fun arr' e' fr' h => ?_⟩⟩
    rw [hb] at h
    simp only [kI, Obj.cells.injEq] at h
    obtain ⟨rfl, rfl, _⟩ := h
    exact ⟨_, _, _, setRow_heap w _ _ _ _ _ hb, by simp only [List.size_toArray]; rw [length_splice (by simp; omega)]; simp⟩
   have stp := turn.stp hst1 ho
   rw [upd_self] at stp
   refine ⟨_, storeAt_run hsz hb (by simp; omega) hone, ?_, stp1.trans stp⟩
   have := turn.str hst1 ho (by simpa using hst1.inb id _ ho (by rfl))
   rw [upd_self] at this
   refine this ⟨g1, g2, by rw [length_splice (by omega)]; exact g3, fun hp => ?_, _, e, setRow_heap w _ _ _ _ _ hb, ?_, ?_⟩
   ·rw [List.all_eq_true]
    intro y hy
    unfold splice at hy
    simp only [List.mem_append] at hy
    rcases hy with (hy | hy) | hy
    ·exact List.all_eq_true.1 (g4 hp) y (List.mem_of_mem_take hy)
    ·exact List.all_eq_true.1 (himm hp) y hy
    ·exact List.all_eq_true.1 (g4 hp) y (List.mem_of_mem_drop hy)
   ·rw [length_splice (by omega)]
    simp only [List.size_toArray]
    rw [length_splice (by simp; omega)]
    simpa using hsz'
   ·rw [length_splice (by omega)]
    simp only
    rw [sub_splice (by omega) (by simpa using hsz')]
    exact (ha.splice hnew _).mono fun _ _ => Rep.mono stp
  cases pu with
  | false =>
   cases mu with
   | false => cases h
   | true =>
    simp only [kR, kI] at h
    obtain ⟨⟨hs, hd, hl⟩, rfl⟩ := h
    exact main hst (Stp.refl _ _ _) ho hcs (fun h => by cases h) hh rfl hs hl
  | true =>
   simp only [kB] at h
   obtain ⟨⟨new, H1⟩, him, h⟩ := h
   obtain ⟨hst1, stp1, hnew, himm, hnl, _⟩ := immL_sound hst hcs him
   obtain ⟨mu', d', st'', cs', ho', hle', hk⟩ := stp1.row ho
   simp only [ho'] at h
   cases mu' with
   | false => cases h
   | true =>
    simp only [kR, kI] at h
    obtain ⟨⟨hs, hd, hl⟩, rfl⟩ := h
    refine main hst1 stp1 ho' hnew (fun _ => himm) (fun e => ?_) rfl hs hl
    have e' : st = st' := by omega
    obtain ⟨_, hd', _⟩ := hk (by omega)
    rw [hd']
    exact hh e'
 | _ => simp only at h; cases h
/-! ### A slice's cells -/
theorem repI_imm {S : Nat → Prop} {c : C} {u : Value} (h : RepI S w c u) : c.imm = true := by
 cases c with
 | sc v => rfl
 | sl b nil capd cells n => simp only [RepI] at h; obtain ⟨rfl, _⟩ := h; rfl
 | _ => simp only [RepI] at h
theorem repIL_imm {S : Nat → Prop} {cs : List C} {us : List Value} (h : RepIL S w cs us) : cs.all C.imm = true := by
 rw [List.all_eq_true]
 intro c hc
 obtain ⟨j, hj⟩ := List.getElem?_of_mem hc
 obtain ⟨x, _, hx⟩ := (repIL_iff.1 h).get hj
 exact repI_imm hx
/-- What a slice is: its value, the cells that it leads to. -/
structure IsSl (P : Program) (w : World) (sz n : Nat) (xs : List Value) (u : Value) : Prop where
 eq : ∃ a cap, u = .slice a n cap ∧ n ≤ cap
 len : xs.length = n * sz
 first : ∀ w' : World, w'.heap = w.heap → (Builtin.firstCells sz n u).run P w' = .ok xs.toArray w'
 firstk : ∀ k, k ≤ n → (Builtin.firstCells sz k u).run P w = .ok (xs.take (k * sz)).toArray w
 at_ : xs ≠ [] → ∃ ad cap, u = .slice (some ad) n cap ∧ ∀ j x, xs[j]? = some x → w.cell? (ad.add j) = some x
theorem isSl_mk {a : Option Addr} {n cap sz : Nat} {xs : List Value} (hle : n ≤ cap) (hl : xs.length = n * sz)
  (hc : xs ≠ [] → ∃ ad : Addr, a = some ad ∧ ∀ j x, xs[j]? = some x → w.cell? (ad.add j) = some x) : IsSl P w sz n xs (.slice a n cap) := by
 have key : ∀ (w' : World) k, w'.heap = w.heap → k ≤ n → (Builtin.firstCells sz k (.slice a n cap)).run P w' = .ok (xs.take (k * sz)).toArray w' := by
  intro w' k hw hk
  have hkl : k * sz ≤ xs.length := by rw [hl]; exact Nat.mul_le_mul_right _ hk
  by_cases hx : xs.take (k * sz) = []
  ·have hk0 : k * sz = 0 := by
    have := congrArg List.length hx
    rw [List.length_take, List.length_nil] at this
    omega
   cases a with
   | none => simp [Builtin.firstCells, hk0]
   | some ad => simp [Builtin.firstCells, hk0, loadCells, loadCellsFrom]
  ·obtain ⟨ad, rfl, hcell⟩ := hc (fun e => hx (by simp [e]))
   have := run_loadCells_list (P := P) w' ad (xs.take (k * sz)) (fun j x hj => by
    rw [show w'.cell? (ad.add j) = w.cell? (ad.add j) from World.cell?_of_block (by rw [hw])]
    refine hcell j x ?_
    rw [List.getElem?_take] at hj
    split at hj
    ·exact hj
    ·cases hj)
   rw [show (xs.take (k * sz)).length = k * sz by simp; omega] at this
   simpa [Builtin.firstCells] using this
 refine ⟨⟨a, cap, rfl, hle⟩, hl, fun w' hw => ?_, fun k hk => key w k rfl hk, fun hx => ?_⟩
 rotate_left
 ·obtain ⟨ad, rfl, h⟩ := hc hx; exact ⟨ad, cap, rfl, h⟩
 have := key w' n hw (Nat.le_refl _)
 rwa [← hl, List.take_length] at this
theorem slCells_sound (hst : StR B β H w) {c : C} {u : Value} (hr : Rep B β H w c u) {sz n : Nat} {cs : List C} {pu : Bool} (h : slCells H sz c = some (cs, n, pu)) :
  ∃ xs, All2 (Rep B β H w) cs xs ∧ IsSl P w sz n xs u ∧ (pu = true → cs.all C.imm = true) := by
 cases c with
 | sl b nil capd cells m =>
  simp only [slCells, kR, kI, kP] at h
  obtain ⟨hl, rfl, rfl, rfl⟩ := h
  obtain ⟨a, cap, xs, rfl, ho, hx⟩ := hr
  have ha := rep_of_repIL hx
  refine ⟨xs, ha, isSl_mk ho.le (by rw [ha.length]; exact hl) (fun hne => ?_), fun _ => repIL_imm hx⟩
  obtain ⟨ad, rfl, hs, _, hc⟩ := ho.cells hne
  obtain ⟨b, o, s⟩ := ad
  simp only at hs; subst hs
  exact ⟨_, rfl, fun j x hj => by rw [Addr.add_lit]; exact hc j x hj⟩
 | row id st off len capd =>
  obtain ⟨pu', mu, d, st', sz', cells, ho, hle, _, hh⟩ := hr
  simp only [slCells, ho, kR, kI, kP] at h
  obtain ⟨⟨rfl, rfl, hd, hl⟩, rfl, rfl, rfl⟩ := h
  obtain ⟨_, _, a, cap, rfl, h1, h2, h3, h4⟩ := hh rfl
  obtain ⟨g1, g2, g3, g4, arr, e, hb, hsz, ha⟩ := hst.live id _ ho
  refine ⟨_, (ha.drop ((off - d) * sz)).take (len * sz), isSl_mk h1 ?_ (fun hne => ?_), fun hp => all_sub (g4 hp)⟩
  ·have : (off - d) * sz + len * sz ≤ cells.length := by rw [g3, ← Nat.add_mul]; exact Nat.mul_le_mul_right _ (by omega)
   simp; omega
  ·have hcap : 0 < cap := by
    rcases Nat.eq_zero_or_pos cap with h | h
    ·exfalso; apply hne
     have : len = 0 := by omega
     simp [this]
    ·exact h
   refine ⟨_, rfl, fun j x hj => ?_⟩
   rw [h3 hcap, Addr.add_lit]
   rw [List.getElem?_take] at hj
   split at hj
   ·rw [List.getElem?_drop] at hj
    rw [Nat.add_assoc]
    exact cell_list hb hj
   ·cases hj
 | _ => simp only [slCells] at h; cases h
/-! ### append -/
theorem elemT_under {t e : TypeId} (h : elemT P t = some e) : P.underlying t = some (.slice e) := by
 unfold elemT at h
 split at h
 ·rename_i x hx; simp only [kI] at h; subst h; exact hx
 ·cases h
theorem run_append_zero {t u ty e el : TypeId} {sz : Nat} (ht : P.underlying t = some (.slice e)) (hu : P.underlying u = some (.slice el)) (hsz : szT P e = some sz)
  {a : Option Addr} {n cap : Nat} (hle : n ≤ cap) {x : Value} {xs : List Value} (hx : IsSl P w sz 0 xs x) :
  (Builtin.append_ #[t, u] ty #[.slice a n cap, x]).run P w = .ok (.slice a n cap) w := by
 obtain ⟨⟨xa, xc, rfl, _⟩, hl, hf, _, _⟩ := hx
 have hf := hf w rfl
 simp only [Nat.zero_mul, List.length_eq_zero_iff] at hl
 subst hl
 cases a <;> simp [Builtin.append_, run_underlying ht, run_underlying hu, run_szT hsz, Builtin.lenOf, hle, hf, storeCells]
theorem run_append_in {t u ty e el : TypeId} {sz : Nat} (ht : P.underlying t = some (.slice e)) (hu : P.underlying u = some (.slice el)) (hsz : szT P e = some sz)
  {b o n cap m : Nat} {x : Value} {xs : List Value} (hx : IsSl P w sz m xs x) {arr : Array Value} {et : TypeId} (hb : w.heap[b]? = some (.cells arr et (0, 0)))
  (hle : n + m ≤ cap) (hfit : o + n * sz + xs.length ≤ arr.size) (h1 : ∀ v ∈ xs, v.oneCell' = true) :
  (Builtin.append_ #[t, u] ty #[.slice (some ⟨b, o, none⟩) n cap, x]).run P w = .ok (.slice (some ⟨b, o, none⟩) (n + m) cap) (w.setRow b (splice (o + n * sz) xs arr.toList).toArray) := by
 obtain ⟨⟨xa, xc, rfl, _⟩, hl, hf, _, _⟩ := hx
 have hf := hf w rfl
 have hst := run_storeCells_at P b (o + n * sz) et xs 0 arr w hb (by simpa using hfit) h1
 simp only [Nat.add_zero] at hst
 simp [Builtin.append_, run_underlying ht, run_underlying hu, run_szT hsz, Builtin.lenOf, hle, hf, Addr.add_lit, hst, splice]
theorem run_append_out {t u ty e el : TypeId} {i : TypeInfo} {z : Value} (ht : P.underlying t = some (.slice e)) (hu : P.underlying u = some (.slice el)) (hi : P.info? e = some i) (hz : i.zero = some z)
  {a : Option Addr} {n cap m : Nat} {s x : Value} {olds xs : List Value} (hs : s = .slice a n cap) (ho : IsSl P w i.size n olds s) (hx : IsSl P w i.size m xs x) (hgt : cap < n + m) (hmax : n + m ≤ maxLen) (hby : (n + m) * i.bytes ≤ maxBytes) :
  ∃ cap' w' zs, (Builtin.append_ #[t, u] ty #[s, x]).run P w = .ok (.slice (some ⟨w.heap.size, 0, none⟩) (n + m) cap') w' ∧ n + m ≤ cap' ∧ zs.length = (cap' - (n + m)) * z.cells.size ∧
   New w (.cells (olds ++ xs ++ zs).toArray e (0, 0)) w' := by
 subst hs
 obtain ⟨_, hlo, hfo, _, _⟩ := ho
 obtain ⟨⟨xa, xc, rfl, _⟩, hl, hf, _, _⟩ := hx
 have hf := hf w.drew rfl
 have hfo := hfo w.drew rfl
 have hn : ¬ (n + m ≤ cap) := by omega
 have h63' : ¬ (9223372036854775807 < ((n : Int) + (m : Int))) := by simp only [maxLen] at hmax; omega
 have h48' : ¬ (281474976710656 < Builtin.nextslicecap (n + m) cap * i.bytes) := by have := growslice_fits hgt hby; omega
 refine ⟨grownCap w (n + m) cap e, w.drew.alloc (.cells (olds ++ xs ++ (Builtin.zeroCells z.cells (grownCap w (n + m) cap e - (n + m))).toList).toArray e), _, ?_, grownCap_ge _ _ _ _, ?_, ⟨rfl, rfl, rfl, rfl⟩⟩
 ·simp [Builtin.append_, run_underlying ht, run_underlying hu, sizeOf, typeInfo, zeroValue, hi, hz, Builtin.lenOf, hn, h63', h48', Question.forced, hf, hfo, newRow, grownCap]
  congr 2
  apply Array.ext'
  simp
 ·simp [Builtin.zeroCells]
theorem zeroC_info {e : TypeId} {zs : List C} (h : zeroC P e = some zs) : ∃ i z, P.info? e = some i ∧ i.zero = some z ∧ z.cells.size = i.size ∧ zs.length = i.size ∧ zs.all C.live = true ∧ zs = z.cells.toList.map C.ofV := by
 unfold zeroC at h
 simp only [kB, kR, kI] at h
 obtain ⟨i, hi, z, hz, ⟨hl, hs⟩, rfl⟩ := h
 exact ⟨i, z, hi, hz, by simpa using hs, hs, hl, rfl⟩
/-- A new row, and its slice. -/
theorem rowNew_sound (hst : StR B β H w) {pu : Bool} {sz n cap : Nat} {cs : List C} {xs zs : List Value} {e : TypeId} {w' : World} (hsz : 0 < sz) (hc : All2 (Rep B β H w) cs xs) (hl : cs.length = n * sz) (hpu : pu = true → cs.all C.imm = true)
  (hcap : n ≤ cap) (hzs : zs.length = (cap - n) * sz) (hn : New w (.cells (xs ++ zs).toArray e (0, 0)) w') :
  StR B (upd β H.length (w.heap.size, 0)) (rowNew H pu sz n cs).2 w' ∧ Stp β H w (upd β H.length (w.heap.size, 0)) (rowNew H pu sz n cs).2 w' ∧
   Rep B (upd β H.length (w.heap.size, 0)) (rowNew H pu sz n cs).2 w' (rowNew H pu sz n cs).1 (.slice (some ⟨w.heap.size, 0, none⟩) n cap) := by
 have hxl := hc.length
 have stp := hn.stp hst (.row pu true 0 n sz cs) 0
 have htot : (xs ++ zs).length = cap * sz := by
  rw [List.length_append, hxl, hl, hzs, ← Nat.add_mul]; congr 1; omega
 refine ⟨hn.str hst _ 0 ⟨hsz, Nat.zero_le _, by simpa using hl, hpu, _, e, by rw [upd_same]; exact hn.new, ?_, ?_⟩, stp, ?_⟩
 ·rw [upd_same]; simp only [List.size_toArray, htot, hl, Nat.zero_add]; exact Nat.mul_le_mul_right _ hcap
 ·rw [upd_same]
  simp only [List.drop_zero]
  rw [show cs.length = xs.length from hxl.symm, List.take_left]
  exact hc.mono fun _ _ => Rep.mono stp
 ·refine ⟨pu, true, 0, n, sz, cs, by simp [rowNew], Nat.le_refl _, ⟨_, _, _, rfl⟩, fun _ => ?_⟩
  rw [upd_same]
  refine ⟨Nat.le_refl _, by omega, _, cap, rfl, hcap, (fun h => by cases h), (fun _ => by simp), fun _ => ⟨_, e, (0, 0), hn.new, ?_⟩⟩
  simp only [List.size_toArray, htot, Nat.sub_self, Nat.zero_add]
/-- The row that a slice ends is gone on with: in its place, or in a new one. -/
theorem onto_sound (hst : StR B β H w) {id : Nat} {pu : Bool} {d st sz : Nat} {cs : List C} (ho : H[id]? = some (.row pu true d st sz cs)) {off n m : Nat} {all : List C} {alls : List Value}
  (hr : All2 (Rep B β H w) all alls) (himm : pu = true → all.all C.imm = true) (hcs : all.length = (n + m) * sz) (hfr : off + n = st)
  {b' o' : Nat} {w' : World} {arrn : Array Value} {en : TypeId} {capn : Nat} (turn : Turn β w id (.row pu true d st sz cs) (b', o') (.row pu true off (st + m) sz all) w') (hblt : b' < w'.heap.size)
  (hbn : w'.heap[b']? = some (.cells arrn en (0, 0))) (htk : (arrn.toList.drop o').take all.length = alls) (hszn : arrn.size = o' + capn * sz) (hcapn : n + m ≤ capn) :
  StR B (upd β id (b', o')) (H.set id (.row pu true off (st + m) sz all)) w' ∧ Stp β H w (upd β id (b', o')) (H.set id (.row pu true off (st + m) sz all)) w' ∧
   Rep B (upd β id (b', o')) (H.set id (.row pu true off (st + m) sz all)) w' (.row id (st + m) off (n + m) false) (.slice (some ⟨b', o', none⟩) (n + m) capn) := by
 have stp := turn.stp hst ho
 obtain ⟨g1, _⟩ := hst.live id _ ho
 refine ⟨turn.str hst ho hblt ⟨g1, by omega, ?_, himm, arrn, en, by rw [upd_same]; exact hbn, ?_, ?_⟩, stp, ?_⟩
 ·rw [hcs]; congr 1; omega
 ·rw [upd_same, hszn, hcs]; exact Nat.add_le_add_left (Nat.mul_le_mul_right _ hcapn) _
 ·rw [upd_same]; simp only; rw [htk]; exact hr.mono fun _ _ => Rep.mono stp
 ·refine ⟨pu, true, off, st + m, sz, all, by simp [lt_of_get ho], Nat.le_refl _, ⟨_, _, _, rfl⟩, fun _ => ?_⟩
  rw [upd_same]
  exact ⟨Nat.le_refl _, by omega, _, capn, rfl, hcapn, (fun h => by cases h), (fun _ => by simp), fun _ => ⟨arrn, en, (0, 0), hbn, by rw [hszn]; simp⟩⟩
theorem take_splice {olds news arr : List Value} {o : Nat} (h : ∀ j x, olds[j]? = some x → arr[o + j]? = some x) (hl : o + olds.length + news.length ≤ arr.length) :
  ((splice (o + olds.length) news arr).drop o).take (olds.length + news.length) = olds ++ news := by
 rw [sub_splice (by omega) (by omega)]
 have e : (arr.drop o).take (olds.length + news.length) = olds ++ ((arr.drop o).take (olds.length + news.length)).drop olds.length := by
  apply List.ext_getElem?
  intro j
  by_cases hj : j < olds.length
  ·rw [List.getElem?_append_left hj, List.getElem?_take, if_pos (by omega), List.getElem?_drop, List.getElem?_eq_getElem hj]
   exact h j _ (List.getElem?_eq_getElem hj)
  ·rw [List.getElem?_append_right (by omega), List.getElem?_drop]
   congr 1; omega
 rw [e]
 unfold splice
 rw [List.take_left]
 simp
theorem onto_in (hst : StR B β H w) {id : Nat} {pu : Bool} {d st sz : Nat} {cs : List C} (ho : H[id]? = some (.row pu true d st sz cs)) {off n m : Nat} {old new : List C} {olds news : List Value}
  (hr1 : All2 (Rep B β H w) old olds) (hr2 : All2 (Rep B β H w) new news) (himm : pu = true → (old ++ new).all C.imm = true) (hol : olds.length = n * sz) (hnl : news.length = m * sz) (hfr : off + n = st) (hm : 0 < m) (hd : d ≤ off)
  {arr : Array Value} {et : TypeId} (hb : w.heap[(β id).1]? = some (.cells arr et (0, 0))) {cap : Nat} (has : arr.size = (β id).2 + (off - d + cap) * sz) (hroom : n + m ≤ cap)
  (hoat : ∀ j x, olds[j]? = some x → arr.toList[(β id).2 + (off - d) * sz + j]? = some x) {w' : World} (hw' : w' = w.setRow (β id).1 (splice ((β id).2 + (off - d) * sz + n * sz) news arr.toList).toArray) :
  ∃ β', StR B β' (H.set id (.row pu true off (st + m) sz (old ++ new))) w' ∧ Stp β H w β' (H.set id (.row pu true off (st + m) sz (old ++ new))) w' ∧
   Rep B β' (H.set id (.row pu true off (st + m) sz (old ++ new))) w' (.row id (st + m) off (n + m) false) (.slice (some ⟨(β id).1, (β id).2 + (off - d) * sz, none⟩) (n + m) cap) := by
 subst hw'
 have hall := hr1.append hr2
 have hcs : (old ++ new).length = (n + m) * sz := by rw [List.length_append, ← hr1.length, ← hr2.length, hol, hnl, Nat.add_mul]
 have hfit : (β id).2 + (off - d) * sz + n * sz + news.length ≤ arr.toList.length := by
  rw [show arr.toList.length = arr.size from Array.length_toList, has, hnl, Nat.add_assoc, Nat.add_assoc, ← Nat.add_mul, ← Nat.add_mul]
  exact Nat.add_le_add_left (Nat.mul_le_mul_right _ (by omega)) _
 have hlen : (splice ((β id).2 + (off - d) * sz + n * sz) news arr.toList).length = arr.size := by rw [length_splice hfit]; exact Array.length_toList
 have turn : Turn β w id (.row pu true d st sz cs) ((β id).1, (β id).2 + (off - d) * sz) (.row pu true off (st + m) sz (old ++ new)) (w.setRow (β id).1 (splice ((β id).2 + (off - d) * sz + n * sz) news arr.toList).toArray) :=
  ⟨rfl, rfl, rfl, by simp, fun b _ h => by
   rcases h with h | h
   ·exact setRow_other w _ _ _ h
   ·exact absurd h (by simp [O.mut]), .inl rfl, fun _ => rfl, ⟨rfl, rfl, by omega, fun h => by omega⟩, rfl⟩
 have htk : ((splice ((β id).2 + (off - d) * sz + n * sz) news arr.toList).drop ((β id).2 + (off - d) * sz)).take (old ++ new).length = olds ++ news := by
  rw [← hall.length, List.length_append, ← hol]
  exact take_splice hoat (by rw [hol]; exact hfit)
 have hblt : (β id).1 < (w.setRow (β id).1 (splice ((β id).2 + (off - d) * sz + n * sz) news arr.toList).toArray).heap.size := by simpa using hst.inb id _ ho (by rfl)
 have hsz : (splice ((β id).2 + (off - d) * sz + n * sz) news arr.toList).toArray.size = (β id).2 + (off - d) * sz + cap * sz := by
  rw [List.size_toArray, hlen, has, Nat.add_mul, Nat.add_assoc]
 exact ⟨_, onto_sound hst ho hall himm hcs hfr turn hblt (setRow_heap w _ _ _ _ _ hb) htk hsz hroom⟩
theorem onto_out (hst : StR B β H w) {id : Nat} {pu : Bool} {d st sz : Nat} {cs : List C} (ho : H[id]? = some (.row pu true d st sz cs)) {off n m : Nat} {old new : List C} {olds news : List Value}
  (hr1 : All2 (Rep B β H w) old olds) (hr2 : All2 (Rep B β H w) new news) (himm : pu = true → (old ++ new).all C.imm = true) (hol : olds.length = n * sz) (hnl : news.length = m * sz) (hfr : off + n = st) (hm : 0 < m)
  {cap : Nat} {w' : World} {zs : List Value} {e : TypeId} (hle : n + m ≤ cap) (hzl : zs.length = (cap - (n + m)) * sz) (hN : New w (.cells (olds ++ news ++ zs).toArray e (0, 0)) w') :
  ∃ β', StR B β' (H.set id (.row pu true off (st + m) sz (old ++ new))) w' ∧ Stp β H w β' (H.set id (.row pu true off (st + m) sz (old ++ new))) w' ∧
   Rep B β' (H.set id (.row pu true off (st + m) sz (old ++ new))) w' (.row id (st + m) off (n + m) false) (.slice (some ⟨w.heap.size, 0, none⟩) (n + m) cap) := by
 have hall := hr1.append hr2
 have hcs : (old ++ new).length = (n + m) * sz := by rw [List.length_append, ← hr1.length, ← hr2.length, hol, hnl, Nat.add_mul]
 have turn : Turn β w id (.row pu true d st sz cs) (w.heap.size, 0) (.row pu true off (st + m) sz (old ++ new)) w' :=
  ⟨hN.os, hN.tape, hN.output, by rw [hN.size]; omega, fun b hb _ => hN.old hb, .inr (Nat.le_refl _), fun _ => rfl, ⟨rfl, rfl, by omega, fun h => by omega⟩, rfl⟩
 have hblt : w.heap.size < w'.heap.size := by rw [hN.size]; omega
 have htk : ((olds ++ news ++ zs).toArray.toList.drop 0).take (old ++ new).length = olds ++ news := by
  simp only [List.drop_zero]; rw [← hall.length, List.take_left]
 have hsz : (olds ++ news ++ zs).toArray.size = 0 + cap * sz := by
  rw [List.size_toArray, List.length_append, hall.length, hcs, hzl, ← Nat.add_mul, Nat.zero_add]; congr 1; omega
 exact ⟨_, onto_sound hst ho hall himm hcs hfr turn hblt hN.new htk hsz hle⟩
set_option maxHeartbeats 1000000 in
theorem append_sound {A : Ann} (hst : StR B β H w) {s x : C} {us ux : Value} (hs : Rep B β H w s us) (hx : Rep B β H w x ux) {t u ty el : TypeId} (hu : elemT P u = some el) {c : C} {H' : Heap} (h : appendX P A H t s x = some (c, H')) :
  ∃ β' w' v, (Builtin.append_ #[t, u] ty #[us, ux]).run P w = .ok v w' ∧ StR B β' H' w' ∧ Stp β H w β' H' w' ∧ Rep B β' H' w' c v := by
 unfold appendX at h
 simp only [kB, kR] at h
 obtain ⟨e, he, sz, hsz, by_, hby, zc, hzc, hsz0, ⟨new, m, pure_⟩, hnew, ⟨old, n, opure⟩, hold, h⟩ := h
 simp only at h
 have ht := elemT_under he
 have hu := elemT_under hu
 obtain ⟨i, z, hi, hz, hzs, _⟩ := zeroC_info hzc
 have hisz : i.size = sz := by obtain ⟨i', hi', rfl⟩ := szT_info hsz; rw [hi] at hi'; cases hi'; rfl
 have hiby : i.bytes = by_ := by simp only [byT, hi, kT, kI] at hby; exact hby
 obtain ⟨news, hnr, hnis, hni⟩ := slCells_sound (P := P) hst hx hnew
 obtain ⟨olds, hor, hois, hoi⟩ := slCells_sound (P := P) hst hs hold
 obtain ⟨⟨sa, scap, rfl, hsle⟩, hol, _, _, hoat⟩ := hois
 split at h
 ·rename_i hm
  subst hm
  simp only [kI, kP] at h
  obtain ⟨rfl, rfl⟩ := h
  exact ⟨β, w, _, run_append_zero ht hu hsz hsle hnis, hst, Stp.refl _ _ _, hs⟩
 ·rename_i hm
  split at h
  case isFalse => cases h
  rename_i hcond
  obtain ⟨hlive, hmax, hbytes⟩ := hcond
  simp only [kB] at h
  obtain ⟨⟨new', H1⟩, him, h⟩ := h
  simp only at h
  -- what is appended, in its form
  generalize hpu : (if s.isRow = true then opure else A.pureSl t) = pu at him h
  have step : StR B β H1 w ∧ Stp β H w β H1 w ∧ All2 (Rep B β H1 w) new' news ∧ (pu = true → new'.all C.imm = true) ∧ new'.length = new.length ∧ new'.all C.live = true := by
   by_cases hp : (pu && !pure_) = true
   ·rw [if_pos hp] at him
    obtain ⟨a1, a2, a3, a4, a5, a6⟩ := immL_sound hst hnr him
    exact ⟨a1, a2, a3, fun _ => a4, a5, a6⟩
   ·rw [if_neg hp] at him
    simp only [kI, kP] at him
    obtain ⟨rfl, rfl⟩ := him
    refine ⟨hst, Stp.refl _ _ _, hnr, fun hpt => hni ?_, rfl, hlive⟩
    subst hpt
    simpa using hp
  obtain ⟨hst1, stp1, hnr1, hnimm, hnlen, hnlive⟩ := step
  have hor1 := hor.mono fun _ _ => Rep.mono stp1
  have hs1 := Rep.mono stp1 hs
  have hnl := hnis.len
  have hcs : (old ++ new').length = (n + m) * sz := by
   rw [List.length_append, ← hor.length, hol, ← hnr1.length, hnl, Nat.add_mul]
  have himm : pu = true → s.isRow = false ∨ True → (old ++ new').all C.imm = true := by
   intro hp _
   rw [List.all_append, hnimm hp, Bool.and_true]
   apply hoi
   cases hr : s.isRow with
   | true => rw [hr] at hpu; simp only [if_true] at hpu; rw [hpu]; exact hp
   | false =>
    cases s with
    | sl b nil capd cells k =>
     simp only [slCells, kR, kI, kP] at hold
     exact hold.2.2.2.symm
    | row => cases hr
    | _ => simp only [slCells] at hold; cases hold
  -- a copy, into a new block
  have out : scap < n + m → ∃ cap' w' zs, (Builtin.append_ #[t, u] ty #[.slice sa n scap, ux]).run P w = .ok (.slice (some ⟨w.heap.size, 0, none⟩) (n + m) cap') w' ∧ n + m ≤ cap' ∧ zs.length = (cap' - (n + m)) * sz ∧
    New w (.cells (olds ++ news ++ zs).toArray e (0, 0)) w' := by
   intro hgt
   have := run_append_out (P := P) (w := w) (ty := ty) (s := .slice sa n scap) (x := ux) (olds := olds) (xs := news) ht hu hi hz rfl (by rw [hisz]; exact ⟨⟨_, _, rfl, hsle⟩, hol, ‹_›, ‹_›, hoat⟩) (by rw [hisz]; exact hnis) hgt hmax (by rw [hiby]; exact hbytes)
   rw [hzs, hisz] at this
   exact this
  have fresh : scap < n + m → (rowNew H1 pu sz (n + m) (old ++ new')) = (c, H') → ∃ β' w' v, (Builtin.append_ #[t, u] ty #[.slice sa n scap, ux]).run P w = .ok v w' ∧ StR B β' H' w' ∧ Stp β H w β' H' w' ∧ Rep B β' H' w' c v := by
   intro hgt heq
   obtain ⟨cap', w', zs, hrun, hle, hzl, hN⟩ := out hgt
   obtain ⟨r1, r2, r3⟩ := rowNew_sound (B := B) hst1 (pu := pu) hsz0 (hor1.append hnr1) hcs (fun hp => himm hp (.inr trivial)) hle hzl hN
   rw [heq] at r1 r2 r3
   exact ⟨_, w', _, hrun, r1, stp1.trans r2, r3⟩
  cases s with
  | sl b nil capd cells k =>
   simp only [kR, kI] at h
   obtain ⟨hcd, h⟩ := h
   obtain ⟨a, cap, xs, heq, ho, hx⟩ := hs
   simp only [Value.slice.injEq] at heq
   obtain ⟨rfl, rfl, rfl⟩ := heq
   have hgt : scap < n + m := by
    have hc := ho.capd hcd
    clear fresh out
    omega
   exact fresh hgt h
  | row id st off len capd =>
   obtain ⟨pu0, mu0, d, st0, sz0, cells0, ho, hle0, _, hh⟩ := hs
   have hv : st = st0 ∧ sz = sz0 ∧ d ≤ off ∧ off + len ≤ st ∧ old = sub ((off - d) * sz) (len * sz) cells0 ∧ n = len ∧ opure = pu0 := by
    simp only [slCells, ho, kR, kI, kP] at hold
    obtain ⟨⟨a1, a2, a3, a4⟩, a5, a6, a7⟩ := hold
    exact ⟨a1, a2, a3, a4, a5.symm, a6.symm, a7.symm⟩
   obtain ⟨rfl, rfl, hd, hl, hold', rfl, rfl⟩ := hv
   have hh := hh rfl
   dsimp only at h
   split at h
   ·rename_i hcd
    simp only [kI] at h
    obtain ⟨_, _, a, cap, heq, h1, h2, h3, h4⟩ := hh
    simp only [Value.slice.injEq] at heq
    obtain ⟨rfl, _, rfl⟩ := heq
    have hgt : scap < n + m := by
     have hc := h2 hcd
     clear fresh out
     omega
    exact fresh hgt h
   ·rename_i hcd
    obtain ⟨mu1, d1, st1, cs1, ho1, hle1, hk1⟩ := stp1.row ho
    simp only [ho1] at h
    split at h
    case isFalse =>
     -- inside the row
     simp only [kR, kI, kP] at h
     obtain ⟨⟨rfl, hfr, hmu⟩, rfl, rfl⟩ := h
     obtain ⟨_, rfl, _⟩ := hk1 rfl
     subst hmu
     obtain ⟨_, _, a, cap, heq, h1, h2, h3, h4⟩ := hh
     simp only [Value.slice.injEq] at heq
     obtain ⟨rfl, _, rfl⟩ := heq
     obtain ⟨g1, g2, g3, g4, arr, et, hb, hasz, ha⟩ := hst1.live id _ ho1
     obtain ⟨arr', e', fr', hb', has'⟩ := h4 (by simpa using hcd)
     rw [hb] at hb'
     simp only [kI, Obj.cells.injEq] at hb'
     obtain ⟨rfl, rfl, rfl⟩ := hb'
     have hpu' : opure = pu := by simpa [C.isRow] using hpu
     subst hpu'
     have hm0 : 0 < m := Nat.pos_of_ne_zero hm
     have hcl : (off - d1) * sz + n * sz + m * sz ≤ cs1.length := by
      rw [g3, ← Nat.add_mul, ← Nat.add_mul]; exact Nat.mul_le_mul_right _ (by clear fresh out; omega)
     have hnl' : new'.length = m * sz := by rw [← hnr1.length, hnl]
     have hroom : n + m ≤ scap := by
      have q1 : cs1.length ≤ (off - d1 + scap) * sz := by clear fresh out; omega
      rw [g3] at q1
      have := Nat.le_of_mul_le_mul_right q1 hsz0
      clear fresh out
      omega
     have haddr := h3 (by clear fresh out; omega)
     subst haddr
     have hone : ∀ v ∈ news, v.oneCell' = true := fun v hv => by
      obtain ⟨c, hc, hr⟩ := hnr1.mem hv
      exact rep_one hr (by simpa using List.all_eq_true.1 hnlive c hc)
     have hfit : (β id).2 + (off - d1) * sz + n * sz + news.length ≤ arr.size := by
      rw [has', hnl, Nat.add_assoc, Nat.add_assoc, ← Nat.add_mul, ← Nat.add_mul]
      exact Nat.add_le_add_left (Nat.mul_le_mul_right _ (by clear fresh out; omega)) _
     have hrun := run_append_in (P := P) (ty := ty) ht hu hsz hnis hb hroom hfit hone
     have hfa : (β id).2 + ((off - d1) * sz + n * sz) + news.length ≤ arr.toList.length := by
      rw [show arr.toList.length = arr.size from Array.length_toList]; clear fresh out; omega
     have turn : Turn β w id (.row opure true d1 st1 sz cs1) (β id) (.row opure true d1 st1 sz (splice ((off - d1) * sz + n * sz) new' cs1)) (w.setRow (β id).1 (splice ((β id).2 + ((off - d1) * sz + n * sz)) news arr.toList).toArray) := by
      refine setRow_turn rfl ⟨rfl, rfl, Nat.le_refl _, fun _ => ⟨rfl, rfl, fun arr' e' fr' h => ?_⟩⟩
      rw [hb] at h
      simp only [kI, Obj.cells.injEq] at h
      obtain ⟨rfl, rfl, _⟩ := h
      exact ⟨_, _, _, setRow_heap w _ _ _ _ _ hb, by rw [List.size_toArray, length_splice hfa]; simp⟩
     have stp := turn.stp hst1 ho1
     rw [upd_self] at stp
     have str := turn.str hst1 ho1 (by simpa using hst1.inb id _ ho1 (by rfl))
     rw [upd_self] at str
     have e3 : (β id).2 + (off - d1) * sz + n * sz = (β id).2 + ((off - d1) * sz + n * sz) := Nat.add_assoc _ _ _
     rw [e3] at hrun
     refine ⟨β, _, _, hrun, str ⟨g1, g2, by rw [length_splice (by clear fresh out; omega)]; exact g3, fun hp => ?_, _, et, setRow_heap w _ _ _ _ _ hb, ?_, ?_⟩, stp1.trans stp, ?_⟩
     ·rw [List.all_eq_true]
      intro y hy
      unfold splice at hy
      simp only [List.mem_append] at hy
      rcases hy with (hy | hy) | hy
      ·exact List.all_eq_true.1 (g4 hp) y (List.mem_of_mem_take hy)
      ·exact List.all_eq_true.1 (hnimm hp) y hy
      ·exact List.all_eq_true.1 (g4 hp) y (List.mem_of_mem_drop hy)
     ·rw [length_splice (by clear fresh out; omega), List.size_toArray, length_splice hfa]
      simpa using hasz
     ·rw [length_splice (by clear fresh out; omega)]
      simp only
      rw [sub_splice (by clear fresh out; omega) (by simpa using hasz)]
      exact (ha.splice hnr1 _).mono fun _ _ => Rep.mono stp
     ·refine ⟨opure, true, d1, st1, sz, splice ((off - d1) * sz + n * sz) new' cs1, by simp [lt_of_get ho1], Nat.le_refl _, ⟨_, _, _, rfl⟩, fun _ => ?_⟩
      exact ⟨hd, by clear fresh out; omega, _, scap, rfl, hroom, (fun h => by cases h), (fun _ => rfl), fun _ => ⟨_, et, (0, 0), setRow_heap w _ _ _ _ _ hb, by rw [List.size_toArray, length_splice hfa]; simpa using has'⟩⟩
    rename_i hc1
    simp only [kI, kP] at h
    obtain ⟨rfl, hfr, hmu⟩ := hc1
    obtain ⟨rfl, rfl⟩ := h
    obtain ⟨_, rfl, _⟩ := hk1 rfl
    subst hmu
    obtain ⟨_, _, a, cap, heq, h1, h2, h3, h4⟩ := hh
    simp only [Value.slice.injEq] at heq
    obtain ⟨rfl, _, rfl⟩ := heq
    obtain ⟨g1, g2, g3, g4, arr, et, hb, hasz, ha⟩ := hst1.live id _ ho1
    obtain ⟨arr', e', fr', hb', has'⟩ := h4 (by simpa using hcd)
    rw [hb] at hb'
    simp only [kI, Obj.cells.injEq] at hb'
    obtain ⟨rfl, rfl, rfl⟩ := hb'
    have hpu' : opure = pu := by simpa [C.isRow] using hpu
    subst hpu'
    have hm0 : 0 < m := Nat.pos_of_ne_zero hm
    by_cases hroom : n + m ≤ scap
    ·-- in place
     have haddr := h3 (by clear fresh out; omega)
     subst haddr
     have hone : ∀ v ∈ news, v.oneCell' = true := fun v hv => by
      obtain ⟨c, hc, hr⟩ := hnr1.mem hv
      exact rep_one hr (by simpa using List.all_eq_true.1 hnlive c hc)
     have hfit : (β id).2 + (off - d1) * sz + n * sz + news.length ≤ arr.size := by
      rw [has', hnl, Nat.add_assoc, Nat.add_assoc, ← Nat.add_mul, ← Nat.add_mul]
      exact Nat.add_le_add_left (Nat.mul_le_mul_right _ (by clear fresh out; omega)) _
     have hrun := run_append_in (P := P) (ty := ty) ht hu hsz hnis hb hroom hfit hone
     have hat : ∀ j x, olds[j]? = some x → arr.toList[(β id).2 + (off - d1) * sz + j]? = some x := by
      intro j x hj
      obtain ⟨ad, _, he, hc⟩ := hoat (fun e => by subst e; simp at hj)
      simp only [Value.slice.injEq, kI] at he
      obtain ⟨rfl, _, _⟩ := he
      have := hc j x hj
      rw [Addr.add_lit, cell_at hb] at this
      simpa using this
     obtain ⟨β', r1, r2, r3⟩ := onto_in hst1 ho1 hor1 hnr1 (fun hp => himm hp (.inr trivial)) hol hnl hfr hm0 hd hb has' hroom hat rfl
     exact ⟨β', _, _, hrun, r1, stp1.trans r2, r3⟩
    ·-- a copy
     have hgt : scap < n + m := Nat.lt_of_not_le hroom
     obtain ⟨cap', w', zs, hrun, hle', hzl, hN⟩ := out hgt
     obtain ⟨β', r1, r2, r3⟩ := onto_out hst1 ho1 hor1 hnr1 (fun hp => himm hp (.inr trivial)) hol hnl hfr hm0 hle' hzl hN
     exact ⟨β', _, _, hrun, r1, stp1.trans r2, r3⟩
  | _ => simp only [slCells] at hold; cases hold
end
end Go.Lg
