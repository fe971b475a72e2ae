/- Lemmas. -/
import Derived.Test.YtjhgjbagmkiibaaX2
import Derived.Great.BuildSlice
import Derived.Laws.MakeOwn
import Derived.Laws.Slices
section
namespace Go.Lg
section
variable {P : Program} {B : Nat → Prop} {β : Nat → Nat × Nat} {H : Heap} {w : World}
theorem storeAt_run {t : TypeId} {b p : Nat} {x : Value} {arr : Array Value} {e : TypeId} (hsz : szT P t = some x.cells.toList.length) (hb : w.heap[b]? = some (.cells arr e (0, 0)))
  (hl : p + x.cells.toList.length ≤ arr.toList.length) (h1 : ∀ v ∈ x.cells.toList, v.oneCell' = true) :
  (Instr.storeAt t (.pointer (some ⟨b, p, none⟩)) x).run P w = .ok () (w.setRow b (splice p x.cells.toList arr.toList).toArray) := by
 have hst := run_storeCells_at P b p e x.cells.toList 0 arr w hb (by simpa using hl) h1
 unfold Instr.storeAt storeVar
 simp only [Instr.sureAddr, Sem.run_bind, Sem.run_pure, Result.andThen_ok, run_szT hsz]
 simp only [Nat.add_zero] at hst
 simp [hst, splice]
theorem setRow_turn {id : Nat} {o o' : O} {xs : Array Value} (hm : o.mut = true)
  (hk : Kept w (w.setRow (β id).1 xs) (β id) (β id) o o') : Turn β w id o (β id) o' (w.setRow (β id).1 xs) :=
 ⟨rfl, rfl, rfl, by simp, fun b _ h => by
  rcases h with h | h
  ·exact setRow_other w _ _ _ h
  ·rw [hm] at h; exact absurd h (by simp), .inl rfl, fun _ => hm, hk, O.there_mut hm⟩
theorem st_sound (hst : StR B β H w) {t : TypeId} {c : C} {u x : Value} {v : Y} (hr : Rep B β H w c u) (hv : RepY B β H w v x) (hsz : szT P t = some v.cells.length) {H' : Heap} (h : stCells H c v.cells = some H') :
  ∃ w', (Instr.storeAt t u x).run P w = .ok () w' ∧ StR B β H' w' ∧ Stp β H w β H' w' := by
 unfold stCells at h
 simp only [kR] at h
 obtain ⟨hlive, h⟩ := h
 obtain ⟨hcs, hone⟩ := repY_cells hv hlive
 have hlen := hcs.length
 rw [← hlen] at hsz
 cases c with
 | ptr id off =>
  simp only at h
  obtain ⟨cells, ho, rfl⟩ := hr
  rw [ho] at h
  simp only [kR, kI] at h
  obtain ⟨hl, rfl⟩ := h
  obtain ⟨h0, arr, e, hb, ha⟩ := hst.live id _ ho
  have halen := ha.length
  have turn : Turn β w id (.obj cells) (β id) (.obj (splice off v.cells cells)) (w.setRow (β id).1 (splice off x.cells.toList arr.toList).toArray) :=
   setRow_turn rfl ⟨length_splice (by omega), rfl⟩
  have stp := turn.stp hst ho
  rw [upd_self] at stp
  refine ⟨_, storeAt_run hsz hb (by omega) hone, ?_, stp⟩
  have := turn.str hst ho (by simpa using hst.inb id _ ho (by rfl))
  rw [upd_self] at this
  refine this ⟨h0, _, e, setRow_heap w _ _ _ _ _ hb, ?_⟩
  simpa using (ha.splice hcs off).mono fun _ _ => Rep.mono stp
 | ra id st pos =>
  simp only at h
  obtain ⟨pu, mu, d, st', sz, cells, ho, hle, _, hh⟩ := hr
  rw [ho] at h
  have main : ∀ {H1 : Heap} {new : List C} {mu : Bool} {d st' sz : Nat} {cells : List C}, StR B β H1 w → Stp β H w β H1 w → H1[id]? = some (.row pu mu d st' sz cells) → All2 (Rep B β H1 w) new x.cells.toList → (pu = true → new.all C.imm = true) →
    (st = st' → d * sz ≤ pos ∧ u = .pointer (some ⟨(β id).1, (β id).2 + (pos - d * sz), none⟩)) → mu = true → st = st' → pos - d * sz + new.length ≤ cells.length →
    ∃ w', (Instr.storeAt t u x).run P w = .ok () w' ∧ StR B β (H1.set id (.row pu true d st' sz (splice (pos - d * sz) new cells))) w' ∧ Stp β H w β (H1.set id (.row pu true d st' sz (splice (pos - d * sz) new cells))) w' := by
   intro H1 new mu d st' sz cells hst1 stp1 ho hnew himm hh hmu hs hl
   subst hmu
   subst hs
   obtain ⟨hd, rfl⟩ := hh rfl
   obtain ⟨g1, g2, g3, g4, arr, e, hb, hsz', ha⟩ := hst1.live id _ ho
   have hn := hnew.length
   have hn' : x.cells.size = new.length := by simpa using hn
   have turn : Turn β w id (.row pu true d st sz cells) (β id) (.row pu true d st sz (splice (pos - d * sz) new cells)) (w.setRow (β id).1 (splice ((β id).2 + (pos - d * sz)) x.cells.toList arr.toList).toArray) := by
    refine setRow_turn rfl ⟨rfl, rfl, Nat.le_refl _, fun _ => ⟨rfl, rfl, fun arr' e' fr' h => ?_⟩⟩
    rw [hb] at h
    simp only [kI, Obj.cells.injEq] at h
    obtain ⟨rfl, rfl, _⟩ := h
    exact ⟨_, _, _, setRow_heap w _ _ _ _ _ hb, by simp only [List.size_toArray]; rw [length_splice (by simp; omega)]; simp⟩
   have stp := turn.stp hst1 ho
   rw [upd_self] at stp
   refine ⟨_, storeAt_run hsz hb (by simp; omega) hone, ?_, stp1.trans stp⟩
   have := turn.str hst1 ho (by simpa using hst1.inb id _ ho (by rfl))
   rw [upd_self] at this
   refine this ⟨g1, g2, by rw [length_splice (by omega)]; exact g3, fun hp => ?_, _, e, setRow_heap w _ _ _ _ _ hb, ?_, ?_⟩
   ·rw [List.all_eq_true]
    intro y hy
    unfold splice at hy
    simp only [List.mem_append] at hy
    rcases hy with (hy | hy) | hy
    ·exact List.all_eq_true.1 (g4 hp) y (List.mem_of_mem_take hy)
    ·exact List.all_eq_true.1 (himm hp) y hy
    ·exact List.all_eq_true.1 (g4 hp) y (List.mem_of_mem_drop hy)
   ·rw [length_splice (by omega)]
    simp only [List.size_toArray]
    rw [length_splice (by simp; omega)]
    simpa using hsz'
   ·rw [length_splice (by omega)]
    simp only
    rw [sub_splice (by omega) (by simpa using hsz')]
    exact (ha.splice hnew _).mono fun _ _ => Rep.mono stp
  cases pu with
  | false =>
   cases mu with
   | false => cases h
   | true =>
    simp only [kR, kI] at h
    obtain ⟨⟨hs, hd, hl⟩, rfl⟩ := h
    exact main hst (Stp.refl _ _ _) ho hcs (fun h => by cases h) hh rfl hs hl
  | true =>
   simp only [kB] at h
   obtain ⟨⟨new, H1⟩, him, h⟩ := h
   obtain ⟨hst1, stp1, hnew, himm, hnl, _⟩ := immL_sound hst hcs him
   obtain ⟨mu', d', st'', cs', ho', hle', hk⟩ := stp1.row ho
   simp only [ho'] at h
   cases mu' with
   | false => cases h
   | true =>
    simp only [kR, kI] at h
    obtain ⟨⟨hs, hd, hl⟩, rfl⟩ := h
    refine main hst1 stp1 ho' hnew (fun _ => himm) (fun e => ?_) rfl hs hl
    have e' : st = st' := by omega
    obtain ⟨_, hd', _⟩ := hk (by omega)
    rw [hd']
    exact hh e'
 | _ => simp only at h; cases h
theorem repI_imm {S : Nat → Prop} {c : C} {u : Value} (h : RepI S w c u) : c.imm = true := by
 cases c with
 | sc v => rfl
 | sl b nil capd cells n => simp only [RepI] at h; obtain ⟨rfl, _⟩ := h; rfl
 | _ => simp only [RepI] at h
theorem repIL_imm {S : Nat → Prop} {cs : List C} {us : List Value} (h : RepIL S w cs us) : cs.all C.imm = true := by
 rw [List.all_eq_true]
 intro c hc
 obtain ⟨j, hj⟩ := List.getElem?_of_mem hc
 obtain ⟨x, _, hx⟩ := (repIL_iff.1 h).get hj
 exact repI_imm hx
structure IsSl (P : Program) (w : World) (sz n : Nat) (xs : List Value) (u : Value) : Prop where
 eq : ∃ a cap, u = .slice a n cap ∧ n ≤ cap
 len : xs.length = n * sz
 first : ∀ w' : World, w'.heap = w.heap → (Builtin.firstCells sz n u).run P w' = .ok xs.toArray w'
 firstk : ∀ k, k ≤ n → (Builtin.firstCells sz k u).run P w = .ok (xs.take (k * sz)).toArray w
 at_ : xs ≠ [] → ∃ ad cap, u = .slice (some ad) n cap ∧ ∀ j x, xs[j]? = some x → w.cell? (ad.add j) = some x
theorem isSl_mk {a : Option Addr} {n cap sz : Nat} {xs : List Value} (hle : n ≤ cap) (hl : xs.length = n * sz)
  (hc : xs ≠ [] → ∃ ad : Addr, a = some ad ∧ ∀ j x, xs[j]? = some x → w.cell? (ad.add j) = some x) : IsSl P w sz n xs (.slice a n cap) := by
 have key : ∀ (w' : World) k, w'.heap = w.heap → k ≤ n → (Builtin.firstCells sz k (.slice a n cap)).run P w' = .ok (xs.take (k * sz)).toArray w' := by
  intro w' k hw hk
  have hkl : k * sz ≤ xs.length := by rw [hl]; exact Nat.mul_le_mul_right _ hk
  by_cases hx : xs.take (k * sz) = []
  ·have hk0 : k * sz = 0 := by
    have := congrArg List.length hx
    rw [List.length_take, List.length_nil] at this
    omega
   cases a with
   | none => simp [Builtin.firstCells, hk0]
   | some ad => simp [Builtin.firstCells, hk0, loadCells, loadCellsFrom]
  ·obtain ⟨ad, rfl, hcell⟩ := hc (fun e => hx (by simp [e]))
   have := run_loadCells_list (P := P) w' ad (xs.take (k * sz)) (fun j x hj => by
    rw [show w'.cell? (ad.add j) = w.cell? (ad.add j) from World.cell?_of_block (by rw [hw])]
    refine hcell j x ?_
    rw [List.getElem?_take] at hj
    split at hj
    ·exact hj
    ·cases hj)
   rw [show (xs.take (k * sz)).length = k * sz by simp; omega] at this
   simpa [Builtin.firstCells] using this
 refine ⟨⟨a, cap, rfl, hle⟩, hl, fun w' hw => ?_, fun k hk => key w k rfl hk, fun hx => ?_⟩
 rotate_left
 ·obtain ⟨ad, rfl, h⟩ := hc hx; exact ⟨ad, cap, rfl, h⟩
 have := key w' n hw (Nat.le_refl _)
 rwa [← hl, List.take_length] at this
theorem slCells_sound (hst : StR B β H w) {c : C} {u : Value} (hr : Rep B β H w c u) {sz n : Nat} {cs : List C} {pu : Bool} (h : slCells H sz c = some (cs, n, pu)) :
  ∃ xs, All2 (Rep B β H w) cs xs ∧ IsSl P w sz n xs u ∧ (pu = true → cs.all C.imm = true) := by
 cases c with
 | sl b nil capd cells m =>
  simp only [slCells, kR, kI, kP] at h
  obtain ⟨hl, rfl, rfl, rfl⟩ := h
  obtain ⟨a, cap, xs, rfl, ho, hx⟩ := hr
  have ha := rep_of_repIL hx
  refine ⟨xs, ha, isSl_mk ho.le (by rw [ha.length]; exact hl) (fun hne => ?_), fun _ => repIL_imm hx⟩
  obtain ⟨ad, rfl, hs, _, hc⟩ := ho.cells hne
  obtain ⟨b, o, s⟩ := ad
  simp only at hs; subst hs
  exact ⟨_, rfl, fun j x hj => by rw [Addr.add_lit]; exact hc j x hj⟩
 | row id st off len capd =>
  obtain ⟨pu', mu, d, st', sz', cells, ho, hle, _, hh⟩ := hr
  simp only [slCells, ho, kR, kI, kP] at h
  obtain ⟨⟨rfl, rfl, hd, hl⟩, rfl, rfl, rfl⟩ := h
  obtain ⟨_, _, a, cap, rfl, h1, h2, h3, h4⟩ := hh rfl
  obtain ⟨g1, g2, g3, g4, arr, e, hb, hsz, ha⟩ := hst.live id _ ho
  refine ⟨_, (ha.drop ((off - d) * sz)).take (len * sz), isSl_mk h1 ?_ (fun hne => ?_), fun hp => all_sub (g4 hp)⟩
  ·have : (off - d) * sz + len * sz ≤ cells.length := by rw [g3, ← Nat.add_mul]; exact Nat.mul_le_mul_right _ (by omega)
   simp; omega
  ·have hcap : 0 < cap := by
    rcases Nat.eq_zero_or_pos cap with h | h
    ·exfalso; apply hne
     have : len = 0 := by omega
     simp [this]
    ·exact h
   refine ⟨_, rfl, fun j x hj => ?_⟩
   rw [h3 hcap, Addr.add_lit]
   rw [List.getElem?_take] at hj
   split at hj
   ·rw [List.getElem?_drop] at hj
    rw [Nat.add_assoc]
    exact cell_list hb hj
   ·cases hj
 | _ => simp only [slCells] at h; cases h
theorem elemT_under {t e : TypeId} (h : elemT P t = some e) : P.underlying t = some (.slice e) := by
 unfold elemT at h
 split at h
 ·rename_i x hx; simp only [kI] at h; subst h; exact hx
 ·cases h
theorem run_append_zero {t u ty e el : TypeId} {sz : Nat} (ht : P.underlying t = some (.slice e)) (hu : P.underlying u = some (.slice el)) (hsz : szT P e = some sz)
  {a : Option Addr} {n cap : Nat} (hle : n ≤ cap) {x : Value} {xs : List Value} (hx : IsSl P w sz 0 xs x) :
  (Builtin.append_ #[t, u] ty #[.slice a n cap, x]).run P w = .ok (.slice a n cap) w := by
 obtain ⟨⟨xa, xc, rfl, _⟩, hl, hf, _, _⟩ := hx
 have hf := hf w rfl
 simp only [Nat.zero_mul, List.length_eq_zero_iff] at hl
 subst hl
 cases a <;> simp [Builtin.append_, run_underlying ht, run_underlying hu, run_szT hsz, Builtin.lenOf, hle, hf, storeCells]
theorem run_append_in {t u ty e el : TypeId} {sz : Nat} (ht : P.underlying t = some (.slice e)) (hu : P.underlying u = some (.slice el)) (hsz : szT P e = some sz)
  {b o n cap m : Nat} {x : Value} {xs : List Value} (hx : IsSl P w sz m xs x) {arr : Array Value} {et : TypeId} (hb : w.heap[b]? = some (.cells arr et (0, 0)))
  (hle : n + m ≤ cap) (hfit : o + n * sz + xs.length ≤ arr.size) (h1 : ∀ v ∈ xs, v.oneCell' = true) :
  (Builtin.append_ #[t, u] ty #[.slice (some ⟨b, o, none⟩) n cap, x]).run P w = .ok (.slice (some ⟨b, o, none⟩) (n + m) cap) (w.setRow b (splice (o + n * sz) xs arr.toList).toArray) := by
 obtain ⟨⟨xa, xc, rfl, _⟩, hl, hf, _, _⟩ := hx
 have hf := hf w rfl
 have hst := run_storeCells_at P b (o + n * sz) et xs 0 arr w hb (by simpa using hfit) h1
 simp only [Nat.add_zero] at hst
 simp [Builtin.append_, run_underlying ht, run_underlying hu, run_szT hsz, Builtin.lenOf, hle, hf, Addr.add_lit, hst, splice]
theorem run_append_out {t u ty e el : TypeId} {i : TypeInfo} {z : Value} (ht : P.underlying t = some (.slice e)) (hu : P.underlying u = some (.slice el)) (hi : P.info? e = some i) (hz : i.zero = some z)
  {a : Option Addr} {n cap m : Nat} {s x : Value} {olds xs : List Value} (hs : s = .slice a n cap) (ho : IsSl P w i.size n olds s) (hx : IsSl P w i.size m xs x) (hgt : cap < n + m) (hmax : n + m ≤ maxLen) (hby : (n + m) * i.bytes ≤ maxBytes) :
  ∃ cap' w' zs, (Builtin.append_ #[t, u] ty #[s, x]).run P w = .ok (.slice (some ⟨w.heap.size, 0, none⟩) (n + m) cap') w' ∧ n + m ≤ cap' ∧ zs.length = (cap' - (n + m)) * z.cells.size ∧
   New w (.cells (olds ++ xs ++ zs).toArray e (0, 0)) w' := by
 subst hs
 obtain ⟨_, hlo, hfo, _, _⟩ := ho
 obtain ⟨⟨xa, xc, rfl, _⟩, hl, hf, _, _⟩ := hx
 have hf := hf w.drew rfl
 have hfo := hfo w.drew rfl
 have hn : ¬ (n + m ≤ cap) := by omega
 have h63' : ¬ (9223372036854775807 < ((n : Int) + (m : Int))) := by simp only [maxLen] at hmax; omega
 have h48' : ¬ (281474976710656 < Builtin.nextslicecap (n + m) cap * i.bytes) := by have := growslice_fits hgt hby; omega
 refine ⟨grownCap w (n + m) cap e, w.drew.alloc (.cells (olds ++ xs ++ (Builtin.zeroCells z.cells (grownCap w (n + m) cap e - (n + m))).toList).toArray e), _, ?_, grownCap_ge _ _ _ _, ?_, ⟨rfl, rfl, rfl, rfl⟩⟩
 ·simp [Builtin.append_, run_underlying ht, run_underlying hu, sizeOf, typeInfo, zeroValue, hi, hz, Builtin.lenOf, hn, h63', h48', Question.forced, hf, hfo, newRow, grownCap]
  congr 2
  apply Array.ext'
  simp
 ·simp [Builtin.zeroCells]
theorem zeroC_info {e : TypeId} {zs : List C} (h : zeroC P e = some zs) : ∃ i z, P.info? e = some i ∧ i.zero = some z ∧ z.cells.size = i.size ∧ zs.length = i.size ∧ zs.all C.live = true ∧ zs = z.cells.toList.map C.ofV := by
 unfold zeroC at h
 simp only [kB, kR, kI] at h
 obtain ⟨i, hi, z, hz, ⟨hl, hs⟩, rfl⟩ := h
 exact ⟨i, z, hi, hz, by simpa using hs, hs, hl, rfl⟩
theorem rowNew_sound (hst : StR B β H w) {pu : Bool} {sz n cap : Nat} {cs : List C} {xs zs : List Value} {e : TypeId} {w' : World} (hsz : 0 < sz) (hc : All2 (Rep B β H w) cs xs) (hl : cs.length = n * sz) (hpu : pu = true → cs.all C.imm = true)
  (hcap : n ≤ cap) (hzs : zs.length = (cap - n) * sz) (hn : New w (.cells (xs ++ zs).toArray e (0, 0)) w') :
  StR B (upd β H.length (w.heap.size, 0)) (rowNew H pu sz n cs).2 w' ∧ Stp β H w (upd β H.length (w.heap.size, 0)) (rowNew H pu sz n cs).2 w' ∧
   Rep B (upd β H.length (w.heap.size, 0)) (rowNew H pu sz n cs).2 w' (rowNew H pu sz n cs).1 (.slice (some ⟨w.heap.size, 0, none⟩) n cap) := by
 have hxl := hc.length
 have stp := hn.stp hst (.row pu true 0 n sz cs) 0
 have htot : (xs ++ zs).length = cap * sz := by
  rw [List.length_append, hxl, hl, hzs, ← Nat.add_mul]; congr 1; omega
 refine ⟨hn.str hst _ 0 ⟨hsz, Nat.zero_le _, by simpa using hl, hpu, _, e, by rw [upd_same]; exact hn.new, ?_, ?_⟩, stp, ?_⟩
 ·rw [upd_same]; simp only [List.size_toArray, htot, hl, Nat.zero_add]; exact Nat.mul_le_mul_right _ hcap
 ·rw [upd_same]
  simp only [List.drop_zero]
  rw [show cs.length = xs.length from hxl.symm, List.take_left]
  exact hc.mono fun _ _ => Rep.mono stp
 ·refine ⟨pu, true, 0, n, sz, cs, by simp [rowNew], Nat.le_refl _, ⟨_, _, _, rfl⟩, fun _ => ?_⟩
  rw [upd_same]
  refine ⟨Nat.le_refl _, by omega, _, cap, rfl, hcap, (fun h => by cases h), (fun _ => by simp), fun _ => ⟨_, e, (0, 0), hn.new, ?_⟩⟩
  simp only [List.size_toArray, htot, Nat.sub_self, Nat.zero_add]
theorem onto_sound (hst : StR B β H w) {id : Nat} {pu : Bool} {d st sz : Nat} {cs : List C} (ho : H[id]? = some (.row pu true d st sz cs)) {off n m : Nat} {all : List C} {alls : List Value}
  (hr : All2 (Rep B β H w) all alls) (himm : pu = true → all.all C.imm = true) (hcs : all.length = (n + m) * sz) (hfr : off + n = st)
  {b' o' : Nat} {w' : World} {arrn : Array Value} {en : TypeId} {capn : Nat} (turn : Turn β w id (.row pu true d st sz cs) (b', o') (.row pu true off (st + m) sz all) w') (hblt : b' < w'.heap.size)
  (hbn : w'.heap[b']? = some (.cells arrn en (0, 0))) (htk : (arrn.toList.drop o').take all.length = alls) (hszn : arrn.size = o' + capn * sz) (hcapn : n + m ≤ capn) :
  StR B (upd β id (b', o')) (H.set id (.row pu true off (st + m) sz all)) w' ∧ Stp β H w (upd β id (b', o')) (H.set id (.row pu true off (st + m) sz all)) w' ∧
   Rep B (upd β id (b', o')) (H.set id (.row pu true off (st + m) sz all)) w' (.row id (st + m) off (n + m) false) (.slice (some ⟨b', o', none⟩) (n + m) capn) := by
 have stp := turn.stp hst ho
 obtain ⟨g1, _⟩ := hst.live id _ ho
 refine ⟨turn.str hst ho hblt ⟨g1, by omega, ?_, himm, arrn, en, by rw [upd_same]; exact hbn, ?_, ?_⟩, stp, ?_⟩
 ·rw [hcs]; congr 1; omega
 ·rw [upd_same, hszn, hcs]; exact Nat.add_le_add_left (Nat.mul_le_mul_right _ hcapn) _
 ·rw [upd_same]; simp only; rw [htk]; exact hr.mono fun _ _ => Rep.mono stp
 ·refine ⟨pu, true, off, st + m, sz, all, by simp [lt_of_get ho], Nat.le_refl _, ⟨_, _, _, rfl⟩, fun _ => ?_⟩
  rw [upd_same]
  exact ⟨Nat.le_refl _, by omega, _, capn, rfl, hcapn, (fun h => by cases h), (fun _ => by simp), fun _ => ⟨arrn, en, (0, 0), hbn, by rw [hszn]; simp⟩⟩
theorem take_splice {olds news arr : List Value} {o : Nat} (h : ∀ j x, olds[j]? = some x → arr[o + j]? = some x) (hl : o + olds.length + news.length ≤ arr.length) :
  ((splice (o + olds.length) news arr).drop o).take (olds.length + news.length) = olds ++ news := by
 rw [sub_splice (by omega) (by omega)]
 have e : (arr.drop o).take (olds.length + news.length) = olds ++ ((arr.drop o).take (olds.length + news.length)).drop olds.length := by
  apply List.ext_getElem?
  intro j
  by_cases hj : j < olds.length
  ·rw [List.getElem?_append_left hj, List.getElem?_take, if_pos (by omega), List.getElem?_drop, List.getElem?_eq_getElem hj]
   exact h j _ (List.getElem?_eq_getElem hj)
  ·rw [List.getElem?_append_right (by omega), List.getElem?_drop]
   congr 1; omega
 rw [e]
 unfold splice
 rw [List.take_left]
 simp
theorem onto_in (hst : StR B β H w) {id : Nat} {pu : Bool} {d st sz : Nat} {cs : List C} (ho : H[id]? = some (.row pu true d st sz cs)) {off n m : Nat} {old new : List C} {olds news : List Value}
  (hr1 : All2 (Rep B β H w) old olds) (hr2 : All2 (Rep B β H w) new news) (himm : pu = true → (old ++ new).all C.imm = true) (hol : olds.length = n * sz) (hnl : news.length = m * sz) (hfr : off + n = st) (hm : 0 < m) (hd : d ≤ off)
  {arr : Array Value} {et : TypeId} (hb : w.heap[(β id).1]? = some (.cells arr et (0, 0))) {cap : Nat} (has : arr.size = (β id).2 + (off - d + cap) * sz) (hroom : n + m ≤ cap)
  (hoat : ∀ j x, olds[j]? = some x → arr.toList[(β id).2 + (off - d) * sz + j]? = some x) {w' : World} (hw' : w' = w.setRow (β id).1 (splice ((β id).2 + (off - d) * sz + n * sz) news arr.toList).toArray) :
  ∃ β', StR B β' (H.set id (.row pu true off (st + m) sz (old ++ new))) w' ∧ Stp β H w β' (H.set id (.row pu true off (st + m) sz (old ++ new))) w' ∧
   Rep B β' (H.set id (.row pu true off (st + m) sz (old ++ new))) w' (.row id (st + m) off (n + m) false) (.slice (some ⟨(β id).1, (β id).2 + (off - d) * sz, none⟩) (n + m) cap) := by
 subst hw'
 have hall := hr1.append hr2
 have hcs : (old ++ new).length = (n + m) * sz := by rw [List.length_append, ← hr1.length, ← hr2.length, hol, hnl, Nat.add_mul]
 have hfit : (β id).2 + (off - d) * sz + n * sz + news.length ≤ arr.toList.length := by
  rw [show arr.toList.length = arr.size from Array.length_toList, has, hnl, Nat.add_assoc, Nat.add_assoc, ← Nat.add_mul, ← Nat.add_mul]
  exact Nat.add_le_add_left (Nat.mul_le_mul_right _ (by omega)) _
 have hlen : (splice ((β id).2 + (off - d) * sz + n * sz) news arr.toList).length = arr.size := by rw [length_splice hfit]; exact Array.length_toList
 have turn : Turn β w id (.row pu true d st sz cs) ((β id).1, (β id).2 + (off - d) * sz) (.row pu true off (st + m) sz (old ++ new)) (w.setRow (β id).1 (splice ((β id).2 + (off - d) * sz + n * sz) news arr.toList).toArray) :=
  ⟨rfl, rfl, rfl, by simp, fun b _ h => by
   rcases h with h | h
   ·exact setRow_other w _ _ _ h
   ·exact absurd h (by simp [O.mut]), .inl rfl, fun _ => rfl, ⟨rfl, rfl, by omega, fun h => by omega⟩, rfl⟩
 have htk : ((splice ((β id).2 + (off - d) * sz + n * sz) news arr.toList).drop ((β id).2 + (off - d) * sz)).take (old ++ new).length = olds ++ news := by
  rw [← hall.length, List.length_append, ← hol]
  exact take_splice hoat (by rw [hol]; exact hfit)
 have hblt : (β id).1 < (w.setRow (β id).1 (splice ((β id).2 + (off - d) * sz + n * sz) news arr.toList).toArray).heap.size := by simpa using hst.inb id _ ho (by rfl)
 have hsz : (splice ((β id).2 + (off - d) * sz + n * sz) news arr.toList).toArray.size = (β id).2 + (off - d) * sz + cap * sz := by
  rw [List.size_toArray, hlen, has, Nat.add_mul, Nat.add_assoc]
 exact ⟨_, onto_sound hst ho hall himm hcs hfr turn hblt (setRow_heap w _ _ _ _ _ hb) htk hsz hroom⟩
theorem onto_out (hst : StR B β H w) {id : Nat} {pu : Bool} {d st sz : Nat} {cs : List C} (ho : H[id]? = some (.row pu true d st sz cs)) {off n m : Nat} {old new : List C} {olds news : List Value}
  (hr1 : All2 (Rep B β H w) old olds) (hr2 : All2 (Rep B β H w) new news) (himm : pu = true → (old ++ new).all C.imm = true) (hol : olds.length = n * sz) (hnl : news.length = m * sz) (hfr : off + n = st) (hm : 0 < m)
  {cap : Nat} {w' : World} {zs : List Value} {e : TypeId} (hle : n + m ≤ cap) (hzl : zs.length = (cap - (n + m)) * sz) (hN : New w (.cells (olds ++ news ++ zs).toArray e (0, 0)) w') :
  ∃ β', StR B β' (H.set id (.row pu true off (st + m) sz (old ++ new))) w' ∧ Stp β H w β' (H.set id (.row pu true off (st + m) sz (old ++ new))) w' ∧
   Rep B β' (H.set id (.row pu true off (st + m) sz (old ++ new))) w' (.row id (st + m) off (n + m) false) (.slice (some ⟨w.heap.size, 0, none⟩) (n + m) cap) := by
 have hall := hr1.append hr2
 have hcs : (old ++ new).length = (n + m) * sz := by rw [List.length_append, ← hr1.length, ← hr2.length, hol, hnl, Nat.add_mul]
 have turn : Turn β w id (.row pu true d st sz cs) (w.heap.size, 0) (.row pu true off (st + m) sz (old ++ new)) w' :=
  ⟨hN.os, hN.tape, hN.output, by rw [hN.size]; omega, fun b hb _ => hN.old hb, .inr (Nat.le_refl _), fun _ => rfl, ⟨rfl, rfl, by omega, fun h => by omega⟩, rfl⟩
 have hblt : w.heap.size < w'.heap.size := by rw [hN.size]; omega
 have htk : ((olds ++ news ++ zs).toArray.toList.drop 0).take (old ++ new).length = olds ++ news := by
  simp only [List.drop_zero]; rw [← hall.length, List.take_left]
 have hsz : (olds ++ news ++ zs).toArray.size = 0 + cap * sz := by
  rw [List.size_toArray, List.length_append, hall.length, hcs, hzl, ← Nat.add_mul, Nat.zero_add]; congr 1; omega
 exact ⟨_, onto_sound hst ho hall himm hcs hfr turn hblt hN.new htk hsz hle⟩
set_option maxHeartbeats 1000000 in
theorem append_sound {A : Ann} (hst : StR B β H w) {s x : C} {us ux : Value} (hs : Rep B β H w s us) (hx : Rep B β H w x ux) {t u ty el : TypeId} (hu : elemT P u = some el) {c : C} {H' : Heap} (h : appendX P A H t s x = some (c, H')) :
  ∃ β' w' v, (Builtin.append_ #[t, u] ty #[us, ux]).run P w = .ok v w' ∧ StR B β' H' w' ∧ Stp β H w β' H' w' ∧ Rep B β' H' w' c v := by
 unfold appendX at h
 simp only [kB, kR] at h
 obtain ⟨e, he, sz, hsz, by_, hby, zc, hzc, hsz0, ⟨new, m, pure_⟩, hnew, ⟨old, n, opure⟩, hold, h⟩ := h
 simp only at h
 have ht := elemT_under he
 have hu := elemT_under hu
 obtain ⟨i, z, hi, hz, hzs, _⟩ := zeroC_info hzc
 have hisz : i.size = sz := by obtain ⟨i', hi', rfl⟩ := szT_info hsz; rw [hi] at hi'; cases hi'; rfl
 have hiby : i.bytes = by_ := by simp only [byT, hi, kT, kI] at hby; exact hby
 obtain ⟨news, hnr, hnis, hni⟩ := slCells_sound (P := P) hst hx hnew
 obtain ⟨olds, hor, hois, hoi⟩ := slCells_sound (P := P) hst hs hold
 obtain ⟨⟨sa, scap, rfl, hsle⟩, hol, _, _, hoat⟩ := hois
 split at h
 ·rename_i hm
  subst hm
  simp only [kI, kP] at h
  obtain ⟨rfl, rfl⟩ := h
  exact ⟨β, w, _, run_append_zero ht hu hsz hsle hnis, hst, Stp.refl _ _ _, hs⟩
 ·rename_i hm
  split at h
  case isFalse => cases h
  rename_i hcond
  obtain ⟨hlive, hmax, hbytes⟩ := hcond
  simp only [kB] at h
  obtain ⟨⟨new', H1⟩, him, h⟩ := h
  simp only at h
  -- what is appended, in its form
  generalize hpu : (if s.isRow = true then opure else A.pureSl t) = pu at him h
  have step : StR B β H1 w ∧ Stp β H w β H1 w ∧ All2 (Rep B β H1 w) new' news ∧ (pu = true → new'.all C.imm = true) ∧ new'.length = new.length ∧ new'.all C.live = true := by
   by_cases hp : (pu && !pure_) = true
   ·rw [if_pos hp] at him
    obtain ⟨a1, a2, a3, a4, a5, a6⟩ := immL_sound hst hnr him
    exact ⟨a1, a2, a3, fun _ => a4, a5, a6⟩
   ·rw [if_neg hp] at him
    simp only [kI, kP] at him
    obtain ⟨rfl, rfl⟩ := him
    refine ⟨hst, Stp.refl _ _ _, hnr, fun hpt => hni ?_, rfl, hlive⟩
    subst hpt
    simpa using hp
  obtain ⟨hst1, stp1, hnr1, hnimm, hnlen, hnlive⟩ := step
  have hor1 := hor.mono fun _ _ => Rep.mono stp1
  have hs1 := Rep.mono stp1 hs
  have hnl := hnis.len
  have hcs : (old ++ new').length = (n + m) * sz := by
   rw [List.length_append, ← hor.length, hol, ← hnr1.length, hnl, Nat.add_mul]
  have himm : pu = true → s.isRow = false ∨ True → (old ++ new').all C.imm = true := by
   intro hp _
   rw [List.all_append, hnimm hp, Bool.and_true]
   apply hoi
   cases hr : s.isRow with
   | true => rw [hr] at hpu; simp only [if_true] at hpu; rw [hpu]; exact hp
   | false =>
    cases s with
    | sl b nil capd cells k =>
     simp only [slCells, kR, kI, kP] at hold
     exact hold.2.2.2.symm
    | row => cases hr
    | _ => simp only [slCells] at hold; cases hold
  -- a copy, into a new block
  have out : scap < n + m → ∃ cap' w' zs, (Builtin.append_ #[t, u] ty #[.slice sa n scap, ux]).run P w = .ok (.slice (some ⟨w.heap.size, 0, none⟩) (n + m) cap') w' ∧ n + m ≤ cap' ∧ zs.length = (cap' - (n + m)) * sz ∧
    New w (.cells (olds ++ news ++ zs).toArray e (0, 0)) w' := by
   intro hgt
   have := run_append_out (P := P) (w := w) (ty := ty) (s := .slice sa n scap) (x := ux) (olds := olds) (xs := news) ht hu hi hz rfl (by rw [hisz]; exact ⟨⟨_, _, rfl, hsle⟩, hol, ‹_›, ‹_›, hoat⟩) (by rw [hisz]; exact hnis) hgt hmax (by rw [hiby]; exact hbytes)
   rw [hzs, hisz] at this
   exact this
  have fresh : scap < n + m → (rowNew H1 pu sz (n + m) (old ++ new')) = (c, H') → ∃ β' w' v, (Builtin.append_ #[t, u] ty #[.slice sa n scap, ux]).run P w = .ok v w' ∧ StR B β' H' w' ∧ Stp β H w β' H' w' ∧ Rep B β' H' w' c v := by
   intro hgt heq
   obtain ⟨cap', w', zs, hrun, hle, hzl, hN⟩ := out hgt
   obtain ⟨r1, r2, r3⟩ := rowNew_sound (B := B) hst1 (pu := pu) hsz0 (hor1.append hnr1) hcs (fun hp => himm hp (.inr trivial)) hle hzl hN
   rw [heq] at r1 r2 r3
   exact ⟨_, w', _, hrun, r1, stp1.trans r2, r3⟩
  cases s with
  | sl b nil capd cells k =>
   simp only [kR, kI] at h
   obtain ⟨hcd, h⟩ := h
   obtain ⟨a, cap, xs, heq, ho, hx⟩ := hs
   simp only [Value.slice.injEq] at heq
   obtain ⟨rfl, rfl, rfl⟩ := heq
   have hgt : scap < n + m := by
    have hc := ho.capd hcd
    clear fresh out
    omega
   exact fresh hgt h
  | row id st off len capd =>
   obtain ⟨pu0, mu0, d, st0, sz0, cells0, ho, hle0, _, hh⟩ := hs
   have hv : st = st0 ∧ sz = sz0 ∧ d ≤ off ∧ off + len ≤ st ∧ old = sub ((off - d) * sz) (len * sz) cells0 ∧ n = len ∧ opure = pu0 := by
    simp only [slCells, ho, kR, kI, kP] at hold
    obtain ⟨⟨a1, a2, a3, a4⟩, a5, a6, a7⟩ := hold
    exact ⟨a1, a2, a3, a4, a5.symm, a6.symm, a7.symm⟩
   obtain ⟨rfl, rfl, hd, hl, hold', rfl, rfl⟩ := hv
   have hh := hh rfl
   dsimp only at h
   split at h
   ·rename_i hcd
    simp only [kI] at h
    obtain ⟨_, _, a, cap, heq, h1, h2, h3, h4⟩ := hh
    simp only [Value.slice.injEq] at heq
    obtain ⟨rfl, _, rfl⟩ := heq
    have hgt : scap < n + m := by
     have hc := h2 hcd
     clear fresh out
     omega
    exact fresh hgt h
   ·rename_i hcd
    obtain ⟨mu1, d1, st1, cs1, ho1, hle1, hk1⟩ := stp1.row ho
    simp only [ho1] at h
    split at h
    case isFalse =>
     -- inside the row
     simp only [kR, kI, kP] at h
     obtain ⟨⟨rfl, hfr, hmu⟩, rfl, rfl⟩ := h
     obtain ⟨_, rfl, _⟩ := hk1 rfl
     subst hmu
     obtain ⟨_, _, a, cap, heq, h1, h2, h3, h4⟩ := hh
     simp only [Value.slice.injEq] at heq
     obtain ⟨rfl, _, rfl⟩ := heq
     obtain ⟨g1, g2, g3, g4, arr, et, hb, hasz, ha⟩ := hst1.live id _ ho1
     obtain ⟨arr', e', fr', hb', has'⟩ := h4 (by simpa using hcd)
     rw [hb] at hb'
     simp only [kI, Obj.cells.injEq] at hb'
     obtain ⟨rfl, rfl, rfl⟩ := hb'
     have hpu' : opure = pu := by simpa [C.isRow] using hpu
     subst hpu'
     have hm0 : 0 < m := Nat.pos_of_ne_zero hm
     have hcl : (off - d1) * sz + n * sz + m * sz ≤ cs1.length := by
      rw [g3, ← Nat.add_mul, ← Nat.add_mul]; exact Nat.mul_le_mul_right _ (by clear fresh out; omega)
     have hnl' : new'.length = m * sz := by rw [← hnr1.length, hnl]
     have hroom : n + m ≤ scap := by
      have q1 : cs1.length ≤ (off - d1 + scap) * sz := by clear fresh out; omega
      rw [g3] at q1
      have := Nat.le_of_mul_le_mul_right q1 hsz0
      clear fresh out
      omega
     have haddr := h3 (by clear fresh out; omega)
     subst haddr
     have hone : ∀ v ∈ news, v.oneCell' = true := fun v hv => by
      obtain ⟨c, hc, hr⟩ := hnr1.mem hv
      exact rep_one hr (by simpa using List.all_eq_true.1 hnlive c hc)
     have hfit : (β id).2 + (off - d1) * sz + n * sz + news.length ≤ arr.size := by
      rw [has', hnl, Nat.add_assoc, Nat.add_assoc, ← Nat.add_mul, ← Nat.add_mul]
      exact Nat.add_le_add_left (Nat.mul_le_mul_right _ (by clear fresh out; omega)) _
     have hrun := run_append_in (P := P) (ty := ty) ht hu hsz hnis hb hroom hfit hone
     have hfa : (β id).2 + ((off - d1) * sz + n * sz) + news.length ≤ arr.toList.length := by
      rw [show arr.toList.length = arr.size from Array.length_toList]; clear fresh out; omega
     have turn : Turn β w id (.row opure true d1 st1 sz cs1) (β id) (.row opure true d1 st1 sz (splice ((off - d1) * sz + n * sz) new' cs1)) (w.setRow (β id).1 (splice ((β id).2 + ((off - d1) * sz + n * sz)) news arr.toList).toArray) := by
      refine setRow_turn rfl ⟨rfl, rfl, Nat.le_refl _, fun _ => ⟨rfl, rfl, fun arr' e' fr' h => ?_⟩⟩
      rw [hb] at h
      simp only [kI, Obj.cells.injEq] at h
      obtain ⟨rfl, rfl, _⟩ := h
      exact ⟨_, _, _, setRow_heap w _ _ _ _ _ hb, by rw [List.size_toArray, length_splice hfa]; simp⟩
     have stp := turn.stp hst1 ho1
     rw [upd_self] at stp
     have str := turn.str hst1 ho1 (by simpa using hst1.inb id _ ho1 (by rfl))
     rw [upd_self] at str
     have e3 : (β id).2 + (off - d1) * sz + n * sz = (β id).2 + ((off - d1) * sz + n * sz) := Nat.add_assoc _ _ _
     rw [e3] at hrun
     refine ⟨β, _, _, hrun, str ⟨g1, g2, by rw [length_splice (by clear fresh out; omega)]; exact g3, fun hp => ?_, _, et, setRow_heap w _ _ _ _ _ hb, ?_, ?_⟩, stp1.trans stp, ?_⟩
     ·rw [List.all_eq_true]
      intro y hy
      unfold splice at hy
      simp only [List.mem_append] at hy
      rcases hy with (hy | hy) | hy
      ·exact List.all_eq_true.1 (g4 hp) y (List.mem_of_mem_take hy)
      ·exact List.all_eq_true.1 (hnimm hp) y hy
      ·exact List.all_eq_true.1 (g4 hp) y (List.mem_of_mem_drop hy)
     ·rw [length_splice (by clear fresh out; omega), List.size_toArray, length_splice hfa]
      simpa using hasz
     ·rw [length_splice (by clear fresh out; omega)]
      simp only
      rw [sub_splice (by clear fresh out; omega) (by simpa using hasz)]
      exact (ha.splice hnr1 _).mono fun _ _ => Rep.mono stp
     ·refine ⟨opure, true, d1, st1, sz, splice ((off - d1) * sz + n * sz) new' cs1, by simp [lt_of_get ho1], Nat.le_refl _, ⟨_, _, _, rfl⟩, fun _ => ?_⟩
      exact ⟨hd, by clear fresh out; omega, _, scap, rfl, hroom, (fun h => by cases h), (fun _ => rfl), fun _ => ⟨_, et, (0, 0), setRow_heap w _ _ _ _ _ hb, by rw [List.size_toArray, length_splice hfa]; simpa using has'⟩⟩
    rename_i hc1
    simp only [kI, kP] at h
    obtain ⟨rfl, hfr, hmu⟩ := hc1
    obtain ⟨rfl, rfl⟩ := h
    obtain ⟨_, rfl, _⟩ := hk1 rfl
    subst hmu
    obtain ⟨_, _, a, cap, heq, h1, h2, h3, h4⟩ := hh
    simp only [Value.slice.injEq] at heq
    obtain ⟨rfl, _, rfl⟩ := heq
    obtain ⟨g1, g2, g3, g4, arr, et, hb, hasz, ha⟩ := hst1.live id _ ho1
    obtain ⟨arr', e', fr', hb', has'⟩ := h4 (by simpa using hcd)
    rw [hb] at hb'
    simp only [kI, Obj.cells.injEq] at hb'
    obtain ⟨rfl, rfl, rfl⟩ := hb'
    have hpu' : opure = pu := by simpa [C.isRow] using hpu
    subst hpu'
    have hm0 : 0 < m := Nat.pos_of_ne_zero hm
    by_cases hroom : n + m ≤ scap
    ·-- in place
     have haddr := h3 (by clear fresh out; omega)
     subst haddr
     have hone : ∀ v ∈ news, v.oneCell' = true := fun v hv => by
      obtain ⟨c, hc, hr⟩ := hnr1.mem hv
      exact rep_one hr (by simpa using List.all_eq_true.1 hnlive c hc)
     have hfit : (β id).2 + (off - d1) * sz + n * sz + news.length ≤ arr.size := by
      rw [has', hnl, Nat.add_assoc, Nat.add_assoc, ← Nat.add_mul, ← Nat.add_mul]
      exact Nat.add_le_add_left (Nat.mul_le_mul_right _ (by clear fresh out; omega)) _
     have hrun := run_append_in (P := P) (ty := ty) ht hu hsz hnis hb hroom hfit hone
     have hat : ∀ j x, olds[j]? = some x → arr.toList[(β id).2 + (off - d1) * sz + j]? = some x := by
      intro j x hj
      obtain ⟨ad, _, he, hc⟩ := hoat (fun e => by subst e; simp at hj)
      simp only [Value.slice.injEq, kI] at he
      obtain ⟨rfl, _, _⟩ := he
      have := hc j x hj
      rw [Addr.add_lit, cell_at hb] at this
      simpa using this
     obtain ⟨β', r1, r2, r3⟩ := onto_in hst1 ho1 hor1 hnr1 (fun hp => himm hp (.inr trivial)) hol hnl hfr hm0 hd hb has' hroom hat rfl
     exact ⟨β', _, _, hrun, r1, stp1.trans r2, r3⟩
    ·-- a copy
     have hgt : scap < n + m := Nat.lt_of_not_le hroom
     obtain ⟨cap', w', zs, hrun, hle', hzl, hN⟩ := out hgt
     obtain ⟨β', r1, r2, r3⟩ := onto_out hst1 ho1 hor1 hnr1 (fun hp => himm hp (.inr trivial)) hol hnl hfr hm0 hle' hzl hN
     exact ⟨β', _, _, hrun, r1, stp1.trans r2, r3⟩
  | _ => simp only [slCells] at hold; cases hold
end
end Go.Lg
end
section
namespace Go.Lg
section
variable {P : Program} {B : Nat → Prop} {β : Nat → Nat × Nat} {H : Heap} {w : World}
theorem nmin (a b : Nat) : Nat.min a b = min a b := rfl
theorem copy_sound (hst : StR B β H w) {d s : C} {ud us : Value} (hd : Rep B β H w d ud) (hs : Rep B β H w s us) {t ty : TypeId} {ts : Array TypeId} (hts : ts[0]? = some t) {k : Nat} {H' : Heap} (h : copyX P H t d s = some (k, H')) :
  ∃ w', (Builtin.copy_ ts ty #[ud, us]).run P w = .ok (goInt k) w' ∧ StR B β H' w' ∧ Stp β H w β H' w' := by
 unfold copyX at h
 simp only [kB] at h
 obtain ⟨e, he, sz, hsz, ⟨cs, m, pure_⟩, hcs, h⟩ := h
 simp only at h
 have ht := elemT_under he
 obtain ⟨xs, hr, his, himm⟩ := slCells_sound (P := P) hst hs hcs
 obtain ⟨⟨sa, sc, rfl, _⟩, hxl, _, hfk, _⟩ := his
 cases d with
 | sl b nil capd cells n =>
  cases nil with
  | false => cases h
  | true =>
   simp only [kI, kP] at h
   obtain ⟨rfl, rfl⟩ := h
   obtain ⟨a, cap, ys, rfl, ho, _⟩ := hd
   obtain ⟨rfl, rfl, rfl⟩ := ho.nil1 rfl
   have := hfk 0 (Nat.zero_le _)
   refine ⟨w, ?_, hst, Stp.refl _ _ _⟩
   simp at this
   simp [Builtin.copy_, hts, run_underlying ht, run_szT hsz, Builtin.lenOf, this, goInt]
 | row id st off len capd =>
  obtain ⟨pu, mu, d, st', sz', cells, ho, hle, _, hh⟩ := hd
  simp only [ho] at h
  cases mu with
  | false => cases h
  | true =>
   simp only [kR, kI, kP] at h
   obtain ⟨⟨rfl, rfl, hd, hl, hpp, hlive⟩, rfl, rfl⟩ := h
   obtain ⟨_, _, a, cap, rfl, h1, h2, h3, h4⟩ := hh rfl
   obtain ⟨g1, g2, g3, g4, arr, et, hb, hasz, ha⟩ := hst.live id _ ho
   have hk1 : min m len ≤ m := Nat.min_le_left _ _
   have hk2 : min m len ≤ len := Nat.min_le_right _ _
   have hrk := hr.take (min m len * sz)
   have hkl : (cs.take (min m len * sz)).length = min m len * sz := by
    rw [List.length_take, ← hr.length, hxl, Nat.min_eq_left (Nat.mul_le_mul_right _ hk1)]
   have hkx : (xs.take (min m len * sz)).length = min m len * sz := by rw [hrk.length, hkl]
   have hfit : (off - d) * sz + min m len * sz ≤ cells.length := by
    rw [g3, ← Nat.add_mul]; exact Nat.mul_le_mul_right _ (by omega)
   have hfa : (β id).2 + (off - d) * sz + (xs.take (min m len * sz)).length ≤ arr.toList.length := by
    rw [hkx, show arr.toList.length = arr.size from Array.length_toList]; omega
   have hf := hfk (min m len) hk1
   have hrun : (Builtin.copy_ ts ty #[.slice (some a) len cap, .slice sa m sc]).run P w = .ok (goInt (min m len : Nat)) (w.setRow (β id).1 (splice ((β id).2 + (off - d) * sz) (xs.take (min m len * sz)) arr.toList).toArray) := by
    by_cases hz : min m len = 0
    ·rw [hz] at hf
     simp at hf
     have : (splice ((β id).2 + (off - d) * sz) ([] : List Value) arr.toList).toArray = arr := by simp [splice]
     rw [hz, Nat.zero_mul, List.take_zero, this, setRow_self w _ arr et (0, 0) hb]
     simp [Builtin.copy_, hts, run_underlying ht, run_szT hsz, Builtin.lenOf, nmin, hz, hf, storeCells]
    ·have hcap : 0 < cap := by omega
     have haddr := h3 hcap
     subst haddr
     have hone : ∀ v ∈ xs.take (min m len * sz), v.oneCell' = true := fun v hv => by
      obtain ⟨c, hc, hr⟩ := hrk.mem hv
      exact rep_one hr (List.all_eq_true.1 hlive c (List.mem_of_mem_take hc))
     have hst' := run_storeCells_at P (β id).1 ((β id).2 + (off - d) * sz) et (xs.take (min m len * sz)) 0 arr w hb (by simpa using hfa) hone
     simp only [Nat.add_zero] at hst'
     simp [Builtin.copy_, hts, run_underlying ht, run_szT hsz, Builtin.lenOf, nmin, hf, hst', splice]
   have turn : Turn β w id (.row pu true d st sz cells) (β id) (.row pu true d st sz (splice ((off - d) * sz) (cs.take (min m len * sz)) cells)) (w.setRow (β id).1 (splice ((β id).2 + (off - d) * sz) (xs.take (min m len * sz)) arr.toList).toArray) := by
    refine setRow_turn rfl ⟨rfl, rfl, Nat.le_refl _, fun _ => ⟨rfl, rfl, fun arr' e' fr' h => ?_⟩⟩
    rw [hb] at h
    simp only [kI, Obj.cells.injEq] at h
    obtain ⟨rfl, rfl, _⟩ := h
    exact ⟨_, _, _, setRow_heap w _ _ _ _ _ hb, by rw [List.size_toArray, length_splice hfa]; simp⟩
   have stp := turn.stp hst ho
   rw [upd_self] at stp
   have str := turn.str hst ho (by simpa using hst.inb id _ ho (by rfl))
   rw [upd_self] at str
   refine ⟨_, hrun, str ⟨g1, g2, by rw [length_splice (by omega)]; exact g3, fun hp => ?_, _, et, setRow_heap w _ _ _ _ _ hb, ?_, ?_⟩, stp⟩
   ·rw [List.all_eq_true]
    intro y hy
    unfold splice at hy
    simp only [List.mem_append] at hy
    rcases hy with (hy | hy) | hy
    ·exact List.all_eq_true.1 (g4 hp) y (List.mem_of_mem_take hy)
    ·exact List.all_eq_true.1 (himm (hpp hp)) y (List.mem_of_mem_take hy)
    ·exact List.all_eq_true.1 (g4 hp) y (List.mem_of_mem_drop hy)
   ·rw [length_splice (by omega), List.size_toArray, length_splice hfa]
    simpa using hasz
   ·rw [length_splice (by omega)]
    simp only
    rw [sub_splice (by omega) (by simpa using hasz)]
    exact (ha.splice hrk _).mono fun _ _ => Rep.mono stp
 | _ => simp only at h; cases h
theorem run_slice3 {t e : TypeId} {sz : Nat} (ht : P.underlying t = some (.slice e)) (hsz : szT P e = some sz) {a : Option Addr} {len cap l h m : Nat} {lo hi mx : Option Value}
  (hlo : (lo = none ∧ l = 0) ∨ ∃ k, lo = some (.int k l)) (hhi : (hi = none ∧ mx = none ∧ h = len) ∨ ∃ k, hi = some (.int k h)) (hmx : (mx = none ∧ m = cap) ∨ ∃ k, mx = some (.int k m))
  (h1 : l ≤ h) (h2 : h ≤ m) (h3 : m ≤ cap) :
  (Instr.sliceAt t (.slice a len cap) lo hi mx).run P w = .ok (.slice (if m = l then a else a.map (·.add (l * sz))) (h - l) (m - l)) w := by
 have b1 : ∀ k (y : Nat) c, l ≤ y → (Instr.sliceBound (.int k (l : Int)) y c).run P w = .ok l w := fun k y c hy => by rw [run_sliceBound w k l y c (by omega) (by omega)]; simp
 have b2 : ∀ k (y : Nat) c, h ≤ y → (Instr.sliceBound (.int k (h : Int)) y c).run P w = .ok h w := fun k y c hy => by rw [run_sliceBound w k h y c (by omega) (by omega)]; simp
 have b3 : ∀ k (y : Nat) c, m ≤ y → (Instr.sliceBound (.int k (m : Int)) y c).run P w = .ok m w := fun k y c hy => by rw [run_sliceBound w k m y c (by omega) (by omega)]; simp
 rcases hmx with ⟨rfl, rfl⟩ | ⟨km, rfl⟩
 ·rcases hhi with ⟨rfl, _, rfl⟩ | ⟨kh, rfl⟩ <;> rcases hlo with ⟨rfl, rfl⟩ | ⟨kl, rfl⟩ <;>
   simp [Instr.sliceAt, Instr.slice, Instr.sliceBounds, run_underlying ht, run_szT hsz, b1, b2, h1, h2]
 ·rcases hhi with ⟨_, hc, _⟩ | ⟨kh, rfl⟩
  ·cases hc
  ·rcases hlo with ⟨rfl, rfl⟩ | ⟨kl, rfl⟩ <;>
    simp [Instr.sliceAt, Instr.slice, Instr.sliceBounds, run_underlying ht, run_szT hsz, b1, b2, b3, h1, h2, h3]
inductive OptR (B : Nat → Prop) (β : Nat → Nat × Nat) (H : Heap) (w : World) : Option X → Option Value → Prop where
 | none : OptR B β H w none none
 | some {x : X} {v : Value} : RepX B β H w x v → OptR B β H w (some x) (some v)
theorem optInt {lo : Option X} {lv : Option Value} (hlo : OptR B β H w lo lv) {d l : Int} (h : optI d lo = some l) : (lv = none ∧ lo = none ∧ l = d) ∨ ∃ k, lv = some (.int k l) := by
 cases hlo with
 | none => simp only [optI, kI] at h; exact .inl ⟨rfl, rfl, h.symm⟩
 | some hr =>
  simp only [optI] at h
  obtain ⟨k, rfl⟩ := repX_int hr h
  exact .inr ⟨k, rfl⟩
theorem capInt {mx : Option X} {mv : Option Value} (hmx : OptR B β H w mx mv) {h : Int} {hi dflt cd : Bool} (e : capI h hi dflt mx = some cd) :
  (mv = none ∧ mx = none ∧ cd = dflt) ∨ ((∃ k, mv = some (.int k h)) ∧ hi = true ∧ cd = true ∧ mx.isNone = false) := by
 cases hmx with
 | none => simp only [capI, kI] at e; exact .inl ⟨rfl, rfl, e.symm⟩
 | some hr =>
  simp only [capI, kB, kR, kI] at e
  obtain ⟨m, hm, ⟨rfl, hhi⟩, rfl⟩ := e
  obtain ⟨k, rfl⟩ := repX_int hr hm
  exact .inr ⟨⟨k, rfl⟩, hhi, rfl, rfl⟩
theorem run_slice_str {t : TypeId} (hu : P.underlying t = some .string) {s : ByteArray} {l h : Int} {lv hv : Option Value} (h0 : 0 ≤ l) (h1 : l ≤ h) (h2 : h ≤ s.size)
  (hl : (lv = none ∧ l = 0) ∨ ∃ k, lv = some (.int k l)) (hh : (hv = none ∧ h = s.size) ∨ ∃ k, hv = some (.int k h)) :
  (Instr.sliceAt t (.string s) lv hv none).run P w = .ok (.string (s.extract l.toNat h.toNat)) w := by
 have b1 : ∀ k (y : Nat) c, l ≤ y → (Instr.sliceBound (.int k l) y c).run P w = .ok l.toNat w := fun k y c hy => run_sliceBound w k l y c h0 hy
 have b2 : ∀ k (y : Nat) c, h ≤ y → (Instr.sliceBound (.int k h) y c).run P w = .ok h.toNat w := fun k y c hy => run_sliceBound w k h y c (by omega) hy
 have h1' : l ≤ (h.toNat : Int) := by omega
 have hm : max h 0 = h := by omega
 rcases hl with ⟨rfl, rfl⟩ | ⟨kl, rfl⟩ <;> rcases hh with ⟨rfl, rfl⟩ | ⟨kh, rfl⟩
 ·simp [Instr.sliceAt, Instr.slice, Instr.sliceBounds, run_underlying hu]
 ·simp [Instr.sliceAt, Instr.slice, Instr.sliceBounds, run_underlying hu, b2 _ _ _ h2]
 ·simp [Instr.sliceAt, Instr.slice, Instr.sliceBounds, run_underlying hu, b1 _ _ _ h1]
 ·simp [Instr.sliceAt, Instr.slice, Instr.sliceBounds, run_underlying hu, b2 _ _ _ h2, b1 _ _ _ h1']
theorem slice_sl {t e : TypeId} {sz : Nat} (ht : P.underlying t = some (.slice e)) (hsz : szT P e = some sz) {b nil capd cd : Bool} {cs : List C} {n : Nat} {u : Value} (hr : Rep B β H w (.sl b nil capd cs n) u) {l h : Nat}
  {lv hv mv : Option Value} (hl : (lv = none ∧ l = 0) ∨ ∃ k, lv = some (.int k l)) (hh : (hv = none ∧ mv = none ∧ h = n) ∨ ∃ k, hv = some (.int k h))
  (hm : (mv = none ∧ cd = (capd && decide (h = n))) ∨ ((∃ k, mv = some (.int k h)) ∧ cd = true)) (h1 : l ≤ h) (h2 : h ≤ n) (hcl : cs.length = n * sz) :
  ∃ v, (Instr.sliceAt t u lv hv mv).run P w = .ok v w ∧ Rep B β H w (.sl b nil cd (sub (l * sz) ((h - l) * sz) cs) (h - l)) v := by
 obtain ⟨a, cap, xs, rfl, ho, hx⟩ := hr
 have hxl := (repIL_iff.1 hx).length
 have hle := ho.le
 obtain ⟨m, hm1, hm2, hm3, hm4⟩ : ∃ m : Nat, h ≤ m ∧ m ≤ cap ∧ (cd = true → m = h) ∧ ((mv = none ∧ m = cap) ∨ ∃ k, mv = some (.int k (m : Int))) := by
  rcases hm with ⟨rfl, rfl⟩ | ⟨⟨k, rfl⟩, rfl⟩
  ·refine ⟨cap, by omega, Nat.le_refl _, fun hc => ?_, .inl ⟨rfl, rfl⟩⟩
   simp only [kA, decide_eq_true_eq] at hc
   have := ho.capd hc.1
   omega
  ·exact ⟨h, Nat.le_refl _, by omega, fun _ => rfl, .inr ⟨k, rfl⟩⟩
 have hrun := run_slice3 (P := P) (w := w) ht hsz (a := a) (len := n) (cap := cap) hl hh hm4 h1 hm1 hm2
 refine ⟨_, hrun, _, _, sub (l * sz) ((h - l) * sz) xs, rfl, ⟨fun hn => ?_, fun hn => ?_, fun hc => by rw [hm3 hc], by omega, fun hne => ?_⟩, ?_⟩
 ·obtain ⟨rfl, rfl, rfl⟩ := ho.nil1 hn
  exact ⟨by simp, by omega, by omega⟩
 ·have := ho.nil0 hn
  split <;> simp [this]
 ·have hpos : 0 < (h - l) * sz := by
   rcases Nat.eq_zero_or_pos ((h - l) * sz) with h | h
   ·exfalso; apply hne; simp [sub, h]
   ·exact h
  have hlt : l < h := by
   rcases Nat.lt_or_ge l h with h | h
   ·exact h
   ·rw [Nat.sub_eq_zero_of_le h] at hpos; simp at hpos
  have hxne : xs ≠ [] := fun e => hne (by simp [sub, e])
  obtain ⟨ad, rfl, hs, hS, hc⟩ := ho.cells hxne
  obtain ⟨ab, ao, as⟩ := ad
  simp only at hs; subst hs
  rw [if_neg (by omega)]
  refine ⟨⟨ab, ao + l * sz, none⟩, by simp [Addr.add_lit], rfl, hS, fun j x hj => ?_⟩
  simp only
  unfold sub at hj
  rw [List.getElem?_take] at hj
  split at hj
  ·rw [List.getElem?_drop] at hj
   rw [Nat.add_assoc]
   exact hc _ x hj
  ·cases hj
 ·exact repIL_iff.2 (((repIL_iff.1 hx).drop _).take _)
theorem slice_row (hst : StR B β H w) {t e : TypeId} {sz : Nat} (ht : P.underlying t = some (.slice e)) (hsz : szT P e = some sz) {id st off len : Nat} {capd cd : Bool} {u : Value} (hr : Rep B β H w (.row id st off len capd) u)
  {pu mu : Bool} {d : Nat} {cs : List C} (ho : H[id]? = some (.row pu mu d st sz cs)) {l h : Nat}
  {lv hv mv : Option Value} (hl : (lv = none ∧ l = 0) ∨ ∃ k, lv = some (.int k l)) (hh : (hv = none ∧ mv = none ∧ h = len) ∨ ∃ k, hv = some (.int k h))
  (hm : (mv = none ∧ cd = capd ∧ (capd = true → h = len)) ∨ ((∃ k, mv = some (.int k h)) ∧ cd = true)) (h1 : l ≤ h) (h2 : if capd then h ≤ len else off + h ≤ st) (hd : d ≤ off) :
  ∃ v, (Instr.sliceAt t u lv hv mv).run P w = .ok v w ∧ Rep B β H w (.row id st (off + l) (h - l) cd) v := by
 obtain ⟨pu', mu', d', st', sz', cs', ho', hle, _, hhd⟩ := hr
 rw [ho] at ho'
 simp only [kI, O.row.injEq] at ho'
 obtain ⟨rfl, rfl, rfl, rfl, rfl, rfl⟩ := ho'
 obtain ⟨_, k2, a, cap, rfl, k3, k4, k5, k6⟩ := hhd rfl
 obtain ⟨g1, g2, g3, g4, arr, et, hb, hasz, ha⟩ := hst.live id _ ho
 have hcap : h ≤ cap ∧ off + h ≤ st := by
  cases hc : capd with
  | true => rw [hc] at h2; simp only [if_true] at h2; omega
  | false =>
   rw [hc] at h2
   simp only [Bool.false_eq_true, if_false] at h2
   obtain ⟨arr', e', fr', hb', hs'⟩ := k6 hc
   rw [hb] at hb'
   simp only [kI, Obj.cells.injEq] at hb'
   obtain ⟨rfl, _, _⟩ := hb'
   rw [hs', g3] at hasz
   have : (st - d) * sz ≤ (off - d + cap) * sz := by omega
   have := Nat.le_of_mul_le_mul_right this g1
   exact ⟨by omega, h2⟩
 obtain ⟨m, hm1, hm2, hm3, hm4⟩ : ∃ m : Nat, h ≤ m ∧ m ≤ cap ∧ (cd = true → m = h) ∧ ((mv = none ∧ m = cap) ∨ ∃ k, mv = some (.int k (m : Int))) := by
  rcases hm with ⟨rfl, rfl, h5⟩ | ⟨⟨k, rfl⟩, rfl⟩
  ·refine ⟨cap, hcap.1, Nat.le_refl _, fun hc => ?_, .inl ⟨rfl, rfl⟩⟩
   have := k4 hc
   have := h5 hc
   omega
  ·exact ⟨h, Nat.le_refl _, hcap.1, fun _ => rfl, .inr ⟨k, rfl⟩⟩
 have hrun := run_slice3 (P := P) (w := w) ht hsz (a := some a) (len := len) (cap := cap) hl hh hm4 h1 hm1 hm2
 have haddr : 0 < cap → a = ⟨(β id).1, (β id).2 + (off - d) * sz, none⟩ := k5
 have hsome : ∃ a', (if m = l then some a else (some a).map (·.add (l * sz))) = some a' ∧ (0 < m - l → a' = ⟨(β id).1, (β id).2 + (off + l - d) * sz, none⟩) := by
  by_cases e : m = l
  ·exact ⟨a, by rw [if_pos e], fun h => by omega⟩
  ·refine ⟨a.add (l * sz), by rw [if_neg e]; rfl, fun h => ?_⟩
   rw [haddr (by omega), Addr.add_lit, Nat.add_assoc, ← Nat.add_mul]
   congr 3; omega
 obtain ⟨a', he, ha'⟩ := hsome
 rw [he] at hrun
 refine ⟨_, hrun, pu, mu, d, st, sz, cs, ho, Nat.le_refl _, ⟨_, _, _, rfl⟩, fun _ => ⟨by omega, by omega, a', m - l, rfl, by omega, fun hc => by rw [hm3 hc], ha', fun hc => ?_⟩⟩
 rcases hm with ⟨hmv, rfl, _⟩ | ⟨_, rfl⟩
 ·obtain ⟨arr', e', fr', hb', hs'⟩ := k6 hc
  refine ⟨arr', e', fr', hb', ?_⟩
  rw [hs']
  rcases hm4 with ⟨_, rfl⟩ | ⟨k, hk⟩
  ·congr 2; omega
  ·rw [hmv] at hk; cases hk
 ·cases hc
theorem slice_sound (hst : StR B β H w) {t : TypeId} {x : X} {u : Value} (hx : RepX B β H w x u) {lo hi mx : Option X} {lv hv mv : Option Value}
  (hlo : OptR B β H w lo lv) (hhi : OptR B β H w hi hv) (hmx : OptR B β H w mx mv) {r : X} (h : sliceX P H t x lo hi mx = some r) :
  ∃ v, (Instr.sliceAt t u lv hv mv).run P w = .ok v w ∧ RepX B β H w r v := by
 unfold sliceX at h
 split at h
 ·rename_i s
  simp only [kB, kR, kI] at h
  obtain ⟨l, hl, hh, hhh, ⟨hmn, h0, h1, h2, hs⟩, rfl⟩ := h
  obtain ⟨_, rfl⟩ := hx
  have hu : P.underlying t = some .string := by
   unfold isStrT at hs
   split at hs
   ·assumption
   ·cases hs
  cases hmx with
  | some _ => cases hmn
  | none =>
   refine ⟨_, run_slice_str hu h0 h1 h2 ?_ ?_, rfl, rfl⟩
   ·rcases optInt hlo hl with ⟨e, _, rfl⟩ | e
    ·exact .inl ⟨e, rfl⟩
    ·exact .inr e
   ·rcases optInt hhi hhh with ⟨e, _, rfl⟩ | e
    ·exact .inl ⟨e, rfl⟩
    ·exact .inr e
 ·rename_i b nil capd cs n
  simp only [kB, kR, kI] at h
  obtain ⟨e, he, sz, hsz, l, hl, hh, hhh, cd, hcd, ⟨h0, h1, h2, hcl⟩, rfl⟩ := h
  have e1 : ((l.toNat : Nat) : Int) = l := by omega
  have e2 : ((hh.toNat : Nat) : Int) = hh := by omega
  have hk1 : (lv = none ∧ l.toNat = 0) ∨ ∃ k, lv = some (.int k (l.toNat : Int)) := by
   rw [e1]; rcases optInt hlo hl with ⟨e, _, rfl⟩ | e
   ·exact .inl ⟨e, rfl⟩
   ·exact .inr e
  have hk3 : (mv = none ∧ cd = (capd && decide (hh.toNat = n))) ∨ ((∃ k, mv = some (.int k (hh.toNat : Int))) ∧ cd = true) := by
   rw [e2]; rcases capInt hmx hcd with ⟨e, _, rfl⟩ | ⟨e, _, e', _⟩
   ·exact .inl ⟨e, by congr 1; simp; omega⟩
   ·exact .inr ⟨e, e'⟩
  have hk2 : (hv = none ∧ mv = none ∧ hh.toNat = n) ∨ ∃ k, hv = some (.int k (hh.toNat : Int)) := by
   rw [e2]; rcases optInt hhi hhh with ⟨e, e', rfl⟩ | e
   ·rcases capInt hmx hcd with ⟨e3, _, _⟩ | ⟨_, e4, _, _⟩
    ·exact .inl ⟨e, e3, by omega⟩
    ·rw [e'] at e4; cases e4
   ·exact .inr e
  have := slice_sl (elemT_under he) hsz hx hk1 hk2 hk3 (by omega) (by omega) hcl
  rw [show (hh - l).toNat = hh.toNat - l.toNat by omega]
  exact this
 ·rename_i id st off len capd
  split at h
  ·rename_i pu mu d st' sz' cs ho
   simp only [kB, kR, kI] at h
   obtain ⟨e, he, sz, hsz, l, hl, hh, hhh, cd, hcd, ⟨h0, h1, h2, h3, rfl, rfl, hd⟩, rfl⟩ := h
   have e1 : ((l.toNat : Nat) : Int) = l := by omega
   have e2 : ((hh.toNat : Nat) : Int) = hh := by omega
   have hk1 : (lv = none ∧ l.toNat = 0) ∨ ∃ k, lv = some (.int k (l.toNat : Int)) := by
    rw [e1]
    rcases optInt hlo hl with ⟨e, _, rfl⟩ | e
    ·exact .inl ⟨e, rfl⟩
    ·exact .inr e
   have hk3 : (mv = none ∧ cd = capd ∧ (capd = true → hh.toNat = len)) ∨ ((∃ k, mv = some (.int k (hh.toNat : Int))) ∧ cd = true) := by
    rw [e2]; rcases capInt hmx hcd with ⟨e, em, rfl⟩ | ⟨e, _, e', _⟩
    ·exact .inl ⟨e, rfl, fun hc => by have := h3 (by rw [em]; rfl) hc; omega⟩
    ·exact .inr ⟨e, e'⟩
   have hk2 : (hv = none ∧ mv = none ∧ hh.toNat = len) ∨ ∃ k, hv = some (.int k (hh.toNat : Int)) := by
    rw [e2]; rcases optInt hhi hhh with ⟨e, e', rfl⟩ | e
    ·rcases capInt hmx hcd with ⟨e3, _, _⟩ | ⟨_, e4, _, _⟩
     ·exact .inl ⟨e, e3, by omega⟩
     ·rw [e'] at e4; cases e4
    ·exact .inr e
   have := slice_row hst (elemT_under he) hsz hx ho hk1 hk2 hk3 (by omega) (by split at h2 <;> simp_all <;> omega) hd
   rw [show (hh - l).toNat = hh.toNat - l.toNat by omega]
   exact this
  ·cases h
 ·cases h
theorem addrAdd_sound {c c' : C} {u : Value} (hr : Rep B β H w c u) {n : Nat} (h : addrAdd c n = some c') : ∃ ad, u = .pointer (some ad) ∧ Rep B β H w c' (.pointer (some (ad.add n))) := by
 cases c with
 | ptr id off =>
  simp only [addrAdd, kI] at h; subst h
  obtain ⟨cells, ho, rfl⟩ := hr
  exact ⟨_, rfl, cells, ho, by rw [Addr.add_lit]⟩
 | rd cs =>
  simp only [addrAdd, kI] at h; subst h
  obtain ⟨ad, xs, rfl, hx, hc⟩ := hr
  refine ⟨_, rfl, _, xs.drop n, rfl, repIL_iff.2 ((repIL_iff.1 hx).drop n), fun hne => ?_⟩
  obtain ⟨h1, h2, h3⟩ := hc (fun e => hne (by simp [e]))
  obtain ⟨b, o, s⟩ := ad
  simp only at h1; subst h1
  rw [Addr.add_lit]
  refine ⟨rfl, h2, fun j x hj => ?_⟩
  rw [List.getElem?_drop] at hj
  simp only [Nat.add_assoc]
  exact h3 _ x hj
 | ra id st pos =>
  simp only [addrAdd, kI] at h; subst h
  obtain ⟨pu, mu, d, st', sz, cells, ho, hle, ⟨ad, rfl⟩, hh⟩ := hr
  refine ⟨ad, rfl, pu, mu, d, st', sz, cells, ho, hle, ⟨_, rfl⟩, fun e => ?_⟩
  obtain ⟨h1, h2⟩ := hh e
  simp only [Value.pointer.injEq, kI] at h2
  subst h2
  rw [Addr.add_lit]
  exact ⟨by omega, by congr 3; omega⟩
 | _ => cases h
theorem indexAddr_sound (hst : StR B β H w) {t : TypeId} {c c' : C} {u : Value} (hr : Rep B β H w c u) {n : Int} {k : IntKind} (h : indexAddrX P H t c n = some c') :
  ∃ v, (Instr.indexAt t u (.int k n)).run P w = .ok v w ∧ Rep B β H w c' v := by
 unfold indexAddrX at h
 split at h
 ·rename_i len e ht
  simp only [kB, kR] at h
  obtain ⟨sz, hsz, ⟨h0, h1⟩, h⟩ := h
  obtain ⟨ad, rfl, hr'⟩ := addrAdd_sound hr h
  refine ⟨_, ?_, hr'⟩
  simp [Instr.indexAt, asIntOf, run_underlying ht, Instr.sureAddr, h0, h1, run_szT hsz]
 ·rename_i e ht
  simp only [kB] at h
  obtain ⟨sz, hsz, h⟩ := h
  cases c with
  | sl b nil capd cs m =>
   simp only [kR, kI] at h
   obtain ⟨⟨h0, h1, h2, h3⟩, rfl⟩ := h
   obtain ⟨a, cap, xs, rfl, ho, hx⟩ := hr
   have hxl := (repIL_iff.1 hx).length
   have hmul : n.toNat * sz + sz ≤ m * sz := by rw [← Nat.succ_mul]; exact Nat.mul_le_mul_right _ (by omega)
   have hne : xs ≠ [] := fun e => by subst e; simp only [List.length_nil] at hxl; omega
   obtain ⟨ad, rfl, hs, hS, hc⟩ := ho.cells hne
   obtain ⟨b', o, s⟩ := ad
   simp only at hs; subst hs
   refine ⟨.pointer (some ⟨b', o + n.toNat * sz, none⟩), ?_, _, xs.drop (n.toNat * sz), rfl, repIL_iff.2 ((repIL_iff.1 hx).drop _), fun _ => ⟨rfl, hS.1, fun j x hj => ?_⟩⟩
   ·simp [Instr.indexAt, asIntOf, run_underlying ht, h0, h1, run_szT hsz, Addr.add_lit]
   ·rw [List.getElem?_drop] at hj
    simp only [Nat.add_assoc]
    exact hc _ x hj
  | row id st off len capd =>
   simp only at h
   obtain ⟨pu, mu, d, st', sz', cells, ho, hle, _, hh⟩ := hr
   simp only [ho, kR, kI] at h
   obtain ⟨⟨h0, h1, rfl, rfl, h4, h5⟩, rfl⟩ := h
   obtain ⟨_, _, a, cap, rfl, k1, k2, k3, k4⟩ := hh rfl
   have haddr := k3 (by omega)
   subst haddr
   refine ⟨.pointer (some ⟨(β id).1, (β id).2 + (off - d) * sz + n.toNat * sz, none⟩), ?_, pu, mu, d, st, sz, cells, ho, Nat.le_refl _, ⟨_, rfl⟩, fun _ => ⟨Nat.mul_le_mul_right _ (by omega), ?_⟩⟩
   ·simp [Instr.indexAt, asIntOf, run_underlying ht, h0, h1, run_szT hsz, Addr.add_lit]
   ·congr 3
    rw [← Nat.sub_mul, Nat.add_assoc, ← Nat.add_mul]; congr 2; omega
  | _ => simp only at h; cases h
 ·cases h
theorem fieldAddr_sound {t : TypeId} {c c' : C} {u : Value} (hr : Rep B β H w c u) {j sz : Nat} {f : Field} (hf : fieldsOf P t j = some f) (hsz : szT P f.type = some sz) (h0 : 0 < sz) (h : addrAdd c f.offset = some c') :
  ∃ v, (Instr.fieldAt t u j).run P w = .ok v w ∧ Rep B β H w c' v := by
 obtain ⟨ad, rfl, hr'⟩ := addrAdd_sound hr h
 refine ⟨_, ?_, hr'⟩
 unfold fieldsOf at hf
 split at hf
 ·rename_i fs hu
  have h0' : sz ≠ 0 := by omega
  simp [Instr.fieldAt, run_underlying hu, hf, Instr.sureAddr, fieldPlace, run_szT hsz, h0']
 ·cases hf
theorem fold_splice {off : Nat} : ∀ (l : List Value) (k : Nat) (arr : Array Value), off + k + l.length ≤ arr.size →
  ((l.zipIdx k).foldl (fun cs (x : Value × Nat) => cs.setIfInBounds (off + x.2) x.1) arr).toList = splice (off + k) l arr.toList := by
 intro l
 induction l with
 | nil => intro k arr _; simp [splice]
 | cons v l ih =>
  intro k arr h
  simp only [List.length_cons] at h
  rw [List.zipIdx_cons, List.foldl_cons, ih (k + 1) _ (by simp; omega)]
  have hl : arr.toList.length = arr.size := Array.length_toList
  apply List.ext_getElem?
  intro j
  rw [getElem?_splice (by simp; omega), getElem?_splice (by simp; omega)]
  simp only [Array.toList_setIfInBounds, List.length_cons]
  rw [List.getElem?_set]
  by_cases h1 : j < off + k
  ·rw [if_pos (by omega), if_pos h1, if_neg (by omega)]
  ·rw [if_neg h1]
   by_cases h2 : j = off + k
   ·subst h2
    rw [if_pos (by omega), if_pos rfl, if_pos (by omega), if_pos (by omega)]
    simp
   ·rw [if_neg (by omega)]
    by_cases h3 : j < off + k + (l.length + 1)
    ·rw [if_pos (by omega), if_pos h3]
     rw [show j - (off + k) = (j - (off + (k + 1))) + 1 by omega, List.getElem?_cons_succ]
    ·rw [if_neg (by omega), if_neg h3, if_neg (by omega)]
theorem fill_sound {place place' : Nat → Option (Nat × Nat)} (hp : ∀ i p, place i = some p → place' i = some p) : ∀ {ps : List (Nat × X)} {vs : List (Nat × Value)} {cs cs' : List C} {arr : Array Value},
  All2 (Rep B β H w) cs arr.toList → All2 (fun (p : Nat × X) (q : Nat × Value) => p.1 = q.1 ∧ RepX B β H w p.2 q.2) ps vs → fillX place cs ps = some cs' →
  ∃ arr', Instr.fill place' arr vs = some arr' ∧ All2 (Rep B β H w) cs' arr'.toList := by
 intro ps
 induction ps with
 | nil =>
  intro vs cs cs' arr ha hp' h
  cases hp'
  simp only [fillX, kI] at h
  subst h
  exact ⟨arr, rfl, ha⟩
 | cons p ps ih =>
  intro vs cs cs' arr ha hp' h
  cases hp' with
  | @cons _ q _ vs' r t =>
   obtain ⟨i, x⟩ := p
   obtain ⟨i', v⟩ := q
   obtain ⟨hi, hr⟩ := r
   simp only at hi hr
   subst hi
   simp only [fillX, kB, kR] at h
   obtain ⟨⟨off, sz⟩, hpl, y, hy, ⟨h1, h2, h3⟩, h⟩ := h
   obtain ⟨hc, _⟩ := repY_cells (repX_y hr hy) h3
   have hcl := hc.length
   have hal := ha.length
   have hn : ¬ (v.cells.size ≠ sz ∨ off + v.cells.size > arr.size) := by
    have e1 : v.cells.toList.length = v.cells.size := Array.length_toList
    have e2 : arr.toList.length = arr.size := Array.length_toList
    omega
   have hset : (v.cells.zipIdx.foldl (fun cs (x : Value × Nat) => cs.setIfInBounds (off + x.2) x.1) arr).toList = splice off v.cells.toList arr.toList := by
    have := fold_splice (off := off) v.cells.toList 0 arr (by
     have e1 : v.cells.toList.length = v.cells.size := Array.length_toList
     have e2 : arr.toList.length = arr.size := Array.length_toList
     omega)
    rw [← Array.foldl_toList, Array.toList_zipIdx]
    exact this
   obtain ⟨arr', h4, h5⟩ := ih (arr := v.cells.zipIdx.foldl (fun cs (x : Value × Nat) => cs.setIfInBounds (off + x.2) x.1) arr) (by rw [hset]; exact ha.splice hc off) t h
   refine ⟨arr', ?_, h5⟩
   simp only [Instr.fill, hp i _ hpl]
   rw [if_neg (by simpa using hn)]
   exact h4
end
end Go.Lg
end
