/-
 X, part 7: literals, new variables, comparisons.
-/
import Derived.Test.YtoieblpjklbmoaaX6
namespace Go.Lg
section
variable {P : Program} {B : Nat → Prop} {β : Nat → Nat × Nat} {H : Heap} {w : World}
theorem zero_rep {t : TypeId} {zs : List C} (h : zeroC P t = some zs) : ∃ i z, P.info? t = some i ∧ i.zero = some z ∧ z.cells.size = i.size ∧ All2 (Rep B β H w) zs z.cells.toList := by
 obtain ⟨i, z, h1, h2, h3, _, _, rfl⟩ := zeroC_info h
 refine ⟨i, z, h1, h2, h3, ?_⟩
 induction z.cells.toList with
 | nil => exact .nil
 | cons a l ih => exact .cons (rep_ofV a) ih
theorem places_some : ∀ fs : List Field, (∀ f ∈ fs, ∃ i, P.info? f.type = some i) → ∃ places, fs.mapM (fun f => (P.info? f.type).map fun i => (f.offset, i.size)) = some places ∧
  ∀ (j : Nat) (p : Nat × Nat), (fs[j]?.bind fun f => (szT P f.type).map fun sz => (f.offset, sz)) = some p → places[j]? = some p := by
 intro fs
 induction fs with
 | nil => intro _; exact ⟨[], rfl, fun j p h => by simp at h⟩
 | cons f fs ih =>
  intro hf
  obtain ⟨i, hi⟩ := hf f (by simp)
  obtain ⟨places, hp, hg⟩ := ih fun g hg => hf g (by simp [hg])
  refine ⟨(f.offset, i.size) :: places, by simp [List.mapM_cons, hi, hp], fun j p h => ?_⟩
  cases j with
  | zero => simpa [szT, hi] using h
  | succ j => exact hg j p (by simpa using h)
theorem build_sound (hP : POk P) {t : TypeId} {ps : List (Nat × X)} {vs : Array (Nat × Value)} {z cs : List C} (hz : zeroC P t = some z) (ha : (isAggT P t && decide (t < P.types.size)) = true)
  (hv : All2 (fun (p : Nat × X) (q : Nat × Value) => p.1 = q.1 ∧ RepX B β H w p.2 q.2) ps vs.toList) (h : fillX (placeX P t) z ps = some cs) :
  ∃ arr : Array Value, (Instr.build t vs).run P w = .ok (.agg arr) w ∧ All2 (Rep B β H w) cs arr.toList := by
 obtain ⟨i, zv, hi, hzv, hzs, hzr⟩ := zero_rep (B := B) (β := β) (H := H) (w := w) hz
 simp only [kA, decide_eq_true_eq] at ha
 obtain ⟨ha, hts⟩ := ha
 unfold isAggT at ha
 split at ha
 ·rename_i fs hu
  obtain ⟨places, hpl, hpg⟩ := places_some (P := P) fs.toList (hP.fields t fs hts hu)
  obtain ⟨arr, h1, h2⟩ := fill_sound (place' := (places.toArray[·]?)) (fun j p hj => by
   have := hpg j p (by simpa [placeX, hu] using hj)
   simpa using this) hzr hv h
  refine ⟨arr, run_build w t vs arr ?_, h2⟩
  simp only [Program.built, hi, hu, hzv, hpl, h1]
 ·rename_i n e hu
  obtain ⟨ie, hie⟩ := hP.elems t n e hts hu
  obtain ⟨arr, h1, h2⟩ := fill_sound (place' := fun i => some (i * ie.size, ie.size)) (fun j p hj => by simpa [placeX, hu, szT, hie] using hj) hzr hv h
  refine ⟨arr, run_build w t vs arr ?_, h2⟩
  simp only [Program.built, hi, hu, hzv, hie, h1]
 ·cases ha
theorem made_rep {zs : List C} {z : Array Value} (hz : All2 (Rep B β H w) zs z.toList) {sz : Nat} (hl : z.size = sz) (h0 : 0 < sz) (n : Nat) :
  All2 (Rep B β H w) ((List.range n).map fun i => zs.getD (i % sz) .dead) ((Array.range n).map (z[· % z.size]!)).toList := by
 refine All2.of_get (by simp) fun j a b ha hb => ?_
 have hj : j < n := by have := lt_of_get ha; simpa using this
 simp only [List.getElem?_map, List.getElem?_range hj, kT, kI] at ha
 simp only [Array.toList_map, Array.toList_range, List.getElem?_map, List.getElem?_range hj, kT, kI] at hb
 subst ha; subst hb
 have hlt : j % sz < z.size := by rw [hl]; exact Nat.mod_lt _ h0
 obtain ⟨c, hc, hr⟩ := hz.get' (j := j % sz) (b := z[j % sz]) (by rw [Array.getElem?_toList, Array.getElem?_eq_getElem hlt])
 rw [hl, getElem!_pos z (j % sz) hlt, List.getD_eq_getElem?_getD, hc]
 exact hr
theorem buildSlice_sound {A : Ann} (hst : StR B β H w) {t el : TypeId} {sz n : Nat} {z cs : List C} {ps : List (Nat × X)} {vs : Array (Nat × Value)} (he : elemT P t = some el) (hsz : szT P el = some sz) (hz : zeroC P el = some z)
  (h0 : 0 < sz) (hsm : n * sz ≤ 16777216) (hv : All2 (fun (p : Nat × X) (q : Nat × Value) => p.1 = q.1 ∧ RepX B β H w p.2 q.2) ps vs.toList)
  (h : fillX (placeX P t) ((List.range (n * sz)).map fun i => z.getD (i % sz) .dead) ps = some cs) {c : C} {H' : Heap}
  (hr : (if A.pureSl t then (immL H cs).map fun (cs, H) => (C.sl false false true cs n, H) else some (rowNew H false sz n cs)) = some (c, H')) :
  ∃ β' w' v, (Instr.buildSlice t n vs).run P w = .ok v w' ∧ StR B β' H' w' ∧ Stp β H w β' H' w' ∧ Rep B β' H' w' c v := by
 obtain ⟨i, zv, hi, hzv, hzs, hzr⟩ := zero_rep (B := B) (β := β) (H := H) (w := w) hz
 have hisz : i.size = sz := by obtain ⟨i', hi', rfl⟩ := szT_info hsz; rw [hi] at hi'; cases hi'; rfl
 have ht := elemT_under he
 obtain ⟨arr, h1, h2⟩ := fill_sound (place' := fun j => some (j * i.size, i.size)) (arr := (Array.range (n * i.size)).map (zv.cells[· % zv.cells.size]!))
  (fun j p hj => by simpa [placeX, ht, szT, hi] using hj) (by rw [hisz]; exact made_rep hzr (by rw [hzs, hisz]) h0 _) hv h
 have hlen : arr.size = n * sz := by
  have e1 : arr.toList.length = arr.size := Array.length_toList
  rw [← e1, h2.length]
  have : ∀ {ps : List (Nat × X)} {cs cs' : List C}, fillX (placeX P t) cs ps = some cs' → cs'.length = cs.length := by
   intro ps
   induction ps with
   | nil => intro cs cs' h; simp only [fillX, kI] at h; rw [h]
   | cons p ps ih =>
    intro cs cs' h
    obtain ⟨j, x⟩ := p
    simp only [fillX, kB, kR] at h
    obtain ⟨⟨off, s⟩, _, y, _, ⟨h1, h2, h3⟩, h⟩ := h
    rw [ih h, length_splice (by omega)]
  rw [this h]; simp
 have hrun : (Instr.buildSlice t n vs).run P w = .ok (.slice (some ⟨w.heap.size, 0, none⟩) n n) (w.alloc (.cells arr el)) := by
  by_cases hn : n * i.size = 0
  ·have h1' : Instr.fill (fun j => some (j * i.size, i.size)) #[] vs.toList = some arr := by
    rw [hn] at h1; simpa [Array.range_zero'] using h1
   simp [Instr.buildSlice, run_underlying ht, sizeOf, typeInfo, hi, hn, h1', Go.newRow, Array.range_zero']
  ·exact run_buildSlice w t el n vs arr i zv ht hi hzv (by rw [hisz]; omega) hn h1
 have hN : New w (.cells arr el (0, 0)) (w.alloc (.cells arr el)) := ⟨rfl, rfl, rfl, rfl⟩
 split at hr
 ·simp only [kM, kP] at hr
  obtain ⟨⟨cs', H1⟩, him, rfl, rfl⟩ := hr
  obtain ⟨hst1, stp1, hr1, himm, hl1, _⟩ := immL_sound hst h2 him
  have stp := hN.stp0 hst1
  refine ⟨β, _, _, hrun, hN.str0 hst1, stp1.trans stp, _, n, arr.toList, rfl, ⟨(fun h => by cases h), fun _ => rfl, fun _ => rfl, Nat.le_refl _, fun _ => ⟨_, rfl, rfl, ⟨(hN.free hst1).1, fun _ => (hN.free hst1).2⟩, fun j x hj => ?_⟩⟩,
   repIL_of_rep (hr1.mono fun _ _ => Rep.mono stp) himm⟩
  simp only
  rw [cell_at hN.new, Nat.zero_add, ← Array.getElem?_toList]
  exact hj
 ·simp only [kI] at hr
  have hcl : cs.length = n * sz := by rw [← h2.length, Array.length_toList, hlen]
  obtain ⟨r1, r2, r3⟩ := rowNew_sound (B := B) (zs := []) (e := el) (w' := w.alloc (.cells arr el)) (pu := false) hst h0 h2 hcl (fun h => by cases h) (Nat.le_refl n) (by simp) (by simpa using hN)
  rw [hr] at r1 r2 r3
  exact ⟨_, _, _, hrun, r1, r2, r3⟩
theorem make_sound {pu : Bool} (hst : StR B β H w) {t el : TypeId} {sz by_ : Nat} {z : List C} (he : elemT P t = some el) (hsz : szT P el = some sz) (hby : byT P el = some by_) (hz : zeroC P el = some z) {l cp : Int} {kl kc : IntKind}
  (h0 : 0 < sz) (hl : 0 ≤ l) (hlc : l ≤ cp) (hm : cp ≤ maxLen) (hb : (by_ : Int) * cp ≤ 281474976710656) (hpz : pu = true → z.all C.imm = true) :
  ∃ β' w' v, (Instr.makeSlice t (.int kl l) (.int kc cp)).run P w = .ok v w' ∧ StR B β' (rowNew H pu sz l.toNat ((List.range (l.toNat * sz)).map fun i => z.getD (i % sz) .dead)).2 w' ∧
   Stp β H w β' (rowNew H pu sz l.toNat ((List.range (l.toNat * sz)).map fun i => z.getD (i % sz) .dead)).2 w' ∧
   Rep B β' (rowNew H pu sz l.toNat ((List.range (l.toNat * sz)).map fun i => z.getD (i % sz) .dead)).2 w' (rowNew H pu sz l.toNat ((List.range (l.toNat * sz)).map fun i => z.getD (i % sz) .dead)).1 v := by
 obtain ⟨i, zv, hi, hzv, hzs, hzr⟩ := zero_rep (B := B) (β := β) (H := H) (w := w) hz
 have hisz : i.size = sz := by obtain ⟨i', hi', rfl⟩ := szT_info hsz; rw [hi] at hi'; cases hi'; rfl
 have hiby : i.bytes = by_ := by simp only [byT, hi, kT, kI] at hby; exact hby
 have ht := elemT_under he
 have hrun := run_make (P := P) w t el i zv ht hi hzv kl kc l cp hl hlc (by rw [hiby]; exact hb) (by simp only [maxLen] at hm; omega)
 have hN : New w (.cells (madeCells zv.cells (cp.toNat * i.size)) el (0, 0)) (w.alloc (.cells (madeCells zv.cells (cp.toNat * i.size)) el)) := ⟨rfl, rfl, rfl, rfl⟩
 have hall := made_rep hzr (sz := sz) (by rw [hzs, hisz]) h0 (cp.toNat * i.size)
 have hle : l.toNat ≤ cp.toNat := by omega
 have hpre := hall.take (l.toNat * sz)
 have htake : ((List.range (cp.toNat * i.size)).map fun i => z.getD (i % sz) C.dead).take (l.toNat * sz) = (List.range (l.toNat * sz)).map fun i => z.getD (i % sz) C.dead := by
  rw [← List.map_take, List.take_range, Nat.min_eq_left (by rw [hisz]; exact Nat.mul_le_mul_right _ hle)]
 rw [htake] at hpre
 have hsplit : (madeCells zv.cells (cp.toNat * i.size)) = ((madeCells zv.cells (cp.toNat * i.size)).toList.take (l.toNat * sz) ++ (madeCells zv.cells (cp.toNat * i.size)).toList.drop (l.toNat * sz)).toArray := by
  rw [List.take_append_drop]
 rw [hsplit] at hN
 have hr := rowNew_sound (B := B) (pu := pu) (n := l.toNat) (cap := cp.toNat) (e := el) hst h0 hpre (by simp) (fun hp => ?_) hle ?_ hN
 ·exact ⟨_, _, _, hrun, by rw [← hsplit] at hr; exact hr.1, by rw [← hsplit] at hr; exact hr.2.1, by rw [← hsplit] at hr; exact hr.2.2⟩
 ·rw [List.all_eq_true]
  intro c hc
  simp only [List.mem_map, List.mem_range] at hc
  obtain ⟨j, _, rfl⟩ := hc
  have hzl : z.length = sz := by rw [← hzr.length, Array.length_toList, hzs, hisz]
  have hlt : j % sz < z.length := by rw [hzl]; exact Nat.mod_lt _ h0
  rw [List.getD_eq_getElem?_getD, List.getElem?_eq_getElem hlt]
  exact List.all_eq_true.1 (hpz hp) _ (List.getElem_mem hlt)
 ·simp [madeCells, hisz, Nat.sub_mul]
/-- A new variable. -/
theorem obj_sound (hst : StR B β H w) {cs : List C} {arr : Array Value} {e : TypeId} (hc : All2 (Rep B β H w) cs arr.toList) :
  StR B (upd β H.length (w.heap.size, 0)) (H ++ [.obj cs]) (w.alloc (.cells arr e)) ∧ Stp β H w (upd β H.length (w.heap.size, 0)) (H ++ [.obj cs]) (w.alloc (.cells arr e)) ∧
   Rep B (upd β H.length (w.heap.size, 0)) (H ++ [.obj cs]) (w.alloc (.cells arr e)) (.ptr H.length 0) (.pointer (some ⟨w.heap.size, 0, none⟩)) := by
 have hN : New w (.cells arr e (0, 0)) (w.alloc (.cells arr e)) := ⟨rfl, rfl, rfl, rfl⟩
 have stp := hN.stp hst (.obj cs) 0
 exact ⟨hN.str hst _ 0 ⟨by rw [upd_same], arr, e, by rw [upd_same]; exact hN.new, hc.mono fun _ _ => Rep.mono stp⟩, stp, cs, by simp, by rw [upd_same]⟩
end
end Go.Lg
