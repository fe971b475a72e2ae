/- Lemmas. -/
import Derived.Test.YtjhgjbagmkiibaaX5
import Derived.MapKept
section
namespace Go.Lg
section
variable {P : Program} {B : Nat → Prop} {β : Nat → Nat × Nat} {H : Heap} {w : World}
theorem zero_rep {t : TypeId} {zs : List C} (h : zeroC P t = some zs) : ∃ i z, P.info? t = some i ∧ i.zero = some z ∧ z.cells.size = i.size ∧ All2 (Rep B β H w) zs z.cells.toList := by
 obtain ⟨i, z, h1, h2, h3, _, _, rfl⟩ := zeroC_info h
 refine ⟨i, z, h1, h2, h3, ?_⟩
 induction z.cells.toList with
 | nil => exact .nil
 | cons a l ih => exact .cons (rep_ofV a) ih
theorem places_some : ∀ fs : List Field, (∀ f ∈ fs, ∃ i, P.info? f.type = some i) → ∃ places, fs.mapM (fun f => (P.info? f.type).map fun i => (f.offset, i.size)) = some places ∧
  ∀ (j : Nat) (p : Nat × Nat), (fs[j]?.bind fun f => (szT P f.type).map fun sz => (f.offset, sz)) = some p → places[j]? = some p := by
 intro fs
 induction fs with
 | nil => intro _; exact ⟨[], rfl, fun j p h => by simp at h⟩
 | cons f fs ih =>
  intro hf
  obtain ⟨i, hi⟩ := hf f (by simp)
  obtain ⟨places, hp, hg⟩ := ih fun g hg => hf g (by simp [hg])
  refine ⟨(f.offset, i.size) :: places, by simp [List.mapM_cons, hi, hp], fun j p h => ?_⟩
  cases j with
  | zero => simpa [szT, hi] using h
  | succ j => exact hg j p (by simpa using h)
theorem build_sound (hP : POk P) {t : TypeId} {ps : List (Nat × X)} {vs : Array (Nat × Value)} {z cs : List C} (hz : zeroC P t = some z) (ha : (isAggT P t && decide (t < P.types.size)) = true)
  (hv : All2 (fun (p : Nat × X) (q : Nat × Value) => p.1 = q.1 ∧ RepX B β H w p.2 q.2) ps vs.toList) (h : fillX (placeX P t) z ps = some cs) :
  ∃ arr : Array Value, (Instr.build t vs).run P w = .ok (.agg arr) w ∧ All2 (Rep B β H w) cs arr.toList := by
 obtain ⟨i, zv, hi, hzv, hzs, hzr⟩ := zero_rep (B := B) (β := β) (H := H) (w := w) hz
 simp only [kA, decide_eq_true_eq] at ha
 obtain ⟨ha, hts⟩ := ha
 unfold isAggT at ha
 split at ha
 ·rename_i fs hu
  obtain ⟨places, hpl, hpg⟩ := places_some (P := P) fs.toList (hP.fields t fs hts hu)
  obtain ⟨arr, h1, h2⟩ := fill_sound (place' := (places.toArray[·]?)) (fun j p hj => by
   have := hpg j p (by simpa [placeX, hu] using hj)
   simpa using this) hzr hv h
  refine ⟨arr, run_build w t vs arr ?_, h2⟩
  simp only [Program.built, hi, hu, hzv, hpl, h1]
 ·rename_i n e hu
  obtain ⟨ie, hie⟩ := hP.elems t n e hts hu
  obtain ⟨arr, h1, h2⟩ := fill_sound (place' := fun i => some (i * ie.size, ie.size)) (fun j p hj => by simpa [placeX, hu, szT, hie] using hj) hzr hv h
  refine ⟨arr, run_build w t vs arr ?_, h2⟩
  simp only [Program.built, hi, hu, hzv, hie, h1]
 ·cases ha
theorem made_rep {zs : List C} {z : Array Value} (hz : All2 (Rep B β H w) zs z.toList) {sz : Nat} (hl : z.size = sz) (h0 : 0 < sz) (n : Nat) :
  All2 (Rep B β H w) ((List.range n).map fun i => zs.getD (i % sz) .dead) ((Array.range n).map (z[· % z.size]!)).toList := by
 refine All2.of_get (by simp) fun j a b ha hb => ?_
 have hj : j < n := by have := lt_of_get ha; simpa using this
 simp only [List.getElem?_map, List.getElem?_range hj, kT, kI] at ha
 simp only [Array.toList_map, Array.toList_range, List.getElem?_map, List.getElem?_range hj, kT, kI] at hb
 subst ha; subst hb
 have hlt : j % sz < z.size := by rw [hl]; exact Nat.mod_lt _ h0
 obtain ⟨c, hc, hr⟩ := hz.get' (j := j % sz) (b := z[j % sz]) (by rw [Array.getElem?_toList, Array.getElem?_eq_getElem hlt])
 rw [hl, getElem!_pos z (j % sz) hlt, List.getD_eq_getElem?_getD, hc]
 exact hr
theorem buildSlice_sound {A : Ann} (hst : StR B β H w) {t el : TypeId} {sz n : Nat} {z cs : List C} {ps : List (Nat × X)} {vs : Array (Nat × Value)} (he : elemT P t = some el) (hsz : szT P el = some sz) (hz : zeroC P el = some z)
  (h0 : 0 < sz) (hsm : n * sz ≤ 16777216) (hv : All2 (fun (p : Nat × X) (q : Nat × Value) => p.1 = q.1 ∧ RepX B β H w p.2 q.2) ps vs.toList)
  (h : fillX (placeX P t) ((List.range (n * sz)).map fun i => z.getD (i % sz) .dead) ps = some cs) {c : C} {H' : Heap}
  (hr : (if A.pureSl t then (immL H cs).map fun (cs, H) => (C.sl false false true cs n, H) else some (rowNew H false sz n cs)) = some (c, H')) :
  ∃ β' w' v, (Instr.buildSlice t n vs).run P w = .ok v w' ∧ StR B β' H' w' ∧ Stp β H w β' H' w' ∧ Rep B β' H' w' c v := by
 obtain ⟨i, zv, hi, hzv, hzs, hzr⟩ := zero_rep (B := B) (β := β) (H := H) (w := w) hz
 have hisz : i.size = sz := by obtain ⟨i', hi', rfl⟩ := szT_info hsz; rw [hi] at hi'; cases hi'; rfl
 have ht := elemT_under he
 obtain ⟨arr, h1, h2⟩ := fill_sound (place' := fun j => some (j * i.size, i.size)) (arr := (Array.range (n * i.size)).map (zv.cells[· % zv.cells.size]!))
  (fun j p hj => by simpa [placeX, ht, szT, hi] using hj) (by rw [hisz]; exact made_rep hzr (by rw [hzs, hisz]) h0 _) hv h
 have hlen : arr.size = n * sz := by
  have e1 : arr.toList.length = arr.size := Array.length_toList
  rw [← e1, h2.length]
  have : ∀ {ps : List (Nat × X)} {cs cs' : List C}, fillX (placeX P t) cs ps = some cs' → cs'.length = cs.length := by
   intro ps
   induction ps with
   | nil => intro cs cs' h; simp only [fillX, kI] at h; rw [h]
   | cons p ps ih =>
    intro cs cs' h
    obtain ⟨j, x⟩ := p
    simp only [fillX, kB, kR] at h
    obtain ⟨⟨off, s⟩, _, y, _, ⟨h1, h2, h3⟩, h⟩ := h
    rw [ih h, length_splice (by omega)]
  rw [this h]; simp
 have hrun : (Instr.buildSlice t n vs).run P w = .ok (.slice (some ⟨w.heap.size, 0, none⟩) n n) (w.alloc (.cells arr el)) := by
  by_cases hn : n * i.size = 0
  ·have h1' : Instr.fill (fun j => some (j * i.size, i.size)) #[] vs.toList = some arr := by
    rw [hn] at h1; simpa [Array.range_zero'] using h1
   simp [Instr.buildSlice, run_underlying ht, sizeOf, typeInfo, hi, hn, h1', Go.newRow, Array.range_zero']
  ·exact run_buildSlice w t el n vs arr i zv ht hi hzv (by rw [hisz]; omega) hn h1
 have hN : New w (.cells arr el (0, 0)) (w.alloc (.cells arr el)) := ⟨rfl, rfl, rfl, rfl⟩
 split at hr
 ·simp only [kM, kP] at hr
  obtain ⟨⟨cs', H1⟩, him, rfl, rfl⟩ := hr
  obtain ⟨hst1, stp1, hr1, himm, hl1, _⟩ := immL_sound hst h2 him
  have stp := hN.stp0 hst1
  refine ⟨β, _, _, hrun, hN.str0 hst1, stp1.trans stp, _, n, arr.toList, rfl, ⟨(fun h => by cases h), fun _ => rfl, fun _ => rfl, Nat.le_refl _, fun _ => ⟨_, rfl, rfl, ⟨(hN.free hst1).1, fun _ => (hN.free hst1).2⟩, fun j x hj => ?_⟩⟩,
   repIL_of_rep (hr1.mono fun _ _ => Rep.mono stp) himm⟩
  simp only
  rw [cell_at hN.new, Nat.zero_add, ← Array.getElem?_toList]
  exact hj
 ·simp only [kI] at hr
  have hcl : cs.length = n * sz := by rw [← h2.length, Array.length_toList, hlen]
  obtain ⟨r1, r2, r3⟩ := rowNew_sound (B := B) (zs := []) (e := el) (w' := w.alloc (.cells arr el)) (pu := false) hst h0 h2 hcl (fun h => by cases h) (Nat.le_refl n) (by simp) (by simpa using hN)
  rw [hr] at r1 r2 r3
  exact ⟨_, _, _, hrun, r1, r2, r3⟩
theorem make_sound {pu : Bool} (hst : StR B β H w) {t el : TypeId} {sz by_ : Nat} {z : List C} (he : elemT P t = some el) (hsz : szT P el = some sz) (hby : byT P el = some by_) (hz : zeroC P el = some z) {l cp : Int} {kl kc : IntKind}
  (h0 : 0 < sz) (hl : 0 ≤ l) (hlc : l ≤ cp) (hm : cp ≤ maxLen) (hb : (by_ : Int) * cp ≤ 281474976710656) (hpz : pu = true → z.all C.imm = true) :
  ∃ β' w' v, (Instr.makeSlice t (.int kl l) (.int kc cp)).run P w = .ok v w' ∧ StR B β' (rowNew H pu sz l.toNat ((List.range (l.toNat * sz)).map fun i => z.getD (i % sz) .dead)).2 w' ∧
   Stp β H w β' (rowNew H pu sz l.toNat ((List.range (l.toNat * sz)).map fun i => z.getD (i % sz) .dead)).2 w' ∧
   Rep B β' (rowNew H pu sz l.toNat ((List.range (l.toNat * sz)).map fun i => z.getD (i % sz) .dead)).2 w' (rowNew H pu sz l.toNat ((List.range (l.toNat * sz)).map fun i => z.getD (i % sz) .dead)).1 v := by
 obtain ⟨i, zv, hi, hzv, hzs, hzr⟩ := zero_rep (B := B) (β := β) (H := H) (w := w) hz
 have hisz : i.size = sz := by obtain ⟨i', hi', rfl⟩ := szT_info hsz; rw [hi] at hi'; cases hi'; rfl
 have hiby : i.bytes = by_ := by simp only [byT, hi, kT, kI] at hby; exact hby
 have ht := elemT_under he
 have hrun := run_make (P := P) w t el i zv ht hi hzv kl kc l cp hl hlc (by rw [hiby]; exact hb) (by simp only [maxLen] at hm; omega)
 have hN : New w (.cells (madeCells zv.cells (cp.toNat * i.size)) el (0, 0)) (w.alloc (.cells (madeCells zv.cells (cp.toNat * i.size)) el)) := ⟨rfl, rfl, rfl, rfl⟩
 have hall := made_rep hzr (sz := sz) (by rw [hzs, hisz]) h0 (cp.toNat * i.size)
 have hle : l.toNat ≤ cp.toNat := by omega
 have hpre := hall.take (l.toNat * sz)
 have htake : ((List.range (cp.toNat * i.size)).map fun i => z.getD (i % sz) C.dead).take (l.toNat * sz) = (List.range (l.toNat * sz)).map fun i => z.getD (i % sz) C.dead := by
  rw [← List.map_take, List.take_range, Nat.min_eq_left (by rw [hisz]; exact Nat.mul_le_mul_right _ hle)]
 rw [htake] at hpre
 have hsplit : (madeCells zv.cells (cp.toNat * i.size)) = ((madeCells zv.cells (cp.toNat * i.size)).toList.take (l.toNat * sz) ++ (madeCells zv.cells (cp.toNat * i.size)).toList.drop (l.toNat * sz)).toArray := by
  rw [List.take_append_drop]
 rw [hsplit] at hN
 have hr := rowNew_sound (B := B) (pu := pu) (n := l.toNat) (cap := cp.toNat) (e := el) hst h0 hpre (by simp) (fun hp => ?_) hle ?_ hN
 ·exact ⟨_, _, _, hrun, by rw [← hsplit] at hr; exact hr.1, by rw [← hsplit] at hr; exact hr.2.1, by rw [← hsplit] at hr; exact hr.2.2⟩
 ·rw [List.all_eq_true]
  intro c hc
  simp only [List.mem_map, List.mem_range] at hc
  obtain ⟨j, _, rfl⟩ := hc
  have hzl : z.length = sz := by rw [← hzr.length, Array.length_toList, hzs, hisz]
  have hlt : j % sz < z.length := by rw [hzl]; exact Nat.mod_lt _ h0
  rw [List.getD_eq_getElem?_getD, List.getElem?_eq_getElem hlt]
  exact List.all_eq_true.1 (hpz hp) _ (List.getElem_mem hlt)
 ·simp [madeCells, hisz, Nat.sub_mul]
theorem obj_sound (hst : StR B β H w) {cs : List C} {arr : Array Value} {e : TypeId} (hc : All2 (Rep B β H w) cs arr.toList) :
  StR B (upd β H.length (w.heap.size, 0)) (H ++ [.obj cs]) (w.alloc (.cells arr e)) ∧ Stp β H w (upd β H.length (w.heap.size, 0)) (H ++ [.obj cs]) (w.alloc (.cells arr e)) ∧
   Rep B (upd β H.length (w.heap.size, 0)) (H ++ [.obj cs]) (w.alloc (.cells arr e)) (.ptr H.length 0) (.pointer (some ⟨w.heap.size, 0, none⟩)) := by
 have hN : New w (.cells arr e (0, 0)) (w.alloc (.cells arr e)) := ⟨rfl, rfl, rfl, rfl⟩
 have stp := hN.stp hst (.obj cs) 0
 exact ⟨hN.str hst _ 0 ⟨by rw [upd_same], arr, e, by rw [upd_same]; exact hN.new, hc.mono fun _ _ => Rep.mono stp⟩, stp, cs, by simp, by rw [upd_same]⟩
end
end Go.Lg
end
section
namespace Go.Lg
def RepRes (B : Nat → Prop) (β : Nat → Nat × Nat) (H : Heap) (w : World) (rs : List Y) (v : Value) : Prop := RepX B β H w (pack rs) v
def CallOK (P : Program) (K : Callee) : Prop := ∀ f args H rs H', K f args H = some (rs, H') →
 (∃ fn, P.funcs[f]? = some fn ∧ fn.body.isSome = true) ∧
 ∀ B β w vs, StR B β H w → All2 (RepY B β H w) args vs →
  Calls P f vs.toArray w fun e w' => ∃ v β', e = .returned v ∧ StR B β' H' w' ∧ Stp β H w β' H' w' ∧ RepRes B β' H' w' rs v
section
variable {P : Program} {B : Nat → Prop} {β : Nat → Nat × Nat} {H : Heap} {w : World}
def EqRun (P : Program) (w : World) (t : TypeId) (a b : Value) (r : Bool) : Prop := ∀ ox oy : Operand,
 ((do eqGuard .eql t ox oy a b; binOp .eql t a b) : Sem Value).run P w = .ok (.bool r) w ∧ ((do eqGuard .neq t ox oy a b; binOp .neq t a b) : Sem Value).run P w = .ok (.bool (!r)) w
theorem eqRun_mk {t : TypeId} {a b : Value} {r : Bool} (hb1 : binOp .eql t a b = (do pure (.bool (← Op.equal t a b)))) (hb2 : binOp .neq t a b = (do pure (.bool (!(← Op.equal t a b)))))
  (hg : ∀ op ox oy, eqGuard op t ox oy a b = pure ()) (h : ∀ d, (Op.equalIn (d + 1) t a b).run P w = .ok r w) : EqRun P w t a b r := by
 intro ox oy
 have he : (Op.equal t a b).run P w = .ok r w := h 9999
 constructor
 ·rw [hg, hb1]; simp [he]
 ·rw [hg, hb2]; simp [he]
theorem eqRun_slice {t e : TypeId} (ht : P.underlying t = some (.slice e)) {a b : Option Addr} {l k m n : Nat} (h : (a.isNone || b.isNone) = true) : EqRun P w t (.slice a l k) (.slice b m n) (a.isNone && b.isNone) := by
 refine eqRun_mk rfl rfl (fun op ox oy => by cases op <;> rfl) fun d => ?_
 cases a <;> cases b <;> first | (cases h; done) | simp [Op.equalIn, run_underlying ht]
theorem eqRun_func {t : TypeId} {x y : Array TypeId} {v : Bool} (ht : P.underlying t = some (.func x y v)) {a b : Value} {p q : Bool} (ha : (p = true ∧ a = .nilFunc) ∨ (p = false ∧ ∃ f x y, a = .func f x y)) (hb : (q = true ∧ b = .nilFunc) ∨ (q = false ∧ ∃ f x y, b = .func f x y))
  (h : (p || q) = true) : EqRun P w t a b (p && q) := by
 rcases ha with ⟨rfl, rfl⟩ | ⟨rfl, f, x, y, rfl⟩ <;> rcases hb with ⟨rfl, rfl⟩ | ⟨rfl, g, x', y', rfl⟩
 all_goals first | (cases h; done) | refine eqRun_mk rfl rfl (fun op ox oy => by cases op <;> rfl) fun d => ?_
 all_goals simp [Op.equalIn, run_underlying ht]
theorem eqRun_map {t x y : TypeId} (ht : P.underlying t = some (.map x y)) {a b : Option Nat} (h : (a.isNone || b.isNone) = true) : EqRun P w t (.map a) (.map b) (a.isNone && b.isNone) := by
 refine eqRun_mk rfl rfl (fun op ox oy => by cases op <;> rfl) fun d => ?_
 cases a <;> cases b <;> first | (cases h; done) | simp [Op.equalIn, run_underlying ht]
theorem eqRun_ptr_nil {t e : TypeId} (ht : P.underlying t = some (.pointer e)) {a b : Option Addr} (h : (a.isNone || b.isNone) = true) : EqRun P w t (.pointer a) (.pointer b) (a.isNone && b.isNone) := by
 refine eqRun_mk rfl rfl (fun op ox oy => by cases op <;> rfl) fun d => ?_
 cases a <;> cases b <;> first | (cases h; done) | simp [Op.equalIn, run_underlying ht]
theorem run_sameAddr_cells {a b : Addr} {c1 c2 : Array Value} {e1 e2 : TypeId} (ha : w.heap[a.block]? = some (.cells c1 e1 (0, 0))) (hb : w.heap[b.block]? = some (.cells c2 e2 (0, 0))) :
  (sameAddr a b).run P w = .ok (if a.block = b.block then a == b else false) w := by
 unfold sameAddr
 by_cases h : a.block = b.block
 ·simp [h]
 ·have f1 : w.frozen? a = false := by simp [World.frozen?, ha]
  have f2 : w.frozen? b = false := by simp [World.frozen?, hb]
  have s1 : w.shape? a.block = some (e1, c1.size) := by simp [World.shape?, ha]
  have s2 : w.shape? b.block = some (e2, c2.size) := by simp [World.shape?, hb]
  have g1 : w.frozen? { block := a.block, off := c1.size } = false := by simp [World.frozen?, ha]
  have g2 : w.frozen? { block := b.block, off := c2.size } = false := by simp [World.frozen?, hb]
  simp [h, f1, f2, s1, s2, g1, g2, noView, viewAt, mayBeOne, stringish]
theorem eqRun_ptr {t e : TypeId} {sz : Nat} (ht : P.underlying t = some (.pointer e)) (hsz : szT P e = some sz) (h0 : 0 < sz) {a b : Addr} {c1 c2 : Array Value} {e1 e2 : TypeId}
  (ha : w.heap[a.block]? = some (.cells c1 e1 (0, 0))) (hb : w.heap[b.block]? = some (.cells c2 e2 (0, 0))) : EqRun P w t (.pointer (some a)) (.pointer (some b)) (if a.block = b.block then a == b else false) := by
 have := run_sameAddr_cells (P := P) ha hb
 have h0' : sz ≠ 0 := by omega
 refine eqRun_mk rfl rfl (fun op ox oy => by cases op <;> rfl) fun d => ?_
 simp [Op.equalIn, run_underlying ht, run_szT hsz, h0', this]
theorem eq_sound (hst : StR B β H w) {t : TypeId} {c d : C} {a b : Value} (hc : Rep B β H w c a) (hd : Rep B β H w d b) {r : Bool} (h : eqX P t c d = some r) : EqRun P w t a b r := by
 unfold eqX at h
 split at h
 ·rename_i e ht
  simp only [kB, kR, kI] at h
  obtain ⟨p, hp, q, hq, hpq, rfl⟩ := h
  have key : ∀ {c : C} {a : Value} {p : Bool}, Rep B β H w c a → nilS c = some p → ∃ x l k, a = .slice x l k ∧ x.isNone = p := by
   intro c a p hr h
   cases c with
   | sl bb nil capd cs n =>
    simp only [nilS, kI] at h; subst h
    obtain ⟨x, cap, xs, rfl, ho, _⟩ := hr
    refine ⟨x, _, _, rfl, ?_⟩
    cases nil with
    | true => rw [(ho.nil1 rfl).1]; rfl
    | false => have := ho.nil0 rfl; cases x <;> simp_all
   | row id st off len capd =>
    simp only [nilS, kI] at h; subst h
    obtain ⟨pu, mu, dd, st', sz, cells, ho, hle, ⟨x, l, k, rfl⟩, hh⟩ := hr
    exact ⟨_, _, _, rfl, rfl⟩
   | _ => cases h
  obtain ⟨x, l, k, rfl, hx⟩ := key hc hp
  obtain ⟨y, m, n, rfl, hy⟩ := key hd hq
  rw [← hx, ← hy] at hpq ⊢
  exact eqRun_slice ht hpq
 ·rename_i e ht
  simp only [kB] at h
  obtain ⟨p, hp, q, hq, h⟩ := h
  have key : ∀ {c : C} {a : Value} {p : Option (Nat × Nat)}, Rep B β H w c a → ptrS c = some p → (p = none ∧ a = .pointer none) ∨ ∃ i o cs, p = some (i, o) ∧ H[i]? = some (.obj cs) ∧ a = .pointer (some ⟨(β i).1, o, none⟩) := by
   intro c a p hr h
   cases c with
   | sc v =>
    obtain ⟨_, rfl⟩ := hr
    cases a with
    | pointer x => cases x with
     | none => simp only [ptrS, kI] at h; exact .inl ⟨h.symm, rfl⟩
     | some x => cases h
    | _ => cases h
   | ptr id off =>
    simp only [ptrS, kI] at h
    obtain ⟨cs, ho, rfl⟩ := hr
    exact .inr ⟨id, off, cs, h.symm, ho, rfl⟩
   | _ => cases h
  rcases key hc hp with ⟨rfl, rfl⟩ | ⟨i, o, cs, rfl, ho, rfl⟩ <;> rcases key hd hq with ⟨rfl, rfl⟩ | ⟨j, o', cs', rfl, ho', rfl⟩
  ·simp only [kI] at h; subst h; exact eqRun_ptr_nil ht rfl
  ·simp only [kI] at h; subst h; exact eqRun_ptr_nil ht rfl
  ·simp only [kI] at h; subst h; exact eqRun_ptr_nil ht rfl
  ·simp only [kR, kI] at h
   obtain ⟨hs, rfl⟩ := h
   simp only [Option.any_eq_true, decide_eq_true_eq] at hs
   obtain ⟨sz, hsz, h0⟩ := hs
   obtain ⟨_, arr, e1, hb1, _⟩ := hst.live i _ ho
   obtain ⟨_, arr', e2, hb2, _⟩ := hst.live j _ ho'
   have := eqRun_ptr (P := P) (w := w) ht hsz h0 (a := ⟨(β i).1, o, none⟩) (b := ⟨(β j).1, o', none⟩) hb1 hb2
   have e : (if (⟨(β i).1, o, none⟩ : Addr).block = (⟨(β j).1, o', none⟩ : Addr).block then (⟨(β i).1, o, none⟩ : Addr) == ⟨(β j).1, o', none⟩ else false) = decide ((i, o) = (j, o')) := by
    by_cases hij : i = j
    ·subst hij
     by_cases hoo : o = o'
     ·subst hoo; simp
     ·simp [hoo]
    ·have hne : (β i).1 ≠ (β j).1 := fun x => hij (hst.inj i j _ _ ho rfl ho' rfl x)
     simp [hne, hij]
   rw [e] at this
   exact this
 ·rename_i x y v ht
  simp only [kB, kR, kI] at h
  obtain ⟨p, hp, q, hq, hpq, rfl⟩ := h
  have key : ∀ {c : C} {a : Value} {p : Bool}, Rep B β H w c a → fnS c = some p → (p = true ∧ a = .nilFunc) ∨ (p = false ∧ ∃ f x y, a = .func f x y) := by
   intro c a p hr h
   cases c with
   | sc v =>
    obtain ⟨_, rfl⟩ := hr
    cases a with
    | nilFunc => simp only [fnS, kI] at h; exact .inl ⟨h.symm, rfl⟩
    | _ => cases h
   | fn f x y =>
    simp only [fnS, kI] at h
    obtain ⟨us, vs, rfl, _⟩ := hr
    exact .inr ⟨h.symm, _, _, _, rfl⟩
   | _ => cases h
  exact eqRun_func ht (key hc hp) (key hd hq) hpq
 ·rename_i x y ht
  simp only [kB, kR, kI] at h
  obtain ⟨p, hp, q, hq, hpq, rfl⟩ := h
  have key : ∀ {c : C} {a : Value} {p : Bool}, Rep B β H w c a → mpS c = some p → ∃ x, a = .map x ∧ x.isNone = p := by
   intro c a p hr h
   cases c with
   | sc v =>
    obtain ⟨_, rfl⟩ := hr
    cases a with
    | map x => cases x with
     | none => simp only [mpS, kI] at h; exact ⟨none, rfl, h⟩
     | some x => cases h
    | _ => cases h
   | mp id =>
    simp only [mpS, kI] at h; subst h
    obtain ⟨es, _, _, rfl⟩ := hr
    exact ⟨_, rfl, rfl⟩
   | _ => cases h
  obtain ⟨x, rfl, hx⟩ := key hc hp
  obtain ⟨y, rfl, hy⟩ := key hd hq
  rw [← hx, ← hy] at hpq ⊢
  exact eqRun_map ht hpq
 ·cases h
end
end Go.Lg
end
section
namespace Go.Lg
section
variable {P : Program} {B : Nat → Prop} {β : Nat → Nat × Nat} {H : Heap} {w : World}
theorem pv_bnd {α γ : Type} (s : Sem α) (f : α → Sem γ) : pv P (s >>= f) = (pv P s).bind fun a => pv P (f a) := by
  show pv P (Sem.bind s f) = _
  induction s with
  | pure a => rfl
  | program k ih => exact ih P
  | _ => rfl
theorem run_getO {r : Nat} {o : Obj} (hb : w.heap[r]? = some o) (hc : ∀ c e f, o ≠ .cells c e f) : (getObj r).run P w = .ok o w := by
  cases o <;> first | exact absurd rfl (hc _ _ _) | simp [getObj, Sem.run, hb]
theorem run_setO {r : Nat} {o : Obj} (o' : Obj) (hb : w.heap[r]? = some o) (hc : ∀ c e f, o ≠ .cells c e f) : (setObj r o').run P w = .ok () { w with heap := w.heap.setIfInBounds r o' } := by
  cases o <;> first | exact absurd rfl (hc _ _ _) | simp [setObj, Sem.run, hb]
theorem pv_und {t : TypeId} {d : TypeDesc} (hd : P.underlying t = some d) : pv P (underlying t) = some d := by
  simp [underlying, pv_bnd, program, pv, hd]
  rfl
theorem pv_und0 {t : TypeId} (hd : P.underlying t = none) : pv P (underlying t) = none := by simp [underlying, pv_bnd, program, pv, hd, stuck]
theorem map_block (hst : StR B β H w) {id : Nat} {es : Array MapEntry} {clock : Nat} (h : mapAt H id = some (es, clock)) : H[id]? = some (.map (.map es clock)) ∧ w.heap[(β id).1]? = some (.map es clock) := by
  unfold mapAt at h
  split at h
  · rename_i hh
    simp only [kI, kP] at h
    obtain ⟨rfl, rfl⟩ := h
    exact ⟨hh, hst.live id _ hh⟩
  · cases h
theorem iter_block (hst : StR B β H w) {id : Nat} {m : Option Nat} {since : Nat} {seen : Array Nat} {last : Nat} (h : iterAt H id = some (m, since, seen, last)) :
    H[id]? = some (.map (.iter m since seen last)) ∧ w.heap[(β id).1]? = some (.mapIter (m.map fun j => (β j).1) since seen last) ∧ ∀ j, m = some j → ∃ v, H[j]? = some (.map v) ∧ v.isMap = true := by
  unfold iterAt at h
  split at h
  · rename_i hh
    simp only [kI, kP] at h
    obtain ⟨rfl, rfl, rfl, rfl⟩ := h
    exact ⟨hh, hst.live id _ hh⟩
  · cases h
theorem map_turn (hst : StR B β H w) {id : Nat} {v v' : MapV} (ho : H[id]? = some (.map v)) (hv : v'.isIter = v.isIter) (hm : v'.isMap = v.isMap) (hh : v ≠ .hole) (hh' : v' ≠ .hole) (o' : Obj)
    (hobj : ∀ w' : World, w'.heap[(β id).1]? = some o' → ObjOk B β (H.set id (.map v')) w' id (.map v')) :
    StR B β (H.set id (.map v')) { w with heap := w.heap.setIfInBounds (β id).1 o' } ∧ Stp β H w β (H.set id (.map v')) { w with heap := w.heap.setIfInBounds (β id).1 o' } := by
  have hth : O.there (.map v) = true := by cases v <;> first | rfl | exact absurd rfl hh
  have hlt := hst.inb id _ ho hth
  have t : Turn β w id (.map v) (β id) (.map v') { w with heap := w.heap.setIfInBounds (β id).1 o' } :=
    ⟨rfl, rfl, rfl, (by simp), (fun b hb hne => by
      rcases hne with h | h
      · simp only [Array.getElem?_setIfInBounds]; rw [if_neg (fun e => h e.symm)]
      · cases v <;> first | exact absurd rfl hh | (cases h; done)), .inl rfl, (fun _ => by cases v <;> first | rfl | exact absurd rfl hh), (Kept.map_iff hh).2 ⟨v', rfl, rfl, hv, hm, hh'⟩, hth⟩
  have h1 := t.stp hst ho
  have h2 := t.str hst ho (by simpa using hlt) (by rw [upd_self]; exact hobj _ (by simp [Array.getElem?_setIfInBounds, hlt]))
  rw [upd_self] at h1 h2
  exact ⟨h2, h1⟩
theorem map_new (hst : StR B β H w) (v : MapV) (o : Obj) (hobj : ∀ (β' : Nat → Nat × Nat) (w' : World), w'.heap[(β' H.length).1]? = some o → (∀ j, j < H.length → β' j = β j) → ObjOk B β' (H ++ [.map v]) w' H.length (.map v)) :
    StR B (upd β H.length (w.heap.size, 0)) (H ++ [.map v]) (w.alloc o) ∧ Stp β H w (upd β H.length (w.heap.size, 0)) (H ++ [.map v]) (w.alloc o) := by
  have hN : New w o (w.alloc o) := ⟨rfl, rfl, rfl, rfl⟩
  refine ⟨hN.str hst _ 0 (hobj _ _ (by rw [upd_same]; exact hN.new) fun j hj => upd_other _ _ (by omega)), hN.stp hst _ 0⟩
theorem entries_sound (hst : StR B β H w) {x : X} {a : Value} {es : Array MapEntry} (hx : RepX B β H w x a) (h : entriesX H x = some es) : (a = .map none ∧ es = #[]) ∨ ∃ r clock, a = .map (some r) ∧ w.heap[r]? = some (.map es clock) := by
  unfold entriesX at h
  split at h
  · simp only [kI] at h
    obtain ⟨_, rfl⟩ := hx
    exact .inl ⟨rfl, h.symm⟩
  · rename_i id
    simp only [kM] at h
    obtain ⟨⟨es', clock⟩, h1, rfl⟩ := h
    obtain ⟨_, h3⟩ := map_block hst h1
    obtain ⟨_, _, _, rfl⟩ := hx
    exact .inr ⟨_, clock, rfl, h3⟩
  · cases h
theorem out_sound {ok : Bool} {v : Value} {x : X} (h : outX ok v = some x) : RepX B β H w x v := by
  unfold outX at h
  cases ok with
  | false =>
    simp only [Bool.false_eq_true, if_false, kI] at h
    subst h
    exact repY_ofV v
  | true =>
    simp only [if_true] at h
    split at h
    · rename_i vs
      simp only [kI] at h
      subst h
      refine ⟨vs.toList, by simp, ?_⟩
      induction vs.toList with
      | nil => exact .nil
      | cons a l ih => exact .cons (repY_ofV a) ih
    · cases h
theorem bag_block (hst : StR B β H w) {x : X} {a : Value} {id : Nat} {es : List (Value × Value)} (hx : RepX B β H w x a) (h : bagX H x = some (id, es)) :
    H[id]? = some (.map (.bag es)) ∧ a = .map (some (β id).1) ∧ ∃ es' clock, w.heap[(β id).1]? = some (.map es' clock) ∧ BagOk es es' clock := by
  unfold bagX at h
  split at h
  · rename_i id'
    simp only [kM, kP] at h
    obtain ⟨p, hp, rfl, rfl⟩ := h
    unfold bagAt at hp
    split at hp
    · rename_i hh
      simp only [kI] at hp
      subst hp
      obtain ⟨_, _, _, rfl⟩ := hx
      exact ⟨hh, rfl, hst.live _ _ hh⟩
    · cases hp
  · cases h
def fkB (P : Program) (kt : TypeId) (k : Value) : List MapEntry → Nat → Option (Nat × Value)
  | [], _ => none
  | e :: r, i => if keyEq P kt k e.key = some true then some (i, e.val) else fkB P kt k r (i + 1)
theorem find_run {kt : TypeId} {k : Value} {d : TypeDesc} (hd : P.underlying kt = some d) (w : World) {l : List MapEntry} (h : ∀ e ∈ l, (keyEq P kt k e.key).isSome = true) :
    (Instr.findKey kt k l).run P w = .ok (fkB P kt k l 0) w := by
  by_cases hs : isStructT P kt = true
  · have hask : ∀ (l : List MapEntry) (i : Nat), (∀ e ∈ l, (keyEq P kt k e.key).isSome = true) → (Instr.findAsking kt k l i).run P w = .ok (fkB P kt k l i) w := by
      intro l
      induction l with
      | nil => intro i _; rfl
      | cons e r ih =>
        intro i h
        have h1 := h e (by simp)
        have h2 := ih (i + 1) fun x hx => h x (by simp [hx])
        unfold Instr.findAsking fkB
        unfold keyEq at h1 ⊢
        rw [if_pos hs] at h1 ⊢
        obtain ⟨b, hb⟩ := Option.isSome_iff_exists.1 h1
        rw [hb]
        simp only [Sem.run_bind, pv_run w hb, Result.andThen]
        cases b with
        | true => rfl
        | false => simpa using h2
    unfold isStructT at hs
    rw [hd] at hs
    unfold Instr.findKey
    simp only [Sem.run_bind, run_underlying hd, Result.andThen]
    cases l with
    | nil => rfl
    | cons e r =>
      have : Instr.findNow d k (e :: r) 0 = none := by
        unfold Instr.findNow
        have hn : Instr.sameNow d k e.key = none := by
          cases d <;> first | (cases hs; done) | rfl
        rw [hn]
      simp only [this]
      exact hask _ 0 h
  · have hnow : ∀ (l : List MapEntry) (i : Nat), (∀ e ∈ l, (keyEq P kt k e.key).isSome = true) → Instr.findNow d k l i = some (fkB P kt k l i) := by
      intro l
      induction l with
      | nil => intro i _; rfl
      | cons e r ih =>
        intro i h
        have h1 := h e (by simp)
        have h2 := ih (i + 1) fun x hx => h x (by simp [hx])
        unfold Instr.findNow fkB
        have hk : keyEq P kt k e.key = Instr.sameNow d k e.key := by unfold keyEq; rw [if_neg hs, hd]; rfl
        rw [hk] at h1
        simp only [hk]
        obtain ⟨b, hb⟩ := Option.isSome_iff_exists.1 h1
        simp only [hb]
        cases b with
        | true => rfl
        | false => simpa using h2
    unfold Instr.findKey
    simp only [Sem.run_bind, run_underlying hd, Result.andThen, hnow l 0 h]
    rfl
theorem fkB_none {kt : TypeId} {k : Value} : ∀ {l : List MapEntry} (i : Nat), (∀ e ∈ l, keyEq P kt k e.key ≠ some true) → fkB P kt k l i = none := by
  intro l
  induction l with
  | nil => intro i _; rfl
  | cons e r ih => intro i h; unfold fkB; rw [if_neg (h e (by simp))]; exact ih _ fun x hx => h x (by simp [hx])
theorem fkB_at {kt : TypeId} {k : Value} {e : MapEntry} (he : keyEq P kt k e.key = some true) : ∀ {l r : List MapEntry} (i : Nat), (∀ e ∈ l, keyEq P kt k e.key ≠ some true) → fkB P kt k (l ++ e :: r) i = some (i + l.length, e.val) := by
  intro l r
  induction l with
  | nil => intro i _; show (if _ then _ else _) = _; rw [if_pos he]; rfl
  | cons x l ih =>
    intro i h
    show (if _ then _ else _) = _
    rw [if_neg (h x (by simp))]
    refine (ih (i + 1) fun x hx => h x (by simp [hx])).trans ?_
    simp; omega
theorem seekB_sound {kt : TypeId} {k : Value} {es a b : List (Value × Value)} (h : seekB P kt k es = some (a, b)) {es' : Array MapEntry} {clock : Nat} (hb : BagOk es es' clock) :
    (∀ (w : World), (Instr.checkKey es'.isEmpty 10000 kt k).run P w = .ok () w ∧ (Instr.checkKey false 10000 kt k).run P w = .ok () w) ∧
    (∀ (w : World), (Instr.findKey kt k es'.toList).run P w = .ok (fkB P kt k es'.toList 0) w) ∧
    ((a = [] ∧ b.Perm es ∧ fkB P kt k es'.toList 0 = none) ∨
     ∃ (l r : List MapEntry) (e : MapEntry), es'.toList = l ++ e :: r ∧ a = [(e.key, e.val)] ∧ fkB P kt k es'.toList 0 = some (l.length, e.val) ∧ ((l ++ r).map fun e => (e.key, e.val)).Perm b) := by
  unfold seekB at h
  split at h
  case isFalse => cases h
  rename_i hc
  simp only [kA] at hc
  obtain ⟨⟨⟨hu, hc1⟩, hc2⟩, hall⟩ := hc
  obtain ⟨d, hd⟩ := Option.isSome_iff_exists.1 hu
  obtain ⟨hp, hnd, hlt⟩ := hb
  simp only [List.partition_eq_filter_filter] at h
  split at h
  case isFalse => cases h
  rename_i hlen
  simp only [kI, kP] at h
  obtain ⟨ha, hb⟩ := h
  have hmem : ∀ e ∈ es'.toList, (e.key, e.val) ∈ es := fun e he => hp.subset (List.mem_map.2 ⟨e, he, rfl⟩)
  have hsome : ∀ e ∈ es'.toList, (keyEq P kt k e.key).isSome = true := fun e he => List.all_eq_true.1 hall _ (hmem e he)
  refine ⟨fun w => ?_, fun w => find_run hd w hsome, ?_⟩
  · obtain ⟨u1, h1⟩ := Option.isSome_iff_exists.1 hc1
    obtain ⟨u2, h2⟩ := Option.isSome_iff_exists.1 hc2
    have : es'.isEmpty = es.isEmpty := by
      have := hp.length_eq
      rw [List.length_map] at this
      rw [Bool.eq_iff_iff]
      simp only [List.isEmpty_iff, Array.isEmpty_iff, ← List.length_eq_zero_iff, ← this, Array.length_toList, Array.size_eq_zero_iff]
    rw [this]
    exact ⟨pv_run w h1, pv_run w h2⟩
  · have hf := hp.filter fun e => keyEq P kt k e.1 == some true
    have hg := hp.filter fun e => !(keyEq P kt k e.1 == some true)
    rw [ha] at hf hlen
    rw [show (List.filter (fun e => !(keyEq P kt k e.1 == some true)) es) = b from hb] at hg
    cases a with
    | nil =>
      left
      have hno : ∀ e ∈ es'.toList, keyEq P kt k e.key ≠ some true := by
        intro e he hk
        have : (e.key, e.val) ∈ ([] : List (Value × Value)) := hf.subset (List.mem_filter.2 ⟨List.mem_map.2 ⟨e, he, rfl⟩, by simp [hk]⟩)
        cases this
      refine ⟨rfl, ?_, fkB_none 0 hno⟩
      refine List.Perm.trans hg.symm (List.Perm.trans ?_ hp)
      rw [List.filter_eq_self.2]
      intro x hx
      obtain ⟨e, he, rfl⟩ := List.mem_map.1 hx
      simp [hno e he]
    | cons p a =>
      cases a with
      | cons _ _ => simp at hlen
      | nil =>
        right
        have hf1 : (es'.toList.map fun e => (e.key, e.val)).filter (fun e => keyEq P kt k e.1 == some true) = [p] := List.perm_singleton.1 hf
        rw [List.filter_map] at hf1
        obtain ⟨e, hfe, rfl⟩ : ∃ e, es'.toList.filter ((fun e => keyEq P kt k e.1 == some true) ∘ fun e => (e.key, e.val)) = [e] ∧ p = (e.key, e.val) := by
          obtain ⟨x, l2, h3, h4, h5⟩ := List.map_eq_cons_iff.1 hf1
          have := List.map_eq_nil_iff.1 h5
          subst this
          exact ⟨x, h3, h4.symm⟩
        obtain ⟨l, r', hl, hl1, he, hr⟩ := List.filter_eq_cons_iff.1 hfe
        have hke : keyEq P kt k e.key = some true := by simpa using he
        refine ⟨l, r', e, hl, rfl, ?_, ?_⟩
        · rw [hl, fkB_at hke 0 fun x hx => by have := hl1 x hx; simpa using this]
          simp
        · rw [hl] at hg
          refine List.Perm.trans ?_ hg
          have hr0 : ∀ x ∈ r', ¬ ((fun e => keyEq P kt k e.1 == some true) ∘ fun e : MapEntry => (e.key, e.val)) x = true := by
            intro x hx hpx
            have : x ∈ r'.filter ((fun e => keyEq P kt k e.1 == some true) ∘ fun e => (e.key, e.val)) := List.mem_filter.2 ⟨hx, hpx⟩
            rw [hr] at this
            cases this
          rw [List.map_append, List.map_append, List.map_cons, List.filter_append, List.filter_cons]
          rw [List.filter_eq_self.2, List.filter_eq_self.2]
          · simp [hke]
          · intro x hx
            obtain ⟨y, hy, rfl⟩ := List.mem_map.1 hx
            have := hr0 y hy
            simpa using this
          · intro x hx
            obtain ⟨y, hy, rfl⟩ := List.mem_map.1 hx
            have := hl1 y hy
            simpa using this
theorem und_of {t kt vt : TypeId} (h1 : keyT P t = some kt) (h2 : valTy P t = some vt) : P.underlying t = some (.map kt vt) := by
  unfold keyT at h1
  unfold valTy at h2
  split at h1
  · rename_i k v hu
    rw [hu] at h2 ⊢
    cases h1; cases h2; rfl
  · cases h1
theorem modify_mid {α : Type} (f : α → α) (x : α) (r : List α) : ∀ l : List α, (l ++ x :: r).modify l.length f = l ++ f x :: r
  | [] => by simp
  | y :: l => by simp [modify_mid f x r l]
theorem keyT_und {t kt : TypeId} (h1 : keyT P t = some kt) : ∃ vt, P.underlying t = some (.map kt vt) := by
  unfold keyT at h1
  split at h1
  · rename_i k v hu; cases h1; exact ⟨v, hu⟩
  · cases h1
theorem lookup_sound (hst : StR B β H w) {t : TypeId} {x i : X} {a b : Value} {ok : Bool} {v : X} (hx : RepX B β H w x a) (hi : RepX B β H w i b) (h : lookupX P H t x i ok = some v) :
    ∃ u, (Instr.lookup t a b ok).run P w = .ok u w ∧ RepX B β H w v u := by
  unfold lookupX at h
  split at h
  · rename_i id es hbag
    simp only [kB] at h
    obtain ⟨k, hk, u, hu, hv⟩ := h
    obtain rfl := repX_toV hi hk
    refine ⟨u, ?_, out_sound hv⟩
    obtain ⟨_, rfl, es', clock, hb, hok⟩ := bag_block hst hx hbag
    unfold lookB at hu
    simp only [kB, kM] at hu
    obtain ⟨kt, hkt, vt, hvt, ⟨a, b'⟩, hsk, ⟨v1, ok1⟩, hm, rfl⟩ := hu
    have hd := und_of hkt hvt
    obtain ⟨hc, hf, hr⟩ := seekB_sound hsk hok
    have hc := (hc w).1
    have hf := hf w
    rcases hr with ⟨rfl, _, hn⟩ | ⟨l, r, e, hl, rfl, hn, _⟩
    · simp only [kM, kP] at hm
      obtain ⟨z, hz, rfl, rfl⟩ := hm
      rw [hn] at hf
      have r3 := pv_run w hz
      simp [Instr.lookup, run_underlying hd, MapKept.run_getObj_map hb, hc, hf, r3]
    · simp only [kI, kP] at hm
      obtain ⟨rfl, rfl⟩ := hm
      rw [hn] at hf
      simp [Instr.lookup, run_underlying hd, MapKept.run_getObj_map hb, hc, hf]
  simp only [kB] at h
  obtain ⟨es, hes, k, hk, u, hu, hv⟩ := h
  obtain rfl := repX_toV hi hk
  refine ⟨u, ?_, out_sound hv⟩
  unfold lookupV at hu
  cases hd : P.underlying t with
  | none => rw [pv_bnd, pv_und0 hd] at hu; cases hu
  | some d =>
    rw [pv_bnd, pv_und hd] at hu
    simp only [kS] at hu
    cases d <;> first | (simp [pv, stuck] at hu; done) | skip
    rename_i kt el
    simp only [pv_bnd, kB] at hu
    obtain ⟨_, hchk, f, hf, hu⟩ := hu
    have r1 := pv_run w hchk
    have r2 := pv_run w hf
    rcases entries_sound hst hx hes with ⟨rfl, rfl⟩ | ⟨r, clock, rfl, hb⟩
    · have r1' : Sem.run P (Instr.checkKey true 10000 kt b) w = .ok () w := by simpa using r1
      have r2' : Sem.run P (Instr.findKey kt b []) w = .ok f w := by simpa using r2
      cases f with
      | none =>
        simp only [pv_bnd] at hu
        cases hz : pv P (zeroValue el) with
        | none => rw [hz] at hu; cases hu
        | some z =>
          rw [hz] at hu
          have r3 := pv_run w hz
          simp only [kS, pv, pure, kI] at hu
          subst hu
          simp [Instr.lookup, run_underlying hd, r1', r2', r3]
      | some p =>
        obtain ⟨i', v0⟩ := p
        simp only [pv_bnd, kS, pv, pure, kI] at hu
        subst hu
        simp [Instr.lookup, run_underlying hd, r1', r2']
    · cases f with
      | none =>
        simp only [pv_bnd] at hu
        cases hz : pv P (zeroValue el) with
        | none => rw [hz] at hu; cases hu
        | some z =>
          rw [hz] at hu
          have r3 := pv_run w hz
          simp only [kS, pv, pure, kI] at hu
          subst hu
          simp [Instr.lookup, run_underlying hd, MapKept.run_getObj_map hb, r1, r2, r3]
      | some p =>
        obtain ⟨i', v0⟩ := p
        simp only [pv_bnd, kS, pv, pure, kI] at hu
        subst hu
        simp [Instr.lookup, run_underlying hd, MapKept.run_getObj_map hb, r1, r2]
theorem update_sound (hst : StR B β H w) {t : TypeId} {x k y : X} {a b c : Value} {H' : Heap} (hx : RepX B β H w x a) (hk : RepX B β H w k b) (hy : RepX B β H w y c) (h : updateX P H t x k y = some H') :
    ∃ w', (Instr.mapUpdate t a b c).run P w = .ok () w' ∧ StR B β H' w' ∧ Stp β H w β H' w' := by
  unfold updateX at h
  split at h
  · rename_i id es hbag
    simp only [kB, kM] at h
    obtain ⟨kv, hkv, yv, hyv, r, hu, rfl⟩ := h
    obtain rfl := repX_toV hk hkv
    obtain rfl := repX_toV hy hyv
    obtain ⟨ho, rfl, es', clock, hb, hok⟩ := bag_block hst hx hbag
    unfold updB at hu
    simp only [kB] at hu
    obtain ⟨kt, hkt, ⟨a, b'⟩, hsk, hu⟩ := hu
    split at hu
    case isFalse => cases hu
    rename_i hsame
    cases hu
    obtain ⟨vt, hd⟩ := keyT_und hkt
    obtain ⟨hc, hf, hr⟩ := seekB_sound hsk hok
    have hc := (hc w).2
    have hf := hf w
    obtain ⟨hp, hnd, hlt⟩ := hok
    rcases hr with ⟨rfl, hbp, hn⟩ | ⟨l, r, e, hl, rfl, hn, hbp⟩
    · rw [hn] at hf
      have hok' : BagOk (b' ++ [(b, c)]) (es'.push { key := b, val := c, born := clock }) (clock + 1) := by
        refine ⟨?_, ?_, ?_⟩
        · rw [Array.toList_push, List.map_append]
          exact List.Perm.append (hp.trans hbp.symm) (.refl _)
        · rw [Array.toList_push, List.map_append, List.nodup_append]
          refine ⟨hnd, by simp, ?_⟩
          intro x hx y hy
          obtain ⟨e, he, rfl⟩ := List.mem_map.1 hx
          simp only [List.map_cons, List.map_nil, List.mem_singleton] at hy
          have := hlt e he
          omega
        · intro e he
          rw [Array.toList_push, List.mem_append] at he
          rcases he with he | he
          · have := hlt e he; omega
          · simp only [List.mem_singleton] at he; subst he; exact Nat.lt_succ_self _
      obtain ⟨h1, h2⟩ := map_turn hst ho (v' := .bag (b' ++ [(b, c)])) rfl rfl (by simp) (by simp) (.map (es'.push { key := b, val := c, born := clock }) (clock + 1)) (fun w' h => ⟨_, _, h, hok'⟩)
      refine ⟨_, ?_, h1, h2⟩
      simp [Instr.mapUpdate, run_underlying hd, MapKept.run_getObj_map hb, hc, hf, MapKept.run_setObj_map _ hb]
    · rw [hn] at hf
      have hget : es'[l.length]? = some e := by rw [← Array.getElem?_toList, hl]; simp
      have hsb : Instr.sameBits 10000 e.key b = true := by simpa using hsame
      have hst' : (Instr.keyThatStays (((es'[l.length]?).map (·.key)).getD b) b).run P w = .ok b w := by
        rw [hget]
        simp only [kT, Option.getD_some]
        unfold Instr.keyThatStays
        rw [if_pos hsb]
        rfl
      have htl : (es'.modify l.length fun e => { e with key := b, val := c }).toList = l ++ { e with key := b, val := c } :: r := by
        rw [Array.toList_modify, hl, modify_mid]
      have hok' : BagOk (b' ++ [(b, c)]) (es'.modify l.length fun e => { e with key := b, val := c }) clock := by
        refine ⟨?_, ?_, ?_⟩
        · rw [htl, List.map_append, List.map_cons]
          refine List.perm_middle.trans ?_
          rw [← List.map_append]
          exact (List.Perm.cons _ hbp).trans (List.perm_append_singleton _ _).symm
        · rw [htl]
          rw [hl] at hnd
          simpa using hnd
        · intro x hx
          rw [htl] at hx
          rw [hl] at hlt
          simp only [List.mem_append, List.mem_cons] at hx hlt
          rcases hx with hx | rfl | hx
          · exact hlt x (.inl hx)
          · exact hlt e (.inr (.inl rfl))
          · exact hlt x (.inr (.inr hx))
      obtain ⟨h1, h2⟩ := map_turn hst ho (v' := .bag (b' ++ [(b, c)])) rfl rfl (by simp) (by simp) (.map (es'.modify l.length fun e => { e with key := b, val := c }) clock) (fun w' h => ⟨_, _, h, hok'⟩)
      refine ⟨_, ?_, h1, h2⟩
      simp [Instr.mapUpdate, run_underlying hd, MapKept.run_getObj_map hb, hc, hf, hst', MapKept.run_setObj_map _ hb]
  rename_i hb0
  clear hb0
  split at h
  · rename_i id
    simp only [kB, kM] at h
    obtain ⟨⟨es, clock⟩, hm, kv, hkv, yv, hyv, ⟨es', clock'⟩, hu, rfl⟩ := h
    obtain rfl := repX_toV hk hkv
    obtain rfl := repX_toV hy hyv
    obtain ⟨ho, hb⟩ := map_block hst hm
    obtain ⟨_, _, _, rfl⟩ := hx
    obtain ⟨h1, h2⟩ := map_turn hst ho (v' := .map es' clock') rfl rfl (by simp) (by simp) (.map es' clock') (fun w' h => h)
    refine ⟨_, ?_, h1, h2⟩
    unfold updateV at hu
    cases hd : P.underlying t with
    | none => rw [pv_bnd, pv_und0 hd] at hu; cases hu
    | some d =>
      rw [pv_bnd] at hu
      rw [pv_und hd] at hu
      simp only [kS] at hu
      cases d <;> first | (simp [pv, stuck] at hu; done) | skip
      rename_i kt el
      simp only [pv_bnd, kB] at hu
      obtain ⟨_, hchk, f, hf, hu⟩ := hu
      have r1 := pv_run w hchk
      have r2 := pv_run w hf
      cases f with
      | none =>
        simp only [pv, pure, kI, kP] at hu
        obtain ⟨rfl, rfl⟩ := hu
        simp [Instr.mapUpdate, run_underlying hd, MapKept.run_getObj_map hb, r1, r2, MapKept.run_setObj_map _ hb]
      | some p =>
        obtain ⟨i, v0⟩ := p
        simp only [pv_bnd, kB] at hu
        obtain ⟨key', hkey, hu⟩ := hu
        have r3 := pv_run w hkey
        simp only [pv, pure, kI, kP] at hu
        obtain ⟨rfl, rfl⟩ := hu
        simp [Instr.mapUpdate, run_underlying hd, MapKept.run_getObj_map hb, r1, r2, r3, MapKept.run_setObj_map _ hb]
  · cases h
theorem mapEntry_sound (hst : StR B β H w) {t : TypeId} {x k : X} {a b : Value} {v : X} {H' : Heap} (hx : RepX B β H w x a) (hk : RepX B β H w k b) (h : mapEntryX P H t x k = some (v, H')) :
    ∃ w' u, (Instr.mapEntry t a b).run P w = .ok u w' ∧ StR B β H' w' ∧ Stp β H w β H' w' ∧ RepX B β H' w' v u := by
  unfold mapEntryX at h
  split at h
  · rename_i id
    simp only [kB, kM] at h
    obtain ⟨⟨es, clock⟩, hm, kv, hkv, ⟨es', clock', v1, v2⟩, hu, he⟩ := h
    split at he
    case isFalse => cases he
    case isTrue =>
    cases he
    obtain rfl := repX_toV hk hkv
    obtain ⟨ho, hb⟩ := map_block hst hm
    obtain ⟨_, _, _, rfl⟩ := hx
    obtain ⟨h1, h2⟩ := map_turn hst ho (v' := .map es' clock') rfl rfl (by simp) (by simp) (.map es' clock') (fun w' h => h)
    refine ⟨_, .tuple #[v1, v2], ?_, h1, h2, [v1, v2], rfl, .cons (repY_ofV _) (.cons (repY_ofV _) .nil)⟩
    unfold entryV at hu
    cases hd : P.underlying t with
    | none => rw [pv_bnd, pv_und0 hd] at hu; cases hu
    | some d =>
      rw [pv_bnd, pv_und hd] at hu
      simp only [kS] at hu
      cases d <;> first | (simp [pv, stuck] at hu; done) | skip
      rename_i kt el
      simp only [pv_bnd, kB] at hu
      obtain ⟨_, hchk, f, hf, hu⟩ := hu
      have r1 := pv_run w hchk
      have r2 := pv_run w hf
      cases f with
      | none =>
        simp only [pv_bnd, kB] at hu
        obtain ⟨z, hz, hu⟩ := hu
        have r3 := pv_run w hz
        simp only [pv, pure, kI, kP] at hu
        obtain ⟨rfl, rfl, rfl, rfl⟩ := hu
        simp [Instr.mapEntry, run_underlying hd, MapKept.run_getObj_map hb, r1, r2, r3, MapKept.run_setObj_map _ hb]
      | some p =>
        obtain ⟨i, v0⟩ := p
        simp only [pv_bnd, kB] at hu
        obtain ⟨key', hkey, hu⟩ := hu
        have r3 := pv_run w hkey
        simp only [pv, pure, kI, kP] at hu
        obtain ⟨rfl, rfl, rfl, rfl⟩ := hu
        simp [Instr.mapEntry, run_underlying hd, MapKept.run_getObj_map hb, r1, r2, r3, MapKept.run_setObj_map _ hb]
  · cases h
theorem entryStore_sound (hst : StR B β H w) {t : TypeId} {x y : X} {a c : Value} {ik : IntKind} {born : Int} {k : X} {H' : Heap} (hx : RepX B β H w x a) (hk : k.int? = some born) (hy : RepX B β H w y c) (h : entryStoreX H x k y = some H') :
    ∃ w', (Instr.entryStore t a (.int ik born) c).run P w = .ok () w' ∧ StR B β H' w' ∧ Stp β H w β H' w' := by
  unfold entryStoreX at h
  split at h
  · rename_i id
    simp only [kB, kM] at h
    obtain ⟨⟨es, clock⟩, hm, born', hb', yv, hyv, i, hi, rfl⟩ := h
    rw [hk] at hb'
    cases hb'
    obtain rfl := repX_toV hy hyv
    obtain ⟨ho, hb⟩ := map_block hst hm
    obtain ⟨_, _, _, rfl⟩ := hx
    obtain ⟨h1, h2⟩ := map_turn hst ho (v' := .map (es.modify i fun e => { e with val := c }) clock) rfl rfl (by simp) (by simp) (.map (es.modify i fun e => { e with val := c }) clock) (fun w' h => h)
    refine ⟨_, ?_, h1, h2⟩
    simp [Instr.entryStore, MapKept.run_getObj_map hb, asInt, asIntOf, hi, MapKept.run_setObj_map _ hb]
  · cases h
theorem delete_sound (hst : StR B β H w) {ts : Array TypeId} {type t : TypeId} (hts : ts[0]? = some t) {x k : X} {a b : Value} {H' : Heap} (hx : RepX B β H w x a) (hk : RepX B β H w k b) (h : deleteX P H t x k = some H') :
    ∃ w', (Builtin.delete_ ts type #[a, b]).run P w = .ok (.tuple #[]) w' ∧ StR B β H' w' ∧ Stp β H w β H' w' := by
  unfold deleteX at h
  split at h
  · rename_i id es hbag
    simp only [kB, kM] at h
    obtain ⟨kv, hkv, r, hu, rfl⟩ := h
    obtain rfl := repX_toV hk hkv
    obtain ⟨ho, rfl, es', clock, hb, hok⟩ := bag_block hst hx hbag
    unfold delB at hu
    simp only [kB, kM] at hu
    obtain ⟨kt, hkt, ⟨a, b'⟩, hsk, rfl⟩ := hu
    obtain ⟨vt, hd⟩ := keyT_und hkt
    obtain ⟨hc, hf, hr⟩ := seekB_sound hsk hok
    have hc := (hc w).1
    have hf := hf w
    obtain ⟨hp, hnd, hlt⟩ := hok
    rcases hr with ⟨rfl, hbp, hn⟩ | ⟨l, r, e, hl, rfl, hn, hbp⟩
    · rw [hn] at hf
      obtain ⟨h1, h2⟩ := map_turn hst ho (v' := .bag b') rfl rfl (by simp) (by simp) (.map es' clock) (fun w' h => ⟨_, _, h, hp.trans hbp.symm, hnd, hlt⟩)
      refine ⟨_, ?_, h1, h2⟩
      simp [Builtin.delete_, hts, run_underlying hd, MapKept.run_getObj_map hb, hc, hf, MapKept.run_setObj_map _ hb]
    · rw [hn] at hf
      have htl : (es'.eraseIdxIfInBounds l.length).toList = l ++ r := by
        rw [Array.toList_eraseIdxIfInBounds, hl, List.eraseIdx_append_of_length_le (by simp)]
        simp
      have hok' : BagOk b' (es'.eraseIdxIfInBounds l.length) clock := by
        refine ⟨by rw [htl]; exact hbp, ?_, ?_⟩
        · rw [htl]
          rw [hl] at hnd
          exact hnd.sublist (by simp)
        · intro x hx
          rw [htl] at hx
          rw [hl] at hlt
          simp only [List.mem_append, List.mem_cons] at hx hlt
          rcases hx with hx | hx
          · exact hlt x (.inl hx)
          · exact hlt x (.inr (.inr hx))
      obtain ⟨h1, h2⟩ := map_turn hst ho (v' := .bag b') rfl rfl (by simp) (by simp) (.map (es'.eraseIdxIfInBounds l.length) clock) (fun w' h => ⟨_, _, h, hok'⟩)
      refine ⟨_, ?_, h1, h2⟩
      simp [Builtin.delete_, hts, run_underlying hd, MapKept.run_getObj_map hb, hc, hf, MapKept.run_setObj_map _ hb]
  rename_i hb0
  clear hb0
  split at h
  · rename_i id
    simp only [kB, kM] at h
    obtain ⟨⟨es, clock⟩, hm, kv, hkv, es', hu, rfl⟩ := h
    obtain rfl := repX_toV hk hkv
    obtain ⟨ho, hb⟩ := map_block hst hm
    obtain ⟨_, _, _, rfl⟩ := hx
    obtain ⟨h1, h2⟩ := map_turn hst ho (v' := .map es' clock) rfl rfl (by simp) (by simp) (.map es' clock) (fun w' h => h)
    refine ⟨_, ?_, h1, h2⟩
    unfold deleteV at hu
    cases hd : P.underlying t with
    | none => rw [pv_bnd, pv_und0 hd] at hu; cases hu
    | some d =>
      rw [pv_bnd] at hu
      rw [pv_und hd] at hu
      simp only [kS] at hu
      cases d <;> first | (simp [pv, stuck] at hu; done) | skip
      simp only [pv_bnd, kB] at hu
      obtain ⟨_, hchk, f, hf, hu⟩ := hu
      have r1 := pv_run w hchk
      have r2 := pv_run w hf
      cases f with
      | none =>
        simp only [pv, pure, kI] at hu
        subst hu
        simp [Builtin.delete_, hts, run_underlying hd, MapKept.run_getObj_map hb, r1, r2, MapKept.run_setObj_map _ hb]
      | some p =>
        obtain ⟨i, v0⟩ := p
        simp only [pv, pure, kI] at hu
        subst hu
        simp [Builtin.delete_, hts, run_underlying hd, MapKept.run_getObj_map hb, r1, r2, MapKept.run_setObj_map _ hb]
  · cases h
theorem isMapT_under {t : TypeId} (h : isMapT P t = true) : ∃ k e, P.underlying t = some (.map k e) := by
  unfold isMapT at h
  split at h
  · rename_i k e hu; exact ⟨k, e, hu⟩
  · cases h
theorem range_sound (hst : StR B β H w) {t : TypeId} {x : X} {a : Value} {v : X} {H' : Heap} (hx : RepX B β H w x a) (h : rangeX P H t x = some (v, H')) :
    ∃ β' w' u, (Instr.range t a).run P w = .ok u w' ∧ StR B β' H' w' ∧ Stp β H w β' H' w' ∧ RepX B β' H' w' v u := by
  unfold rangeX at h
  split at h
  · rename_i ht
    obtain ⟨k, e, hu⟩ := isMapT_under ht
    split at h
    · simp only [kI, kP] at h
      obtain ⟨rfl, rfl⟩ := h
      obtain ⟨_, rfl⟩ := hx
      obtain ⟨h1, h2⟩ := map_new hst (.iter none 0 #[] 0) (.mapIter none 0 #[] 0) (fun β' w' hb _ => ⟨hb, fun j hj => by cases hj⟩)
      refine ⟨_, _, .pointer (some ⟨w.heap.size, 0, none⟩), ?_, h1, h2, .iter none 0 #[] 0, by simp, rfl, by rw [upd_same]⟩
      simp [Instr.range, run_underlying hu]
    · rename_i id
      simp only [kM, kP] at h
      obtain ⟨⟨es, clock⟩, hm, rfl, rfl⟩ := h
      obtain ⟨ho, hb⟩ := map_block hst hm
      obtain ⟨_, _, _, rfl⟩ := hx
      have hlt := lt_of_get ho
      obtain ⟨h1, h2⟩ := map_new hst (.iter (some id) clock #[] clock) (.mapIter (some (β id).1) clock #[] clock) (fun β' w' hb' hβ => ⟨by rw [kT, hβ id hlt]; exact hb', fun j hj => by
        cases hj
        exact ⟨_, by rw [List.getElem?_append_left hlt]; exact ho, rfl⟩⟩)
      refine ⟨_, _, .pointer (some ⟨w.heap.size, 0, none⟩), ?_, h1, h2, .iter (some id) clock #[] clock, by simp, rfl, by rw [upd_same]⟩
      simp [Instr.range, run_underlying hu, MapKept.run_getObj_map hb]
    · cases h
  · cases h
theorem next_sound (hst : StR B β H w) {type : TypeId} {x : X} {a : Value} {v : X} {H' : Heap} (hx : RepX B β H w x a) (h : nextX H x = some (v, H')) :
    ∃ w' u, (Instr.next a false type).run P w = .ok u w' ∧ StR B β H' w' ∧ Stp β H w β H' w' ∧ RepX B β H' w' v u := by
  unfold nextX at h
  split at h
  · rename_i id
    simp only [kB] at h
    obtain ⟨⟨m, since, seen, last⟩, hit, h⟩ := h
    obtain ⟨ho, hb, hj⟩ := iter_block hst hit
    obtain ⟨_, _, _, rfl⟩ := hx
    have hg := run_getO (P := P) hb (by intro c e f hh; cases hh)
    simp only at h
    cases m with
    | none =>
      simp only [kI, kP] at h
      obtain ⟨rfl, rfl⟩ := h
      refine ⟨w, .tuple #[.bool false], ?_, hst, Stp.refl _ _ _, [.bool false], rfl, .cons ⟨rfl, rfl⟩ .nil⟩
      simp only [Option.map_none] at hg
      simp [Instr.next, hg]
    | some m =>
      simp only [kB] at h
      obtain ⟨⟨es, clock⟩, hm, h⟩ := h
      obtain ⟨_, hmb⟩ := map_block hst hm
      have hg2 := MapKept.run_getObj_map (P := P) hmb
      simp only [kT] at hg
      simp only at h
      split at h
      · cases h
      · rename_i hc
        generalize hold : (es.filter fun e => !seen.contains e.born).filter (fun e => decide (e.born < since)) = old at h
        generalize hnew : (es.filter fun e => !seen.contains e.born).filter (fun e => decide (e.born ≥ since)) = new at h
        have hcand : ((if old.isEmpty then #[none] else #[]) ++ (old ++ new).map some : Array (Option MapEntry)).toList = (if old.isEmpty then [none] else []) ++ (old.toList ++ new.toList).map some := by
          rw [Array.toList_append, Array.toList_map, Array.toList_append]
          split <;> rfl
        split at h
        · rename_i e hl
          rw [hl] at hcand
          have hc' : ((if old.isEmpty then #[none] else #[]) ++ (old ++ new).map some : Array (Option MapEntry)) = #[some e] := Array.ext' hcand
          simp only [kI, kP] at h
          obtain ⟨rfl, rfl⟩ := h
          obtain ⟨h1, h2⟩ := map_turn hst ho (v' := .iter (some m) since (seen.push e.born) clock) rfl rfl (by simp) (by simp) (.mapIter (some (β m).1) since (seen.push e.born) clock) (fun w' hw => ⟨hw, fun j hj' => by
            cases hj'
            obtain ⟨v, hv, hv2⟩ := hj m rfl
            by_cases e' : id = m
            · subst e'; rw [ho] at hv; cases hv; cases hv2
            · exact ⟨v, by rw [List.getElem?_set_ne e']; exact hv, hv2⟩⟩)
          refine ⟨_, .tuple #[.bool true, e.key, e.val], ?_, h1, h2, [.bool true, e.key, e.val], rfl, .cons ⟨rfl, rfl⟩ (.cons (repY_ofV _) (.cons (repY_ofV _) .nil))⟩
          have hs := run_setO (P := P) (.mapIter (some (β m).1) since (seen.push e.born) clock) hb (by intro c e f hh; cases hh)
          unfold Instr.next
          simp only [Sem.run_bind, hg, hg2, Result.andThen]
          rw [if_neg hc]
          simp only [hold, hnew, hc']
          simp [run_choose, Question.forced, hs]
        · rename_i hl
          rw [hl] at hcand
          have hc' : ((if old.isEmpty then #[none] else #[]) ++ (old ++ new).map some : Array (Option MapEntry)) = #[none] := Array.ext' hcand
          simp only [kI, kP] at h
          obtain ⟨rfl, rfl⟩ := h
          refine ⟨w, .tuple #[.bool false], ?_, hst, Stp.refl _ _ _, [.bool false], rfl, .cons ⟨rfl, rfl⟩ .nil⟩
          unfold Instr.next
          simp only [Sem.run_bind, hg, hg2, Result.andThen]
          rw [if_neg hc]
          simp only [hold, hnew, hc']
          simp [run_choose, Question.forced]
        · cases h
  · cases h
theorem entry_sound (hst : StR B β H w) {x : X} {a : Value} {v : X} (hx : RepX B β H w x a) (h : entryX H x = some v) : ∃ u, (Instr.entry a).run P w = .ok u w ∧ RepX B β H w v u := by
  unfold entryX at h
  split at h
  · rename_i id
    simp only [kB] at h
    obtain ⟨⟨m, since, seen, last⟩, hit, m', hm', stamp, hst', ⟨es, clock⟩, hm, h⟩ := h
    simp only at hm' hst' h
    subst hm'
    obtain ⟨ho, hb, hj⟩ := iter_block hst hit
    obtain ⟨_, hmb⟩ := map_block hst hm
    obtain ⟨_, _, _, rfl⟩ := hx
    split at h
    · rename_i hcl
      simp only [kM] at h
      obtain ⟨e, he, rfl⟩ := h
      refine ⟨.tuple #[e.key, e.val], ?_, [e.key, e.val], rfl, .cons (repY_ofV _) (.cons (repY_ofV _) .nil)⟩
      have hg := run_getO (P := P) hb (by intro c e f hh; cases hh)
      simp only [kT] at hg
      simp [Instr.entry, hg, hst', MapKept.run_getObj_map hmb, hcl, he]
    · cases h
  · cases h
theorem len_map {ts : Array TypeId} {type t k e : TypeId} {r : Nat} {es : Array MapEntry} {clock : Nat} (hts : ts[0]? = some t) (he : P.underlying t = some (.map k e)) (hb : w.heap[r]? = some (.map es clock)) : (Builtin.len_ ts type #[.map (some r)]).run P w = .ok (goInt es.size) w := by
  simp [Builtin.len_, hts, run_underlying he, MapKept.run_getObj_map hb]
end
end Go.Lg
end
