/-
  X, part 27: maps of plain values, and the steps over them that leave no choice.
-/
import Derived.Test.YtoieblpjklbmoaaX8
import Derived.MapKept
namespace Go.Lg
section
variable {P : Program} {B : Nat → Prop} {β : Nat → Nat × Nat} {H : Heap} {w : World}
theorem pv_bnd {α γ : Type} (s : Sem α) (f : α → Sem γ) : pv P (s >>= f) = (pv P s).bind fun a => pv P (f a) := by
  show pv P (Sem.bind s f) = _
  induction s with
  | pure a => rfl
  | program k ih => exact ih P
  | _ => rfl
theorem run_getO {r : Nat} {o : Obj} (hb : w.heap[r]? = some o) (hc : ∀ c e f, o ≠ .cells c e f) : (getObj r).run P w = .ok o w := by
  cases o <;> first | exact absurd rfl (hc _ _ _) | simp [getObj, Sem.run, hb]
theorem run_setO {r : Nat} {o : Obj} (o' : Obj) (hb : w.heap[r]? = some o) (hc : ∀ c e f, o ≠ .cells c e f) : (setObj r o').run P w = .ok () { w with heap := w.heap.setIfInBounds r o' } := by
  cases o <;> first | exact absurd rfl (hc _ _ _) | simp [setObj, Sem.run, hb]
theorem pv_und {t : TypeId} {d : TypeDesc} (hd : P.underlying t = some d) : pv P (underlying t) = some d := by
  simp [underlying, pv_bnd, program, pv, hd]
  rfl
theorem pv_und0 {t : TypeId} (hd : P.underlying t = none) : pv P (underlying t) = none := by simp [underlying, pv_bnd, program, pv, hd, stuck]
theorem map_block (hst : StR B β H w) {id : Nat} {es : Array MapEntry} {clock : Nat} (h : mapAt H id = some (es, clock)) : H[id]? = some (.map (.map es clock)) ∧ w.heap[(β id).1]? = some (.map es clock) := by
  unfold mapAt at h
  split at h
  · rename_i hh
    simp only [kI, kP] at h
    obtain ⟨rfl, rfl⟩ := h
    exact ⟨hh, hst.live id _ hh⟩
  · cases h
theorem iter_block (hst : StR B β H w) {id : Nat} {m : Option Nat} {since : Nat} {seen : Array Nat} {last : Nat} (h : iterAt H id = some (m, since, seen, last)) :
    H[id]? = some (.map (.iter m since seen last)) ∧ w.heap[(β id).1]? = some (.mapIter (m.map fun j => (β j).1) since seen last) ∧ ∀ j, m = some j → ∃ v, H[j]? = some (.map v) ∧ v.isMap = true := by
  unfold iterAt at h
  split at h
  · rename_i hh
    simp only [kI, kP] at h
    obtain ⟨rfl, rfl, rfl, rfl⟩ := h
    exact ⟨hh, hst.live id _ hh⟩
  · cases h
/-- A map, or an iterator, turns in its place. -/
theorem map_turn (hst : StR B β H w) {id : Nat} {v v' : MapV} (ho : H[id]? = some (.map v)) (hv : v'.isIter = v.isIter) (hm : v'.isMap = v.isMap) (hh : v ≠ .hole) (hh' : v' ≠ .hole) (o' : Obj)
    (hobj : ∀ w' : World, w'.heap[(β id).1]? = some o' → ObjOk B β (H.set id (.map v')) w' id (.map v')) :
    StR B β (H.set id (.map v')) { w with heap := w.heap.setIfInBounds (β id).1 o' } ∧ Stp β H w β (H.set id (.map v')) { w with heap := w.heap.setIfInBounds (β id).1 o' } := by
  have hth : O.there (.map v) = true := by cases v <;> first | rfl | exact absurd rfl hh
  have hlt := hst.inb id _ ho hth
  have t : Turn β w id (.map v) (β id) (.map v') { w with heap := w.heap.setIfInBounds (β id).1 o' } :=
    ⟨rfl, rfl, rfl, (by simp), (fun b hb hne => by
      rcases hne with h | h
      · simp only [Array.getElem?_setIfInBounds]; rw [if_neg (fun e => h e.symm)]
      · cases v <;> first | exact absurd rfl hh | (cases h; done)), .inl rfl, (fun _ => by cases v <;> first | rfl | exact absurd rfl hh), (Kept.map_iff hh).2 ⟨v', rfl, rfl, hv, hm, hh'⟩, hth⟩
  have h1 := t.stp hst ho
  have h2 := t.str hst ho (by simpa using hlt) (by rw [upd_self]; exact hobj _ (by simp [Array.getElem?_setIfInBounds, hlt]))
  rw [upd_self] at h1 h2
  exact ⟨h2, h1⟩
/-- A new one. -/
theorem map_new (hst : StR B β H w) (v : MapV) (o : Obj) (hobj : ∀ (β' : Nat → Nat × Nat) (w' : World), w'.heap[(β' H.length).1]? = some o → (∀ j, j < H.length → β' j = β j) → ObjOk B β' (H ++ [.map v]) w' H.length (.map v)) :
    StR B (upd β H.length (w.heap.size, 0)) (H ++ [.map v]) (w.alloc o) ∧ Stp β H w (upd β H.length (w.heap.size, 0)) (H ++ [.map v]) (w.alloc o) := by
  have hN : New w o (w.alloc o) := ⟨rfl, rfl, rfl, rfl⟩
  refine ⟨hN.str hst _ 0 (hobj _ _ (by rw [upd_same]; exact hN.new) fun j hj => upd_other _ _ (by omega)), hN.stp hst _ 0⟩
theorem entries_sound (hst : StR B β H w) {x : X} {a : Value} {es : Array MapEntry} (hx : RepX B β H w x a) (h : entriesX H x = some es) : (a = .map none ∧ es = #[]) ∨ ∃ r clock, a = .map (some r) ∧ w.heap[r]? = some (.map es clock) := by
  unfold entriesX at h
  split at h
  · simp only [kI] at h
    obtain ⟨_, rfl⟩ := hx
    exact .inl ⟨rfl, h.symm⟩
  · rename_i id
    simp only [kM] at h
    obtain ⟨⟨es', clock⟩, h1, rfl⟩ := h
    obtain ⟨_, h3⟩ := map_block hst h1
    obtain ⟨_, _, _, rfl⟩ := hx
    exact .inr ⟨_, clock, rfl, h3⟩
  · cases h
theorem out_sound {ok : Bool} {v : Value} {x : X} (h : outX ok v = some x) : RepX B β H w x v := by
  unfold outX at h
  cases ok with
  | false =>
    simp only [Bool.false_eq_true, if_false, kI] at h
    subst h
    exact repY_ofV v
  | true =>
    simp only [if_true] at h
    split at h
    · rename_i vs
      simp only [kI] at h
      subst h
      refine ⟨vs.toList, by simp, ?_⟩
      induction vs.toList with
      | nil => exact .nil
      | cons a l ih => exact .cons (repY_ofV a) ih
    · cases h
/-! ### Bags -/
theorem bag_block (hst : StR B β H w) {x : X} {a : Value} {id : Nat} {es : List (Value × Value)} (hx : RepX B β H w x a) (h : bagX H x = some (id, es)) :
    H[id]? = some (.map (.bag es)) ∧ a = .map (some (β id).1) ∧ ∃ es' clock, w.heap[(β id).1]? = some (.map es' clock) ∧ BagOk es es' clock := by
  unfold bagX at h
  split at h
  · rename_i id'
    simp only [kM, kP] at h
    obtain ⟨p, hp, rfl, rfl⟩ := h
    unfold bagAt at hp
    split at hp
    · rename_i hh
      simp only [kI] at hp
      subst hp
      obtain ⟨_, _, _, rfl⟩ := hx
      exact ⟨hh, rfl, hst.live _ _ hh⟩
    · cases hp
  · cases h
/-- The first entry of a key. -/
def fkB (P : Program) (kt : TypeId) (k : Value) : List MapEntry → Nat → Option (Nat × Value)
  | [], _ => none
  | e :: r, i => if keyEq P kt k e.key = some true then some (i, e.val) else fkB P kt k r (i + 1)
theorem find_run {kt : TypeId} {k : Value} {d : TypeDesc} (hd : P.underlying kt = some d) (w : World) {l : List MapEntry} (h : ∀ e ∈ l, (keyEq P kt k e.key).isSome = true) :
    (Instr.findKey kt k l).run P w = .ok (fkB P kt k l 0) w := by
  by_cases hs : isStructT P kt = true
  · have hask : ∀ (l : List MapEntry) (i : Nat), (∀ e ∈ l, (keyEq P kt k e.key).isSome = true) → (Instr.findAsking kt k l i).run P w = .ok (fkB P kt k l i) w := by
      intro l
      induction l with
      | nil => intro i _; rfl
      | cons e r ih =>
        intro i h
        have h1 := h e (by simp)
        have h2 := ih (i + 1) fun x hx => h x (by simp [hx])
        unfold Instr.findAsking fkB
        unfold keyEq at h1 ⊢
        rw [if_pos hs] at h1 ⊢
        obtain ⟨b, hb⟩ := Option.isSome_iff_exists.1 h1
        rw [hb]
        simp only [Sem.run_bind, pv_run w hb, Result.andThen]
        cases b with
        | true => rfl
        | false => simpa using h2
    unfold isStructT at hs
    rw [hd] at hs
    unfold Instr.findKey
    simp only [Sem.run_bind, run_underlying hd, Result.andThen]
    cases l with
    | nil => rfl
    | cons e r =>
      have : Instr.findNow d k (e :: r) 0 = none := by
        unfold Instr.findNow
        have hn : Instr.sameNow d k e.key = none := by
          cases d <;> first | (cases hs; done) | rfl
        rw [hn]
      simp only [this]
      exact hask _ 0 h
  · have hnow : ∀ (l : List MapEntry) (i : Nat), (∀ e ∈ l, (keyEq P kt k e.key).isSome = true) → Instr.findNow d k l i = some (fkB P kt k l i) := by
      intro l
      induction l with
      | nil => intro i _; rfl
      | cons e r ih =>
        intro i h
        have h1 := h e (by simp)
        have h2 := ih (i + 1) fun x hx => h x (by simp [hx])
        unfold Instr.findNow fkB
        have hk : keyEq P kt k e.key = Instr.sameNow d k e.key := by unfold keyEq; rw [if_neg hs, hd]; rfl
        rw [hk] at h1
        simp only [hk]
        obtain ⟨b, hb⟩ := Option.isSome_iff_exists.1 h1
        simp only [hb]
        cases b with
        | true => rfl
        | false => simpa using h2
    unfold Instr.findKey
    simp only [Sem.run_bind, run_underlying hd, Result.andThen, hnow l 0 h]
    rfl
theorem fkB_none {kt : TypeId} {k : Value} : ∀ {l : List MapEntry} (i : Nat), (∀ e ∈ l, keyEq P kt k e.key ≠ some true) → fkB P kt k l i = none := by
  intro l
  induction l with
  | nil => intro i _; rfl
  | cons e r ih => intro i h; unfold fkB; rw [if_neg (h e (by simp))]; exact ih _ fun x hx => h x (by simp [hx])
theorem fkB_at {kt : TypeId} {k : Value} {e : MapEntry} (he : keyEq P kt k e.key = some true) : ∀ {l r : List MapEntry} (i : Nat), (∀ e ∈ l, keyEq P kt k e.key ≠ some true) → fkB P kt k (l ++ e :: r) i = some (i + l.length, e.val) := by
  intro l r
  induction l with
  | nil => intro i _; show (if _ then _ else _) = _; rw [if_pos he]; rfl
  | cons x l ih =>
    intro i h
    show (if _ then _ else _) = _
    rw [if_neg (h x (by simp))]
    refine (ih (i + 1) fun x hx => h x (by simp [hx])).trans ?_
    simp; omega
/-- What a bag's key is found to be. -/
theorem seekB_sound {kt : TypeId} {k : Value} {es a b : List (Value × Value)} (h : seekB P kt k es = some (a, b)) {es' : Array MapEntry} {clock : Nat} (hb : BagOk es es' clock) :
    (∀ (w : World), (Instr.checkKey es'.isEmpty 10000 kt k).run P w = .ok () w ∧ (Instr.checkKey false 10000 kt k).run P w = .ok () w) ∧
    (∀ (w : World), (Instr.findKey kt k es'.toList).run P w = .ok (fkB P kt k es'.toList 0) w) ∧
    ((a = [] ∧ b.Perm es ∧ fkB P kt k es'.toList 0 = none) ∨
     ∃ (l r : List MapEntry) (e : MapEntry), es'.toList = l ++ e :: r ∧ a = [(e.key, e.val)] ∧ fkB P kt k es'.toList 0 = some (l.length, e.val) ∧ ((l ++ r).map fun e => (e.key, e.val)).Perm b) := by
  unfold seekB at h
  split at h
  case isFalse => cases h
  rename_i hc
  simp only [kA] at hc
  obtain ⟨⟨⟨hu, hc1⟩, hc2⟩, hall⟩ := hc
  obtain ⟨d, hd⟩ := Option.isSome_iff_exists.1 hu
  obtain ⟨hp, hnd, hlt⟩ := hb
  simp only [List.partition_eq_filter_filter] at h
  split at h
  case isFalse => cases h
  rename_i hlen
  simp only [kI, kP] at h
  obtain ⟨ha, hb⟩ := h
  have hmem : ∀ e ∈ es'.toList, (e.key, e.val) ∈ es := fun e he => hp.subset (List.mem_map.2 ⟨e, he, rfl⟩)
  have hsome : ∀ e ∈ es'.toList, (keyEq P kt k e.key).isSome = true := fun e he => List.all_eq_true.1 hall _ (hmem e he)
  refine ⟨fun w => ?_, fun w => find_run hd w hsome, ?_⟩
  · obtain ⟨u1, h1⟩ := Option.isSome_iff_exists.1 hc1
    obtain ⟨u2, h2⟩ := Option.isSome_iff_exists.1 hc2
    have : es'.isEmpty = es.isEmpty := by
      have := hp.length_eq
      rw [List.length_map] at this
      rw [Bool.eq_iff_iff]
      simp only [List.isEmpty_iff, Array.isEmpty_iff, ← List.length_eq_zero_iff, ← this, Array.length_toList, Array.size_eq_zero_iff]
    rw [this]
    exact ⟨pv_run w h1, pv_run w h2⟩
  · have hf := hp.filter fun e => keyEq P kt k e.1 == some true
    have hg := hp.filter fun e => !(keyEq P kt k e.1 == some true)
    rw [ha] at hf hlen
    rw [show (List.filter (fun e => !(keyEq P kt k e.1 == some true)) es) = b from hb] at hg
    cases a with
    | nil =>
      left
      have hno : ∀ e ∈ es'.toList, keyEq P kt k e.key ≠ some true := by
        intro e he hk
        have : (e.key, e.val) ∈ ([] : List (Value × Value)) := hf.subset (List.mem_filter.2 ⟨List.mem_map.2 ⟨e, he, rfl⟩, by simp [hk]⟩)
        cases this
      refine ⟨rfl, ?_, fkB_none 0 hno⟩
      refine List.Perm.trans hg.symm (List.Perm.trans ?_ hp)
      rw [List.filter_eq_self.2]
      intro x hx
      obtain ⟨e, he, rfl⟩ := List.mem_map.1 hx
      simp [hno e he]
    | cons p a =>
      cases a with
      | cons _ _ => simp at hlen
      | nil =>
        right
        have hf1 : (es'.toList.map fun e => (e.key, e.val)).filter (fun e => keyEq P kt k e.1 == some true) = [p] := List.perm_singleton.1 hf
        rw [List.filter_map] at hf1
        obtain ⟨e, hfe, rfl⟩ : ∃ e, es'.toList.filter ((fun e => keyEq P kt k e.1 == some true) ∘ fun e => (e.key, e.val)) = [e] ∧ p = (e.key, e.val) := by
          obtain ⟨x, l2, h3, h4, h5⟩ := List.map_eq_cons_iff.1 hf1
          have := List.map_eq_nil_iff.1 h5
          subst this
          exact ⟨x, h3, h4.symm⟩
        obtain ⟨l, r', hl, hl1, he, hr⟩ := List.filter_eq_cons_iff.1 hfe
        have hke : keyEq P kt k e.key = some true := by simpa using he
        refine ⟨l, r', e, hl, rfl, ?_, ?_⟩
        · rw [hl, fkB_at hke 0 fun x hx => by have := hl1 x hx; simpa using this]
          simp
        · rw [hl] at hg
          refine List.Perm.trans ?_ hg
          have hr0 : ∀ x ∈ r', ¬ ((fun e => keyEq P kt k e.1 == some true) ∘ fun e : MapEntry => (e.key, e.val)) x = true := by
            intro x hx hpx
            have : x ∈ r'.filter ((fun e => keyEq P kt k e.1 == some true) ∘ fun e => (e.key, e.val)) := List.mem_filter.2 ⟨hx, hpx⟩
            rw [hr] at this
            cases this
          rw [List.map_append, List.map_append, List.map_cons, List.filter_append, List.filter_cons]
          rw [List.filter_eq_self.2, List.filter_eq_self.2]
          · simp [hke]
          · intro x hx
            obtain ⟨y, hy, rfl⟩ := List.mem_map.1 hx
            have := hr0 y hy
            simpa using this
          · intro x hx
            obtain ⟨y, hy, rfl⟩ := List.mem_map.1 hx
            have := hl1 y hy
            simpa using this
theorem und_of {t kt vt : TypeId} (h1 : keyT P t = some kt) (h2 : valTy P t = some vt) : P.underlying t = some (.map kt vt) := by
  unfold keyT at h1
  unfold valTy at h2
  split at h1
  · rename_i k v hu
    rw [hu] at h2 ⊢
    cases h1; cases h2; rfl
  · cases h1
theorem modify_mid {α : Type} (f : α → α) (x : α) (r : List α) : ∀ l : List α, (l ++ x :: r).modify l.length f = l ++ f x :: r
  | [] => by simp
  | y :: l => by simp [modify_mid f x r l]
theorem keyT_und {t kt : TypeId} (h1 : keyT P t = some kt) : ∃ vt, P.underlying t = some (.map kt vt) := by
  unfold keyT at h1
  split at h1
  · rename_i k v hu; cases h1; exact ⟨v, hu⟩
  · cases h1
theorem lookup_sound (hst : StR B β H w) {t : TypeId} {x i : X} {a b : Value} {ok : Bool} {v : X} (hx : RepX B β H w x a) (hi : RepX B β H w i b) (h : lookupX P H t x i ok = some v) :
    ∃ u, (Instr.lookup t a b ok).run P w = .ok u w ∧ RepX B β H w v u := by
  unfold lookupX at h
  split at h
  · rename_i id es hbag
    simp only [kB] at h
    obtain ⟨k, hk, u, hu, hv⟩ := h
    obtain rfl := repX_toV hi hk
    refine ⟨u, ?_, out_sound hv⟩
    obtain ⟨_, rfl, es', clock, hb, hok⟩ := bag_block hst hx hbag
    unfold lookB at hu
    simp only [kB, kM] at hu
    obtain ⟨kt, hkt, vt, hvt, ⟨a, b'⟩, hsk, ⟨v1, ok1⟩, hm, rfl⟩ := hu
    have hd := und_of hkt hvt
    obtain ⟨hc, hf, hr⟩ := seekB_sound hsk hok
    have hc := (hc w).1
    have hf := hf w
    rcases hr with ⟨rfl, _, hn⟩ | ⟨l, r, e, hl, rfl, hn, _⟩
    · simp only [kM, kP] at hm
      obtain ⟨z, hz, rfl, rfl⟩ := hm
      rw [hn] at hf
      have r3 := pv_run w hz
      simp [Instr.lookup, run_underlying hd, MapKept.run_getObj_map hb, hc, hf, r3]
    · simp only [kI, kP] at hm
      obtain ⟨rfl, rfl⟩ := hm
      rw [hn] at hf
      simp [Instr.lookup, run_underlying hd, MapKept.run_getObj_map hb, hc, hf]
  simp only [kB] at h
  obtain ⟨es, hes, k, hk, u, hu, hv⟩ := h
  obtain rfl := repX_toV hi hk
  refine ⟨u, ?_, out_sound hv⟩
  unfold lookupV at hu
  cases hd : P.underlying t with
  | none => rw [pv_bnd, pv_und0 hd] at hu; cases hu
  | some d =>
    rw [pv_bnd, pv_und hd] at hu
    simp only [kS] at hu
    cases d <;> first | (simp [pv, stuck] at hu; done) | skip
    rename_i kt el
    simp only [pv_bnd, kB] at hu
    obtain ⟨_, hchk, f, hf, hu⟩ := hu
    have r1 := pv_run w hchk
    have r2 := pv_run w hf
    rcases entries_sound hst hx hes with ⟨rfl, rfl⟩ | ⟨r, clock, rfl, hb⟩
    · have r1' : Sem.run P (Instr.checkKey true 10000 kt b) w = .ok () w := by simpa using r1
      have r2' : Sem.run P (Instr.findKey kt b []) w = .ok f w := by simpa using r2
      cases f with
      | none =>
        simp only [pv_bnd] at hu
        cases hz : pv P (zeroValue el) with
        | none => rw [hz] at hu; cases hu
        | some z =>
          rw [hz] at hu
          have r3 := pv_run w hz
          simp only [kS, pv, pure, kI] at hu
          subst hu
          simp [Instr.lookup, run_underlying hd, r1', r2', r3]
      | some p =>
        obtain ⟨i', v0⟩ := p
        simp only [pv_bnd, kS, pv, pure, kI] at hu
        subst hu
        simp [Instr.lookup, run_underlying hd, r1', r2']
    · cases f with
      | none =>
        simp only [pv_bnd] at hu
        cases hz : pv P (zeroValue el) with
        | none => rw [hz] at hu; cases hu
        | some z =>
          rw [hz] at hu
          have r3 := pv_run w hz
          simp only [kS, pv, pure, kI] at hu
          subst hu
          simp [Instr.lookup, run_underlying hd, MapKept.run_getObj_map hb, r1, r2, r3]
      | some p =>
        obtain ⟨i', v0⟩ := p
        simp only [pv_bnd, kS, pv, pure, kI] at hu
        subst hu
        simp [Instr.lookup, run_underlying hd, MapKept.run_getObj_map hb, r1, r2]
theorem update_sound (hst : StR B β H w) {t : TypeId} {x k y : X} {a b c : Value} {H' : Heap} (hx : RepX B β H w x a) (hk : RepX B β H w k b) (hy : RepX B β H w y c) (h : updateX P H t x k y = some H') :
    ∃ w', (Instr.mapUpdate t a b c).run P w = .ok () w' ∧ StR B β H' w' ∧ Stp β H w β H' w' := by
  unfold updateX at h
  split at h
  · rename_i id es hbag
    simp only [kB, kM] at h
    obtain ⟨kv, hkv, yv, hyv, r, hu, rfl⟩ := h
    obtain rfl := repX_toV hk hkv
    obtain rfl := repX_toV hy hyv
    obtain ⟨ho, rfl, es', clock, hb, hok⟩ := bag_block hst hx hbag
    unfold updB at hu
    simp only [kB] at hu
    obtain ⟨kt, hkt, ⟨a, b'⟩, hsk, hu⟩ := hu
    split at hu
    case isFalse => cases hu
    rename_i hsame
    cases hu
    obtain ⟨vt, hd⟩ := keyT_und hkt
    obtain ⟨hc, hf, hr⟩ := seekB_sound hsk hok
    have hc := (hc w).2
    have hf := hf w
    obtain ⟨hp, hnd, hlt⟩ := hok
    rcases hr with ⟨rfl, hbp, hn⟩ | ⟨l, r, e, hl, rfl, hn, hbp⟩
    · rw [hn] at hf
      have hok' : BagOk (b' ++ [(b, c)]) (es'.push { key := b, val := c, born := clock }) (clock + 1) := by
        refine ⟨?_, ?_, ?_⟩
        · rw [Array.toList_push, List.map_append]
          exact List.Perm.append (hp.trans hbp.symm) (.refl _)
        · rw [Array.toList_push, List.map_append, List.nodup_append]
          refine ⟨hnd, by simp, ?_⟩
          intro x hx y hy
          obtain ⟨e, he, rfl⟩ := List.mem_map.1 hx
          simp only [List.map_cons, List.map_nil, List.mem_singleton] at hy
          have := hlt e he
          omega
        · intro e he
          rw [Array.toList_push, List.mem_append] at he
          rcases he with he | he
          · have := hlt e he; omega
          · simp only [List.mem_singleton] at he; subst he; exact Nat.lt_succ_self _
      obtain ⟨h1, h2⟩ := map_turn hst ho (v' := .bag (b' ++ [(b, c)])) rfl rfl (by simp) (by simp) (.map (es'.push { key := b, val := c, born := clock }) (clock + 1)) (fun w' h => ⟨_, _, h, hok'⟩)
      refine ⟨_, ?_, h1, h2⟩
      simp [Instr.mapUpdate, run_underlying hd, MapKept.run_getObj_map hb, hc, hf, MapKept.run_setObj_map _ hb]
    · rw [hn] at hf
      have hget : es'[l.length]? = some e := by rw [← Array.getElem?_toList, hl]; simp
      have hsb : Instr.sameBits 10000 e.key b = true := by simpa using hsame
      have hst' : (Instr.keyThatStays (((es'[l.length]?).map (·.key)).getD b) b).run P w = .ok b w := by
        rw [hget]
        simp only [kT, Option.getD_some]
        unfold Instr.keyThatStays
        rw [if_pos hsb]
        rfl
      have htl : (es'.modify l.length fun e => { e with key := b, val := c }).toList = l ++ { e with key := b, val := c } :: r := by
        rw [Array.toList_modify, hl, modify_mid]
      have hok' : BagOk (b' ++ [(b, c)]) (es'.modify l.length fun e => { e with key := b, val := c }) clock := by
        refine ⟨?_, ?_, ?_⟩
        · rw [htl, List.map_append, List.map_cons]
          refine List.perm_middle.trans ?_
          rw [← List.map_append]
          exact (List.Perm.cons _ hbp).trans (List.perm_append_singleton _ _).symm
        · rw [htl]
          rw [hl] at hnd
          simpa using hnd
        · intro x hx
          rw [htl] at hx
          rw [hl] at hlt
          simp only [List.mem_append, List.mem_cons] at hx hlt
          rcases hx with hx | rfl | hx
          · exact hlt x (.inl hx)
          · exact hlt e (.inr (.inl rfl))
          · exact hlt x (.inr (.inr hx))
      obtain ⟨h1, h2⟩ := map_turn hst ho (v' := .bag (b' ++ [(b, c)])) rfl rfl (by simp) (by simp) (.map (es'.modify l.length fun e => { e with key := b, val := c }) clock) (fun w' h => ⟨_, _, h, hok'⟩)
      refine ⟨_, ?_, h1, h2⟩
      simp [Instr.mapUpdate, run_underlying hd, MapKept.run_getObj_map hb, hc, hf, hst', MapKept.run_setObj_map _ hb]
  rename_i hb0
  clear hb0
  split at h
  · rename_i id
    simp only [kB, kM] at h
    obtain ⟨⟨es, clock⟩, hm, kv, hkv, yv, hyv, ⟨es', clock'⟩, hu, rfl⟩ := h
    obtain rfl := repX_toV hk hkv
    obtain rfl := repX_toV hy hyv
    obtain ⟨ho, hb⟩ := map_block hst hm
    obtain ⟨_, _, _, rfl⟩ := hx
    obtain ⟨h1, h2⟩ := map_turn hst ho (v' := .map es' clock') rfl rfl (by simp) (by simp) (.map es' clock') (fun w' h => h)
    refine ⟨_, ?_, h1, h2⟩
    unfold updateV at hu
    cases hd : P.underlying t with
    | none => rw [pv_bnd, pv_und0 hd] at hu; cases hu
    | some d =>
      rw [pv_bnd] at hu
      rw [pv_und hd] at hu
      simp only [kS] at hu
      cases d <;> first | (simp [pv, stuck] at hu; done) | skip
      rename_i kt el
      simp only [pv_bnd, kB] at hu
      obtain ⟨_, hchk, f, hf, hu⟩ := hu
      have r1 := pv_run w hchk
      have r2 := pv_run w hf
      cases f with
      | none =>
        simp only [pv, pure, kI, kP] at hu
        obtain ⟨rfl, rfl⟩ := hu
        simp [Instr.mapUpdate, run_underlying hd, MapKept.run_getObj_map hb, r1, r2, MapKept.run_setObj_map _ hb]
      | some p =>
        obtain ⟨i, v0⟩ := p
        simp only [pv_bnd, kB] at hu
        obtain ⟨key', hkey, hu⟩ := hu
        have r3 := pv_run w hkey
        simp only [pv, pure, kI, kP] at hu
        obtain ⟨rfl, rfl⟩ := hu
        simp [Instr.mapUpdate, run_underlying hd, MapKept.run_getObj_map hb, r1, r2, r3, MapKept.run_setObj_map _ hb]
  · cases h
theorem mapEntry_sound (hst : StR B β H w) {t : TypeId} {x k : X} {a b : Value} {v : X} {H' : Heap} (hx : RepX B β H w x a) (hk : RepX B β H w k b) (h : mapEntryX P H t x k = some (v, H')) :
    ∃ w' u, (Instr.mapEntry t a b).run P w = .ok u w' ∧ StR B β H' w' ∧ Stp β H w β H' w' ∧ RepX B β H' w' v u := by
  unfold mapEntryX at h
  split at h
  · rename_i id
    simp only [kB, kM] at h
    obtain ⟨⟨es, clock⟩, hm, kv, hkv, ⟨es', clock', v1, v2⟩, hu, he⟩ := h
    split at he
    case isFalse => cases he
    case isTrue =>
    cases he
    obtain rfl := repX_toV hk hkv
    obtain ⟨ho, hb⟩ := map_block hst hm
    obtain ⟨_, _, _, rfl⟩ := hx
    obtain ⟨h1, h2⟩ := map_turn hst ho (v' := .map es' clock') rfl rfl (by simp) (by simp) (.map es' clock') (fun w' h => h)
    refine ⟨_, .tuple #[v1, v2], ?_, h1, h2, [v1, v2], rfl, .cons (repY_ofV _) (.cons (repY_ofV _) .nil)⟩
    unfold entryV at hu
    cases hd : P.underlying t with
    | none => rw [pv_bnd, pv_und0 hd] at hu; cases hu
    | some d =>
      rw [pv_bnd, pv_und hd] at hu
      simp only [kS] at hu
      cases d <;> first | (simp [pv, stuck] at hu; done) | skip
      rename_i kt el
      simp only [pv_bnd, kB] at hu
      obtain ⟨_, hchk, f, hf, hu⟩ := hu
      have r1 := pv_run w hchk
      have r2 := pv_run w hf
      cases f with
      | none =>
        simp only [pv_bnd, kB] at hu
        obtain ⟨z, hz, hu⟩ := hu
        have r3 := pv_run w hz
        simp only [pv, pure, kI, kP] at hu
        obtain ⟨rfl, rfl, rfl, rfl⟩ := hu
        simp [Instr.mapEntry, run_underlying hd, MapKept.run_getObj_map hb, r1, r2, r3, MapKept.run_setObj_map _ hb]
      | some p =>
        obtain ⟨i, v0⟩ := p
        simp only [pv_bnd, kB] at hu
        obtain ⟨key', hkey, hu⟩ := hu
        have r3 := pv_run w hkey
        simp only [pv, pure, kI, kP] at hu
        obtain ⟨rfl, rfl, rfl, rfl⟩ := hu
        simp [Instr.mapEntry, run_underlying hd, MapKept.run_getObj_map hb, r1, r2, r3, MapKept.run_setObj_map _ hb]
  · cases h
theorem entryStore_sound (hst : StR B β H w) {t : TypeId} {x y : X} {a c : Value} {ik : IntKind} {born : Int} {k : X} {H' : Heap} (hx : RepX B β H w x a) (hk : k.int? = some born) (hy : RepX B β H w y c) (h : entryStoreX H x k y = some H') :
    ∃ w', (Instr.entryStore t a (.int ik born) c).run P w = .ok () w' ∧ StR B β H' w' ∧ Stp β H w β H' w' := by
  unfold entryStoreX at h
  split at h
  · rename_i id
    simp only [kB, kM] at h
    obtain ⟨⟨es, clock⟩, hm, born', hb', yv, hyv, i, hi, rfl⟩ := h
    rw [hk] at hb'
    cases hb'
    obtain rfl := repX_toV hy hyv
    obtain ⟨ho, hb⟩ := map_block hst hm
    obtain ⟨_, _, _, rfl⟩ := hx
    obtain ⟨h1, h2⟩ := map_turn hst ho (v' := .map (es.modify i fun e => { e with val := c }) clock) rfl rfl (by simp) (by simp) (.map (es.modify i fun e => { e with val := c }) clock) (fun w' h => h)
    refine ⟨_, ?_, h1, h2⟩
    simp [Instr.entryStore, MapKept.run_getObj_map hb, asInt, asIntOf, hi, MapKept.run_setObj_map _ hb]
  · cases h
theorem delete_sound (hst : StR B β H w) {ts : Array TypeId} {type t : TypeId} (hts : ts[0]? = some t) {x k : X} {a b : Value} {H' : Heap} (hx : RepX B β H w x a) (hk : RepX B β H w k b) (h : deleteX P H t x k = some H') :
    ∃ w', (Builtin.delete_ ts type #[a, b]).run P w = .ok (.tuple #[]) w' ∧ StR B β H' w' ∧ Stp β H w β H' w' := by
  unfold deleteX at h
  split at h
  · rename_i id es hbag
    simp only [kB, kM] at h
    obtain ⟨kv, hkv, r, hu, rfl⟩ := h
    obtain rfl := repX_toV hk hkv
    obtain ⟨ho, rfl, es', clock, hb, hok⟩ := bag_block hst hx hbag
    unfold delB at hu
    simp only [kB, kM] at hu
    obtain ⟨kt, hkt, ⟨a, b'⟩, hsk, rfl⟩ := hu
    obtain ⟨vt, hd⟩ := keyT_und hkt
    obtain ⟨hc, hf, hr⟩ := seekB_sound hsk hok
    have hc := (hc w).1
    have hf := hf w
    obtain ⟨hp, hnd, hlt⟩ := hok
    rcases hr with ⟨rfl, hbp, hn⟩ | ⟨l, r, e, hl, rfl, hn, hbp⟩
    · rw [hn] at hf
      obtain ⟨h1, h2⟩ := map_turn hst ho (v' := .bag b') rfl rfl (by simp) (by simp) (.map es' clock) (fun w' h => ⟨_, _, h, hp.trans hbp.symm, hnd, hlt⟩)
      refine ⟨_, ?_, h1, h2⟩
      simp [Builtin.delete_, hts, run_underlying hd, MapKept.run_getObj_map hb, hc, hf, MapKept.run_setObj_map _ hb]
    · rw [hn] at hf
      have htl : (es'.eraseIdxIfInBounds l.length).toList = l ++ r := by
        rw [Array.toList_eraseIdxIfInBounds, hl, List.eraseIdx_append_of_length_le (by simp)]
        simp
      have hok' : BagOk b' (es'.eraseIdxIfInBounds l.length) clock := by
        refine ⟨by rw [htl]; exact hbp, ?_, ?_⟩
        · rw [htl]
          rw [hl] at hnd
          exact hnd.sublist (by simp)
        · intro x hx
          rw [htl] at hx
          rw [hl] at hlt
          simp only [List.mem_append, List.mem_cons] at hx hlt
          rcases hx with hx | hx
          · exact hlt x (.inl hx)
          · exact hlt x (.inr (.inr hx))
      obtain ⟨h1, h2⟩ := map_turn hst ho (v' := .bag b') rfl rfl (by simp) (by simp) (.map (es'.eraseIdxIfInBounds l.length) clock) (fun w' h => ⟨_, _, h, hok'⟩)
      refine ⟨_, ?_, h1, h2⟩
      simp [Builtin.delete_, hts, run_underlying hd, MapKept.run_getObj_map hb, hc, hf, MapKept.run_setObj_map _ hb]
  rename_i hb0
  clear hb0
  split at h
  · rename_i id
    simp only [kB, kM] at h
    obtain ⟨⟨es, clock⟩, hm, kv, hkv, es', hu, rfl⟩ := h
    obtain rfl := repX_toV hk hkv
    obtain ⟨ho, hb⟩ := map_block hst hm
    obtain ⟨_, _, _, rfl⟩ := hx
    obtain ⟨h1, h2⟩ := map_turn hst ho (v' := .map es' clock) rfl rfl (by simp) (by simp) (.map es' clock) (fun w' h => h)
    refine ⟨_, ?_, h1, h2⟩
    unfold deleteV at hu
    cases hd : P.underlying t with
    | none => rw [pv_bnd, pv_und0 hd] at hu; cases hu
    | some d =>
      rw [pv_bnd] at hu
      rw [pv_und hd] at hu
      simp only [kS] at hu
      cases d <;> first | (simp [pv, stuck] at hu; done) | skip
      simp only [pv_bnd, kB] at hu
      obtain ⟨_, hchk, f, hf, hu⟩ := hu
      have r1 := pv_run w hchk
      have r2 := pv_run w hf
      cases f with
      | none =>
        simp only [pv, pure, kI] at hu
        subst hu
        simp [Builtin.delete_, hts, run_underlying hd, MapKept.run_getObj_map hb, r1, r2, MapKept.run_setObj_map _ hb]
      | some p =>
        obtain ⟨i, v0⟩ := p
        simp only [pv, pure, kI] at hu
        subst hu
        simp [Builtin.delete_, hts, run_underlying hd, MapKept.run_getObj_map hb, r1, r2, MapKept.run_setObj_map _ hb]
  · cases h
theorem isMapT_under {t : TypeId} (h : isMapT P t = true) : ∃ k e, P.underlying t = some (.map k e) := by
  unfold isMapT at h
  split at h
  · rename_i k e hu; exact ⟨k, e, hu⟩
  · cases h
theorem range_sound (hst : StR B β H w) {t : TypeId} {x : X} {a : Value} {v : X} {H' : Heap} (hx : RepX B β H w x a) (h : rangeX P H t x = some (v, H')) :
    ∃ β' w' u, (Instr.range t a).run P w = .ok u w' ∧ StR B β' H' w' ∧ Stp β H w β' H' w' ∧ RepX B β' H' w' v u := by
  unfold rangeX at h
  split at h
  · rename_i ht
    obtain ⟨k, e, hu⟩ := isMapT_under ht
    split at h
    · simp only [kI, kP] at h
      obtain ⟨rfl, rfl⟩ := h
      obtain ⟨_, rfl⟩ := hx
      obtain ⟨h1, h2⟩ := map_new hst (.iter none 0 #[] 0) (.mapIter none 0 #[] 0) (fun β' w' hb _ => ⟨hb, fun j hj => by cases hj⟩)
      refine ⟨_, _, .pointer (some ⟨w.heap.size, 0, none⟩), ?_, h1, h2, .iter none 0 #[] 0, by simp, rfl, by rw [upd_same]⟩
      simp [Instr.range, run_underlying hu]
    · rename_i id
      simp only [kM, kP] at h
      obtain ⟨⟨es, clock⟩, hm, rfl, rfl⟩ := h
      obtain ⟨ho, hb⟩ := map_block hst hm
      obtain ⟨_, _, _, rfl⟩ := hx
      have hlt := lt_of_get ho
      obtain ⟨h1, h2⟩ := map_new hst (.iter (some id) clock #[] clock) (.mapIter (some (β id).1) clock #[] clock) (fun β' w' hb' hβ => ⟨by rw [kT, hβ id hlt]; exact hb', fun j hj => by
        cases hj
        exact ⟨_, by rw [List.getElem?_append_left hlt]; exact ho, rfl⟩⟩)
      refine ⟨_, _, .pointer (some ⟨w.heap.size, 0, none⟩), ?_, h1, h2, .iter (some id) clock #[] clock, by simp, rfl, by rw [upd_same]⟩
      simp [Instr.range, run_underlying hu, MapKept.run_getObj_map hb]
    · cases h
  · cases h
theorem next_sound (hst : StR B β H w) {type : TypeId} {x : X} {a : Value} {v : X} {H' : Heap} (hx : RepX B β H w x a) (h : nextX H x = some (v, H')) :
    ∃ w' u, (Instr.next a false type).run P w = .ok u w' ∧ StR B β H' w' ∧ Stp β H w β H' w' ∧ RepX B β H' w' v u := by
  unfold nextX at h
  split at h
  · rename_i id
    simp only [kB] at h
    obtain ⟨⟨m, since, seen, last⟩, hit, h⟩ := h
    obtain ⟨ho, hb, hj⟩ := iter_block hst hit
    obtain ⟨_, _, _, rfl⟩ := hx
    have hg := run_getO (P := P) hb (by intro c e f hh; cases hh)
    simp only at h
    cases m with
    | none =>
      simp only [kI, kP] at h
      obtain ⟨rfl, rfl⟩ := h
      refine ⟨w, .tuple #[.bool false], ?_, hst, Stp.refl _ _ _, [.bool false], rfl, .cons ⟨rfl, rfl⟩ .nil⟩
      simp only [Option.map_none] at hg
      simp [Instr.next, hg]
    | some m =>
      simp only [kB] at h
      obtain ⟨⟨es, clock⟩, hm, h⟩ := h
      obtain ⟨_, hmb⟩ := map_block hst hm
      have hg2 := MapKept.run_getObj_map (P := P) hmb
      simp only [kT] at hg
      simp only at h
      split at h
      · cases h
      · rename_i hc
        generalize hold : (es.filter fun e => !seen.contains e.born).filter (fun e => decide (e.born < since)) = old at h
        generalize hnew : (es.filter fun e => !seen.contains e.born).filter (fun e => decide (e.born ≥ since)) = new at h
        have hcand : ((if old.isEmpty then #[none] else #[]) ++ (old ++ new).map some : Array (Option MapEntry)).toList = (if old.isEmpty then [none] else []) ++ (old.toList ++ new.toList).map some := by
          rw [Array.toList_append, Array.toList_map, Array.toList_append]
          split <;> rfl
        split at h
        · rename_i e hl
          rw [hl] at hcand
          have hc' : ((if old.isEmpty then #[none] else #[]) ++ (old ++ new).map some : Array (Option MapEntry)) = #[some e] := Array.ext' hcand
          simp only [kI, kP] at h
          obtain ⟨rfl, rfl⟩ := h
          obtain ⟨h1, h2⟩ := map_turn hst ho (v' := .iter (some m) since (seen.push e.born) clock) rfl rfl (by simp) (by simp) (.mapIter (some (β m).1) since (seen.push e.born) clock) (fun w' hw => ⟨hw, fun j hj' => by
            cases hj'
            obtain ⟨v, hv, hv2⟩ := hj m rfl
            by_cases e' : id = m
            · subst e'; rw [ho] at hv; cases hv; cases hv2
            · exact ⟨v, by rw [List.getElem?_set_ne e']; exact hv, hv2⟩⟩)
          refine ⟨_, .tuple #[.bool true, e.key, e.val], ?_, h1, h2, [.bool true, e.key, e.val], rfl, .cons ⟨rfl, rfl⟩ (.cons (repY_ofV _) (.cons (repY_ofV _) .nil))⟩
          have hs := run_setO (P := P) (.mapIter (some (β m).1) since (seen.push e.born) clock) hb (by intro c e f hh; cases hh)
          unfold Instr.next
          simp only [Sem.run_bind, hg, hg2, Result.andThen]
          rw [if_neg hc]
          simp only [hold, hnew, hc']
          simp [run_choose, Question.forced, hs]
        · rename_i hl
          rw [hl] at hcand
          have hc' : ((if old.isEmpty then #[none] else #[]) ++ (old ++ new).map some : Array (Option MapEntry)) = #[none] := Array.ext' hcand
          simp only [kI, kP] at h
          obtain ⟨rfl, rfl⟩ := h
          refine ⟨w, .tuple #[.bool false], ?_, hst, Stp.refl _ _ _, [.bool false], rfl, .cons ⟨rfl, rfl⟩ .nil⟩
          unfold Instr.next
          simp only [Sem.run_bind, hg, hg2, Result.andThen]
          rw [if_neg hc]
          simp only [hold, hnew, hc']
          simp [run_choose, Question.forced]
        · cases h
  · cases h
theorem entry_sound (hst : StR B β H w) {x : X} {a : Value} {v : X} (hx : RepX B β H w x a) (h : entryX H x = some v) : ∃ u, (Instr.entry a).run P w = .ok u w ∧ RepX B β H w v u := by
  unfold entryX at h
  split at h
  · rename_i id
    simp only [kB] at h
    obtain ⟨⟨m, since, seen, last⟩, hit, m', hm', stamp, hst', ⟨es, clock⟩, hm, h⟩ := h
    simp only at hm' hst' h
    subst hm'
    obtain ⟨ho, hb, hj⟩ := iter_block hst hit
    obtain ⟨_, hmb⟩ := map_block hst hm
    obtain ⟨_, _, _, rfl⟩ := hx
    split at h
    · rename_i hcl
      simp only [kM] at h
      obtain ⟨e, he, rfl⟩ := h
      refine ⟨.tuple #[e.key, e.val], ?_, [e.key, e.val], rfl, .cons (repY_ofV _) (.cons (repY_ofV _) .nil)⟩
      have hg := run_getO (P := P) hb (by intro c e f hh; cases hh)
      simp only [kT] at hg
      simp [Instr.entry, hg, hst', MapKept.run_getObj_map hmb, hcl, he]
    · cases h
  · cases h
theorem len_map {ts : Array TypeId} {type t k e : TypeId} {r : Nat} {es : Array MapEntry} {clock : Nat} (hts : ts[0]? = some t) (he : P.underlying t = some (.map k e)) (hb : w.heap[r]? = some (.map es clock)) : (Builtin.len_ ts type #[.map (some r)]).run P w = .ok (goInt es.size) w := by
  simp [Builtin.len_, hts, run_underlying he, MapKept.run_getObj_map hb]
end
end Go.Lg
