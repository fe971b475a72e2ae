/-
 X, part 36: FUNCTIONS THAT ARE TOLD BY A CONTRACT OF THEIR OWN: what is left of a heap where one row outlives the rest; a call with nothing of the heap whose row is new; what code comes to WHATEVER IS DRAWN.
-/
import Derived.Test.YtoieblpjklbmoaaX35
import Derived.Test.YtoieblpjklbmoaaX15
namespace Go.Lg
section
variable {B : Nat → Prop} {β β2 : Nat → Nat × Nat} {H H2 : Heap} {w : World} {n : Nat}
/-- A part of a heap, under other numbers; the first n as they were. -/
structure SubH (σ : Nat → Nat) (n : Nat) (β : Nat → Nat × Nat) (H : Heap) (β2 : Nat → Nat × Nat) (H2 : Heap) : Prop where
 src : ∀ id o, H2[id]? = some o → H[σ id]? = some o ∧ β2 id = β (σ id)
 inj : ∀ i j oi oj, H2[i]? = some oi → H2[j]? = some oj → σ i = σ j → i = j
 low : ∀ id, id < n → H2[id]? = H[id]? ∧ β2 id = β id
variable {σ : Nat → Nat}
theorem SubH.free (s : SubH σ n β H β2 H2) {b : Nat} (h : Free β H w b) : Free β2 H2 w b :=
 ⟨h.1, fun id o ho hm => by obtain ⟨h0, e⟩ := s.src id o ho; rw [e]; exact h.2 _ o h0 hm⟩
theorem repA_sub (s : SubH σ n β H β2 H2) {c : C} {u : Value} (h : RepA B β H w c u) (hc : c.inH n = true) : RepA B β2 H2 w c u := by
 have hS : ∀ b, (Free β H w b ∧ ¬ B b) → (Free β2 H2 w b ∧ ¬ B b) ∧ w.heap[b]? = w.heap[b]? := fun b hb => ⟨⟨s.free hb.1, hb.2⟩, rfl⟩
 cases c with
 | sc v => exact h
 | sl b nil capd cells m =>
  obtain ⟨a, cap, xs, hu, ho, hl⟩ := h
  exact ⟨a, cap, xs, hu, ho.mono fun b hb => ⟨⟨s.free hb.1, hb.2⟩, rfl⟩, RepIL.mono hS _ _ hl⟩
 | row id st off len capd =>
  obtain ⟨pu, mu, d, st', sz, cells, ho, r⟩ := h
  simp only [C.inH, decide_eq_true_eq] at hc
  exact ⟨pu, mu, d, st', sz, cells, by rw [(s.low id hc).1]; exact ho, by rw [(s.low id hc).2]; exact r⟩
 | ptr id off =>
  obtain ⟨cells, ho, r⟩ := h
  simp only [C.inH, decide_eq_true_eq] at hc
  exact ⟨cells, by rw [(s.low id hc).1]; exact ho, by rw [(s.low id hc).2]; exact r⟩
 | rd cells =>
  obtain ⟨ad, xs, hu, hl, r⟩ := h
  exact ⟨ad, xs, hu, RepIL.mono hS _ _ hl, fun hx => ⟨(r hx).1, s.free (r hx).2.1, (r hx).2.2⟩⟩
 | ra id st pos =>
  obtain ⟨pu, mu, d, st', sz, cells, ho, r⟩ := h
  simp only [C.inH, decide_eq_true_eq] at hc
  exact ⟨pu, mu, d, st', sz, cells, by rw [(s.low id hc).1]; exact ho, by rw [(s.low id hc).2]; exact r⟩
 | mp id =>
  obtain ⟨es, ho, r⟩ := h
  simp only [C.inH, decide_eq_true_eq] at hc
  exact ⟨es, by rw [(s.low id hc).1]; exact ho, by rw [(s.low id hc).2]; exact r⟩
 | it id =>
  obtain ⟨es, ho, r⟩ := h
  simp only [C.inH, decide_eq_true_eq] at hc
  exact ⟨es, by rw [(s.low id hc).1]; exact ho, by rw [(s.low id hc).2]; exact r⟩
 | fn _ _ _ => exact h
 | dead => exact h
theorem rep_sub (s : SubH σ n β H β2 H2) {c : C} {u : Value} (h : Rep B β H w c u) (hc : c.inH n = true) : Rep B β2 H2 w c u := by
 cases c with
 | fn f first cap =>
  obtain ⟨us, vs, hu, h1, h2⟩ := h
  simp only [C.inH, List.all_eq_true] at hc
  have key : ∀ c ∈ first ++ cap, ∀ u, RepA B β H w c u → RepA B β2 H2 w c u := by
   intro c hm u hr
   refine repA_sub s hr ?_
   have := hc c hm
   cases c <;> first | exact this | exact hr.elim
  exact ⟨us, vs, hu, h1.mono_mem fun c u hm hr => key c (by simp [hm]) u hr, h2.mono_mem fun c u hm hr => key c (by simp [hm]) u hr⟩
 | dead => trivial
 | sc v => exact repA_sub (B := B) (w := w) (c := .sc v) s h hc
 | sl b nil capd cells m => exact repA_sub (B := B) (w := w) (c := .sl b nil capd cells m) s h hc
 | row id st off len capd => exact repA_sub (B := B) (w := w) (c := .row id st off len capd) s h hc
 | ptr id off => exact repA_sub (B := B) (w := w) (c := .ptr id off) s h hc
 | rd cells => exact repA_sub (B := B) (w := w) (c := .rd cells) s h hc
 | ra id st pos => exact repA_sub (B := B) (w := w) (c := .ra id st pos) s h hc
 | mp id => exact repA_sub (B := B) (w := w) (c := .mp id) s h hc
 | it id => exact repA_sub (B := B) (w := w) (c := .it id) s h hc
theorem SubH.str (s : SubH σ n β H β2 H2) (hst : StR B β H w) (hin : ∀ o ∈ H2, O.inH n o = true) : StR B β2 H2 w := by
 refine ⟨fun id o ho ht => ?_, fun i j oi oj hi hti hj htj he => ?_, fun id o ho ht => ?_, hst.blt, fun id o ho => ?_⟩
 ·obtain ⟨h0, e⟩ := s.src id o ho; rw [e]; exact hst.inb _ o h0 ht
 ·obtain ⟨hi0, ei⟩ := s.src i oi hi
  obtain ⟨hj0, ej⟩ := s.src j oj hj
  exact s.inj i j oi oj hi hj (hst.inj _ _ oi oj hi0 hti hj0 htj (by rw [← ei, ← ej]; exact he))
 ·obtain ⟨h0, e⟩ := s.src id o ho; rw [e]; exact hst.bor _ o h0 ht
 ·obtain ⟨h0, e⟩ := s.src id o ho
  have hl := hst.live _ o h0
  have hi := hin o (List.mem_of_getElem? ho)
  cases o with
  | row pu mu d st sz cells =>
   obtain ⟨g1, g2, g3, g4, arr, e', g5, g6, g7⟩ := hl
   refine ⟨g1, g2, g3, g4, arr, e', by rw [e]; exact g5, by rw [e]; exact g6, ?_⟩
   rw [e]
   refine g7.mono_mem fun c _ hm hr => rep_sub s hr ?_
   cases pu with
   | false => exact List.all_eq_true.1 hi c hm
   | true =>
    have := List.all_eq_true.1 (g4 rfl) c hm
    cases c <;> first | rfl | (cases this; done)
  | obj cells =>
   obtain ⟨g1, arr, e', g5, g7⟩ := hl
   exact ⟨by rw [e]; exact g1, arr, e', by rw [e]; exact g5, g7.mono_mem fun c _ hm hr => rep_sub s hr (List.all_eq_true.1 hi c hm)⟩
  | map v =>
   cases v with
   | iter m since seen last =>
    obtain ⟨h1, h2⟩ := hl
    have hm : ∀ j, m = some j → β2 j = β j ∧ ∃ v, H2[j]? = some (.map v) ∧ v.isMap = true := by
     intro j hj
     subst hj
     simp only [O.inH, decide_eq_true_eq] at hi
     obtain ⟨v, hv, hv2⟩ := h2 j rfl
     exact ⟨(s.low j hi).2, v, by rw [(s.low j hi).1]; exact hv, hv2⟩
    refine ⟨?_, fun j hj => (hm j hj).2⟩
    rw [e, h1]
    cases m with
    | none => rfl
    | some j => simp only [kT, (hm j rfl).1]
   | hole => trivial
   | fro cs => exact hl
   | map es clock => simp only [ObjOk] at hl ⊢; rw [e]; exact hl
   | bag es => simp only [ObjOk] at hl ⊢; rw [e]; exact hl
theorem SubH.stp (s : SubH σ n β H β2 H2) {β0 : Nat → Nat × Nat} {H0 : Heap} {w0 : World} (h : Stp β0 H0 w0 β H w) (hn : H0.length = n) : Stp β0 H0 w0 β2 H2 w :=
 ⟨h.os, h.tape, h.output, h.size, fun b hb => ⟨(h.free b hb).1, s.free (h.free b hb).2⟩, fun id o ho => by
  obtain ⟨o', h', k⟩ := h.ids id o ho
  have hlt : id < n := by rw [← hn]; exact lt_of_get ho
  exact ⟨o', by rw [(s.low id hlt).1]; exact h', by rw [(s.low id hlt).2]; exact k⟩⟩
/-! ### A call with nothing of the heap, whose row is new -/
theorem add_thing (hst : StR B β H w) {w' : World} (os : w'.os = w.os) (tape : w'.tape = w.tape) (output : w'.output = w.output) (size : w.heap.size ≤ w'.heap.size) (old : ∀ b, b < w.heap.size → w'.heap[b]? = w.heap[b]?)
  (p : Nat × Nat) (hp : w.heap.size ≤ p.1) (hp' : p.1 < w'.heap.size) (o : O) (hobj : ObjOk B (upd β H.length p) (H ++ [o]) w' H.length o) :
  StR B (upd β H.length p) (H ++ [o]) w' ∧ Stp β H w (upd β H.length p) (H ++ [o]) w' := by
 have hget0 : ∀ j oj, H[j]? = some oj → (H ++ [o])[j]? = some oj ∧ j ≠ H.length := fun j oj hj => by
  have := lt_of_get hj
  exact ⟨by rw [List.getElem?_append_left this]; exact hj, by omega⟩
 have hget : ∀ j oj, (H ++ [o])[j]? = some oj → (j = H.length ∧ oj = o) ∨ (j ≠ H.length ∧ H[j]? = some oj) := by
  intro j oj hj
  by_cases hl : j < H.length
  ·rw [List.getElem?_append_left hl] at hj; exact .inr ⟨by omega, hj⟩
  ·have hlt := lt_of_get hj
   have : j = H.length := by simp at hlt; omega
   subst this
   exact .inl ⟨rfl, by simpa using hj.symm⟩
 have stp : Stp β H w (upd β H.length p) (H ++ [o]) w' := by
  refine ⟨os, tape, output, size, fun k hk => ⟨old k hk.1, Nat.lt_of_lt_of_le hk.1 size, fun j oj hj hm => ?_⟩, fun j oj hj => ⟨oj, (hget0 j oj hj).1, ?_⟩⟩
  ·rcases hget j oj hj with ⟨rfl, rfl⟩ | ⟨e, hj⟩
   ·rw [upd_same]; have := hk.1; omega
   ·rw [upd_other _ _ e]; exact hk.2 j oj hj hm
  ·rw [upd_other _ _ (hget0 j oj hj).2]
   exact Kept.same fun ht => old _ (hst.inb j oj hj ht)
 refine ⟨⟨fun j oj hj ht => ?_, fun i j oi oj hi hti hj htj hij => ?_, fun j oj hj ht => ?_, fun b hb => Nat.lt_of_lt_of_le (hst.blt b hb) size, fun j oj hj => ?_⟩, stp⟩
 ·rcases hget j oj hj with ⟨rfl, rfl⟩ | ⟨e, hj⟩
  ·rw [upd_same]; exact hp'
  ·rw [upd_other _ _ e]; exact Nat.lt_of_lt_of_le (hst.inb j oj hj ht) size
 ·rcases hget i oi hi with ⟨rfl, rfl⟩ | ⟨ei, hi'⟩ <;> rcases hget j oj hj with ⟨rfl, rfl⟩ | ⟨ej, hj'⟩
  ·rfl
  ·rw [upd_same, upd_other _ _ ej] at hij; have := hst.inb j oj hj' htj; omega
  ·rw [upd_same, upd_other _ _ ei] at hij; have := hst.inb i oi hi' hti; omega
  ·rw [upd_other _ _ ei, upd_other _ _ ej] at hij; exact hst.inj i j oi oj hi' hti hj' htj hij
 ·rcases hget j oj hj with ⟨rfl, rfl⟩ | ⟨e, hj⟩
  ·rw [upd_same]; intro hb; have := hst.blt _ hb; omega
  ·rw [upd_other _ _ e]; exact hst.bor j oj hj ht
 ·rcases hget j oj hj with ⟨rfl, rfl⟩ | ⟨e, hj⟩
  ·exact hobj
  ·exact (hst.live j oj hj).mono stp (upd_other _ _ e) fun ht => by
    exact old _ (hst.inb j oj hj ht)
/-- What a call with nothing of the heap hands back: a row that is new, or values that lead nowhere. -/
inductive Fresh (H : Heap) : List Y → Heap → List Y → Heap → Prop where
 | row {id d st sz off len : Nat} {pu capd : Bool} {cs : List C} {r : List Y} {H' : Heap} (ho : H'[id]? = some (.row pu true d st sz cs)) (hcs : cs.all (fun c => match c with | .sc _ => true | _ => false) = true)
   (hr : r.all (fun y => y.cells.all (fun c => match c with | .sc _ => true | _ => false)) = true) : Fresh H (.one (.row id st off len capd) :: r) H' (.one (.row H.length st off len capd) :: r) (H ++ [.row pu true d st sz cs])
 | back {rs rs' : List Y} {H' : Heap} (h : rs.mapM (backY H') = some rs') : Fresh H rs H' rs' H
theorem rep_plain {B' : Nat → Prop} {β' : Nat → Nat × Nat} {H' : Heap} {w' : World} {c : C} {u : Value} (hc : (match c with | .sc _ => true | _ => false) = true) (h : Rep B β H w c u) : Rep B' β' H' w' c u := by
 cases c <;> first | (cases hc; done) | exact h
theorem repY_plain {B' : Nat → Prop} {β' : Nat → Nat × Nat} {H' : Heap} {w' : World} {y : Y} {u : Value} (hc : y.cells.all (fun c => match c with | .sc _ => true | _ => false) = true) (h : RepY B β H w y u) : RepY B' β' H' w' y u := by
 cases y with
 | one c => exact rep_plain (by simpa [Y.cells] using hc) h
 | agg cs =>
  obtain ⟨xs, hu, hx⟩ := h
  exact ⟨xs, hu, hx.mono_mem fun c _ hm hr => rep_plain (List.all_eq_true.1 hc c hm) hr⟩
theorem pack_all2 {rs : List Y} {v : Value} (h : RepRes B β H w rs v) : ∃ vs : List Value, All2 (RepY B β H w) rs vs ∧ ∀ {B' : Nat → Prop} {β' : Nat → Nat × Nat} {H' : Heap} {w' : World} {rs' : List Y}, rs'.length = rs.length → All2 (RepY B' β' H' w') rs' vs → RepRes B' β' H' w' rs' v := by
 unfold RepRes at h
 match rs, h with
 | [], h =>
  obtain ⟨xs, hu, hx⟩ := h
  exact ⟨xs, hx, fun {_ _ _ _ rs'} hl hx' => by
   have : rs' = [] := List.length_eq_zero_iff.1 hl
   subst this
   exact ⟨xs, hu, hx'⟩⟩
 | [y], h =>
  exact ⟨[v], .cons h .nil, fun {_ _ _ _ rs'} hl hx' => by
   obtain ⟨y', rfl⟩ := List.length_eq_one_iff.1 hl
   cases hx' with
   | cons a _ => exact a⟩
 | y :: y' :: rs, h =>
  obtain ⟨xs, hu, hx⟩ := h
  exact ⟨xs, hx, fun {_ _ _ _ rs'} hl hx' => by
   match rs', hl, hx' with
   | a :: b :: r, _, hx' => exact ⟨xs, hu, hx'⟩⟩
variable {P : Program} {A : Ann}
/-- A contract: what the function comes to with nothing of the heap, its row being new. -/
theorem SpOk.fresh (hP : POk P) (hA : AnnOk P A) {f : FuncId} {sp : List Y → Heap → Option (List Y × Heap)}
  (h : ∀ args H rs H1, sp args H = some (rs, H1) → ∃ as k rs0 H', args.mapM (snapY H) = some as ∧ runX P A k f as [] = some (rs0, H') ∧ Fresh H rs0 H' rs H1) : SpOk P f sp := by
 intro args H rs H1 hsp
 obtain ⟨as, k, rs0, H', has, hk, hf⟩ := h _ _ _ _ hsp
 obtain ⟨hfn, hc⟩ := run_sound hP hA k _ _ _ _ _ hk
 refine ⟨hfn, fun B β w us hst ha => ?_⟩
 let B' : Nat → Prop := fun b => B b ∨ ∃ id o, H[id]? = some o ∧ o.mut = true ∧ (β id).1 = b
 have hB : ∀ b, B' b ↔ B b ∨ ∃ id o, H[id]? = some o ∧ o.mut = true ∧ (β id).1 = b := fun b => Iff.rfl
 have hst0 : StR B' β [] w := ⟨fun id o h => by simp at h, fun i j oi oj h => by simp at h, fun id o h => by simp at h, fun b hb => by
  rcases hb with hb | ⟨id, o, ho, hm, rfl⟩
  ·exact hst.blt b hb
  ·exact hst.inb id o ho (O.there_mut hm), fun id o h => by simp at h⟩
 refine (hc B' β w us hst0 (snapYs_sound hst hB ha has)).mono fun e w' he => ?_
 obtain ⟨u, β', rfl, hst', stp', hr⟩ := he
 obtain ⟨stp, hstk⟩ := keep_stp hst stp'.os stp'.tape stp'.output stp'.size stp'.empty
 cases hf with
 | back hrs =>
  refine ⟨u, β, rfl, hstk, stp, ?_⟩
  unfold RepRes at hr ⊢
  rcases pack_mapM hrs with ⟨r, r', rfl, rfl, hb⟩ | ⟨h1, h2⟩
  ·exact backY_sound hB hst' hr hb
  ·rw [h1] at hr
   rw [h2]
   obtain ⟨xs, rfl, hx⟩ := hr
   exact ⟨xs, rfl, backYs_sound hB hst' hx hrs⟩
 | @row id d st sz off len pu capd cs r H' ho hcs hrr =>
  have hpl : (β' id).1 < w'.heap.size := hst'.inb id _ ho rfl
  have hfr : w.heap.size ≤ (β' id).1 := by
   refine Nat.le_of_not_lt fun hlt => ?_
   exact (stp'.free _ ⟨hlt, fun j o hj => by simp at hj⟩).2.2 id _ ho rfl rfl
  obtain ⟨g1, g2, g3, g4, arr, e, g5, g6, g7⟩ := hst'.live id _ ho
  obtain ⟨k1, k2⟩ := add_thing hst stp'.os stp'.tape stp'.output stp'.size stp'.empty (β' id) hfr hpl (.row pu true d st sz cs) ⟨g1, g2, g3, g4, arr, e, by rw [upd_same]; exact g5, by rw [upd_same]; exact g6, by
   rw [upd_same]
   exact g7.mono_mem fun c _ hm hr => rep_plain (List.all_eq_true.1 hcs c hm) hr⟩
  refine ⟨u, _, rfl, k1, k2, ?_⟩
  obtain ⟨vs, hvs, hback⟩ := pack_all2 hr
  refine hback rfl ?_
  cases hvs with
  | cons r1 r2 =>
   refine .cons ?_ (r2.mono_mem fun y _ hm hr => repY_plain (List.all_eq_true.1 hrr y hm) hr)
   obtain ⟨pu', mu', d', st', sz', cells', ho', hle, hu, hh⟩ := r1
   rw [ho] at ho'
   cases ho'
   exact ⟨pu, true, d, st, sz, cs, by simp, hle, hu, by rw [upd_same]; exact hh⟩
theorem Runs.spec {f : FuncId} {sp : List Y → Heap → Option (List Y × Heap)} {args rs : List Y} {H H1 : Heap} (hm : A.may f = false) (hs : A.spec f = some sp) (h : sp args H = some (rs, H1)) : Runs P A f args H rs H1 := by
 refine ⟨1, ?_⟩
 unfold runX
 rw [if_neg (by simp [hm]), hs]
 exact h
end
end Go.Lg
