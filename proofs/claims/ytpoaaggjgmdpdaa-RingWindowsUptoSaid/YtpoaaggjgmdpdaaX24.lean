/-
  X, part 24: more of what operations on the call's own slices owe: parts of rows, copies, rows behind rows.
-/
import Derived.Test.YtpoaaggjgmdpdaaX23
namespace Go.Lg
section
variable {P : Program} {A : Ann} {H : Heap}

/-- x[a:] -/
theorem ob_slice_rowl {s : Sh} {t el ty : TypeId} {pu capd : Bool} {id off n : Nat} {l : List s.T} {a : Int} {n' : Nat} (hH : H[id]? = some (tr s pu l)) (he : elemT P t = some el) (hs : szT P el = some s.cells)
    (h0 : 0 ≤ a) (h1 : a ≤ n) (h2 : (off : Int) + n ≤ l.length) (hn : ((n : Int) - a).toNat = n') :
    Ob P A [.y (.one (.row id l.length off n capd)), .y (.one (.sc (.int .i64 a)))] H (.slice t (.tmp 0) (some (.tmp 1)) none none) ty (.y (.one (.row id l.length (off + a.toNat) n' capd))) H := by
  refine ⟨0, ?_⟩
  subst hn
  show ((sliceX P H t (.y (.one (.row id l.length off n capd))) (some (.y (.one (.sc (.int .i64 a))))) none none).map fun v => (v, H)) = _
  unfold sliceX
  simp only [hH, he, hs, Option.bind_some, optI, X.int?, capI]
  rw [if_pos ⟨h0, h1, by cases capd <;> simp <;> omega, (fun _ _ => by first | trivial | rfl), trivial, trivial, Nat.zero_le _⟩]
  rfl

/-- x[:b:b] -/
theorem ob_slice_rowc {s : Sh} {t el ty : TypeId} {pu capd : Bool} {id off n : Nat} {l : List s.T} {b : Int} {n' : Nat} (hH : H[id]? = some (tr s pu l)) (he : elemT P t = some el) (hs : szT P el = some s.cells)
    (h1 : 0 ≤ b) (h3 : b ≤ n) (h2 : (off : Int) + n ≤ l.length) (hn : b.toNat = n') :
    Ob P A [.y (.one (.row id l.length off n capd)), .y (.one (.sc (.int .i64 b))), .y (.one (.sc (.int .i64 b)))] H (.slice t (.tmp 0) none (some (.tmp 1)) (some (.tmp 2))) ty (.y (.one (.row id l.length off n' true))) H := by
  refine ⟨0, ?_⟩
  subst hn
  show ((sliceX P H t (.y (.one (.row id l.length off n capd))) none (some (.y (.one (.sc (.int .i64 b))))) (some (.y (.one (.sc (.int .i64 b)))))).map fun v => (v, H)) = _
  unfold sliceX
  simp only [hH, he, hs, Option.bind_some, optI, X.int?, capI]
  rw [if_pos (show True ∧ (some (X.y (.one (.sc (.int .i64 b))))).isSome = true from ⟨trivial, rfl⟩)]
  simp only [Option.bind_some]
  rw [if_pos ⟨Int.le_refl _, h1, by cases capd <;> simp <;> omega, (fun h => by cases h), trivial, trivial, Nat.zero_le _⟩]
  simp

theorem ob_slice_slc {s : Sh} {t el ty : TypeId} {b nil capd : Bool} {l m : List s.T} {h : Int} (he : elemT P t = some el) (hs : szT P el = some s.cells) (h1 : 0 ≤ h) (h2 : h ≤ l.length) (hm : l.take h.toNat = m) :
    Ob P A [.y (.one (.sl b nil capd (l.flatMap (enc s)) l.length)), .y (.one (.sc (.int .i64 h))), .y (.one (.sc (.int .i64 h)))] H (.slice t (.tmp 0) none (some (.tmp 1)) (some (.tmp 2))) ty (.y (.one (.sl b nil true (m.flatMap (enc s)) m.length))) H := by
  refine ⟨0, ?_⟩
  subst hm
  show ((sliceX P H t (.y (.one (.sl b nil capd (l.flatMap (enc s)) l.length))) none (some (.y (.one (.sc (.int .i64 h))))) (some (.y (.one (.sc (.int .i64 h)))))).map fun v => (v, H)) = _
  have hc : capI h (some (X.y (.one (.sc (.int .i64 h))))).isSome (capd && decide (h = l.length)) (some (.y (.one (.sc (.int .i64 h))))) = some true := by
    simp [capI, X.int?]
  rw [sliceX_sl he hs (a := 0) (h := h) rfl rfl hc (Int.le_refl _) h1 h2]
  simp

theorem dt0 {α : Type} {l : List α} {a n : Nat} (h1 : a = 0) (h2 : l.length ≤ n) : (l.drop a).take n = l := by
  subst h1; rw [List.drop_zero]; exact List.take_of_length_le h2
theorem dt1 {α : Type} {l : List α} {a b n : Nat} (h1 : a = b) (h2 : l.length ≤ a + n) : (l.drop a).take n = l.drop b := by
  subst h1; exact List.take_of_length_le (by rw [List.length_drop]; omega)
theorem dt2 {α : Type} {l : List α} {a b n : Nat} (h1 : a = 0) (h2 : n = b) : (l.drop a).take n = l.take b := by
  subst h1; subst h2; rfl
theorem dt3 {α : Type} {l : List α} {a b n m : Nat} (h1 : a = b) (h2 : n = m) : (l.drop a).take n = (l.drop b).take m := by
  subst h1; subst h2; rfl
theorem dt4 {α : Type} {l : List α} {a b : Nat} (h1 : a = b) : l.take a ++ l.drop b = l := by
  subst h1; exact List.take_append_drop a l
theorem dt5 {α : Type} {l : List α} {a b n : Nat} (h1 : a = 0) (h2 : n = b) : (l.drop a).take n ++ l.drop b = l := by
  subst h1; subst h2; exact List.take_append_drop _ l
theorem dt6 {α : Type} {l : List α} {a n : Nat} (h1 : n = 0 ∨ l.length ≤ a) : (l.drop a).take n = [] := by
  rcases h1 with h | h
  · subst h; rfl
  · rw [List.drop_eq_nil_of_le h]; simp

/-- What a row's slice holds. -/
theorem slCells_row {s : Sh} {pu capd : Bool} {id off n : Nat} {l : List s.T} (hH : H[id]? = some (tr s pu l)) (h : off + n ≤ l.length) :
    slCells H s.cells (.row id l.length off n capd) = some (((l.drop off).take n).flatMap (enc s), n, pu) := by
  simp only [slCells, hH]
  rw [if_pos ⟨trivial, trivial, Nat.zero_le _, h⟩]
  simp only [Nat.sub_zero, sub, flat_drop, flat_take]
theorem slCells_sl {s : Sh} {b nil capd : Bool} {l : List s.T} : slCells H s.cells (.sl b nil capd (l.flatMap (enc s)) l.length) = some (l.flatMap (enc s), l.length, true) := by simp only [slCells, flat_len, if_true]

/-- append behind what has no room: a row of its own -/
theorem ob_append_cap {s : Sh} {t u el ty : TypeId} {by_ : Nat} {z : List C} {pu puy : Bool} {id off n m : Nat} {l lm : List s.T} {y : C} (hH : H[id]? = some (tr s pu l)) (hy : slCells H s.cells y = some (lm.flatMap (enc s), m, puy)) (hp : (!pu || puy) = true)
    (he : elemT P t = some el) (hu : (elemT P u).isSome = true) (hs : szT P el = some s.cells) (h0 : Nat.ble 1 s.cells = true) (hb : byT P el = some by_) (hz : zeroC P el = some z) (hml : m = lm.length)
    (hm : m ≠ 0) (hoff : off + n ≤ l.length) (h1 : (n : Int) + m ≤ 9223372036854775807) (h2 : ((n : Int) + m) * by_ ≤ 140737488355328) :
    Ob P A [.y (.one (.row id l.length off n true)), .y (.one y)] H (.call { callee := .builtin .append, args := #[.tmp 0, .tmp 1], argTypes := #[t, u] }) ty
      (.y (.one (.row H.length ((l.drop off).take n ++ lm).length 0 ((l.drop off).take n ++ lm).length false))) (H ++ [tr s pu ((l.drop off).take n ++ lm)]) := by
  refine ⟨0, ?_⟩
  show (if (elemT P u).isSome then (some (C.row id l.length off n true)).bind fun s' => (some y).bind fun z => (appendX P A H t s' z).map fun (c, H) => (X.y (.one c), H) else none) = _
  rw [if_pos hu]
  simp only [Option.bind_some]
  unfold appendX
  simp only [he, hs, hb, hz, Option.bind_some]
  rw [if_pos (show 0 < s.cells from Nat.le_of_ble_eq_true h0)]
  simp only [hy, slCells_row hH hoff, Option.bind_some]
  have hl : ((l.drop off).take n).length = n := by rw [List.length_take, List.length_drop]; omega
  rw [if_neg hm, if_pos ⟨flat_live s lm, by unfold maxLen; omega, by unfold maxBytes; exact Int.ofNat_le.1 (by rw [Int.natCast_mul, Int.natCast_add]; exact h2)⟩]
  have hq : (pu && !puy) = false := by cases pu <;> cases puy <;> simp_all
  simp only [C.isRow, if_true, hq, Bool.false_eq_true, if_false, Option.bind_some, Option.map_some, rowNew]
  rw [show n + m = ((l.drop off).take n ++ lm).length by rw [List.length_append, hl, hml], ← List.flatMap_append]
theorem ob_append_none {t u el ty : TypeId} {sz by_ : Nat} {z : List C} {cs : List C} {n : Nat} {pu : Bool} {c y : C} {cs' : List C} {puy : Bool} (hc : slCells H sz c = some (cs, n, pu)) (hy : slCells H sz y = some (cs', 0, puy))
    (he : elemT P t = some el) (hu : (elemT P u).isSome = true) (hs : szT P el = some sz) (h0 : Nat.ble 1 sz = true) (hb : byT P el = some by_) (hz : zeroC P el = some z) :
    Ob P A [.y (.one c), .y (.one y)] H (.call { callee := .builtin .append, args := #[.tmp 0, .tmp 1], argTypes := #[t, u] }) ty (.y (.one c)) H := by
  refine ⟨0, ?_⟩
  show (if (elemT P u).isSome then (some c).bind fun s' => (some y).bind fun z => (appendX P A H t s' z).map fun (c, H) => (X.y (.one c), H) else none) = _
  rw [if_pos hu]
  simp only [Option.bind_some]
  unfold appendX
  simp only [he, hs, hb, hz, Option.bind_some]
  rw [if_pos (show 0 < sz from Nat.le_of_ble_eq_true h0)]
  simp only [hc, hy, Option.bind_some, if_true, Option.map_some]

/-- make([]T, n, c): so many noughts -/
theorem ob_make {s : Sh} {t el ty : TypeId} {by_ : Nat} {z : s.T} {n c : Int} (he : elemT P t = some el) (hs : szT P el = some s.cells) (hb : byT P el = some by_) (hz : zeroC P el = some (enc s z))
    (hk : (Nat.ble 1 s.cells && (!A.pureSl t || (enc s z).all C.imm)) = true) (h0 : 0 ≤ n) (h01 : n ≤ c) (h1 : c ≤ 9223372036854775807) (h2 : (by_ : Int) * c ≤ 281474976710656) :
    Ob P A [.y (.one (.sc (.int .i64 n))), .y (.one (.sc (.int .i64 c)))] H (.makeSlice t (.tmp 0) (.tmp 1)) ty (.y (.one (.row H.length (List.replicate n.toNat z).length 0 (List.replicate n.toNat z).length false))) (H ++ [tr s (A.pureSl t) (List.replicate n.toNat z)]) := by
  simp only [Bool.and_eq_true, Bool.or_eq_true, Bool.not_eq_true'] at hk
  refine ⟨0, ?_⟩
  show ((elemT P t).bind fun el => (szT P el).bind fun sz => (byT P el).bind fun by_ => (zeroC P el).bind fun z => (some n).bind fun l => (some c).bind fun cp =>
    if 0 < sz ∧ 0 ≤ l ∧ l ≤ cp ∧ cp ≤ maxLen ∧ by_ * cp ≤ 281474976710656 ∧ (A.pureSl t → z.all C.imm) then
      some (let n := l.toNat; let (c, H) := rowNew H (A.pureSl t) sz n ((List.range (n * sz)).map fun i => z.getD (i % sz) .dead); (X.y (.one c), H)) else none) = _
  simp only [he, hs, hb, hz, Option.bind_some]
  have hpos : 0 < s.cells := Nat.le_of_ble_eq_true hk.1
  rw [if_pos ⟨hpos, h0, h01, by unfold maxLen; omega, h2, fun hp => by rcases hk.2 with h | h; (rw [hp] at h; cases h); exact h⟩]
  have hcs : ((List.range (n.toNat * s.cells)).map fun i => (enc s z).getD (i % s.cells) .dead) = (List.replicate n.toNat z).flatMap (enc s) := by
    generalize n.toNat = k
    induction k with
    | zero => simp
    | succ k ih =>
      rw [List.replicate_succ', List.flatMap_append, ← ih, Nat.add_mul, Nat.one_mul, List.range_add, List.map_append]
      congr 1
      rw [List.map_map]
      have hl := enc_len s z
      apply List.ext_getElem
      · simp [hl]
      · intro i hi _
        have hi' : i < s.cells := by simpa using hi
        simp only [List.getElem_map, List.getElem_range, Function.comp]
        rw [Nat.mul_add_mod_self_right, Nat.mod_eq_of_lt hi']
        simp [List.getD, hl, hi']
  simp only [rowNew, hcs, tr, List.length_replicate]

theorem ob_make' {s : Sh} {t el ty : TypeId} {by_ : Nat} {z : s.T} {zs : List s.T} {n c : Int} (hzs : zs = List.replicate n.toNat z) (he : elemT P t = some el) (hs : szT P el = some s.cells) (hb : byT P el = some by_) (hz : zeroC P el = some (enc s z))
    (hk : (Nat.ble 1 s.cells && (!A.pureSl t || (enc s z).all C.imm)) = true) (h0 : 0 ≤ n) (h01 : n ≤ c) (h1 : c ≤ 9223372036854775807) (h2 : (by_ : Int) * c ≤ 281474976710656) :
    Ob P A [.y (.one (.sc (.int .i64 n))), .y (.one (.sc (.int .i64 c)))] H (.makeSlice t (.tmp 0) (.tmp 1)) ty (.y (.one (.row H.length zs.length 0 zs.length false))) (H ++ [tr s (A.pureSl t) zs]) := by
  subst hzs
  exact ob_make he hs hb hz hk h0 h01 h1 h2

/-- copy over a whole row; its count stands in the old list's length -/
theorem ob_copy_x {s : Sh} {t u el ty : TypeId} {pu puy : Bool} {id n : Nat} {l lm : List s.T} {y : C} {m : Int} (hH : H[id]? = some (tr s pu l)) (hy : slCells H s.cells y = some (lm.flatMap (enc s), n, puy)) (hp : (!pu || puy) = true)
    (he : elemT P t = some el) (hs : szT P el = some s.cells) (hl : lm.length = l.length) (hn : n = l.length) (hm : (n : Int) = m) :
    Ob P A [.y (.one (.row id l.length 0 l.length false)), .y (.one y)] H (.call { callee := .builtin .copy, args := #[.tmp 0, .tmp 1], argTypes := #[t, u] }) ty (.y (.one (.sc (.int .i64 m)))) (H.set id (.row pu true 0 l.length s.cells (lm.flatMap (enc s)))) := by
  subst hm
  subst hn
  refine ⟨0, ?_⟩
  show ((some (C.row id l.length 0 l.length false)).bind fun d => (some y).bind fun s => (copyX P H t d s).map fun (n, H) => (X.y (.one (.sc (goInt n))), H)) = _
  simp only [Option.bind_some]
  unfold copyX
  simp only [he, hs, hy, hH, Option.bind_some]
  rw [if_pos ⟨trivial, trivial, Nat.le_refl _, by omega, (fun h => by subst h; simpa using hp), flat_live s lm⟩]
  simp only [Option.map_some, Nat.min_self, Nat.sub_zero, Nat.zero_mul]
  have h1 : (lm.flatMap (enc s)).take (l.length * s.cells) = lm.flatMap (enc s) := List.take_of_length_le (by rw [flat_len, hl]; exact Nat.le_refl _)
  have h2 : splice 0 (lm.flatMap (enc s)) (l.flatMap (enc s)) = lm.flatMap (enc s) := by
    unfold splice
    rw [List.take_zero, List.nil_append, List.drop_of_length_le (by rw [flat_len, flat_len, hl]; omega), List.append_nil]
  rw [h1, h2]
  rfl

/-- copy over a whole row -/
theorem ob_copy_all {s : Sh} {t u el ty : TypeId} {pu puy : Bool} {id : Nat} {l lm : List s.T} {y : C} (hH : H[id]? = some (tr s pu l)) (hy : slCells H s.cells y = some (lm.flatMap (enc s), lm.length, puy)) (hp : (!pu || puy) = true)
    (he : elemT P t = some el) (hs : szT P el = some s.cells) (hl : lm.length = l.length) :
    Ob P A [.y (.one (.row id l.length 0 l.length false)), .y (.one y)] H (.call { callee := .builtin .copy, args := #[.tmp 0, .tmp 1], argTypes := #[t, u] }) ty (.y (.one (.sc (.int .i64 lm.length)))) (H.set id (tr s pu lm)) := by
  refine ⟨0, ?_⟩
  show ((some (C.row id l.length 0 l.length false)).bind fun d => (some y).bind fun s => (copyX P H t d s).map fun (n, H) => (X.y (.one (.sc (goInt n))), H)) = _
  simp only [Option.bind_some]
  unfold copyX
  simp only [he, hs, hy, hH, Option.bind_some]
  rw [if_pos ⟨trivial, trivial, Nat.le_refl _, by omega, (fun h => by subst h; simpa using hp), flat_live s lm⟩]
  simp only [Option.map_some, hl, Nat.min_self, Nat.sub_zero, Nat.zero_mul]
  have h1 : (lm.flatMap (enc s)).take (l.length * s.cells) = lm.flatMap (enc s) := List.take_of_length_le (by rw [flat_len, hl]; exact Nat.le_refl _)
  have h2 : splice 0 (lm.flatMap (enc s)) (l.flatMap (enc s)) = lm.flatMap (enc s) := by
    unfold splice
    rw [List.take_zero, List.nil_append, List.drop_of_length_le (by rw [flat_len, flat_len, hl]; omega), List.append_nil]
  rw [h1, h2]
  simp only [tr, hl]
  rfl
/-! ### Masked operations -/
theorem ob_ins {vals : List X} {Hm : Heap} {op : Op} {ty : TypeId} {v : X} (h : Ob P A vals Hm op ty v Hm) :
    ∃ k, (opX P A (runX P A k) (ev (vals.zipIdx.map fun p => (p.2, p.1))) Hm { dst := none, op := op, type := ty, pos := "", after := #[], guard := none }).map (fun r => (r.1, H)) = some (v, H) := by
  obtain ⟨k, h⟩ := h
  exact ⟨k, by rw [h]; rfl⟩
theorem ob_out {vals : List X} {M : List Nat} {Hm H' H2 : Heap} {op : Op} {ty : TypeId} {v : X} (hm : mayHide H M = true) (h : Ob P A vals Hm op ty v H') (hb : backH M H H' = H2) :
    ∃ k, (if mayHide H M then (opX P A (runX P A k) (ev (vals.zipIdx.map fun p => (p.2, p.1))) Hm { dst := none, op := op, type := ty, pos := "", after := #[], guard := none }).map (fun r => (r.1, backH M H r.2)) else none) = some (v, H2) := by
  obtain ⟨k, h⟩ := h
  exact ⟨k, by rw [if_pos hm, h]; simp only [Option.map_some, hb]⟩
/-- A call of a function value. -/
theorem ob_callv {g : FuncId} {first cap : List C} {vals : List X} {xs0 res : List Y} {ats : Array TypeId} {ty : TypeId} {v : X} {H' : Heap} (args : List Operand) (hp : A.pureFn g = false)
    (ha : (args.map (ev ((X.y (.one (.fn (.func g) first cap)) :: vals).zipIdx.map fun p => (p.2, p.1)))).mapM X.y? = some xs0)
    (hc : Runs P A g (first.map .one ++ xs0 ++ cap.map .one) H res H') (hv : pack res = v) : Ob P A (X.y (.one (.fn (.func g) first cap)) :: vals) H (.call { callee := .value (.tmp 0), args := args.toArray, argTypes := ats }) ty v H' := by
  obtain ⟨k, hk⟩ := Runs.call hp hc
  refine ⟨k, ?_⟩
  subst hv
  show ((args.toArray.toList.map _).mapM X.y?).bind _ = _
  rw [show args.toArray.toList = args from rfl, ha]
  simp only [Option.bind_some]
  exact hk

/-! ### A call whose garbage goes -/
theorem Runs.mkG {g : FuncId} {fn : Func} {c : Code} {args rs : List Y} {x : Ex} {e1 : Env} {H1 : Heap} (hm : A.may g = true) (hf : P.funcs[g]? = some fn) (hb : fn.body = some c) (hl : args.length ≤ fn.ntmps)
    (h : Does P A g c (args.zipIdx.map fun p => (p.2, .y p.1)) H x e1 H1) (hx : x = .normal ∨ x = .ret) (hr : fn.results.toList.mapM (resX P e1 H1) = some rs) : Runs P A g args H rs (gcX (A.gc g) H.length rs H1) := by
  obtain ⟨k, h⟩ := h
  refine ⟨k + 1, ?_⟩
  unfold runX
  rw [if_pos hm, hf]
  simp only [Option.bind_some, hb, if_pos hl, h]
  rcases hx with rfl | rfl <;> simp only [hr, Option.map_some]
theorem Runs.ofG {f : FuncId} {fn : Func} {c : Code} {args : List Y} {R : List Y → Heap → Prop} (hf : P.funcs[f]? = some fn) (hb : fn.body = some c) (hm : (A.may f && decide (args.length ≤ fn.ntmps)) = true)
    (e0 : Env) (he : (args.zipIdx.map fun p => (p.2, X.y p.1)) = e0)
    (h : Wp P A f c e0 H fun x e H1 => (x = .normal ∨ x = .ret) ∧ ∃ rs, fn.results.toList.mapM (resX P e H1) = some rs ∧ R rs (gcX (A.gc f) H.length rs H1)) : ∃ rs H', Runs P A f args H rs H' ∧ R rs H' := by
  subst he
  obtain ⟨x, e1, H1, h1, h2, rs, h3, h4⟩ := h
  simp only [Bool.and_eq_true, decide_eq_true_eq] at hm
  exact ⟨rs, _, Runs.mkG hm.1 hf hb hm.2 h1 h2 h3, h4⟩
end
end Go.Lg
