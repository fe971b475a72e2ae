/-
  X, part 21: WHAT OPERATIONS ON THE CALL's OWN SLICES OWE: rows whose contents stand for any list.
-/
import Derived.Test.YtpoaaggjgmdpdaaX19
namespace Go.Lg
section
variable {P : Program} {A : Ann} {H : Heap}

/-- A row that holds a typed list, all of it in use. -/
abbrev tr (s : Sh) (pu : Bool) (l : List s.T) : O := .row pu true 0 l.length s.cells (l.flatMap (enc s))

theorem ob_make0 {t el ty : TypeId} {sz by_ : Nat} {z : List C} {c : Int} (he : elemT P t = some el) (hs : szT P el = some sz) (hb : byT P el = some by_) (hz : zeroC P el = some z)
    (hk : (Nat.ble 1 sz && (!A.pureSl t || z.all C.imm)) = true) (h0 : 0 ≤ c) (h1 : c ≤ 9223372036854775807) (h2 : (by_ : Int) * c ≤ 281474976710656) :
    Ob P A [.y (.one (.sc (.int .i64 0))), .y (.one (.sc (.int .i64 c)))] H (.makeSlice t (.tmp 0) (.tmp 1)) ty (.y (.one (.row H.length 0 0 0 false))) (H ++ [.row (A.pureSl t) true 0 0 sz []]) := by
  simp only [Bool.and_eq_true, Bool.or_eq_true, Bool.not_eq_true'] at hk
  refine ⟨0, ?_⟩
  show ((elemT P t).bind fun el => (szT P el).bind fun sz => (byT P el).bind fun by_ => (zeroC P el).bind fun z => (some (0 : Int)).bind fun l => (some c).bind fun cp =>
    if 0 < sz ∧ 0 ≤ l ∧ l ≤ cp ∧ cp ≤ maxLen ∧ by_ * cp ≤ 281474976710656 ∧ (A.pureSl t → z.all C.imm) then
      some (let n := l.toNat; let (c, H) := rowNew H (A.pureSl t) sz n ((List.range (n * sz)).map fun i => z.getD (i % sz) .dead); (X.y (.one c), H)) else none) = _
  simp only [he, hs, hb, hz, Option.bind_some]
  rw [if_pos ⟨Nat.le_of_ble_eq_true hk.1, by omega, h0, by unfold maxLen; omega, h2, fun hp => by rcases hk.2 with h | h; (rw [hp] at h; cases h); exact h⟩]
  simp [rowNew]

theorem enc_live : ∀ (s : Sh) (x : s.T), (enc s x).all C.live = true
  | .int _, _ => rfl
  | .bool, _ => rfl
  | .str, _ => rfl
  | .sl _ _, _ => rfl
  | .nil, _ => rfl
  | .pr a b, x => by simp only [enc, List.all_append, enc_live a x.1, enc_live b x.2, Bool.and_true]
theorem flat_live (s : Sh) (l : List s.T) : (l.flatMap (enc s)).all C.live = true := by
  rw [List.all_eq_true]
  intro c hc
  obtain ⟨x, _, hx⟩ := List.mem_flatMap.1 hc
  exact List.all_eq_true.1 (enc_live s x) c hx

theorem sub_all {α : Type} (l : List α) {n : Nat} (h : n = l.length) : sub 0 n l = l := by
  subst h; simp [sub]

theorem ob_append {s : Sh} {t u el ty : TypeId} {by_ : Nat} {z : List C} {pu b nil capd : Bool} {id : Nat} {l m : List s.T} (hH : H[id]? = some (tr s pu l))
    (he : elemT P t = some el) (hu : (elemT P u).isSome = true) (hs : szT P el = some s.cells) (h0 : Nat.ble 1 s.cells = true) (hb : byT P el = some by_) (hz : zeroC P el = some z)
    (h1 : (l.length : Int) + m.length ≤ 9223372036854775807) (h2 : ((l.length : Int) + m.length) * by_ ≤ 140737488355328) :
    Ob P A [.y (.one (.row id l.length 0 l.length false)), .y (.one (.sl b nil capd (m.flatMap (enc s)) m.length))] H (.call { callee := .builtin .append, args := #[.tmp 0, .tmp 1], argTypes := #[t, u] }) ty
      (.y (.one (.row id (l ++ m).length 0 (l ++ m).length false))) (H.set id (tr s pu (l ++ m))) := by
  refine ⟨0, ?_⟩
  show (if (elemT P u).isSome then (some (C.row id l.length 0 l.length false)).bind fun s' => (some (C.sl b nil capd (m.flatMap (enc s)) m.length)).bind fun z => (appendX P A H t s' z).map fun (c, H) => (X.y (.one c), H) else none) = _
  rw [if_pos hu]
  simp only [Option.bind_some]
  unfold appendX
  simp only [he, hs, hb, hz, Option.bind_some]
  rw [if_pos (show 0 < s.cells from Nat.le_of_ble_eq_true h0)]
  have hn : slCells H s.cells (.sl b nil capd (m.flatMap (enc s)) m.length) = some (m.flatMap (enc s), m.length, true) := by simp only [slCells, flat_len, if_true]
  have ho : slCells H s.cells (.row id l.length 0 l.length false) = some (l.flatMap (enc s), l.length, pu) := by
    simp only [slCells, hH]
    rw [if_pos (by simp)]
    simp only [Nat.sub_zero, Nat.zero_mul, sub_all _ (flat_len s l).symm]
  simp only [hn, ho, Option.bind_some]
  by_cases hm : m.length = 0
  · have : m = [] := List.eq_nil_of_length_eq_zero hm
    subst this
    rw [if_pos List.length_nil]
    simp only [Option.map_some, List.append_nil]
    have hset : H.set id (tr s pu l) = H := by
      obtain ⟨hlt, hget⟩ := List.getElem?_eq_some_iff.1 hH
      rw [← hget]; exact List.set_getElem_self hlt
    rw [hset]
  · rw [if_neg hm, if_pos ⟨flat_live s m, by unfold maxLen; omega, by unfold maxBytes; exact Int.ofNat_le.1 (by rw [Int.natCast_mul, Int.natCast_add]; exact h2)⟩]
    simp only [Bool.not_true, Bool.and_false, Bool.false_eq_true, if_false, Option.bind_some, hH]
    rw [if_pos ⟨trivial, by simp, trivial⟩]
    simp only [Option.map_some, tr, List.length_append, List.flatMap_append, C.isRow, if_true]

theorem ob_append_new {s : Sh} {t u el ty : TypeId} {by_ : Nat} {z : List C} {b' nil' b nil capd : Bool} {l m : List s.T}
    (he : elemT P t = some el) (hu : (elemT P u).isSome = true) (hs : szT P el = some s.cells) (h0 : Nat.ble 1 s.cells = true) (hb : byT P el = some by_) (hz : zeroC P el = some z)
    (hm : m.length ≠ 0) (h1 : (l.length : Int) + m.length ≤ 9223372036854775807) (h2 : ((l.length : Int) + m.length) * by_ ≤ 140737488355328) :
    Ob P A [.y (.one (.sl b' nil' true (l.flatMap (enc s)) l.length)), .y (.one (.sl b nil capd (m.flatMap (enc s)) m.length))] H (.call { callee := .builtin .append, args := #[.tmp 0, .tmp 1], argTypes := #[t, u] }) ty
      (.y (.one (.row H.length (l ++ m).length 0 (l ++ m).length false))) (H ++ [tr s (A.pureSl t) (l ++ m)]) := by
  refine ⟨0, ?_⟩
  show (if (elemT P u).isSome then (some (C.sl b' nil' true (l.flatMap (enc s)) l.length)).bind fun s' => (some (C.sl b nil capd (m.flatMap (enc s)) m.length)).bind fun z => (appendX P A H t s' z).map fun (c, H) => (X.y (.one c), H) else none) = _
  rw [if_pos hu]
  simp only [Option.bind_some]
  unfold appendX
  simp only [he, hs, hb, hz, Option.bind_some]
  rw [if_pos (show 0 < s.cells from Nat.le_of_ble_eq_true h0)]
  have hn : ∀ (b nil capd : Bool) (m : List s.T), slCells H s.cells (.sl b nil capd (m.flatMap (enc s)) m.length) = some (m.flatMap (enc s), m.length, true) := by intro b nil capd m; simp only [slCells, flat_len, if_true]
  simp only [hn, Option.bind_some]
  rw [if_neg hm, if_pos ⟨flat_live s m, by unfold maxLen; omega, by unfold maxBytes; exact Int.ofNat_le.1 (by rw [Int.natCast_mul, Int.natCast_add]; exact h2)⟩]
  simp only [C.isRow, Bool.false_eq_true, if_false, Bool.not_true, Bool.and_false, Option.bind_some, if_true, Option.map_some, rowNew, tr, List.length_append, List.flatMap_append]

theorem ob_len_row {s : Sh} {t ty : TypeId} {pu capd : Bool} {id off n : Nat} {l : List s.T} {e : Int} (hH : H[id]? = some (tr s pu l)) (ht : (elemT P t).isSome = true) (hn : (n : Int) = e) :
    Ob P A [.y (.one (.row id l.length off n capd))] H (.call { callee := .builtin .len, args := #[.tmp 0], argTypes := #[t] }) ty (.y (.one (.sc (.int .i64 e)))) H := by
  refine ⟨0, ?_⟩
  subst hn
  show (match H[id]? with | some (.row _ _ _ st' _ _) => if l.length = st' ∧ ((#[t] : Array TypeId)[0]?.bind (elemT P)).isSome then some (X.y (.one (.sc (goInt n))), H) else none | _ => none) = _
  rw [hH]
  simp only
  rw [if_pos ⟨trivial, by simpa using ht⟩]
  rfl

theorem ob_slice_row {s : Sh} {t el ty : TypeId} {pu : Bool} {id off n : Nat} {l : List s.T} {a b : Int} {n' : Nat} (hH : H[id]? = some (tr s pu l)) (he : elemT P t = some el) (hs : szT P el = some s.cells)
    (h0 : 0 ≤ a) (h1 : a ≤ b) (h2 : (off : Int) + b ≤ l.length) (hn : ((b - a : Int)).toNat = n') :
    Ob P A [.y (.one (.row id l.length off n false)), .y (.one (.sc (.int .i64 a))), .y (.one (.sc (.int .i64 b)))] H (.slice t (.tmp 0) (some (.tmp 1)) (some (.tmp 2)) none) ty (.y (.one (.row id l.length (off + a.toNat) n' false))) H := by
  refine ⟨0, ?_⟩
  subst hn
  show ((sliceX P H t (.y (.one (.row id l.length off n false))) (some (.y (.one (.sc (.int .i64 a))))) (some (.y (.one (.sc (.int .i64 b))))) none).map fun v => (v, H)) = _
  unfold sliceX
  simp only [hH, he, hs, Option.bind_some, optI, X.int?, capI]
  rw [if_pos ⟨h0, h1, by simp; omega, (fun _ h => by cases h), trivial, trivial, Nat.zero_le _⟩]
  rfl

theorem ob_index_row {s : Sh} {t el ty : TypeId} {pu capd : Bool} {id off n : Nat} {l : List s.T} {i : Int} (hH : H[id]? = some (tr s pu l)) (hu : P.underlying t = some (.slice el)) (hs : szT P el = some s.cells)
    (h0 : 0 ≤ i) (h1 : i < n) (h2 : off + n ≤ l.length) :
    Ob P A [.y (.one (.row id l.length off n capd)), .y (.one (.sc (.int .i64 i)))] H (.indexAddr t (.tmp 0) (.tmp 1)) ty (.y (.one (.ra id l.length ((off + i.toNat) * s.cells)))) H := by
  refine ⟨0, ?_⟩
  show ((indexAddrX P H t (.row id l.length off n capd) i).map fun c => (X.y (.one c), H)) = _
  unfold indexAddrX
  simp only [hu, hs, hH, Option.bind_some]
  rw [if_pos ⟨h0, h1, trivial, trivial, Nat.zero_le _, h2⟩]
  rfl

theorem ob_slice_row0 {s : Sh} {t el ty : TypeId} {pu : Bool} {id off n : Nat} {l : List s.T} {b : Int} {n' : Nat} (hH : H[id]? = some (tr s pu l)) (he : elemT P t = some el) (hs : szT P el = some s.cells)
    (h1 : 0 ≤ b) (h2 : (off : Int) + b ≤ l.length) (hn : (b : Int).toNat = n') :
    Ob P A [.y (.one (.row id l.length off n false)), .y (.one (.sc (.int .i64 b)))] H (.slice t (.tmp 0) none (some (.tmp 1)) none) ty (.y (.one (.row id l.length off n' false))) H := by
  refine ⟨0, ?_⟩
  subst hn
  show ((sliceX P H t (.y (.one (.row id l.length off n false))) none (some (.y (.one (.sc (.int .i64 b))))) none).map fun v => (v, H)) = _
  unfold sliceX
  simp only [hH, he, hs, Option.bind_some, optI, X.int?, capI]
  rw [if_pos ⟨Int.le_refl _, h1, by simp; omega, (fun _ h => by cases h), trivial, trivial, Nat.zero_le _⟩]
  simp

theorem flat_take {s : Sh} : ∀ {l : List s.T} {j : Nat}, (l.flatMap (enc s)).take (j * s.cells) = (l.take j).flatMap (enc s) := by
  intro l
  induction l with
  | nil => intro j; simp
  | cons y l ih =>
    intro j
    cases j with
    | zero => simp
    | succ j =>
      rw [List.flatMap_cons, Nat.add_mul, Nat.one_mul, List.take_append, enc_len, List.take_of_length_le (by rw [enc_len]; omega), show j * s.cells + s.cells - s.cells = j * s.cells by omega, ih]
      rfl
theorem flat_drop {s : Sh} : ∀ {l : List s.T} {j : Nat}, (l.flatMap (enc s)).drop (j * s.cells) = (l.drop j).flatMap (enc s) := by
  intro l
  induction l with
  | nil => intro j; simp
  | cons y l ih =>
    intro j
    cases j with
    | zero => simp
    | succ j =>
      rw [List.flatMap_cons, Nat.add_mul, Nat.one_mul, List.drop_append, enc_len, List.drop_of_length_le (by rw [enc_len]; omega), show j * s.cells + s.cells - s.cells = j * s.cells by omega, ih]
      rfl

theorem ob_load_ra {s : Sh} {t ty : TypeId} {pu : Bool} {id j o n : Nat} {l : List s.T} {x : s.T} {v : Y} (hH : H[id]? = some (tr s pu l)) (ht : szT P t = some n) (hn : (Nat.ble 1 n && Nat.ble (o + n) s.cells) = true) (hx : l[j]? = some x)
    (hv : mkY (isAggT P t) (sub o n (enc s x)) = some v) : Ob P A [.y (.one (.ra id l.length (j * s.cells + o)))] H (.load t (.tmp 0)) ty (.y v) H := by
  simp only [Bool.and_eq_true, Nat.ble_eq] at hn
  have hlt : j < l.length := (List.getElem?_eq_some_iff.1 hx).1
  have hle : (j + 1) * s.cells ≤ l.length * s.cells := Nat.mul_le_mul_right _ hlt
  rw [Nat.add_mul, Nat.one_mul] at hle
  refine ⟨0, ?_⟩
  show ((some (C.ra id l.length (j * s.cells + o))).bind fun c => (szT P t).bind fun n => if 0 < n then (ldCells H c n).bind fun cs => (mkY (isAggT P t) cs).map fun v => (X.y v, H) else none) = _
  simp only [Option.bind_some, ht]
  rw [if_pos (show 0 < n by omega)]
  unfold ldCells
  simp only [hH]
  rw [if_pos ⟨trivial, by simp, by rw [flat_len]; omega⟩]
  simp only [Option.bind_some, Nat.zero_mul, Nat.sub_zero]
  have : sub (j * s.cells + o) n (l.flatMap (enc s)) = sub o n (enc s x) := by
    unfold sub
    rw [← List.drop_drop, drop_enc hx, List.drop_append_of_le_length (by rw [enc_len]; omega), List.take_append_of_le_length (by rw [List.length_drop, enc_len]; omega)]
  rw [this, hv]
  rfl

theorem ob_store_ra {s : Sh} {t ty : TypeId} {id j : Nat} {l : List s.T} {x' : s.T} {v : Y} {pu : Bool} (hH : H[id]? = some (tr s pu l)) (ht : szT P t = some s.cells) (hj : j < l.length) (hv : v.cells = enc s x') (himm : immL H (enc s x') = some (enc s x', H)) :
    Ob P A [.y (.one (.ra id l.length (j * s.cells))), .y v] H (.store t (.tmp 0) (.tmp 1)) ty .undef (H.set id (tr s pu (l.set j x'))) := by
  have hle : (j + 1) * s.cells ≤ l.length * s.cells := Nat.mul_le_mul_right _ hj
  rw [Nat.add_mul, Nat.one_mul] at hle
  have hsp : splice (j * s.cells) (enc s x') (l.flatMap (enc s)) = (l.set j x').flatMap (enc s) := by
    unfold splice
    rw [enc_len, flat_take, show j * s.cells + s.cells = (j + 1) * s.cells by rw [Nat.add_mul, Nat.one_mul], flat_drop, List.set_eq_take_append_cons_drop, if_pos hj]
    simp
  refine ⟨0, ?_⟩
  show ((some (C.ra id l.length (j * s.cells))).bind fun c => (some v).bind fun v => if szT P t = some v.cells.length then (stCells H c v.cells).map fun H => (X.undef, H) else none) = _
  simp only [Option.bind_some, hv]
  rw [if_pos (by rw [ht, enc_len])]
  unfold stCells
  rw [if_pos (enc_live s x')]
  simp only [hH]
  cases pu with
  | false =>
    simp only
    rw [if_pos ⟨trivial, by simp, by rw [flat_len, enc_len]; omega⟩]
    simp only [Nat.zero_mul, Nat.sub_zero, Option.map_some, hsp]
    simp only [tr, List.length_set]
  | true =>
    simp only [himm, Option.bind_some, hH]
    rw [if_pos ⟨trivial, by simp, by rw [flat_len, enc_len]; omega⟩]
    simp only [Nat.zero_mul, Nat.sub_zero, Option.map_some, hsp]
    simp only [tr, List.length_set]

theorem snap_row {s : Sh} {id off n : Nat} {capd : Bool} {l : List s.T} (hH : H[id]? = some (tr s true l)) (h : off + n ≤ l.length) :
    snapY H (.one (.row id l.length off n capd)) = some (.one (.sl true false capd (((l.drop off).take n).flatMap (enc s)) ((l.drop off).take n).length)) := by
  unfold snapY snapC
  simp only [hH]
  rw [if_pos ⟨trivial, Nat.zero_le _, h⟩]
  simp only [Option.map_some, Nat.sub_zero, sub, flat_drop, flat_take]
  rw [List.length_take, List.length_drop, Nat.min_eq_left (by omega)]
theorem snap_row' {s : Sh} {id off n : Nat} {capd : Bool} {l m : List s.T} (hH : H[id]? = some (tr s true l)) (h : off + n ≤ l.length) (hm : (l.drop off).take n = m) :
    snapY H (.one (.row id l.length off n capd)) = some (.one (.sl true false capd (m.flatMap (enc s)) m.length)) := by
  subst hm; exact snap_row hH h
theorem ob_call {g : FuncId} {vals : List X} {xs0 res : List Y} {ats : Array TypeId} {ty : TypeId} {v : X} {H' : Heap} (args : List Operand) (hp : A.pureFn g = false) (ha : (args.map (ev (vals.zipIdx.map fun p => (p.2, p.1)))).mapM X.y? = some xs0)
    (hc : Runs P A g xs0 H res H') (hv : pack res = v) : Ob P A vals H (.call { callee := .value (.func g), args := args.toArray, argTypes := ats }) ty v H' := by
  obtain ⟨k, hk⟩ := Runs.call hp hc
  refine ⟨k, ?_⟩
  subst hv
  show ((args.toArray.toList.map _).mapM X.y?).bind _ = _
  rw [show args.toArray.toList = args from rfl, ha]
  simp only [Option.bind_some, List.map_nil, List.nil_append, List.append_nil]
  exact hk
theorem runs_of {g : FuncId} {args res : List Y} {H' : Heap} (h : ∃ rs H1, Runs P A g args H rs H1 ∧ (rs = res ∧ H1 = H')) : Runs P A g args H res H' := by
  obtain ⟨rs, H1, h1, rfl, rfl⟩ := h
  exact h1
theorem snap_cons {y y' : Y} {l l' : List Y} (h : snapY H y = some y') (hl : l.mapM (snapY H) = some l') : (y :: l).mapM (snapY H) = some (y' :: l') := by
  rw [List.mapM_cons, h]; simp [hl]
theorem snap_nil : ([] : List Y).mapM (snapY H) = some [] := rfl
end
end Go.Lg
