/-
  X, part 31: rows of slices, each of a row of its own.
-/
import Derived.Test.YtpoaaggjgmdpdaaX30
namespace Go.Lg

def winC (s : Sh) (capd : Bool) (p : Nat × List s.T) : C := rowC p.1 0 p.2.length 0 p.2.length capd
abbrev rowsO (s : Sh) (capd : Bool) (ws : List (Nat × List s.T)) : O := .row false true 0 (0 + ws.length) 1 (ws.map (winC s capd))
def bigP (s : Sh) (ws : List (Nat × List s.T)) : HP := SL (ws.map fun p => pts p.1 (rowO s true 0 p.2))
/-- nil, or a row of slices with their rows -/
def winsP (s : Sh) (capd : Bool) (c : C) (ws : List (Nat × List s.T)) : HP := fun h =>
  (c = nilC ∧ ws = []) ∨ ∃ k, c = rowC k 0 ws.length 0 ws.length false ∧ star (pts k (rowsO s capd ws)) (bigP s ws) h
/-- nil, or a whole row -/
def wholeP (s : Sh) (c : C) (l : List s.T) : HP := fun h =>
  (c = nilC ∧ l = []) ∨ ∃ k, c = rowC k 0 l.length 0 l.length false ∧ h k = some (rowO s true 0 l)

theorem wins_open {cs : List HP} {H : Heap} {s : Sh} {capd : Bool} {c : C} {ws : List (Nat × List s.T)} (h : On cs H) (j : Nat) (hj : cs[j]? = some (winsP s capd c ws)) :
    (c = nilC ∧ ws = [] ∧ On (cs.eraseIdx j) H) ∨ ∃ k, c = rowC k 0 ws.length 0 ws.length false ∧ On (cs.eraseIdx j ++ [pts k (rowsO s capd ws), bigP s ws]) H := by
  refine On.alt j hj h fun h' b => ?_
  rcases b with ⟨rfl, rfl⟩ | ⟨k, rfl, b⟩
  · exact ⟨[], trivial, fun hh => .inl ⟨rfl, rfl, by simpa using hh⟩⟩
  · exact ⟨_, SL_two b, fun hh => .inr ⟨k, rfl, hh⟩⟩
theorem whole_open {cs : List HP} {H : Heap} {s : Sh} {c : C} {l : List s.T} (h : On cs H) (j : Nat) (hj : cs[j]? = some (wholeP s c l)) :
    (c = nilC ∧ l = [] ∧ On (cs.eraseIdx j) H) ∨ ∃ k, c = rowC k 0 l.length 0 l.length false ∧ On (cs.eraseIdx j ++ [pts k (rowO s true 0 l)]) H := by
  refine On.alt j hj h fun h' b => ?_
  rcases b with ⟨rfl, rfl⟩ | ⟨k, rfl, b⟩
  · exact ⟨[], trivial, fun hh => .inl ⟨rfl, rfl, by simpa using hh⟩⟩
  · exact ⟨_, SL_one b, fun hh => .inr ⟨k, rfl, hh⟩⟩
theorem wins_row {s : Sh} {capd : Bool} {k : Nat} {ws : List (Nat × List s.T)} {h : Frag} (x : SL [pts k (rowsO s capd ws), bigP s ws] h) : winsP s capd (rowC k 0 ws.length 0 ws.length false) ws h := by
  obtain ⟨h1, h2, hd, s1, s2, a, h3, h4, hd', s3, s4, b, _⟩ := x
  have hd3 : ∀ i, h1 i = none ∨ h3 i = none := by
    intro i
    rcases hd i with e | e
    · exact .inl e
    · right
      cases h3i : h3 i with
      | none => rfl
      | some o => rw [s3 i o h3i] at e; cases e
  exact .inr ⟨k, rfl, h1, h3, hd3, s1, fun i o x => s2 i o (s3 i o x), a, b⟩
theorem whole_row {s : Sh} {k : Nat} {l : List s.T} {h : Frag} (x : SL [pts k (rowO s true 0 l)] h) : wholeP s (rowC k 0 l.length 0 l.length false) l h := by
  obtain ⟨h1, h2, hd, s1, s2, a, b⟩ := x
  exact .inr ⟨k, rfl, s1 _ _ a⟩
theorem On.addWhole {s : Sh} {cs : List HP} {H : Heap} (h : On cs H) : On (cs ++ [wholeP s nilC []]) H :=
  SL_app' ⟨_, fun _ => none, fun _ => .inr rfl, fun _ _ x => x, fun _ _ x => by simp at x, h, SL_one (.inl ⟨rfl, rfl⟩)⟩
theorem On.addWins {s : Sh} {capd : Bool} {cs : List HP} {H : Heap} (h : On cs H) : On (cs ++ [winsP s capd nilC []]) H :=
  SL_app' ⟨_, fun _ => none, fun _ => .inr rfl, fun _ _ x => x, fun _ _ x => by simp at x, h, SL_one (.inl ⟨rfl, rfl⟩)⟩
theorem On.addBig {s : Sh} {cs : List HP} {H : Heap} (h : On cs H) : On (cs ++ [bigP s []]) H :=
  SL_app' ⟨_, fun _ => none, fun _ => .inr rfl, fun _ _ x => x, fun _ _ x => by simp at x, h, SL_one trivial⟩

/-- a window's row among all -/
theorem On.win_at {cs : List HP} {H : Heap} {s : Sh} {ws : List (Nat × List s.T)} (h : On cs H) (j : Nat) (hj : cs[j]? = some (bigP s ws)) {i : Nat} {p : Nat × List s.T} (hp : ws[i]? = some p) : H[p.1]? = some (rowO s true 0 p.2) := by
  obtain ⟨h1, h2, hd, s1, s2, a, b⟩ := SL_perm (perm_erase hj) h
  exact s1 _ _ (SL_mem (List.mem_map.2 ⟨p, List.mem_of_getElem? hp, rfl⟩) a)
theorem SL_perm' {cs ds : List HP} {H : Heap} (p : cs.Perm ds) (h : On cs H) : On ds H := SL_perm p h
theorem map_perm_erase {α : Type} (f : α → HP) {ws : List α} {i : Nat} {p : α} (hp : ws[i]? = some p) : (ws.map f).Perm (f p :: (ws.eraseIdx i).map f) := by
  have : (ws.map f)[i]? = some (f p) := by rw [List.getElem?_map, hp]; rfl
  have h := perm_erase this
  have e : ∀ (l : List α) (i : Nat), (l.map f).eraseIdx i = (l.eraseIdx i).map f := by
    intro l
    induction l with
    | nil => intro i; rfl
    | cons a l ih => intro i; cases i with
      | zero => rfl
      | succ i => simp [ih]
  rwa [e] at h
/-- one window is taken out -/
theorem On.win_out {cs : List HP} {H : Heap} {s : Sh} {ws : List (Nat × List s.T)} (h : On cs H) (j : Nat) (hj : cs[j]? = some (bigP s ws)) {i : Nat} {p : Nat × List s.T} (hp : ws[i]? = some p) :
    On (cs.eraseIdx j ++ [bigP s (ws.eraseIdx i), pts p.1 (rowO s true 0 p.2)]) H := by
  obtain ⟨h1, h2, hd, s1, s2, a, b⟩ := SL_perm (perm_erase hj) h
  have a' := SL_perm (map_perm_erase (fun p : Nat × List s.T => pts p.1 (rowO s true 0 p.2)) hp) a
  exact SL_app' ⟨h2, h1, fun i => (hd i).symm, s2, s1, b, SL_two (star_comm a')⟩
/-- and put back, with what stands there now -/
theorem On.win_in {cs : List HP} {H : Heap} {s : Sh} {ws : List (Nat × List s.T)} {i : Nat} {p : Nat × List s.T} {L : List s.T} (is rest : List Nat) (hq : (rest ++ is).isPerm (List.range cs.length) = true)
    (he : (is.map fun i => cs.getD i emp) = [bigP s (ws.eraseIdx i), pts p.1 (rowO s true 0 L)]) (hp : ws[i]? = some p) (h : On cs H) : On (rest.map (fun i => cs.getD i emp) ++ [bigP s (ws.set i (p.1, L))]) H := by
  refine On.shut is rest hq (fun h' x => ?_) h
  rw [he] at x
  obtain ⟨h1, h2, hd, s1, s2, a, h3, h4, hd', s3, s4, b, _⟩ := x
  have hlt := (List.getElem?_eq_some_iff.1 hp).1
  have hs : (ws.set i (p.1, L))[i]? = some (p.1, L) := by simp [hlt]
  have he' : (ws.set i (p.1, L)).eraseIdx i = ws.eraseIdx i := by rw [List.eraseIdx_set_eq]
  refine SL_perm (map_perm_erase (fun p : Nat × List s.T => pts p.1 (rowO s true 0 p.2)) hs).symm ?_
  rw [he']
  exact ⟨h2, h1, fun i => (hd i).symm, s2, s1, s3 _ _ b, a⟩
/-- one more -/
theorem big_snoc {s : Sh} {ws : List (Nat × List s.T)} {k : Nat} {L : List s.T} {h : Frag} (x : SL [bigP s ws, pts k (rowO s true 0 L)] h) : bigP s (ws ++ [(k, L)]) h := by
  unfold bigP
  rw [List.map_append]
  obtain ⟨h1, h2, hd, s1, s2, a, b⟩ := x
  exact SL_app' ⟨h1, h2, hd, s1, s2, a, b⟩
theorem win_of {s : Sh} {capd : Bool} {us ws : List (Nat × List s.T)} (h : us.map (winC s capd) = ws.map (winC s capd)) {i : Nat} (hi : i < ws.length) : ∃ q p, us[i]? = some q ∧ ws[i]? = some p ∧ winC s capd p = winC s capd q := by
  have hl : us.length = ws.length := by have := congrArg List.length h; simpa using this
  refine ⟨us[i]'(by omega), ws[i], List.getElem?_eq_getElem _, List.getElem?_eq_getElem _, ?_⟩
  have := congrArg (fun l : List C => l[i]?) h
  simp only [List.getElem?_map, List.getElem?_eq_getElem (show i < us.length by omega), List.getElem?_eq_getElem hi, Option.map_some, Option.some.injEq] at this
  exact this.symm
theorem win_set {s : Sh} {capd : Bool} {us ws : List (Nat × List s.T)} (h : us.map (winC s capd) = ws.map (winC s capd)) {i : Nat} {q : Nat × List s.T} {L : List s.T} (hq : us[i]? = some q) (hL : L.length = q.2.length) : (us.set i (q.1, L)).map (winC s capd) = ws.map (winC s capd) := by
  rw [← h, List.map_set]
  have : winC s capd (q.1, L) = winC s capd q := by unfold winC; simp only [hL]
  rw [this]
  apply List.ext_getElem?
  intro j
  rw [List.getElem?_set]
  split
  · rename_i e; subst e
    split
    · rw [List.getElem?_map, hq]; rfl
    · rename_i hlt; rw [List.getElem?_eq_none (by simpa using hlt)]
  · rfl

section
variable {P : Program} {A : Ann} {H : Heap}
theorem slCells_rows {s : Sh} {cp : Bool} {k : Nat} {ws : List (Nat × List s.T)} (hH : H[k]? = some (rowsO s cp ws)) : slCells H 1 (rowC k 0 ws.length 0 ws.length false) = some (ws.map (winC s cp), ws.length, false) := by
  simp only [slCells, hH]
  rw [if_pos ⟨trivial, trivial, by omega, by omega⟩]
  simp only [show 0 + 0 - 0 = 0 by omega, sub, Nat.mul_one, Nat.zero_mul, List.drop_zero]
  rw [List.take_of_length_le (by simp)]
theorem ow_len {s : Sh} {cp : Bool} {t ty : TypeId} {k : Nat} {ws : List (Nat × List s.T)} {e : Int} (hH : H[k]? = some (rowsO s cp ws)) (ht : (elemT P t).isSome = true) (hn : (ws.length : Int) = e) :
    Ob P A [.y (.one (rowC k 0 ws.length 0 ws.length false))] H (.call { callee := .builtin .len, args := #[.tmp 0], argTypes := #[t] }) ty (.y (.one (.sc (.int .i64 e)))) H := by
  refine ⟨0, ?_⟩
  subst hn
  show (match H[k]? with | some (.row _ _ _ st' _ _) => if 0 + ws.length = st' ∧ ((#[t] : Array TypeId)[0]?.bind (elemT P)).isSome then some (X.y (.one (.sc (goInt ws.length))), H) else none | _ => none) = _
  rw [hH]
  simp only
  rw [if_pos ⟨trivial, by simpa using ht⟩]
  rfl
theorem ow_index {s : Sh} {cp : Bool} {t el ty : TypeId} {k : Nat} {ws : List (Nat × List s.T)} {i : Int} (hH : H[k]? = some (rowsO s cp ws)) (hu : P.underlying t = some (.slice el)) (hs : szT P el = some 1) (h0 : 0 ≤ i) (h1 : i < ws.length) :
    Ob P A [.y (.one (rowC k 0 ws.length 0 ws.length false)), .y (.one (.sc (.int .i64 i)))] H (.indexAddr t (.tmp 0) (.tmp 1)) ty (.y (.one (.ra k (0 + ws.length) i.toNat))) H := by
  refine ⟨0, ?_⟩
  show ((indexAddrX P H t (rowC k 0 ws.length 0 ws.length false) i).map fun c => (X.y (.one c), H)) = _
  unfold indexAddrX
  simp only [hu, hs, hH, Option.bind_some]
  rw [if_pos ⟨h0, h1, trivial, trivial, by omega, by omega⟩]
  simp
theorem ow_load {s : Sh} {cp : Bool} {t ty : TypeId} {k i : Nat} {ws : List (Nat × List s.T)} {p q : Nat × List s.T} (hH : H[k]? = some (rowsO s cp ws)) (ht : szT P t = some 1) (ha : isAggT P t = false) (hp : ws[i]? = some p) (hq : winC s cp p = winC s cp q) :
    Ob P A [.y (.one (.ra k (0 + ws.length) i))] H (.load t (.tmp 0)) ty (.y (.one (rowC q.1 0 q.2.length 0 q.2.length cp))) H := by
  have hlt := (List.getElem?_eq_some_iff.1 hp).1
  refine ⟨0, ?_⟩
  show ((some (C.ra k (0 + ws.length) i)).bind fun c => (szT P t).bind fun n => if 0 < n then (ldCells H c n).bind fun cs => (mkY (isAggT P t) cs).map fun v => (X.y v, H) else none) = _
  simp only [Option.bind_some, ht]
  rw [if_pos (by omega)]
  unfold ldCells
  simp only [hH]
  rw [if_pos ⟨trivial, by omega, by simp; omega⟩]
  have : sub (i - 0 * 1) 1 (ws.map (winC s cp)) = [winC s cp q] := by
    unfold sub
    rw [show i - 0 * 1 = i by omega, List.drop_eq_getElem_cons (by simpa using hlt)]
    simp only [List.take_succ_cons, List.take_zero, List.getElem_map]
    rw [show ws[i] = p from (List.getElem?_eq_some_iff.1 hp).2, hq]
  simp only [this, Option.bind_some, ha, mkY, Option.map_some]
  rfl
theorem ow_build {t el ty : TypeId} {c : C} {k : Nat} {z : List C} (hk : k = H.length) (he : elemT P t = some el) (hs : szT P el = some 1) (hz : zeroC P el = some z) (hd : A.dryB t = false) (hp : A.pureSl t = false) (hl : c.live = true) :
    Ob P A [.y (.one c)] H (.buildSlice t 1 #[(0, .tmp 0)]) ty (.y (.one (rowC k 0 1 0 1 false))) (H ++ [.row false true 0 (0 + 1) 1 [c]]) := by
  subst hk
  refine ⟨0, ?_⟩
  have hzl : z.length = 1 := by
    unfold zeroC at hz
    unfold szT at hs
    cases hi : P.info? el with
    | none => rw [hi] at hs; cases hs
    | some i =>
      rw [hi] at hz hs
      simp only [Option.bind_some] at hz
      cases hv : i.zero with
      | none => rw [hv] at hz; cases hz
      | some v =>
        rw [hv] at hz
        simp only [Option.bind_some, Option.ite_none_right_eq_some, Option.some.injEq] at hz
        obtain ⟨⟨_, h2⟩, rfl⟩ := hz
        simp only [Option.map_some, Option.some.injEq] at hs
        rw [h2, hs]
  have hu : P.underlying t = some (.slice el) := by
    unfold elemT at he
    split at he
    · rename_i e hh; cases he; exact hh
    · cases he
  show ((elemT P t).bind fun el => (szT P el).bind fun sz => (zeroC P el).bind fun z =>
    if 0 < sz ∧ 1 * sz ≤ 16777216 then
      (fillX (placeX P t) ((List.range (1 * sz)).map fun i => z.getD (i % sz) .dead) [(0, X.y (.one c))]).bind fun cs =>
        if A.dryB t then (if cs.all C.imm then some (X.y (.one (.sl false false true cs 1)), H) else none)
        else if A.pureSl t then (immL H cs).map fun (cs, H) => (X.y (.one (.sl false false true cs 1)), H)
        else some (let (c, H) := rowNew H false sz 1 cs; (X.y (.one c), H))
    else none) = _
  simp only [he, hs, hz, Option.bind_some]
  rw [if_pos ⟨by omega, by omega⟩]
  have hf : fillX (placeX P t) ((List.range (1 * 1)).map fun i => z.getD (i % 1) .dead) [(0, X.y (.one c))] = some [c] := by
    simp only [fillX, placeX, hu, hs, Option.map_some, Option.bind_some, X.y?, Y.cells]
    refine (if_pos ⟨rfl, by simp, by simp [Y.cells, hl]⟩).trans ?_
    simp [splice, Y.cells]
  rw [hf]
  simp only [Option.bind_some, hd, hp, Bool.false_eq_true, if_false, rowNew]
theorem ow_append {s : Sh} {cp : Bool} {t u el ty : TypeId} {by_ : Nat} {z : List C} {k k1 : Nat} {ws : List (Nat × List s.T)} {p : Nat × List s.T} (hH : H[k]? = some (rowsO s cp ws)) (hH1 : H[k1]? = some (.row false true 0 (0 + 1) 1 [winC s cp p]))
    (he : elemT P t = some el) (hu : (elemT P u).isSome = true) (hs : szT P el = some 1) (hb : byT P el = some by_) (hz : zeroC P el = some z) (h1 : (ws.length : Int) + 1 ≤ 9223372036854775807) (h2 : ((ws.length : Int) + 1) * by_ ≤ 140737488355328) :
    Ob P A [.y (.one (rowC k 0 ws.length 0 ws.length false)), .y (.one (rowC k1 0 1 0 1 false))] H (.call { callee := .builtin .append, args := #[.tmp 0, .tmp 1], argTypes := #[t, u] }) ty
      (.y (.one (rowC k 0 (ws ++ [p]).length 0 (ws ++ [p]).length false))) (H.set k (rowsO s cp (ws ++ [p]))) := by
  refine ⟨0, ?_⟩
  show (if (elemT P u).isSome then (some (rowC k 0 ws.length 0 ws.length false)).bind fun s' => (some (rowC k1 0 1 0 1 false)).bind fun z => (appendX P A H t s' z).map fun (c, H) => (X.y (.one c), H) else none) = _
  rw [if_pos hu]
  simp only [Option.bind_some]
  unfold appendX
  simp only [he, hs, hb, hz, Option.bind_some]
  rw [if_pos (by omega)]
  have e1 : slCells H 1 (rowC k1 0 1 0 1 false) = some ([winC s cp p], 1, false) := by
    simp only [slCells, hH1]
    rw [if_pos ⟨trivial, trivial, by omega, by omega⟩]
    simp [sub]
  simp only [e1, slCells_rows hH, Option.bind_some]
  rw [if_neg (by omega), if_pos ⟨by simp [winC, C.live], by unfold maxLen; omega, by unfold maxBytes; exact Int.ofNat_le.1 (by rw [Int.natCast_mul, Int.natCast_add]; simpa using h2)⟩]
  simp only [C.isRow, if_true, Bool.false_and, Bool.false_eq_true, if_false, Option.bind_some, hH]
  rw [if_pos ⟨trivial, by simp, trivial⟩]
  simp only [Option.map_some, rowC, rowsO, List.length_append, List.length_cons, List.length_nil, List.map_append, List.map_cons, List.map_nil, Nat.zero_add, Nat.add_assoc]
theorem ow_append_new {s : Sh} {cp : Bool} {t u el ty : TypeId} {by_ : Nat} {z : List C} {k k1 : Nat} {p : Nat × List s.T} (hk : k = H.length) (hH1 : H[k1]? = some (.row false true 0 (0 + 1) 1 [winC s cp p])) (hp : A.pureSl t = false)
    (he : elemT P t = some el) (hu : (elemT P u).isSome = true) (hs : szT P el = some 1) (hb : byT P el = some by_) (hz : zeroC P el = some z) (h2 : (by_ : Int) ≤ 140737488355328) :
    Ob P A [.y (.one nilC), .y (.one (rowC k1 0 1 0 1 false))] H (.call { callee := .builtin .append, args := #[.tmp 0, .tmp 1], argTypes := #[t, u] }) ty
      (.y (.one (rowC k 0 [p].length 0 [p].length false))) (H ++ [rowsO s cp [p]]) := by
  subst hk
  refine ⟨0, ?_⟩
  show (if (elemT P u).isSome then (some nilC).bind fun s' => (some (rowC k1 0 1 0 1 false)).bind fun z => (appendX P A H t s' z).map fun (c, H) => (X.y (.one c), H) else none) = _
  rw [if_pos hu]
  simp only [Option.bind_some]
  unfold appendX
  simp only [he, hs, hb, hz, Option.bind_some]
  rw [if_pos (by omega)]
  have e1 : slCells H 1 (rowC k1 0 1 0 1 false) = some ([winC s cp p], 1, false) := by
    simp only [slCells, hH1]
    rw [if_pos ⟨trivial, trivial, by omega, by omega⟩]
    simp [sub]
  have e2 : slCells H 1 nilC = some ([], 0, true) := by simp [slCells]
  simp only [e1, e2, Option.bind_some]
  rw [if_neg (by omega), if_pos ⟨by simp [winC, C.live], by unfold maxLen; omega, by unfold maxBytes; omega⟩]
  simp only [C.isRow, Bool.false_eq_true, if_false, hp, Bool.false_and, Option.bind_some, if_true, Option.map_some, rowNew]
  rfl
end

/-- a list's windows -/
def wins (r : Nat) : Nat → List Int → List (List Int)
  | 0, _ => []
  | _ + 1, [] => []
  | k + 1, l => l.take r :: wins r k (l.drop r)
theorem wins_fuel {r : Nat} (hr : 1 ≤ r) : ∀ {k k' : Nat} {l : List Int}, l.length ≤ k → l.length ≤ k' → wins r k l = wins r k' l := by
  intro k
  induction k with
  | zero =>
    intro k' l h _
    have : l = [] := List.eq_nil_of_length_eq_zero (by omega)
    subst this
    cases k' <;> rfl
  | succ k ih =>
    intro k' l h h'
    cases l with
    | nil => cases k' <;> rfl
    | cons x l =>
      cases k' with
      | zero => simp at h'
      | succ k' =>
        simp only [wins]
        rw [ih (k' := k') (by simp at h ⊢; omega) (by simp at h' ⊢; omega)]
theorem wins_step {r : Nat} (hr : 1 ≤ r) {l : List Int} (hl : l ≠ []) : wins r l.length l = l.take r :: wins r (l.drop r).length (l.drop r) := by
  cases l with
  | nil => exact absurd rfl hl
  | cons x l =>
    show _ :: wins r l.length _ = _
    rw [wins_fuel hr (k := l.length) (k' := ((x :: l).drop r).length) (by simp; omega) (Nat.le_refl _)]
theorem wins_nil {r : Nat} : wins r ([] : List Int).length [] = [] := rfl

/-- what is appended to: a whole slice without room (whose row somebody else has), or a slice of one's own -/
def appP (s : Sh) (c : C) (k : Nat) (M l : List s.T) : HP := fun h => (c = rowC k 0 M.length 0 M.length true ∧ l = M) ∨ itemsP s c l h
theorem app_open {cs : List HP} {H : Heap} {s : Sh} {c : C} {k : Nat} {M l : List s.T} (h : On cs H) (j : Nat) (hj : cs[j]? = some (appP s c k M l)) :
    (c = rowC k 0 M.length 0 M.length true ∧ l = M ∧ On (cs.eraseIdx j) H) ∨ On (cs.eraseIdx j ++ [itemsP s c l]) H := by
  refine On.alt j hj h fun h' b => ?_
  rcases b with ⟨rfl, rfl⟩ | b
  · exact ⟨[], trivial, fun hh => .inl ⟨rfl, rfl, by simpa using hh⟩⟩
  · exact ⟨_, SL_one b, fun hh => .inr hh⟩
theorem On.addApp {s : Sh} {k : Nat} {M : List s.T} {cs : List HP} {H : Heap} (h : On cs H) : On (cs ++ [appP s (rowC k 0 M.length 0 M.length true) k M M]) H :=
  SL_app' ⟨_, fun _ => none, fun _ => .inr rfl, fun _ _ x => x, fun _ _ x => by simp at x, h, SL_one (.inl ⟨rfl, rfl⟩)⟩
end Go.Lg
