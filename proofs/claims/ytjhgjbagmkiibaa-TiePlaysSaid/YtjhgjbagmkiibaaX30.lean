/- Lemmas. -/
import Derived.Test.YtjhgjbagmkiibaaX19
import Derived.Test.YtjhgjbagmkiibaaX15
section
namespace Go.Lg
abbrev nilC : C := .sl false true true [] 0
def itemsP (s : Sh) (c : C) (l : List s.T) : HP := fun h =>
  (c = nilC ∧ l = []) ∨ ∃ k d, ∃ L : List s.T, ∃ o capd, c = rowC k d L.length o l.length capd ∧ h k = some (rowO s true d L) ∧ o + l.length ≤ L.length ∧ (capd = false → o + l.length = L.length) ∧ (L.drop o).take l.length = l
def ringP (s : Sh) (q : Nat) (room : Int) (l : List s.T) : HP := fun h =>
  (1 ≤ room ∧ room ≤ 65536 ∧ (l.length : Int) ≤ room) ∧ ∃ c, star (pts q (.obj [vi room, c])) (itemsP s c l) h
theorem SL_one {A : HP} {h : Frag} (y : A h) : SL [A] h := ⟨h, fun _ => none, fun _ => .inr rfl, fun _ _ x => x, fun _ _ x => by simp at x, y, trivial⟩
theorem On.alt {cs : List HP} {H : Heap} {A : HP} {G : Prop} (j : Nat) (hj : cs[j]? = some A) (h : On cs H) (hA : ∀ h, A h → ∃ ds : List HP, SL ds h ∧ (On (cs.eraseIdx j ++ ds) H → G)) : G := by
  have p : cs.Perm (A :: cs.eraseIdx j) := by
    exact perm_erase hj
  obtain ⟨h1, h2, hd, s1, s2, a, b⟩ := SL_perm p h
  obtain ⟨ds, h3, h4⟩ := hA h1 a
  exact h4 (SL_app' ⟨h2, h1, fun i => (hd i).symm, s2, s1, b, h3⟩)
theorem items_open {cs : List HP} {H : Heap} {s : Sh} {c : C} {l : List s.T} (h : On cs H) (j : Nat) (hj : cs[j]? = some (itemsP s c l)) :
    ((c = nilC ∧ l = [] ∧ On (cs.eraseIdx j) H) ∨
     ∃ k d, ∃ L : List s.T, ∃ o capd, c = rowC k d L.length o l.length capd ∧ o + l.length ≤ L.length ∧ (capd = false → o + l.length = L.length) ∧ (L.drop o).take l.length = l ∧ On (cs.eraseIdx j ++ [pts k (rowO s true d L)]) H) := by
  refine On.alt j hj h fun h' b => ?_
  rcases b with ⟨rfl, rfl⟩ | ⟨k, d, L, o, capd, rfl, b, e1, e2, e3⟩
  · exact ⟨[], trivial, fun hh => .inl ⟨rfl, rfl, by simpa using hh⟩⟩
  · exact ⟨_, SL_one b, fun hh => .inr ⟨k, d, L, o, capd, rfl, e1, e2, e3, hh⟩⟩
theorem items_nil {s : Sh} {h : Frag} : itemsP s nilC [] h := .inl ⟨rfl, rfl⟩
theorem onlyH_at {M : List Nat} {H : Heap} {id : Nat} {o : O} (hm : M.contains id = true) (h : H[id]? = some o) : (onlyH M H)[id]? = some o := by
  have hle : ∀ (l : List Nat) (a : Nat), (a ≤ l.foldl Nat.max a) ∧ ∀ x ∈ l, x ≤ l.foldl Nat.max a := by
    intro l
    induction l with
    | nil => intro a; exact ⟨Nat.le_refl _, fun x hx => by cases hx⟩
    | cons y l ih =>
      intro a
      obtain ⟨h1, h2⟩ := ih (Nat.max a y)
      refine ⟨Nat.le_trans (Nat.le_max_left a y) h1, fun x hx => ?_⟩
      rcases List.mem_cons.1 hx with rfl | hx
      · exact Nat.le_trans (Nat.le_max_right a x) h1
      · exact h2 x hx
  have hlt : id < M.foldl Nat.max 0 + 1 := Nat.lt_succ_of_le ((hle M 0).2 id (by simpa using hm))
  unfold onlyH
  rw [List.getElem?_map, List.getElem?_range hlt]
  simp only [kT, hm, if_true, List.getD, h, Option.getD_some]
theorem hideH_get {M : List Nat} {H : Heap} {i : Nat} : (hideH M H)[i]? = (H[i]?).map fun o => if M.contains i then froO o else o := by
  unfold hideH; rw [mapI_get]; simp only [Nat.zero_add]
theorem backH_get {M : List Nat} {H H' : Heap} {i : Nat} : (backH M H H')[i]? = (H'[i]?).map fun o => if M.contains i then H.getD i o else o := by
  unfold backH; rw [mapI_get]; simp only [Nat.zero_add]
theorem On.hide1 {cs : List HP} {H : Heap} {id : Nat} {o : O} (h : On cs H) (j : Nat) (hj : cs[j]? = some (pts id o)) : On (cs.set j (pts id (froO o))) (hideH [id] H) := by
  have e : hideH [id] H = H.set id (froO o) := by
    have ho := h.at j hj
    have hlt := (List.getElem?_eq_some_iff.1 ho).1
    apply List.ext_getElem?
    intro i
    rw [hideH_get]
    by_cases hi : i = id
    · subst hi; rw [ho, List.getElem?_set_self hlt]; simp
    · rw [List.getElem?_set_ne (fun x => hi x.symm)]
      have : ([id] : List Nat).contains i = false := by simp [hi]
      simp only [this, Bool.false_eq_true, if_false]
      cases H[i]? <;> rfl
  rw [e]
  exact h.put _ j hj
theorem On.back1 {cs : List HP} {H H' : Heap} {id : Nat} {o o' : O} (h : On cs H') (j : Nat) (hj : cs[j]? = some (pts id o')) (ho : H[id]? = some o) : On (cs.set j (pts id o)) (backH [id] H H') := by
  have e : backH [id] H H' = H'.set id o := by
    have ho' := h.at j hj
    have hlt := (List.getElem?_eq_some_iff.1 ho').1
    apply List.ext_getElem?
    intro i
    rw [backH_get]
    by_cases hi : i = id
    · subst hi; rw [ho', List.getElem?_set_self hlt]; simp [List.getD, ho]
    · rw [List.getElem?_set_ne (fun x => hi x.symm)]
      have : ([id] : List Nat).contains i = false := by simp [hi]
      simp only [this, Bool.false_eq_true, if_false]
      cases H'[i]? <;> rfl
  rw [e]
  exact h.put _ j hj
theorem mayHide1 {H : Heap} {id : Nat} {o : O} (ho : H[id]? = some o) (h : o.inH H.length = true) : mayHide H [id] = true := by
  simp [mayHide, ho, h]
theorem ob_late {P : Program} {H : Heap} {id n : Nat} {t ty : TypeId} {cs : List C} (hid : n = id) (hH : H[n]? = some (.map .hole)) (hz : zeroC P t = some cs) :
    ∃ _ : Nat, fillH P id H { dst := none, op := .alloc t, type := ty, pos := "", after := #[], guard := none } = some (.y (.one (.ptr n 0)), H.set n (.obj cs)) := by
  subst hid
  exact ⟨0, by simp only [fillH, hH, hz, kT]⟩
def optP (s : Sh) (cc : C) (room vr : Int) (l : List s.T) : HP := fun h => (cc = .sc (.pointer none)) ∨ ∃ q, cc = .ptr q 0 ∧ vr = room ∧ ringP s q room l h
end Go.Lg
end
section
namespace Go.Lg
def winC (s : Sh) (capd : Bool) (p : Nat × List s.T) : C := rowC p.1 0 p.2.length 0 p.2.length capd
abbrev rowsO (s : Sh) (capd : Bool) (ws : List (Nat × List s.T)) : O := .row false true 0 (0 + ws.length) 1 (ws.map (winC s capd))
def bigP (s : Sh) (ws : List (Nat × List s.T)) : HP := SL (ws.map fun p => pts p.1 (rowO s true 0 p.2))
def winsP (s : Sh) (capd : Bool) (c : C) (ws : List (Nat × List s.T)) : HP := fun h =>
 (c = nilC ∧ ws = []) ∨ ∃ k, c = rowC k 0 ws.length 0 ws.length false ∧ star (pts k (rowsO s capd ws)) (bigP s ws) h
def wholeP (s : Sh) (c : C) (l : List s.T) : HP := fun h =>
 (c = nilC ∧ l = []) ∨ ∃ k, c = rowC k 0 l.length 0 l.length false ∧ h k = some (rowO s true 0 l)
section
variable {P : Program} {A : Ann} {H : Heap}
end
def wins (r : Nat) : Nat → List Int → List (List Int)
 | 0, _ => []
 | _ + 1, [] => []
 | k + 1, l => l.take r :: wins r k (l.drop r)
def appP (s : Sh) (c : C) (k : Nat) (M l : List s.T) : HP := fun h => (c = rowC k 0 M.length 0 M.length true ∧ l = M) ∨ itemsP s c l h
end Go.Lg
end
section
namespace Go.Lg
section
variable {P : Program} {A : Ann} {H : Heap}
def entsF (s : Sh) : Nat → List (s.T × Int) → List MapEntry
 | _, [] => []
 | n, (x, v) :: r => { key := .agg (vals s x).toArray, val := .int .i64 v, born := n } :: entsF s (n + 1) r
abbrev cntO (s : Sh) (l : List (s.T × Int)) : O := .map (.map (entsF s 0 l).toArray l.length)
def seek (s : Sh) (x : s.T) : List (s.T × Int) → Nat → Option (Nat × Int)
 | [], _ => none
 | (y, v) :: r, i => if eqb s x y then some (i, v) else seek s x r (i + 1)
def ones {α : Type} (l : List α) : List (α × Int) := l.map fun x => (x, 1)
def plainS : Sh → Bool
 | .sl _ _ | .str => false
 | .pr a b => plainS a && plainS b
 | _ => true
theorem eqb_refl : ∀ {s : Sh}, plainS s = true → ∀ x : s.T, eqb s x x = true
 | .int _, _, (n : Int) => by simp [eqb]
 | .bool, _, (b : Bool) => by simp [eqb]
 | .str, h, _ => by cases h
 | .nil, _, _ => rfl
 | .sl _ _, h, _ => by cases h
 | .pr a b, h, x => by
  simp only [plainS, kA] at h
  simp only [eqb, eqb_refl h.1 x.1, eqb_refl h.2 x.2, Bool.and_self]
theorem eqb_eq : ∀ {s : Sh}, plainS s = true → ∀ {x y : s.T}, eqb s x y = true → x = y
 | .int _, _, (n : Int), (k : Int), h => by simpa [eqb] using h
 | .bool, _, (n : Bool), (k : Bool), h => by simpa [eqb] using h
 | .str, h, _, _, _ => by cases h
 | .nil, _, _, _, _ => rfl
 | .sl _ _, h, _, _, _ => by cases h
 | .pr a b, h, x, y, e => by
  simp only [plainS, kA] at h
  simp only [eqb, kA] at e
  exact Prod.ext (eqb_eq h.1 e.1) (eqb_eq h.2 e.2)
theorem eqb_iff {s : Sh} (hf : plainS s = true) {x y : s.T} : eqb s x y = true ↔ x = y := ⟨eqb_eq hf, fun h => h ▸ eqb_refl hf x⟩
def isStruct (P : Program) (t : TypeId) : Bool :=
 match P.underlying t with
 | some (.struct _) => true
 | _ => false
theorem isStruct_iff {P : Program} {t : TypeId} (h : isStruct P t = true) : ∃ fs, P.underlying t = some (.struct fs) := by
 unfold isStruct at h
 split at h
 ·rename_i fs e; exact ⟨fs, e⟩
 ·cases h
structure CntOK (P : Program) (s : Sh) (t kt el : TypeId) : Prop where
 map : P.underlying t = some (.map kt el)
 key : isStruct P kt = true
 eq : eqAgg P s kt = true
 flat : plainS s = true
 chk : ∀ (x : s.T) (e : Bool), pv P (Instr.checkKey e 10000 kt (.agg (vals s x).toArray)) = some ()
 zero : pv P (zeroValue el) = some (.int .i64 0)
variable {s : Sh} {t kt el : TypeId}
theorem CntOK.same (h : CntOK P s t kt el) (x y : s.T) : pv P (Op.equal kt (.agg (vals s x).toArray) (.agg (vals s y).toArray)) = some (eqb s x y) := by
 have hk := h.eq
 simp only [eqAgg, kA, decide_eq_true_eq, Bool.not_eq_true'] at hk
 obtain ⟨⟨⟨⟨h1, h2⟩, h3⟩, h4⟩, h5⟩ := hk
 have he := (eq_all s).1 kt Op.maxDepth x y h2 h4
 simp only [valT, h3, if_true] at he
 exact he
theorem CntOK.asking (h : CntOK P s t kt el) (x : s.T) : ∀ (l : List (s.T × Int)) (n i : Nat), pv P (Instr.findAsking kt (.agg (vals s x).toArray) (entsF s n l) i) = some ((seek s x l i).map fun p => (p.1, .int .i64 p.2))
 | [], _, _ => rfl
 | (y, v) :: r, n, i => by
  simp only [entsF, Instr.findAsking, pv_bind, h.same, kS, seek]
  cases eqb s x y with
  | true => rfl
  | false => simp only [Bool.false_eq_true, if_false]; exact h.asking x r (n + 1) (i + 1)
theorem CntOK.find (h : CntOK P s t kt el) (x : s.T) (l : List (s.T × Int)) (n : Nat) : pv P (Instr.findKey kt (.agg (vals s x).toArray) (entsF s n l)) = some ((seek s x l 0).map fun p => (p.1, .int .i64 p.2)) := by
 obtain ⟨fs, hs⟩ := isStruct_iff h.key
 unfold Instr.findKey
 rw [pv_bind, pv_underlying hs, kS]
 cases l with
 | nil => rfl
 | cons p r => exact h.asking x (p :: r) n 0
theorem CntOK.place (h : CntOK P s t kt el) (x : s.T) (l : List (s.T × Int)) : pv P (placeV t (entsF s 0 l) (.agg (vals s x).toArray)) = some ((seek s x l 0).map (·.1)) := by
 unfold placeV
 rw [pv_bind, pv_underlying h.map, kS]
 simp only [pv_bind, h.find, kS, pv_pure]
 cases seek s x l 0 <;> rfl
theorem sameBits_all : ∀ {s : Sh} (_ : plainS s = true) (x : s.T) (n : Nat), ((vals s x).zip (vals s x)).all (fun p => Instr.sameBits n p.1 p.2) = true
 | .int _, _, (k : Int), n => by cases n <;> simp [vals, Instr.sameBits]
 | .bool, _, (k : Bool), n => by cases n <;> simp [vals, Instr.sameBits]
 | .str, h, _, _ => by cases h
 | .nil, _, _, _ => rfl
 | .sl _ _, h, _, _ => by cases h
 | .pr a b, h, x, n => by
  simp only [plainS, kA] at h
  simp only [vals]
  rw [List.zip_append rfl, List.all_append, sameBits_all h.1, sameBits_all h.2]
  rfl
def memB (s : Sh) (x : s.T) (l : List s.T) : Bool := l.any fun y => eqb s x y
theorem memB_iff (hf : plainS s = true) {x : s.T} {l : List s.T} : memB s x l = true ↔ x ∈ l := by
 unfold memB
 rw [List.any_eq_true]
 constructor
 ·rintro ⟨y, h1, h2⟩
  rw [eqb_eq hf h2]
  exact h1
 ·intro h
  exact ⟨x, h, eqb_refl hf x⟩
theorem snapC_rowO {id d o n : Nat} {capd : Bool} {l m : List s.T} (hH : H[id]? = some (rowO s true d l)) (h : o + n ≤ l.length) (hm : (l.drop o).take n = m) : snapC H (rowC id d l.length o n capd) = some (.sl true false capd (m.flatMap (enc s)) m.length) := by
 have := snap_rowO (capd := capd) hH h hm
 change (snapC H (rowC id d l.length o n capd)).map Y.one = _ at this
 cases hc : snapC H (rowC id d l.length o n capd) with
 | none => rw [hc] at this; cases this
 | some c => rw [hc] at this; simpa using this
theorem backC_rowO {id d o n : Nat} {capd : Bool} {l m : List s.T} (hH : H[id]? = some (rowO s true d l)) (h : o + n ≤ l.length) (hm : (l.drop o).take n = m) : backC H (rowC id d l.length o n capd) = some (.sl false false capd (m.flatMap (enc s)) m.length) := by
 have := back_rowO (capd := capd) hH h hm
 change (backC H (rowC id d l.length o n capd)).map Y.one = _ at this
 cases hc : backC H (rowC id d l.length o n capd) with
 | none => rw [hc] at this; cases this
 | some c => rw [hc] at this; simpa using this
theorem mapM_nil' {α β : Type} {f : α → Option β} : ([] : List α).mapM f = some [] := rfl
theorem mapM_cons' {α β : Type} {f : α → Option β} {c : α} {c' : β} {cs : List α} {cs' : List β} (h : f c = some c') (hr : cs.mapM f = some cs') : (c :: cs).mapM f = some (c' :: cs') := by
 rw [List.mapM_cons, h]; simp [hr]
theorem back_agg {cs cs' : List C} (h : cs.mapM (backC H) = some cs') : backY H (.agg cs) = some (.agg cs') := by show (cs.mapM (backC H)).map Y.agg = _; rw [h]; rfl
end
def Code.dropS : Nat → Code → Code
 | n + 1, .seq _ b => Code.dropS n b
 | _, c => c
section
variable {P : Program} {A : Ann} {H : Heap}
theorem ob_len_items {t ty : TypeId} {s : Sh} {cs : List HP} {c : C} {l : List s.T} {e : Int} (hs : On cs H) (j : Nat) (hj : cs[j]? = some (itemsP s c l)) (ht : (elemT P t).isSome = true) (hn : (l.length : Int) = e) :
  Ob P A [.y (.one c)] H (.call { callee := .builtin .len, args := #[.tmp 0], argTypes := #[t] }) ty (.y (.one (.sc (.int .i64 e)))) H := by
 rcases items_open hs j hj with ⟨rfl, rfl, _⟩ | ⟨k, d, L, o, capd, rfl, _, _, _, h⟩
 ·refine ⟨0, ?_⟩
  subst hn
  show (if ((#[t] : Array TypeId)[0]?.bind (elemT P)).isSome then some (X.y (.one (.sc (goInt 0))), H) else none) = _
  rw [if_pos (by simpa using ht)]
  rfl
 ·refine or_len (s := s) (pu := true) (On.at h (cs.eraseIdx j).length ?_) ht hn
  rw [List.getElem?_append_right (Nat.le_refl _), Nat.sub_self]
  rfl
theorem items_live {s : Sh} {cs : List HP} {c : C} {l : List s.T} (hs : On cs H) (j : Nat) (hj : cs[j]? = some (itemsP s c l)) : c.live = true := by
 rcases items_open hs j hj with ⟨rfl, _⟩ | ⟨k, d, L, o, capd, rfl, _⟩ <;> rfl
theorem items_snap {s : Sh} {cs : List HP} {c : C} {l : List s.T} (hs : On cs H) (j : Nat) (hj : cs[j]? = some (itemsP s c l)) : ∃ b n p, snapC H c = some (sv s b n p l) := by
 rcases items_open hs j hj with ⟨rfl, rfl, _⟩ | ⟨k, d, L, o, capd, rfl, e1, _, e3, h⟩
 ·exact ⟨false, true, true, rfl⟩
 ·exact ⟨true, false, capd, snapC_rowO (On.at h (cs.eraseIdx j).length (by rw [List.getElem?_append_right (Nat.le_refl _), Nat.sub_self]; rfl)) e1 e3⟩
theorem items_back {s : Sh} {cs : List HP} {c : C} {l : List s.T} (hs : On cs H) (j : Nat) (hj : cs[j]? = some (itemsP s c l)) : ∃ n p, backC H c = some (sv s false n p l) := by
 rcases items_open hs j hj with ⟨rfl, rfl, _⟩ | ⟨k, d, L, o, capd, rfl, e1, _, e3, h⟩
 ·exact ⟨true, true, rfl⟩
 ·exact ⟨false, capd, backC_rowO (On.at h (cs.eraseIdx j).length (by rw [List.getElem?_append_right (Nat.le_refl _), Nat.sub_self]; rfl)) e1 e3⟩
theorem live_nil : ([] : List C).all C.live = true := rfl
theorem live_cons {c : C} {l : List C} (h : c.live = true) (t : l.all C.live = true) : (c :: l).all C.live = true := by rw [List.all_cons, h, t]; rfl
theorem ob_store_live {t ty : TypeId} {id off : Nat} {cs cs' : List C} {v : Y} (hH : H[id]? = some (.obj cs)) (ht : szT P t = some v.cells.length) (hl : v.cells.all C.live = true) (hn : Nat.ble (off + v.cells.length) cs.length = true) (hc : splice off v.cells cs = cs') :
  Ob P A [.y (.one (.ptr id off)), .y v] H (.store t (.tmp 0) (.tmp 1)) ty .undef (H.set id (.obj cs')) :=
 ob_store_ptr hH ht (by rw [hl, hn]; rfl) hc
end
end Go.Lg
end
section
namespace Go.Lg
section
variable {P : Program} {A : Ann} {H : Heap}
theorem On.drop {cs : List HP} {A' : HP} (j : Nat) (hj : cs[j]? = some A') (h : On cs H) : On (cs.eraseIdx j) H :=
 On.alt j hj h fun _ _ => ⟨[], trivial, fun hh => by simpa using hh⟩
theorem On.last {cs : List HP} {B B' : HP} (f : ∀ h, B h → B' h) (h : On (cs ++ [B]) H) : On (cs ++ [B']) H := by
 have := On.mono (A' := B') cs.length (by rw [List.getElem?_append_right (Nat.le_refl _), Nat.sub_self]; rfl) f h
 rwa [show (cs ++ [B]).set cs.length B' = cs ++ [B'] by rw [List.set_append_right _ _ (Nat.le_refl _), Nat.sub_self]; rfl] at this
theorem items_cells {s : Sh} {cs : List HP} {c : C} {l : List s.T} (hs : On cs H) (j : Nat) (hj : cs[j]? = some (itemsP s c l)) : slCells H s.cells c = some (l.flatMap (enc s), l.length, true) := by
 rcases items_open hs j hj with ⟨rfl, rfl, _⟩ | ⟨k, d, L, o, capd, rfl, e1, _, e3, h⟩
 ·exact slCells_slO (nil := true) (b := false) (capd := true) (l := ([] : List s.T)) rfl
 ·exact slCells_rowO (On.at h (cs.eraseIdx j).length (by rw [List.getElem?_append_right (Nat.le_refl _), Nat.sub_self]; rfl)) e1 e3
theorem back_one {c c' : C} (h : backC H c = some c') : backY H (.one c) = some (.one c') := by
 show (backC H c).map Y.one = _
 rw [h]; rfl
theorem snap_one {c c' : C} (h : snapC H c = some c') : snapY H (.one c) = some (.one c') := by
 show (snapC H c).map Y.one = _
 rw [h]; rfl
end
end Go.Lg
end
section
namespace Go.Lg
section
variable {P : Program} {A : Ann} {H : Heap}
def ldC (P : Program) (t : TypeId) (off : Nat) (cs : List C) : Option Y := (szT P t).bind fun n => if (Nat.ble 1 n && Nat.ble (off + n) cs.length) = true then mkY (isAggT P t) (sub off n cs) else none
theorem oL {t : TypeId} {id off : Nat} {cs : List C} {v : Y} (hH : H[id]? = some (.obj cs)) (hk : ldC P t off cs = some v) : Ob P A [.y (.one (.ptr id off))] H (.load t (.tmp 0)) 0 (.y v) H := by
 unfold ldC at hk
 cases h : szT P t with
 | none => rw [h] at hk; cases hk
 | some n =>
  rw [h] at hk
  simp only [kS] at hk
  split at hk
  ·rename_i hn; exact ob_load_ptr hH h hn rfl hk
  ·cases hk
def stC (P : Program) (t : TypeId) (off : Nat) (cs : List C) (v : Y) : Bool := (szT P t == some v.cells.length) && (v.cells.all C.live && Nat.ble (off + v.cells.length) cs.length)
theorem oS {t : TypeId} {id off : Nat} {cs : List C} {v : Y} (hH : H[id]? = some (.obj cs)) (hk : stC P t off cs v = true) : Ob P A [.y (.one (.ptr id off)), .y v] H (.store t (.tmp 0) (.tmp 1)) 0 .undef (H.set id (.obj (splice off v.cells cs))) := by
 unfold stC at hk
 rw [kA, beq_iff_eq] at hk
 exact ob_store_ptr hH hk.1 hk.2 rfl
theorem oC1 {g : FuncId} {x : Y} {res : List Y} {H' : Heap} (hr : Runs P A g [x] H res H') (hp : A.pureFn g = false) : Ob P A [.y x] H (.call { callee := .value (.func g), args := #[.tmp 0], argTypes := #[] }) 0 (pack res) H' := ob_call [.tmp 0] hp rfl hr rfl
theorem oC2 {g : FuncId} {x y : Y} {res : List Y} {H' : Heap} (hr : Runs P A g [x, y] H res H') (hp : A.pureFn g = false) : Ob P A [.y x, .y y] H (.call { callee := .value (.func g), args := #[.tmp 0, .tmp 1], argTypes := #[] }) 0 (pack res) H' := ob_call [.tmp 0, .tmp 1] hp rfl hr rfl
theorem oC3 {g : FuncId} {x y z : Y} {res : List Y} {H' : Heap} (hr : Runs P A g [x, y, z] H res H') (hp : A.pureFn g = false) : Ob P A [.y x, .y y, .y z] H (.call { callee := .value (.func g), args := #[.tmp 0, .tmp 1, .tmp 2], argTypes := #[] }) 0 (pack res) H' := ob_call [.tmp 0, .tmp 1, .tmp 2] hp rfl hr rfl
theorem oP1 {g : FuncId} {x : Y} {res : List Y} (hc : PureC P A g [x] res) (hs : [x].mapM (snapY H) = some [x]) (hp : A.pureFn g = true) : Ob P A [.y x] H (.call { callee := .value (.func g), args := #[.tmp 0], argTypes := #[] }) 0 (pack res) H := ob_pure [.tmp 0] hp rfl hs hc rfl
theorem oP2 {g : FuncId} {x y : Y} {res : List Y} (hc : PureC P A g [x, y] res) (hs : [x, y].mapM (snapY H) = some [x, y]) (hp : A.pureFn g = true) : Ob P A [.y x, .y y] H (.call { callee := .value (.func g), args := #[.tmp 0, .tmp 1], argTypes := #[] }) 0 (pack res) H := ob_pure [.tmp 0, .tmp 1] hp rfl hs hc rfl
theorem oP3 {g : FuncId} {x y z : Y} {res : List Y} (hc : PureC P A g [x, y, z] res) (hs : [x, y, z].mapM (snapY H) = some [x, y, z]) (hp : A.pureFn g = true) : Ob P A [.y x, .y y, .y z] H (.call { callee := .value (.func g), args := #[.tmp 0, .tmp 1, .tmp 2], argTypes := #[] }) 0 (pack res) H := ob_pure [.tmp 0, .tmp 1, .tmp 2] hp rfl hs hc rfl
section
variable {a b c : Int} {t u : TypeId}
theorem lssT (h : a < b) : Ob P A [xi a, xi b] H (.binOp .lss t (.tmp 0) (.tmp 1) u) 0 (xb true) H := ob_raw (r := xb (decide (a < b))) rfl (congrArg (fun z => xb z) (decide_eq_true h))
theorem lssF (h : ¬ a < b) : Ob P A [xi a, xi b] H (.binOp .lss t (.tmp 0) (.tmp 1) u) 0 (xb false) H := ob_raw (r := xb (decide (a < b))) rfl (congrArg (fun z => xb z) (decide_eq_false h))
theorem gtrT (h : a > b) : Ob P A [xi a, xi b] H (.binOp .gtr t (.tmp 0) (.tmp 1) u) 0 (xb true) H := ob_raw (r := xb (decide (a > b))) rfl (congrArg (fun z => xb z) (decide_eq_true h))
theorem gtrF (h : ¬ a > b) : Ob P A [xi a, xi b] H (.binOp .gtr t (.tmp 0) (.tmp 1) u) 0 (xb false) H := ob_raw (r := xb (decide (a > b))) rfl (congrArg (fun z => xb z) (decide_eq_false h))
theorem leqT (h : a ≤ b) : Ob P A [xi a, xi b] H (.binOp .leq t (.tmp 0) (.tmp 1) u) 0 (xb true) H := ob_raw (r := xb (decide (a ≤ b))) rfl (congrArg (fun z => xb z) (decide_eq_true h))
theorem leqF (h : ¬ a ≤ b) : Ob P A [xi a, xi b] H (.binOp .leq t (.tmp 0) (.tmp 1) u) 0 (xb false) H := ob_raw (r := xb (decide (a ≤ b))) rfl (congrArg (fun z => xb z) (decide_eq_false h))
theorem geqT (h : a ≥ b) : Ob P A [xi a, xi b] H (.binOp .geq t (.tmp 0) (.tmp 1) u) 0 (xb true) H := ob_raw (r := xb (decide (a ≥ b))) rfl (congrArg (fun z => xb z) (decide_eq_true h))
theorem geqF (h : ¬ a ≥ b) : Ob P A [xi a, xi b] H (.binOp .geq t (.tmp 0) (.tmp 1) u) 0 (xb false) H := ob_raw (r := xb (decide (a ≥ b))) rfl (congrArg (fun z => xb z) (decide_eq_false h))
theorem oAdd (h : -9223372036854775808 ≤ a + b ∧ a + b ≤ 9223372036854775807 ∧ a + b = c) : Ob P A [xi a, xi b] H (.binOp .add t (.tmp 0) (.tmp 1) u) 0 (xi c) H := ob_raw (r := xi (IntKind.wrap .i64 (a + b))) rfl (congrArg (fun z => xi z) ((wrap64 ⟨h.1, h.2.1⟩).trans h.2.2))
theorem oSub (h : -9223372036854775808 ≤ a - b ∧ a - b ≤ 9223372036854775807 ∧ a - b = c) : Ob P A [xi a, xi b] H (.binOp .sub t (.tmp 0) (.tmp 1) u) 0 (xi c) H := ob_raw (r := xi (IntKind.wrap .i64 (a - b))) rfl (congrArg (fun z => xi z) ((wrap64 ⟨h.1, h.2.1⟩).trans h.2.2))
end
end
end Go.Lg
end
section
namespace Go.Lg
section
variable {P : Program} {A : Ann} {H : Heap}
def closeX (P : Program) (A : Ann) (f : FuncId) (k : Nat) (c : Code) (e : Env) (H : Heap) (rv : List ResultVar) : Option (List Y) :=
 (codeX P A (runX P A k) f k c e H).bind fun r => match r.1 with
  | .normal | .ret => (rv.mapM (resX P r.2.1 r.2.2)).bind fun rs => rs.mapM (backY r.2.2)
  | _ => none
def partP (s : Sh) (c : C) (l : List s.T) : HP := fun h =>
 (c = nilC ∧ l = []) ∨ ∃ k, ∃ L : List s.T, c = rowC k 0 L.length 0 l.length false ∧ h k = some (rowO s true 0 L) ∧ l.length ≤ L.length ∧ L.take l.length = l
end
end Go.Lg
end
section
namespace Go.Lg
section
variable {B : Nat → Prop} {β β2 : Nat → Nat × Nat} {H H2 : Heap} {w : World} {n : Nat}
structure SubH (σ : Nat → Nat) (n : Nat) (β : Nat → Nat × Nat) (H : Heap) (β2 : Nat → Nat × Nat) (H2 : Heap) : Prop where
 src : ∀ id o, H2[id]? = some o → H[σ id]? = some o ∧ β2 id = β (σ id)
 inj : ∀ i j oi oj, H2[i]? = some oi → H2[j]? = some oj → σ i = σ j → i = j
 low : ∀ id, id < n → H2[id]? = H[id]? ∧ β2 id = β id
variable {σ : Nat → Nat}
theorem SubH.free (s : SubH σ n β H β2 H2) {b : Nat} (h : Free β H w b) : Free β2 H2 w b :=
 ⟨h.1, fun id o ho hm => by obtain ⟨h0, e⟩ := s.src id o ho; rw [e]; exact h.2 _ o h0 hm⟩
theorem repA_sub (s : SubH σ n β H β2 H2) {c : C} {u : Value} (h : RepA B β H w c u) (hc : c.inH n = true) : RepA B β2 H2 w c u := by
 have hS : ∀ b, (Free β H w b ∧ ¬ B b) → (Free β2 H2 w b ∧ ¬ B b) ∧ w.heap[b]? = w.heap[b]? := fun b hb => ⟨⟨s.free hb.1, hb.2⟩, rfl⟩
 cases c with
 | sc v => exact h
 | sl b nil capd cells m =>
  obtain ⟨a, cap, xs, hu, ho, hl⟩ := h
  exact ⟨a, cap, xs, hu, ho.mono fun b hb => ⟨⟨s.free hb.1, hb.2⟩, rfl⟩, RepIL.mono hS _ _ hl⟩
 | row id st off len capd =>
  obtain ⟨pu, mu, d, st', sz, cells, ho, r⟩ := h
  simp only [C.inH, decide_eq_true_eq] at hc
  exact ⟨pu, mu, d, st', sz, cells, by rw [(s.low id hc).1]; exact ho, by rw [(s.low id hc).2]; exact r⟩
 | ptr id off =>
  obtain ⟨cells, ho, r⟩ := h
  simp only [C.inH, decide_eq_true_eq] at hc
  exact ⟨cells, by rw [(s.low id hc).1]; exact ho, by rw [(s.low id hc).2]; exact r⟩
 | rd cells =>
  obtain ⟨ad, xs, hu, hl, r⟩ := h
  exact ⟨ad, xs, hu, RepIL.mono hS _ _ hl, fun hx => ⟨(r hx).1, s.free (r hx).2.1, (r hx).2.2⟩⟩
 | ra id st pos =>
  obtain ⟨pu, mu, d, st', sz, cells, ho, r⟩ := h
  simp only [C.inH, decide_eq_true_eq] at hc
  exact ⟨pu, mu, d, st', sz, cells, by rw [(s.low id hc).1]; exact ho, by rw [(s.low id hc).2]; exact r⟩
 | mp id =>
  obtain ⟨es, ho, r⟩ := h
  simp only [C.inH, decide_eq_true_eq] at hc
  exact ⟨es, by rw [(s.low id hc).1]; exact ho, by rw [(s.low id hc).2]; exact r⟩
 | it id =>
  obtain ⟨es, ho, r⟩ := h
  simp only [C.inH, decide_eq_true_eq] at hc
  exact ⟨es, by rw [(s.low id hc).1]; exact ho, by rw [(s.low id hc).2]; exact r⟩
 | fn _ _ _ => exact h
 | dead => exact h
theorem rep_sub (s : SubH σ n β H β2 H2) {c : C} {u : Value} (h : Rep B β H w c u) (hc : c.inH n = true) : Rep B β2 H2 w c u := by
 cases c with
 | fn f first cap =>
  obtain ⟨us, vs, hu, h1, h2⟩ := h
  simp only [C.inH, List.all_eq_true] at hc
  have key : ∀ c ∈ first ++ cap, ∀ u, RepA B β H w c u → RepA B β2 H2 w c u := by
   intro c hm u hr
   refine repA_sub s hr ?_
   have := hc c hm
   cases c <;> first | exact this | exact hr.elim
  exact ⟨us, vs, hu, h1.mono_mem fun c u hm hr => key c (by simp [hm]) u hr, h2.mono_mem fun c u hm hr => key c (by simp [hm]) u hr⟩
 | dead => trivial
 | sc v => exact repA_sub (B := B) (w := w) (c := .sc v) s h hc
 | sl b nil capd cells m => exact repA_sub (B := B) (w := w) (c := .sl b nil capd cells m) s h hc
 | row id st off len capd => exact repA_sub (B := B) (w := w) (c := .row id st off len capd) s h hc
 | ptr id off => exact repA_sub (B := B) (w := w) (c := .ptr id off) s h hc
 | rd cells => exact repA_sub (B := B) (w := w) (c := .rd cells) s h hc
 | ra id st pos => exact repA_sub (B := B) (w := w) (c := .ra id st pos) s h hc
 | mp id => exact repA_sub (B := B) (w := w) (c := .mp id) s h hc
 | it id => exact repA_sub (B := B) (w := w) (c := .it id) s h hc
theorem SubH.str (s : SubH σ n β H β2 H2) (hst : StR B β H w) (hin : ∀ o ∈ H2, O.inH n o = true) : StR B β2 H2 w := by
 refine ⟨fun id o ho ht => ?_, fun i j oi oj hi hti hj htj he => ?_, fun id o ho ht => ?_, hst.blt, fun id o ho => ?_⟩
 ·obtain ⟨h0, e⟩ := s.src id o ho; rw [e]; exact hst.inb _ o h0 ht
 ·obtain ⟨hi0, ei⟩ := s.src i oi hi
  obtain ⟨hj0, ej⟩ := s.src j oj hj
  exact s.inj i j oi oj hi hj (hst.inj _ _ oi oj hi0 hti hj0 htj (by rw [← ei, ← ej]; exact he))
 ·obtain ⟨h0, e⟩ := s.src id o ho; rw [e]; exact hst.bor _ o h0 ht
 ·obtain ⟨h0, e⟩ := s.src id o ho
  have hl := hst.live _ o h0
  have hi := hin o (List.mem_of_getElem? ho)
  cases o with
  | row pu mu d st sz cells =>
   obtain ⟨g1, g2, g3, g4, arr, e', g5, g6, g7⟩ := hl
   refine ⟨g1, g2, g3, g4, arr, e', by rw [e]; exact g5, by rw [e]; exact g6, ?_⟩
   rw [e]
   refine g7.mono_mem fun c _ hm hr => rep_sub s hr ?_
   cases pu with
   | false => exact List.all_eq_true.1 hi c hm
   | true =>
    have := List.all_eq_true.1 (g4 rfl) c hm
    cases c <;> first | rfl | (cases this; done)
  | obj cells =>
   obtain ⟨g1, arr, e', g5, g7⟩ := hl
   exact ⟨by rw [e]; exact g1, arr, e', by rw [e]; exact g5, g7.mono_mem fun c _ hm hr => rep_sub s hr (List.all_eq_true.1 hi c hm)⟩
  | map v =>
   cases v with
   | iter m since seen last =>
    obtain ⟨h1, h2⟩ := hl
    have hm : ∀ j, m = some j → β2 j = β j ∧ ∃ v, H2[j]? = some (.map v) ∧ v.isMap = true := by
     intro j hj
     subst hj
     simp only [O.inH, decide_eq_true_eq] at hi
     obtain ⟨v, hv, hv2⟩ := h2 j rfl
     exact ⟨(s.low j hi).2, v, by rw [(s.low j hi).1]; exact hv, hv2⟩
    refine ⟨?_, fun j hj => (hm j hj).2⟩
    rw [e, h1]
    cases m with
    | none => rfl
    | some j => simp only [kT, (hm j rfl).1]
   | hole => trivial
   | fro cs => exact hl
   | map es clock => simp only [ObjOk] at hl ⊢; rw [e]; exact hl
   | bag es => simp only [ObjOk] at hl ⊢; rw [e]; exact hl
theorem sub_keep {id : Nat} {o : O} (ho : H[id]? = some o) (hn : n ≤ id) : SubH (fun i => if i = n then id else i) n β H (upd β n (β id)) (H.take n ++ [o]) := by
 have hlt := lt_of_get ho
 have hl : (H.take n).length = n := by rw [List.length_take]; omega
 have hget : ∀ j x, (H.take n ++ [o])[j]? = some x → (j < n ∧ H[j]? = some x) ∨ (j = n ∧ x = o) := by
  intro j x hj
  rw [List.getElem?_append, hl] at hj
  split at hj
  ·rename_i h; rw [List.getElem?_take, if_pos h] at hj; exact .inl ⟨h, hj⟩
  ·rename_i h
   have : j - n = 0 := by have := lt_of_get hj; simp at this; omega
   rw [this] at hj
   simp at hj
   exact .inr ⟨by omega, hj.symm⟩
 refine ⟨fun j x hj => ?_, fun i j a b hi hj he => ?_, fun j hj => ⟨?_, upd_other _ _ (by omega)⟩⟩
 ·rcases hget j x hj with ⟨h1, h2⟩ | ⟨rfl, rfl⟩
  ·simp only [if_neg (show ¬ j = n by omega)]
   exact ⟨h2, upd_other _ _ (by omega)⟩
  ·simp only [if_true]
   exact ⟨ho, upd_same _ _ _⟩
 ·rcases hget i a hi with ⟨h1, _⟩ | ⟨h1, _⟩ <;> rcases hget j b hj with ⟨h2, _⟩ | ⟨h2, _⟩
  ·simp only [if_neg (show ¬ i = n by omega), if_neg (show ¬ j = n by omega)] at he; exact he
  ·simp only [if_neg (show ¬ i = n by omega), h2, if_true] at he; omega
  ·simp only [if_neg (show ¬ j = n by omega), h1, if_true] at he; omega
  ·omega
 ·rw [List.getElem?_append, hl, if_pos hj, List.getElem?_take, if_pos hj]
theorem sub_take : SubH id n β H β (H.take n) := by
 refine ⟨fun j x hj => ?_, fun i j _ _ _ _ he => he, fun j hj => ⟨get_take hj, rfl⟩⟩
 rw [List.getElem?_take] at hj
 split at hj
 ·exact ⟨hj, rfl⟩
 ·cases hj
theorem SubH.stp (s : SubH σ n β H β2 H2) {β0 : Nat → Nat × Nat} {H0 : Heap} {w0 : World} (h : Stp β0 H0 w0 β H w) (hn : H0.length = n) : Stp β0 H0 w0 β2 H2 w :=
 ⟨h.os, h.tape, h.output, h.size, fun b hb => ⟨(h.free b hb).1, s.free (h.free b hb).2⟩, fun id o ho => by
  obtain ⟨o', h', k⟩ := h.ids id o ho
  have hlt : id < n := by rw [← hn]; exact lt_of_get ho
  exact ⟨o', by rw [(s.low id hlt).1]; exact h', by rw [(s.low id hlt).2]; exact k⟩⟩
theorem rep_kept {id st off len : Nat} {capd : Bool} {o : O} {u : Value} (ho : H[id]? = some o) (hn : n ≤ id) (h : Rep B β H w (.row id st off len capd) u) :
  Rep B (upd β n (β id)) (H.take n ++ [o]) w (.row n st off len capd) u := by
 obtain ⟨pu, mu, d, st', sz, cells, ho', r⟩ := h
 rw [ho] at ho'
 cases ho'
 have hlt := lt_of_get ho
 refine ⟨pu, mu, d, st', sz, cells, ?_, ?_⟩
 ·rw [List.getElem?_append_right (by rw [List.length_take]; omega)]
  rw [show n - (H.take n).length = 0 by rw [List.length_take]; omega]
  rfl
 ·rw [upd_same]; exact r
theorem add_thing (hst : StR B β H w) {w' : World} (os : w'.os = w.os) (tape : w'.tape = w.tape) (output : w'.output = w.output) (size : w.heap.size ≤ w'.heap.size) (old : ∀ b, b < w.heap.size → w'.heap[b]? = w.heap[b]?)
  (p : Nat × Nat) (hp : w.heap.size ≤ p.1) (hp' : p.1 < w'.heap.size) (o : O) (hobj : ObjOk B (upd β H.length p) (H ++ [o]) w' H.length o) :
  StR B (upd β H.length p) (H ++ [o]) w' ∧ Stp β H w (upd β H.length p) (H ++ [o]) w' := by
 have hget0 : ∀ j oj, H[j]? = some oj → (H ++ [o])[j]? = some oj ∧ j ≠ H.length := fun j oj hj => by
  have := lt_of_get hj
  exact ⟨by rw [List.getElem?_append_left this]; exact hj, by omega⟩
 have hget : ∀ j oj, (H ++ [o])[j]? = some oj → (j = H.length ∧ oj = o) ∨ (j ≠ H.length ∧ H[j]? = some oj) := by
  intro j oj hj
  by_cases hl : j < H.length
  ·rw [List.getElem?_append_left hl] at hj; exact .inr ⟨by omega, hj⟩
  ·have hlt := lt_of_get hj
   have : j = H.length := by simp at hlt; omega
   subst this
   exact .inl ⟨rfl, by simpa using hj.symm⟩
 have stp : Stp β H w (upd β H.length p) (H ++ [o]) w' := by
  refine ⟨os, tape, output, size, fun k hk => ⟨old k hk.1, Nat.lt_of_lt_of_le hk.1 size, fun j oj hj hm => ?_⟩, fun j oj hj => ⟨oj, (hget0 j oj hj).1, ?_⟩⟩
  ·rcases hget j oj hj with ⟨rfl, rfl⟩ | ⟨e, hj⟩
   ·rw [upd_same]; have := hk.1; omega
   ·rw [upd_other _ _ e]; exact hk.2 j oj hj hm
  ·rw [upd_other _ _ (hget0 j oj hj).2]
   exact Kept.same fun ht => old _ (hst.inb j oj hj ht)
 refine ⟨⟨fun j oj hj ht => ?_, fun i j oi oj hi hti hj htj hij => ?_, fun j oj hj ht => ?_, fun b hb => Nat.lt_of_lt_of_le (hst.blt b hb) size, fun j oj hj => ?_⟩, stp⟩
 ·rcases hget j oj hj with ⟨rfl, rfl⟩ | ⟨e, hj⟩
  ·rw [upd_same]; exact hp'
  ·rw [upd_other _ _ e]; exact Nat.lt_of_lt_of_le (hst.inb j oj hj ht) size
 ·rcases hget i oi hi with ⟨rfl, rfl⟩ | ⟨ei, hi'⟩ <;> rcases hget j oj hj with ⟨rfl, rfl⟩ | ⟨ej, hj'⟩
  ·rfl
  ·rw [upd_same, upd_other _ _ ej] at hij; have := hst.inb j oj hj' htj; omega
  ·rw [upd_same, upd_other _ _ ei] at hij; have := hst.inb i oi hi' hti; omega
  ·rw [upd_other _ _ ei, upd_other _ _ ej] at hij; exact hst.inj i j oi oj hi' hti hj' htj hij
 ·rcases hget j oj hj with ⟨rfl, rfl⟩ | ⟨e, hj⟩
  ·rw [upd_same]; intro hb; have := hst.blt _ hb; omega
  ·rw [upd_other _ _ e]; exact hst.bor j oj hj ht
 ·rcases hget j oj hj with ⟨rfl, rfl⟩ | ⟨e, hj⟩
  ·exact hobj
  ·exact (hst.live j oj hj).mono stp (upd_other _ _ e) fun ht => by
    exact old _ (hst.inb j oj hj ht)
inductive Fresh (H : Heap) : List Y → Heap → List Y → Heap → Prop where
 | row {id d st sz off len : Nat} {pu capd : Bool} {cs : List C} {r : List Y} {H' : Heap} (ho : H'[id]? = some (.row pu true d st sz cs)) (hcs : cs.all (fun c => match c with | .sc _ => true | _ => false) = true)
   (hr : r.all (fun y => y.cells.all (fun c => match c with | .sc _ => true | _ => false)) = true) : Fresh H (.one (.row id st off len capd) :: r) H' (.one (.row H.length st off len capd) :: r) (H ++ [.row pu true d st sz cs])
 | back {rs rs' : List Y} {H' : Heap} (h : rs.mapM (backY H') = some rs') : Fresh H rs H' rs' H
theorem rep_plain {B' : Nat → Prop} {β' : Nat → Nat × Nat} {H' : Heap} {w' : World} {c : C} {u : Value} (hc : (match c with | .sc _ => true | _ => false) = true) (h : Rep B β H w c u) : Rep B' β' H' w' c u := by
 cases c <;> first | (cases hc; done) | exact h
theorem repY_plain {B' : Nat → Prop} {β' : Nat → Nat × Nat} {H' : Heap} {w' : World} {y : Y} {u : Value} (hc : y.cells.all (fun c => match c with | .sc _ => true | _ => false) = true) (h : RepY B β H w y u) : RepY B' β' H' w' y u := by
 cases y with
 | one c => exact rep_plain (by simpa [Y.cells] using hc) h
 | agg cs =>
  obtain ⟨xs, hu, hx⟩ := h
  exact ⟨xs, hu, hx.mono_mem fun c _ hm hr => rep_plain (List.all_eq_true.1 hc c hm) hr⟩
theorem pack_all2 {rs : List Y} {v : Value} (h : RepRes B β H w rs v) : ∃ vs : List Value, All2 (RepY B β H w) rs vs ∧ ∀ {B' : Nat → Prop} {β' : Nat → Nat × Nat} {H' : Heap} {w' : World} {rs' : List Y}, rs'.length = rs.length → All2 (RepY B' β' H' w') rs' vs → RepRes B' β' H' w' rs' v := by
 unfold RepRes at h
 match rs, h with
 | [], h =>
  obtain ⟨xs, hu, hx⟩ := h
  exact ⟨xs, hx, fun {_ _ _ _ rs'} hl hx' => by
   have : rs' = [] := List.length_eq_zero_iff.1 hl
   subst this
   exact ⟨xs, hu, hx'⟩⟩
 | [y], h =>
  exact ⟨[v], .cons h .nil, fun {_ _ _ _ rs'} hl hx' => by
   obtain ⟨y', rfl⟩ := List.length_eq_one_iff.1 hl
   cases hx' with
   | cons a _ => exact a⟩
 | y :: y' :: rs, h =>
  obtain ⟨xs, hu, hx⟩ := h
  exact ⟨xs, hx, fun {_ _ _ _ rs'} hl hx' => by
   match rs', hl, hx' with
   | a :: b :: r, _, hx' => exact ⟨xs, hu, hx'⟩⟩
variable {P : Program} {A : Ann}
theorem SpOk.fresh (hP : POk P) (hA : AnnOk P A) {f : FuncId} {sp : List Y → Heap → Option (List Y × Heap)}
  (h : ∀ args H rs H1, sp args H = some (rs, H1) → ∃ as k rs0 H', args.mapM (snapY H) = some as ∧ runX P A k f as [] = some (rs0, H') ∧ Fresh H rs0 H' rs H1) : SpOk P f sp := by
 intro args H rs H1 hsp
 obtain ⟨as, k, rs0, H', has, hk, hf⟩ := h _ _ _ _ hsp
 obtain ⟨hfn, hc⟩ := run_sound hP hA k _ _ _ _ _ hk
 refine ⟨hfn, fun B β w us hst ha => ?_⟩
 let B' : Nat → Prop := fun b => B b ∨ ∃ id o, H[id]? = some o ∧ o.mut = true ∧ (β id).1 = b
 have hB : ∀ b, B' b ↔ B b ∨ ∃ id o, H[id]? = some o ∧ o.mut = true ∧ (β id).1 = b := fun b => Iff.rfl
 have hst0 : StR B' β [] w := ⟨fun id o h => by simp at h, fun i j oi oj h => by simp at h, fun id o h => by simp at h, fun b hb => by
  rcases hb with hb | ⟨id, o, ho, hm, rfl⟩
  ·exact hst.blt b hb
  ·exact hst.inb id o ho (O.there_mut hm), fun id o h => by simp at h⟩
 refine (hc B' β w us hst0 (snapYs_sound hst hB ha has)).mono fun e w' he => ?_
 obtain ⟨u, β', rfl, hst', stp', hr⟩ := he
 obtain ⟨stp, hstk⟩ := keep_stp hst stp'.os stp'.tape stp'.output stp'.size stp'.empty
 cases hf with
 | back hrs =>
  refine ⟨u, β, rfl, hstk, stp, ?_⟩
  unfold RepRes at hr ⊢
  rcases pack_mapM hrs with ⟨r, r', rfl, rfl, hb⟩ | ⟨h1, h2⟩
  ·exact backY_sound hB hst' hr hb
  ·rw [h1] at hr
   rw [h2]
   obtain ⟨xs, rfl, hx⟩ := hr
   exact ⟨xs, rfl, backYs_sound hB hst' hx hrs⟩
 | @row id d st sz off len pu capd cs r H' ho hcs hrr =>
  have hpl : (β' id).1 < w'.heap.size := hst'.inb id _ ho rfl
  have hfr : w.heap.size ≤ (β' id).1 := by
   refine Nat.le_of_not_lt fun hlt => ?_
   exact (stp'.free _ ⟨hlt, fun j o hj => by simp at hj⟩).2.2 id _ ho rfl rfl
  obtain ⟨g1, g2, g3, g4, arr, e, g5, g6, g7⟩ := hst'.live id _ ho
  obtain ⟨k1, k2⟩ := add_thing hst stp'.os stp'.tape stp'.output stp'.size stp'.empty (β' id) hfr hpl (.row pu true d st sz cs) ⟨g1, g2, g3, g4, arr, e, by rw [upd_same]; exact g5, by rw [upd_same]; exact g6, by
   rw [upd_same]
   exact g7.mono_mem fun c _ hm hr => rep_plain (List.all_eq_true.1 hcs c hm) hr⟩
  refine ⟨u, _, rfl, k1, k2, ?_⟩
  obtain ⟨vs, hvs, hback⟩ := pack_all2 hr
  refine hback rfl ?_
  cases hvs with
  | cons r1 r2 =>
   refine .cons ?_ (r2.mono_mem fun y _ hm hr => repY_plain (List.all_eq_true.1 hrr y hm) hr)
   obtain ⟨pu', mu', d', st', sz', cells', ho', hle, hu, hh⟩ := r1
   rw [ho] at ho'
   cases ho'
   exact ⟨pu, true, d, st, sz, cs, by simp, hle, hu, by rw [upd_same]; exact hh⟩
theorem Runs.spec {f : FuncId} {sp : List Y → Heap → Option (List Y × Heap)} {args rs : List Y} {H H1 : Heap} (hm : A.may f = false) (hs : A.spec f = some sp) (h : sp args H = some (rs, H1)) : Runs P A f args H rs H1 := by
 refine ⟨1, ?_⟩
 unfold runX
 rw [if_neg (by simp [hm]), hs]
 exact h
end
end Go.Lg
end
section
namespace Go.Lg
section
variable {P : Program} {B : Nat → Prop} {β : Nat → Nat × Nat} {H : Heap} {w w0 w' : World}
structure Tail (b lim : Nat) (w0 w : World) : Prop where
 os : w.os = w0.os
 tape : w.tape = w0.tape
 output : w.output = w0.output
 size : w0.heap.size ≤ w.heap.size
 old : ∀ k, k < w0.heap.size → k ≠ b → w.heap[k]? = w0.heap[k]?
 blk : ∀ arr e, w0.heap[b]? = some (.cells arr e (0, 0)) → ∃ arr' : Array Value, w.heap[b]? = some (.cells arr' e (0, 0)) ∧ arr'.size = arr.size ∧ ∀ j, j < lim → arr'[j]? = arr[j]?
theorem Tail.refl (b lim : Nat) (w : World) : Tail b lim w w := ⟨rfl, rfl, rfl, Nat.le_refl _, fun _ _ _ => rfl, fun arr _ h => ⟨arr, h, rfl, fun _ _ => rfl⟩⟩
def Behind (P : Program) (b lim : Nat) (w0 : World) (n : Nat) (w : World) (u : Value) : Prop :=
 ∃ a cap olds, u = .slice a n cap ∧ IsSl P w 1 n olds u ∧
  (n < cap → ∃ k o arr e, a = some ⟨k, o, none⟩ ∧ w.heap[k]? = some (.cells arr e (0, 0)) ∧ o + cap ≤ arr.size ∧ ((k = b ∧ lim ≤ o + n) ∨ w0.heap.size ≤ k))
structure Grow (w w' : World) : Prop where
 os : w'.os = w.os
 tape : w'.tape = w.tape
 output : w'.output = w.output
 size : w.heap.size ≤ w'.heap.size
 old : ∀ k, k < w.heap.size → w'.heap[k]? = w.heap[k]?
theorem New.grow {o : Obj} (hN : New w o w') : Grow w w' := ⟨hN.os, hN.tape, hN.output, by rw [hN.size]; omega, fun _ h => hN.old h⟩
theorem Tail.grow {b lim : Nat} (h : Tail b lim w0 w) (hN : Grow w w') : Tail b lim w0 w' := by
 refine ⟨hN.os.trans h.os, hN.tape.trans h.tape, hN.output.trans h.output, Nat.le_trans h.size hN.size, fun k hk hkb => ?_, fun arr e he => ?_⟩
 ·rw [hN.old _ (Nat.lt_of_lt_of_le hk h.size)]; exact h.old k hk hkb
 ·rw [hN.old _ (Nat.lt_of_lt_of_le (Array.getElem?_eq_some_iff.1 he).1 h.size)]; exact h.blk arr e he
theorem IsSl.grow {sz n : Nat} {xs : List Value} {u : Value} (hsl : IsSl P w sz n xs u) (hN : Grow w w') : IsSl P w' sz n xs u := by
 obtain ⟨⟨a, cap, rfl, hle⟩, hl, _, _, hat⟩ := hsl
 refine isSl_mk hle hl fun hne => ?_
 obtain ⟨ad, cap', heq, hcell⟩ := hat hne
 cases heq
 refine ⟨ad, rfl, fun j x hj => ?_⟩
 have := hcell j x hj
 have hblt : (ad.add j).block < w.heap.size := by
  refine Nat.lt_of_not_le fun hge => ?_
  unfold World.cell? at this
  have hn : w.heap[(ad.add j).block]? = none := Array.getElem?_eq_none hge
  simp [hn] at this
 rw [← this]
 exact World.cell?_of_block (hN.old _ hblt)
theorem Behind.grow {b lim n : Nat} {u : Value} (h : Behind P b lim w0 n w u) (hN : Grow w w') : Behind P b lim w0 n w' u := by
 obtain ⟨a, cap, olds, rfl, hsl, hroom⟩ := h
 refine ⟨a, cap, olds, rfl, hsl.grow hN, fun hc => ?_⟩
 obtain ⟨k, o', arr, e, rfl, hb, hsz, hor⟩ := hroom hc
 refine ⟨k, o', arr, e, rfl, ?_, hsz, hor⟩
 rw [hN.old _ (by
  refine Nat.lt_of_not_le fun hge => ?_
  rw [Array.getElem?_eq_none hge] at hb; cases hb)]
 exact hb
theorem op_step {ops : Array Oper} {Q : Exit → Act → World → Prop} {i : Nat} {l : List Nat} {a : Act} {o : Oper} {u : Value} (ho : ops[i]? = some o) (hg : o.guard = none) (hx : (execOp a.eval o).run P w = .ok (.value u) w')
  (hn : wpOps P ops Q l (a.put o.dst u) w') : wpOps P ops Q (i :: l) a w := by
 rw [wpOps_cons]
 unfold wpOp
 rw [ho]
 simp only [Region.wanted, hg, if_true]
 exact .inl (wp_value hx hn)
end
end Go.Lg
end
section
namespace Go.Lg
section
variable {P : Program} {A : Ann} {f : FuncId} {e e1 e2 : Env} {H H1 H2 : Heap} {Q : Ex → Env → Heap → Prop}
def XPost (B : Nat → Prop) (β0 : Nat → Nat × Nat) (H0 : Heap) (w0 : World) (n : Nat) (ds : List Deferred) (Q : Ex → Env → Heap → Prop) (ex : Exit) (a' : Act) (w' : World) : Prop :=
 ∃ x e' H' β', Q x e' H' ∧ ex = x.to ∧ StR B β' H' w' ∧ Stp β0 H0 w0 β' H' w' ∧ EnvR B β' H' w' e' a'.tmps ∧ a'.tmps.size = n ∧ a'.defers = ds
def XWp (P : Program) (A : Ann) (f : FuncId) (c : Code) (e : Env) (H : Heap) (Q : Ex → Env → Heap → Prop) : Prop :=
 POk P → AnnOk P A → ∀ (n : Nat) (B : Nat → Prop) (β : Nat → Nat × Nat) (w : World) (a : Act), codeOK A f n c = true → StR B β H w → EnvR B β H w e a.tmps → a.tmps.size = n → c.wp P (XPost B β H w n a.defers Q) a w
theorem XPost.trans {B : Nat → Prop} {β0 β1 : Nat → Nat × Nat} {H0 : Heap} {w0 w1 : World} {n : Nat} {ds : List Deferred} {ex : Exit} {a' : Act} {w' : World} (s : Stp β0 H0 w0 β1 H1 w1) (h : XPost B β1 H1 w1 n ds Q ex a' w') : XPost B β0 H0 w0 n ds Q ex a' w' := by
 obtain ⟨x, e', H', β', h1, h2, h3, h4, h5⟩ := h
 exact ⟨x, e', H', β', h1, h2, h3, s.trans h4, h5⟩
theorem XPost.mono {B : Nat → Prop} {β0 : Nat → Nat × Nat} {H0 : Heap} {w0 : World} {n : Nat} {ds : List Deferred} {Q' : Ex → Env → Heap → Prop} (g : ∀ x e H, Q x e H → Q' x e H) {ex : Exit} {a' : Act} {w' : World} (h : XPost B β0 H0 w0 n ds Q ex a' w') : XPost B β0 H0 w0 n ds Q' ex a' w' := by
 obtain ⟨x, e', H', β', h1, h2⟩ := h
 exact ⟨x, e', H', β', g _ _ _ h1, h2⟩
theorem XWp.mono {c : Code} {Q' : Ex → Env → Heap → Prop} (h : XWp P A f c e H Q) (g : ∀ x e H, Q x e H → Q' x e H) : XWp P A f c e H Q' :=
 fun hP hA n B β w a hok hst he hn => Code.wp_mono (fun _ _ _ hx => hx.mono g) (h hP hA n B β w a hok hst he hn)
theorem XWp.of_wp {c : Code} (h : Wp P A f c e H Q) : XWp P A f c e H Q := by
 intro hP hA n B β w a hok hst he hn
 obtain ⟨x, e', H', ⟨k, hk⟩, hq⟩ := h
 exact (code_sound hP (run_sound hP hA k) (run_hid hA.code (fun f sp h => (hA.spec f sp h).2) k) k).1 hk hok hst he hn fun β' w' a' g1 g2 g3 g4 g5 => ⟨x, e', H', β', hq, rfl, g1, g2, g3, g4, g5⟩
theorem XWp.seq {a b : Code} (h : XWp P A f a e H fun x e1 H1 => match x with | .normal => XWp P A f b e1 H1 Q | x => Q x e1 H1) : XWp P A f (.seq a b) e H Q := by
 intro hP hA n B β w a' hok hst he hn
 simp only [codeOK, kA] at hok
 refine wp_seq (Code.wp_mono ?_ (h hP hA n B β w a' hok.1 hst he hn))
 rintro ex a1 w1 ⟨x, e1, H1, β1, hq, rfl, g1, g2, g3, g4, g5⟩
 cases x with
 | normal =>
  simp only [Ex.to, Exit.then]
  refine Code.wp_mono (fun _ _ _ hx => ?_) (hq hP hA n B β1 w1 a1 hok.2 g1 g3 g4)
  rw [g5] at hx
  exact hx.trans g2
 | _ => exact ⟨_, e1, H1, β1, hq, rfl, g1, g2, g3, g4, g5⟩
theorem XWp.region {id : Nat} {ops : Array Oper} {d : Bool} (ans : List (Nat × X × Heap)) (e1 : Env) (H1 : Heap) (ho : obO P A (mkM (A.mask f id) (A.late f id) H.length) ops ans (List.range ops.size) e (holesX (A.late f id) H))
  (hr : (runO P A (mkM (A.mask f id) (A.late f id) H.length) ops ans (List.range ops.size) e (holesX (A.late f id) H)).map (fun x => (liveX A f id x.1, x.2)) = some (e1, H1)) (h : Q .normal e1 H1) : XWp P A f (.region id ops d) e H Q :=
 XWp.of_wp (wR ans e1 H1 ho hr h)
theorem XWp.regionSeq {id : Nat} {ops : Array Oper} {d : Bool} {b : Code} (ans : List (Nat × X × Heap)) (e1 : Env) (H1 : Heap) (ho : obO P A (mkM (A.mask f id) (A.late f id) H.length) ops ans (List.range ops.size) e (holesX (A.late f id) H))
  (hr : (runO P A (mkM (A.mask f id) (A.late f id) H.length) ops ans (List.range ops.size) e (holesX (A.late f id) H)).map (fun x => (liveX A f id x.1, x.2)) = some (e1, H1)) (h : XWp P A f b e1 H1 Q) : XWp P A f (.seq (.region id ops d) b) e H Q :=
 XWp.seq (XWp.region ans e1 H1 ho hr h)
theorem XWp.gen {c : Code} {cs : List HP} (hs : On cs H) (h : ∀ H, On cs H → XWp P A f c e H Q) : XWp P A f c e H Q := h H hs
theorem XWp.condT {c : Operand} {a b : Code} (hc : ev e c = .y (.one (.sc (.bool true)))) (h : XWp P A f a e H Q) : XWp P A f (.cond c a b) e H Q := by
 intro hP hA n B β w a' hok hst he hn
 simp only [codeOK, kA] at hok
 have := ev_sound he c
 rw [hc] at this
 exact wp_cond_true this.2 (h hP hA n B β w a' hok.1 hst he hn)
theorem XWp.condF {c : Operand} {a b : Code} (hc : ev e c = .y (.one (.sc (.bool false)))) (h : XWp P A f b e H Q) : XWp P A f (.cond c a b) e H Q := by
 intro hP hA n B β w a' hok hst he hn
 simp only [codeOK, kA] at hok
 have := ev_sound he c
 rw [hc] at this
 exact wp_cond_false this.2 (h hP hA n B β w a' hok.2 hst he hn)
theorem XWp.block {id : Nat} {c : Code} (h : XWp P A f c e H fun x e1 H1 => match x with | .exit id' => (if id' = id then Q .normal e1 H1 else Q (.exit id') e1 H1) | x => Q x e1 H1) : XWp P A f (.block id c) e H Q := by
 intro hP hA n B β w a hok hst he hn
 refine wp_block (Code.wp_mono ?_ (h hP hA n B β w a hok hst he hn))
 rintro ex a1 w1 ⟨x, e1, H1, β1, hq, rfl, g⟩
 cases x with
 | exit id' =>
  simp only [Ex.to, Exit.inBlock]
  simp only at hq
  split at hq
  ·rename_i hid; rw [if_pos (by simp [hid])]; exact ⟨.normal, e1, H1, β1, hq, rfl, g⟩
  ·rename_i hid; rw [if_neg (by simp [hid])]; exact ⟨.exit id', e1, H1, β1, hq, rfl, g⟩
 | _ => exact ⟨_, e1, H1, β1, hq, rfl, g⟩
theorem XWp.skip (h : Q .normal e H) : XWp P A f .skip e H Q := XWp.of_wp (wK h)
theorem XWp.label {l : Nat} (h : Q .normal e H) : XWp P A f (.label l) e H Q := XWp.of_wp (Wp.label h)
theorem XWp.exit {id : Nat} (h : Q (.exit id) e H) : XWp P A f (.exit id) e H Q := XWp.of_wp (wX h)
theorem XWp.ret (h : Q .ret e H) : XWp P A f .ret e H Q := XWp.of_wp (wE h)
theorem XWp.regionK {id : Nat} {ops : Array Oper} {d : Bool} (ans : List (Nat × X × Heap)) (e1 : Env) (H1 : Heap) (ho : obO P A (mkM (A.mask f id) (A.late f id) H.length) ops ans (List.range ops.size) e (holesX (A.late f id) H))
  (hr : (runO P A (mkM (A.mask f id) (A.late f id) H.length) ops ans (List.range ops.size) e (holesX (A.late f id) H)).map (fun x => (liveX A f id x.1, x.2)) = some (e1, H1)) (h : Wp P A f .skip e1 H1 Q) : XWp P A f (.region id ops d) e H Q :=
 XWp.of_wp (rKq ans e1 H1 ho hr h)
theorem XWp.loop {c : Code} {T : Type} (m : T → Nat) (envT : T → Env) (heapT : T → Heap) (I : T → Prop) (t0 : T)
  (h0 : (headX ((firstRegion c).bind (A.loop f)) e, H) = (envT t0, heapT t0)) (hI : I t0)
  (hb : ∀ t, I t → XWp P A f c (envT t) (heapT t) fun x e' H' => match x with
   | .normal => ∃ t', endX ((firstRegion c).bind (A.loop f)) H.length e' H' = some (envT t', heapT t') ∧ I t' ∧ m t' < m t
   | x => Q x e' H') : XWp P A f (.loop c) e H Q := by
 intro hP hA n B β w a hok hst he hn
 have hk : ∀ (k : Nat) (t : T) (β1 : Nat → Nat × Nat) (w1 : World) (a1 : Act), I t → m t < k → Stp β H w β1 (heapT t) w1 → StR B β1 (heapT t) w1 → EnvR B β1 (heapT t) w1 (envT t) a1.tmps → a1.tmps.size = n → a1.defers = a.defers →
   Code.rounds P c (XPost B β H w n a.defers Q) k a1 w1 := by
  intro k
  induction k with
  | zero => intro t β1 w1 a1 _ h; omega
  | succ k ih =>
   intro t β1 w1 a1 ht hm hs hst1 he1 hn1 hd1
   rw [rounds_succ]
   refine Code.wp_mono ?_ (hb t ht hP hA n B β1 w1 a1 hok hst1 he1 hn1)
   rintro ex a2 w2 ⟨x, e2, H2, β2, hq, rfl, g1, g2, g3, g4, g5⟩
   cases x with
   | normal =>
    simp only [Ex.to, Exit.then]
    obtain ⟨t', hend, ht', hlt⟩ := hq
    unfold endX at hend
    obtain ⟨H3, h3, h4⟩ := kM.1 hend
    simp only [kP] at h4
    obtain ⟨h5, rfl⟩ := h4
    have he2 : EnvR B β2 H2 w2 (headX ((firstRegion c).bind (A.loop f)) e2) a2.tmps := by
     unfold headX
     split
     ·exact g3.restrict _
     ·exact g3
    split at h3
    ·obtain ⟨hH3, t1, t2⟩ := trunc_sound g1 he2 h3
     rw [← hH3] at t1 t2
     have hsT : Stp β H w β2 (heapT t') w2 := by rw [hH3]; exact (hs.trans g2).take rfl
     exact ih t' β2 w2 a2 ht' (by omega) hsT t1 (by rw [← h5]; exact t2) g4 (g5.trans hd1)
    ·have h6 : H2 = heapT t' := by simpa using h3
     exact ih t' β2 w2 a2 ht' (by omega) (by rw [← h6]; exact hs.trans g2) (by rw [← h6]; exact g1) (by rw [← h6, ← h5]; exact he2) g4 (g5.trans hd1)
   | _ => exact ⟨_, e2, H2, β2, hq, rfl, g1, hs.trans g2, g3, g4, g5.trans hd1⟩
 refine wp_loop_rounds (m t0 + 1) (hk (m t0 + 1) t0 β w a hI (Nat.lt_succ_self _) ?_ ?_ ?_ hn rfl)
 all_goals rw [← (Prod.mk.inj h0).2]
 ·exact Stp.refl _ _ _
 ·exact hst
 ·rw [← (Prod.mk.inj h0).1]
  unfold headX
  split
  ·exact he.restrict _
  ·exact he
end
end Go.Lg
end
section
namespace Go.Lg
section
variable {P : Program} {A : Ann} {f : FuncId} {e : Env} {H : Heap} {Q : Ex → Env → Heap → Prop} {B : Nat → Prop} {β : Nat → Nat × Nat} {w : World}
theorem retell_stp {id : Nat} {v v' : MapV} (ho : H[id]? = some (.map v)) (hv : v.isMap = true) (hv' : v'.isMap = true) : Stp β H w β (H.set id (.map v')) w := by
 have hlt := lt_of_get ho
 have hm : ∀ u : MapV, u.isMap = true → O.mut (.map u) = true ∧ u.isIter = false ∧ u ≠ .hole := by
  intro u hu; cases u <;> first | (cases hu; done) | exact ⟨rfl, rfl, by simp⟩
 refine ⟨rfl, rfl, rfl, Nat.le_refl _, fun b hb => ⟨rfl, hb.1, fun j oj hj hm' => ?_⟩, fun j oj hj => ?_⟩
 ·by_cases e : j = id
  ·subst e; exact hb.2 j _ ho (hm v hv).1
  ·rw [List.getElem?_set_ne (fun x => e x.symm)] at hj; exact hb.2 j oj hj hm'
 ·by_cases e : j = id
  ·subst e
   rw [ho] at hj
   cases hj
   exact ⟨.map v', by simp [hlt], (Kept.map_iff (hm v hv).2.2).2 ⟨v', rfl, rfl, by rw [(hm v hv).2.1, (hm v' hv').2.1], by rw [hv, hv'], (hm v' hv').2.2⟩⟩
  ·exact ⟨oj, by rw [List.getElem?_set_ne (fun x => e x.symm)]; exact hj, Kept.same fun _ => rfl⟩
theorem retell_str (hst : StR B β H w) {id : Nat} {v v' : MapV} (ho : H[id]? = some (.map v)) (hv : v.isMap = true) (hv' : v'.isMap = true) (hobj : ObjOk B β (H.set id (.map v')) w id (.map v')) : StR B β (H.set id (.map v')) w := by
 have hlt := lt_of_get ho
 have hs := retell_stp (β := β) (w := w) ho hv hv'
 have ht : ∀ u : MapV, u.isMap = true → O.there (.map u) = true := by intro u hu; cases u <;> first | (cases hu; done) | rfl
 have hget : ∀ j oj, (H.set id (.map v'))[j]? = some oj → (j = id ∧ oj = .map v') ∨ (j ≠ id ∧ H[j]? = some oj) := by
  intro j oj hj
  by_cases e : j = id
  ·subst e; left; exact ⟨rfl, by simpa [hlt] using hj.symm⟩
  ·right; rw [List.getElem?_set_ne (fun x => e x.symm)] at hj; exact ⟨e, hj⟩
 have hold : ∀ (j : Nat) (oj : O), (H.set id (.map v'))[j]? = some oj → oj.there = true → ∃ o0 : O, H[j]? = some o0 ∧ o0.there = true := by
  intro j oj hj hjt
  rcases hget j oj hj with ⟨rfl, rfl⟩ | ⟨_, h⟩
  ·exact ⟨_, ho, ht v hv⟩
  ·exact ⟨oj, h, hjt⟩
 refine ⟨fun j oj hj hjt => ?_, fun i j oi oj hi hti hj htj hij => ?_, fun j oj hj hjt => ?_, hst.blt, fun j oj hj => ?_⟩
 ·obtain ⟨o0, h0, t0⟩ := hold j oj hj hjt; exact hst.inb j o0 h0 t0
 ·obtain ⟨o0, h0, t0⟩ := hold i oi hi hti
  obtain ⟨o1, h1, t1⟩ := hold j oj hj htj
  exact hst.inj i j o0 o1 h0 t0 h1 t1 hij
 ·obtain ⟨o0, h0, t0⟩ := hold j oj hj hjt; exact hst.bor j o0 h0 t0
 ·rcases hget j oj hj with ⟨rfl, rfl⟩ | ⟨e, h⟩
  ·exact hobj
  ·exact (hst.live j oj h).mono hs rfl fun _ => rfl
theorem XWp.unbag {c : Code} {id : Nat} {es : List (Value × Value)} (hH : H[id]? = some (.map (.bag es)))
  (h : ∀ es' clock, BagOk es es' clock → XWp P A f c e (H.set id (.map (.map es' clock))) fun x e' H' => H'[id]? = some (.map (.map es' clock)) ∧ Q x e' (H'.set id (.map (.bag es)))) : XWp P A f c e H Q := by
 intro hP hA n B β w a hok hst he hn
 obtain ⟨es', clock, hb, hbo⟩ := hst.live id _ hH
 have s1 := retell_stp (β := β) (w := w) hH (v' := .map es' clock) rfl rfl
 have r1 := retell_str hst hH (v' := .map es' clock) rfl rfl hb
 refine Code.wp_mono ?_ (h es' clock hbo hP hA n B β w a hok r1 (he.mono s1) hn)
 rintro ex a' w' ⟨x, e', H', β', ⟨hH', hq⟩, rfl, g1, g2, g3, g4, g5⟩
 have s2 := retell_stp (β := β') (w := w') hH' (v' := .bag es) rfl rfl
 exact ⟨x, e', _, β', hq, rfl, retell_str g1 hH' rfl rfl ⟨es', clock, g1.live id _ hH', hbo⟩, (s1.trans g2).trans s2, g3.mono s2, g4, g5⟩
theorem run_next {r mb : Nat} {es : Array MapEntry} {ck : Nat} {seen : Array Nat} (type : TypeId) (hr : w.heap[r]? = some (.mapIter (some mb) ck seen ck)) (hm : w.heap[mb]? = some (.map es ck)) (hb : ∀ e ∈ es.toList, e.born < ck) :
  ((∀ e ∈ es.toList, seen.contains e.born = true) ∧ (Instr.next (.pointer (some ⟨r, 0, none⟩)) false type).run P w = .ok (.tuple #[.bool false]) w) ∨
  ∃ e ∈ es.toList, seen.contains e.born = false ∧ ∃ k, (Instr.next (.pointer (some ⟨r, 0, none⟩)) false type).run P w = .ok (.tuple #[.bool true, e.key, e.val]) { w with drawn := k, heap := w.heap.setIfInBounds r (.mapIter (some mb) ck (seen.push e.born) ck) } := by
 have hg := run_getO (P := P) hr (by intro c e f hh; cases hh)
 have hg2 := MapKept.run_getObj_map (P := P) hm
 have hs := fun (o' : Obj) => run_setO (P := P) o' hr (by intro c e f hh; cases hh)
 have hguard : (!seen.isEmpty && !es.isEmpty && es.all fun e => decide (e.born ≥ ck)) = false := by
  cases hes : es.toList with
  | nil =>
   have : es.isEmpty = true := by rw [Array.isEmpty_iff, ← Array.toList_eq_nil_iff]; exact hes
   simp [this]
  | cons x l =>
   have hx := hb x (by rw [hes]; simp)
   have : (es.all fun e => decide (e.born ≥ ck)) = false := by
    rw [Array.all_eq_false]
    have hlt : 0 < es.size := by rw [← Array.length_toList, hes]; simp
    refine ⟨0, hlt, ?_⟩
    have : es[0] = x := by rw [← Array.getElem_toList (h := by simpa using hlt)]; simp [hes]
    rw [this]
    simp; omega
   simp [this]
 generalize hleft : (es.filter fun e => !seen.contains e.born) = left
 have hlmem : ∀ e, e ∈ left.toList ↔ e ∈ es.toList ∧ seen.contains e.born = false := by
  intro e; rw [← hleft, Array.toList_filter, List.mem_filter]; simp
 have hold : (left.filter fun e => decide (e.born < ck)) = left := by
  rw [Array.filter_eq_self]
  intro e he
  have := hb e ((hlmem e).1 (by simpa using he)).1
  simpa using this
 have hnew : (left.filter fun e => decide (e.born ≥ ck)) = #[] := by
  rw [Array.filter_eq_empty_iff]
  intro e he
  have := hb e ((hlmem e).1 (by simpa using he)).1
  simp; omega
 by_cases he : left = #[]
 ·left
  refine ⟨fun e hem => ?_, ?_⟩
  ·cases hc : seen.contains e.born with
   | true => rfl
   | false => have := (hlmem e).2 ⟨hem, hc⟩; rw [he] at this; simp at this
  ·unfold Instr.next
   simp only [Sem.run_bind, hg, hg2, Result.andThen, hguard, Bool.false_eq_true, if_false, hleft, hold, hnew]
   subst he
   simp [Question.forced]
 ·right
  have hne : left.isEmpty = false := by
   cases h : left.isEmpty with
   | false => rfl
   | true => exact absurd (Array.isEmpty_iff.1 h) he
  have hsz : 0 < left.size := Nat.pos_of_ne_zero fun h => he (Array.size_eq_zero_iff.1 h)
  have key : ∀ i, i < left.size → ∃ e ∈ es.toList, seen.contains e.born = false ∧ left[i]? = some e := by
   intro i hi
   have hm := (hlmem left[i]).1 (by simp)
   exact ⟨left[i], hm.1, hm.2, Array.getElem?_eq_getElem hi⟩
  by_cases h1 : left.size ≤ 1
  ·obtain ⟨e, h2, h3, h4⟩ := key 0 hsz
   refine ⟨e, h2, h3, w.drawn, ?_⟩
   unfold Instr.next
   simp only [Sem.run_bind, hg, hg2, Result.andThen, hguard, Bool.false_eq_true, if_false, hleft, hold, hnew, hne]
   simp [Question.forced, h1, h4, hs]
  ·obtain ⟨e, h2, h3, h4⟩ := key (w.tape w.drawn (.mapNext left.size) % left.size) (Nat.mod_lt _ hsz)
   refine ⟨e, h2, h3, w.drawn + 1, ?_⟩
   have hs' := run_setO (P := P) (w := w.drew) (.mapIter (some mb) ck (seen.push e.born) ck) hr (by intro c e f hh; cases hh)
   unfold Instr.next
   simp only [Sem.run_bind, hg, hg2, Result.andThen, hguard, Bool.false_eq_true, if_false, hleft, hold, hnew, hne]
   simp [Question.forced, h1, Question.cut, h4, hs']
   exact ⟨rfl, rfl, rfl⟩
def Went {α : Type} (en : α → Value × Value) (es : Array MapEntry) (seen : Array Nat) (D : List α) : Prop :=
 ∃ ds : List MapEntry, seen.toList = ds.map (·.born) ∧ (ds.map (·.born)).Nodup ∧ (∀ d ∈ ds, d ∈ es.toList) ∧ ds.map (fun d => (d.key, d.val)) = D.map en
theorem went_nil {α : Type} (en : α → Value × Value) (es : Array MapEntry) : Went en es #[] [] := ⟨[], rfl, List.nodup_nil, (fun _ h => by cases h), rfl⟩
theorem went_push {α : Type} {en : α → Value × Value} {es : Array MapEntry} {seen : Array Nat} {D : List α} (h : Went en es seen D) {d : MapEntry} {x : α} (hd : d ∈ es.toList) (hs : seen.contains d.born = false) (hx : en x = (d.key, d.val)) : Went en es (seen.push d.born) (D ++ [x]) := by
 obtain ⟨ds, h1, h2, h3, h4⟩ := h
 refine ⟨ds ++ [d], by simp [h1], ?_, fun y hy => ?_, by simp [h4, hx]⟩
 ·rw [List.map_append, List.nodup_append]
  refine ⟨h2, by simp, fun a ha b hb => ?_⟩
  simp only [List.map_cons, List.map_nil, List.mem_singleton] at hb
  subst hb
  intro e
  subst e
  have : d.born ∈ seen.toList := by rw [h1]; exact ha
  have : seen.contains d.born = true := by simpa using this
  rw [hs] at this; cases this
 ·simp only [List.mem_append, List.mem_singleton] at hy
  rcases hy with hy | rfl
  ·exact h3 y hy
  ·exact hd
theorem nodup_of_map {α β : Type} {g : α → β} : ∀ {l : List α}, (l.map g).Nodup → l.Nodup
 | [], _ => List.nodup_nil
 | x :: l, h => by
  rw [List.map_cons, List.nodup_cons] at h
  rw [List.nodup_cons]
  exact ⟨fun hx => h.1 (List.mem_map_of_mem hx), nodup_of_map h.2⟩
theorem inj_of_nodup {α β : Type} {g : α → β} : ∀ {l : List α}, (l.map g).Nodup → ∀ x ∈ l, ∀ y ∈ l, g x = g y → x = y
 | [], _, _, h, _, _, _ => by cases h
 | z :: l, h, x, hx, y, hy, e => by
  rw [List.map_cons, List.nodup_cons] at h
  rcases List.mem_cons.1 hx with hx | hx <;> rcases List.mem_cons.1 hy with hy | hy
  ·rw [hx, hy]
  ·exact absurd (List.mem_map.2 ⟨y, hy, by rw [← e, hx]⟩) h.1
  ·exact absurd (List.mem_map.2 ⟨x, hx, by rw [e, hy]⟩) h.1
  ·exact inj_of_nodup h.2 x hx y hy e
theorem perm_of_map {α β : Type} {en : α → β} (hi : ∀ x y, en x = en y → x = y) {l m : List α} (h : (l.map en).Perm (m.map en)) : l.Perm m := by
 induction l generalizing m with
 | nil => have := h.length_eq; simp at this; rw [List.eq_nil_of_length_eq_zero this.symm]
 | cons x l ih =>
  have hx : en x ∈ m.map en := h.subset (by simp)
  obtain ⟨y, hy, he⟩ := List.mem_map.1 hx
  obtain rfl := hi _ _ he
  obtain ⟨m1, m2, rfl⟩ := List.append_of_mem hy
  have h2 : ((y :: l).map en).Perm (en y :: (m1 ++ m2).map en) := h.trans (by rw [List.map_append, List.map_cons, List.map_append]; exact List.perm_middle)
  rw [List.map_cons] at h2
  exact ((ih (List.Perm.cons_inv h2)).cons y).trans List.perm_middle.symm
theorem went_end {α : Type} {en : α → Value × Value} (hi : ∀ x y, en x = en y → x = y) {es : Array MapEntry} {ck : Nat} {seen : Array Nat} {L D : List α} (hb : BagOk (L.map en) es ck) (h : Went en es seen D) (ha : ∀ e ∈ es.toList, seen.contains e.born = true) : D.Perm L := by
 obtain ⟨ds, h1, h2, h3, h4⟩ := h
 obtain ⟨hp, hnd, _⟩ := hb
 refine perm_of_map hi ?_
 rw [← h4]
 refine List.Perm.trans ?_ hp
 have hinj := inj_of_nodup hnd
 have hdn : ds.Nodup := nodup_of_map h2
 have hen : es.toList.Nodup := nodup_of_map hnd
 have : ds.Perm es.toList := by
  rw [List.perm_ext_iff_of_nodup hdn hen]
  intro x
  refine ⟨h3 x, fun hx => ?_⟩
  have hc := ha x hx
  have : x.born ∈ seen.toList := by simpa using hc
  rw [h1] at this
  obtain ⟨y, hy, hxy⟩ := List.mem_map.1 this
  rw [← hinj y (h3 y hy) x hx hxy]; exact hy
 exact this.map _
theorem went_lt {α : Type} {en : α → Value × Value} {es : Array MapEntry} {ck : Nat} {seen : Array Nat} {L D : List α} (hb : BagOk (L.map en) es ck) (h : Went en es seen D) {d : MapEntry} (hd : d ∈ es.toList) (hs : seen.contains d.born = false) : D.length < L.length := by
 obtain ⟨ds, h1, h2, h3, h4⟩ := h
 obtain ⟨hp, hnd, _⟩ := hb
 have hl1 : ds.length = D.length := by have := congrArg List.length h4; simpa using this
 have hl2 : es.toList.length = L.length := by have := hp.length_eq; simpa using this
 have hsub : ((ds ++ [d]).map (·.born)).Nodup := by
  rw [List.map_append, List.nodup_append]
  refine ⟨h2, by simp, fun a ha b hb => ?_⟩
  simp only [List.map_cons, List.map_nil, List.mem_singleton] at hb
  subst hb
  intro e
  subst e
  have : d.born ∈ seen.toList := by rw [h1]; exact ha
  have : seen.contains d.born = true := by simpa using this
  rw [hs] at this; cases this
 have hle := List.Nodup.length_le_of_subset hsub (l₂ := es.toList.map (·.born)) (fun b hb => by
  obtain ⟨y, hy, rfl⟩ := List.mem_map.1 hb
  simp only [List.mem_append, List.mem_singleton] at hy
  rcases hy with hy | rfl
  ·exact List.mem_map_of_mem (h3 y hy)
  ·exact List.mem_map_of_mem hd)
 simp at hle
 simp at hl2
 omega
theorem bag_entry {α : Type} {en : α → Value × Value} {es : Array MapEntry} {ck : Nat} {L : List α} (hb : BagOk (L.map en) es ck) {d : MapEntry} (hd : d ∈ es.toList) : ∃ x ∈ L, en x = (d.key, d.val) := by
 have : (d.key, d.val) ∈ L.map en := hb.1.subset (List.mem_map.2 ⟨d, hd, rfl⟩)
 obtain ⟨x, h1, h2⟩ := List.mem_map.1 this
 exact ⟨x, h1, h2⟩
theorem XWp.next {α : Type} {en : α → Value × Value} (hi : ∀ x y, en x = en y → x = y) {id it m d0 d1 t : Nat} {o0 o1 : Oper} {es : Array MapEntry} {ck : Nat} {seen : Array Nat} {L D : List α}
  (h0 : o0.op = .next (.tmp t) false ∧ o0.dst = some d0 ∧ o0.guard = none) (h1 : o1.op = .extract (.tmp d0) 0 ∧ o1.dst = some d1 ∧ o1.guard = none)
  (ht : get e t = .y (.one (.it it))) (hI : H[it]? = some (.map (.iter (some m) ck seen ck))) (hM : H[m]? = some (.map (.map es ck))) (hB : BagOk (L.map en) es ck) (hW : Went en es seen D)
  (over : D.Perm L → Q .normal (liveX A f id ((d1, xb false) :: (d0, .tup [.one (vb false)]) :: e)) H)
  (more : ∀ x d, x ∈ L → d ∈ es.toList → en x = (d.key, d.val) → Went en es (seen.push d.born) (D ++ [x]) → D.length < L.length →
   Q .normal (liveX A f id ((d1, xb true) :: (d0, .tup [.one (vb true), Y.ofV d.key, Y.ofV d.val]) :: e)) (H.set it (.map (.iter (some m) ck (seen.push d.born) ck)))) :
  XWp P A f (.region id #[o0, o1] false) e H Q := by
 intro hP hA n B β w a hok hst he hn
 obtain ⟨h00, h01, h02⟩ := h0
 obtain ⟨h10, h11, h12⟩ := h1
 simp only [codeOK, regionOK, kA] at hok
 obtain ⟨⟨_, hdst⟩, _⟩ := hok
 have hd0 : d0 < a.tmps.size := by rw [hn]; exact dstOK_spec hdst (i := 0) (o := o0) rfl d0 h01
 have hd1 : d1 < a.tmps.size := by rw [hn]; exact dstOK_spec hdst (i := 1) (o := o1) rfl d1 h11
 have hr := he t
 rw [ht] at hr
 obtain ⟨_, _, _, hu⟩ := (hr : RepA B β H w (.it it) (a.tmps.getD t undef))
 have hib := hst.live it _ hI
 obtain ⟨hib, _⟩ := hib
 have hmb : w.heap[(β m).1]? = some (.map es ck) := hst.live m _ hM
 simp only [kT] at hib
 have hev : a.eval (.tmp t) = .pointer (some ⟨(β it).1, 0, none⟩) := hu
 -- what is behind the two
 have fin : ∀ (b : Bool) (vs : List Value) (w' : World) (H' : Heap), StR B β H' w' → Stp β H w β H' w' → (Instr.next (a.eval (.tmp t)) false o0.type).run P w = .ok (.tuple (Value.bool b :: vs).toArray) w' →
   Q .normal (liveX A f id ((d1, xb b) :: (d0, .tup (.one (vb b) :: vs.map Y.ofV)) :: e)) H' →
   wpOps P #[o0, o1] (XPost B β H w n a.defers Q) (List.range 2) a w := by
  intro b vs w' H' hst' stp hrun hq
  have hx0 : (execOp a.eval o0).run P w = .ok (.value (.tuple (Value.bool b :: vs).toArray)) w' := by
   simpa [execOp, h00] using run_value hrun
  refine op_step (l := [1]) rfl h02 hx0 ?_
  have hput : (a.put o0.dst (.tuple (Value.bool b :: vs).toArray)).eval (.tmp d0) = .tuple (Value.bool b :: vs).toArray := by
   rw [h01]; simp [Act.put, Act.eval, hd0]
  refine op_step (u := .bool b) (w' := w') (l := []) rfl h12 ?_ ?_
  ·simp [execOp, h10, Instr.extract, hput]
  have e1 : EnvR B β H' w' ((d0, .tup (.one (vb b) :: vs.map Y.ofV)) :: e) (a.put o0.dst (.tuple (Value.bool b :: vs).toArray)).tmps := by
   rw [h01]
   refine envR_put (he.mono stp) (d := some d0) (fun t ht => by cases ht; exact hd0) (v := .tup (.one (vb b) :: vs.map Y.ofV)) ⟨Value.bool b :: vs, rfl, .cons ⟨rfl, rfl⟩ ?_⟩
   clear hrun hq hx0 hput
   induction vs with
   | nil => exact .nil
   | cons v vs ih => exact .cons (repY_ofV v) ih
  have e2 : EnvR B β H' w' ((d1, xb b) :: (d0, .tup (.one (vb b) :: vs.map Y.ofV)) :: e) ((a.put o0.dst (.tuple (Value.bool b :: vs).toArray)).put o1.dst (.bool b)).tmps := by
   rw [h11]
   exact envR_put e1 (d := some d1) (fun t ht => by cases ht; rw [put_size]; exact hd1) (v := xb b) ⟨rfl, rfl⟩
  refine ⟨.normal, _, H', β, hq, rfl, hst', stp, ?_, by rw [put_size, put_size, hn], by rw [put_defers, put_defers]⟩
  unfold liveX
  split
  ·exact e2.restrict _
  ·exact e2
 refine wp_region ?_
 rcases run_next (P := P) o0.type hib hmb hB.2.2 with ⟨hall, hrun⟩ | ⟨d, hd, hs, k, hrun⟩
 ·rw [← hev] at hrun
  exact fin false [] w H hst (Stp.refl _ _ _) hrun (over (went_end hi hB hW hall))
 ·rw [← hev] at hrun
  obtain ⟨x, hxL, hx⟩ := bag_entry hB hd
  obtain ⟨g1, g2⟩ := map_turn hst hI (v' := .iter (some m) ck (seen.push d.born) ck) rfl rfl (by simp) (by simp) (.mapIter (some (β m).1) ck (seen.push d.born) ck) (fun w' hw => ⟨hw, fun j hj => by
   cases hj
   by_cases e' : it = m
   ·subst e'; rw [hI] at hM; cases hM
   ·exact ⟨_, by rw [List.getElem?_set_ne e']; exact hM, rfl⟩⟩)
  have g1' := g1.same (w' := { w with drawn := k, heap := w.heap.setIfInBounds (β it).1 (.mapIter (some (β m).1) ck (seen.push d.born) ck) }) rfl rfl rfl rfl
  have g2' := g2.trans (Stp.same (w' := { w with drawn := k, heap := w.heap.setIfInBounds (β it).1 (.mapIter (some (β m).1) ck (seen.push d.born) ck) }) rfl rfl rfl rfl)
  exact fin true [d.key, d.val] _ _ g1' g2' hrun (more x d hxL hd hx (went_push hW hd hs hx) (went_lt hB hW hd hs))
end
end Go.Lg
end
