/- Lemmas. -/
import Derived.Test.YtjdnhbnpdbpgbaaX31
namespace Go.Lg
section
variable {P : Program} {A : Ann} {H : Heap}
def entsF (s : Sh) : Nat → List (s.T × Int) → List MapEntry
 | _, [] => []
 | n, (x, v) :: r => { key := .agg (vals s x).toArray, val := .int .i64 v, born := n } :: entsF s (n + 1) r
abbrev cntO (s : Sh) (l : List (s.T × Int)) : O := .map (.map (entsF s 0 l).toArray l.length)
def seek (s : Sh) (x : s.T) : List (s.T × Int) → Nat → Option (Nat × Int)
 | [], _ => none
 | (y, v) :: r, i => if eqb s x y then some (i, v) else seek s x r (i + 1)
def ones {α : Type} (l : List α) : List (α × Int) := l.map fun x => (x, 1)
def plainS : Sh → Bool
 | .sl _ _ | .str => false
 | .pr a b => plainS a && plainS b
 | _ => true
theorem plain_flat : ∀ {s : Sh}, plainS s = true → flatS s = true
 | .int _, _ => rfl
 | .bool, _ => rfl
 | .str, h => by cases h
 | .nil, _ => rfl
 | .sl _ _, h => by cases h
 | .pr a b, h => by
  simp only [plainS, kA] at h
  simp only [flatS, plain_flat h.1, plain_flat h.2, Bool.and_self]
theorem eqb_refl : ∀ {s : Sh}, plainS s = true → ∀ x : s.T, eqb s x x = true
 | .int _, _, (n : Int) => by simp [eqb]
 | .bool, _, (b : Bool) => by simp [eqb]
 | .str, h, _ => by cases h
 | .nil, _, _ => rfl
 | .sl _ _, h, _ => by cases h
 | .pr a b, h, x => by
  simp only [plainS, kA] at h
  simp only [eqb, eqb_refl h.1 x.1, eqb_refl h.2 x.2, Bool.and_self]
theorem eqb_eq : ∀ {s : Sh}, plainS s = true → ∀ {x y : s.T}, eqb s x y = true → x = y
 | .int _, _, (n : Int), (k : Int), h => by simpa [eqb] using h
 | .bool, _, (n : Bool), (k : Bool), h => by simpa [eqb] using h
 | .str, h, _, _, _ => by cases h
 | .nil, _, _, _, _ => rfl
 | .sl _ _, h, _, _, _ => by cases h
 | .pr a b, h, x, y, e => by
  simp only [plainS, kA] at h
  simp only [eqb, kA] at e
  exact Prod.ext (eqb_eq h.1 e.1) (eqb_eq h.2 e.2)
theorem eqb_ne {s : Sh} (hf : plainS s = true) {x y : s.T} (h : x ≠ y) : eqb s x y = false := by
 cases e : eqb s x y with
 | false => rfl
 | true => exact absurd (eqb_eq hf e) h
theorem entsF_len {s : Sh} : ∀ (l : List (s.T × Int)) (n : Nat), (entsF s n l).length = l.length
 | [], _ => rfl
 | (x, v) :: r, n => by simp only [entsF, List.length_cons, entsF_len r]
theorem entsF_app {s : Sh} : ∀ (l r : List (s.T × Int)) (n : Nat), entsF s n (l ++ r) = entsF s n l ++ entsF s (n + l.length) r
 | [], r, n => by simp [entsF]
 | (x, v) :: l, r, n => by
  simp only [List.cons_append, entsF, entsF_app l r, List.length_cons]
  rw [show n + 1 + l.length = n + (l.length + 1) by omega]
theorem entsF_get {s : Sh} : ∀ (l : List (s.T × Int)) (n i : Nat), (entsF s n l)[i]? = (l[i]?).map fun p => ⟨.agg (vals s p.1).toArray, .int .i64 p.2, n + i⟩
 | [], _, _ => by simp [entsF]
 | (x, v) :: r, n, 0 => by simp [entsF]
 | (x, v) :: r, n, i + 1 => by
  simp only [entsF, List.getElem?_cons_succ, entsF_get r]
  rw [show n + 1 + i = n + (i + 1) by omega]
theorem entsF_set {s : Sh} (l : List (s.T × Int)) (n i : Nat) {x : s.T} {v0 v : Int} (hx : l[i]? = some (x, v0)) : (entsF s n l).modify i (fun e => { e with val := .int .i64 v }) = entsF s n (l.set i (x, v)) := by
 apply List.ext_getElem?
 intro j
 have hlt : i < l.length := (List.getElem?_eq_some_iff.1 hx).1
 rw [List.getElem?_modify, entsF_get, entsF_get, List.getElem?_set]
 by_cases h : i = j
 ·subst h
  simp only [if_true, hx, kT, hlt]
  rfl
 ·simp [h]
theorem entsF_born {s : Sh} : ∀ (l : List (s.T × Int)) (n i : Nat), i < l.length → (entsF s n l).findIdx? (fun e => (e.born : Int) == ((n + i : Nat) : Int)) = some i
 | [], _, _, h => by simp at h
 | (x, v) :: r, n, 0, _ => by simp [entsF, List.findIdx?_cons]
 | (x, v) :: r, n, i + 1, h => by
  have ih := entsF_born r (n + 1) i (by simpa using h)
  rw [show n + 1 + i = n + (i + 1) by omega] at ih
  simp only [entsF, List.findIdx?_cons]
  rw [if_neg (by simp; omega), ih]
  rfl
def isStruct (P : Program) (t : TypeId) : Bool :=
 match P.underlying t with
 | some (.struct _) => true
 | _ => false
theorem isStruct_iff {P : Program} {t : TypeId} (h : isStruct P t = true) : ∃ fs, P.underlying t = some (.struct fs) := by
 unfold isStruct at h
 split at h
 ·rename_i fs e; exact ⟨fs, e⟩
 ·cases h
structure CntOK (P : Program) (s : Sh) (t kt el : TypeId) : Prop where
 map : P.underlying t = some (.map kt el)
 key : isStruct P kt = true
 eq : eqAgg P s kt = true
 flat : plainS s = true
 chk : ∀ (x : s.T) (e : Bool), pv P (Instr.checkKey e 10000 kt (.agg (vals s x).toArray)) = some ()
 zero : pv P (zeroValue el) = some (.int .i64 0)
variable {s : Sh} {t kt el : TypeId}
theorem CntOK.same (h : CntOK P s t kt el) (x y : s.T) : pv P (Op.equal kt (.agg (vals s x).toArray) (.agg (vals s y).toArray)) = some (eqb s x y) := by
 have hk := h.eq
 simp only [eqAgg, kA, decide_eq_true_eq, Bool.not_eq_true'] at hk
 obtain ⟨⟨⟨⟨h1, h2⟩, h3⟩, h4⟩, h5⟩ := hk
 have he := (eq_all s).1 kt Op.maxDepth x y h2 h4
 simp only [valT, h3, if_true] at he
 exact he
theorem CntOK.asking (h : CntOK P s t kt el) (x : s.T) : ∀ (l : List (s.T × Int)) (n i : Nat), pv P (Instr.findAsking kt (.agg (vals s x).toArray) (entsF s n l) i) = some ((seek s x l i).map fun p => (p.1, .int .i64 p.2))
 | [], _, _ => rfl
 | (y, v) :: r, n, i => by
  simp only [entsF, Instr.findAsking, pv_bind, h.same, kS, seek]
  cases eqb s x y with
  | true => rfl
  | false => simp only [Bool.false_eq_true, if_false]; exact h.asking x r (n + 1) (i + 1)
theorem CntOK.find (h : CntOK P s t kt el) (x : s.T) (l : List (s.T × Int)) (n : Nat) : pv P (Instr.findKey kt (.agg (vals s x).toArray) (entsF s n l)) = some ((seek s x l 0).map fun p => (p.1, .int .i64 p.2)) := by
 obtain ⟨fs, hs⟩ := isStruct_iff h.key
 unfold Instr.findKey
 rw [pv_bind, pv_underlying hs, kS]
 cases l with
 | nil => rfl
 | cons p r => exact h.asking x (p :: r) n 0
theorem CntOK.place (h : CntOK P s t kt el) (x : s.T) (l : List (s.T × Int)) : pv P (placeV t (entsF s 0 l) (.agg (vals s x).toArray)) = some ((seek s x l 0).map (·.1)) := by
 unfold placeV
 rw [pv_bind, pv_underlying h.map, kS]
 simp only [pv_bind, h.find, kS, pv_pure]
 cases seek s x l 0 <;> rfl
theorem key_toV (hf : plainS s = true) (x : s.T) : (X.y (.agg (enc s x))).toV = some (.agg (vals s x).toArray) := by simp only [X.toV, Y.toV, enc_vals (plain_flat hf) x, kT]
theorem seek_lt {x : s.T} : ∀ {l : List (s.T × Int)} {i : Nat} {p : Nat × Int}, seek s x l i = some p → ∃ j, p.1 = i + j ∧ ∃ y, l[j]? = some (y, p.2) ∧ eqb s x y = true
 | [], _, _, h => by cases h
 | (y, v) :: r, i, p, h => by
  unfold seek at h
  split at h
  ·rename_i e
   cases h
   exact ⟨0, rfl, y, rfl, e⟩
  ·obtain ⟨j, h1, y, h2, h3⟩ := seek_lt h
   exact ⟨j + 1, by omega, y, by simpa using h2, h3⟩
theorem seek_app {x y : s.T} {v : Int} (e : eqb s x y = true) : ∀ {l : List (s.T × Int)} {i : Nat}, seek s x l i = none → seek s x (l ++ [(y, v)]) i = some (i + l.length, v)
 | [], i, _ => by simp [seek, e]
 | (z, w) :: r, i, h => by
  unfold seek at h
  split at h
  ·cases h
  ·rename_i hn
   rw [List.cons_append, seek, if_neg hn, seek_app e h, List.length_cons, show i + 1 + r.length = i + (r.length + 1) by omega]
theorem seek_set {x y : s.T} {v w : Int} (e : eqb s x y = true) : ∀ {l : List (s.T × Int)} {i j : Nat}, seek s x l i = some (i + j, v) → seek s x (l.set j (y, w)) i = some (i + j, w)
 | [], _, _, h => by cases h
 | (z, u) :: r, i, 0, h => by simp [seek, e]
 | (z, u) :: r, i, j + 1, h => by
  unfold seek at h
  split at h
  ·cases h
  ·rename_i hn
   rw [List.set_cons_succ, seek, if_neg hn]
   rw [show i + (j + 1) = i + 1 + j by omega] at h ⊢
   exact seek_set e h
theorem seek_none (hf : plainS s = true) {x : s.T} : ∀ {l : List s.T} {i : Nat}, x ∉ l → seek s x (ones l) i = none
 | [], _, _ => rfl
 | y :: r, i, h => by
  simp only [List.mem_cons, not_or] at h
  show (if eqb s x y then _ else seek s x (ones r) (i + 1)) = _
  rw [if_neg (by rw [eqb_ne hf h.1]; simp), seek_none hf h.2]
theorem seek_one (hf : plainS s = true) {x : s.T} : ∀ {l : List s.T} {i : Nat}, x ∈ l → ∃ j, j < l.length ∧ l[j]? = some x ∧ seek s x (ones l) i = some (i + j, 1)
 | [], _, h => by cases h
 | y :: r, i, h => by
  by_cases e : x = y
  ·subst e
   refine ⟨0, by simp, rfl, ?_⟩
   show (if eqb s x x then _ else _) = _
   rw [eqb_refl hf]
   rfl
  ·obtain ⟨j, h1, h2, h3⟩ := seek_one hf (i := i + 1) (by simpa [e] using h)
   refine ⟨j + 1, by simpa using h1, by simpa using h2, ?_⟩
   show (if eqb s x y then _ else seek s x (ones r) (i + 1)) = _
   rw [if_neg (by rw [eqb_ne hf e]; simp), h3, show i + 1 + j = i + (j + 1) by omega]
theorem sameBits_all : ∀ {s : Sh} (_ : plainS s = true) (x : s.T) (n : Nat), ((vals s x).zip (vals s x)).all (fun p => Instr.sameBits n p.1 p.2) = true
 | .int _, _, (k : Int), n => by cases n <;> simp [vals, Instr.sameBits]
 | .bool, _, (k : Bool), n => by cases n <;> simp [vals, Instr.sameBits]
 | .str, h, _, _ => by cases h
 | .nil, _, _, _ => rfl
 | .sl _ _, h, _, _ => by cases h
 | .pr a b, h, x, n => by
  simp only [plainS, kA] at h
  simp only [vals]
  rw [List.zip_append rfl, List.all_append, sameBits_all h.1, sameBits_all h.2]
  rfl
theorem key_stays (hf : plainS s = true) (x : s.T) : pv P (Instr.keyThatStays (.agg (vals s x).toArray) (.agg (vals s x).toArray)) = some (.agg (vals s x).toArray) := by
 unfold Instr.keyThatStays
 rw [if_pos]
 ·rfl
 ·show ((vals s x).toArray.size == (vals s x).toArray.size && ((vals s x).toArray.toList.zip (vals s x).toArray.toList).all fun (x, y) => Instr.sameBits 9999 x y) = true
  simp only [beq_self_eq_true, Bool.true_and]
  exact sameBits_all hf x 9999
theorem ob_cnt_make {ty : TypeId} {n : Nat} (hl : n = H.length) (ht : isMapT P t = true) : Ob P A [] H (.makeMap t none) ty (.y (.one (.mp n))) (H ++ [cntO s []]) := by
 subst hl
 exact ⟨0, by show (if isMapT P t && (Option.map _ (none : Option Operand)).all _ then _ else _) = _; rw [ht]; rfl⟩
theorem ob_cnt_get {ty : TypeId} {id : Nat} {x : s.T} {l : List (s.T × Int)} {v : Int} (hH : H[id]? = some (cntO s l)) (hk : CntOK P s t kt el) (hv : ((seek s x l 0).map (·.2)).getD 0 = v) :
  Ob P A [.y (.one (.mp id)), .y (.agg (enc s x))] H (.lookup t (.tmp 0) (.tmp 1) false) ty (.y (.one (.sc (.int .i64 v)))) H := by
 refine ⟨0, ?_⟩
 show (lookupX P H t (.y (.one (.mp id))) (.y (.agg (enc s x))) false).map (fun v => (v, H)) = _
 unfold lookupX
 simp only [entriesX, mapAt, hH, kT, kS, key_toV hk.flat]
 have hl : pv P (lookupV t (entsF s 0 l).toArray (.agg (vals s x).toArray) false) = some (.int .i64 v) := by
  unfold lookupV
  rw [pv_bind, pv_underlying hk.map, kS]
  simp only [pv_bind, hk.chk, hk.find, kS]
  subst hv
  cases seek s x l 0 with
  | none => simp only [Option.map_none, pv_bind, hk.zero, kS]; rfl
  | some p => rfl
 simp only [hl, kS]
 rfl
theorem ob_cnt_new {ty : TypeId} {id : Nat} {x : s.T} {l : List (s.T × Int)} (hH : H[id]? = some (cntO s l)) (hk : CntOK P s t kt el) (hv : seek s x l 0 = none) :
  Ob P A [.y (.one (.mp id)), .y (.agg (enc s x))] H (.mapEntry t (.tmp 0) (.tmp 1)) ty (.tup [.one (.sc (.int .i64 0)), .one (.sc (.int .i64 (l.length : Int)))]) (H.set id (cntO s (l ++ [(x, 0)]))) := by
 refine ⟨0, ?_⟩
 show mapEntryX P H t (.y (.one (.mp id))) (.y (.agg (enc s x))) = _
 unfold mapEntryX
 simp only [mapAt, hH, kS, key_toV hk.flat]
 have hl : pv P (entryV t (entsF s 0 l).toArray l.length (.agg (vals s x).toArray)) = some ((entsF s 0 (l ++ [(x, 0)])).toArray, l.length + 1, .int .i64 0, goInt l.length) := by
  unfold entryV
  rw [pv_bind, pv_underlying hk.map, kS]
  simp only [pv_bind, hk.chk, hk.find, hv, Option.map_none, kS, hk.zero, pv_pure]
  rw [entsF_app]
  simp [entsF]
 simp only [hl, kS, hk.place]
 have hp : seek s x (l ++ [(x, 0)]) 0 = some (l.length, 0) := by rw [seek_app (eqb_refl hk.flat x) hv, Nat.zero_add]
 rw [hp, hv]
 simp only [kT, Option.map_none, Option.getD_some, Option.getD_none, List.size_toArray, entsF_len, if_true]
 show _ = some (_, H.set id (.map (.map _ (l ++ [(x, (0 : Int))]).length)))
 rw [show (l ++ [(x, (0 : Int))]).length = l.length + 1 by simp]
 rfl
theorem ob_cnt_old {ty : TypeId} {id j : Nat} {x : s.T} {l : List (s.T × Int)} {v : Int} (hH : H[id]? = some (cntO s l)) (hk : CntOK P s t kt el) (hv : seek s x l 0 = some (j, v)) :
  Ob P A [.y (.one (.mp id)), .y (.agg (enc s x))] H (.mapEntry t (.tmp 0) (.tmp 1)) ty (.tup [.one (.sc (.int .i64 v)), .one (.sc (.int .i64 (j : Int)))]) (H.set id (cntO s l)) := by
 obtain ⟨j', hj, y, hy, e⟩ := seek_lt hv
 obtain rfl : j = j' := by simpa using hj
 obtain rfl := eqb_eq hk.flat e
 simp only at hy
 refine ⟨0, ?_⟩
 show mapEntryX P H t (.y (.one (.mp id))) (.y (.agg (enc s x))) = _
 unfold mapEntryX
 simp only [mapAt, hH, kS, key_toV hk.flat]
 have hg : (entsF s 0 l)[j]? = some ⟨.agg (vals s x).toArray, .int .i64 v, j⟩ := by rw [entsF_get, hy]; simp
 have hl : pv P (entryV t (entsF s 0 l).toArray l.length (.agg (vals s x).toArray)) = some ((entsF s 0 l).toArray, l.length, .int .i64 v, goInt j) := by
  unfold entryV
  rw [pv_bind, pv_underlying hk.map, kS]
  simp only [pv_bind, hk.chk, hk.find, hv, kT, kS, pv_pure, List.getElem?_toArray, hg, Option.getD_some, key_stays hk.flat]
  have hm : (entsF s 0 l).toArray.modify j (fun e => { key := .agg (vals s x).toArray, val := e.val, born := e.born }) = (entsF s 0 l).toArray := by
   apply Array.ext'
   rw [List.modify_toArray]
   apply List.ext_getElem?
   intro i
   rw [List.getElem?_modify]
   by_cases h : j = i
   ·subst h; simp [hg]
   ·simp [h]
  rw [hm]
 simp only [hl, kS, hk.place, hv, kT, Option.getD_some, if_true]
 rfl
theorem ob_cnt_set {ty : TypeId} {id j : Nat} {x : s.T} {l : List (s.T × Int)} {v0 v b : Int} (hH : H[id]? = some (cntO s l)) (hb : b = (j : Int)) (hx : l[j]? = some (x, v0)) :
  Ob P A [.y (.one (.mp id)), .y (.one (.sc (.int .i64 b))), .y (.one (.sc (.int .i64 v)))] H (.entryStore t (.tmp 0) (.tmp 1) (.tmp 2)) ty .undef (H.set id (cntO s (l.set j (x, v)))) := by
 subst hb
 refine ⟨0, ?_⟩
 show (entryStoreX H (.y (.one (.mp id))) (.y (.one (.sc (.int .i64 (j : Int))))) (.y (.one (.sc (.int .i64 v))))).map (fun H => (X.undef, H)) = _
 unfold entryStoreX
 have hlt : j < l.length := (List.getElem?_eq_some_iff.1 hx).1
 have hf := entsF_born l 0 j hlt
 rw [Nat.zero_add] at hf
 simp only [mapAt, hH, kS]
 show (Option.map _ (Option.map _ ((entsF s 0 l).toArray.findIdx? fun e => (e.born : Int) == (j : Int)))) = _
 rw [List.findIdx?_toArray, hf]
 simp only [kT, List.modify_toArray, entsF_set l 0 j hx]
 show _ = some (_, H.set id (.map (.map _ (l.set j (x, v)).length)))
 rw [List.length_set]
def memB (s : Sh) (x : s.T) (l : List s.T) : Bool := l.any fun y => eqb s x y
theorem memB_iff (hf : plainS s = true) {x : s.T} {l : List s.T} : memB s x l = true ↔ x ∈ l := by
 unfold memB
 rw [List.any_eq_true]
 constructor
 ·rintro ⟨y, h1, h2⟩
  rw [eqb_eq hf h2]
  exact h1
 ·intro h
  exact ⟨x, h, eqb_refl hf x⟩
theorem not_memB (hf : plainS s = true) {x : s.T} {l : List s.T} (h : memB s x l = false) : x ∉ l := fun hx => by
 rw [(memB_iff hf).2 hx] at h
 cases h
theorem seek_out (hf : plainS s = true) {x : s.T} {l : List s.T} (h : memB s x l = false) : seek s x (ones l) 0 = none := seek_none hf (not_memB hf h)
theorem got_none (hf : plainS s = true) {x : s.T} {l : List s.T} (h : memB s x l = false) : ((seek s x (ones l) 0).map (·.2)).getD 0 = 0 := by rw [seek_out hf h]; rfl
theorem got_one (hf : plainS s = true) {x : s.T} {l : List s.T} (h : memB s x l = true) : ((seek s x (ones l) 0).map (·.2)).getD 0 = 1 := by
 obtain ⟨j, _, _, h3⟩ := seek_one hf (i := 0) ((memB_iff hf).1 h)
 rw [h3]; rfl
theorem seek_in (hf : plainS s = true) {x : s.T} {l : List s.T} (h : memB s x l = true) : ∃ j, l[j]? = some x ∧ seek s x (ones l) 0 = some (j, 1) := by
 obtain ⟨j, _, h2, h3⟩ := seek_one hf (i := 0) ((memB_iff hf).1 h)
 exact ⟨j, h2, by rw [h3, Nat.zero_add]⟩
theorem memB_last (hf : plainS s = true) {x : s.T} {l : List s.T} : memB s x (l ++ [x]) = true := (memB_iff hf).2 (by simp)
theorem got_set (hf : plainS s = true) {x : s.T} {l : List s.T} {j : Nat} {v : Int} (h : seek s x (ones l) 0 = some (j, 1)) : ((seek s x ((ones l).set j (x, v)) 0).map (·.2)).getD 0 = v := by
 have := seek_set (w := v) (eqb_refl hf x) (i := 0) (j := j) (v := 1) (by rw [Nat.zero_add]; exact h)
 rw [this]; rfl
theorem ones_step {α : Type} {l : List α} {x : α} : (ones l ++ [(x, 0)]).set l.length (x, 1) = ones (l ++ [x]) := by
 unfold ones
 rw [List.set_append_right _ _ (by simp)]
 simp
theorem ones_last {α : Type} {l : List α} {x : α} : (ones l ++ [(x, (0 : Int))])[l.length]? = some (x, 0) := by
 unfold ones
 rw [List.getElem?_append_right (by simp)]
 simp
theorem ones_get {α : Type} {l : List α} {j : Nat} {x : α} (h : l[j]? = some x) : (ones l)[j]? = some (x, 1) := by
 unfold ones
 rw [List.getElem?_map, h]
 rfl
theorem ones_len {α : Type} (l : List α) : (ones l).length = l.length := by simp [ones]
theorem ob_ones_one {ty : TypeId} {id : Nat} {x : s.T} {l : List s.T} {b : Int} (hH : H[id]? = some (cntO s (ones l ++ [(x, 0)]))) (hb : b = ((ones l).length : Int)) :
  Ob P A [.y (.one (.mp id)), .y (.one (.sc (.int .i64 b))), .y (.one (.sc (.int .i64 1)))] H (.entryStore t (.tmp 0) (.tmp 1) (.tmp 2)) ty .undef (H.set id (cntO s (ones (l ++ [x])))) := by
 have := ob_cnt_set (P := P) (A := A) (t := t) (ty := ty) (j := l.length) (b := b) (v := 1) hH (by rw [hb, ones_len]) ones_last
 rw [ones_step] at this
 exact this
theorem snapC_rowO {id d o n : Nat} {capd : Bool} {l m : List s.T} (hH : H[id]? = some (rowO s true d l)) (h : o + n ≤ l.length) (hm : (l.drop o).take n = m) : snapC H (rowC id d l.length o n capd) = some (.sl true false capd (m.flatMap (enc s)) m.length) := by
 have := snap_rowO (capd := capd) hH h hm
 change (snapC H (rowC id d l.length o n capd)).map Y.one = _ at this
 cases hc : snapC H (rowC id d l.length o n capd) with
 | none => rw [hc] at this; cases this
 | some c => rw [hc] at this; simpa using this
theorem backC_rowO {id d o n : Nat} {capd : Bool} {l m : List s.T} (hH : H[id]? = some (rowO s true d l)) (h : o + n ≤ l.length) (hm : (l.drop o).take n = m) : backC H (rowC id d l.length o n capd) = some (.sl false false capd (m.flatMap (enc s)) m.length) := by
 have := back_rowO (capd := capd) hH h hm
 change (backC H (rowC id d l.length o n capd)).map Y.one = _ at this
 cases hc : backC H (rowC id d l.length o n capd) with
 | none => rw [hc] at this; cases this
 | some c => rw [hc] at this; simpa using this
theorem mapM_nil' {α β : Type} {f : α → Option β} : ([] : List α).mapM f = some [] := rfl
theorem mapM_cons' {α β : Type} {f : α → Option β} {c : α} {c' : β} {cs : List α} {cs' : List β} (h : f c = some c') (hr : cs.mapM f = some cs') : (c :: cs).mapM f = some (c' :: cs') := by
 rw [List.mapM_cons, h]; simp [hr]
theorem back_agg {cs cs' : List C} (h : cs.mapM (backC H) = some cs') : backY H (.agg cs) = some (.agg cs') := by show (cs.mapM (backC H)).map Y.agg = _; rw [h]; rfl
end
def Code.dropS : Nat → Code → Code
 | n + 1, .seq _ b => Code.dropS n b
 | _, c => c
theorem Wp.meet {P : Program} {A : Ann} {f : FuncId} {c : Code} {e : Env} {H : Heap} {Q : Ex → Env → Heap → Prop} (n : Nat) {T : Type} (envT : T → Env) (heapT : T → Heap) (I : T → Prop)
  (h2 : ∀ t, I t → Wp P A f (Code.dropS n c) (envT t) (heapT t) Q) (h1 : (∀ t, I t → Wp P A f (Code.dropS n c) (envT t) (heapT t) Q) → Wp P A f c e H Q) : Wp P A f c e H Q := h1 h2
section
variable {P : Program} {A : Ann} {H : Heap}
theorem ob_len_items {t ty : TypeId} {s : Sh} {cs : List HP} {c : C} {l : List s.T} {e : Int} (hs : On cs H) (j : Nat) (hj : cs[j]? = some (itemsP s c l)) (ht : (elemT P t).isSome = true) (hn : (l.length : Int) = e) :
  Ob P A [.y (.one c)] H (.call { callee := .builtin .len, args := #[.tmp 0], argTypes := #[t] }) ty (.y (.one (.sc (.int .i64 e)))) H := by
 rcases items_open hs j hj with ⟨rfl, rfl, _⟩ | ⟨k, d, L, o, capd, rfl, _, _, _, h⟩
 ·refine ⟨0, ?_⟩
  subst hn
  show (if ((#[t] : Array TypeId)[0]?.bind (elemT P)).isSome then some (X.y (.one (.sc (goInt 0))), H) else none) = _
  rw [if_pos (by simpa using ht)]
  rfl
 ·refine or_len (s := s) (pu := true) (On.at h (cs.eraseIdx j).length ?_) ht hn
  rw [List.getElem?_append_right (Nat.le_refl _), Nat.sub_self]
  rfl
theorem items_live {s : Sh} {cs : List HP} {c : C} {l : List s.T} (hs : On cs H) (j : Nat) (hj : cs[j]? = some (itemsP s c l)) : c.live = true := by
 rcases items_open hs j hj with ⟨rfl, _⟩ | ⟨k, d, L, o, capd, rfl, _⟩ <;> rfl
theorem items_snap {s : Sh} {cs : List HP} {c : C} {l : List s.T} (hs : On cs H) (j : Nat) (hj : cs[j]? = some (itemsP s c l)) : ∃ b n p, snapC H c = some (sv s b n p l) := by
 rcases items_open hs j hj with ⟨rfl, rfl, _⟩ | ⟨k, d, L, o, capd, rfl, e1, _, e3, h⟩
 ·exact ⟨false, true, true, rfl⟩
 ·exact ⟨true, false, capd, snapC_rowO (On.at h (cs.eraseIdx j).length (by rw [List.getElem?_append_right (Nat.le_refl _), Nat.sub_self]; rfl)) e1 e3⟩
theorem items_back {s : Sh} {cs : List HP} {c : C} {l : List s.T} (hs : On cs H) (j : Nat) (hj : cs[j]? = some (itemsP s c l)) : ∃ n p, backC H c = some (sv s false n p l) := by
 rcases items_open hs j hj with ⟨rfl, rfl, _⟩ | ⟨k, d, L, o, capd, rfl, e1, _, e3, h⟩
 ·exact ⟨true, true, rfl⟩
 ·exact ⟨false, capd, backC_rowO (On.at h (cs.eraseIdx j).length (by rw [List.getElem?_append_right (Nat.le_refl _), Nat.sub_self]; rfl)) e1 e3⟩
theorem live_nil : ([] : List C).all C.live = true := rfl
theorem live_cons {c : C} {l : List C} (h : c.live = true) (t : l.all C.live = true) : (c :: l).all C.live = true := by rw [List.all_cons, h, t]; rfl
theorem ob_store_live {t ty : TypeId} {id off : Nat} {cs cs' : List C} {v : Y} (hH : H[id]? = some (.obj cs)) (ht : szT P t = some v.cells.length) (hl : v.cells.all C.live = true) (hn : Nat.ble (off + v.cells.length) cs.length = true) (hc : splice off v.cells cs = cs') :
  Ob P A [.y (.one (.ptr id off)), .y v] H (.store t (.tmp 0) (.tmp 1)) ty .undef (H.set id (.obj cs')) :=
 ob_store_ptr hH ht (by rw [hl, hn]; rfl) hc
end
end Go.Lg
