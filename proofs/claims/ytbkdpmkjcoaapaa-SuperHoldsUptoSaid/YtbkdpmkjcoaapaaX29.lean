/- Lemmas. -/
import Derived.Test.YtbkdpmkjcoaapaaX28
namespace Go.Lg
section
variable {P : Program} {A : Ann} {H : Heap}
abbrev rowO (s : Sh) (pu : Bool) (d : Nat) (l : List s.T) : O := .row pu true d (d + l.length) s.cells (l.flatMap (enc s))
abbrev rowC (id d len o n : Nat) (capd : Bool) : C := .row id (d + len) (d + o) n capd
abbrev raC (id d len sz j o : Nat) : C := .ra id (d + len) ((d + j) * sz + o)
theorem slCells_rowO {s : Sh} {pu capd : Bool} {id d o n : Nat} {l m : List s.T} (hH : H[id]? = some (rowO s pu d l)) (h : o + n ≤ l.length) (hm : (l.drop o).take n = m) :
  slCells H s.cells (rowC id d l.length o n capd) = some (m.flatMap (enc s), n, pu) := by
 subst hm
 simp only [slCells, hH]
 rw [if_pos ⟨trivial, trivial, by omega, by omega⟩]
 simp only [show d + o - d = o by omega, sub, flat_drop, flat_take]
theorem slCells_slO {s : Sh} {b nil capd : Bool} {l : List s.T} {n : Nat} (hn : n = l.length) : slCells H s.cells (.sl b nil capd (l.flatMap (enc s)) n) = some (l.flatMap (enc s), n, true) := by
 subst hn; exact slCells_sl
theorem or_len {t ty : TypeId} {s : Sh} {pu capd : Bool} {id d o n : Nat} {l : List s.T} {e : Int} (hH : H[id]? = some (rowO s pu d l)) (ht : (elemT P t).isSome = true) (hn : (n : Int) = e) :
  Ob P A [.y (.one (rowC id d l.length o n capd))] H (.call { callee := .builtin .len, args := #[.tmp 0], argTypes := #[t] }) ty (.y (.one (.sc (.int .i64 e)))) H := by
 refine ⟨0, ?_⟩
 subst hn
 show (match H[id]? with | some (.row _ _ _ st' _ _) => if d + l.length = st' ∧ ((#[t] : Array TypeId)[0]?.bind (elemT P)).isSome then some (X.y (.one (.sc (goInt n))), H) else none | _ => none) = _
 rw [hH]
 simp only
 rw [if_pos ⟨trivial, by simpa using ht⟩]
 rfl
theorem or_index {s : Sh} {t el ty : TypeId} {pu capd : Bool} {id d o n j : Nat} {l : List s.T} {i : Int} (hH : H[id]? = some (rowO s pu d l)) (hu : P.underlying t = some (.slice el)) (hs : szT P el = some s.cells)
  (h0 : 0 ≤ i) (h1 : i < n) (h2 : o + n ≤ l.length) (hj : ((o : Int) + i).toNat = j) :
  Ob P A [.y (.one (rowC id d l.length o n capd)), .y (.one (.sc (.int .i64 i)))] H (.indexAddr t (.tmp 0) (.tmp 1)) ty (.y (.one (raC id d l.length s.cells j 0))) H := by
 refine ⟨0, ?_⟩
 subst hj
 show ((indexAddrX P H t (rowC id d l.length o n capd) i).map fun c => (X.y (.one c), H)) = _
 unfold indexAddrX
 simp only [hu, hs, hH, kS]
 rw [if_pos ⟨h0, h1, trivial, trivial, by omega, by omega⟩]
 rw [show d + o + i.toNat = d + ((o : Int) + i).toNat by omega]
 rfl
theorem or_load {s : Sh} {t ty : TypeId} {pu : Bool} {id d j o n : Nat} {l : List s.T} {x : s.T} {v : Y} (hH : H[id]? = some (rowO s pu d l)) (ht : szT P t = some n) (hn : (Nat.ble 1 n && Nat.ble (o + n) s.cells) = true) (hx : l[j]? = some x)
  (hv : mkY (isAggT P t) (sub o n (enc s x)) = some v) : Ob P A [.y (.one (raC id d l.length s.cells j o))] H (.load t (.tmp 0)) ty (.y v) H := by
 simp only [kA, Nat.ble_eq] at hn
 have hlt : j < l.length := (List.getElem?_eq_some_iff.1 hx).1
 have hle : (j + 1) * s.cells ≤ l.length * s.cells := Nat.mul_le_mul_right _ hlt
 rw [Nat.add_mul, Nat.one_mul] at hle
 refine ⟨0, ?_⟩
 show ((some (raC id d l.length s.cells j o)).bind fun c => (szT P t).bind fun n => if 0 < n then (ldCells H c n).bind fun cs => (mkY (isAggT P t) cs).map fun v => (X.y v, H) else none) = _
 simp only [kS, ht]
 rw [if_pos (show 0 < n by omega)]
 unfold ldCells
 simp only [hH]
 have e : (d + j) * s.cells + o - d * s.cells = j * s.cells + o := by rw [Nat.add_mul]; omega
 rw [if_pos ⟨trivial, by rw [Nat.add_mul]; omega, by rw [flat_len, e]; omega⟩]
 simp only [kS, e]
 have : sub (j * s.cells + o) n (l.flatMap (enc s)) = sub o n (enc s x) := by
  unfold sub
  rw [← List.drop_drop, drop_enc hx, List.drop_append_of_le_length (by rw [enc_len]; omega), List.take_append_of_le_length (by rw [List.length_drop, enc_len]; omega)]
 rw [this, hv]
 rfl
theorem or_store {s : Sh} {t ty : TypeId} {id d j o : Nat} {l : List s.T} {x x' : s.T} {v : Y} {pu : Bool} (hH : H[id]? = some (rowO s pu d l)) (ht : szT P t = some v.cells.length) (hx : l[j]? = some x) (ho : Nat.ble (o + v.cells.length) s.cells = true)
  (hlv : v.cells.all C.live = true) (hv : splice o v.cells (enc s x) = enc s x') (himm : immL H v.cells = some (v.cells, H)) :
  Ob P A [.y (.one (raC id d l.length s.cells j o)), .y v] H (.store t (.tmp 0) (.tmp 1)) ty .undef (H.set id (.row pu true d (d + l.length) s.cells ((l.set j x').flatMap (enc s)))) := by
 rw [Nat.ble_eq] at ho
 have hj : j < l.length := (List.getElem?_eq_some_iff.1 hx).1
 have hle : (j + 1) * s.cells ≤ l.length * s.cells := Nat.mul_le_mul_right _ hj
 rw [Nat.add_mul, Nat.one_mul] at hle
 have hsp : splice (j * s.cells + o) v.cells (l.flatMap (enc s)) = (l.set j x').flatMap (enc s) := by
  rw [List.set_eq_take_append_cons_drop, if_pos hj, List.flatMap_append, List.flatMap_cons, ← hv]
  have hl : l.flatMap (enc s) = (l.take j).flatMap (enc s) ++ (enc s x ++ (l.drop (j + 1)).flatMap (enc s)) := by
   conv => lhs; rw [← List.take_append_drop j l, List.flatMap_append]
   rw [List.drop_eq_getElem_cons hj, List.flatMap_cons, (List.getElem?_eq_some_iff.1 hx).2]
  have hlt : ((l.take j).flatMap (enc s)).length = j * s.cells := by rw [flat_len, List.length_take, Nat.min_eq_left (by omega)]
  have hex := enc_len s x
  unfold splice
  rw [hl]
  rw [List.take_append, hlt, show j * s.cells + o - j * s.cells = o by omega, List.take_of_length_le (by omega), List.take_append_of_le_length (by omega),
   List.drop_append, hlt, List.drop_of_length_le (by omega), List.nil_append, show j * s.cells + o + v.cells.length - j * s.cells = o + v.cells.length by omega,
   List.drop_append_of_le_length (by omega)]
  simp only [List.append_assoc]
 refine ⟨0, ?_⟩
 show ((some (raC id d l.length s.cells j o)).bind fun c => (some v).bind fun v => if szT P t = some v.cells.length then (stCells H c v.cells).map fun H => (X.undef, H) else none) = _
 simp only [kS]
 rw [if_pos ht]
 unfold stCells
 rw [if_pos hlv]
 have e : (d + j) * s.cells + o - d * s.cells = j * s.cells + o := by rw [Nat.add_mul]; omega
 simp only [hH]
 cases pu with
 | false =>
  simp only
  rw [if_pos ⟨trivial, by rw [Nat.add_mul]; omega, by rw [flat_len, e]; omega⟩]
  simp only [e, kT, hsp]
 | true =>
  simp only [himm, kS, hH]
  rw [if_pos ⟨trivial, by rw [Nat.add_mul]; omega, by rw [flat_len, e]; omega⟩]
  simp only [e, kT, hsp]
theorem sliceX_rowO {s : Sh} {t el : TypeId} {pu capd capd' : Bool} {id d o n o' n' : Nat} {l : List s.T} {lo hi mx : Option X} {a h : Int} (hH : H[id]? = some (rowO s pu d l)) (he : elemT P t = some el) (hs : szT P el = some s.cells)
  (hlo : optI 0 lo = some a) (hhi : optI (n : Int) hi = some h) (hc : capI h hi.isSome capd mx = some capd') (h0 : 0 ≤ a) (h1 : a ≤ h) (h2 : if capd then h ≤ n else (o : Int) + h ≤ l.length) (h3 : mx.isNone → capd → h = n)
  (ho : ((o : Int) + a).toNat = o') (hn : (h - a).toNat = n') :
  sliceX P H t (.y (.one (rowC id d l.length o n capd))) lo hi mx = some (.y (.one (rowC id d l.length o' n' capd'))) := by
 subst ho; subst hn
 unfold sliceX
 simp only [hH, he, hs, kS, hlo, hhi, hc]
 rw [if_pos ⟨h0, h1, by cases capd <;> simp_all <;> omega, h3, trivial, trivial, by omega⟩]
 simp only [kI, X.y.injEq, Y.one.injEq, C.row.injEq, true_and, and_true]
 omega
theorem or_sliceh {s : Sh} {t el ty : TypeId} {pu : Bool} {id d o n n' : Nat} {l : List s.T} {h : Int} (hH : H[id]? = some (rowO s pu d l)) (he : elemT P t = some el) (hs : szT P el = some s.cells)
  (h1 : 0 ≤ h) (h2 : (o : Int) + h ≤ l.length) (hn : h.toNat = n') :
  Ob P A [.y (.one (rowC id d l.length o n false)), .y (.one (.sc (.int .i64 h)))] H (.slice t (.tmp 0) none (some (.tmp 1)) none) ty (.y (.one (rowC id d l.length o n' false))) H := by
 refine ⟨0, ?_⟩
 show ((sliceX P H t (.y (.one (rowC id d l.length o n false))) none (some (.y (.one (.sc (.int .i64 h))))) none).map fun v => (v, H)) = _
 rw [sliceX_rowO hH he hs (a := 0) (h := h) (capd' := false) (o' := o) (n' := n') rfl rfl rfl (Int.le_refl _) h1 (by simpa using h2) (by simp) (by omega) (by omega)]
 rfl
theorem or_slicel {s : Sh} {t el ty : TypeId} {pu capd : Bool} {id d o n o' n' : Nat} {l : List s.T} {a : Int} (hH : H[id]? = some (rowO s pu d l)) (he : elemT P t = some el) (hs : szT P el = some s.cells)
  (h0 : 0 ≤ a) (h1 : a ≤ n) (h2 : o + n ≤ l.length) (ho : ((o : Int) + a).toNat = o') (hn : ((n : Int) - a).toNat = n') :
  Ob P A [.y (.one (rowC id d l.length o n capd)), .y (.one (.sc (.int .i64 a)))] H (.slice t (.tmp 0) (some (.tmp 1)) none none) ty (.y (.one (rowC id d l.length o' n' capd))) H := by
 refine ⟨0, ?_⟩
 show ((sliceX P H t (.y (.one (rowC id d l.length o n capd))) (some (.y (.one (.sc (.int .i64 a))))) none none).map fun v => (v, H)) = _
 rw [sliceX_rowO hH he hs (a := a) (h := n) (capd' := capd) rfl rfl rfl h0 h1 (by cases capd <;> simp <;> omega) (by intros; rfl) ho hn]
 rfl
theorem or_append {s : Sh} {t u el ty : TypeId} {by_ : Nat} {z : List C} {pu puy : Bool} {id d d' o n m n' : Nat} {l lm l' : List s.T} {y : C} (hH : H[id]? = some (rowO s pu d l)) (hy : slCells H s.cells y = some (lm.flatMap (enc s), m, puy)) (hp : (!pu || puy) = true)
  (he : elemT P t = some el) (hu : (elemT P u).isSome = true) (hs : szT P el = some s.cells) (h0 : Nat.ble 1 s.cells = true) (hb : byT P el = some by_) (hz : zeroC P el = some z) (hml : m = lm.length)
  (hm : m ≠ 0) (hoff : o + n = l.length) (h1 : (n : Int) + m ≤ 9223372036854775807) (h2 : ((n : Int) + m) * by_ ≤ 140737488355328) (hd : d + o = d') (hl : l.drop o ++ lm = l') (hn : n + m = n') :
  Ob P A [.y (.one (rowC id d l.length o n false)), .y (.one y)] H (.call { callee := .builtin .append, args := #[.tmp 0, .tmp 1], argTypes := #[t, u] }) ty
   (.y (.one (rowC id d' l'.length 0 n' false))) (H.set id (rowO s pu d' l')) := by
 subst hd; subst hl; subst hn
 refine ⟨0, ?_⟩
 show (if (elemT P u).isSome then (some (rowC id d l.length o n false)).bind fun s' => (some y).bind fun z => (appendX P A H t s' z).map fun (c, H) => (X.y (.one c), H) else none) = _
 rw [if_pos hu]
 simp only [kS]
 unfold appendX
 simp only [he, hs, hb, hz, kS]
 rw [if_pos (show 0 < s.cells from Nat.le_of_ble_eq_true h0)]
 have ht : (l.drop o).take n = l.drop o := List.take_of_length_le (by rw [List.length_drop]; omega)
 simp only [hy, slCells_rowO hH (show o + n ≤ l.length by omega) ht, kS]
 rw [if_neg hm, if_pos ⟨flat_live s lm, by unfold maxLen; omega, by unfold maxBytes; exact Int.ofNat_le.1 (by rw [Int.natCast_mul, Int.natCast_add]; exact h2)⟩]
 have hq : (pu && !puy) = false := by cases pu <;> cases puy <;> simp_all
 simp only [C.isRow, if_true, hq, Bool.false_eq_true, if_false, kS, hH]
 rw [if_pos ⟨trivial, by omega, trivial⟩]
 simp only [kT, kI, kP, X.y.injEq, Y.one.injEq, C.row.injEq, true_and, and_true]
 have hll : (l.drop o ++ lm).length = n + m := by rw [List.length_append, List.length_drop, hml]; omega
 refine ⟨⟨by omega, by omega⟩, ?_⟩
 rw [← List.flatMap_append, show d + l.length + m = d + o + (l.drop o ++ lm).length by rw [hll]; omega]
theorem or_append_new {s : Sh} {t u el ty : TypeId} {by_ : Nat} {z : List C} {b' nil' pu puy : Bool} {m n' k nl : Nat} {l lm l' : List s.T} {y : C} (hk : k = H.length) (hnl : nl = l.length) (hpu : A.pureSl t = pu) (hy : slCells H s.cells y = some (lm.flatMap (enc s), m, puy)) (hp : (!pu || puy) = true)
  (he : elemT P t = some el) (hu : (elemT P u).isSome = true) (hs : szT P el = some s.cells) (h0 : Nat.ble 1 s.cells = true) (hb : byT P el = some by_) (hz : zeroC P el = some z) (hml : m = lm.length)
  (hm : m ≠ 0) (h1 : (nl : Int) + m ≤ 9223372036854775807) (h2 : ((nl : Int) + m) * by_ ≤ 140737488355328) (hl : l ++ lm = l') (hn : nl + m = n') :
  Ob P A [.y (.one (.sl b' nil' true (l.flatMap (enc s)) nl)), .y (.one y)] H (.call { callee := .builtin .append, args := #[.tmp 0, .tmp 1], argTypes := #[t, u] }) ty
   (.y (.one (rowC k 0 l'.length 0 n' false))) (H ++ [rowO s pu 0 l']) := by
 subst hk; subst hl; subst hn; subst hpu; subst hnl
 refine ⟨0, ?_⟩
 show (if (elemT P u).isSome then (some (C.sl b' nil' true (l.flatMap (enc s)) l.length)).bind fun s' => (some y).bind fun z => (appendX P A H t s' z).map fun (c, H) => (X.y (.one c), H) else none) = _
 rw [if_pos hu]
 simp only [kS]
 unfold appendX
 simp only [he, hs, hb, hz, kS]
 rw [if_pos (show 0 < s.cells from Nat.le_of_ble_eq_true h0)]
 simp only [hy, slCells_sl, kS]
 rw [if_neg hm, if_pos ⟨flat_live s lm, by unfold maxLen; omega, by unfold maxBytes; exact Int.ofNat_le.1 (by rw [Int.natCast_mul, Int.natCast_add]; exact h2)⟩]
 have hq : (A.pureSl t && !puy) = false := by revert hp; cases A.pureSl t <;> cases puy <;> simp
 simp only [C.isRow, Bool.false_eq_true, if_false, hq, kS, if_true, kT, rowNew, rowC, rowO, Nat.zero_add, List.length_append, hml, List.flatMap_append]
theorem res_nil {e : Env} : ([] : List ResultVar).mapM (resX P e H) = some [] := rfl
theorem res_cons {e : Env} {r : ResultVar} {rs : List ResultVar} {y : Y} {ys : List Y} (h : resX P e H r = some y) (hr : rs.mapM (resX P e H) = some ys) : (r :: rs).mapM (resX P e H) = some (y :: ys) := by
 rw [List.mapM_cons, h]; simp [hr]
theorem res_cell {e : Env} {a : Nat} {t : TypeId} {id off n : Nat} {cs cs' : List C} {v : Y} (ha : (get e a).c? = some (.ptr id off)) (ht : szT P t = some n) (hH : H[id]? = some (.obj cs)) (hn : (Nat.ble 1 n && Nat.ble (off + n) cs.length) = true)
  (hc : sub off n cs = cs') (hv : mkY (isAggT P t) cs' = some v) : resX P e H (.cell a t) = some v := by
 simp only [kA, Nat.ble_eq] at hn
 unfold resX
 simp only [ha, ht, kS]
 rw [if_pos (show 0 < n by omega)]
 unfold ldCells
 simp only [hH]
 rw [if_pos hn.2]
 simp only [kS, hc, hv]
theorem wG {f : FuncId} {c : Code} {e : Env} {Q : Ex → Env → Heap → Prop} {cs : List HP} (hs : On cs H) (h : ∀ H, On cs H → Wp P A f c e H Q) : Wp P A f c e H Q := h H hs
theorem Wp.unskip {f : FuncId} {e : Env} {Q : Ex → Env → Heap → Prop} (h : Wp P A f .skip e H Q) : Q .normal e H := by
 obtain ⟨x, e', H', ⟨k, hk⟩, hq⟩ := h
 cases k with
 | zero => simp [codeX] at hk
 | succ k =>
  simp only [codeX, kI, kP] at hk
  obtain ⟨rfl, rfl, rfl⟩ := hk
  exact hq
theorem rKq {f : FuncId} {e : Env} {Q : Ex → Env → Heap → Prop} {id : Nat} {ops : Array Oper} {d : Bool} (ans : List (Nat × X × Heap)) (e1 : Env) (H1 : Heap) (ho : obO P A (mkM (A.mask f id) (A.late f id) H.length) ops ans (List.range ops.size) e (holesX (A.late f id) H))
  (hr : (runO P A (mkM (A.mask f id) (A.late f id) H.length) ops ans (List.range ops.size) e (holesX (A.late f id) H)).map (fun x => (liveX A f id x.1, x.2)) = some (e1, H1)) (h : Wp P A f .skip e1 H1 Q) : Wp P A f (.region id ops d) e H Q :=
 wR ans e1 H1 ho hr h.unskip
theorem On.new' {cs : List HP} {n : Nat} (hn : n = H.length) (o : O) (h : On cs H) : On (cs ++ [pts n o]) (H ++ [o]) := by subst hn; exact On.new o h
theorem of_content {T : Type} {L l : List T} {o n i j : Nat} {x : T} (h : (L.drop o).take n = l) (hx : l[i]? = some x) (hj : j = o + i) : L[j]? = some x := by
 subst h; subst hj
 rw [List.getElem?_take] at hx
 split at hx
 ·rwa [List.getElem?_drop] at hx
 ·cases hx
end
end Go.Lg
