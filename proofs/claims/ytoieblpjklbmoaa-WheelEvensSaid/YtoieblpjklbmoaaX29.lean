/-
 X, part 29: rows that begin anywhere (rowO), what operations on their slices owe.
-/
import Derived.Test.YtoieblpjklbmoaaX28
namespace Go.Lg
section
variable {P : Program} {A : Ann} {H : Heap}
/-- A row that holds a typed list from a place on, all of it in use. -/
abbrev rowO (s : Sh) (pu : Bool) (d : Nat) (l : List s.T) : O := .row pu true d (d + l.length) s.cells (l.flatMap (enc s))
/-- A slice of it. -/
abbrev rowC (id d len o n : Nat) (capd : Bool) : C := .row id (d + len) (d + o) n capd
abbrev raC (id d len sz j o : Nat) : C := .ra id (d + len) ((d + j) * sz + o)
theorem or_len {t ty : TypeId} {s : Sh} {pu capd : Bool} {id d o n : Nat} {l : List s.T} {e : Int} (hH : H[id]? = some (rowO s pu d l)) (ht : (elemT P t).isSome = true) (hn : (n : Int) = e) :
  Ob P A [.y (.one (rowC id d l.length o n capd))] H (.call { callee := .builtin .len, args := #[.tmp 0], argTypes := #[t] }) ty (.y (.one (.sc (.int .i64 e)))) H := by
 refine ⟨0, ?_⟩
 subst hn
 show (match H[id]? with | some (.row _ _ _ st' _ _) => if d + l.length = st' ∧ ((#[t] : Array TypeId)[0]?.bind (elemT P)).isSome then some (X.y (.one (.sc (goInt n))), H) else none | _ => none) = _
 rw [hH]
 simp only
 rw [if_pos ⟨trivial, by simpa using ht⟩]
 rfl
theorem or_index {s : Sh} {t el ty : TypeId} {pu capd : Bool} {id d o n j : Nat} {l : List s.T} {i : Int} (hH : H[id]? = some (rowO s pu d l)) (hu : P.underlying t = some (.slice el)) (hs : szT P el = some s.cells)
  (h0 : 0 ≤ i) (h1 : i < n) (h2 : o + n ≤ l.length) (hj : ((o : Int) + i).toNat = j) :
  Ob P A [.y (.one (rowC id d l.length o n capd)), .y (.one (.sc (.int .i64 i)))] H (.indexAddr t (.tmp 0) (.tmp 1)) ty (.y (.one (raC id d l.length s.cells j 0))) H := by
 refine ⟨0, ?_⟩
 subst hj
 show ((indexAddrX P H t (rowC id d l.length o n capd) i).map fun c => (X.y (.one c), H)) = _
 unfold indexAddrX
 simp only [hu, hs, hH, kS]
 rw [if_pos ⟨h0, h1, trivial, trivial, by omega, by omega⟩]
 rw [show d + o + i.toNat = d + ((o : Int) + i).toNat by omega]
 rfl
theorem or_store {s : Sh} {t ty : TypeId} {id d j o : Nat} {l : List s.T} {x x' : s.T} {v : Y} {pu : Bool} (hH : H[id]? = some (rowO s pu d l)) (ht : szT P t = some v.cells.length) (hx : l[j]? = some x) (ho : Nat.ble (o + v.cells.length) s.cells = true)
  (hlv : v.cells.all C.live = true) (hv : splice o v.cells (enc s x) = enc s x') (himm : immL H v.cells = some (v.cells, H)) :
  Ob P A [.y (.one (raC id d l.length s.cells j o)), .y v] H (.store t (.tmp 0) (.tmp 1)) ty .undef (H.set id (.row pu true d (d + l.length) s.cells ((l.set j x').flatMap (enc s)))) := by
 rw [Nat.ble_eq] at ho
 have hj : j < l.length := (List.getElem?_eq_some_iff.1 hx).1
 have hle : (j + 1) * s.cells ≤ l.length * s.cells := Nat.mul_le_mul_right _ hj
 rw [Nat.add_mul, Nat.one_mul] at hle
 have hsp : splice (j * s.cells + o) v.cells (l.flatMap (enc s)) = (l.set j x').flatMap (enc s) := by
  rw [List.set_eq_take_append_cons_drop, if_pos hj, List.flatMap_append, List.flatMap_cons, ← hv]
  have hl : l.flatMap (enc s) = (l.take j).flatMap (enc s) ++ (enc s x ++ (l.drop (j + 1)).flatMap (enc s)) := by
   conv => lhs; rw [← List.take_append_drop j l, List.flatMap_append]
   rw [List.drop_eq_getElem_cons hj, List.flatMap_cons, (List.getElem?_eq_some_iff.1 hx).2]
  have hlt : ((l.take j).flatMap (enc s)).length = j * s.cells := by rw [flat_len, List.length_take, Nat.min_eq_left (by omega)]
  have hex := enc_len s x
  unfold splice
  rw [hl]
  rw [List.take_append, hlt, show j * s.cells + o - j * s.cells = o by omega, List.take_of_length_le (by omega), List.take_append_of_le_length (by omega),
   List.drop_append, hlt, List.drop_of_length_le (by omega), List.nil_append, show j * s.cells + o + v.cells.length - j * s.cells = o + v.cells.length by omega,
   List.drop_append_of_le_length (by omega)]
  simp only [List.append_assoc]
 refine ⟨0, ?_⟩
 show ((some (raC id d l.length s.cells j o)).bind fun c => (some v).bind fun v => if szT P t = some v.cells.length then (stCells H c v.cells).map fun H => (X.undef, H) else none) = _
 simp only [kS]
 rw [if_pos ht]
 unfold stCells
 rw [if_pos hlv]
 have e : (d + j) * s.cells + o - d * s.cells = j * s.cells + o := by rw [Nat.add_mul]; omega
 simp only [hH]
 cases pu with
 | false =>
  simp only
  rw [if_pos ⟨trivial, by rw [Nat.add_mul]; omega, by rw [flat_len, e]; omega⟩]
  simp only [e, kT, hsp]
 | true =>
  simp only [himm, kS, hH]
  rw [if_pos ⟨trivial, by rw [Nat.add_mul]; omega, by rw [flat_len, e]; omega⟩]
  simp only [e, kT, hsp]
theorem snap_rowO {s : Sh} {id d o n : Nat} {capd : Bool} {l m : List s.T} (hH : H[id]? = some (rowO s true d l)) (h : o + n ≤ l.length) (hm : (l.drop o).take n = m) :
  snapY H (.one (rowC id d l.length o n capd)) = some (.one (.sl true false capd (m.flatMap (enc s)) m.length)) := by
 subst hm
 unfold snapY snapC
 simp only [hH]
 rw [if_pos ⟨trivial, by omega, by omega⟩]
 simp only [kT, show d + o - d = o by omega, sub, flat_drop, flat_take]
 rw [List.length_take, List.length_drop, Nat.min_eq_left (by omega)]
/-! ### What a call leaves -/
theorem Wp.gen {f : FuncId} {c : Code} {e : Env} {Q : Ex → Env → Heap → Prop} {cs : List HP} (hs : On cs H) (h : ∀ H, On cs H → Wp P A f c e H Q) : Wp P A f c e H Q := h H hs
theorem Wp.unskip {f : FuncId} {e : Env} {Q : Ex → Env → Heap → Prop} (h : Wp P A f .skip e H Q) : Q .normal e H := by
 obtain ⟨x, e', H', ⟨k, hk⟩, hq⟩ := h
 cases k with
 | zero => simp [codeX] at hk
 | succ k =>
  simp only [codeX, kI, kP] at hk
  obtain ⟨rfl, rfl, rfl⟩ := hk
  exact hq
theorem Wp.regionK {f : FuncId} {e : Env} {Q : Ex → Env → Heap → Prop} {id : Nat} {ops : Array Oper} {d : Bool} (ans : List (Nat × X × Heap)) (e1 : Env) (H1 : Heap) (ho : obO P A (mkM (A.mask f id) (A.late f id) H.length) ops ans (List.range ops.size) e (holesX (A.late f id) H))
  (hr : (runO P A (mkM (A.mask f id) (A.late f id) H.length) ops ans (List.range ops.size) e (holesX (A.late f id) H)).map (fun x => (liveX A f id x.1, x.2)) = some (e1, H1)) (h : Wp P A f .skip e1 H1 Q) : Wp P A f (.region id ops d) e H Q :=
 Wp.region ans e1 H1 ho hr h.unskip
theorem On.new' {cs : List HP} {n : Nat} (hn : n = H.length) (o : O) (h : On cs H) : On (cs ++ [pts n o]) (H ++ [o]) := by subst hn; exact On.new o h
theorem of_content {T : Type} {L l : List T} {o n i j : Nat} {x : T} (h : (L.drop o).take n = l) (hx : l[i]? = some x) (hj : j = o + i) : L[j]? = some x := by
 subst h; subst hj
 rw [List.getElem?_take] at hx
 split at hx
 ·rwa [List.getElem?_drop] at hx
 ·cases hx
end
end Go.Lg
