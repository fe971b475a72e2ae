/- Lemmas. -/
import Derived.Test.YtjhgjbagmkiibaaX40
import Derived.Shelf.SlSortCmp.NoneTotal
import Derived.Shelf.SlGeneric
import Derived.Shelf.SortM.Plain
import Derived.Shelf.SortM.SortNone
import Derived.Ground.SlsfProg
import Derived.Ground.SlgmProg
import Derived.Test.YtjhgjbagmkiibaaProg
import Derived.Shelf.Lay
section
namespace Go.Lg
open Go.Sort Go.Proofs
section
variable {B : Nat → Prop} {β : Nat → Nat × Nat} {H : Heap} {w w' : World}
theorem row_turned (hst : StR B β H w) {id d st sz : Nat} {cs : List C} (ho : H[id]? = some (.row true true d st sz cs)) {vs : List Value} (hl : vs.length = cs.length) (hp : ∀ v ∈ vs, plain v = true) {n : Nat} {os : Array Obj}
  (hw : w' = grow (putRow _root_.id (Go.Sort.ahead w n) (β id).1 (β id).2 vs.toArray) os) :
  StR B β (H.set id (.row true true d st sz (vs.map C.sc))) w' ∧ Stp β H w β (H.set id (.row true true d st sz (vs.map C.sc))) w' := by
 obtain ⟨q1, q2, q3, q4, arr, e, q5, q6, q7⟩ := hst.live id _ ho
 have hlt := hst.inb id _ ho rfl
 have hh : w'.heap = w.heap.modify (β id).1 (onCells (putCells _root_.id (β id).2 vs.toArray)) ++ os := by rw [hw]; rfl
 have hold : ∀ b, b < w.heap.size → b ≠ (β id).1 → w'.heap[b]? = w.heap[b]? := by
  intro b hb hne
  rw [hh, Array.getElem?_append, if_pos (by simpa using hb), Array.getElem?_modify, if_neg (fun e => hne e.symm)]
 have hnew : w'.heap[(β id).1]? = some (.cells (putCells _root_.id (β id).2 vs.toArray arr) e (0, 0)) := by
  rw [hh, Array.getElem?_append, if_pos (by simpa using hlt), Array.getElem?_modify, if_pos rfl, q5]
  rfl
 have hsz : (putCells _root_.id (β id).2 vs.toArray arr).size = arr.size := by simp [putCells]
 have t : Turn β w id (.row true true d st sz cs) (β id) (.row true true d st sz (vs.map C.sc)) w' :=
  ⟨by rw [hw]; rfl, by rw [hw]; rfl, by rw [hw]; rfl, by rw [hh]; simp, (fun b hb hne => by
   rcases hne with h | h
   ·exact hold b hb h
   ·cases h), .inl rfl, (fun _ => rfl), ⟨rfl, rfl, Nat.le_refl _, fun _ => ⟨rfl, rfl, fun arr0 e0 fr0 h0 => by
    rw [q5] at h0; cases h0; exact ⟨_, e, (0, 0), hnew, hsz⟩⟩⟩, rfl⟩
 have h1 := t.stp hst ho
 have h2 := t.str hst ho (by rw [hh]; simp; omega) (by
  rw [upd_self]
  refine ⟨q1, q2, by rw [List.length_map, hl]; exact q3, fun _ => ?_, _, e, hnew, by rw [List.length_map, hl, hsz]; exact q6, ?_⟩
  ·rw [List.all_eq_true]; intro c hc; obtain ⟨v, _, rfl⟩ := List.mem_map.1 hc; rfl
  ·have hcells : ((putCells _root_.id (β id).2 vs.toArray arr).toList.drop (β id).2).take (vs.map C.sc).length = vs := by
    apply List.ext_getElem?
    intro j
    rw [List.length_map, List.getElem?_take]
    split
    ·rename_i hj
     rw [List.getElem?_drop, Array.getElem?_toList]
     have hja : (β id).2 + j < arr.size := by omega
     unfold putCells
     rw [Array.getElem?_mapIdx, Array.getElem?_eq_getElem hja]
     simp only [Option.map_some]
     rw [if_pos ⟨by omega, by simpa using hj⟩, show (β id).2 + j - (β id).2 = j by omega]
     rw [List.getElem?_eq_getElem hj]
     simp [getElem!_pos, hj]
    ·rename_i hj; rw [List.getElem?_eq_none (by omega)]
   rw [hcells]
   refine All2.of_get (by simp) fun j c v hc hv => ?_
   rw [List.getElem?_map, hv] at hc
   simp only [Option.map_some, Option.some.injEq] at hc
   subst hc
   exact ⟨hp v (List.mem_of_getElem? hv), rfl⟩)
 rw [upd_self] at h1 h2
 exact ⟨h2, h1⟩
theorem putRow_map {α : Type} [Inhabited α] (enc : α → Value) (w : World) (blk off : Nat) (d : Array α) : putRow enc w blk off d = putRow _root_.id w blk off (d.map enc) := by
 unfold putRow
 refine mapBlock_congr _ _ _ _ fun c e fr _ => ?_
 unfold putCells
 apply Array.ext (by simp)
 intro k h1 h2
 simp only [Array.getElem_mapIdx, Array.size_map]
 split
 ·rename_i hk
  have hlt : k - off < d.size := by omega
  rw [getElem!_pos d (k - off) hlt, getElem!_pos (d.map enc) (k - off) (by simpa using hlt)]
  simp
 ·rfl
theorem flat_list {α : Type} [Inhabited α] {enc : α → List Value} {k : Nat} (hk : ∀ x, (enc x).length = k) (k0 : 0 < k) (l : List α) : flatK enc k l.toArray = (l.flatMap enc).toArray := by
 have hlen : ∀ l : List α, (l.flatMap enc).length = l.length * k := by
  intro l
  induction l with
  | nil => simp
  | cons x l ih => rw [List.flatMap_cons, List.length_append, ih, hk, List.length_cons, Nat.add_mul]; omega
 have hget : ∀ (l : List α) (t : Nat), t < l.length * k → (l.flatMap enc)[t]? = (enc (l.getD (t / k) default))[t % k]? := by
  intro l
  induction l with
  | nil => intro t ht; simp at ht
  | cons x l ih =>
   intro t ht
   rw [List.flatMap_cons, List.getElem?_append]
   by_cases h : t < k
   ·rw [if_pos (by rw [hk]; exact h), Nat.div_eq_of_lt h, Nat.mod_eq_of_lt h]; rfl
   ·have e1 : t / k = (t - k) / k + 1 := by
     rw [show t = (t - k) + k by omega, Nat.add_div_right _ k0]; congr 1; congr 1; omega
    have e2 : t % k = (t - k) % k := by
     conv => lhs; rw [show t = (t - k) + k by omega, Nat.add_mod_right]
    rw [if_neg (by rw [hk]; omega), hk, ih (t - k) (by rw [List.length_cons, Nat.add_mul] at ht; omega), e1, e2]
    rfl
 apply Array.ext_getElem?
 intro t
 by_cases ht : t < l.length * k
 ·have hmod : t % k < k := Nat.mod_lt _ k0
  have hs : t < (flatK enc k l.toArray).size := by simpa using ht
  rw [Array.getElem?_eq_getElem hs, ← getElem!_pos _ t hs, get_flatK _ _ _ t (by simpa using ht), List.getElem?_toArray, hget l t ht]
  have hd : t / k < l.length := Nat.div_lt_of_lt_mul (by rw [Nat.mul_comm]; exact ht)
  have : l.toArray[t / k]! = l.getD (t / k) default := by
   rw [getElem!_pos _ _ (by simpa using hd)]
   simp [List.getD, hd]
  rw [this]
  rw [List.getElem?_eq_getElem (by rw [hk]; exact hmod), getElem!_pos _ _ (by rw [hk]; exact hmod)]
 ·rw [Array.getElem?_eq_none (by simpa using ht), List.getElem?_toArray, List.getElem?_eq_none (by rw [hlen]; omega)]
theorem holds_row (hst : StR B β H w) {id d st sz : Nat} {cs : List C} (ho : H[id]? = some (.row true true d st sz cs)) {vs : List Value} (hcs : cs = vs.map C.sc) : Holds _root_.id w (β id).1 (β id).2 vs.toArray := by
 obtain ⟨q1, q2, q3, q4, arr, e, q5, q6, q7⟩ := hst.live id _ ho
 subst hcs
 intro j hj
 have hj' : j < vs.length := by simpa using hj
 rw [cell_at q5 j]
 have hz : ((arr.toList.drop (β id).2).take (vs.map C.sc).length)[j]? = some vs[j] := by
  obtain ⟨u, hu, hr⟩ := q7.get (j := j) (a := C.sc vs[j]) (by simp [hj'])
  obtain ⟨_, rfl⟩ := hr
  exact hu
 rw [List.getElem?_take, if_pos (by simpa using hj'), List.getElem?_drop, Array.getElem?_toList] at hz
 refine ⟨by rw [hz, getElem!_pos vs.toArray j hj]; simp, ?_⟩
 simp [World.frozen?, q5]
def insB {α : Type} (lt : α → α → Bool) (x : α) : List α → List α
 | [] => [x]
 | y :: r => if lt y x then y :: insB lt x r else x :: y :: r
def isort {α : Type} (lt : α → α → Bool) (l : List α) : List α := l.foldr (insB lt) []
theorem insB_perm {α : Type} (lt : α → α → Bool) (x : α) : ∀ l : List α, (insB lt x l).Perm (x :: l)
 | [] => .refl _
 | y :: r => by
  unfold insB
  split
  ·exact ((insB_perm lt x r).cons y).trans (.swap _ _ _)
  ·exact .refl _
theorem isort_perm {α : Type} (lt : α → α → Bool) : ∀ l : List α, (isort lt l).Perm l
 | [] => .refl _
 | x :: r => (insB_perm lt x _).trans ((isort_perm lt r).cons x)
theorem insB_sorted {α : Type} {lt : α → α → Bool} (hO : SWO lt) (x : α) : ∀ {l : List α}, l.Pairwise (fun a b => lt b a = false) → (insB lt x l).Pairwise (fun a b => lt b a = false)
 | [], _ => by simp [insB]
 | y :: r, h => by
  obtain ⟨h1, h2⟩ := List.pairwise_cons.1 h
  unfold insB
  split
  ·rename_i hyx
   refine List.pairwise_cons.2 ⟨fun z hz => ?_, insB_sorted hO x h2⟩
   rcases List.mem_cons.1 ((insB_perm lt x r).subset hz) with rfl | hz
   ·cases hzy : lt z y with
    | false => rfl
    | true => have := hO.trans _ _ _ hyx hzy; rw [hO.irrefl] at this; cases this
   ·exact h1 z hz
  ·rename_i hyx
   have hyx : lt y x = false := by simpa using hyx
   refine List.pairwise_cons.2 ⟨fun z hz => ?_, h⟩
   rcases List.mem_cons.1 hz with rfl | hz
   ·exact hyx
   ·exact hO.ntrans _ _ _ (h1 z hz) hyx
theorem isort_sorted {α : Type} {lt : α → α → Bool} (hO : SWO lt) : ∀ l : List α, (isort lt l).Pairwise (fun a b => lt b a = false)
 | [] => List.Pairwise.nil
 | x :: r => insB_sorted hO x (isort_sorted hO r)
theorem sorted_one {α : Type} {r : α → α → Prop} (ha : ∀ x y, r x y → r y x → x = y) : ∀ {l m : List α}, l.Perm m → l.Pairwise r → m.Pairwise r → l = m
 | [], m, h, _, _ => (List.eq_nil_of_length_eq_zero h.length_eq.symm).symm
 | x :: l, [], h, _, _ => by have := h.length_eq; simp at this
 | x :: l, y :: m, h, hl, hm => by
  obtain ⟨l1, l2⟩ := List.pairwise_cons.1 hl
  obtain ⟨m1, m2⟩ := List.pairwise_cons.1 hm
  have hxy : x = y := by
   have hx : x ∈ y :: m := h.subset (by simp)
   have hy : y ∈ x :: l := h.symm.subset (by simp)
   rcases List.mem_cons.1 hx with e | hx
   ·exact e
   ·rcases List.mem_cons.1 hy with e | hy
    ·exact e.symm
    ·exact ha _ _ (l1 y hy) (m1 x hx)
  subst hxy
  rw [sorted_one ha (List.Perm.cons_inv h) l2 m2]
theorem isort_map {α β : Type} {lt : α → α → Bool} {lt' : β → β → Bool} {g : α → β} (h : ∀ x y, lt' (g x) (g y) = lt x y) : ∀ l : List α, isort lt' (l.map g) = (isort lt l).map g := by
 have hi : ∀ (x : α) (l : List α), insB lt' (g x) (l.map g) = (insB lt x l).map g := by
  intro x l
  induction l with
  | nil => rfl
  | cons y r ih =>
   simp only [List.map_cons, insB, h]
   split
   ·simp [ih]
   ·simp
 intro l
 induction l with
 | nil => rfl
 | cons x r ih => show insB lt' (g x) (isort lt' (r.map g)) = _; rw [ih, hi]; rfl
theorem merge_isort {α : Type} {lt : α → α → Bool} (hO : SWO lt) (hT : ∀ x y, lt x y = false → lt y x = false → x = y) (l : List α) : l.mergeSort (fun x y => !lt y x) = isort lt l := by
 refine sorted_one (r := fun a b => lt b a = false) (fun x y h1 h2 => hT x y h2 h1) ((List.mergeSort_perm _ _).trans (isort_perm lt l).symm) ?_ (isort_sorted hO l)
 have := List.pairwise_mergeSort (le := fun x y => !lt y x) (fun a b c h1 h2 => by
  simp only [Bool.not_eq_true', Bool.not_eq_eq_eq_not, Bool.not_true] at h1 h2 ⊢
  exact hO.ntrans _ _ _ h2 h1) (fun a b => by
  cases hab : lt b a with
  | false => simp
  | true =>
   cases hba : lt a b with
   | false => simp
   | true => have := hO.trans _ _ _ hab hba; rw [hO.irrefl] at this; cases this) l
 refine this.imp fun h => by simpa using h
theorem sort_row {P : Program} {α : Type} [Inhabited α] {f : FuncId} {k : Nat} {ev : α → List Value} {lt : α → α → Bool} {extra : Array Value} (hk : ∀ x, (ev x).length = k) (k0 : 0 < k) (hpl : ∀ x, ∀ v ∈ ev x, plain v = true) (hO : SWO lt) (hT : ∀ x y, lt x y = false → lt y x = false → x = y)
  (hc : ∀ (blk off cap : Nat) (d : Array α) (w : World), HoldsK ev k w blk off d → blk < w.heap.size → d.size < 4611686018427387904 → Calls P f (#[.slice (some ⟨blk, off, none⟩) d.size cap] ++ extra) w fun e w' =>
   e = .returned (.tuple #[]) ∧ ∃ n os, w' = sortWorldK ev k w blk off n (d.toList.mergeSort fun x y => !lt y x).toArray os)
  (hn : ∀ (p : Option Addr) (cap : Nat) (w : World), Calls P f (#[.slice p 0 cap] ++ extra) w fun e w' => e = .returned (.tuple #[]) ∧ w' = w)
  (hst : StR B β H w) {id d st off len : Nat} {capd : Bool} {l : List α} {u : Value} (ho : H[id]? = some (.row true true d st k ((l.flatMap ev).map C.sc))) (hoff : off = d) (hend : off + len = st) (hlen : len ≤ 3518437208883) (hu : Rep B β H w (.row id st off len capd) u) :
  Calls P f (#[u] ++ extra) w fun e w' => e = .returned (.tuple #[]) ∧ StR B β (H.set id (.row true true d st k (((isort lt l).flatMap ev).map C.sc))) w' ∧ Stp β H w β (H.set id (.row true true d st k (((isort lt l).flatMap ev).map C.sc))) w' := by
 subst hoff
 obtain ⟨q1, q2, q3, q4, arr, e, q5, q6, q7⟩ := hst.live id _ ho
 have hlt := hst.inb id _ ho rfl
 have hflen : ∀ l : List α, (l.flatMap ev).length = l.length * k := by
  intro l
  induction l with
  | nil => simp
  | cons x l ih => rw [List.flatMap_cons, List.length_append, ih, hk, List.length_cons, Nat.add_mul]; omega
 have hll : l.length = len := by
  have := hflen l
  rw [List.length_map, this, show st - off = len by omega] at q3
  exact Nat.eq_of_mul_eq_mul_right k0 q3
 obtain ⟨pu', mu', d', st', sz', cells', ho', _, _, hh⟩ := hu
 rw [ho] at ho'
 cases ho'
 obtain ⟨_, _, a, cap, rfl, hlc, _, hpos, _⟩ := hh rfl
 by_cases h0 : len = 0
 ·subst h0
  have hl0 : l = [] := List.eq_nil_of_length_eq_zero hll
  subst hl0
  refine (hn (some a) cap w).mono fun e' w' he' => ?_
  obtain ⟨rfl, rfl⟩ := he'
  refine ⟨rfl, ?_⟩
  have : H.set id (.row true true off st k (((isort lt ([] : List α)).flatMap ev).map C.sc)) = H := by
   apply List.ext_getElem?
   intro j
   rw [List.getElem?_set]
   split
   ·rename_i hj; subst hj; rw [if_pos (lt_of_get ho), ho]; rfl
   ·rfl
  rw [this]
  exact ⟨hst, Stp.refl _ _ _⟩
 ·have ha := hpos (by omega)
  rw [Nat.sub_self, Nat.zero_mul, Nat.add_zero] at ha
  subst ha
  have hH : HoldsK ev k w (β id).1 (β id).2 l.toArray := by
   unfold HoldsK
   rw [flat_list hk k0]
   exact holds_row hst ho rfl
  have := hc (β id).1 (β id).2 cap l.toArray w hH hlt (by simp; omega)
  rw [show l.toArray.size = len by simpa using hll] at this
  refine this.mono fun e' w' he' => ?_
  obtain ⟨rfl, n, os, hw⟩ := he'
  have h3 := row_turned hst ho (vs := (isort lt l).flatMap ev) (by
   rw [List.length_map, hflen, hflen, (isort_perm lt l).length_eq]) (fun v hv => by
   obtain ⟨x, _, hx⟩ := List.mem_flatMap.1 hv
   exact hpl x v hx) (n := n) (os := os) (w' := w') (by
   rw [hw]
   unfold sortWorldK putRowK
   rw [flat_list hk k0, show l.toArray.toList = l by simp, merge_isort hO hT])
  exact ⟨rfl, h3⟩
end
end Go.Lg
end
section
namespace Go.Proofs
open Go.Shelf
def Try.sortPid_ren : Go.Shelf.Ren := ⟨fun | 6 => 30 | 15 => 51 | 14 => 50 | 28 => 71 | 29 => 72 | 20 => 63 | 21 => 64 | 22 => 65 | 23 => 66 | 24 => 67 | 25 => 68 | 26 => 69 | 27 => 70 | 46 => 82 | 47 => 83 | 48 => 84 | 49 => 85 | 50 => 86 | 57 => 99 | n => n, fun | 22 => 32 | 24 => 24 | 25 => 70 | 3 => 3 | 39 => 89 | 0 => 0 | 53 => 107 | 55 => 109 | 4 => 4 | 46 => 100 | 45 => 99 | 50 => 104 | 5 => 5 | 9 => 9 | 66 => 116 | 70 => 120 | 76 => 130 | 77 => 131 | n => n, fun | n => n⟩
theorem Try.sortPid : Go.Proofs.SlLaysF0.n6 Try.prog Try.sortPid_ren := {
 mixed := by kernel_rfl
 f6 := ⟨Try.f30.name, by decide, Try.func30.trans (congrArg some (by kernel_rfl))⟩
 f14 := ⟨Try.f50.name, by decide, Try.func50.trans (congrArg some (by kernel_rfl))⟩
 f15 := Try.func51.trans (congrArg some (by kernel_rfl))
 f20 := ⟨Try.f63.name, by decide, Try.func63.trans (congrArg some (by kernel_rfl))⟩
 f21 := ⟨Try.f64.name, by decide, Try.func64.trans (congrArg some (by kernel_rfl))⟩
 f22 := ⟨Try.f65.name, by decide, Try.func65.trans (congrArg some (by kernel_rfl))⟩
 f23 := ⟨Try.f66.name, by decide, Try.func66.trans (congrArg some (by kernel_rfl))⟩
 f24 := ⟨Try.f67.name, by decide, Try.func67.trans (congrArg some (by kernel_rfl))⟩
 f25 := ⟨Try.f68.name, by decide, Try.func68.trans (congrArg some (by kernel_rfl))⟩
 f26 := ⟨Try.f69.name, by decide, Try.func69.trans (congrArg some (by kernel_rfl))⟩
 f27 := ⟨Try.f70.name, by decide, Try.func70.trans (congrArg some (by kernel_rfl))⟩
 f28 := Try.func71.trans (congrArg some (by kernel_rfl))
 f29 := Try.func72.trans (congrArg some (by kernel_rfl))
 f46 := ⟨Try.f82.name, by decide, Try.func82.trans (congrArg some (by kernel_rfl))⟩
 f47 := Try.func83.trans (congrArg some (by kernel_rfl))
 f48 := Try.func84.trans (congrArg some (by kernel_rfl))
 f49 := ⟨Try.f85.name, by decide, Try.func85.trans (congrArg some (by kernel_rfl))⟩
 f50 := ⟨Try.f86.name, by decide, Try.func86.trans (congrArg some (by kernel_rfl))⟩
 f57 := ⟨Try.f99.name, by decide, Try.func99.trans (congrArg some (by kernel_rfl))⟩
 t0 := Try.underlying0
 a0 := Try.isAgg0
 z0 := Try.sizeOf0
 v0 := Try.zeroValue0
 t3 := Try.underlying3
 a3 := Try.isAgg3
 z3 := Try.sizeOf3
 v3 := Try.zeroValue3
 t4 := Try.underlying4
 a4 := Try.isAgg4
 z4 := Try.sizeOf4
 v4 := Try.zeroValue4
 t5 := Try.underlying5
 a5 := Try.isAgg5
 z5 := Try.sizeOf5
 v5 := Try.zeroValue5
 t9 := Try.underlying9
 a9 := Try.isAgg9
 z9 := Try.sizeOf9
 v9 := Try.zeroValue9
 t22 := Try.underlying32
 a22 := Try.isAgg32
 z22 := Try.sizeOf32
 v22 := Try.zeroValue32
 t25 := Try.underlying70
 a25 := Try.isAgg70
 z25 := Try.sizeOf70
 v25 := Try.zeroValue70
 t39 := Try.underlying89
 a39 := Try.isAgg89
 z39 := Try.sizeOf89
 v39 := Try.zeroValue89
 t45 := Try.underlying99
 a45 := Try.isAgg99
 z45 := Try.sizeOf99
 v45 := Try.zeroValue99
 t46 := Try.underlying100
 a46 := Try.isAgg100
 z46 := Try.sizeOf100
 v46 := Try.zeroValue100
 t50 := Try.underlying104
 a50 := Try.isAgg104
 z50 := Try.sizeOf104
 v50 := Try.zeroValue104
 t53 := Try.underlying107
 a53 := Try.isAgg107
 z53 := Try.sizeOf107
 v53 := Try.zeroValue107
 t55 := Try.underlying109
 a55 := Try.isAgg109
 z55 := Try.sizeOf109
 v55 := Try.zeroValue109
 t66 := Try.underlying116
 a66 := Try.isAgg116
 z66 := Try.sizeOf116
 v66 := Try.zeroValue116
 t70 := Try.underlying120
 a70 := Try.isAgg120
 z70 := Try.sizeOf120
 v70 := Try.zeroValue120
 t76 := Try.underlying130
 a76 := Try.isAgg130
 z76 := Try.sizeOf130
 v76 := Try.zeroValue130
 t77 := Try.underlying131
 a77 := Try.isAgg131
 z77 := Try.sizeOf131
 v77 := Try.zeroValue131 }
def Try.sortTie_ren : Go.Shelf.Ren := ⟨fun | 6 => 38 | 15 => 51 | 14 => 53 | 28 => 71 | 29 => 72 | 20 => 74 | 21 => 75 | 22 => 76 | 23 => 77 | 24 => 78 | 25 => 79 | 26 => 80 | 27 => 81 | 46 => 96 | 47 => 83 | 48 => 84 | 49 => 97 | 50 => 98 | 57 => 104 | n => n, fun | 22 => 35 | 24 => 41 | 25 => 79 | 3 => 3 | 39 => 89 | 0 => 0 | 53 => 107 | 55 => 109 | 4 => 4 | 46 => 100 | 45 => 99 | 50 => 104 | 5 => 5 | 9 => 9 | 66 => 116 | 70 => 120 | 76 => 130 | 77 => 131 | n => n, fun | n => n⟩
theorem Try.sortTie : Go.Proofs.SlLaysF0.n6 Try.prog Try.sortTie_ren := {
 mixed := by kernel_rfl
 f6 := ⟨Try.f38.name, by decide, Try.func38.trans (congrArg some (by kernel_rfl))⟩
 f14 := ⟨Try.f53.name, by decide, Try.func53.trans (congrArg some (by kernel_rfl))⟩
 f15 := Try.func51.trans (congrArg some (by kernel_rfl))
 f20 := ⟨Try.f74.name, by decide, Try.func74.trans (congrArg some (by kernel_rfl))⟩
 f21 := ⟨Try.f75.name, by decide, Try.func75.trans (congrArg some (by kernel_rfl))⟩
 f22 := ⟨Try.f76.name, by decide, Try.func76.trans (congrArg some (by kernel_rfl))⟩
 f23 := ⟨Try.f77.name, by decide, Try.func77.trans (congrArg some (by kernel_rfl))⟩
 f24 := ⟨Try.f78.name, by decide, Try.func78.trans (congrArg some (by kernel_rfl))⟩
 f25 := ⟨Try.f79.name, by decide, Try.func79.trans (congrArg some (by kernel_rfl))⟩
 f26 := ⟨Try.f80.name, by decide, Try.func80.trans (congrArg some (by kernel_rfl))⟩
 f27 := ⟨Try.f81.name, by decide, Try.func81.trans (congrArg some (by kernel_rfl))⟩
 f28 := Try.func71.trans (congrArg some (by kernel_rfl))
 f29 := Try.func72.trans (congrArg some (by kernel_rfl))
 f46 := ⟨Try.f96.name, by decide, Try.func96.trans (congrArg some (by kernel_rfl))⟩
 f47 := Try.func83.trans (congrArg some (by kernel_rfl))
 f48 := Try.func84.trans (congrArg some (by kernel_rfl))
 f49 := ⟨Try.f97.name, by decide, Try.func97.trans (congrArg some (by kernel_rfl))⟩
 f50 := ⟨Try.f98.name, by decide, Try.func98.trans (congrArg some (by kernel_rfl))⟩
 f57 := ⟨Try.f104.name, by decide, Try.func104.trans (congrArg some (by kernel_rfl))⟩
 t0 := Try.underlying0
 a0 := Try.isAgg0
 z0 := Try.sizeOf0
 v0 := Try.zeroValue0
 t3 := Try.underlying3
 a3 := Try.isAgg3
 z3 := Try.sizeOf3
 v3 := Try.zeroValue3
 t4 := Try.underlying4
 a4 := Try.isAgg4
 z4 := Try.sizeOf4
 v4 := Try.zeroValue4
 t5 := Try.underlying5
 a5 := Try.isAgg5
 z5 := Try.sizeOf5
 v5 := Try.zeroValue5
 t9 := Try.underlying9
 a9 := Try.isAgg9
 z9 := Try.sizeOf9
 v9 := Try.zeroValue9
 t22 := Try.underlying35
 a22 := Try.isAgg35
 z22 := Try.sizeOf35
 v22 := Try.zeroValue35
 t25 := Try.underlying79
 a25 := Try.isAgg79
 z25 := Try.sizeOf79
 v25 := Try.zeroValue79
 t39 := Try.underlying89
 a39 := Try.isAgg89
 z39 := Try.sizeOf89
 v39 := Try.zeroValue89
 t45 := Try.underlying99
 a45 := Try.isAgg99
 z45 := Try.sizeOf99
 v45 := Try.zeroValue99
 t46 := Try.underlying100
 a46 := Try.isAgg100
 z46 := Try.sizeOf100
 v46 := Try.zeroValue100
 t50 := Try.underlying104
 a50 := Try.isAgg104
 z50 := Try.sizeOf104
 v50 := Try.zeroValue104
 t53 := Try.underlying107
 a53 := Try.isAgg107
 z53 := Try.sizeOf107
 v53 := Try.zeroValue107
 t55 := Try.underlying109
 a55 := Try.isAgg109
 z55 := Try.sizeOf109
 v55 := Try.zeroValue109
 t66 := Try.underlying116
 a66 := Try.isAgg116
 z66 := Try.sizeOf116
 v66 := Try.zeroValue116
 t70 := Try.underlying120
 a70 := Try.isAgg120
 z70 := Try.sizeOf120
 v70 := Try.zeroValue120
 t76 := Try.underlying130
 a76 := Try.isAgg130
 z76 := Try.sizeOf130
 v76 := Try.zeroValue130
 t77 := Try.underlying131
 a77 := Try.isAgg131
 z77 := Try.sizeOf131
 v77 := Try.zeroValue131 }
def Try.sortInt_ren : Go.Shelf.Ren := ⟨fun | 5 => 52 | 8 => 51 | 7 => 73 | 19 => 71 | 20 => 72 | 10 => 87 | 11 => 88 | 12 => 89 | 13 => 90 | 14 => 91 | 15 => 92 | 16 => 93 | 17 => 94 | 18 => 95 | 30 => 100 | 31 => 83 | 32 => 84 | 33 => 101 | 34 => 102 | 35 => 103 | 40 => 105 | n => n, fun | 23 => 75 | 25 => 3 | 3 => 3 | 32 => 89 | 22 => 75 | 0 => 0 | 44 => 107 | 46 => 109 | 4 => 4 | 36 => 100 | 35 => 99 | 41 => 104 | 5 => 5 | 9 => 9 | 53 => 116 | 57 => 120 | 63 => 130 | 64 => 131 | n => n, fun | n => n⟩
theorem Try.sortInt : Go.Proofs.SlLaysM.n5 Try.prog Try.sortInt_ren := {
 mixed := by kernel_rfl
 f5 := ⟨Try.f52.name, by decide, Try.func52.trans (congrArg some (by kernel_rfl))⟩
 f7 := ⟨Try.f73.name, by decide, Try.func73.trans (congrArg some (by kernel_rfl))⟩
 f8 := Try.func51.trans (congrArg some (by kernel_rfl))
 f10 := ⟨Try.f87.name, by decide, Try.func87.trans (congrArg some (by kernel_rfl))⟩
 f11 := ⟨Try.f88.name, by decide, Try.func88.trans (congrArg some (by kernel_rfl))⟩
 f12 := ⟨Try.f89.name, by decide, Try.func89.trans (congrArg some (by kernel_rfl))⟩
 f13 := ⟨Try.f90.name, by decide, Try.func90.trans (congrArg some (by kernel_rfl))⟩
 f14 := ⟨Try.f91.name, by decide, Try.func91.trans (congrArg some (by kernel_rfl))⟩
 f15 := ⟨Try.f92.name, by decide, Try.func92.trans (congrArg some (by kernel_rfl))⟩
 f16 := ⟨Try.f93.name, by decide, Try.func93.trans (congrArg some (by kernel_rfl))⟩
 f17 := ⟨Try.f94.name, by decide, Try.func94.trans (congrArg some (by kernel_rfl))⟩
 f18 := ⟨Try.f95.name, by decide, Try.func95.trans (congrArg some (by kernel_rfl))⟩
 f19 := Try.func71.trans (congrArg some (by kernel_rfl))
 f20 := Try.func72.trans (congrArg some (by kernel_rfl))
 f30 := ⟨Try.f100.name, by decide, Try.func100.trans (congrArg some (by kernel_rfl))⟩
 f31 := Try.func83.trans (congrArg some (by kernel_rfl))
 f32 := Try.func84.trans (congrArg some (by kernel_rfl))
 f33 := ⟨Try.f101.name, by decide, Try.func101.trans (congrArg some (by kernel_rfl))⟩
 f34 := ⟨Try.f102.name, by decide, Try.func102.trans (congrArg some (by kernel_rfl))⟩
 f35 := ⟨Try.f103.name, by decide, Try.func103.trans (congrArg some (by kernel_rfl))⟩
 f40 := ⟨Try.f105.name, by decide, Try.func105.trans (congrArg some (by kernel_rfl))⟩
 t0 := Try.underlying0
 a0 := Try.isAgg0
 z0 := Try.sizeOf0
 v0 := Try.zeroValue0
 t3 := Try.underlying3
 a3 := Try.isAgg3
 z3 := Try.sizeOf3
 v3 := Try.zeroValue3
 t4 := Try.underlying4
 a4 := Try.isAgg4
 z4 := Try.sizeOf4
 v4 := Try.zeroValue4
 t5 := Try.underlying5
 a5 := Try.isAgg5
 z5 := Try.sizeOf5
 v5 := Try.zeroValue5
 t9 := Try.underlying9
 a9 := Try.isAgg9
 z9 := Try.sizeOf9
 v9 := Try.zeroValue9
 t22 := Try.underlying75
 a22 := Try.isAgg75
 z22 := Try.sizeOf75
 v22 := Try.zeroValue75
 t23 := Try.underlying75
 a23 := Try.isAgg75
 z23 := Try.sizeOf75
 v23 := Try.zeroValue75
 t25 := Try.underlying3
 a25 := Try.isAgg3
 z25 := Try.sizeOf3
 v25 := Try.zeroValue3
 t32 := Try.underlying89
 a32 := Try.isAgg89
 z32 := Try.sizeOf89
 v32 := Try.zeroValue89
 t35 := Try.underlying99
 a35 := Try.isAgg99
 z35 := Try.sizeOf99
 v35 := Try.zeroValue99
 t36 := Try.underlying100
 a36 := Try.isAgg100
 z36 := Try.sizeOf100
 v36 := Try.zeroValue100
 t41 := Try.underlying104
 a41 := Try.isAgg104
 z41 := Try.sizeOf104
 v41 := Try.zeroValue104
 t44 := Try.underlying107
 a44 := Try.isAgg107
 z44 := Try.sizeOf107
 v44 := Try.zeroValue107
 t46 := Try.underlying109
 a46 := Try.isAgg109
 z46 := Try.sizeOf109
 v46 := Try.zeroValue109
 t53 := Try.underlying116
 a53 := Try.isAgg116
 z53 := Try.sizeOf116
 v53 := Try.zeroValue116
 t57 := Try.underlying120
 a57 := Try.isAgg120
 z57 := Try.sizeOf120
 v57 := Try.zeroValue120
 t63 := Try.underlying130
 a63 := Try.isAgg130
 z63 := Try.sizeOf130
 v63 := Try.zeroValue130
 t64 := Try.underlying131
 a64 := Try.isAgg131
 z64 := Try.sizeOf131
 v64 := Try.zeroValue131 }
end Go.Proofs
end
section
namespace Go.Proofs.Ytjhgjbagmkiibaa
open Go.Lg Go.Sort Go.Shelf Go.RowKit Go.Lib
set_option maxRecDepth 100000
noncomputable abbrev pg : Program := Try.prog
def cmpP (a b : Int × Int) : Int := if a.1 ≠ b.1 then a.1 - b.1 else if a.2 < b.2 then -1 else if a.2 > b.2 then 1 else 0
abbrev PB := { p : Int × Int // 0 ≤ p.1 ∧ p.1 < 256 }
instance : Inhabited PB := ⟨⟨(0, 0), by decide⟩⟩
def encB (x : PB) : List Value := [.int .i64 x.1.1, .int .i64 x.1.2]
set_option maxHeartbeats 2000000 in
theorem order_calls (x1 x2 y1 y2 : Int) (hx : 0 ≤ x1 ∧ x1 < 256) (hy : 0 ≤ y1 ∧ y1 < 256) (W : World) : Calls pg 31 #[.agg #[.int .i64 x1, .int .i64 x2], .agg #[.int .i64 y1, .int .i64 y2]] W fun e w' => e = .returned (.int .i64 (cmpP (x1, x2) (y1, y2))) ∧ ∃ q os', w' = grow (W.drewN q) os' := by
 go_enter Try.func31, Try.ntmps31
 go_wp2
 all_goals go_ret
 all_goals refine ⟨congrArg (fun z => Ending.returned (.int .i64 z)) ?_, 0, _, by rw [alloc_eq_grow, alloc_eq_grow, grow_grow]; rfl⟩
 all_goals (unfold cmpP; simp only [bne_iff_ne, ne_eq, bne_eq_false_iff_eq] at *)
 ·rw [if_pos (by assumption)]
 ·rw [if_neg (by simpa using ‹_›), if_pos (by assumption)]
 ·rw [if_neg (by simpa using ‹_›), if_neg (by omega), if_pos (by assumption)]
 ·rw [if_neg (by simpa using ‹_›), if_neg (by omega), if_neg (by omega)]
theorem cmpP_lt (a b : Int × Int) : cmpP a b < 0 ↔ a.1 < b.1 ∨ a.1 = b.1 ∧ a.2 < b.2 := by
 unfold cmpP
 split
 ·omega
 ·split
  ·omega
  ·split <;> omega
def ltP (a b : Int × Int) : Bool := decide (a.1 < b.1 ∨ a.1 = b.1 ∧ a.2 < b.2)
def ltB (x y : PB) : Bool := decide (cmpP x.1 y.1 < 0)
theorem ltB_is (x y : PB) : ltB x y = ltP x.1 y.1 := by unfold ltB ltP; exact decide_eq_decide.2 (cmpP_lt _ _)
theorem swoP : SWO ltP where
 irrefl x := by simp [ltP]
 trans x y z h1 h2 := by simp only [ltP, decide_eq_true_eq] at *; omega
 ntrans x y z h1 h2 := by simp only [ltP, decide_eq_false_iff_not] at *; omega
theorem swoB : SWO ltB where
 irrefl x := by rw [ltB_is]; exact swoP.irrefl _
 trans x y z h1 h2 := by rw [ltB_is] at *; exact swoP.trans _ _ _ h1 h2
 ntrans x y z h1 h2 := by rw [ltB_is] at *; exact swoP.ntrans _ _ _ h1 h2
theorem antiP (x y : Int × Int) (h1 : ltP x y = false) (h2 : ltP y x = false) : x = y := by
 simp only [ltP, decide_eq_false_iff_not] at *
 exact Prod.ext (by omega) (by omega)
theorem antiB (x y : PB) (h1 : ltB x y = false) (h2 : ltB y x = false) : x = y := by
 rw [ltB_is] at *
 exact Subtype.ext (antiP _ _ h1 h2)
theorem enter31 : ∀ args w, (callFunc 31 args).run pg w = .ok (.enter 31 args) w := enters_of Try.func31 (by kernel_rfl) rfl
theorem agg24 : ∀ w, (isAgg 24).run pg w = .ok true w := fun w => pv_run w (by kernel_rfl)
theorem size24 : ∀ w, (Go.sizeOf 24).run pg w = .ok 2 w := fun w => pv_run w (by kernel_rfl)
theorem encB_plain (x : PB) : ∀ v ∈ encB x, plain v = true := by
 intro v hv
 simp only [encB, List.mem_cons, List.not_mem_nil, or_false] at hv
 rcases hv with rfl | rfl <;> rfl
theorem sortPid_calls (blk off cap : Nat) (d : Array PB) (w : World) (hH : HoldsK encB 2 w blk off d) (hb : blk < w.heap.size) (hs : d.size < 4611686018427387904) :
  Calls pg 30 (#[.slice (some ⟨blk, off, none⟩) d.size cap] ++ #[.func (.func 31) #[] #[]]) w fun e w' => e = .returned (.tuple #[]) ∧ ∃ n os, w' = sortWorldK encB 2 w blk off n (d.toList.mergeSort fun x y => !ltB y x).toArray os :=
 AnyQ.slices_SortFunc_total Try.sortPid 2 agg24 size24 encB (fun _ => rfl) (fun x v hv => by
  simp only [encB, List.mem_cons, List.not_mem_nil, or_false] at hv
  rcases hv with rfl | rfl <;> rfl) (fun x y => cmpP x.1 y.1) swoB 31 #[] blk off cap d w enter31 (fun _ _ _ _ x y => order_calls _ _ _ _ x.2 y.2 _) hH hb hs antiB
theorem sortPid_none (p : Option Addr) (cap : Nat) (w : World) : Calls pg 30 (#[.slice p 0 cap] ++ #[.func (.func 31) #[] #[]]) w fun e w' => e = .returned (.tuple #[]) ∧ w' = w :=
 AnyF.slices_SortFunc_none { Try.sortPid with } p cap _ w
def decP : List C → Option (List (Int × Int))
 | [] => some []
 | .sc (.int .i64 a) :: .sc (.int .i64 b) :: r => (decP r).map ((a, b) :: ·)
 | _ => none
def okN (p : Int × Int) : Bool := decide (0 ≤ p.1 ∧ p.1 < 256)
def valP (p : Int × Int) : List Value := [.int .i64 p.1, .int .i64 p.2]
theorem decP_is : ∀ (cs : List C) (l : List (Int × Int)), decP cs = some l → cs = (l.flatMap valP).map C.sc := by
 intro cs
 induction cs using decP.induct with
 | case1 => intro l h; simp only [decP, Option.some.injEq] at h; subst h; rfl
 | case2 a b r ih =>
  intro l h
  simp only [decP, Option.map_eq_some_iff] at h
  obtain ⟨m, hm, rfl⟩ := h
  rw [ih m hm]; rfl
 | case3 cs h1 h2 =>
  intro l h
  unfold decP at h
  split at h
  ·exact absurd rfl h1
  ·exact (h2 _ _ _ rfl).elim
  ·cases h
theorem liftB : ∀ (l : List (Int × Int)), l.all okN = true → ∃ m : List PB, l = m.map (·.1)
 | [], _ => ⟨[], rfl⟩
 | p :: l, h => by
  simp only [List.all_cons, Bool.and_eq_true] at h
  obtain ⟨m, hm⟩ := liftB l h.2
  have hp : 0 ≤ p.1 ∧ p.1 < 256 := of_decide_eq_true h.1
  exact ⟨⟨p, hp⟩ :: m, by subst hm; rfl⟩
def sort30 (args : List Y) (H : Heap) : Option (List Y × Heap) :=
 match args with
 | [.one (.row id st off len _), .one (.fn (.func g) [] [])] => match H[id]? with
  | some (.row true true d st' sz cs) => if g = 31 ∧ st = st' ∧ off = d ∧ off + len = st ∧ sz = 2 ∧ len ≤ 3518437208883 then (decP cs).bind fun l => if l.all okN then some ([], H.set id (.row true true d st 2 (((isort ltP l).flatMap valP).map C.sc))) else none else none
  | _ => none
 | [.one (.sl false true true [] n), .one (.fn (.func g) [] [])] => if n = 0 ∧ g = 31 then some ([], H) else none
 | _ => none
theorem flat_val (m : List PB) : (m.map (·.1)).flatMap valP = m.flatMap encB := by rw [List.flatMap_map]; rfl
theorem sort30_ok : SpOk pg 30 sort30 := by
 intro args H rs H' h
 unfold sort30 at h
 split at h
 case h_3 => cases h
 case h_2 =>
  rename_i n g
  split at h
  case isFalse => cases h
  rename_i hn
  obtain ⟨rfl, rfl⟩ := hn
  cases h
  refine ⟨⟨Try.f30, by kernel_rfl, rfl⟩, fun B β w vs hst hargs => ?_⟩
  cases hargs with
  | @cons _ u _ _ r1 hargs =>
   cases hargs with
   | @cons _ v _ _ r2 hargs =>
    cases hargs
    obtain ⟨a, cap, xs, rfl, _, _⟩ := r1
    obtain ⟨us, vs, rfl, h1, h2⟩ := r2
    cases h1; cases h2
    refine (sortPid_none a cap w).mono fun e w' he => ?_
    obtain ⟨rfl, rfl⟩ := he
    exact ⟨_, β, rfl, hst, Stp.refl _ _ _, [], rfl, .nil⟩
 rename_i id st off len capd g
 split at h
 case h_2 => cases h
 rename_i d st' sz cs ho
 split at h
 case isFalse => cases h
 rename_i hc
 obtain ⟨rfl, rfl, hoff, hend, rfl, hlen⟩ := hc
 obtain ⟨l, hl, h⟩ := Option.bind_eq_some_iff.1 h
 split at h
 case isFalse => cases h
 rename_i hok
 cases h
 obtain ⟨m, rfl⟩ := liftB l hok
 have hcs := decP_is _ _ hl
 rw [flat_val] at hcs
 subst hcs
 refine ⟨⟨Try.f30, by kernel_rfl, rfl⟩, fun B β w vs hst hargs => ?_⟩
 cases hargs with
 | @cons _ u _ _ r1 hargs =>
  cases hargs with
  | @cons _ v _ _ r2 hargs =>
   cases hargs
   obtain ⟨us, vs, rfl, h1, h2⟩ := r2
   cases h1; cases h2
   replace r1 : Rep B β H w (.row id st off len capd) u := r1
   have := sort_row (P := pg) (f := 30) (k := 2) (ev := encB) (lt := ltB) (extra := #[.func (.func 31) #[] #[]]) (fun _ => rfl) (by omega) encB_plain swoB antiB sortPid_calls sortPid_none hst ho hoff hend hlen r1
   refine this.mono fun e w' he => ?_
   obtain ⟨rfl, k1, k2⟩ := he
   rw [isort_map (fun x y => (ltB_is x y).symm), flat_val]
   exact ⟨_, β, rfl, k1, k2, [], rfl, .nil⟩
theorem sort30_hid : SpHid sort30 := by
 intro args H1 r h R n0 H2 hh
 unfold sort30 at h ⊢
 split at h
 case h_3 => cases h
 case h_2 =>
  split at h
  case isFalse => cases h
  rename_i hn
  cases h
  exact ⟨H2, by simp only [if_pos hn], hh⟩
 rename_i id st off len capd g
 split at h
 case h_2 => cases h
 rename_i d st' sz cs ho
 simp only [hh.rle.row ho]
 split at h
 case isFalse => cases h
 rename_i hc
 rw [if_pos hc]
 obtain ⟨l, hl, h⟩ := Option.bind_eq_some_iff.1 h
 simp only [hl, Option.bind_some]
 split at h
 case isFalse => cases h
 rename_i hok
 rw [if_pos hok]
 cases h
 exact ⟨_, rfl, hh.set (hh.free ho rfl) _⟩
end Go.Proofs.Ytjhgjbagmkiibaa
end
section
namespace Go.Proofs.Ytjhgjbagmkiibaa
open Go.Lg Go.Sort Go.Shelf Go.RowKit Go.Lib
set_option maxRecDepth 100000
abbrev PP := (Int × Int) × (Int × Int)
def cmpT (x y : PP) : Int := if cmpP x.1 y.1 ≠ 0 then cmpP x.1 y.1 else cmpP x.2 y.2
abbrev TB := { p : PP // (0 ≤ p.1.1 ∧ p.1.1 < 256) ∧ (0 ≤ p.2.1 ∧ p.2.1 < 256) }
instance : Inhabited TB := ⟨⟨((0, 0), (0, 0)), by decide⟩⟩
def valT5 (x : PP) : List Value := [.int .i64 0, .int .i64 x.1.1, .int .i64 x.1.2, .int .i64 x.2.1, .int .i64 x.2.2]
def encT (x : TB) : List Value := valT5 x.1
def Grown (W W' : World) : Prop := ∃ q os', W' = grow (W.drewN q) os'
theorem grown_refl (W : World) : Grown W W := ⟨0, #[], by rw [grow_empty]; rfl⟩
theorem grown_alloc {W W' : World} (o : Obj) (h : Grown W W') : Grown W (W'.alloc o) := by
  obtain ⟨q, os, rfl⟩ := h
  exact ⟨q, os ++ #[o], by rw [alloc_eq_grow, grow_grow]⟩
theorem grown_step {W W' : World} (q : Nat) (o : Array Obj) (h : Grown W W') : Grown W (grow (W'.drewN q) o) := by
  obtain ⟨q0, os, rfl⟩ := h
  exact ⟨q0 + q, os ++ o, by
    rw [← grow_grow]
    show grow { heap := _, tape := _, drawn := _, os := _, output := _ } o = grow { heap := _, tape := _, drawn := _, os := _, output := _ } o
    congr 1
    simp only [World.drewN, grow, World.mk.injEq, true_and, and_true]
    omega⟩
theorem order_calls' (x1 x2 y1 y2 : Int) (hx : 0 ≤ x1 ∧ x1 < 256) (hy : 0 ≤ y1 ∧ y1 < 256) (W : World) : Calls pg 31 #[.agg #[.int .i64 x1, .int .i64 x2], .agg #[.int .i64 y1, .int .i64 y2]] W fun e w' => e = .returned (.int .i64 (cmpP (x1, x2) (y1, y2))) ∧ Grown W w' ∧ ∀ a : Addr, a.block < W.heap.size → w'.cell? a = W.cell? a :=
  (order_calls x1 x2 y1 y2 hx hy W).mono fun e w' he => by
    obtain ⟨rfl, q, os, rfl⟩ := he
    exact ⟨rfl, ⟨q, os, rfl⟩, fun a ha => by rw [cell?_grow (W.drewN q) os a ha]; rfl⟩
theorem grown_trans {W W1 W2 : World} (h : Grown W W1) (h2 : Grown W1 W2) : Grown W W2 := by
  obtain ⟨q, os, rfl⟩ := h2
  exact grown_step q os h
set_option maxHeartbeats 4000000 in
theorem tie_calls (x y : TB) (W : World) : Calls pg 39 #[.agg (encT x).toArray, .agg (encT y).toArray] W fun e w' => e = .returned (.int .i64 (cmpT x.1 y.1)) ∧ ∃ q os', w' = grow (W.drewN q) os' := by
  obtain ⟨⟨⟨a1, a2⟩, ⟨b1, b2⟩⟩, h1, h2⟩ := x
  obtain ⟨⟨⟨c1, c2⟩, ⟨d1, d2⟩⟩, h3, h4⟩ := y
  show Calls pg 39 #[.agg #[.int .i64 0, .int .i64 a1, .int .i64 a2, .int .i64 b1, .int .i64 b2], .agg #[.int .i64 0, .int .i64 c1, .int .i64 c2, .int .i64 d1, .int .i64 d2]] W fun e w' => e = .returned (.int .i64 (if cmpP (a1, a2) (c1, c2) ≠ 0 then cmpP (a1, a2) (c1, c2) else cmpP (b1, b2) (d1, d2))) ∧ Grown W w'
  generalize hr : (if cmpP (a1, a2) (c1, c2) ≠ 0 then cmpP (a1, a2) (c1, c2) else cmpP (b1, b2) (d1, d2)) = r
  go_enter Try.func39, Try.ntmps39
  go_wp2_with (go_at_call 31; refine (order_calls' _ _ _ _ (by assumption) (by assumption) _).mono ?_; rintro e w' ⟨rfl, hg, hc⟩
               (try (have f3 := hc ⟨W.heap.size, 3, none⟩ (by simp; omega)
                     have f4 := hc ⟨W.heap.size, 4, none⟩ (by simp; omega)
                     have g3 := hc ⟨W.heap.size + 1, 3, none⟩ (by simp)
                     have g4 := hc ⟨W.heap.size + 1, 4, none⟩ (by simp)
                     simp at f3 f4 g3 g4))
               clear hc)
  · go_ret
    rename_i h9
    exact ⟨congrArg (fun z => Ending.returned (.int .i64 z)) (by rw [← hr, if_pos (by simpa using h9)]), grown_trans (grown_alloc _ (grown_alloc _ (grown_refl W))) hg⟩
  · go_ret
    rename_i w1 hg0 h9
    exact ⟨congrArg (fun z => Ending.returned (.int .i64 z)) (by rw [← hr, if_neg (by simpa using h9)]), grown_trans (grown_trans (grown_alloc _ (grown_alloc _ (grown_refl W))) hg0) hg⟩
def ltT (x y : PP) : Bool := decide (ltP x.1 y.1 = true ∨ x.1 = y.1 ∧ ltP x.2 y.2 = true)
def ltTB (x y : TB) : Bool := decide (cmpT x.1 y.1 < 0)
theorem cmpP_zero (a b : Int × Int) : cmpP a b = 0 ↔ a = b := by
  unfold cmpP
  constructor
  · intro h
    split at h
    · omega
    · split at h
      · omega
      · split at h
        · omega
        · exact Prod.ext (by omega) (by omega)
  · rintro rfl; simp
theorem ltP_cmp (a b : Int × Int) : ltP a b = true ↔ cmpP a b < 0 := by simp only [ltP, decide_eq_true_eq, cmpP_lt]
theorem ltTB_is (x y : TB) : ltTB x y = ltT x.1 y.1 := by
  unfold ltTB ltT
  apply decide_eq_decide.2
  rw [ltP_cmp, ltP_cmp, ← cmpP_zero]
  unfold cmpT
  split <;> omega
theorem ltP_total (a b : Int × Int) : ltP a b = true ∨ a = b ∨ ltP b a = true := by
  simp only [ltP, decide_eq_true_eq]
  by_cases h : a = b
  · exact .inr (.inl h)
  · have : ¬ (a.1 = b.1 ∧ a.2 = b.2) := fun e => h (Prod.ext e.1 e.2)
    omega
theorem swoT : SWO ltT where
  irrefl x := by simp [ltT, swoP.irrefl]
  trans x y z h1 h2 := by
    simp only [ltT, decide_eq_true_eq] at *
    rcases h1 with h1 | ⟨e1, h1⟩ <;> rcases h2 with h2 | ⟨e2, h2⟩
    · exact .inl (swoP.trans _ _ _ h1 h2)
    · exact .inl (e2 ▸ h1)
    · exact .inl (e1 ▸ h2)
    · exact .inr ⟨e1.trans e2, swoP.trans _ _ _ h1 h2⟩
  ntrans x y z h1 h2 := by
    simp only [ltT, decide_eq_false_iff_not, not_or, not_and, Bool.not_eq_true] at *
    refine ⟨swoP.ntrans _ _ _ h1.1 h2.1, fun e => ?_⟩
    have hxy : x.1 = y.1 := by
      rcases ltP_total x.1 y.1 with h | h | h
      · rw [h1.1] at h; cases h
      · exact h
      · rw [e] at h; rcases ltP_total y.1 z.1 with h' | h' | h'
        · rw [h2.1] at h'; cases h'
        · rw [e, h']
        · have := swoP.trans _ _ _ h h'; rw [swoP.irrefl] at this; cases this
    exact swoP.ntrans _ _ _ (h1.2 hxy) (h2.2 (hxy ▸ e))
theorem antiT (x y : PP) (h1 : ltT x y = false) (h2 : ltT y x = false) : x = y := by
  simp only [ltT, decide_eq_false_iff_not, not_or, not_and, Bool.not_eq_true] at *
  have e := antiP _ _ h1.1 h2.1
  exact Prod.ext e (antiP _ _ (h1.2 e) (h2.2 e.symm))
theorem swoTB : SWO ltTB where
  irrefl x := by rw [ltTB_is]; exact swoT.irrefl _
  trans x y z h1 h2 := by rw [ltTB_is] at *; exact swoT.trans _ _ _ h1 h2
  ntrans x y z h1 h2 := by rw [ltTB_is] at *; exact swoT.ntrans _ _ _ h1 h2
theorem antiTB (x y : TB) (h1 : ltTB x y = false) (h2 : ltTB y x = false) : x = y := by
  rw [ltTB_is] at *
  exact Subtype.ext (antiT _ _ h1 h2)
theorem enter39 : ∀ args w, (callFunc 39 args).run pg w = .ok (.enter 39 args) w := enters_of Try.func39 (by kernel_rfl) rfl
theorem agg41 : ∀ w, (isAgg 41).run pg w = .ok true w := fun w => pv_run w (by kernel_rfl)
theorem size41 : ∀ w, (Go.sizeOf 41).run pg w = .ok 5 w := fun w => pv_run w (by kernel_rfl)
theorem encT_plain (x : TB) : ∀ v ∈ encT x, plain v = true := by
  intro v hv
  simp only [encT, valT5, List.mem_cons, List.not_mem_nil, or_false] at hv
  rcases hv with rfl | rfl | rfl | rfl | rfl <;> rfl
theorem sortTie_calls (blk off cap : Nat) (d : Array TB) (w : World) (hH : HoldsK encT 5 w blk off d) (hb : blk < w.heap.size) (hs : d.size < 4611686018427387904) :
    Calls pg 38 (#[.slice (some ⟨blk, off, none⟩) d.size cap] ++ #[.func (.func 39) #[] #[]]) w fun e w' => e = .returned (.tuple #[]) ∧ ∃ n os, w' = sortWorldK encT 5 w blk off n (d.toList.mergeSort fun x y => !ltTB y x).toArray os :=
  AnyQ.slices_SortFunc_total Try.sortTie 5 agg41 size41 encT (fun _ => rfl) (fun x v hv => by
    simp only [encT, valT5, List.mem_cons, List.not_mem_nil, or_false] at hv
    rcases hv with rfl | rfl | rfl | rfl | rfl <;> rfl) (fun x y => cmpT x.1 y.1) swoTB 39 #[] blk off cap d w enter39 (fun _ _ _ _ x y => tie_calls x y _) hH hb hs antiTB
theorem sortTie_none (p : Option Addr) (cap : Nat) (w : World) : Calls pg 38 (#[.slice p 0 cap] ++ #[.func (.func 39) #[] #[]]) w fun e w' => e = .returned (.tuple #[]) ∧ w' = w :=
  AnyF.slices_SortFunc_none { Try.sortTie with } p cap _ w
def decT : List C → Option (List PP)
  | [] => some []
  | .sc (.int .i64 z) :: .sc (.int .i64 a) :: .sc (.int .i64 b) :: .sc (.int .i64 c) :: .sc (.int .i64 d) :: r => if z = 0 then (decT r).map (((a, b), (c, d)) :: ·) else none
  | _ => none
def okT (p : PP) : Bool := okN p.1 && okN p.2
theorem decT_is : ∀ (cs : List C) (l : List PP), decT cs = some l → cs = (l.flatMap valT5).map C.sc := by
  intro cs
  induction cs using decT.induct with
  | case1 => intro l h; simp only [decT, Option.some.injEq] at h; subst h; rfl
  | case2 a b c d r ih =>
    intro l h
    simp only [decT, if_true, Option.map_eq_some_iff] at h
    obtain ⟨m, hm, rfl⟩ := h
    rw [ih m hm]; rfl
  | case3 z a b c d r hz =>
    intro l h
    simp only [decT, if_neg hz] at h
    cases h
  | case4 cs h1 h2 =>
    intro l h
    unfold decT at h
    split at h
    · exact absurd rfl h1
    · exact (h2 _ _ _ _ _ _ rfl).elim
    · cases h
theorem liftT : ∀ (l : List PP), l.all okT = true → ∃ m : List TB, l = m.map (·.1)
  | [], _ => ⟨[], rfl⟩
  | p :: l, h => by
    simp only [List.all_cons, Bool.and_eq_true, okT] at h
    obtain ⟨m, hm⟩ := liftT l h.2
    have hp : 0 ≤ p.1.1 ∧ p.1.1 < 256 := of_decide_eq_true h.1.1
    have hq : 0 ≤ p.2.1 ∧ p.2.1 < 256 := of_decide_eq_true h.1.2
    exact ⟨⟨p, hp, hq⟩ :: m, by subst hm; rfl⟩
def sort38 (args : List Y) (H : Heap) : Option (List Y × Heap) :=
  match args with
  | [.one (.row id st off len _), .one (.fn (.func g) [] [])] => match H[id]? with
    | some (.row true true d st' sz cs) => if g = 39 ∧ st = st' ∧ off = d ∧ off + len = st ∧ sz = 5 ∧ len ≤ 3518437208883 then (decT cs).bind fun l => if l.all okT then some ([], H.set id (.row true true d st 5 (((isort ltT l).flatMap valT5).map C.sc))) else none else none
    | _ => none
  | [.one (.sl false true true [] n), .one (.fn (.func g) [] [])] => if n = 0 ∧ g = 39 then some ([], H) else none
  | _ => none
theorem flat_valT (m : List TB) : (m.map (·.1)).flatMap valT5 = m.flatMap encT := by rw [List.flatMap_map]; rfl
theorem sort38_ok : SpOk pg 38 sort38 := by
  intro args H rs H' h
  unfold sort38 at h
  split at h
  case h_3 => cases h
  case h_2 =>
    rename_i n g
    split at h
    case isFalse => cases h
    rename_i hn
    obtain ⟨rfl, rfl⟩ := hn
    cases h
    refine ⟨⟨Try.f38, by kernel_rfl, rfl⟩, fun B β w vs hst hargs => ?_⟩
    cases hargs with
    | @cons _ u _ _ r1 hargs =>
      cases hargs with
      | @cons _ v _ _ r2 hargs =>
        cases hargs
        obtain ⟨a, cap, xs, rfl, _, _⟩ := r1
        obtain ⟨us, vs, rfl, h1, h2⟩ := r2
        cases h1; cases h2
        refine (sortTie_none a cap w).mono fun e w' he => ?_
        obtain ⟨rfl, rfl⟩ := he
        exact ⟨_, β, rfl, hst, Stp.refl _ _ _, [], rfl, .nil⟩
  rename_i id st off len capd g
  split at h
  case h_2 => cases h
  rename_i d st' sz cs ho
  split at h
  case isFalse => cases h
  rename_i hc
  obtain ⟨rfl, rfl, hoff, hend, rfl, hlen⟩ := hc
  obtain ⟨l, hl, h⟩ := Option.bind_eq_some_iff.1 h
  split at h
  case isFalse => cases h
  rename_i hok
  cases h
  obtain ⟨m, rfl⟩ := liftT l hok
  have hcs := decT_is _ _ hl
  rw [flat_valT] at hcs
  subst hcs
  refine ⟨⟨Try.f38, by kernel_rfl, rfl⟩, fun B β w vs hst hargs => ?_⟩
  cases hargs with
  | @cons _ u _ _ r1 hargs =>
    cases hargs with
    | @cons _ v _ _ r2 hargs =>
      cases hargs
      obtain ⟨us, vs, rfl, h1, h2⟩ := r2
      cases h1; cases h2
      replace r1 : Rep B β H w (.row id st off len capd) u := r1
      have := sort_row (P := pg) (f := 38) (k := 5) (ev := encT) (lt := ltTB) (extra := #[.func (.func 39) #[] #[]]) (fun _ => rfl) (by omega) encT_plain swoTB antiTB sortTie_calls sortTie_none hst ho hoff hend hlen r1
      refine this.mono fun e w' he => ?_
      obtain ⟨rfl, k1, k2⟩ := he
      rw [isort_map (fun x y => (ltTB_is x y).symm), flat_valT]
      exact ⟨_, β, rfl, k1, k2, [], rfl, .nil⟩
theorem sort38_hid : SpHid sort38 := by
  intro args H1 r h R n0 H2 hh
  unfold sort38 at h ⊢
  split at h
  case h_3 => cases h
  case h_2 =>
    split at h
    case isFalse => cases h
    rename_i hn
    cases h
    exact ⟨H2, by simp only [if_pos hn], hh⟩
  rename_i id st off len capd g
  split at h
  case h_2 => cases h
  rename_i d st' sz cs ho
  simp only [hh.rle.row ho]
  split at h
  case isFalse => cases h
  rename_i hc
  rw [if_pos hc]
  obtain ⟨l, hl, h⟩ := Option.bind_eq_some_iff.1 h
  simp only [hl, Option.bind_some]
  split at h
  case isFalse => cases h
  rename_i hok
  rw [if_pos hok]
  cases h
  exact ⟨_, rfl, hh.set (hh.free ho rfl) _⟩
def ltI (x y : Int) : Bool := decide (x < y)
def valI (x : Int) : List Value := [.int .i64 x]
theorem swoI : SWO ltI where
  irrefl x := by simp [ltI]
  trans x y z h1 h2 := by simp only [ltI, decide_eq_true_eq] at *; omega
  ntrans x y z h1 h2 := by simp only [ltI, decide_eq_false_iff_not] at *; omega
theorem antiI (x y : Int) (h1 : ltI x y = false) (h2 : ltI y x = false) : x = y := by
  simp only [ltI, decide_eq_false_iff_not] at *; omega
theorem flatI (d : Array Int) : flatK valI 1 d = d.map (Value.int .i64) := by
  obtain ⟨l⟩ := d
  rw [show (⟨l⟩ : Array Int) = l.toArray from rfl, flat_list (enc := valI) (k := 1) (fun _ => rfl) (by omega)]
  simp only [List.map_toArray]
  congr 1
  induction l with
  | nil => rfl
  | cons x l ih => rw [List.flatMap_cons, ih]; rfl
theorem sortInt_calls (blk off cap : Nat) (d : Array Int) (w : World) (hH : HoldsK valI 1 w blk off d) (hb : blk < w.heap.size) (hs : d.size < 4611686018427387904) :
    Calls pg 52 (#[.slice (some ⟨blk, off, none⟩) d.size cap] ++ #[]) w fun e w' => e = .returned (.tuple #[]) ∧ ∃ n os, w' = sortWorldK valI 1 w blk off n (d.toList.mergeSort fun x y => !ltI y x).toArray os := by
  have hH' : Holds (Value.int .i64) w blk off d.toList.toArray := by
    intro j hj
    have hj' : j < d.size := by simpa using hj
    have := hH j (by rw [flatI]; simpa using hj')
    rw [flatI, getElem!_pos _ j (by simpa using hj')] at this
    rw [getElem!_pos _ j hj]
    simpa using this
  have := AnyM.slices_Sort_int Try.sortInt blk off cap d.toList w hH' hb (by simpa using hs)
  rw [show d.toList.length = d.size by simp] at this
  refine this.mono fun e w' he => ?_
  obtain ⟨rfl, n, os, hw⟩ := he
  refine ⟨rfl, n, os, ?_⟩
  rw [hw]
  unfold sortWorldK putRowK
  rw [flatI, putRow_map]
  have hle : (fun x y : Int => decide (x ≤ y)) = fun x y => !ltI y x := by
    funext x y
    simp only [ltI]
    rw [Bool.eq_iff_iff]
    simp
  rw [hle]
theorem sortInt_none (p : Option Addr) (cap : Nat) (w : World) : Calls pg 52 (#[.slice p 0 cap] ++ #[]) w fun e w' => e = .returned (.tuple #[]) ∧ w' = w :=
  AnyM.slices_Sort_int_none Try.sortInt p cap w
def decI : List C → Option (List Int)
  | [] => some []
  | .sc (.int .i64 a) :: r => (decI r).map (a :: ·)
  | _ => none
theorem decI_is : ∀ (cs : List C) (l : List Int), decI cs = some l → cs = (l.flatMap valI).map C.sc := by
  intro cs
  induction cs using decI.induct with
  | case1 => intro l h; simp only [decI, Option.some.injEq] at h; subst h; rfl
  | case2 a r ih =>
    intro l h
    simp only [decI, Option.map_eq_some_iff] at h
    obtain ⟨m, hm, rfl⟩ := h
    rw [ih m hm]; rfl
  | case3 cs h1 h2 =>
    intro l h
    unfold decI at h
    split at h
    · exact absurd rfl h1
    · exact (h2 _ _ rfl).elim
    · cases h
def sort52 (args : List Y) (H : Heap) : Option (List Y × Heap) :=
  match args with
  | [.one (.row id st off len _)] => match H[id]? with
    | some (.row true true d st' sz cs) => if st = st' ∧ off = d ∧ off + len = st ∧ sz = 1 ∧ len ≤ 3518437208883 then (decI cs).bind fun l => some ([], H.set id (.row true true d st 1 (((isort ltI l).flatMap valI).map C.sc))) else none
    | _ => none
  | [.one (.sl false true true [] n)] => if n = 0 then some ([], H) else none
  | _ => none
theorem sort52_ok : SpOk pg 52 sort52 := by
  intro args H rs H' h
  unfold sort52 at h
  split at h
  case h_3 => cases h
  case h_2 =>
    rename_i n
    split at h
    case isFalse => cases h
    rename_i hn
    subst hn
    cases h
    refine ⟨⟨Try.f52, by kernel_rfl, rfl⟩, fun B β w vs hst hargs => ?_⟩
    cases hargs with
    | @cons _ u _ _ r1 hargs =>
      cases hargs
      obtain ⟨a, cap, xs, rfl, _, _⟩ := r1
      refine (sortInt_none a cap w).mono fun e w' he => ?_
      obtain ⟨rfl, rfl⟩ := he
      exact ⟨_, β, rfl, hst, Stp.refl _ _ _, [], rfl, .nil⟩
  rename_i id st off len capd
  split at h
  case h_2 => cases h
  rename_i d st' sz cs ho
  split at h
  case isFalse => cases h
  rename_i hc
  obtain ⟨rfl, hoff, hend, rfl, hlen⟩ := hc
  obtain ⟨l, hl, h⟩ := Option.bind_eq_some_iff.1 h
  cases h
  have hcs := decI_is _ _ hl
  subst hcs
  refine ⟨⟨Try.f52, by kernel_rfl, rfl⟩, fun B β w vs hst hargs => ?_⟩
  cases hargs with
  | @cons _ u _ _ r1 hargs =>
    cases hargs
    replace r1 : Rep B β H w (.row id st off len capd) u := r1
    have := sort_row (P := pg) (f := 52) (k := 1) (ev := valI) (lt := ltI) (extra := #[]) (fun _ => rfl) (by omega) (fun x v hv => by simp only [valI, List.mem_singleton] at hv; subst hv; rfl) swoI antiI sortInt_calls sortInt_none hst ho hoff hend hlen r1
    refine this.mono fun e w' he => ?_
    obtain ⟨rfl, k1, k2⟩ := he
    exact ⟨_, β, rfl, k1, k2, [], rfl, .nil⟩
theorem sort52_hid : SpHid sort52 := by
  intro args H1 r h R n0 H2 hh
  unfold sort52 at h ⊢
  split at h
  case h_3 => cases h
  case h_2 =>
    split at h
    case isFalse => cases h
    rename_i hn
    cases h
    exact ⟨H2, by simp only [if_pos hn], hh⟩
  rename_i id st off len capd
  split at h
  case h_2 => cases h
  rename_i d st' sz cs ho
  simp only [hh.rle.row ho]
  split at h
  case isFalse => cases h
  rename_i hc
  rw [if_pos hc]
  obtain ⟨l, hl, h⟩ := Option.bind_eq_some_iff.1 h
  cases h
  exact ⟨_, by simp only [hl, Option.bind_some], hh.set (hh.free ho rfl) _⟩
#print axioms sort52_ok
end Go.Proofs.Ytjhgjbagmkiibaa
end
section
namespace Go.Proofs.Ytjhgjbagmkiibaa
open Go.Lg
set_option maxRecDepth 100000
abbrev NI : Sh := .int .i64
abbrev PD : Sh := .pr NI (.pr NI .nil)
abbrev PR : Sh := .pr PD (.pr PD .nil)
abbrev TI : Sh := .pr NI PR
def enL (x : PR.T) : Value × Value := (.agg (vals PR x).toArray, .int .i64 1)
def enM (p : TI.T) : Value × Value := (.int .i64 p.1, .agg (vals PR p.2).toArray)
abbrev lnkO (es : List PR.T) : O := bagO (es.map enL)
abbrev monO (ms : List TI.T) : O := bagO (ms.map enM)
theorem vals_inj {x y : PR.T} (h : vals PR x = vals PR y) : x = y := by
 obtain ⟨⟨a1, a2, _⟩, ⟨b1, b2, _⟩, _⟩ := x
 obtain ⟨⟨c1, c2, _⟩, ⟨d1, d2, _⟩, _⟩ := y
 simp only [vals, List.cons_append, List.nil_append, List.cons.injEq, Value.int.injEq, true_and, and_true] at h
 obtain ⟨rfl, rfl, rfl, rfl⟩ := h
 rfl
theorem enL_inj (x y : PR.T) (h : enL x = enL y) : x = y := by
 have := (Prod.mk.inj h).1
 simp only [Value.agg.injEq] at this
 exact vals_inj (by simpa using this)
theorem enM_inj (x y : TI.T) (h : enM x = enM y) : x = y := by
 obtain ⟨h1, h2⟩ := Prod.mk.inj h
 simp only [Value.int.injEq, true_and] at h1
 simp only [Value.agg.injEq] at h2
 exact Prod.ext h1 (vals_inj (by simpa using h2))
theorem eqPR (x y : PR.T) : pv pg (Op.equal 67 (.agg (vals PR x).toArray) (.agg (vals PR y).toArray)) = some (eqb PR x y) := by
 have hk : eqAgg pg PR 67 = true := by kernel_rfl
 simp only [eqAgg, Bool.and_eq_true, decide_eq_true_eq, Bool.not_eq_true'] at hk
 obtain ⟨⟨⟨⟨h1, h2⟩, h3⟩, h4⟩, h5⟩ := hk
 have he := (eq_all PR).1 67 Op.maxDepth x y h2 h4
 simp only [valT, h3, if_true] at he
 exact he
theorem und_of_keyT {t kt vt : TypeId} (h1 : keyT pg t = some kt) (h2 : valTy pg t = some vt) : pg.underlying t = some (.map kt vt) := und_of h1 h2
theorem keyL (x : PR.T) : KeyIs pg 58 67 3 (.agg (vals PR x).toArray) enL (fun y => eqb PR x y) where
 map := und_of_keyT (by kernel_rfl) (by kernel_rfl)
 key := by kernel_rfl
 chk := by
  intro b
  obtain ⟨⟨a1, a2, _⟩, ⟨b1, b2, _⟩, _⟩ := x
  cases b <;> kernel_rfl
 eq := by
  intro y
  unfold keyEq
  rw [if_pos (show isStructT pg 67 = true by kernel_rfl)]
  exact eqPR x y
theorem keyM (r : Int) : KeyIs pg 59 3 72 (.int .i64 r) enM (fun y => r == y.1) where
 map := und_of_keyT (by kernel_rfl) (by kernel_rfl)
 key := by kernel_rfl
 chk := by intro b; cases b <;> kernel_rfl
 eq := by
  intro y
  unfold keyEq
  rw [if_neg (show ¬ isStructT pg 3 = true by
   rw [show isStructT pg 3 = false by kernel_rfl]; simp)]
  have : pg.underlying 3 = some (.int .i64) := Try.underlying3
  rw [this]
  rfl
theorem eqPR_iff {x y : PR.T} : eqb PR x y = true ↔ x = y := eqb_iff (s := PR) rfl
def ldel (es : List PR.T) (x : PR.T) : List PR.T := es.filter fun y => !eqb PR x y
def lins (es : List PR.T) (x : PR.T) : List PR.T := ldel es x ++ [x]
def keyB (r : Int) (ms : List TI.T) : Bool := ms.any fun y => r == y.1
def mdel (ms : List TI.T) (r : Int) : List TI.T := ms.filter fun y => !(r == y.1)
def mins (ms : List TI.T) (r : Int) (w : PR.T) : List TI.T := mdel ms r ++ [((r, w) : TI.T)]
def Uniq (ms : List TI.T) : Prop := (ms.map (·.1)).Nodup
theorem filt_one {α : Type} {p : α → Bool} {x : α} : ∀ {l : List α}, (∀ y ∈ l, p y = true → y = x) → l.Nodup → x ∈ l → p x = true → l.filter p = [x]
 | [], _, _, h, _ => by cases h
 | y :: l, hu, hn, h, hp => by
  rw [List.nodup_cons] at hn
  by_cases e : y = x
  ·subst e
   rw [List.filter_cons_of_pos hp]
   have : l.filter p = [] := by
    rw [List.filter_eq_nil_iff]
    intro z hz hpz
    rw [hu z (by simp [hz]) hpz] at hz
    exact hn.1 hz
   rw [this]
  ·rw [List.filter_cons_of_neg (fun hpy => e (hu y (by simp) hpy))]
   exact filt_one (fun z hz => hu z (by simp [hz])) hn.2 ((List.mem_cons.1 h).resolve_left fun e' => e e'.symm) hp
theorem lhit {es : List PR.T} (hn : es.Nodup) {x : PR.T} (h : memB PR x es = true) : es.filter (fun y => eqb PR x y) = [x] :=
 filt_one (fun y _ hy => (eqPR_iff.1 hy).symm) hn ((memB_iff (s := PR) rfl).1 h) (eqPR_iff.2 rfl)
theorem lmiss {es : List PR.T} {x : PR.T} (h : memB PR x es = false) : es.filter (fun y => eqb PR x y) = [] := by
 rw [List.filter_eq_nil_iff]
 intro y hy hp
 have : memB PR x es = true := (memB_iff (s := PR) rfl).2 (eqPR_iff.1 hp ▸ hy)
 rw [h] at this; cases this
theorem lone {es : List PR.T} (hn : es.Nodup) (x : PR.T) : (es.filter fun y => eqb PR x y).length ≤ 1 := by
 cases h : memB PR x es with
 | true => rw [lhit hn h]; exact Nat.le_refl _
 | false => rw [lmiss h]; exact Nat.zero_le _
theorem mkey {ms : List TI.T} (hn : Uniq ms) {r : Int} (h : keyB r ms = true) : ∃ w : PR.T, ms.filter (fun y => r == y.1) = [((r, w) : TI.T)] ∧ ((r, w) : TI.T) ∈ ms := by
 obtain ⟨y, hy, hr⟩ := List.any_eq_true.1 h
 have hr : r = y.1 := by simpa using hr
 refine ⟨y.2, ?_, by rw [hr]; exact hy⟩
 have he : ((r, y.2) : TI.T) = y := by rw [hr]
 rw [he]
 have hnd : ms.Nodup := nodup_of_map hn
 exact filt_one (p := fun y : TI.T => r == y.1) (fun z hz hzr => inj_of_nodup hn z hz y hy (by rw [← hr]; exact (beq_iff_eq.1 hzr).symm)) hnd hy (by simp [hr])
theorem mmiss {ms : List TI.T} {r : Int} (h : keyB r ms = false) : ms.filter (fun y => r == y.1) = [] := by
 rw [List.filter_eq_nil_iff]
 intro y hy hp
 have : keyB r ms = true := List.any_eq_true.2 ⟨y, hy, hp⟩
 rw [h] at this; cases this
theorem mone {ms : List TI.T} (hn : Uniq ms) (r : Int) : (ms.filter fun y => r == y.1).length ≤ 1 := by
 cases h : keyB r ms with
 | true => obtain ⟨w, hw, _⟩ := mkey hn h; rw [hw]; exact Nat.le_refl _
 | false => rw [mmiss h]; exact Nat.zero_le _
theorem ofV_PR (x : PR.T) : Y.ofV (.agg (vals PR x).toArray) = .agg (enc PR x) := by
 obtain ⟨⟨a1, a2, _⟩, ⟨b1, b2, _⟩, _⟩ := x
 rfl
theorem toV_PR (x : PR.T) : (X.y (.agg (enc PR x))).toV = some (.agg (vals PR x).toArray) := by
 simp only [X.toV, Y.toV, enc_vals (s := PR) rfl x, Option.map_some]
theorem same_PR (x : PR.T) : Instr.sameBits 10000 (.agg (vals PR x).toArray) (.agg (vals PR x).toArray) = true := by
 show (_ && _) = true
 simp only [BEq.rfl, Bool.true_and]
 exact sameBits_all (s := PR) rfl x 9999
section
variable {A : Ann} {H : Heap} {id : Nat} {es : List PR.T} {ms : List TI.T} {x : PR.T} {r : Int}
theorem lk_hit (hH : H[id]? = some (lnkO es)) (hn : es.Nodup) (h : memB PR x es = true) : Ob pg A [.y (.one (.mp id)), .y (.agg (enc PR x))] H (.lookup 58 (.tmp 0) (.tmp 1) false) 0 (xi 1) H :=
 ob_bag_hit (L := es) (x := x) hH (keyL x) (toV_PR x) (lhit hn h) rfl
theorem lk_miss (hH : H[id]? = some (lnkO es)) (h : memB PR x es = false) : Ob pg A [.y (.one (.mp id)), .y (.agg (enc PR x))] H (.lookup 58 (.tmp 0) (.tmp 1) false) 0 (xi 0) H :=
 ob_bag_miss (L := es) (z := .int .i64 0) hH (keyL x) (toV_PR x) (lmiss h) (by kernel_rfl) rfl
theorem lk_put (hH : H[id]? = some (lnkO es)) (hn : es.Nodup) : Ob pg A [.y (.one (.mp id)), .y (.agg (enc PR x)), xi 1] H (.mapUpdate 58 (.tmp 0) (.tmp 1) (.tmp 2)) 0 .undef (H.set id (lnkO (lins es x))) :=
 ob_bag_put (L := es) (x := x) hH (keyL x) (toV_PR x) rfl rfl (lone hn x) (fun z hz => by
  have := eqPR_iff.1 (List.mem_filter.1 hz).2
  subst this
  exact same_PR x)
theorem lk_del (hH : H[id]? = some (lnkO es)) (hn : es.Nodup) {ts : Array TypeId} (hts : ts[0]? = some 58) : Ob pg A [.y (.one (.mp id)), .y (.agg (enc PR x))] H (.call { callee := .builtin .delete, args := #[.tmp 0, .tmp 1], argTypes := ts }) 0 (.tup []) (H.set id (lnkO (ldel es x))) :=
 ob_bag_del (L := es) hH (keyL x) hts (toV_PR x) (lone hn x)
theorem lk_len (hH : H[id]? = some (lnkO es)) {ts : Array TypeId} (hts : ts[0]? = some 58) {n : Int} (hn : (es.length : Int) = n) : Ob pg A [.y (.one (.mp id))] H (.call { callee := .builtin .len, args := #[.tmp 0], argTypes := ts }) 0 (xi n) H :=
 ob_bag_len hH hts (by kernel_rfl) hn
theorem mo_hit {w : PR.T} (hH : H[id]? = some (monO ms)) (h : ms.filter (fun y => r == y.1) = [((r, w) : TI.T)]) : Ob pg A [.y (.one (.mp id)), xi r] H (.lookup 59 (.tmp 0) (.tmp 1) false) 0 (.y (.agg (enc PR w))) H :=
 ob_bag_hit (L := ms) (x := (r, w)) hH (keyM r) rfl h (congrArg some (congrArg X.y (ofV_PR w)))
theorem mo_hit2 {w : PR.T} (hH : H[id]? = some (monO ms)) (h : ms.filter (fun y => r == y.1) = [((r, w) : TI.T)]) : Ob pg A [.y (.one (.mp id)), xi r] H (.lookup 59 (.tmp 0) (.tmp 1) true) 0 (.tup [.agg (enc PR w), .one (vb true)]) H :=
 ob_bag_hit (L := ms) (x := (r, w)) hH (keyM r) rfl h (congrArg (fun z => some (X.tup [z, .one (vb true)])) (ofV_PR w))
theorem mo_miss2 (hH : H[id]? = some (monO ms)) (h : keyB r ms = false) : Ob pg A [.y (.one (.mp id)), xi r] H (.lookup 59 (.tmp 0) (.tmp 1) true) 0 (.tup [.agg [vi 0, vi 0, vi 0, vi 0], .one (vb false)]) H :=
 ob_bag_miss (L := ms) (z := .agg #[.int .i64 0, .int .i64 0, .int .i64 0, .int .i64 0]) hH (keyM r) rfl (mmiss h) (by kernel_rfl) rfl
theorem mo_put {w : PR.T} (hH : H[id]? = some (monO ms)) (hn : Uniq ms) : Ob pg A [.y (.one (.mp id)), xi r, .y (.agg (enc PR w))] H (.mapUpdate 59 (.tmp 0) (.tmp 1) (.tmp 2)) 0 .undef (H.set id (monO (mins ms r w))) :=
 ob_bag_put (L := ms) (x := ((r, w) : TI.T)) hH (keyM r) rfl (by show enM (r, w) = _; rw [toV_PR]; rfl) (by rw [toV_PR]; rfl) (mone hn r) (fun z hz => by
  have : r = z.1 := by simpa using (List.mem_filter.1 hz).2
  show Instr.sameBits 10000 (.int .i64 z.1) (.int .i64 r) = true
  rw [this]
  show (_ && _) = true
  simp)
theorem mo_del (hH : H[id]? = some (monO ms)) (hn : Uniq ms) {ts : Array TypeId} (hts : ts[0]? = some 59) : Ob pg A [.y (.one (.mp id)), xi r] H (.call { callee := .builtin .delete, args := #[.tmp 0, .tmp 1], argTypes := ts }) 0 (.tup []) (H.set id (monO (mdel ms r))) :=
 ob_bag_del (L := ms) hH (keyM r) hts rfl (mone hn r)
theorem mo_len (hH : H[id]? = some (monO ms)) {ts : Array TypeId} (hts : ts[0]? = some 59) {n : Int} (hn : (ms.length : Int) = n) : Ob pg A [.y (.one (.mp id))] H (.call { callee := .builtin .len, args := #[.tmp 0], argTypes := ts }) 0 (xi n) H :=
 ob_bag_len hH hts (by kernel_rfl) hn
end
end Go.Proofs.Ytjhgjbagmkiibaa
end
