/-
 X, part 37: SOMETHING IS APPENDED BEHIND A SLICE THAT IS LOOKED AT AGAIN: what stood ahead stays, whether there was room or not.
-/
import Derived.Test.YtoieblpjklbmoaaX36
namespace Go.Lg
section
variable {P : Program} {B : Nat → Prop} {β : Nat → Nat × Nat} {H : Heap} {w w0 w' : World}
/-- What stands ahead of lim in block b stays; whatever else there was stays. -/
structure Tail (b lim : Nat) (w0 w : World) : Prop where
 os : w.os = w0.os
 tape : w.tape = w0.tape
 output : w.output = w0.output
 size : w0.heap.size ≤ w.heap.size
 old : ∀ k, k < w0.heap.size → k ≠ b → w.heap[k]? = w0.heap[k]?
 blk : ∀ arr e, w0.heap[b]? = some (.cells arr e (0, 0)) → ∃ arr' : Array Value, w.heap[b]? = some (.cells arr' e (0, 0)) ∧ arr'.size = arr.size ∧ ∀ j, j < lim → arr'[j]? = arr[j]?
theorem Tail.refl (b lim : Nat) (w : World) : Tail b lim w w := ⟨rfl, rfl, rfl, Nat.le_refl _, fun _ _ _ => rfl, fun arr _ h => ⟨arr, h, rfl, fun _ _ => rfl⟩⟩
/-- A slice behind which may be written. -/
def Behind (P : Program) (b lim : Nat) (w0 : World) (n : Nat) (w : World) (u : Value) : Prop :=
 ∃ a cap olds, u = .slice a n cap ∧ IsSl P w 1 n olds u ∧
  (n < cap → ∃ k o arr e, a = some ⟨k, o, none⟩ ∧ w.heap[k]? = some (.cells arr e (0, 0)) ∧ o + cap ≤ arr.size ∧ ((k = b ∧ lim ≤ o + n) ∨ w0.heap.size ≤ k))
/-- Nothing that was there turns. -/
structure Grow (w w' : World) : Prop where
 os : w'.os = w.os
 tape : w'.tape = w.tape
 output : w'.output = w.output
 size : w.heap.size ≤ w'.heap.size
 old : ∀ k, k < w.heap.size → w'.heap[k]? = w.heap[k]?
theorem New.grow {o : Obj} (hN : New w o w') : Grow w w' := ⟨hN.os, hN.tape, hN.output, by rw [hN.size]; omega, fun _ h => hN.old h⟩
theorem Tail.grow {b lim : Nat} (h : Tail b lim w0 w) (hN : Grow w w') : Tail b lim w0 w' := by
 refine ⟨hN.os.trans h.os, hN.tape.trans h.tape, hN.output.trans h.output, Nat.le_trans h.size hN.size, fun k hk hkb => ?_, fun arr e he => ?_⟩
 ·rw [hN.old _ (Nat.lt_of_lt_of_le hk h.size)]; exact h.old k hk hkb
 ·rw [hN.old _ (Nat.lt_of_lt_of_le (Array.getElem?_eq_some_iff.1 he).1 h.size)]; exact h.blk arr e he
theorem IsSl.grow {sz n : Nat} {xs : List Value} {u : Value} (hsl : IsSl P w sz n xs u) (hN : Grow w w') : IsSl P w' sz n xs u := by
 obtain ⟨⟨a, cap, rfl, hle⟩, hl, _, _, hat⟩ := hsl
 refine isSl_mk hle hl fun hne => ?_
 obtain ⟨ad, cap', heq, hcell⟩ := hat hne
 cases heq
 refine ⟨ad, rfl, fun j x hj => ?_⟩
 have := hcell j x hj
 have hblt : (ad.add j).block < w.heap.size := by
  refine Nat.lt_of_not_le fun hge => ?_
  unfold World.cell? at this
  have hn : w.heap[(ad.add j).block]? = none := Array.getElem?_eq_none hge
  simp [hn] at this
 rw [← this]
 exact World.cell?_of_block (hN.old _ hblt)
theorem Behind.grow {b lim n : Nat} {u : Value} (h : Behind P b lim w0 n w u) (hN : Grow w w') : Behind P b lim w0 n w' u := by
 obtain ⟨a, cap, olds, rfl, hsl, hroom⟩ := h
 refine ⟨a, cap, olds, rfl, hsl.grow hN, fun hc => ?_⟩
 obtain ⟨k, o', arr, e, rfl, hb, hsz, hor⟩ := hroom hc
 refine ⟨k, o', arr, e, rfl, ?_, hsz, hor⟩
 rw [hN.old _ (by
  refine Nat.lt_of_not_le fun hge => ?_
  rw [Array.getElem?_eq_none hge] at hb; cases hb)]
 exact hb
/-- One more, in its place or elsewhere. -/
theorem behind_append {b lim n : Nat} {u ux x : Value} {t e ty : TypeId} {i : TypeInfo} {z : Value} (ht : P.underlying t = some (.slice e)) (hi : P.info? e = some i) (hz : i.zero = some z) (hs1 : i.size = 1) (hz1 : z.cells.size = 1)
  (hT : Tail b lim w0 w) (hB : Behind P b lim w0 n w u) (hx : IsSl P w 1 1 [x] ux) (h1 : x.oneCell' = true) (hmax : n + 1 ≤ maxLen) (hby : (n + 1) * i.bytes ≤ maxBytes) :
  ∃ u' w', (Builtin.append_ #[t, t] ty #[u, ux]).run P w = .ok u' w' ∧ Tail b lim w0 w' ∧ Behind P b lim w0 (n + 1) w' u' := by
 obtain ⟨a, cap, olds, rfl, hsl, hroom⟩ := hB
 have hsz : szT P e = some 1 := by simp [szT, hi, hs1]
 have hle : n ≤ cap := by obtain ⟨⟨_, _, heq, hle⟩, _⟩ := hsl; cases heq; exact hle
 have hol : olds.length = n := by have := hsl.len; omega
 by_cases hc : n + 1 ≤ cap
 ·obtain ⟨k, o, arr, et, rfl, hk, hsize, hor⟩ := hroom (by omega)
  have hat : ∀ j y, olds[j]? = some y → arr[o + j]? = some y := by
   intro j y hj
   obtain ⟨ad, cap', heq, hcell⟩ := hsl.at_ (fun e => by rw [e] at hj; simp at hj)
   cases heq
   have := hcell j y hj
   rw [show (⟨k, o, none⟩ : Addr).add j = ⟨k, o + j, none⟩ from Addr.add_lit ..] at this
   rw [← cell_at hk j]; exact this
  have hrun := run_append_in (P := P) (w := w) (ty := ty) (t := t) (u := t) (m := 1) ht ht hsz hx hk hc (show o + n * 1 + [x].length ≤ arr.size by simp only [List.length_cons, List.length_nil]; omega) (by simpa using h1)
  simp only [Nat.mul_one] at hrun
  have hfit : o + n + [x].length ≤ arr.toList.length := by rw [Array.length_toList]; show o + n + 1 ≤ arr.size; omega
  have hlen : (splice (o + n) [x] arr.toList).length = arr.size := by rw [length_splice hfit]; exact Array.length_toList
  have hsp := getElem?_splice hfit
  have hoth := fun (k' : Nat) (hne : k' ≠ k) => setRow_other w k k' (splice (o + n) [x] arr.toList).toArray hne
  have hnew := setRow_heap w k arr (splice (o + n) [x] arr.toList).toArray et (0, 0) hk
  refine ⟨_, _, hrun, ⟨hT.os, hT.tape, hT.output, by simpa using hT.size, fun k' hk' hkb => ?_, fun arr0 e0 he0 => ?_⟩, some ⟨k, o, none⟩, cap, olds ++ [x], rfl, ?_, fun hc' => ⟨k, o, (splice (o + n) [x] arr.toList).toArray, et, rfl, hnew, by simpa [hlen] using hsize, ?_⟩⟩
  ·have hne : k' ≠ k := by
    rcases hor with ⟨h, _⟩ | h
    ·rw [h]; exact hkb
    ·omega
   exact (hoth k' hne).trans (hT.old k' hk' hkb)
  ·have hb := (Array.getElem?_eq_some_iff.1 he0).1
   obtain ⟨arr1, h1', h2', h3'⟩ := hT.blk arr0 e0 he0
   rcases hor with ⟨rfl, hlim⟩ | h
   ·rw [hk] at h1'
    cases h1'
    refine ⟨_, hnew, by rw [List.size_toArray, hlen]; exact h2', fun j hj => ?_⟩
    rw [← h3' j hj]
    rw [List.getElem?_toArray, hsp, if_pos (by omega)]
    simp
   ·exact ⟨arr1, (hoth b (by omega)).trans h1', h2', h3'⟩
  ·refine isSl_mk hc (by simp [hol]) fun _ => ⟨⟨k, o, none⟩, rfl, fun j y hj => ?_⟩
   rw [show (⟨k, o, none⟩ : Addr).add j = ⟨k, o + j, none⟩ from Addr.add_lit .., cell_at (hnew) j]
   rw [List.getElem?_toArray, hsp]
   by_cases hj1 : j < n
   ·rw [if_pos (by omega)]
    rw [List.getElem?_append_left (by omega)] at hj
    have := hat j y hj
    simpa using this
   ·have hjl := lt_of_get hj
    have hjn : j = n := by simp [hol] at hjl; omega
    subst hjn
    rw [if_neg (by omega), if_pos (by simp)]
    rw [List.getElem?_append_right (by omega)] at hj
    simpa [hol] using hj
  ·rcases hor with ⟨rfl, hlim⟩ | h
   ·exact .inl ⟨rfl, by omega⟩
   ·exact .inr h
 ·obtain ⟨cap', w', zs, hrun, hle', hzl, hN⟩ := run_append_out (P := P) (w := w) (ty := ty) (t := t) (u := t) (m := 1) ht ht hi hz rfl (by rw [hs1]; exact hsl) (by rw [hs1]; exact hx) (by omega) hmax hby
  have hall : (olds ++ [x] ++ zs).length = cap' := by
   rw [List.length_append, List.length_append, hzl, hz1, hol]; simp; omega
  refine ⟨_, _, hrun, hT.grow hN.grow, some ⟨w.heap.size, 0, none⟩, cap', olds ++ [x], rfl, ?_, fun _ => ⟨w.heap.size, 0, _, e, rfl, hN.new, by rw [List.size_toArray, hall]; omega, .inr hT.size⟩⟩
  refine isSl_mk hle' (by simp [hol]) fun _ => ⟨⟨w.heap.size, 0, none⟩, rfl, fun j y hj => ?_⟩
  rw [show (⟨w.heap.size, 0, none⟩ : Addr).add j = ⟨w.heap.size, 0 + j, none⟩ from Addr.add_lit .., cell_at hN.new j]
  rw [List.getElem?_toArray, Nat.zero_add, List.getElem?_append_left (lt_of_get hj)]
  exact hj
/-! ### Operations, one by one -/
theorem op_step {ops : Array Oper} {Q : Exit → Act → World → Prop} {i : Nat} {l : List Nat} {a : Act} {o : Oper} {u : Value} (ho : ops[i]? = some o) (hg : o.guard = none) (hx : (execOp a.eval o).run P w = .ok (.value u) w')
  (hn : wpOps P ops Q l (a.put o.dst u) w') : wpOps P ops Q (i :: l) a w := by
 rw [wpOps_cons]
 unfold wpOp
 rw [ho]
 simp only [Region.wanted, hg, if_true]
 exact .inl (wp_value hx hn)
theorem op_pv {ops : Array Oper} {Q : Exit → Act → World → Prop} {i : Nat} {l : List Nat} {a : Act} {o : Oper} {u : Value} (ho : ops[i]? = some o) (hg : o.guard = none) (hx : pv P (execOp a.eval o) = some (.value u))
  (hn : wpOps P ops Q l (a.put o.dst u) w) : wpOps P ops Q (i :: l) a w := op_step ho hg (pv_run w hx) hn
theorem run_append_op {ρ : Operand → Value} {o : Oper} {x y : Operand} {t : TypeId} {u v r : Value} (ho : o.op = .call { callee := .builtin .append, args := #[x, y], argTypes := #[t, t] }) (hx : ρ x = u) (hy : ρ y = v)
  (h : (Builtin.append_ #[t, t] o.type #[u, v]).run P w = .ok r w') : (execOp ρ o).run P w = .ok (.value r) w' := by
 simp [execOp, ho, resolve, invoke, builtin, hx, hy, h]
end
end Go.Lg
