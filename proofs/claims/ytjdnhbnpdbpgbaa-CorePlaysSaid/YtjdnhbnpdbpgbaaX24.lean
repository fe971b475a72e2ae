/- Lemmas. -/
import Derived.Test.YtjdnhbnpdbpgbaaX23
namespace Go.Lg
section
variable {P : Program} {A : Ann} {H : Heap}
theorem ob_slice_slc {s : Sh} {t el ty : TypeId} {b nil capd : Bool} {l m : List s.T} {h : Int} (he : elemT P t = some el) (hs : szT P el = some s.cells) (h1 : 0 ≤ h) (h2 : h ≤ l.length) (hm : l.take h.toNat = m) :
  Ob P A [.y (.one (.sl b nil capd (l.flatMap (enc s)) l.length)), .y (.one (.sc (.int .i64 h))), .y (.one (.sc (.int .i64 h)))] H (.slice t (.tmp 0) none (some (.tmp 1)) (some (.tmp 2))) ty (.y (.one (.sl b nil true (m.flatMap (enc s)) m.length))) H := by
 refine ⟨0, ?_⟩
 subst hm
 show ((sliceX P H t (.y (.one (.sl b nil capd (l.flatMap (enc s)) l.length))) none (some (.y (.one (.sc (.int .i64 h))))) (some (.y (.one (.sc (.int .i64 h)))))).map fun v => (v, H)) = _
 have hc : capI h (some (X.y (.one (.sc (.int .i64 h))))).isSome (capd && decide (h = l.length)) (some (.y (.one (.sc (.int .i64 h))))) = some true := by
  simp [capI, X.int?]
 rw [sliceX_sl he hs (a := 0) (h := h) rfl rfl hc (Int.le_refl _) h1 h2]
 simp
theorem dt0 {α : Type} {l : List α} {a n : Nat} (h1 : a = 0) (h2 : l.length ≤ n) : (l.drop a).take n = l := by
 subst h1; rw [List.drop_zero]; exact List.take_of_length_le h2
theorem dt1 {α : Type} {l : List α} {a b n : Nat} (h1 : a = b) (h2 : l.length ≤ a + n) : (l.drop a).take n = l.drop b := by
 subst h1; exact List.take_of_length_le (by rw [List.length_drop]; omega)
theorem slCells_sl {s : Sh} {b nil capd : Bool} {l : List s.T} : slCells H s.cells (.sl b nil capd (l.flatMap (enc s)) l.length) = some (l.flatMap (enc s), l.length, true) := by simp only [slCells, flat_len, if_true]
theorem ob_append_none {t u el ty : TypeId} {sz by_ : Nat} {z : List C} {cs : List C} {n : Nat} {pu : Bool} {c y : C} {cs' : List C} {puy : Bool} (hc : slCells H sz c = some (cs, n, pu)) (hy : slCells H sz y = some (cs', 0, puy))
  (he : elemT P t = some el) (hu : (elemT P u).isSome = true) (hs : szT P el = some sz) (h0 : Nat.ble 1 sz = true) (hb : byT P el = some by_) (hz : zeroC P el = some z) :
  Ob P A [.y (.one c), .y (.one y)] H (.call { callee := .builtin .append, args := #[.tmp 0, .tmp 1], argTypes := #[t, u] }) ty (.y (.one c)) H := by
 refine ⟨0, ?_⟩
 show (if (elemT P u).isSome then (some c).bind fun s' => (some y).bind fun z => (appendX P A H t s' z).map fun (c, H) => (X.y (.one c), H) else none) = _
 rw [if_pos hu]
 simp only [kS]
 unfold appendX
 simp only [he, hs, hb, hz, kS]
 rw [if_pos (show 0 < sz from Nat.le_of_ble_eq_true h0)]
 simp only [hc, hy, kS, if_true, kT]
theorem ob_make {s : Sh} {t el ty : TypeId} {by_ : Nat} {z : s.T} {n c : Int} (he : elemT P t = some el) (hs : szT P el = some s.cells) (hb : byT P el = some by_) (hz : zeroC P el = some (enc s z))
  (hk : (Nat.ble 1 s.cells && (!A.pureSl t || (enc s z).all C.imm)) = true) (h0 : 0 ≤ n) (h01 : n ≤ c) (h1 : c ≤ 9223372036854775807) (h2 : (by_ : Int) * c ≤ 281474976710656) :
  Ob P A [.y (.one (.sc (.int .i64 n))), .y (.one (.sc (.int .i64 c)))] H (.makeSlice t (.tmp 0) (.tmp 1)) ty (.y (.one (.row H.length (List.replicate n.toNat z).length 0 (List.replicate n.toNat z).length false))) (H ++ [tr s (A.pureSl t) (List.replicate n.toNat z)]) := by
 simp only [kA, Bool.or_eq_true, Bool.not_eq_true'] at hk
 refine ⟨0, ?_⟩
 show ((elemT P t).bind fun el => (szT P el).bind fun sz => (byT P el).bind fun by_ => (zeroC P el).bind fun z => (some n).bind fun l => (some c).bind fun cp =>
  if 0 < sz ∧ 0 ≤ l ∧ l ≤ cp ∧ cp ≤ maxLen ∧ by_ * cp ≤ 281474976710656 ∧ (A.pureSl t → z.all C.imm) then
   some (let n := l.toNat; let (c, H) := rowNew H (A.pureSl t) sz n ((List.range (n * sz)).map fun i => z.getD (i % sz) .dead); (X.y (.one c), H)) else none) = _
 simp only [he, hs, hb, hz, kS]
 have hpos : 0 < s.cells := Nat.le_of_ble_eq_true hk.1
 rw [if_pos ⟨hpos, h0, h01, by unfold maxLen; omega, h2, fun hp => by rcases hk.2 with h | h; (rw [hp] at h; cases h); exact h⟩]
 have hcs : ((List.range (n.toNat * s.cells)).map fun i => (enc s z).getD (i % s.cells) .dead) = (List.replicate n.toNat z).flatMap (enc s) := by
  generalize n.toNat = k
  induction k with
  | zero => simp
  | succ k ih =>
   rw [List.replicate_succ', List.flatMap_append, ← ih, Nat.add_mul, Nat.one_mul, List.range_add, List.map_append]
   congr 1
   rw [List.map_map]
   have hl := enc_len s z
   apply List.ext_getElem
   ·simp [hl]
   ·intro i hi _
    have hi' : i < s.cells := by simpa using hi
    simp only [List.getElem_map, List.getElem_range, Function.comp]
    rw [Nat.mul_add_mod_self_right, Nat.mod_eq_of_lt hi']
    simp [List.getD, hl, hi']
 simp only [rowNew, hcs, tr, List.length_replicate]
theorem ob_make' {s : Sh} {t el ty : TypeId} {by_ : Nat} {z : s.T} {zs : List s.T} {n c : Int} (hzs : zs = List.replicate n.toNat z) (he : elemT P t = some el) (hs : szT P el = some s.cells) (hb : byT P el = some by_) (hz : zeroC P el = some (enc s z))
  (hk : (Nat.ble 1 s.cells && (!A.pureSl t || (enc s z).all C.imm)) = true) (h0 : 0 ≤ n) (h01 : n ≤ c) (h1 : c ≤ 9223372036854775807) (h2 : (by_ : Int) * c ≤ 281474976710656) :
  Ob P A [.y (.one (.sc (.int .i64 n))), .y (.one (.sc (.int .i64 c)))] H (.makeSlice t (.tmp 0) (.tmp 1)) ty (.y (.one (.row H.length zs.length 0 zs.length false))) (H ++ [tr s (A.pureSl t) zs]) := by
 subst hzs
 exact ob_make he hs hb hz hk h0 h01 h1 h2
theorem ob_ins {vals : List X} {Hm : Heap} {op : Op} {ty : TypeId} {v : X} (h : Ob P A vals Hm op ty v Hm) :
  ∃ k, (opX P A (runX P A k) (ev (vals.zipIdx.map fun p => (p.2, p.1))) Hm { dst := none, op := op, type := ty, pos := "", after := #[], guard := none }).map (fun r => (r.1, H)) = some (v, H) := by
 obtain ⟨k, h⟩ := h
 exact ⟨k, by rw [h]; rfl⟩
theorem ob_out {vals : List X} {M : List Nat} {Hm H' H2 : Heap} {op : Op} {ty : TypeId} {v : X} (hm : mayHide H M = true) (h : Ob P A vals Hm op ty v H') (hb : backH M H H' = H2) :
  ∃ k, (if mayHide H M then (opX P A (runX P A k) (ev (vals.zipIdx.map fun p => (p.2, p.1))) Hm { dst := none, op := op, type := ty, pos := "", after := #[], guard := none }).map (fun r => (r.1, backH M H r.2)) else none) = some (v, H2) := by
 obtain ⟨k, h⟩ := h
 exact ⟨k, by rw [if_pos hm, h]; simp only [kT, hb]⟩
theorem ob_callv {g : FuncId} {first cap : List C} {vals : List X} {xs0 res : List Y} {ats : Array TypeId} {ty : TypeId} {v : X} {H' : Heap} (args : List Operand) (hp : A.pureFn g = false)
  (ha : (args.map (ev ((X.y (.one (.fn (.func g) first cap)) :: vals).zipIdx.map fun p => (p.2, p.1)))).mapM X.y? = some xs0)
  (hc : Runs P A g (first.map .one ++ xs0 ++ cap.map .one) H res H') (hv : pack res = v) : Ob P A (X.y (.one (.fn (.func g) first cap)) :: vals) H (.call { callee := .value (.tmp 0), args := args.toArray, argTypes := ats }) ty v H' := by
 obtain ⟨k, hk⟩ := Runs.call hp hc
 refine ⟨k, ?_⟩
 subst hv
 show ((args.toArray.toList.map _).mapM X.y?).bind _ = _
 rw [show args.toArray.toList = args from rfl, ha]
 simp only [kS]
 exact hk
end
end Go.Lg
