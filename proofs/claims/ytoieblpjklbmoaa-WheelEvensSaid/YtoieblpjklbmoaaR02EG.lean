/-
  Wheel: Grown: what stands in a list stays when numbers are put behind it.
-/
import Derived.Test.YtoieblpjklbmoaaR02EK
import Derived.Test.YtoieblpjklbmoaaProg
import Derived.KernelRfl
namespace Go.Proofs.Ytoieblpjklbmoaa
open Go.Lg
set_option maxRecDepth 100000
set_option maxHeartbeats 4000000
/-- one new slice of one number -/
theorem one_new (w : World) (a : Act) (x : Int) (h : a.eval (.tmp 11) = .int .i64 x) {o : Oper} (ho : o.op = .buildSlice 22 1 #[(0, .tmp 11)]) : ∃ u w', (execOp a.eval o).run pg w = .ok (.value u) w' ∧ Grow w w' ∧ IsSl pg w' 1 1 [.int .i64 x] u := by
  have hst : StR (fun _ => False) (fun _ => (0, 0)) [] w := ⟨fun _ _ h => by simp at h, fun _ _ _ _ h => by simp at h, fun _ _ h => by simp at h, fun _ h => h.elim, fun _ _ h => by simp at h⟩
  obtain ⟨β', w', v, h1, h2, h3, h4⟩ := buildSlice_sound (P := pg) (A := { pureSl := fun _ => true, pureFn := fun _ => false, live := fun _ _ => none, loop := fun _ _ => none, may := fun _ => false }) hst (t := 22) (el := 3) (sz := 1) (n := 1) (z := [vi 0]) (cs := [vi x]) (ps := [(0, xi x)]) (vs := #[(0, .int .i64 x)])
    (by kernel_rfl) (by kernel_rfl) (by kernel_rfl) (by omega) (by omega) (.cons ⟨rfl, rfl, rfl⟩ .nil) (by kernel_rfl) (c := .sl false false true [vi x] 1) (H' := []) rfl
  refine ⟨v, w', ?_, ⟨h3.os, h3.tape, h3.output, h3.size, fun k hk => (h3.free k ⟨hk, fun j o hj => by simp at hj⟩).1⟩, ?_⟩
  · have : execOp a.eval o = (do pure (Next.value (← Instr.buildSlice 22 1 #[(0, .int .i64 x)]))) := by
      simp only [execOp, ho]
      simp [h]
    rw [this]
    exact run_value h1
  · obtain ⟨xs, hx, hs, _⟩ := slCells_sound (P := pg) h2 h4 (sz := 1) (n := 1) (cs := [vi x]) (pu := true) rfl
    cases hx with
    | cons r t =>
      cases t
      obtain ⟨_, rfl⟩ := r
      exact hs
def stA (u : Value) (m i : Int) (y : Fin 11 → Value) : Act := { tmps := #[u, .int .i64 m, y 0, y 1, .int .i64 i, y 2, y 3, y 4, y 5, y 6, y 7, y 8, y 9, y 10], defers := [] }
noncomputable abbrev bodyL : Code := match Try.f23.body with | some (.seq _ (.block _ (.loop c))) => c | _ => .skip
noncomputable abbrev reg1 : Code := match bodyL with | .seq (.seq c _) _ => c | _ => .skip
noncomputable abbrev reg3 : Code := match bodyL with | .seq _ (.seq (.block _ c) _) => c | _ => .skip
noncomputable abbrev reg2 : Code := match bodyL with | .seq _ (.seq _ c) => c | _ => .skip
theorem g1 {w : World} {u : Value} {m i : Int} {y : Fin 11 → Value} {Q : Exit → Act → World → Prop} (hq : ∀ y', y' 3 = .bool (decide (i < 20)) → Q .normal (stA u m i y') w) : reg1.wp pg Q (stA u m i y) w := by
  refine wp_region ?_
  refine op_pv (u := .int .i64 i) rfl rfl (by kernel_rfl) ?_
  refine op_pv (u := .bool (decide (i < 20))) rfl rfl (by kernel_rfl) ?_
  exact hq (fun k => #[y 0, y 1, .int .i64 i, .bool (decide (i < 20)), y 4, y 5, y 6, y 7, y 8, y 9, y 10].getD k undef) rfl
theorem g2 {w : World} {u : Value} {m i : Int} {y : Fin 11 → Value} (hi : 0 ≤ i ∧ i < 20) {Q : Exit → Act → World → Prop} (hq : ∀ y', Q .normal (stA u m (i + 1) y') w) : reg2.wp pg Q (stA u m i y) w := by
  have e : IntKind.wrap .i64 (i + 1) = i + 1 := wrap64 (by omega)
  refine wp_region ?_
  refine op_pv (u := .int .i64 i) rfl rfl (by kernel_rfl) ?_
  refine op_pv (u := .int .i64 (IntKind.wrap .i64 (i + 1))) rfl rfl (by kernel_rfl) ?_
  refine op_pv (u := .int .i64 (IntKind.wrap .i64 (i + 1))) rfl rfl (by kernel_rfl) ?_
  rw [e]
  exact hq (fun k => #[y 0, y 1, y 2, y 3, .int .i64 i, .int .i64 (i + 1), y 6, y 7, y 8, y 9, y 10].getD k undef)
theorem g3 {b lim n : Nat} {w0 w : World} {u : Value} {m i : Int} {y : Fin 11 → Value} (hT : Tail b lim w0 w) (hB : Behind pg b lim w0 n w u) (hn : n + 1 ≤ maxLen) (hby : (n + 1) * 8 ≤ maxBytes)
    {Q : Exit → Act → World → Prop} (hq : ∀ u' w' y', Tail b lim w0 w' → Behind pg b lim w0 (n + 1) w' u' → Q .normal (stA u' m i y') w') : reg3.wp pg Q (stA u m i y) w := by
  refine wp_region ?_
  refine op_pv (u := u) rfl rfl (by kernel_rfl) ?_
  refine op_pv (u := .int .i64 m) rfl rfl (by kernel_rfl) ?_
  refine op_pv (u := .int .i64 (IntKind.wrap .i64 (-2000000 - m))) rfl rfl (by kernel_rfl) ?_
  obtain ⟨v, w1, h1, h2, h3⟩ := one_new w (stA u m i (fun k => #[y 0, y 1, y 2, y 3, y 4, y 5, u, .int .i64 m, .int .i64 (IntKind.wrap .i64 (-2000000 - m)), y 9, y 10].getD k undef)) (IntKind.wrap .i64 (-2000000 - m)) rfl (o := { dst := some 12, op := Op.buildSlice 22 1 #[(0, Operand.tmp 11)], type := 22, pos := "ref.go:161", after := #[{ on := 2, ground := Ground.data }], guard := none }) rfl
  refine op_step rfl rfl h1 ?_
  obtain ⟨ti, hti, hts, htb⟩ : ∃ ti, pg.info? 3 = some ti ∧ ti.size = 1 ∧ ti.bytes = 8 := by
    have h1 : szT pg 3 = some 1 := by kernel_rfl
    have h2 : byT pg 3 = some 8 := by kernel_rfl
    unfold szT at h1
    unfold byT at h2
    obtain ⟨ti, hti, h3⟩ := Option.map_eq_some_iff.1 h1
    rw [hti] at h2
    exact ⟨ti, hti, h3, by simpa using h2⟩
  have hz : zeroC pg 3 = some [vi 0] := by kernel_rfl
  obtain ⟨ti', z, hi, hz, hzs, _⟩ := zeroC_info hz
  rw [hti] at hi
  cases hi
  obtain ⟨u', w2, k1, k2, k3⟩ := behind_append (P := pg) (t := 22) (e := 3) (ty := 22) (i := ti) (z := z) (elemT_under (by kernel_rfl)) hti hz hts (by rw [hzs, hts]) (hT.grow h2) (hB.grow h2) h3 rfl hn (by rw [htb]; exact hby)
  refine op_step (u := u') (w' := w2) rfl rfl ?_ ?_
  · exact run_append_op (P := pg) rfl rfl rfl k1
  refine op_pv (u := u') rfl rfl (by kernel_rfl) ?_
  exact hq u' w2 (fun k => #[y 0, y 1, y 2, y 3, y 4, y 5, u, .int .i64 m, .int .i64 (IntKind.wrap .i64 (-2000000 - m)), v, u'].getD k undef) k2 k3
theorem grown_calls {b lim n : Nat} {w : World} {u : Value} {m : Int} (hB : Behind pg b lim w n w u) (hn : n + 20 ≤ maxLen) (hby : (n + 20) * 8 ≤ maxBytes) :
    Calls pg 23 #[u, .int .i64 m] w fun e w' => e = .returned (.tuple #[]) ∧ Tail b lim w w' := by
  refine calls_of_wp (fn := Try.f23) (by kernel_rfl) rfl ?_
  refine wp_seq ?_
  refine wp_region ?_
  refine op_pv (u := .int .i64 0) rfl rfl (by kernel_rfl) ?_
  show Exit.then _ _ .normal _ _
  simp only [Exit.then]
  refine wp_block ?_
  refine wp_loop_rounds 21 ?_
  have key : ∀ (k : Nat) (i : Int) (u' : Value) (w' : World) (y : Fin 11 → Value), i + k = 20 → 0 ≤ i → Tail b lim w w' → Behind pg b lim w (n + i.toNat) w' u' →
      Code.rounds pg bodyL (Exit.inBlock 0 (bodyPost pg Try.f23 fun e w' => e = .returned (.tuple #[]) ∧ Tail b lim w w')) (k + 1) (stA u' m i y) w' := by
    intro k
    induction k with
    | zero =>
      intro i u' w' y hik h0 hT hB'
      rw [rounds_succ]
      refine wp_seq (wp_seq (g1 fun y' hy' => ?_))
      simp only [Exit.then]
      refine wp_cond_false (by show y' 3 = _; rw [hy', decide_eq_false (by omega)]) (wp_exit ?_)
      exact ⟨rfl, .tuple #[], pv_run _ (by kernel_rfl), rfl, hT⟩
    | succ k ih =>
      intro i u' w' y hik h0 hT hB'
      rw [rounds_succ]
      refine wp_seq (wp_seq (g1 fun y' hy' => ?_))
      simp only [Exit.then]
      refine wp_cond_true (by show y' 3 = _; rw [hy', decide_eq_true (by omega)]) (wp_skip ?_)
      simp only [Exit.then]
      refine wp_seq (wp_block (g3 hT hB' (by omega) (by omega) fun u2 w2 y2 hT2 hB2 => ?_))
      simp only [Exit.inBlock, Exit.then]
      refine g2 (by omega) fun y3 => ?_
      simp only [Exit.then]
      refine ih (i + 1) u2 w2 y3 (by omega) (by omega) hT2 ?_
      rw [show n + (i + 1).toNat = n + i.toNat + 1 by omega]
      exact hB2
  exact key 20 0 u w (fun _ => undef) (by omega) (by omega) (Tail.refl _ _ _) hB
/-- What Grown comes to: nothing that the caller sees. -/
def grownSp (args : List Y) (H : Heap) : Option (List Y × Heap) :=
  match args with
  | [.one (.row id st off len _), .one (.sc (.int .i64 _))] => match H[id]? with
    | some (.row _ true d st' sz _) => if st = st' ∧ d ≤ off ∧ off + len = st ∧ sz = 1 ∧ len ≤ 1000000 then some ([], H) else none
    | _ => none
  | [.one (.sl false true true [] n), .one (.sc (.int .i64 _))] => if n = 0 then some ([], H) else none
  | _ => none
theorem grown_ok : SpOk pg 23 grownSp := by
  intro args H rs H' h
  unfold grownSp at h
  split at h
  case h_3 => cases h
  case h_2 =>
    rename_i n m
    split at h
    case isFalse => cases h
    rename_i hn0
    subst hn0
    cases h
    refine ⟨⟨Try.f23, by kernel_rfl, rfl⟩, fun B β w vs hst hargs => ?_⟩
    cases hargs with
    | @cons _ u _ _ r1 hargs =>
      cases hargs with
      | cons r2 hargs =>
        cases hargs
        obtain ⟨_, rfl⟩ := r2
        obtain ⟨a, cap, xs, rfl, hsl, hx⟩ := r1
        obtain ⟨rfl, _, rfl⟩ := hsl.nil1 rfl
        have hB : Behind pg w.heap.size 0 w 0 w (.slice none 0 0) := ⟨none, 0, [], rfl, isSl_mk (Nat.le_refl _) rfl (fun h => absurd rfl h), fun h => absurd h (Nat.lt_irrefl _)⟩
        refine (grown_calls (m := m) hB (by unfold maxLen; omega) (by unfold maxBytes; omega)).mono fun e' w' he' => ?_
        obtain ⟨rfl, hT⟩ := he'
        obtain ⟨stp, hstk⟩ := keep_stp hst hT.os hT.tape hT.output hT.size fun b hb => hT.old b hb (by omega)
        exact ⟨_, β, rfl, hstk, stp, [], rfl, .nil⟩
  rename_i id st off len capd m
  split at h
  case h_2 => cases h
  rename_i pu d st' sz cs ho
  split at h
  case isFalse => cases h
  rename_i hc
  obtain ⟨rfl, hd, hend, rfl, hlen⟩ := hc
  cases h
  refine ⟨⟨Try.f23, by kernel_rfl, rfl⟩, fun B β w vs hst hargs => ?_⟩
  cases hargs with
  | @cons _ u _ _ r1 hargs =>
    cases hargs with
    | cons r2 hargs =>
      cases hargs
      obtain ⟨_, rfl⟩ := r2
      replace r1 : Rep B β H w (.row id st off len capd) u := r1
      obtain ⟨xs, hx, hsl, _⟩ := slCells_sound (P := pg) (sz := 1) (n := len) (pu := pu) (cs := sub ((off - d) * 1) (len * 1) cs) hst r1 (by
        simp only [slCells, ho]
        rw [if_pos ⟨trivial, trivial, hd, by omega⟩])
      obtain ⟨pu', mu', d', st', sz', cells', ho', hle, _, hh⟩ := r1
      rw [ho] at ho'
      cases ho'
      obtain ⟨_, _, a, cap, hu, hlc, hcd, hpos, hroom⟩ := hh rfl
      have hlt := hst.inb id _ ho rfl
      obtain ⟨q1, q2, q3, q4, arr, e, q5, q6, q7⟩ := hst.live id _ ho
      have hB : Behind pg (β id).1 ((β id).2 + cs.length) w len w u := by
        refine ⟨some a, cap, xs, hu, hsl, fun hc => ?_⟩
        have ha := hpos (by omega)
        have hf : capd = false := by
          cases capd with
          | false => rfl
          | true => have := hcd rfl; omega
        obtain ⟨arr', e', fr', hb', hs'⟩ := hroom hf
        rw [q5] at hb'
        cases hb'
        exact ⟨(β id).1, (β id).2 + (off - d) * 1, arr, e, by rw [ha], q5, by omega, .inl ⟨rfl, by omega⟩⟩
      refine (grown_calls (m := m) hB (by unfold maxLen; omega) (by unfold maxBytes; omega)).mono fun e' w' he' => ?_
      obtain ⟨rfl, hT⟩ := he'
      obtain ⟨arr', h5, h6, h7⟩ := hT.blk arr e q5
      have hoth : ∀ j o, H[j]? = some o → o.there = true → j ≠ id → w'.heap[(β j).1]? = w.heap[(β j).1]? := by
        intro j o hj ht hne
        exact hT.old _ (hst.inb j o hj ht) fun e => hne (hst.inj j id o _ hj ht ho rfl e)
      have stp : Stp β H w β H w' := by
        refine ⟨hT.os, hT.tape, hT.output, hT.size, fun k hk => ⟨hT.old k hk.1 fun e => hk.2 id _ ho rfl e.symm, Nat.lt_of_lt_of_le hk.1 hT.size, hk.2⟩, fun j o hj => ⟨o, hj, ?_⟩⟩
        by_cases hji : j = id
        · subst hji
          rw [ho] at hj
          cases hj
          refine ⟨rfl, rfl, Nat.le_refl _, fun _ => ⟨rfl, rfl, fun arr0 e0 fr0 h0 => ?_⟩⟩
          rw [q5] at h0
          cases h0
          exact ⟨arr', e, (0, 0), h5, h6⟩
        · exact Kept.same fun ht => hoth j o hj ht hji
      refine ⟨_, β, rfl, ⟨fun j o hj ht => Nat.lt_of_lt_of_le (hst.inb j o hj ht) hT.size, hst.inj, hst.bor, fun b hb => Nat.lt_of_lt_of_le (hst.blt b hb) hT.size, fun j o hj => ?_⟩, stp, [], rfl, .nil⟩
      by_cases hji : j = id
      · subst hji
        rw [ho] at hj
        cases hj
        refine ⟨q1, q2, q3, q4, arr', e, h5, by rw [h6]; exact q6, ?_⟩
        have : (arr'.toList.drop (β j).2).take cs.length = (arr.toList.drop (β j).2).take cs.length := by
          apply List.ext_getElem?
          intro k
          rw [List.getElem?_take, List.getElem?_take]
          split
          · rw [List.getElem?_drop, List.getElem?_drop, Array.getElem?_toList, Array.getElem?_toList]
            exact h7 _ (by omega)
          · rfl
        rw [this]
        exact q7.mono fun _ _ => Rep.mono stp
      · exact (hst.live j o hj).mono stp rfl fun ht => hoth j o hj ht hji
theorem grown_hid : SpHid grownSp := by
  intro args H1 r h R n0 H2 hh
  unfold grownSp at h ⊢
  split at h
  case h_3 => cases h
  case h_2 =>
    split at h
    case isFalse => cases h
    rename_i hn0
    cases h
    exact ⟨H2, by simp only [if_pos hn0], hh⟩
  rename_i id st off len capd m
  split at h
  case h_2 => cases h
  rename_i pu d st' sz cs ho
  simp only [hh.rle.row ho]
  split at h
  case isFalse => cases h
  rename_i hc
  cases h
  rw [if_pos hc]
  exact ⟨H2, rfl, hh⟩
end Go.Proofs.Ytoieblpjklbmoaa
