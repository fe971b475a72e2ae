/-
  Wheel: functions told by contracts: Even of both, Usual, Grown.
-/
import Derived.Test.YtoieblpjklbmoaaR02EM
import Derived.Test.YtoieblpjklbmoaaR02EG
import Derived.Test.YtoieblpjklbmoaaX17
namespace Go.Proofs.Ytoieblpjklbmoaa
open Go.Lg
set_option maxRecDepth 100000
theorem pok : POk pg := pOk_of (by kernel_rfl)
theorem aok0 : AnnOk pg an := annOk_of (by kernel_rfl)
abbrev nilI : C := .sl false true true [] 0
/-- Even: a new list. -/
def evSp (args : List Y) (H : Heap) : Option (List Y × Heap) :=
  match args with
  | [.agg [.sc (.int .i64 w0), .sc (.int .i64 w1), .sc (.int .i64 w2)]] =>
    if okVb w0 w1 w2 then some ([.one (.row H.length (evn w0 w1 w2).length 0 (evn w0 w1 w2).length false), .one (vi 0)], H ++ [tr NI true (evn w0 w1 w2)])
    else some ([.one nilI, .one (vi 1)], H)
  | _ => none
theorem tr_plain (l : List Int) : (l.flatMap (enc NI)).all (fun c => match c with | .sc _ => true | _ => false) = true := by
  rw [List.all_eq_true]
  intro c hc
  obtain ⟨x, _, hx⟩ := List.mem_flatMap.1 hc
  have : c = vi x := by simpa [enc] using hx
  subst this; rfl
theorem ev_ok {f : FuncId} (hf : ∀ w0 w1 w2 : Int, ∃ rs H', Runs pg an f [.agg [vi w0, vi w1, vi w2]] [] rs H' ∧ EvR w0 w1 w2 rs H') : SpOk pg f evSp := by
  refine SpOk.fresh pok aok0 fun args H rs H1 h => ?_
  unfold evSp at h
  split at h
  case h_2 => cases h
  rename_i w0 w1 w2
  obtain ⟨rs0, H', ⟨k, hk⟩, hr⟩ := hf w0 w1 w2
  refine ⟨[.agg [vi w0, vi w1, vi w2]], k, rs0, H', rfl, hk, ?_⟩
  rcases hr with ⟨ho, id, rfl, hH⟩ | ⟨ho, rfl⟩
  · rw [if_pos ho] at h
    cases h
    exact .row hH (tr_plain _) rfl
  · rw [if_neg (by simp [ho])] at h
    cases h
    exact .back rfl
theorem ev_hid : SpHid evSp := by
  intro args H1 r h R n0 H2 hh
  unfold evSp at h ⊢
  split at h
  case h_2 => cases h
  split at h
  · rename_i ho
    cases h
    rw [if_pos ho]
    exact ⟨_, by rw [hh.len], hh.app _⟩
  · rename_i ho
    cases h
    rw [if_neg ho]
    exact ⟨_, rfl, hh⟩
/-- Usual: a new list. -/
def usSp (args : List Y) (H : Heap) : Option (List Y × Heap) :=
  match args with
  | [] => some ([.one (.row H.length 7 0 7 false)], H ++ [tr NI true [0, 1, 0, 2, 0, 1, 0]])
  | _ => none
def an0 : Ann := { an with pureFn := fun f => an.pureFn f && f != 17 }
theorem aok00 : AnnOk pg an0 := annOk_of (by kernel_rfl)
theorem us_run : (runX pg an0 300 19 [] []).map (fun r => (r.1, r.2[2]?)) = some ([.one (.row 2 7 0 7 false)], some (tr NI true [0, 1, 0, 2, 0, 1, 0])) := by kernel_rfl
theorem us_ok : SpOk pg 19 usSp := by
  refine SpOk.fresh pok aok00 fun args H rs H1 h => ?_
  unfold usSp at h
  split at h
  case h_2 => cases h
  cases h
  obtain ⟨⟨rs0, H'⟩, hk, he⟩ := Option.map_eq_some_iff.1 us_run
  simp only [Prod.mk.injEq] at he
  obtain ⟨rfl, hH⟩ := he
  exact ⟨[], 300, _, H', rfl, hk, .row hH (tr_plain _) rfl⟩
theorem us_hid : SpHid usSp := by
  intro args H1 r h R n0 H2 hh
  unfold usSp at h ⊢
  split at h
  case h_2 => cases h
  cases h
  exact ⟨_, by rw [hh.len], hh.app _⟩
end Go.Proofs.Ytoieblpjklbmoaa
