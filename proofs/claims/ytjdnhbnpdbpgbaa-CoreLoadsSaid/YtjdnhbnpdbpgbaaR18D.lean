/-
  Core: where an actor stands. (Printed by sx/r18.py.)
-/
import Derived.Test.YtjdnhbnpdbpgbaaR18B
import Derived.Test.YtjdnhbnpdbpgbaaR18C
import Derived.Test.YtjdnhbnpdbpgbaaX32
namespace Go.Proofs.Ytjdnhbnpdbpgbaa
open Go.Lg
set_option linter.unusedVariables false
set_option maxRecDepth 100000
set_option maxHeartbeats 8000000
set_option linter.unusedSimpArgs false
theorem there_key (x : PN.T) (e : Bool) : pv pg (Instr.checkKey e 10000 38 (.agg (vals PN x).toArray)) = some () := by kernel_rfl
theorem there_ok : CntOK pg PN 77 38 3 := ⟨by kernel_rfl, by kernel_rfl, by kernel_rfl, rfl, there_key, by kernel_rfl⟩
def posI (p : PN.T) (l : List EN.T) : Int := match l.findIdx? (fun y => eqb PN y.1 p) with | some i => (i : Int) | none => -1
theorem posI_bd (p : PN.T) (l : List EN.T) : -1 ≤ posI p l ∧ posI p l < l.length := by
  unfold posI
  split
  · rename_i i h
    have := (List.findIdx?_eq_some_iff_getElem.1 h).1
    omega
  · omega
theorem posI_none {p : PN.T} {l : List EN.T} (h : ∀ y ∈ l, eqb PN y.1 p = false) : posI p l = -1 := by
  unfold posI
  rw [List.findIdx?_eq_none_iff.2 h]
theorem posI_at {p : PN.T} {l : List EN.T} {i : Int} {x : EN.T} (h0 : 0 ≤ i) (hx : l[i.toNat]? = some x) (he : eqb PN x.1 p = true) (h : ∀ y ∈ l.take i.toNat, eqb PN y.1 p = false) : posI p l = i := by
  obtain ⟨hi, he'⟩ := List.getElem?_eq_some_iff.1 hx
  have : l.findIdx? (fun y => eqb PN y.1 p) = some i.toNat := by
    rw [List.findIdx?_eq_some_iff_getElem]
    refine ⟨hi, by rw [he']; exact he, fun j hj => ?_⟩
    rw [h _ (List.mem_take_iff_getElem.2 ⟨j, by omega, rfl⟩)]
    simp
  unfold posI
  rw [this]
  show ((i.toNat : Nat) : Int) = i
  omega
theorem idx_step {p : PN.T} {l : List EN.T} {i : Int} {x : EN.T} (h0 : 0 ≤ i) (h : ∀ y ∈ l.take i.toNat, eqb PN y.1 p = false) (hx : l[i.toNat]? = some x) (he : eqb PN x.1 p = false) : ∀ y ∈ l.take (i + 1).toNat, eqb PN y.1 p = false := by
  intro y hy
  rw [show (i + 1).toNat = i.toNat + 1 by omega, List.take_add_one, hx] at hy
  rcases List.mem_append.1 hy with hy | hy
  · exact h y hy
  · simp at hy; subst hy; exact he
theorem all_of_take {α : Type} {P : α → Prop} {l : List α} {i : Int} (h : ∀ y ∈ l.take i.toNat, P y) (hi : (l.length : Int) ≤ i) : ∀ y ∈ l, P y := by
  rw [List.take_of_length_le (by omega)] at h
  exact h
theorem posI_lt {p : PN.T} {l : List EN.T} (h : posI p l < 0) : ∀ y ∈ l, eqb PN y.1 p = false := by
  unfold posI at h
  split at h
  · omega
  · rename_i h2
    exact List.findIdx?_eq_none_iff.1 h2
theorem posI_get {p : PN.T} {l : List EN.T} (h : 0 ≤ posI p l) : ∃ x, l[(posI p l).toNat]? = some x ∧ x.1 = p := by
  unfold posI at h ⊢
  split at h
  · rename_i i h2
    obtain ⟨h3, h4, _⟩ := List.findIdx?_eq_some_iff_getElem.1 h2
    exact ⟨l[i], by rw [Int.toNat_natCast, List.getElem?_eq_getElem h3], eqb_eq rfl h4⟩
  · omega
abbrev pids (l : List EN.T) : List PN.T := l.map (·.1)
theorem posI_neg {p : PN.T} {l : List EN.T} : posI p l < 0 ↔ p ∉ pids l := by
  constructor
  · intro h hp
    obtain ⟨y, hy, rfl⟩ := List.mem_map.1 hp
    have := posI_lt h y hy
    rw [eqb_refl rfl] at this
    cases this
  · intro h
    by_cases h2 : 0 ≤ posI p l
    · obtain ⟨x, hx, rfl⟩ := posI_get h2
      exact absurd (List.mem_map.2 ⟨x, List.mem_of_getElem? hx, rfl⟩) h
    · omega
end Go.Proofs.Ytjdnhbnpdbpgbaa
