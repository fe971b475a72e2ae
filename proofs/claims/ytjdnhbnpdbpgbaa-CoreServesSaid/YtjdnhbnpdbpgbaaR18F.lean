/-
  Core: what is joined. (Printed by sx/r18.py.)
-/
import Derived.Test.YtjdnhbnpdbpgbaaR18E
namespace Go.Proofs.Ytjdnhbnpdbpgbaa
open Go.Lg
set_option linter.unusedVariables false
set_option maxRecDepth 100000
set_option maxHeartbeats 8000000
set_option linter.unusedSimpArgs false
abbrev pin (l : List EN.T) : List EN.T := l.map fun x => (x.1, (true, ()))
theorem nd_at {A B : List PN.T} {q : List EN.T} {ks : List PN.T} {i : Int} {x : EN.T} (h : (A ++ (pids q ++ B)).Nodup) (h0 : 0 ≤ i) (hx : q[i.toNat]? = some x) (hk : ks = A ++ pids (q.take i.toNat)) : memB PN x.1 ks = false := by
  subst hk
  rw [Bool.eq_false_iff]
  intro hm
  rw [memB_iff rfl] at hm
  rw [List.nodup_append] at h
  obtain ⟨_, h2, h3⟩ := h
  rcases List.mem_append.1 hm with hm | hm
  · exact h3 _ hm _ (List.mem_append_left _ (List.mem_map.2 ⟨x, List.mem_of_getElem? hx, rfl⟩)) rfl
  · rw [List.nodup_append] at h2
    obtain ⟨y, hy, he⟩ := List.mem_map.1 hm
    obtain ⟨j, hj, rfl⟩ := List.mem_take_iff_getElem.1 hy
    obtain ⟨hi, rfl⟩ := List.getElem?_eq_some_iff.1 hx
    have := List.pairwise_iff_getElem.1 h2.1 j i.toNat (by simp; omega) (by simpa using hi) (by omega)
    simp only [List.getElem_map] at this
    exact this he
theorem pids_step {A : List PN.T} {q : List EN.T} {ks : List PN.T} {i : Int} {x : EN.T} (h0 : 0 ≤ i) (hx : q[i.toNat]? = some x) (hk : ks = A ++ pids (q.take i.toNat)) : ks ++ [x.1] = A ++ pids (q.take (i + 1).toNat) := by
  subst hk
  rw [show (i + 1).toNat = i.toNat + 1 by omega, List.take_add_one, hx]
  simp
theorem pids_end {A : List PN.T} {q : List EN.T} {ks : List PN.T} {i : Int} (hi : (q.length : Int) ≤ i) (hk : ks = A ++ pids (q.take i.toNat)) : ks = A ++ pids q := by
  rw [hk, List.take_of_length_le (by omega)]
theorem nd_snoc {ks : List PN.T} {x : PN.T} (h : ks.Nodup) (hm : memB PN x ks = false) : (ks ++ [x]).Nodup := by
  rw [List.nodup_append]
  refine ⟨h, by simp, fun a ha b hb => ?_⟩
  simp at hb
  subst hb
  rintro rfl
  exact not_memB rfl hm ha
def JoinOk (m l0 l1 l2 : List EN.T) : Prop := (pids m).Nodup ∧ (∀ p ∈ pids m, p ∉ pids l0) ∧ (∀ p ∈ pids m, p ∉ pids l1) ∧ (∀ p ∈ pids m, p ∉ pids l2)
def JoinBad (m l0 l1 l2 : List EN.T) : Prop := ¬ JoinOk m l0 l1 l2
theorem not_in {x : EN.T} {q : List EN.T} {i : Int} {l : List EN.T} (h : ∀ p ∈ pids q, p ∉ pids l) (hx : q[i.toNat]? = some x) : posI x.1 l < 0 := posI_neg.2 (h _ (List.mem_map.2 ⟨x, List.mem_of_getElem? hx, rfl⟩))
end Go.Proofs.Ytjdnhbnpdbpgbaa
