/-
  Core: what is loaded. (Printed by sx/r18.py.)
-/
import Derived.Test.YtjdnhbnpdbpgbaaR18F
namespace Go.Proofs.Ytjdnhbnpdbpgbaa
open Go.Lg
set_option linter.unusedVariables false
set_option maxRecDepth 100000
set_option maxHeartbeats 8000000
set_option linter.unusedSimpArgs false
def LoadOk (l0 l1 l2 : List EN.T) : Prop := (pids l0 ++ (pids l1 ++ pids l2)).Nodup
def LoadBad (l0 l1 l2 : List EN.T) : Prop := ¬ LoadOk l0 l1 l2
theorem nd_at0 {l0 l1 l2 : List EN.T} (h : LoadOk l0 l1 l2) : ([] ++ (pids l0 ++ (pids l1 ++ pids l2))).Nodup := h
theorem nd_at1 {l0 l1 l2 : List EN.T} (h : LoadOk l0 l1 l2) : (pids l0 ++ (pids l1 ++ pids l2)).Nodup := h
theorem nd_at2 {l0 l1 l2 : List EN.T} (h : LoadOk l0 l1 l2) : ((pids l0 ++ pids l1) ++ (pids l2 ++ [])).Nodup := by
  rw [List.append_nil, List.append_assoc]; exact h
theorem load_good {l0 l1 l2 : List EN.T} {ks : List PN.T} (hn : ks.Nodup) (e : ks = (pids l0 ++ pids l1) ++ pids l2) : LoadOk l0 l1 l2 := by
  subst e
  rw [List.append_assoc] at hn
  exact hn
end Go.Proofs.Ytjdnhbnpdbpgbaa
