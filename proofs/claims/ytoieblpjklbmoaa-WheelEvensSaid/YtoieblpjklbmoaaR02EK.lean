/-
  Wheel: even: what it comes to. (Printed by sx/r02.py.)
-/
import Derived.Test.YtoieblpjklbmoaaR02EA
import Derived.Test.YtoieblpjklbmoaaX37
import Derived.Test.YtoieblpjklbmoaaX23
namespace Go.Proofs.Ytoieblpjklbmoaa
open Go.Lg
set_option linter.unusedVariables false
set_option maxRecDepth 100000
set_option linter.unusedSimpArgs false
def evB (c0 c1 c2 : Int) : Int := if c1 > c0 then (if c2 > c1 then 2 else 1) else (if c2 > c0 then 2 else 0)
def evA (b a c0 c1 c2 : Int) : Int × Int × Int := (if b = 0 then c0 - a else c0, if b = 1 then c1 - a else c1, if b = 2 then c2 - a else c2)
def evS (w0 w1 w2 : Int) : Nat → Int × Int × Int
  | 0 => (0, 0, 0)
  | n + 1 => evA (evB ((evS w0 w1 w2 n).1 + w0) ((evS w0 w1 w2 n).2.1 + w1) ((evS w0 w1 w2 n).2.2 + w2)) (w0 + w1 + w2) ((evS w0 w1 w2 n).1 + w0) ((evS w0 w1 w2 n).2.1 + w1) ((evS w0 w1 w2 n).2.2 + w2)
def evL (w0 w1 w2 : Int) : Nat → List Int
  | 0 => []
  | n + 1 => evL w0 w1 w2 n ++ [evB ((evS w0 w1 w2 n).1 + w0) ((evS w0 w1 w2 n).2.1 + w1) ((evS w0 w1 w2 n).2.2 + w2)]
def evn (w0 w1 w2 : Int) : List Int := evL w0 w1 w2 (w0 + w1 + w2).toNat
def okVb (w0 w1 w2 : Int) : Bool := decide (1 ≤ w0 ∧ w0 ≤ 64 ∧ 1 ≤ w1 ∧ w1 ≤ 64 ∧ 1 ≤ w2 ∧ w2 ≤ 64 ∧ w0 + w1 + w2 ≤ 64)
def evR (w0 w1 w2 : Int) : List Y := if okVb w0 w1 w2 = true then [.one (sv NI false false false (evn w0 w1 w2)), .one (vi 0)] else [.one (.sl false true true [] 0), .one (vi 1)]
theorem ev_next {w0 w1 w2 k c0 c1 c2 b : Int} (h0 : 0 ≤ k) (a0 : c0 = (evS w0 w1 w2 k.toNat).1) (a1 : c1 = (evS w0 w1 w2 k.toNat).2.1) (a2 : c2 = (evS w0 w1 w2 k.toNat).2.2) (hb : evB (c0 + w0) (c1 + w1) (c2 + w2) = b) :
    evS w0 w1 w2 (k + 1).toNat = evA b (w0 + w1 + w2) (c0 + w0) (c1 + w1) (c2 + w2) ∧ evL w0 w1 w2 (k + 1).toNat = evL w0 w1 w2 k.toNat ++ [b] := by
  rw [show (k + 1).toNat = k.toNat + 1 by omega]
  subst a0; subst a1; subst a2; subst hb
  exact ⟨rfl, rfl⟩
theorem ev_0 {w0 w1 w2 k c0 c1 c2 : Int} (h0 : 0 ≤ k) (a0 : c0 = (evS w0 w1 w2 k.toNat).1) (a1 : c1 = (evS w0 w1 w2 k.toNat).2.1) (a2 : c2 = (evS w0 w1 w2 k.toNat).2.2) (hb : ¬ c1 + w1 > c0 + w0 ∧ ¬ c2 + w2 > c0 + w0) :
    (evS w0 w1 w2 (k + 1).toNat).1 = c0 + w0 - (w0 + w1 + w2) ∧ (evS w0 w1 w2 (k + 1).toNat).2.1 = c1 + w1 ∧ (evS w0 w1 w2 (k + 1).toNat).2.2 = c2 + w2 ∧ evL w0 w1 w2 (k + 1).toNat = evL w0 w1 w2 k.toNat ++ [0] := by
  obtain ⟨e1, e2⟩ := ev_next (b := 0) h0 a0 a1 a2 (by unfold evB; rw [if_neg hb.1, if_neg hb.2])
  rw [e1, e2]
  exact ⟨rfl, rfl, rfl, rfl⟩
theorem ev_1 {w0 w1 w2 k c0 c1 c2 : Int} (h0 : 0 ≤ k) (a0 : c0 = (evS w0 w1 w2 k.toNat).1) (a1 : c1 = (evS w0 w1 w2 k.toNat).2.1) (a2 : c2 = (evS w0 w1 w2 k.toNat).2.2) (hb : c1 + w1 > c0 + w0 ∧ ¬ c2 + w2 > c1 + w1) :
    (evS w0 w1 w2 (k + 1).toNat).1 = c0 + w0 ∧ (evS w0 w1 w2 (k + 1).toNat).2.1 = c1 + w1 - (w0 + w1 + w2) ∧ (evS w0 w1 w2 (k + 1).toNat).2.2 = c2 + w2 ∧ evL w0 w1 w2 (k + 1).toNat = evL w0 w1 w2 k.toNat ++ [1] := by
  obtain ⟨e1, e2⟩ := ev_next (b := 1) h0 a0 a1 a2 (by unfold evB; rw [if_pos hb.1, if_neg hb.2])
  rw [e1, e2]
  exact ⟨rfl, rfl, rfl, rfl⟩
theorem ev_2 {w0 w1 w2 k c0 c1 c2 : Int} (h0 : 0 ≤ k) (a0 : c0 = (evS w0 w1 w2 k.toNat).1) (a1 : c1 = (evS w0 w1 w2 k.toNat).2.1) (a2 : c2 = (evS w0 w1 w2 k.toNat).2.2) (hb : c2 + w2 > c0 + w0 ∧ c2 + w2 > c1 + w1) :
    (evS w0 w1 w2 (k + 1).toNat).1 = c0 + w0 ∧ (evS w0 w1 w2 (k + 1).toNat).2.1 = c1 + w1 ∧ (evS w0 w1 w2 (k + 1).toNat).2.2 = c2 + w2 - (w0 + w1 + w2) ∧ evL w0 w1 w2 (k + 1).toNat = evL w0 w1 w2 k.toNat ++ [2] := by
  obtain ⟨e1, e2⟩ := ev_next (b := 2) h0 a0 a1 a2 (by unfold evB; split <;> rw [if_pos (by omega)])
  rw [e1, e2]
  exact ⟨rfl, rfl, rfl, rfl⟩
theorem evL_len (w0 w1 w2 : Int) : ∀ n : Nat, (evL w0 w1 w2 n).length = n
  | 0 => rfl
  | n + 1 => by show (evL w0 w1 w2 n ++ [_]).length = _; rw [List.length_append, evL_len w0 w1 w2 n]; rfl
theorem evn_len {w0 w1 w2 : Int} (h0 : 1 ≤ w0) (h1 : 1 ≤ w1) (h2 : 1 ≤ w2) : ((evn w0 w1 w2).length : Int) = w0 + w1 + w2 := by
  unfold evn; rw [evL_len]; omega
/-- what Even comes to on an empty heap -/
def EvR (w0 w1 w2 : Int) (rs : List Y) (H' : Heap) : Prop :=
  (okVb w0 w1 w2 = true ∧ ∃ id, rs = [.one (.row id (evn w0 w1 w2).length 0 (evn w0 w1 w2).length false), .one (vi 0)] ∧ H'[id]? = some (tr NI true (evn w0 w1 w2))) ∨
  (okVb w0 w1 w2 = false ∧ rs = [.one (.sl false true true [] 0), .one (vi 1)])
end Go.Proofs.Ytoieblpjklbmoaa
