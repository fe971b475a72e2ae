/-
  Wheel: even: the law. (Printed by sx/r02.py.)
-/
import Derived.Test.YtoieblpjklbmoaaR02J
import Derived.Test.YtoieblpjklbmoaaX23
namespace Go.Proofs.Ytoieblpjklbmoaa
open Go.Lg
set_option linter.unusedVariables false
set_option maxRecDepth 100000
set_option linter.unusedSimpArgs false
def evB (c0 c1 c2 : Int) : Int := if c1 > c0 then (if c2 > c1 then 2 else 1) else (if c2 > c0 then 2 else 0)
def evA (b a c0 c1 c2 : Int) : Int × Int × Int := (if b = 0 then c0 - a else c0, if b = 1 then c1 - a else c1, if b = 2 then c2 - a else c2)
def evS (w0 w1 w2 : Int) : Nat → Int × Int × Int
  | 0 => (0, 0, 0)
  | n + 1 => evA (evB ((evS w0 w1 w2 n).1 + w0) ((evS w0 w1 w2 n).2.1 + w1) ((evS w0 w1 w2 n).2.2 + w2)) (w0 + w1 + w2) ((evS w0 w1 w2 n).1 + w0) ((evS w0 w1 w2 n).2.1 + w1) ((evS w0 w1 w2 n).2.2 + w2)
def evL (w0 w1 w2 : Int) : Nat → List Int
  | 0 => []
  | n + 1 => evL w0 w1 w2 n ++ [evB ((evS w0 w1 w2 n).1 + w0) ((evS w0 w1 w2 n).2.1 + w1) ((evS w0 w1 w2 n).2.2 + w2)]
def evn (w0 w1 w2 : Int) : List Int := evL w0 w1 w2 (w0 + w1 + w2).toNat
def okVb (w0 w1 w2 : Int) : Bool := decide (1 ≤ w0 ∧ w0 ≤ 64 ∧ 1 ≤ w1 ∧ w1 ≤ 64 ∧ 1 ≤ w2 ∧ w2 ≤ 64 ∧ w0 + w1 + w2 ≤ 64)
def evR (w0 w1 w2 : Int) : List Y := if okVb w0 w1 w2 = true then [.one (sv NI false false false (evn w0 w1 w2)), .one (vi 0)] else [.one (.sl false true true [] 0), .one (vi 1)]
theorem ev_next {w0 w1 w2 k c0 c1 c2 b : Int} (h0 : 0 ≤ k) (a0 : c0 = (evS w0 w1 w2 k.toNat).1) (a1 : c1 = (evS w0 w1 w2 k.toNat).2.1) (a2 : c2 = (evS w0 w1 w2 k.toNat).2.2) (hb : evB (c0 + w0) (c1 + w1) (c2 + w2) = b) :
    evS w0 w1 w2 (k + 1).toNat = evA b (w0 + w1 + w2) (c0 + w0) (c1 + w1) (c2 + w2) ∧ evL w0 w1 w2 (k + 1).toNat = evL w0 w1 w2 k.toNat ++ [b] := by
  rw [show (k + 1).toNat = k.toNat + 1 by omega]
  subst a0; subst a1; subst a2; subst hb
  exact ⟨rfl, rfl⟩
theorem ev_0 {w0 w1 w2 k c0 c1 c2 : Int} (h0 : 0 ≤ k) (a0 : c0 = (evS w0 w1 w2 k.toNat).1) (a1 : c1 = (evS w0 w1 w2 k.toNat).2.1) (a2 : c2 = (evS w0 w1 w2 k.toNat).2.2) (hb : ¬ c1 + w1 > c0 + w0 ∧ ¬ c2 + w2 > c0 + w0) :
    (evS w0 w1 w2 (k + 1).toNat).1 = c0 + w0 - (w0 + w1 + w2) ∧ (evS w0 w1 w2 (k + 1).toNat).2.1 = c1 + w1 ∧ (evS w0 w1 w2 (k + 1).toNat).2.2 = c2 + w2 ∧ evL w0 w1 w2 (k + 1).toNat = evL w0 w1 w2 k.toNat ++ [0] := by
  obtain ⟨e1, e2⟩ := ev_next (b := 0) h0 a0 a1 a2 (by unfold evB; rw [if_neg hb.1, if_neg hb.2])
  rw [e1, e2]
  exact ⟨rfl, rfl, rfl, rfl⟩
theorem ev_1 {w0 w1 w2 k c0 c1 c2 : Int} (h0 : 0 ≤ k) (a0 : c0 = (evS w0 w1 w2 k.toNat).1) (a1 : c1 = (evS w0 w1 w2 k.toNat).2.1) (a2 : c2 = (evS w0 w1 w2 k.toNat).2.2) (hb : c1 + w1 > c0 + w0 ∧ ¬ c2 + w2 > c1 + w1) :
    (evS w0 w1 w2 (k + 1).toNat).1 = c0 + w0 ∧ (evS w0 w1 w2 (k + 1).toNat).2.1 = c1 + w1 - (w0 + w1 + w2) ∧ (evS w0 w1 w2 (k + 1).toNat).2.2 = c2 + w2 ∧ evL w0 w1 w2 (k + 1).toNat = evL w0 w1 w2 k.toNat ++ [1] := by
  obtain ⟨e1, e2⟩ := ev_next (b := 1) h0 a0 a1 a2 (by unfold evB; rw [if_pos hb.1, if_neg hb.2])
  rw [e1, e2]
  exact ⟨rfl, rfl, rfl, rfl⟩
theorem ev_2 {w0 w1 w2 k c0 c1 c2 : Int} (h0 : 0 ≤ k) (a0 : c0 = (evS w0 w1 w2 k.toNat).1) (a1 : c1 = (evS w0 w1 w2 k.toNat).2.1) (a2 : c2 = (evS w0 w1 w2 k.toNat).2.2) (hb : c2 + w2 > c0 + w0 ∧ c2 + w2 > c1 + w1) :
    (evS w0 w1 w2 (k + 1).toNat).1 = c0 + w0 ∧ (evS w0 w1 w2 (k + 1).toNat).2.1 = c1 + w1 ∧ (evS w0 w1 w2 (k + 1).toNat).2.2 = c2 + w2 - (w0 + w1 + w2) ∧ evL w0 w1 w2 (k + 1).toNat = evL w0 w1 w2 k.toNat ++ [2] := by
  obtain ⟨e1, e2⟩ := ev_next (b := 2) h0 a0 a1 a2 (by unfold evB; split <;> rw [if_pos (by omega)])
  rw [e1, e2]
  exact ⟨rfl, rfl, rfl, rfl⟩
structure EvIs (w0 w1 w2 : Int) (n : Nat) : Prop where
  sum : (evS w0 w1 w2 n).1 + (evS w0 w1 w2 n).2.1 + (evS w0 w1 w2 n).2.2 = 0
  l0 : -(w0 + w1 + w2) < (evS w0 w1 w2 n).1
  l1 : -(w0 + w1 + w2) < (evS w0 w1 w2 n).2.1
  l2 : -(w0 + w1 + w2) < (evS w0 w1 w2 n).2.2
  e0 : (evS w0 w1 w2 n).1 = n * w0 - (w0 + w1 + w2) * cnt 0 (evL w0 w1 w2 n)
  e1 : (evS w0 w1 w2 n).2.1 = n * w1 - (w0 + w1 + w2) * cnt 1 (evL w0 w1 w2 n)
  e2 : (evS w0 w1 w2 n).2.2 = n * w2 - (w0 + w1 + w2) * cnt 2 (evL w0 w1 w2 n)
  len : (evL w0 w1 w2 n).length = n
  cs : cnt 0 (evL w0 w1 w2 n) + cnt 1 (evL w0 w1 w2 n) + cnt 2 (evL w0 w1 w2 n) = n
  all : (evL w0 w1 w2 n).all inW = true
theorem step_mul (n w A c : Int) (x : Int) : x = n * w - A * c → x + w = (n + 1) * w - A * c ∧ x + w - A = (n + 1) * w - A * (c + 1) := by
  intro h
  rw [Int.add_mul, Int.mul_add, Int.one_mul, Int.mul_one]
  omega
theorem ev_is {w0 w1 w2 : Int} (h0 : 1 ≤ w0) (h1 : 1 ≤ w1) (h2 : 1 ≤ w2) : ∀ n : Nat, EvIs w0 w1 w2 n := by
  intro n
  induction n with
  | zero => exact ⟨rfl, by show -(w0 + w1 + w2) < 0; omega, by show -(w0 + w1 + w2) < 0; omega, by show -(w0 + w1 + w2) < 0; omega, by simp [evS, evL, cnt], by simp [evS, evL, cnt], by simp [evS, evL, cnt], rfl, by simp [evL, cnt], rfl⟩
  | succ n ih =>
    have s0 := step_mul _ _ _ _ _ ih.e0
    have s1 := step_mul _ _ _ _ _ ih.e1
    have s2 := step_mul _ _ _ _ _ ih.e2
    have b0 := ih.sum
    have b1 := ih.l0
    have b2 := ih.l1
    have b3 := ih.l2
    have b4 := ih.cs
    have hn : ((n : Int) + 1).toNat = n + 1 := by omega
    have hn' : ((n : Nat) : Int).toNat = n := Int.toNat_natCast n
    have hc : ((n + 1 : Nat) : Int) = (n : Int) + 1 := by omega
    have key : ∀ b x0 x1 x2, (b = 0 ∨ b = 1 ∨ b = 2) → (evS w0 w1 w2 (n + 1)).1 = x0 → (evS w0 w1 w2 (n + 1)).2.1 = x1 → (evS w0 w1 w2 (n + 1)).2.2 = x2 → evL w0 w1 w2 (n + 1) = evL w0 w1 w2 n ++ [b] →
        x0 + x1 + x2 = 0 → -(w0 + w1 + w2) < x0 → -(w0 + w1 + w2) < x1 → -(w0 + w1 + w2) < x2 →
        x0 = ((n : Int) + 1) * w0 - (w0 + w1 + w2) * (cnt 0 (evL w0 w1 w2 n) + if b = 0 then 1 else 0) → x1 = ((n : Int) + 1) * w1 - (w0 + w1 + w2) * (cnt 1 (evL w0 w1 w2 n) + if b = 1 then 1 else 0) →
        x2 = ((n : Int) + 1) * w2 - (w0 + w1 + w2) * (cnt 2 (evL w0 w1 w2 n) + if b = 2 then 1 else 0) → EvIs w0 w1 w2 (n + 1) := by
      intro b x0 x1 x2 hb g0 g1 g2 g3 g4 g5 g6 g7 g8 g9 g10
      refine ⟨by rw [g0, g1, g2]; exact g4, by rw [g0]; exact g5, by rw [g1]; exact g6, by rw [g2]; exact g7, ?_, ?_, ?_, by rw [g3, List.length_append, ih.len]; rfl, ?_, ?_⟩
      · rw [g0, g3, count_snoc, hc]; exact g8
      · rw [g1, g3, count_snoc, hc]; exact g9
      · rw [g2, g3, count_snoc, hc]; exact g10
      · rw [g3, count_snoc, count_snoc, count_snoc, hc]
        rcases hb with rfl | rfl | rfl <;> simp <;> omega
      · rw [g3, List.all_append, ih.all]
        rcases hb with rfl | rfl | rfl <;> rfl
    by_cases d1 : (evS w0 w1 w2 n).2.1 + w1 > (evS w0 w1 w2 n).1 + w0
    · by_cases d2 : (evS w0 w1 w2 n).2.2 + w2 > (evS w0 w1 w2 n).2.1 + w1
      · obtain ⟨g0, g1, g2, g3⟩ := ev_2 (w0 := w0) (w1 := w1) (w2 := w2) (k := (n : Int)) (by omega) rfl rfl rfl ⟨by rw [hn']; omega, by rw [hn']; omega⟩
        rw [hn, hn'] at *
        exact key 2 _ _ _ (by omega) g0 g1 g2 g3 (by omega) (by omega) (by omega) (by omega) (by rw [s0.1]; simp) (by rw [s1.1]; simp) (by rw [s2.2]; simp)
      · obtain ⟨g0, g1, g2, g3⟩ := ev_1 (w0 := w0) (w1 := w1) (w2 := w2) (k := (n : Int)) (by omega) rfl rfl rfl ⟨by rw [hn']; omega, by rw [hn']; omega⟩
        rw [hn, hn'] at *
        exact key 1 _ _ _ (by omega) g0 g1 g2 g3 (by omega) (by omega) (by omega) (by omega) (by rw [s0.1]; simp) (by rw [s1.2]; simp) (by rw [s2.1]; simp)
    · by_cases d2 : (evS w0 w1 w2 n).2.2 + w2 > (evS w0 w1 w2 n).1 + w0
      · obtain ⟨g0, g1, g2, g3⟩ := ev_2 (w0 := w0) (w1 := w1) (w2 := w2) (k := (n : Int)) (by omega) rfl rfl rfl ⟨by rw [hn']; omega, by rw [hn']; omega⟩
        rw [hn, hn'] at *
        exact key 2 _ _ _ (by omega) g0 g1 g2 g3 (by omega) (by omega) (by omega) (by omega) (by rw [s0.1]; simp) (by rw [s1.1]; simp) (by rw [s2.2]; simp)
      · obtain ⟨g0, g1, g2, g3⟩ := ev_0 (w0 := w0) (w1 := w1) (w2 := w2) (k := (n : Int)) (by omega) rfl rfl rfl ⟨by rw [hn']; omega, by rw [hn']; omega⟩
        rw [hn, hn'] at *
        exact key 0 _ _ _ (by omega) g0 g1 g2 g3 (by omega) (by omega) (by omega) (by omega) (by rw [s0.2]; simp) (by rw [s1.1]; simp) (by rw [s2.1]; simp)
theorem cnt_mem {c : Int} {l : List Int} (h : 1 ≤ cnt c l) : l.contains c = true := by
  rw [List.contains_iff_mem]
  unfold cnt at h
  exact List.count_pos_iff.1 (by omega)
/-- behind as many rounds as the weights come to: the weights; nothing is owed -/
theorem ev_end {w0 w1 w2 : Int} (h0 : 1 ≤ w0) (h1 : 1 ≤ w1) (h2 : 1 ≤ w2) : cnt 0 (evn w0 w1 w2) = w0 ∧ cnt 1 (evn w0 w1 w2) = w1 ∧ cnt 2 (evn w0 w1 w2) = w2 ∧ evS w0 w1 w2 (w0 + w1 + w2).toNat = (0, 0, 0) := by
  have h := ev_is h0 h1 h2 (w0 + w1 + w2).toNat
  have hc : (((w0 + w1 + w2).toNat : Nat) : Int) = w0 + w1 + w2 := by omega
  have low : ∀ x w c : Int, x = (w0 + w1 + w2) * w - (w0 + w1 + w2) * c → -(w0 + w1 + w2) < x → c ≤ w := by
    intro x w c hx hl
    rw [← Int.mul_sub] at hx
    have : (w0 + w1 + w2) * (-1) < (w0 + w1 + w2) * (w - c) := by rw [← hx]; omega
    have := Int.lt_of_mul_lt_mul_left this (by omega)
    omega
  have e0 := h.e0
  have e1 := h.e1
  have e2 := h.e2
  have cs := h.cs
  rw [hc] at e0 e1 e2 cs
  have k0 := low _ _ _ e0 h.l0
  have k1 := low _ _ _ e1 h.l1
  have k2 := low _ _ _ e2 h.l2
  have f0 : cnt 0 (evn w0 w1 w2) = w0 := by show cnt 0 (evL _ _ _ _) = _; omega
  have f1 : cnt 1 (evn w0 w1 w2) = w1 := by show cnt 1 (evL _ _ _ _) = _; omega
  have f2 : cnt 2 (evn w0 w1 w2) = w2 := by show cnt 2 (evL _ _ _ _) = _; omega
  refine ⟨f0, f1, f2, ?_⟩
  have g0 : cnt 0 (evL w0 w1 w2 (w0 + w1 + w2).toNat) = w0 := f0
  have g1 : cnt 1 (evL w0 w1 w2 (w0 + w1 + w2).toNat) = w1 := f1
  have g2 : cnt 2 (evL w0 w1 w2 (w0 + w1 + w2).toNat) = w2 := f2
  rw [g0, Int.sub_self] at e0
  rw [g1, Int.sub_self] at e1
  rw [g2, Int.sub_self] at e2
  exact Prod.ext e0 (Prod.ext e1 e2)
theorem evn_len {w0 w1 w2 : Int} (h0 : 1 ≤ w0) (h1 : 1 ≤ w1) (h2 : 1 ≤ w2) : ((evn w0 w1 w2).length : Int) = w0 + w1 + w2 := by
  have := (ev_is h0 h1 h2 (w0 + w1 + w2).toNat).len
  unfold evn
  omega
theorem evn_elem {w0 w1 w2 i x : Int} (h0 : 1 ≤ w0) (h1 : 1 ≤ w1) (h2 : 1 ≤ w2) (hx : (evn w0 w1 w2)[i.toNat]? = some x) : 0 ≤ x ∧ x < 3 := by
  have h := (ev_is h0 h1 h2 (w0 + w1 + w2).toNat).all
  have := List.all_eq_true.1 h x (List.mem_of_getElem? hx)
  simpa [inW] using this
theorem evn_ok {w0 w1 w2 : Int} (h0 : 1 ≤ w0) (h1 : 1 ≤ w1) (h2 : 1 ≤ w2) (ha : w0 + w1 + w2 ≤ 64) : okW (evn w0 w1 w2) = true := by
  have hl := evn_len h0 h1 h2
  obtain ⟨g0, g1, g2, _⟩ := ev_end h0 h1 h2
  unfold okW
  rw [decide_eq_true (by omega), cnt_mem (by omega), cnt_mem (by omega), cnt_mem (by omega)]
  simp only [Bool.and_true, Bool.true_and]
  exact (ev_is h0 h1 h2 (w0 + w1 + w2).toNat).all
theorem ev_per {w0 w1 w2 : Int} (m : Nat) (hz : evS w0 w1 w2 m = (0, 0, 0)) : ∀ n : Nat, evS w0 w1 w2 (m + n) = evS w0 w1 w2 n ∧ evL w0 w1 w2 (m + n) = evL w0 w1 w2 m ++ evL w0 w1 w2 n := by
  intro n
  induction n with
  | zero => exact ⟨by rw [Nat.add_zero, hz]; rfl, by simp [evL]⟩
  | succ n ih =>
    obtain ⟨i1, i2⟩ := ih
    rw [← Nat.add_assoc]
    simp only [evS, evL, i1, i2, List.append_assoc]
    exact ⟨trivial, trivial⟩
theorem evB_two (c0 c1 c2 : Int) : evB (2 * c0) (2 * c1) (2 * c2) = evB c0 c1 c2 := by
  unfold evB
  by_cases h1 : c1 > c0
  · rw [if_pos h1, if_pos (by omega)]
    by_cases h2 : c2 > c1
    · rw [if_pos h2, if_pos (by omega)]
    · rw [if_neg h2, if_neg (by omega)]
  · rw [if_neg h1, if_neg (by omega)]
    by_cases h2 : c2 > c0
    · rw [if_pos h2, if_pos (by omega)]
    · rw [if_neg h2, if_neg (by omega)]
theorem ev_two (w0 w1 w2 : Int) : ∀ n : Nat, (evS (2 * w0) (2 * w1) (2 * w2) n).1 = 2 * (evS w0 w1 w2 n).1 ∧ (evS (2 * w0) (2 * w1) (2 * w2) n).2.1 = 2 * (evS w0 w1 w2 n).2.1 ∧ (evS (2 * w0) (2 * w1) (2 * w2) n).2.2 = 2 * (evS w0 w1 w2 n).2.2 ∧
    evL (2 * w0) (2 * w1) (2 * w2) n = evL w0 w1 w2 n := by
  intro n
  induction n with
  | zero => exact ⟨rfl, rfl, rfl, rfl⟩
  | succ n ih =>
    obtain ⟨i0, i1, i2, i3⟩ := ih
    have hb : evB ((evS (2 * w0) (2 * w1) (2 * w2) n).1 + 2 * w0) ((evS (2 * w0) (2 * w1) (2 * w2) n).2.1 + 2 * w1) ((evS (2 * w0) (2 * w1) (2 * w2) n).2.2 + 2 * w2) = evB ((evS w0 w1 w2 n).1 + w0) ((evS w0 w1 w2 n).2.1 + w1) ((evS w0 w1 w2 n).2.2 + w2) := by
      rw [i0, i1, i2, ← Int.mul_add, ← Int.mul_add, ← Int.mul_add, evB_two]
    refine ⟨?_, ?_, ?_, ?_⟩
    · simp only [evS, hb, evA]; split <;> omega
    · simp only [evS, hb, evA]; split <;> omega
    · simp only [evS, hb, evA]; split <;> omega
    · simp only [evL, hb, i3]
theorem evn_two {w0 w1 w2 : Int} (h0 : 1 ≤ w0) (h1 : 1 ≤ w1) (h2 : 1 ≤ w2) : evn (2 * w0) (2 * w1) (2 * w2) = evn w0 w1 w2 ++ evn w0 w1 w2 := by
  unfold evn
  rw [(ev_two w0 w1 w2 _).2.2.2, show (2 * w0 + 2 * w1 + 2 * w2).toNat = (w0 + w1 + w2).toNat + (w0 + w1 + w2).toNat by omega]
  exact ((ev_per _ (ev_end h0 h1 h2).2.2.2) _).2
theorem evn_take {w0 w1 w2 k : Int} (h0 : 1 ≤ w0) (h1 : 1 ≤ w1) (h2 : 1 ≤ w2) (hk : k = ((evn w0 w1 w2).length : Int)) : (evn (2 * w0) (2 * w1) (2 * w2)).take k.toNat = evn w0 w1 w2 := by
  rw [evn_two h0 h1 h2, hk, Int.toNat_natCast, List.take_left]
theorem evn_drop {w0 w1 w2 k : Int} (h0 : 1 ≤ w0) (h1 : 1 ≤ w1) (h2 : 1 ≤ w2) (hk : k = ((evn w0 w1 w2).length : Int)) : (evn (2 * w0) (2 * w1) (2 * w2)).drop k.toNat = evn w0 w1 w2 := by
  rw [evn_two h0 h1 h2, hk, Int.toNat_natCast, List.drop_left]

end Go.Proofs.Ytoieblpjklbmoaa
