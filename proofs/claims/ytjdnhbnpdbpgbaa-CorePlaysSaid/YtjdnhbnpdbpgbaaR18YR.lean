/- Lemmas. -/
import Derived.Test.YtjdnhbnpdbpgbaaR18YM
namespace Go.Proofs.Ytjdnhbnpdbpgbaa
open Go.Lg
set_option linter.unusedVariables false
set_option maxRecDepth 100000
set_option maxHeartbeats 8000000
set_option linter.unusedSimpArgs false
def PushR (kk : Int) (p : PN.T) (l0 l1 l2 : List EN.T) (e : Int) (m0 m1 m2 : List EN.T) : Prop :=
  ((kk < 0 ∨ 3 ≤ kk ∨ 0 ≤ posI p l0 ∨ 0 ≤ posI p l1 ∨ 0 ≤ posI p l2) ∧ e = 1 ∧ l0 = m0 ∧ l1 = m1 ∧ l2 = m2) ∨ ((((kk = 0 ∧ 64 ≤ (l0.length : Int)) ∨ (kk = 1 ∧ 64 ≤ (l1.length : Int)) ∨ (kk = 2 ∧ 64 ≤ (l2.length : Int))) ∧ posI p l0 < 0 ∧ posI p l1 < 0 ∧ posI p l2 < 0) ∧ e = 2 ∧ l0 = m0 ∧ l1 = m1 ∧ l2 = m2) ∨ ((kk = 0 ∧ posI p l0 < 0 ∧ posI p l1 < 0 ∧ posI p l2 < 0 ∧ (l0.length : Int) < 64) ∧ e = 0 ∧ (l0 ++ [(p, (false, ()))]) = m0 ∧ l1 = m1 ∧ l2 = m2) ∨ ((kk = 1 ∧ posI p l0 < 0 ∧ posI p l1 < 0 ∧ posI p l2 < 0 ∧ (l1.length : Int) < 64) ∧ e = 0 ∧ l0 = m0 ∧ (l1 ++ [(p, (false, ()))]) = m1 ∧ l2 = m2) ∨ ((kk = 2 ∧ posI p l0 < 0 ∧ posI p l1 < 0 ∧ posI p l2 < 0 ∧ (l2.length : Int) < 64) ∧ e = 0 ∧ l0 = m0 ∧ l1 = m1 ∧ (l2 ++ [(p, (false, ()))]) = m2)
def FindR (p : PN.T) (l0 l1 l2 : List EN.T) (k a e : Int) : Prop :=
  ((0 ≤ posI p l0) ∧ k = 0 ∧ a = posI p l0 ∧ e = 0) ∨ ((posI p l0 < 0 ∧ 0 ≤ posI p l1) ∧ k = 1 ∧ a = posI p l1 ∧ e = 0) ∨ ((posI p l0 < 0 ∧ posI p l1 < 0 ∧ 0 ≤ posI p l2) ∧ k = 2 ∧ a = posI p l2 ∧ e = 0) ∨ ((posI p l0 < 0 ∧ posI p l1 < 0 ∧ posI p l2 < 0 ∧ True) ∧ k = 0 ∧ a = 0 ∧ e = 3)
def DropR (p : PN.T) (l0 l1 l2 : List EN.T) (k a e : Int) (m0 m1 m2 : List EN.T) : Prop :=
  ((0 ≤ posI p l0) ∧ k = 0 ∧ a = posI p l0 ∧ e = 0 ∧ (l0.take (posI p l0).toNat ++ l0.drop (posI p l0 + 1).toNat) = m0 ∧ l1 = m1 ∧ l2 = m2) ∨ ((posI p l0 < 0 ∧ 0 ≤ posI p l1) ∧ k = 1 ∧ a = posI p l1 ∧ e = 0 ∧ l0 = m0 ∧ (l1.take (posI p l1).toNat ++ l1.drop (posI p l1 + 1).toNat) = m1 ∧ l2 = m2) ∨ ((posI p l0 < 0 ∧ posI p l1 < 0 ∧ 0 ≤ posI p l2) ∧ k = 2 ∧ a = posI p l2 ∧ e = 0 ∧ l0 = m0 ∧ l1 = m1 ∧ (l2.take (posI p l2).toNat ++ l2.drop (posI p l2 + 1).toNat) = m2) ∨ ((posI p l0 < 0 ∧ posI p l1 < 0 ∧ posI p l2 < 0 ∧ True) ∧ k = 0 ∧ a = 0 ∧ e = 3 ∧ l0 = m0 ∧ l1 = m1 ∧ l2 = m2)
def PickR (S : List Int) (hand : Int) (l0 l1 l2 : List EN.T) (x : EN.T) (k e hd : Int) (m0 m1 m2 : List EN.T) : Prop :=
  (((l0.length = 0 ∧ l1.length = 0 ∧ l2.length = 0) ∧ nx S hand (decide (((l0.length : Int) : Int) > 0)) (decide (((l1.length : Int) : Int) > 0)) (decide (((l2.length : Int) : Int) > 0)) = (0, 0, 3)) ∧ x = ((0, (0, ())), (false, ())) ∧ k = 0 ∧ e = 3 ∧ hand = hd ∧ l0 = m0 ∧ l1 = m1 ∧ l2 = m2) ∨ ((l0[0]? = some x ∧ nx S hand (decide (((l0.length : Int) : Int) > 0)) (decide (((l1.length : Int) : Int) > 0)) (decide (((l2.length : Int) : Int) > 0)) = (0, ((hand + 1) % (S.length : Int)), 0)) ∧ k = 0 ∧ e = 0 ∧ hd = ((hand + 1) % (S.length : Int)) ∧ (l0.drop 1) = m0 ∧ l1 = m1 ∧ l2 = m2) ∨ ((l1[0]? = some x ∧ nx S hand (decide (((l0.length : Int) : Int) > 0)) (decide (((l1.length : Int) : Int) > 0)) (decide (((l2.length : Int) : Int) > 0)) = (1, ((hand + 1) % (S.length : Int)), 0)) ∧ k = 1 ∧ e = 0 ∧ hd = ((hand + 1) % (S.length : Int)) ∧ l0 = m0 ∧ (l1.drop 1) = m1 ∧ l2 = m2) ∨ ((l2[0]? = some x ∧ nx S hand (decide (((l0.length : Int) : Int) > 0)) (decide (((l1.length : Int) : Int) > 0)) (decide (((l2.length : Int) : Int) > 0)) = (2, ((hand + 1) % (S.length : Int)), 0)) ∧ k = 2 ∧ e = 0 ∧ hd = ((hand + 1) % (S.length : Int)) ∧ l0 = m0 ∧ l1 = m1 ∧ (l2.drop 1) = m2)
def CutR (kk n : Int) (l0 l1 l2 : List EN.T) (x : List EN.T) (e : Int) (m0 m1 m2 : List EN.T) : Prop :=
  ((kk < 0 ∨ 3 ≤ kk ∨ n < 0) ∧ x = [] ∧ e = 1 ∧ l0 = m0 ∧ l1 = m1 ∧ l2 = m2) ∨ (((0 ≤ n) ∧ ((kk = 0 ∧ (l0.length : Int) < n) ∨ (kk = 1 ∧ (l1.length : Int) < n) ∨ (kk = 2 ∧ (l2.length : Int) < n))) ∧ x = [] ∧ e = 3 ∧ l0 = m0 ∧ l1 = m1 ∧ l2 = m2) ∨ ((kk = 0 ∧ 0 ≤ n ∧ n ≤ (l0.length : Int)) ∧ x = (l0.drop ((l0.length : Int) - n).toNat) ∧ e = 0 ∧ (l0.take ((l0.length : Int) - n).toNat) = m0 ∧ l1 = m1 ∧ l2 = m2) ∨ ((kk = 1 ∧ 0 ≤ n ∧ n ≤ (l1.length : Int)) ∧ x = (l1.drop ((l1.length : Int) - n).toNat) ∧ e = 0 ∧ l0 = m0 ∧ (l1.take ((l1.length : Int) - n).toNat) = m1 ∧ l2 = m2) ∨ ((kk = 2 ∧ 0 ≤ n ∧ n ≤ (l2.length : Int)) ∧ x = (l2.drop ((l2.length : Int) - n).toNat) ∧ e = 0 ∧ l0 = m0 ∧ l1 = m1 ∧ (l2.take ((l2.length : Int) - n).toNat) = m2)
def JoinR (kk : Int) (m : List EN.T) (l0 l1 l2 : List EN.T) (e : Int) (m0 m1 m2 : List EN.T) : Prop :=
  ((kk < 0 ∨ 3 ≤ kk ∨ (0 ≤ kk ∧ kk < 3 ∧ JoinBad m l0 l1 l2)) ∧ e = 1 ∧ l0 = m0 ∧ l1 = m1 ∧ l2 = m2) ∨ ((JoinOk m l0 l1 l2 ∧ ((kk = 0 ∧ 64 < (l0.length : Int) + m.length) ∨ (kk = 1 ∧ 64 < (l1.length : Int) + m.length) ∨ (kk = 2 ∧ 64 < (l2.length : Int) + m.length))) ∧ e = 2 ∧ l0 = m0 ∧ l1 = m1 ∧ l2 = m2) ∨ ((JoinOk m l0 l1 l2 ∧ kk = 0 ∧ (l0.length : Int) + m.length ≤ 64) ∧ e = 0 ∧ (l0 ++ pin m) = m0 ∧ l1 = m1 ∧ l2 = m2) ∨ ((JoinOk m l0 l1 l2 ∧ kk = 1 ∧ (l1.length : Int) + m.length ≤ 64) ∧ e = 0 ∧ l0 = m0 ∧ (l1 ++ pin m) = m1 ∧ l2 = m2) ∨ ((JoinOk m l0 l1 l2 ∧ kk = 2 ∧ (l2.length : Int) + m.length ≤ 64) ∧ e = 0 ∧ l0 = m0 ∧ l1 = m1 ∧ (l2 ++ pin m) = m2)
theorem push_okR {kk e hand : Int} {p : PN.T} {S : List Int} {l0 l1 l2 m0 m1 m2 : List EN.T} (ok : CoreOk S hand l0 l1 l2) (h : PushR kk p l0 l1 l2 e m0 m1 m2) : CoreOk S hand m0 m1 m2 := by
  obtain ⟨h0, h1, ⟨b0, b1, b2⟩, hl⟩ := ok
  rcases h with ⟨_, _, rfl, rfl, rfl⟩ | ⟨_, _, rfl, rfl, rfl⟩ | ⟨⟨_, a, b, c, d⟩, _, rfl, rfl, rfl⟩ | ⟨⟨_, a, b, c, d⟩, _, rfl, rfl, rfl⟩ | ⟨⟨_, a, b, c, d⟩, _, rfl, rfl, rfl⟩
  · exact ⟨h0, h1, ⟨b0, b1, b2⟩, hl⟩
  · exact ⟨h0, h1, ⟨b0, b1, b2⟩, hl⟩
  · exact ⟨h0, h1, ⟨by simp only [ej_, eh_, ei_, eo_, en_, ek_]; omega, b1, b2⟩, (ld_push hl a b c).1⟩
  · exact ⟨h0, h1, ⟨b0, by simp only [ej_, eh_, ei_, eo_, en_, ek_]; omega, b2⟩, (ld_push hl a b c).2.1⟩
  · exact ⟨h0, h1, ⟨b0, b1, by simp only [ej_, eh_, ei_, eo_, en_, ek_]; omega⟩, (ld_push hl a b c).2.2⟩
theorem drop_okR {k a e hand : Int} {p : PN.T} {S : List Int} {l0 l1 l2 m0 m1 m2 : List EN.T} (ok : CoreOk S hand l0 l1 l2) (h : DropR p l0 l1 l2 k a e m0 m1 m2) : CoreOk S hand m0 m1 m2 := by
  obtain ⟨h0, h1, ⟨b0, b1, b2⟩, hl⟩ := ok
  have n0 := posI_bd p l0
  have n1 := posI_bd p l1
  have n2 := posI_bd p l2
  rcases h with ⟨_, _, _, _, rfl, rfl, rfl⟩ | ⟨_, _, _, _, rfl, rfl, rfl⟩ | ⟨_, _, _, _, rfl, rfl, rfl⟩ | ⟨_, _, _, _, rfl, rfl, rfl⟩
  · exact ⟨h0, h1, ⟨by simp only [ej_, eh_, ei_, eo_, en_, ek_]; omega, b1, b2⟩, ld_sub hl td_sub (.refl _) (.refl _)⟩
  · exact ⟨h0, h1, ⟨b0, by simp only [ej_, eh_, ei_, eo_, en_, ek_]; omega, b2⟩, ld_sub hl (.refl _) td_sub (.refl _)⟩
  · exact ⟨h0, h1, ⟨b0, b1, by simp only [ej_, eh_, ei_, eo_, en_, ek_]; omega⟩, ld_sub hl (.refl _) (.refl _) td_sub⟩
  · exact ⟨h0, h1, ⟨b0, b1, b2⟩, hl⟩
theorem pick_okR {k e hd hand : Int} {x : EN.T} {S : List Int} {l0 l1 l2 m0 m1 m2 : List EN.T} (ok : CoreOk S hand l0 l1 l2) (h : PickR S hand l0 l1 l2 x k e hd m0 m1 m2) : CoreOk S hd m0 m1 m2 := by
  obtain ⟨h0, h1, ⟨b0, b1, b2⟩, hl⟩ := ok
  have hk := okW_len h0
  have hh := hand_ok (S := S) (hand := hand) (by omega)
  rcases h with ⟨_, _, _, _, rfl, rfl, rfl, rfl⟩ | ⟨_, _, _, rfl, rfl, rfl, rfl⟩ | ⟨_, _, _, rfl, rfl, rfl, rfl⟩ | ⟨_, _, _, rfl, rfl, rfl, rfl⟩
  · exact ⟨h0, h1, ⟨b0, b1, b2⟩, hl⟩
  · exact ⟨h0, hh, ⟨by simp only [ej_, eh_, ei_, eo_, en_, ek_]; omega, b1, b2⟩, ld_sub hl (List.drop_sublist _ _) (.refl _) (.refl _)⟩
  · exact ⟨h0, hh, ⟨b0, by simp only [ej_, eh_, ei_, eo_, en_, ek_]; omega, b2⟩, ld_sub hl (.refl _) (List.drop_sublist _ _) (.refl _)⟩
  · exact ⟨h0, hh, ⟨b0, b1, by simp only [ej_, eh_, ei_, eo_, en_, ek_]; omega⟩, ld_sub hl (.refl _) (.refl _) (List.drop_sublist _ _)⟩
theorem cut_okR {kk n e hand : Int} {x : List EN.T} {S : List Int} {l0 l1 l2 m0 m1 m2 : List EN.T} (ok : CoreOk S hand l0 l1 l2) (h : CutR kk n l0 l1 l2 x e m0 m1 m2) : CoreOk S hand m0 m1 m2 := by
  obtain ⟨h0, h1, ⟨b0, b1, b2⟩, hl⟩ := ok
  rcases h with ⟨_, _, _, rfl, rfl, rfl⟩ | ⟨_, _, _, rfl, rfl, rfl⟩ | ⟨_, _, _, rfl, rfl, rfl⟩ | ⟨_, _, _, rfl, rfl, rfl⟩ | ⟨_, _, _, rfl, rfl, rfl⟩
  · exact ⟨h0, h1, ⟨b0, b1, b2⟩, hl⟩
  · exact ⟨h0, h1, ⟨b0, b1, b2⟩, hl⟩
  · exact ⟨h0, h1, ⟨by simp only [ej_, eh_, ei_, eo_, en_, ek_]; omega, b1, b2⟩, ld_sub hl (List.take_sublist _ _) (.refl _) (.refl _)⟩
  · exact ⟨h0, h1, ⟨b0, by simp only [ej_, eh_, ei_, eo_, en_, ek_]; omega, b2⟩, ld_sub hl (.refl _) (List.take_sublist _ _) (.refl _)⟩
  · exact ⟨h0, h1, ⟨b0, b1, by simp only [ej_, eh_, ei_, eo_, en_, ek_]; omega⟩, ld_sub hl (.refl _) (.refl _) (List.take_sublist _ _)⟩
theorem cut_len {kk n e : Int} {x l0 l1 l2 m0 m1 m2 : List EN.T} (b0 : (l0.length : Int) ≤ 64) (b1 : (l1.length : Int) ≤ 64) (b2 : (l2.length : Int) ≤ 64) (h : CutR kk n l0 l1 l2 x e m0 m1 m2) : (x.length : Int) ≤ 64 := by
  rcases h with ⟨_, rfl, _⟩ | ⟨_, rfl, _⟩ | ⟨_, rfl, _⟩ | ⟨_, rfl, _⟩ | ⟨_, rfl, _⟩ <;> first | (simp; done) | (simp only [ei_]; omega)
theorem join_okR {kk e hand : Int} {m : List EN.T} {S : List Int} {l0 l1 l2 m0 m1 m2 : List EN.T} (ok : CoreOk S hand l0 l1 l2) (h : JoinR kk m l0 l1 l2 e m0 m1 m2) : CoreOk S hand m0 m1 m2 := by
  obtain ⟨h0, h1, ⟨b0, b1, b2⟩, hl⟩ := ok
  rcases h with ⟨_, _, rfl, rfl, rfl⟩ | ⟨_, _, rfl, rfl, rfl⟩ | ⟨⟨a, _, _⟩, _, rfl, rfl, rfl⟩ | ⟨⟨a, _, _⟩, _, rfl, rfl, rfl⟩ | ⟨⟨a, _, _⟩, _, rfl, rfl, rfl⟩
  · exact ⟨h0, h1, ⟨b0, b1, b2⟩, hl⟩
  · exact ⟨h0, h1, ⟨b0, b1, b2⟩, hl⟩
  · exact ⟨h0, h1, ⟨by simp only [ej_, eh_, ei_, eo_, en_, ek_]; omega, b1, b2⟩, (ld_join hl a).1⟩
  · exact ⟨h0, h1, ⟨b0, by simp only [ej_, eh_, ei_, eo_, en_, ek_]; omega, b2⟩, (ld_join hl a).2.1⟩
  · exact ⟨h0, h1, ⟨b0, b1, by simp only [ej_, eh_, ei_, eo_, en_, ek_]; omega⟩, (ld_join hl a).2.2⟩
theorem push_r (R : HP) (H : HH) (c ks q0 q1 q2 : Nat) (S : List Int) (hand : Int) (l0 l1 l2 : List EN.T) (kk : Int) (p : PN.T) (hs : On [R, pts c (.obj (cO ks S hand q0 q1 q2)), kP ks S, gP q0 l0, gP q1 l1, gP q2 l2] H) (hS : 3 ≤ (S.length : Int)) (hT : (S.length : Int) ≤ 64) (b0 : (l0.length : Int) ≤ 64) (b1 : (l1.length : Int) ≤ 64) (b2 : (l2.length : Int) ≤ 64) : ∃ rs H', Runs pg an 17 [.one (.ptr c 0), .one (vi kk), .agg [vi p.1, vi p.2.1]] H rs H' ∧ ∃ e m0 m1 m2, rs = [.one (vi e)] ∧ On [R, pts c (.obj (cO ks S hand q0 q1 q2)), kP ks S, gP q0 m0, gP q1 m1, gP q2 m2] H' ∧ PushR kk p l0 l1 l2 e m0 m1 m2 := by
  obtain ⟨rs, H', e1, ⟨a, b, c⟩ | ⟨a, a0, a1, a2, b, c⟩ | ⟨a, a0, a1, a2, a3, b, c⟩ | ⟨a, a0, a1, a2, a3, b, c⟩ | ⟨a, a0, a1, a2, a3, b, c⟩⟩ := push_p R H c ks q0 q1 q2 S hand l0 l1 l2 kk p hs hS hT b0 b1 b2
  · exact ⟨rs, H', e1, _, _, _, _, b, c, .inl (⟨a, rfl, rfl, rfl, rfl⟩)⟩
  · exact ⟨rs, H', e1, _, _, _, _, b, c, .inr (.inl (⟨⟨a, a0, a1, a2⟩, rfl, rfl, rfl, rfl⟩))⟩
  · exact ⟨rs, H', e1, _, _, _, _, b, c, .inr (.inr (.inl (⟨⟨a, a0, a1, a2, a3⟩, rfl, rfl, rfl, rfl⟩)))⟩
  · exact ⟨rs, H', e1, _, _, _, _, b, c, .inr (.inr (.inr (.inl (⟨⟨a, a0, a1, a2, a3⟩, rfl, rfl, rfl, rfl⟩))))⟩
  · exact ⟨rs, H', e1, _, _, _, _, b, c, .inr (.inr (.inr (.inr (⟨⟨a, a0, a1, a2, a3⟩, rfl, rfl, rfl, rfl⟩))))⟩
theorem find_r (R : HP) (H : HH) (c ks q0 q1 q2 : Nat) (S : List Int) (hand : Int) (l0 l1 l2 : List EN.T) (p : PN.T) (hs : On [R, pts c (.obj (cO ks S hand q0 q1 q2)), kP ks S, gP q0 l0, gP q1 l1, gP q2 l2] H) (hS : 3 ≤ (S.length : Int)) (hT : (S.length : Int) ≤ 64) (b0 : (l0.length : Int) ≤ 64) (b1 : (l1.length : Int) ≤ 64) (b2 : (l2.length : Int) ≤ 64) : ∃ rs H', Runs pg an 38 [.one (.ptr c 0), .agg [vi p.1, vi p.2.1]] H rs H' ∧ ∃ k a e, rs = [.one (vi k), .one (vi a), .one (vi e)] ∧ On [R, pts c (.obj (cO ks S hand q0 q1 q2)), kP ks S, gP q0 l0, gP q1 l1, gP q2 l2] H' ∧ FindR p l0 l1 l2 k a e := by
  obtain ⟨rs, H', e1, ⟨a0, b, c⟩ | ⟨a0, a1, b, c⟩ | ⟨a0, a1, a2, b, c⟩ | ⟨a0, a1, a2, b, c⟩⟩ := find_all R H c ks q0 q1 q2 S hand l0 l1 l2 p hs hS hT b0 b1 b2
  · exact ⟨rs, H', e1, _, _, _, b, c, .inl (⟨a0, rfl, rfl, rfl⟩)⟩
  · exact ⟨rs, H', e1, _, _, _, b, c, .inr (.inl (⟨⟨a0, a1⟩, rfl, rfl, rfl⟩))⟩
  · exact ⟨rs, H', e1, _, _, _, b, c, .inr (.inr (.inl (⟨⟨a0, a1, a2⟩, rfl, rfl, rfl⟩)))⟩
  · exact ⟨rs, H', e1, _, _, _, b, c, .inr (.inr (.inr (⟨⟨a0, a1, a2, trivial⟩, rfl, rfl, rfl⟩)))⟩
theorem drop_r (R : HP) (H : HH) (c ks q0 q1 q2 : Nat) (S : List Int) (hand : Int) (l0 l1 l2 : List EN.T) (p : PN.T) (hs : On [R, pts c (.obj (cO ks S hand q0 q1 q2)), kP ks S, gP q0 l0, gP q1 l1, gP q2 l2] H) (hS : 3 ≤ (S.length : Int)) (hT : (S.length : Int) ≤ 64) (b0 : (l0.length : Int) ≤ 64) (b1 : (l1.length : Int) ≤ 64) (b2 : (l2.length : Int) ≤ 64) : ∃ rs H', Runs pg an 16 [.one (.ptr c 0), .agg [vi p.1, vi p.2.1]] H rs H' ∧ ∃ k a e m0 m1 m2, rs = [.one (vi k), .one (vi a), .one (vi e)] ∧ On [R, pts c (.obj (cO ks S hand q0 q1 q2)), kP ks S, gP q0 m0, gP q1 m1, gP q2 m2] H' ∧ DropR p l0 l1 l2 k a e m0 m1 m2 := by
 refine rOF Try.func16 rfl ?_
 obtain ⟨n1, hn1⟩ := lX H
 refine rGz [(0, yp c), (3, yp n1)] (On.new' hn1 (.obj [vi p.1, vi p.2.1]) hs) (zL 0 (qB 38 [vi p.1, vi p.2.1] hn1)) fun H2 hs3 => ?_
 have hz4 := posI_bd p l0
 have hz8 := posI_bd p l1
 have hz12 := posI_bd p l2
 by_cases c16 : (0 : Int) ≤ (posI p l0)
 ·
  obtain ⟨_, H20, hr21, rfl, hs22⟩ := find_0 _ (H2 : HH) (On.call [1, 2, 3, 4, 5] [0, 6] (by kernel_rfl) hs3) (c := c) (ks := ks) (q0 := q0) (q1 := q1) (q2 := q2) (S := S) (hand := hand) (l0 := l0) (l1 := l1) (l2 := l2) (p := p) (by omega) (by omega) (by first | rfl | omega | (simp only [ek_]; omega) | (simp; done) | (simp; omega)) (by first | rfl | omega | (simp only [ek_]; omega) | (simp; done) | (simp; omega)) (by first | rfl | omega | (simp only [ek_]; omega) | (simp; done) | (simp; omega)) (by omega)
  have hs22 : On [R, pts n1 (.obj [vi p.1, vi p.2.1]), pts c (.obj (cO ks S hand q0 q1 q2)), kP ks S, gP q0 l0, gP q1 l1, gP q2 l2] H20 := On.flat hs22
  refine rGz [(0, yp c), (5, xi (posI p l0)), (6, xi 0), (7, xi 0)] hs22 (zA 1 (qL 38 0 (.agg [vi p.1, vi p.2.1]) (On.at hs3 6 rfl)) (zL 2 (qC2 hr21))) fun H23 hs24 => ?_
  refine wS ?_
  refine rs0 [(0, yp c), (5, xi (posI p l0)), (6, xi 0), (7, xi 0), (16, xb false)] ?_
  refine wFk ?_
  obtain ⟨x25, hx25⟩ : ∃ x, l0[((posI p l0) : Int).toNat]? = some x := get_of (by first | rfl | omega | (simp only [ek_]; omega) | (simp; done) | (simp; omega))
  have hlfz26 : ((l0.take ((posI p l0) : Int).toNat ++ l0.drop ((posI p l0) + 1 : Int).toNat).length : Int) = ((l0.length : Int) - 1) := by { first | rfl | omega | (simp only [ek_]; omega) | (simp; done) | (simp; omega) }
  obtain ⟨_, H28, hr29, rfl, hs30⟩ := take_ok _ (H23 : HH) (On.call [4] [0, 1, 2, 3, 5, 6] (by kernel_rfl) hs24) (q := q0) (room := 64) (l := l0) (i := (posI p l0)) (x := x25) (by omega) (by first | rfl | omega | (simp only [ek_]; omega) | (simp; done) | (simp; omega)) hx25 (l' := (l0.take ((posI p l0) : Int).toNat ++ l0.drop ((posI p l0) + 1 : Int).toNat)) rfl
  have hs30 : On [R, pts n1 (.obj [vi p.1, vi p.2.1]), pts c (.obj (cO ks S hand q0 q1 q2)), kP ks S, gP q1 l1, gP q2 l2, gP q0 (l0.take ((posI p l0) : Int).toNat ++ l0.drop ((posI p l0) + 1 : Int).toNat)] H28 := On.flat hs30
  refine rGz [(5, xi (posI p l0)), (7, xi 0)] hs30 (zA 6 (qL 78 2 (.one (.ptr q0 0)) (On.at hs24 2 rfl)) (zL 8 (qC2 hr29))) fun H31 hs32 => ?_
  refine rs0 [(4, xi 0), (5, xi (posI p l0)), (6, xi 0)] ?_
  refine wE ?_
  refine ⟨Or.inr rfl, [.one (vi 0), .one (vi (posI p l0)), .one (vi 0)], (by kernel_rfl), ?_⟩
  exact ⟨_, _, _, _, _, _, rfl, (On.pick [0, 2, 3, 6, 4, 5] [1] (by kernel_rfl) hs32), .inl (⟨(by omega), rfl, rfl, rfl, rfl, rfl, rfl⟩)⟩
 by_cases c36 : (0 : Int) ≤ (posI p l1)
 ·
  obtain ⟨_, H40, hr41, rfl, hs42⟩ := find_1 _ (H2 : HH) (On.call [1, 2, 3, 4, 5] [0, 6] (by kernel_rfl) hs3) (c := c) (ks := ks) (q0 := q0) (q1 := q1) (q2 := q2) (S := S) (hand := hand) (l0 := l0) (l1 := l1) (l2 := l2) (p := p) (by omega) (by omega) (by first | rfl | omega | (simp only [ek_]; omega) | (simp; done) | (simp; omega)) (by first | rfl | omega | (simp only [ek_]; omega) | (simp; done) | (simp; omega)) (by first | rfl | omega | (simp only [ek_]; omega) | (simp; done) | (simp; omega)) (by omega) (by omega)
  have hs42 : On [R, pts n1 (.obj [vi p.1, vi p.2.1]), pts c (.obj (cO ks S hand q0 q1 q2)), kP ks S, gP q0 l0, gP q1 l1, gP q2 l2] H40 := On.flat hs42
  refine rGz [(0, yp c), (5, xi (posI p l1)), (6, xi 0), (7, xi 1)] hs42 (zA 1 (qL 38 0 (.agg [vi p.1, vi p.2.1]) (On.at hs3 6 rfl)) (zL 2 (qC2 hr41))) fun H43 hs44 => ?_
  refine wS ?_
  refine rs0 [(0, yp c), (5, xi (posI p l1)), (6, xi 0), (7, xi 1), (16, xb false)] ?_
  refine wFk ?_
  obtain ⟨x45, hx45⟩ : ∃ x, l1[((posI p l1) : Int).toNat]? = some x := get_of (by first | rfl | omega | (simp only [ek_]; omega) | (simp; done) | (simp; omega))
  have hlfz46 : ((l1.take ((posI p l1) : Int).toNat ++ l1.drop ((posI p l1) + 1 : Int).toNat).length : Int) = ((l1.length : Int) - 1) := by { first | rfl | omega | (simp only [ek_]; omega) | (simp; done) | (simp; omega) }
  obtain ⟨_, H48, hr49, rfl, hs50⟩ := take_ok _ (H43 : HH) (On.call [5] [0, 1, 2, 3, 4, 6] (by kernel_rfl) hs44) (q := q1) (room := 64) (l := l1) (i := (posI p l1)) (x := x45) (by omega) (by first | rfl | omega | (simp only [ek_]; omega) | (simp; done) | (simp; omega)) hx45 (l' := (l1.take ((posI p l1) : Int).toNat ++ l1.drop ((posI p l1) + 1 : Int).toNat)) rfl
  have hs50 : On [R, pts n1 (.obj [vi p.1, vi p.2.1]), pts c (.obj (cO ks S hand q0 q1 q2)), kP ks S, gP q0 l0, gP q2 l2, gP q1 (l1.take ((posI p l1) : Int).toNat ++ l1.drop ((posI p l1) + 1 : Int).toNat)] H48 := On.flat hs50
  refine rGz [(5, xi (posI p l1)), (7, xi 1)] hs50 (zA 6 (qL 78 3 (.one (.ptr q1 0)) (On.at hs44 2 rfl)) (zL 8 (qC2 hr49))) fun H51 hs52 => ?_
  refine rs0 [(4, xi 1), (5, xi (posI p l1)), (6, xi 0)] ?_
  refine wE ?_
  refine ⟨Or.inr rfl, [.one (vi 1), .one (vi (posI p l1)), .one (vi 0)], (by kernel_rfl), ?_⟩
  exact ⟨_, _, _, _, _, _, rfl, (On.pick [0, 2, 3, 4, 6, 5] [1] (by kernel_rfl) hs52), .inr (.inl (⟨⟨by omega, by omega⟩, rfl, rfl, rfl, rfl, rfl, rfl⟩))⟩
 by_cases c56 : (0 : Int) ≤ (posI p l2)
 ·
  obtain ⟨_, H60, hr61, rfl, hs62⟩ := find_2 _ (H2 : HH) (On.call [1, 2, 3, 4, 5] [0, 6] (by kernel_rfl) hs3) (c := c) (ks := ks) (q0 := q0) (q1 := q1) (q2 := q2) (S := S) (hand := hand) (l0 := l0) (l1 := l1) (l2 := l2) (p := p) (by omega) (by omega) (by first | rfl | omega | (simp only [ek_]; omega) | (simp; done) | (simp; omega)) (by first | rfl | omega | (simp only [ek_]; omega) | (simp; done) | (simp; omega)) (by first | rfl | omega | (simp only [ek_]; omega) | (simp; done) | (simp; omega)) (by omega) (by omega) (by omega)
  have hs62 : On [R, pts n1 (.obj [vi p.1, vi p.2.1]), pts c (.obj (cO ks S hand q0 q1 q2)), kP ks S, gP q0 l0, gP q1 l1, gP q2 l2] H60 := On.flat hs62
  refine rGz [(0, yp c), (5, xi (posI p l2)), (6, xi 0), (7, xi 2)] hs62 (zA 1 (qL 38 0 (.agg [vi p.1, vi p.2.1]) (On.at hs3 6 rfl)) (zL 2 (qC2 hr61))) fun H63 hs64 => ?_
  refine wS ?_
  refine rs0 [(0, yp c), (5, xi (posI p l2)), (6, xi 0), (7, xi 2), (16, xb false)] ?_
  refine wFk ?_
  obtain ⟨x65, hx65⟩ : ∃ x, l2[((posI p l2) : Int).toNat]? = some x := get_of (by first | rfl | omega | (simp only [ek_]; omega) | (simp; done) | (simp; omega))
  have hlfz66 : ((l2.take ((posI p l2) : Int).toNat ++ l2.drop ((posI p l2) + 1 : Int).toNat).length : Int) = ((l2.length : Int) - 1) := by { first | rfl | omega | (simp only [ek_]; omega) | (simp; done) | (simp; omega) }
  obtain ⟨_, H68, hr69, rfl, hs70⟩ := take_ok _ (H63 : HH) (On.call [6] [0, 1, 2, 3, 4, 5] (by kernel_rfl) hs64) (q := q2) (room := 64) (l := l2) (i := (posI p l2)) (x := x65) (by omega) (by first | rfl | omega | (simp only [ek_]; omega) | (simp; done) | (simp; omega)) hx65 (l' := (l2.take ((posI p l2) : Int).toNat ++ l2.drop ((posI p l2) + 1 : Int).toNat)) rfl
  have hs70 : On [R, pts n1 (.obj [vi p.1, vi p.2.1]), pts c (.obj (cO ks S hand q0 q1 q2)), kP ks S, gP q0 l0, gP q1 l1, gP q2 (l2.take ((posI p l2) : Int).toNat ++ l2.drop ((posI p l2) + 1 : Int).toNat)] H68 := On.flat hs70
  refine rGz [(5, xi (posI p l2)), (7, xi 2)] hs70 (zA 6 (qL 78 4 (.one (.ptr q2 0)) (On.at hs64 2 rfl)) (zL 8 (qC2 hr69))) fun H71 hs72 => ?_
  refine rs0 [(4, xi 2), (5, xi (posI p l2)), (6, xi 0)] ?_
  refine wE ?_
  refine ⟨Or.inr rfl, [.one (vi 2), .one (vi (posI p l2)), .one (vi 0)], (by kernel_rfl), ?_⟩
  exact ⟨_, _, _, _, _, _, rfl, (On.pick [0, 2, 3, 4, 5, 6] [1] (by kernel_rfl) hs72), .inr (.inr (.inl (⟨⟨by omega, by omega, by omega⟩, rfl, rfl, rfl, rfl, rfl, rfl⟩)))⟩
 obtain ⟨_, H76, hr77, rfl, hs78⟩ := find_3 _ (H2 : HH) (On.call [1, 2, 3, 4, 5] [0, 6] (by kernel_rfl) hs3) (c := c) (ks := ks) (q0 := q0) (q1 := q1) (q2 := q2) (S := S) (hand := hand) (l0 := l0) (l1 := l1) (l2 := l2) (p := p) (by omega) (by omega) (by first | rfl | omega | (simp only [ek_]; omega) | (simp; done) | (simp; omega)) (by first | rfl | omega | (simp only [ek_]; omega) | (simp; done) | (simp; omega)) (by first | rfl | omega | (simp only [ek_]; omega) | (simp; done) | (simp; omega)) (by omega) (by omega) (by omega)
 have hs78 : On [R, pts n1 (.obj [vi p.1, vi p.2.1]), pts c (.obj (cO ks S hand q0 q1 q2)), kP ks S, gP q0 l0, gP q1 l1, gP q2 l2] H76 := On.flat hs78
 refine rGz [(0, yp c), (5, xi 0), (6, xi 3), (7, xi 0)] hs78 (zA 1 (qL 38 0 (.agg [vi p.1, vi p.2.1]) (On.at hs3 6 rfl)) (zL 2 (qC2 hr77))) fun H79 hs80 => ?_
 refine wS ?_
 refine rs0 [(0, yp c), (5, xi 0), (6, xi 3), (7, xi 0), (16, xb true)] ?_
 refine wTa ?_
 refine rs0 [(4, xi 0), (5, xi 0), (6, xi 3)] ?_
 refine wE ?_
 refine ⟨Or.inr rfl, [.one (vi 0), .one (vi 0), .one (vi 3)], (by kernel_rfl), ?_⟩
 exact ⟨_, _, _, _, _, _, rfl, (On.pick [0, 2, 3, 4, 5, 6] [1] (by kernel_rfl) hs80), .inr (.inr (.inr (⟨⟨by omega, by omega, by omega, trivial⟩, rfl, rfl, rfl, rfl, rfl, rfl⟩)))⟩
theorem pick_r (R : HP) (H : HH) (c ks q0 q1 q2 : Nat) (S : List Int) (hand : Int) (l0 l1 l2 : List EN.T) (hs : On [R, pts c (.obj (cO ks S hand q0 q1 q2)), kP ks S, gP q0 l0, gP q1 l1, gP q2 l2] H) (hS : 3 ≤ (S.length : Int)) (hT : (S.length : Int) ≤ 64) (b0 : (l0.length : Int) ≤ 64) (b1 : (l1.length : Int) ≤ 64) (b2 : (l2.length : Int) ≤ 64) (hok : okW S = true) (h0 : 0 ≤ hand) (h1 : hand < (S.length : Int)) : ∃ rs H', Runs pg an 13 [.one (.ptr c 0)] H rs H' ∧ ∃ x k e hd m0 m1 m2, rs = [.agg [vi x.1.1, vi x.1.2.1, vb x.2.1], .one (vi k), .one (vi e)] ∧ On [R, pts c (.obj (cO ks S hd q0 q1 q2)), kP ks S, gP q0 m0, gP q1 m1, gP q2 m2] H' ∧ PickR S hand l0 l1 l2 x k e hd m0 m1 m2 := by
  obtain ⟨rs, H', e1, ⟨a0, a1, a2, n, b, c⟩ | ⟨x, a, n, b, c⟩ | ⟨x, a, n, b, c⟩ | ⟨x, a, n, b, c⟩⟩ := pick_all R H c ks q0 q1 q2 S hand l0 l1 l2 hs hS hT b0 b1 b2 hok h0 h1
  · exact ⟨rs, H', e1, ((0, (0, ())), (false, ())), _, _, _, _, _, _, b, c, .inl ⟨⟨⟨a0, a1, a2⟩, n⟩, rfl, rfl, rfl, rfl, rfl, rfl, rfl⟩⟩
  · exact ⟨rs, H', e1, x, _, _, _, _, _, _, b, c, .inr (.inl (⟨⟨a, n⟩, rfl, rfl, rfl, rfl, rfl, rfl⟩))⟩
  · exact ⟨rs, H', e1, x, _, _, _, _, _, _, b, c, .inr (.inr (.inl (⟨⟨a, n⟩, rfl, rfl, rfl, rfl, rfl, rfl⟩)))⟩
  · exact ⟨rs, H', e1, x, _, _, _, _, _, _, b, c, .inr (.inr (.inr (⟨⟨a, n⟩, rfl, rfl, rfl, rfl, rfl, rfl⟩)))⟩
theorem cut_r (R : HP) (H : HH) (c ks q0 q1 q2 : Nat) (S : List Int) (hand : Int) (l0 l1 l2 : List EN.T) (kk n : Int) (hs : On [R, pts c (.obj (cO ks S hand q0 q1 q2)), kP ks S, gP q0 l0, gP q1 l1, gP q2 l2] H) (hS : 3 ≤ (S.length : Int)) (hT : (S.length : Int) ≤ 64) (b0 : (l0.length : Int) ≤ 64) (b1 : (l1.length : Int) ≤ 64) (b2 : (l2.length : Int) ≤ 64) (hn1 : -9223372036854775808 ≤ n) (hn2 : n ≤ 9223372036854775807) : ∃ rs H', Runs pg an 20 [.one (.ptr c 0), .one (vi kk), .one (vi n)] H rs H' ∧ ∃ cv e x m0 m1 m2, rs = [.one cv, .one (vi e)] ∧ On [R, pts c (.obj (cO ks S hand q0 q1 q2)), kP ks S, gP q0 m0, gP q1 m1, gP q2 m2, itemsP EN cv x] H' ∧ CutR kk n l0 l1 l2 x e m0 m1 m2 := by
 refine rOF Try.func20 rfl ?_
 refine rs0 [(0, yp c), (1, xi kk), (2, xi n)] ?_
 refine wS ?_
 by_cases c3 : (0 : Int) ≤ kk
 ·
  by_cases c6 : (kk : Int) < 3
  ·
   have hcall7 : Runs pg an 31 [.one (.ptr c 0)] H [.one (vb true)] H := by
    refine runs_of ?_
    refine rOF Try.func31 rfl ?_
    refine rs0 [(0, yp c)] ?_
    refine rSz [(2, xb true)] H (zA 6 (qL 22 0 (.one (rff ks S)) (On.at hs 1 rfl)) (zA 7 (Jc (H := H) (s := NI) (t := 22) (ty := 0) (pu := true) (capd := false) (id := ks) (d := 0) (o := 0) (n := S.length) (l := S) (e := (S.length : Int)) (On.at hs 2 rfl) (by kernel_rfl) (by first | rfl | omega | (simp only [ek_]; omega) | (simp; done) | (simp; omega))) (zL 8 (qgtrT H (S.length : Int) 0)))) ?_
    refine wE ?_
    exact ⟨Or.inr rfl, [.one (vb true)], (by kernel_rfl), ⟨rfl, rfl⟩⟩
   have hcall8 : Runs pg an 40 [.one (vi kk)] H [.one (vb true)] H := by
    refine runs_of ?_
    refine rOF Try.func40 rfl ?_
    refine rs0 [(0, xi kk)] ?_
    refine rSz [(2, xb true)] H (zA 1 (qgeqT H kk 0) (zL 4 (qlssT H kk 3))) ?_
    refine wE ?_
    exact ⟨Or.inr rfl, [.one (vb true)], (by kernel_rfl), ⟨rfl, rfl⟩⟩
   refine rSz [(0, yp c), (1, xi kk), (2, xi n), (15, xb false)] H (zA 1 (qC1 hcall7) (zL 5 (qC1 hcall8))) ?_
   refine wFk ?_
   rcases (show kk = 0 ∨ kk = 1 ∨ kk = 2 from by omega) with rfl | rfl | rfl
   ·
    by_cases c9 : (n : Int) < 0
    ·
     obtain ⟨_, H10, hr11, rfl, hs12⟩ := cut_neg _ (H : HH) (On.call [3] [0, 1, 2, 4, 5] (by kernel_rfl) hs) (q := q0) (room := 64) (l := l0) (i := n) (by omega)
     have hs12 : On [R, pts c (.obj (cO ks S hand q0 q1 q2)), kP ks S, gP q1 l1, gP q2 l2, gP q0 l0] H10 := On.flat hs12
     refine rGz [(6, .y (.one (nilC))), (7, xi 1)] hs12 (zA 6 (qL 78 2 (.one (.ptr q0 0)) (On.at hs 1 rfl)) (zL 8 (qC2 hr11))) fun H13 hs14 => ?_
     refine wE ?_
     refine ⟨Or.inr rfl, [.one (nilC), .one (vi 1)], (by kernel_rfl), ?_⟩
     have hs15 : On [R, pts c (.obj (cO ks S hand q0 q1 q2)), kP ks S, gP q1 l1, gP q2 l2, gP q0 l0, itemsP EN (nilC) ([] : List EN.T)] H13 := sH hs14 [] [0, 1, 2, 3, 4, 5] (fun _ _ => by rw [show ([] : List EN.T) = ([] : List EN.T) from rfl]; exact items_nil)
     exact ⟨_, _, _, _, _, _, rfl, (On.pick [0, 1, 2, 5, 3, 4, 6] [] (by kernel_rfl) hs15), .inl (⟨by omega, rfl, rfl, rfl, rfl, rfl⟩)⟩
    by_cases c16 : ((l0.length : Int) : Int) < n
    ·
     obtain ⟨_, H17, hr18, rfl, hs19⟩ := cut_none _ (H : HH) (On.call [3] [0, 1, 2, 4, 5] (by kernel_rfl) hs) (q := q0) (room := 64) (l := l0) (i := n) (by first | rfl | omega | (simp only [ek_]; omega) | (simp; done) | (simp; omega)) (by omega)
     have hs19 : On [R, pts c (.obj (cO ks S hand q0 q1 q2)), kP ks S, gP q1 l1, gP q2 l2, gP q0 l0] H17 := On.flat hs19
     refine rGz [(6, .y (.one (nilC))), (7, xi 3)] hs19 (zA 6 (qL 78 2 (.one (.ptr q0 0)) (On.at hs 1 rfl)) (zL 8 (qC2 hr18))) fun H20 hs21 => ?_
     refine wE ?_
     refine ⟨Or.inr rfl, [.one (nilC), .one (vi 3)], (by kernel_rfl), ?_⟩
     have hs22 : On [R, pts c (.obj (cO ks S hand q0 q1 q2)), kP ks S, gP q1 l1, gP q2 l2, gP q0 l0, itemsP EN (nilC) ([] : List EN.T)] H20 := sH hs21 [] [0, 1, 2, 3, 4, 5] (fun _ _ => by rw [show ([] : List EN.T) = ([] : List EN.T) from rfl]; exact items_nil)
     exact ⟨_, _, _, _, _, _, rfl, (On.pick [0, 1, 2, 5, 3, 4, 6] [] (by kernel_rfl) hs22), .inr (.inl (⟨⟨by omega, by omega⟩, rfl, rfl, rfl, rfl, rfl⟩))⟩
    have hlfz24 : ((l0.drop ((l0.length : Int) - n).toNat).length : Int) = n := by { first | rfl | omega | (simp only [ek_]; omega) | (simp; done) | (simp; omega) }
    have hlfz27 : ((l0.take ((l0.length : Int) - n).toNat).length : Int) = ((l0.length : Int) - n) := by { first | rfl | omega | (simp only [ek_]; omega) | (simp; done) | (simp; omega) }
    obtain ⟨_, H31, hr32, k28, rfl, hs33⟩ := cut_ok _ (H : HH) (On.call [3] [0, 1, 2, 4, 5] (by kernel_rfl) hs) (q := q0) (room := 64) (l := l0) (i := n) (by omega) (by first | rfl | omega | (simp only [ek_]; omega) | (simp; done) | (simp; omega))
    have hs33 : On [R, pts c (.obj (cO ks S hand q0 q1 q2)), kP ks S, gP q1 l1, gP q2 l2, gP q0 (l0.take ((l0.length : Int) - n).toNat), pts k28 (rowO EN true 0 (l0.drop ((l0.length : Int) - n).toNat))] H31 := On.flat hs33
    refine rGz [(6, .y (.one (rowC k28 0 (l0.drop ((l0.length : Int) - n).toNat).length 0 ((l0.drop ((l0.length : Int) - n).toNat).length) true))), (7, xi 0)] hs33 (zA 6 (qL 78 2 (.one (.ptr q0 0)) (On.at hs 1 rfl)) (zL 8 (qC2 hr32))) fun H34 hs35 => ?_
    refine wE ?_
    refine ⟨Or.inr rfl, [.one (rowC k28 0 (l0.drop ((l0.length : Int) - n).toNat).length 0 ((l0.drop ((l0.length : Int) - n).toNat).length) true), .one (vi 0)], (by kernel_rfl), ?_⟩
    have hs36 : On [R, pts c (.obj (cO ks S hand q0 q1 q2)), kP ks S, gP q1 l1, gP q2 l2, gP q0 (l0.take ((l0.length : Int) - n).toNat), itemsP EN (rowC k28 0 (l0.drop ((l0.length : Int) - n).toNat).length 0 ((l0.drop ((l0.length : Int) - n).toNat).length) true) (l0.drop ((l0.length : Int) - n).toNat)] H34 := sH hs35 [6] [0, 1, 2, 3, 4, 5] (fun _ x => items_row (by first | rfl | omega | (simp only [ek_]; omega) | (simp; done) | (simp; omega)) (by first | rfl | omega | (simp only [ek_]; omega) | (simp; done) | (simp; omega)) (fun h => by cases h) ((dt0 rfl (Nat.le_refl _)).trans (rfl)) x)
    exact ⟨_, _, _, _, _, _, rfl, (On.pick [0, 1, 2, 5, 3, 4, 6] [] (by kernel_rfl) hs36), .inr (.inr (.inl (⟨⟨rfl, by omega, by omega⟩, rfl, rfl, rfl, rfl, rfl⟩)))⟩
   ·
    by_cases c37 : (n : Int) < 0
    ·
     obtain ⟨_, H38, hr39, rfl, hs40⟩ := cut_neg _ (H : HH) (On.call [4] [0, 1, 2, 3, 5] (by kernel_rfl) hs) (q := q1) (room := 64) (l := l1) (i := n) (by omega)
     have hs40 : On [R, pts c (.obj (cO ks S hand q0 q1 q2)), kP ks S, gP q0 l0, gP q2 l2, gP q1 l1] H38 := On.flat hs40
     refine rGz [(6, .y (.one (nilC))), (7, xi 1)] hs40 (zA 6 (qL 78 3 (.one (.ptr q1 0)) (On.at hs 1 rfl)) (zL 8 (qC2 hr39))) fun H41 hs42 => ?_
     refine wE ?_
     refine ⟨Or.inr rfl, [.one (nilC), .one (vi 1)], (by kernel_rfl), ?_⟩
     have hs43 : On [R, pts c (.obj (cO ks S hand q0 q1 q2)), kP ks S, gP q0 l0, gP q2 l2, gP q1 l1, itemsP EN (nilC) ([] : List EN.T)] H41 := sH hs42 [] [0, 1, 2, 3, 4, 5] (fun _ _ => by rw [show ([] : List EN.T) = ([] : List EN.T) from rfl]; exact items_nil)
     exact ⟨_, _, _, _, _, _, rfl, (On.pick [0, 1, 2, 3, 5, 4, 6] [] (by kernel_rfl) hs43), .inl (⟨by omega, rfl, rfl, rfl, rfl, rfl⟩)⟩
    by_cases c44 : ((l1.length : Int) : Int) < n
    ·
     obtain ⟨_, H45, hr46, rfl, hs47⟩ := cut_none _ (H : HH) (On.call [4] [0, 1, 2, 3, 5] (by kernel_rfl) hs) (q := q1) (room := 64) (l := l1) (i := n) (by first | rfl | omega | (simp only [ek_]; omega) | (simp; done) | (simp; omega)) (by omega)
     have hs47 : On [R, pts c (.obj (cO ks S hand q0 q1 q2)), kP ks S, gP q0 l0, gP q2 l2, gP q1 l1] H45 := On.flat hs47
     refine rGz [(6, .y (.one (nilC))), (7, xi 3)] hs47 (zA 6 (qL 78 3 (.one (.ptr q1 0)) (On.at hs 1 rfl)) (zL 8 (qC2 hr46))) fun H48 hs49 => ?_
     refine wE ?_
     refine ⟨Or.inr rfl, [.one (nilC), .one (vi 3)], (by kernel_rfl), ?_⟩
     have hs50 : On [R, pts c (.obj (cO ks S hand q0 q1 q2)), kP ks S, gP q0 l0, gP q2 l2, gP q1 l1, itemsP EN (nilC) ([] : List EN.T)] H48 := sH hs49 [] [0, 1, 2, 3, 4, 5] (fun _ _ => by rw [show ([] : List EN.T) = ([] : List EN.T) from rfl]; exact items_nil)
     exact ⟨_, _, _, _, _, _, rfl, (On.pick [0, 1, 2, 3, 5, 4, 6] [] (by kernel_rfl) hs50), .inr (.inl (⟨⟨by omega, by omega⟩, rfl, rfl, rfl, rfl, rfl⟩))⟩
    have hlfz52 : ((l1.drop ((l1.length : Int) - n).toNat).length : Int) = n := by { first | rfl | omega | (simp only [ek_]; omega) | (simp; done) | (simp; omega) }
    have hlfz55 : ((l1.take ((l1.length : Int) - n).toNat).length : Int) = ((l1.length : Int) - n) := by { first | rfl | omega | (simp only [ek_]; omega) | (simp; done) | (simp; omega) }
    obtain ⟨_, H59, hr60, k56, rfl, hs61⟩ := cut_ok _ (H : HH) (On.call [4] [0, 1, 2, 3, 5] (by kernel_rfl) hs) (q := q1) (room := 64) (l := l1) (i := n) (by omega) (by first | rfl | omega | (simp only [ek_]; omega) | (simp; done) | (simp; omega))
    have hs61 : On [R, pts c (.obj (cO ks S hand q0 q1 q2)), kP ks S, gP q0 l0, gP q2 l2, gP q1 (l1.take ((l1.length : Int) - n).toNat), pts k56 (rowO EN true 0 (l1.drop ((l1.length : Int) - n).toNat))] H59 := On.flat hs61
    refine rGz [(6, .y (.one (rowC k56 0 (l1.drop ((l1.length : Int) - n).toNat).length 0 ((l1.drop ((l1.length : Int) - n).toNat).length) true))), (7, xi 0)] hs61 (zA 6 (qL 78 3 (.one (.ptr q1 0)) (On.at hs 1 rfl)) (zL 8 (qC2 hr60))) fun H62 hs63 => ?_
    refine wE ?_
    refine ⟨Or.inr rfl, [.one (rowC k56 0 (l1.drop ((l1.length : Int) - n).toNat).length 0 ((l1.drop ((l1.length : Int) - n).toNat).length) true), .one (vi 0)], (by kernel_rfl), ?_⟩
    have hs64 : On [R, pts c (.obj (cO ks S hand q0 q1 q2)), kP ks S, gP q0 l0, gP q2 l2, gP q1 (l1.take ((l1.length : Int) - n).toNat), itemsP EN (rowC k56 0 (l1.drop ((l1.length : Int) - n).toNat).length 0 ((l1.drop ((l1.length : Int) - n).toNat).length) true) (l1.drop ((l1.length : Int) - n).toNat)] H62 := sH hs63 [6] [0, 1, 2, 3, 4, 5] (fun _ x => items_row (by first | rfl | omega | (simp only [ek_]; omega) | (simp; done) | (simp; omega)) (by first | rfl | omega | (simp only [ek_]; omega) | (simp; done) | (simp; omega)) (fun h => by cases h) ((dt0 rfl (Nat.le_refl _)).trans (rfl)) x)
    exact ⟨_, _, _, _, _, _, rfl, (On.pick [0, 1, 2, 3, 5, 4, 6] [] (by kernel_rfl) hs64), .inr (.inr (.inr (.inl (⟨⟨rfl, by omega, by omega⟩, rfl, rfl, rfl, rfl, rfl⟩))))⟩
   by_cases c65 : (n : Int) < 0
   ·
    obtain ⟨_, H66, hr67, rfl, hs68⟩ := cut_neg _ (H : HH) (On.call [5] [0, 1, 2, 3, 4] (by kernel_rfl) hs) (q := q2) (room := 64) (l := l2) (i := n) (by omega)
    have hs68 : On [R, pts c (.obj (cO ks S hand q0 q1 q2)), kP ks S, gP q0 l0, gP q1 l1, gP q2 l2] H66 := On.flat hs68
    refine rGz [(6, .y (.one (nilC))), (7, xi 1)] hs68 (zA 6 (qL 78 4 (.one (.ptr q2 0)) (On.at hs 1 rfl)) (zL 8 (qC2 hr67))) fun H69 hs70 => ?_
    refine wE ?_
    refine ⟨Or.inr rfl, [.one (nilC), .one (vi 1)], (by kernel_rfl), ?_⟩
    have hs71 : On [R, pts c (.obj (cO ks S hand q0 q1 q2)), kP ks S, gP q0 l0, gP q1 l1, gP q2 l2, itemsP EN (nilC) ([] : List EN.T)] H69 := sH hs70 [] [0, 1, 2, 3, 4, 5] (fun _ _ => by rw [show ([] : List EN.T) = ([] : List EN.T) from rfl]; exact items_nil)
    exact ⟨_, _, _, _, _, _, rfl, (On.pick [0, 1, 2, 3, 4, 5, 6] [] (by kernel_rfl) hs71), .inl (⟨by omega, rfl, rfl, rfl, rfl, rfl⟩)⟩
   by_cases c72 : ((l2.length : Int) : Int) < n
   ·
    obtain ⟨_, H73, hr74, rfl, hs75⟩ := cut_none _ (H : HH) (On.call [5] [0, 1, 2, 3, 4] (by kernel_rfl) hs) (q := q2) (room := 64) (l := l2) (i := n) (by first | rfl | omega | (simp only [ek_]; omega) | (simp; done) | (simp; omega)) (by omega)
    have hs75 : On [R, pts c (.obj (cO ks S hand q0 q1 q2)), kP ks S, gP q0 l0, gP q1 l1, gP q2 l2] H73 := On.flat hs75
    refine rGz [(6, .y (.one (nilC))), (7, xi 3)] hs75 (zA 6 (qL 78 4 (.one (.ptr q2 0)) (On.at hs 1 rfl)) (zL 8 (qC2 hr74))) fun H76 hs77 => ?_
    refine wE ?_
    refine ⟨Or.inr rfl, [.one (nilC), .one (vi 3)], (by kernel_rfl), ?_⟩
    have hs78 : On [R, pts c (.obj (cO ks S hand q0 q1 q2)), kP ks S, gP q0 l0, gP q1 l1, gP q2 l2, itemsP EN (nilC) ([] : List EN.T)] H76 := sH hs77 [] [0, 1, 2, 3, 4, 5] (fun _ _ => by rw [show ([] : List EN.T) = ([] : List EN.T) from rfl]; exact items_nil)
    exact ⟨_, _, _, _, _, _, rfl, (On.pick [0, 1, 2, 3, 4, 5, 6] [] (by kernel_rfl) hs78), .inr (.inl (⟨⟨by omega, by omega⟩, rfl, rfl, rfl, rfl, rfl⟩))⟩
   have hlfz80 : ((l2.drop ((l2.length : Int) - n).toNat).length : Int) = n := by { first | rfl | omega | (simp only [ek_]; omega) | (simp; done) | (simp; omega) }
   have hlfz83 : ((l2.take ((l2.length : Int) - n).toNat).length : Int) = ((l2.length : Int) - n) := by { first | rfl | omega | (simp only [ek_]; omega) | (simp; done) | (simp; omega) }
   obtain ⟨_, H87, hr88, k84, rfl, hs89⟩ := cut_ok _ (H : HH) (On.call [5] [0, 1, 2, 3, 4] (by kernel_rfl) hs) (q := q2) (room := 64) (l := l2) (i := n) (by omega) (by first | rfl | omega | (simp only [ek_]; omega) | (simp; done) | (simp; omega))
   have hs89 : On [R, pts c (.obj (cO ks S hand q0 q1 q2)), kP ks S, gP q0 l0, gP q1 l1, gP q2 (l2.take ((l2.length : Int) - n).toNat), pts k84 (rowO EN true 0 (l2.drop ((l2.length : Int) - n).toNat))] H87 := On.flat hs89
   refine rGz [(6, .y (.one (rowC k84 0 (l2.drop ((l2.length : Int) - n).toNat).length 0 ((l2.drop ((l2.length : Int) - n).toNat).length) true))), (7, xi 0)] hs89 (zA 6 (qL 78 4 (.one (.ptr q2 0)) (On.at hs 1 rfl)) (zL 8 (qC2 hr88))) fun H90 hs91 => ?_
   refine wE ?_
   refine ⟨Or.inr rfl, [.one (rowC k84 0 (l2.drop ((l2.length : Int) - n).toNat).length 0 ((l2.drop ((l2.length : Int) - n).toNat).length) true), .one (vi 0)], (by kernel_rfl), ?_⟩
   have hs92 : On [R, pts c (.obj (cO ks S hand q0 q1 q2)), kP ks S, gP q0 l0, gP q1 l1, gP q2 (l2.take ((l2.length : Int) - n).toNat), itemsP EN (rowC k84 0 (l2.drop ((l2.length : Int) - n).toNat).length 0 ((l2.drop ((l2.length : Int) - n).toNat).length) true) (l2.drop ((l2.length : Int) - n).toNat)] H90 := sH hs91 [6] [0, 1, 2, 3, 4, 5] (fun _ x => items_row (by first | rfl | omega | (simp only [ek_]; omega) | (simp; done) | (simp; omega)) (by first | rfl | omega | (simp only [ek_]; omega) | (simp; done) | (simp; omega)) (fun h => by cases h) ((dt0 rfl (Nat.le_refl _)).trans (rfl)) x)
   exact ⟨_, _, _, _, _, _, rfl, (On.pick [0, 1, 2, 3, 4, 5, 6] [] (by kernel_rfl) hs92), .inr (.inr (.inr (.inr (⟨⟨rfl, by omega, by omega⟩, rfl, rfl, rfl, rfl, rfl⟩))))⟩
  have hcall93 : Runs pg an 31 [.one (.ptr c 0)] H [.one (vb true)] H := by
   refine runs_of ?_
   refine rOF Try.func31 rfl ?_
   refine rs0 [(0, yp c)] ?_
   refine rSz [(2, xb true)] H (zA 6 (qL 22 0 (.one (rff ks S)) (On.at hs 1 rfl)) (zA 7 (Jc (H := H) (s := NI) (t := 22) (ty := 0) (pu := true) (capd := false) (id := ks) (d := 0) (o := 0) (n := S.length) (l := S) (e := (S.length : Int)) (On.at hs 2 rfl) (by kernel_rfl) (by first | rfl | omega | (simp only [ek_]; omega) | (simp; done) | (simp; omega))) (zL 8 (qgtrT H (S.length : Int) 0)))) ?_
   refine wE ?_
   exact ⟨Or.inr rfl, [.one (vb true)], (by kernel_rfl), ⟨rfl, rfl⟩⟩
  have hcall94 : Runs pg an 40 [.one (vi kk)] H [.one (vb false)] H := by
   refine runs_of ?_
   refine rOF Try.func40 rfl ?_
   refine rs0 [(0, xi kk)] ?_
   refine rSz [(2, xb false)] H (zA 1 (qgeqT H kk 0) (zL 4 (qlssF H kk 3))) ?_
   refine wE ?_
   exact ⟨Or.inr rfl, [.one (vb false)], (by kernel_rfl), ⟨rfl, rfl⟩⟩
  refine rSz [(0, yp c), (1, xi kk), (2, xi n), (15, xb true)] H (zA 1 (qC1 hcall93) (zL 5 (qC1 hcall94))) ?_
  refine wTa ?_
  refine rs0 [(6, .y (.one (nilC))), (7, xi 1)] ?_
  refine wE ?_
  refine ⟨Or.inr rfl, [.one (nilC), .one (vi 1)], (by kernel_rfl), ?_⟩
  have hs95 : On [R, pts c (.obj (cO ks S hand q0 q1 q2)), kP ks S, gP q0 l0, gP q1 l1, gP q2 l2, itemsP EN (nilC) ([] : List EN.T)] H := sH hs [] [0, 1, 2, 3, 4, 5] (fun _ _ => by rw [show ([] : List EN.T) = ([] : List EN.T) from rfl]; exact items_nil)
  exact ⟨_, _, _, _, _, _, rfl, (On.pick [0, 1, 2, 3, 4, 5, 6] [] (by kernel_rfl) hs95), .inl (⟨by omega, rfl, rfl, rfl, rfl, rfl⟩)⟩
 have hcall96 : Runs pg an 31 [.one (.ptr c 0)] H [.one (vb true)] H := by
  refine runs_of ?_
  refine rOF Try.func31 rfl ?_
  refine rs0 [(0, yp c)] ?_
  refine rSz [(2, xb true)] H (zA 6 (qL 22 0 (.one (rff ks S)) (On.at hs 1 rfl)) (zA 7 (Jc (H := H) (s := NI) (t := 22) (ty := 0) (pu := true) (capd := false) (id := ks) (d := 0) (o := 0) (n := S.length) (l := S) (e := (S.length : Int)) (On.at hs 2 rfl) (by kernel_rfl) (by first | rfl | omega | (simp only [ek_]; omega) | (simp; done) | (simp; omega))) (zL 8 (qgtrT H (S.length : Int) 0)))) ?_
  refine wE ?_
  exact ⟨Or.inr rfl, [.one (vb true)], (by kernel_rfl), ⟨rfl, rfl⟩⟩
 have hcall97 : Runs pg an 40 [.one (vi kk)] H [.one (vb false)] H := by
  refine runs_of ?_
  refine rOF Try.func40 rfl ?_
  refine rs0 [(0, xi kk)] ?_
  refine rSz [(2, xb false)] H (zL 1 (qgeqF H kk 0)) ?_
  refine wE ?_
  exact ⟨Or.inr rfl, [.one (vb false)], (by kernel_rfl), ⟨rfl, rfl⟩⟩
 refine rSz [(0, yp c), (1, xi kk), (2, xi n), (15, xb true)] H (zA 1 (qC1 hcall96) (zL 5 (qC1 hcall97))) ?_
 refine wTa ?_
 refine rs0 [(6, .y (.one (nilC))), (7, xi 1)] ?_
 refine wE ?_
 refine ⟨Or.inr rfl, [.one (nilC), .one (vi 1)], (by kernel_rfl), ?_⟩
 have hs98 : On [R, pts c (.obj (cO ks S hand q0 q1 q2)), kP ks S, gP q0 l0, gP q1 l1, gP q2 l2, itemsP EN (nilC) ([] : List EN.T)] H := sH hs [] [0, 1, 2, 3, 4, 5] (fun _ _ => by rw [show ([] : List EN.T) = ([] : List EN.T) from rfl]; exact items_nil)
 exact ⟨_, _, _, _, _, _, rfl, (On.pick [0, 1, 2, 3, 4, 5, 6] [] (by kernel_rfl) hs98), .inl (⟨by omega, rfl, rfl, rfl, rfl, rfl⟩)⟩
theorem join_r (R : HP) (H : HH) (c ks q0 q1 q2 : Nat) (S : List Int) (hand : Int) (l0 l1 l2 : List EN.T) (k d o : Nat) (cp : Bool) (L m : List EN.T) (kk : Int) (hs : On [R, pts c (.obj (cO ks S hand q0 q1 q2)), kP ks S, gP q0 l0, gP q1 l1, gP q2 l2, pts k (rowO EN true d L)] H) (hS : 3 ≤ (S.length : Int)) (hT : (S.length : Int) ≤ 64) (b0 : (l0.length : Int) ≤ 64) (b1 : (l1.length : Int) ≤ 64) (b2 : (l2.length : Int) ≤ 64) (ho : o + m.length ≤ L.length) (hl : (L.drop o).take m.length = m) (hm : (m.length : Int) ≤ 5864062014805) : ∃ rs H', Runs pg an 21 [.one (.ptr c 0), .one (vi kk), .one (rowC k d L.length o m.length cp)] H rs H' ∧ ∃ e m0 m1 m2, rs = [.one (vi e)] ∧ On [R, pts c (.obj (cO ks S hand q0 q1 q2)), kP ks S, gP q0 m0, gP q1 m1, gP q2 m2, pts k (rowO EN true d L)] H' ∧ JoinR kk m l0 l1 l2 e m0 m1 m2 := by
  by_cases g0 : kk < 0
  · obtain ⟨rs, H', e1, b, c⟩ := join_low R H c ks q0 q1 q2 S hand l0 l1 l2 k d o cp L m kk hs hS hT b0 b1 b2 ho hl hm g0
    exact ⟨rs, H', e1, _, _, _, _, b, c, .inl ⟨.inl g0, rfl, rfl, rfl, rfl⟩⟩
  by_cases g1 : 3 ≤ kk
  · obtain ⟨rs, H', e1, b, c⟩ := join_high R H c ks q0 q1 q2 S hand l0 l1 l2 k d o cp L m kk hs hS hT b0 b1 b2 ho hl hm g1
    exact ⟨rs, H', e1, _, _, _, _, b, c, .inl ⟨.inr (.inl g1), rfl, rfl, rfl, rfl⟩⟩
  obtain ⟨rs, H', e1, ⟨j, b, c⟩ | ⟨j, a, f, b, c⟩ | ⟨j, a, f, b, c⟩ | ⟨j, a, f, b, c⟩ | ⟨j, a, f, b, c⟩ | ⟨j, a, f, b, c⟩ | ⟨j, a, f, b, c⟩⟩ := join_ok R H c ks q0 q1 q2 S hand l0 l1 l2 k d o cp L m kk hs hS hT b0 b1 b2 ho hl hm (by omega) (by omega)
  · exact ⟨rs, H', e1, _, _, _, _, b, c, .inl ⟨.inr (.inr ⟨by omega, by omega, j⟩), rfl, rfl, rfl, rfl⟩⟩
  · exact ⟨rs, H', e1, _, _, _, _, b, c, .inr (.inl ⟨⟨j, .inl (⟨a, f⟩)⟩, rfl, rfl, rfl, rfl⟩)⟩
  · exact ⟨rs, H', e1, _, _, _, _, b, c, .inr (.inr (.inl (⟨⟨j, a, f⟩, rfl, rfl, rfl, rfl⟩)))⟩
  · exact ⟨rs, H', e1, _, _, _, _, b, c, .inr (.inl ⟨⟨j, .inr (.inl (⟨a, f⟩))⟩, rfl, rfl, rfl, rfl⟩)⟩
  · exact ⟨rs, H', e1, _, _, _, _, b, c, .inr (.inr (.inr (.inl (⟨⟨j, a, f⟩, rfl, rfl, rfl, rfl⟩))))⟩
  · exact ⟨rs, H', e1, _, _, _, _, b, c, .inr (.inl ⟨⟨j, .inr (.inr (⟨a, f⟩))⟩, rfl, rfl, rfl, rfl⟩)⟩
  · exact ⟨rs, H', e1, _, _, _, _, b, c, .inr (.inr (.inr (.inr (⟨⟨j, a, f⟩, rfl, rfl, rfl, rfl⟩))))⟩
theorem join_n (R : HP) (H : HH) (c ks q0 q1 q2 : Nat) (S : List Int) (hand : Int) (l0 l1 l2 : List EN.T) (kk : Int) (hs : On [R, pts c (.obj (cO ks S hand q0 q1 q2)), kP ks S, gP q0 l0, gP q1 l1, gP q2 l2] H) (hS : 3 ≤ (S.length : Int)) (hT : (S.length : Int) ≤ 64) (b0 : (l0.length : Int) ≤ 64) (b1 : (l1.length : Int) ≤ 64) (b2 : (l2.length : Int) ≤ 64) : ∃ rs H', Runs pg an 21 [.one (.ptr c 0), .one (vi kk), .one (.sl false false true [] 0)] H rs H' ∧ ∃ e m0 m1 m2, rs = [.one (vi e)] ∧ On [R, pts c (.obj (cO ks S hand q0 q1 q2)), kP ks S, gP q0 m0, gP q1 m1, gP q2 m2] H' ∧ JoinR kk [] l0 l1 l2 e m0 m1 m2 := by
 refine rOF Try.func21 rfl ?_
 refine rs0 [(0, yp c), (1, xi kk), (2, .y (.one (.sl false false true [] 0)))] ?_
 refine wS ?_
 by_cases c3 : (0 : Int) ≤ kk
 ·
  by_cases c6 : (kk : Int) < 3
  ·
   have hcall7 : Runs pg an 31 [.one (.ptr c 0)] H [.one (vb true)] H := by
    refine runs_of ?_
    refine rOF Try.func31 rfl ?_
    refine rs0 [(0, yp c)] ?_
    refine rSz [(2, xb true)] H (zA 6 (qL 22 0 (.one (rff ks S)) (On.at hs 1 rfl)) (zA 7 (Jc (H := H) (s := NI) (t := 22) (ty := 0) (pu := true) (capd := false) (id := ks) (d := 0) (o := 0) (n := S.length) (l := S) (e := (S.length : Int)) (On.at hs 2 rfl) (by kernel_rfl) (by first | rfl | omega | (simp only [ek_]; omega) | (simp; done) | (simp; omega))) (zL 8 (qgtrT H (S.length : Int) 0)))) ?_
    refine wE ?_
    exact ⟨Or.inr rfl, [.one (vb true)], (by kernel_rfl), ⟨rfl, rfl⟩⟩
   have hcall8 : Runs pg an 40 [.one (vi kk)] H [.one (vb true)] H := by
    refine runs_of ?_
    refine rOF Try.func40 rfl ?_
    refine rs0 [(0, xi kk)] ?_
    refine rSz [(2, xb true)] H (zA 1 (qgeqT H kk 0) (zL 4 (qlssT H kk 3))) ?_
    refine wE ?_
    exact ⟨Or.inr rfl, [.one (vb true)], (by kernel_rfl), ⟨rfl, rfl⟩⟩
   refine rSz [(0, yp c), (1, xi kk), (2, .y (.one (.sl false false true [] 0))), (18, xb false)] H (zA 1 (qC1 hcall7) (zL 5 (qC1 hcall8))) ?_
   refine wFk ?_
   refine rs0 [(0, yp c), (1, xi kk), (2, .y (.one (.sl false false true [] 0))), (7, .y (.one (nilC)))] ?_
   obtain ⟨n9, hn9⟩ := lX H
   refine rGz [(0, yp c), (1, xi kk), (2, .y (.one (.sl false false true [] 0))), (7, .y (.one (nilC))), (8, .y (.one (.mp n9)))] (On.new' hn9 (cntO PN (ones ([] : List PN.T))) hs) (zL 0 (Je1 (H := H) (s := PN) (t := 77) (ty := 0) (n := n9) hn9 (by kernel_rfl))) fun H10 hs11 => ?_
   refine wS ?_
   refine rs0 [(0, yp c), (1, xi kk), (7, .y (.one (nilC))), (8, .y (.one (.mp n9))), (20, .y (.one (.sl false false true [] 0))), (21, xi 0), (22, xi 0)] ?_
   refine wB ?_
   refine Wp.loopU [(0, yp c), (1, xi kk), (7, .y (.one (nilC))), (8, .y (.one (.mp n9))), (20, .y (.one (.sl false false true [] 0))), (21, xi 0), (22, xi 0)] (some ([0, 1, 7, 8, 20, 21, 22], false)) (List.length H10) (by kernel_rfl) ?_
   refine WpL.step ?_
   refine rs0 [(0, yp c), (1, xi kk), (7, .y (.one (nilC))), (8, .y (.one (.mp n9))), (20, .y (.one (.sl false false true [] 0))), (21, xi 0), (22, xi 0), (23, xb false)] ?_
   refine wS ?_
   refine wFa ?_
   refine wX ?_
   refine Eq.mpr (if_pos rfl) ?_
   rcases (show kk = 0 ∨ kk = 1 ∨ kk = 2 from by omega) with rfl | rfl | rfl
   ·
    have hlfz12 : ((l0 ++ ([] : List EN.T)).length : Int) = (l0.length : Int) := by { first | rfl | omega | (simp only [ek_]; omega) | (simp; done) | (simp; omega) }
    obtain ⟨_, H14, hr15, rfl, hs16⟩ := join_ok_s _ (H10 : HH) (On.call [3] [0, 1, 2, 4, 5, 6] (by kernel_rfl) hs11) (q := q0) (room := 64) (l := l0) (b := false) (nil := true) (cp := true) (m := ([] : List EN.T)) (by first | rfl | omega | (simp only [ek_]; omega) | (simp; done) | (simp; omega))
    have hs16 : On [R, pts c (.obj (cO ks S hand q0 q1 q2)), kP ks S, gP q1 l1, gP q2 l2, pts n9 (cntO PN (ones ([] : List PN.T))), gP q0 (l0 ++ ([] : List EN.T))] H14 := On.flat hs16
    refine rGz [(6, xi 0)] hs16 (zA 6 (qL 78 2 (.one (.ptr q0 0)) (On.at hs11 1 rfl)) (zL 8 (qC2 hr15))) fun H17 hs18 => ?_
    refine wE ?_
    refine ⟨Or.inr rfl, [.one (vi 0)], (by kernel_rfl), ?_⟩
    exact ⟨_, _, _, _, rfl, (On.pick [0, 1, 2, 6, 3, 4] [5] (by kernel_rfl) hs18), .inr (.inr (.inl (⟨⟨join_none rfl, rfl, by simp; omega⟩, rfl, rfl, rfl, rfl⟩)))⟩
   ·
    have hlfz19 : ((l1 ++ ([] : List EN.T)).length : Int) = (l1.length : Int) := by { first | rfl | omega | (simp only [ek_]; omega) | (simp; done) | (simp; omega) }
    obtain ⟨_, H21, hr22, rfl, hs23⟩ := join_ok_s _ (H10 : HH) (On.call [4] [0, 1, 2, 3, 5, 6] (by kernel_rfl) hs11) (q := q1) (room := 64) (l := l1) (b := false) (nil := true) (cp := true) (m := ([] : List EN.T)) (by first | rfl | omega | (simp only [ek_]; omega) | (simp; done) | (simp; omega))
    have hs23 : On [R, pts c (.obj (cO ks S hand q0 q1 q2)), kP ks S, gP q0 l0, gP q2 l2, pts n9 (cntO PN (ones ([] : List PN.T))), gP q1 (l1 ++ ([] : List EN.T))] H21 := On.flat hs23
    refine rGz [(6, xi 0)] hs23 (zA 6 (qL 78 3 (.one (.ptr q1 0)) (On.at hs11 1 rfl)) (zL 8 (qC2 hr22))) fun H24 hs25 => ?_
    refine wE ?_
    refine ⟨Or.inr rfl, [.one (vi 0)], (by kernel_rfl), ?_⟩
    exact ⟨_, _, _, _, rfl, (On.pick [0, 1, 2, 3, 6, 4] [5] (by kernel_rfl) hs25), .inr (.inr (.inr (.inl (⟨⟨join_none rfl, rfl, by simp; omega⟩, rfl, rfl, rfl, rfl⟩))))⟩
   have hlfz26 : ((l2 ++ ([] : List EN.T)).length : Int) = (l2.length : Int) := by { first | rfl | omega | (simp only [ek_]; omega) | (simp; done) | (simp; omega) }
   obtain ⟨_, H28, hr29, rfl, hs30⟩ := join_ok_s _ (H10 : HH) (On.call [5] [0, 1, 2, 3, 4, 6] (by kernel_rfl) hs11) (q := q2) (room := 64) (l := l2) (b := false) (nil := true) (cp := true) (m := ([] : List EN.T)) (by first | rfl | omega | (simp only [ek_]; omega) | (simp; done) | (simp; omega))
   have hs30 : On [R, pts c (.obj (cO ks S hand q0 q1 q2)), kP ks S, gP q0 l0, gP q1 l1, pts n9 (cntO PN (ones ([] : List PN.T))), gP q2 (l2 ++ ([] : List EN.T))] H28 := On.flat hs30
   refine rGz [(6, xi 0)] hs30 (zA 6 (qL 78 4 (.one (.ptr q2 0)) (On.at hs11 1 rfl)) (zL 8 (qC2 hr29))) fun H31 hs32 => ?_
   refine wE ?_
   refine ⟨Or.inr rfl, [.one (vi 0)], (by kernel_rfl), ?_⟩
   exact ⟨_, _, _, _, rfl, (On.pick [0, 1, 2, 3, 4, 6] [5] (by kernel_rfl) hs32), .inr (.inr (.inr (.inr (⟨⟨join_none rfl, rfl, by simp; omega⟩, rfl, rfl, rfl, rfl⟩))))⟩
  have hcall33 : Runs pg an 31 [.one (.ptr c 0)] H [.one (vb true)] H := by
   refine runs_of ?_
   refine rOF Try.func31 rfl ?_
   refine rs0 [(0, yp c)] ?_
   refine rSz [(2, xb true)] H (zA 6 (qL 22 0 (.one (rff ks S)) (On.at hs 1 rfl)) (zA 7 (Jc (H := H) (s := NI) (t := 22) (ty := 0) (pu := true) (capd := false) (id := ks) (d := 0) (o := 0) (n := S.length) (l := S) (e := (S.length : Int)) (On.at hs 2 rfl) (by kernel_rfl) (by first | rfl | omega | (simp only [ek_]; omega) | (simp; done) | (simp; omega))) (zL 8 (qgtrT H (S.length : Int) 0)))) ?_
   refine wE ?_
   exact ⟨Or.inr rfl, [.one (vb true)], (by kernel_rfl), ⟨rfl, rfl⟩⟩
  have hcall34 : Runs pg an 40 [.one (vi kk)] H [.one (vb false)] H := by
   refine runs_of ?_
   refine rOF Try.func40 rfl ?_
   refine rs0 [(0, xi kk)] ?_
   refine rSz [(2, xb false)] H (zA 1 (qgeqT H kk 0) (zL 4 (qlssF H kk 3))) ?_
   refine wE ?_
   exact ⟨Or.inr rfl, [.one (vb false)], (by kernel_rfl), ⟨rfl, rfl⟩⟩
  refine rSz [(0, yp c), (1, xi kk), (2, .y (.one (.sl false false true [] 0))), (18, xb true)] H (zA 1 (qC1 hcall33) (zL 5 (qC1 hcall34))) ?_
  refine wTa ?_
  refine rs0 [(6, xi 1)] ?_
  refine wE ?_
  refine ⟨Or.inr rfl, [.one (vi 1)], (by kernel_rfl), ?_⟩
  exact ⟨_, _, _, _, rfl, (On.pick [0, 1, 2, 3, 4, 5] [] (by kernel_rfl) hs), .inl ⟨by omega, rfl, rfl, rfl, rfl⟩⟩
 have hcall35 : Runs pg an 31 [.one (.ptr c 0)] H [.one (vb true)] H := by
  refine runs_of ?_
  refine rOF Try.func31 rfl ?_
  refine rs0 [(0, yp c)] ?_
  refine rSz [(2, xb true)] H (zA 6 (qL 22 0 (.one (rff ks S)) (On.at hs 1 rfl)) (zA 7 (Jc (H := H) (s := NI) (t := 22) (ty := 0) (pu := true) (capd := false) (id := ks) (d := 0) (o := 0) (n := S.length) (l := S) (e := (S.length : Int)) (On.at hs 2 rfl) (by kernel_rfl) (by first | rfl | omega | (simp only [ek_]; omega) | (simp; done) | (simp; omega))) (zL 8 (qgtrT H (S.length : Int) 0)))) ?_
  refine wE ?_
  exact ⟨Or.inr rfl, [.one (vb true)], (by kernel_rfl), ⟨rfl, rfl⟩⟩
 have hcall36 : Runs pg an 40 [.one (vi kk)] H [.one (vb false)] H := by
  refine runs_of ?_
  refine rOF Try.func40 rfl ?_
  refine rs0 [(0, xi kk)] ?_
  refine rSz [(2, xb false)] H (zL 1 (qgeqF H kk 0)) ?_
  refine wE ?_
  exact ⟨Or.inr rfl, [.one (vb false)], (by kernel_rfl), ⟨rfl, rfl⟩⟩
 refine rSz [(0, yp c), (1, xi kk), (2, .y (.one (.sl false false true [] 0))), (18, xb true)] H (zA 1 (qC1 hcall35) (zL 5 (qC1 hcall36))) ?_
 refine wTa ?_
 refine rs0 [(6, xi 1)] ?_
 refine wE ?_
 refine ⟨Or.inr rfl, [.one (vi 1)], (by kernel_rfl), ?_⟩
 exact ⟨_, _, _, _, rfl, (On.pick [0, 1, 2, 3, 4, 5] [] (by kernel_rfl) hs), .inl ⟨by omega, rfl, rfl, rfl, rfl⟩⟩
theorem push_nil (R : HP) (H : HH) (k : Int) (p : PN.T) (hs : On [R] H) : ∃ rs H', Runs pg an 17 [.one (.sc (.pointer none)), .one (vi k), .agg [vi p.1, vi p.2.1]] H rs H' ∧ rs = [.one (vi 1)] ∧ On [R] H' := by
 refine rOF Try.func17 rfl ?_
 obtain ⟨n1, hn1⟩ := lX H
 refine rGz [(0, .y (.one (.sc (.pointer none)))), (1, xi k), (5, yp n1)] (On.new' hn1 (.obj [vi p.1, vi p.2.1]) hs) (zL 0 (qB 38 [vi p.1, vi p.2.1] hn1)) fun H2 hs3 => ?_
 refine wS ?_
 have hcall4 : Runs pg an 31 [.one (.sc (.pointer none))] H2 [.one (vb false)] H2 := by
  refine runs_of ?_
  refine rOF Try.func31 rfl ?_
  refine rs0 [(0, .y (.one (.sc (.pointer none))))] ?_
  refine rs0 [(2, xb false)] ?_
  refine wE ?_
  exact ⟨Or.inr rfl, [.one (vb false)], (by kernel_rfl), ⟨rfl, rfl⟩⟩
 refine rSz [(0, .y (.one (.sc (.pointer none)))), (1, xi k), (5, yp n1), (19, xb true)] H2 (zL 1 (qC1 hcall4)) ?_
 refine wTa ?_
 refine rs0 [(6, xi 1)] ?_
 refine wE ?_
 refine ⟨Or.inr rfl, [.one (vi 1)], (by kernel_rfl), ?_⟩
 exact ⟨rfl, (On.pick [0] [1] (by kernel_rfl) hs3)⟩
theorem pick_nil (R : HP) (H : HH) (hs : On [R] H) : ∃ rs H', Runs pg an 13 [.one (.sc (.pointer none))] H rs H' ∧ rs = [.agg [vi 0, vi 0, vb false], .one (vi 0), .one (vi 1)] ∧ On [R] H' := by
 refine rOF Try.func13 rfl ?_
 obtain ⟨n1, hn1⟩ := lX H
 refine rGz [(0, .y (.one (.sc (.pointer none)))), (2, yp n1)] (On.new' hn1 (.obj [vi 0, vi 0, vb false]) hs) (zL 0 (qO 40 [vi 0, vi 0, vb false] hn1)) fun H2 hs3 => ?_
 refine wS ?_
 have hcall4 : Runs pg an 31 [.one (.sc (.pointer none))] H2 [.one (vb false)] H2 := by
  refine runs_of ?_
  refine rOF Try.func31 rfl ?_
  refine rs0 [(0, .y (.one (.sc (.pointer none))))] ?_
  refine rs0 [(2, xb false)] ?_
  refine wE ?_
  exact ⟨Or.inr rfl, [.one (vb false)], (by kernel_rfl), ⟨rfl, rfl⟩⟩
 refine rSz [(0, .y (.one (.sc (.pointer none)))), (2, yp n1), (11, xb true)] H2 (zL 1 (qC1 hcall4)) ?_
 refine wTa ?_
 refine rGz [(2, yp n1), (3, xi 0), (4, xi 1)] (On.put (.obj [vi 0, vi 0, vb false]) hs3 1 rfl) (zL 1 (qS 40 0 (.agg [vi 0, vi 0, vb false]) (On.at hs3 1 rfl))) fun H5 hs6 => ?_
 refine wE ?_
 refine ⟨Or.inr rfl, [.agg [vi 0, vi 0, vb false], .one (vi 0), .one (vi 1)], (rC (On.at hs6 1 rfl)), ?_⟩
 exact ⟨rfl, (On.pick [0] [1] (by kernel_rfl) hs6)⟩
theorem drop_nil (R : HP) (H : HH) (p : PN.T) (hs : On [R] H) : ∃ rs H', Runs pg an 16 [.one (.sc (.pointer none)), .agg [vi p.1, vi p.2.1]] H rs H' ∧ rs = [.one (vi 0), .one (vi 0), .one (vi 1)] ∧ On [R] H' := by
 refine rOF Try.func16 rfl ?_
 obtain ⟨n1, hn1⟩ := lX H
 refine rGz [(0, .y (.one (.sc (.pointer none)))), (3, yp n1)] (On.new' hn1 (.obj [vi p.1, vi p.2.1]) hs) (zL 0 (qB 38 [vi p.1, vi p.2.1] hn1)) fun H2 hs3 => ?_
 obtain ⟨n5, hn5⟩ := lX H2
 have hcall6 : Runs pg an 38 [.one (.sc (.pointer none)), .agg [vi p.1, vi p.2.1]] H2 [.one (vi 0), .one (vi 0), .one (vi 1)] (H2 ++ [.obj [vi p.1, vi p.2.1]]) := by
  refine runs_of ?_
  refine rOF Try.func38 rfl ?_
  refine rSz [(0, .y (.one (.sc (.pointer none)))), (3, yp n5)] (H2 ++ [.obj [vi p.1, vi p.2.1]]) (zL 0 (qB 38 [vi p.1, vi p.2.1] hn5)) ?_
  refine wS ?_
  have hcall7 : Runs pg an 31 [.one (.sc (.pointer none))] (H2 ++ [.obj [vi p.1, vi p.2.1]]) [.one (vb false)] (H2 ++ [.obj [vi p.1, vi p.2.1]]) := by
   refine runs_of ?_
   refine rOF Try.func31 rfl ?_
   refine rs0 [(0, .y (.one (.sc (.pointer none))))] ?_
   refine rs0 [(2, xb false)] ?_
   refine wE ?_
   exact ⟨Or.inr rfl, [.one (vb false)], (by kernel_rfl), ⟨rfl, rfl⟩⟩
  refine rSz [(0, .y (.one (.sc (.pointer none)))), (3, yp n5), (11, xb true)] (H2 ++ [.obj [vi p.1, vi p.2.1]]) (zL 1 (qC1 hcall7)) ?_
  refine wTa ?_
  refine rs0 [(4, xi 0), (5, xi 0), (6, xi 1)] ?_
  refine wE ?_
  exact ⟨Or.inr rfl, [.one (vi 0), .one (vi 0), .one (vi 1)], (by kernel_rfl), ⟨rfl, rfl⟩⟩
 refine rGz [(0, .y (.one (.sc (.pointer none)))), (5, xi 0), (6, xi 1), (7, xi 0)] (On.new' hn5 (.obj [vi p.1, vi p.2.1]) hs3) (zA 1 (qL 38 0 (.agg [vi p.1, vi p.2.1]) (On.at hs3 1 rfl)) (zL 2 (qC2 hcall6))) fun H8 hs9 => ?_
 refine wS ?_
 refine rs0 [(0, .y (.one (.sc (.pointer none)))), (5, xi 0), (6, xi 1), (7, xi 0), (16, xb true)] ?_
 refine wTa ?_
 refine rs0 [(4, xi 0), (5, xi 0), (6, xi 1)] ?_
 refine wE ?_
 refine ⟨Or.inr rfl, [.one (vi 0), .one (vi 0), .one (vi 1)], (by kernel_rfl), ?_⟩
 exact ⟨rfl, (On.pick [0] [1, 2] (by kernel_rfl) hs9)⟩
theorem find_nil (R : HP) (H : HH) (p : PN.T) (hs : On [R] H) : ∃ rs H', Runs pg an 38 [.one (.sc (.pointer none)), .agg [vi p.1, vi p.2.1]] H rs H' ∧ rs = [.one (vi 0), .one (vi 0), .one (vi 1)] ∧ On [R] H' := by
 refine rOF Try.func38 rfl ?_
 obtain ⟨n1, hn1⟩ := lX H
 refine rGz [(0, .y (.one (.sc (.pointer none)))), (3, yp n1)] (On.new' hn1 (.obj [vi p.1, vi p.2.1]) hs) (zL 0 (qB 38 [vi p.1, vi p.2.1] hn1)) fun H2 hs3 => ?_
 refine wS ?_
 have hcall4 : Runs pg an 31 [.one (.sc (.pointer none))] H2 [.one (vb false)] H2 := by
  refine runs_of ?_
  refine rOF Try.func31 rfl ?_
  refine rs0 [(0, .y (.one (.sc (.pointer none))))] ?_
  refine rs0 [(2, xb false)] ?_
  refine wE ?_
  exact ⟨Or.inr rfl, [.one (vb false)], (by kernel_rfl), ⟨rfl, rfl⟩⟩
 refine rSz [(0, .y (.one (.sc (.pointer none)))), (3, yp n1), (11, xb true)] H2 (zL 1 (qC1 hcall4)) ?_
 refine wTa ?_
 refine rs0 [(4, xi 0), (5, xi 0), (6, xi 1)] ?_
 refine wE ?_
 refine ⟨Or.inr rfl, [.one (vi 0), .one (vi 0), .one (vi 1)], (by kernel_rfl), ?_⟩
 exact ⟨rfl, (On.pick [0] [1] (by kernel_rfl) hs3)⟩
theorem cut_nil (R : HP) (H : HH) (k n : Int) (hs : On [R] H) : ∃ rs H', Runs pg an 20 [.one (.sc (.pointer none)), .one (vi k), .one (vi n)] H rs H' ∧ rs = [.one (nilC), .one (vi 1)] ∧ On [R] H' := by
 refine rOF Try.func20 rfl ?_
 refine rs0 [(0, .y (.one (.sc (.pointer none)))), (1, xi k), (2, xi n)] ?_
 refine wS ?_
 have hcall1 : Runs pg an 31 [.one (.sc (.pointer none))] H [.one (vb false)] H := by
  refine runs_of ?_
  refine rOF Try.func31 rfl ?_
  refine rs0 [(0, .y (.one (.sc (.pointer none))))] ?_
  refine rs0 [(2, xb false)] ?_
  refine wE ?_
  exact ⟨Or.inr rfl, [.one (vb false)], (by kernel_rfl), ⟨rfl, rfl⟩⟩
 refine rSz [(0, .y (.one (.sc (.pointer none)))), (1, xi k), (2, xi n), (15, xb true)] H (zL 1 (qC1 hcall1)) ?_
 refine wTa ?_
 refine rs0 [(6, .y (.one (nilC))), (7, xi 1)] ?_
 refine wE ?_
 refine ⟨Or.inr rfl, [.one (nilC), .one (vi 1)], (by kernel_rfl), ?_⟩
 exact ⟨rfl, (On.pick [0] [] (by kernel_rfl) hs)⟩
theorem join_nil (R : HP) (H : HH) (k : Int) (cx : C) (hs : On [R] H) : ∃ rs H', Runs pg an 21 [.one (.sc (.pointer none)), .one (vi k), .one (cx)] H rs H' ∧ rs = [.one (vi 1)] ∧ On [R] H' := by
 refine rOF Try.func21 rfl ?_
 refine rs0 [(0, .y (.one (.sc (.pointer none)))), (1, xi k), (2, .y (.one (cx)))] ?_
 refine wS ?_
 have hcall1 : Runs pg an 31 [.one (.sc (.pointer none))] H [.one (vb false)] H := by
  refine runs_of ?_
  refine rOF Try.func31 rfl ?_
  refine rs0 [(0, .y (.one (.sc (.pointer none))))] ?_
  refine rs0 [(2, xb false)] ?_
  refine wE ?_
  exact ⟨Or.inr rfl, [.one (vb false)], (by kernel_rfl), ⟨rfl, rfl⟩⟩
 refine rSz [(0, .y (.one (.sc (.pointer none)))), (1, xi k), (2, .y (.one (cx))), (18, xb true)] H (zL 1 (qC1 hcall1)) ?_
 refine wTa ?_
 refine rs0 [(6, xi 1)] ?_
 refine wE ?_
 refine ⟨Or.inr rfl, [.one (vi 1)], (by kernel_rfl), ?_⟩
 exact ⟨rfl, (On.pick [0] [] (by kernel_rfl) hs)⟩
theorem empty_nil (R : HP) (H : HH) (hs : On [R] H) : ∃ rs H', Runs pg an 22 [.one (.sc (.pointer none))] H rs H' ∧ rs = [.one (vb true)] ∧ On [R] H' := by
 refine rOF Try.func22 rfl ?_
 refine rs0 [(0, .y (.one (.sc (.pointer none))))] ?_
 refine wS ?_
 refine rs0 [(0, .y (.one (.sc (.pointer none)))), (4, xi 0)] ?_
 refine wB ?_
 refine Wp.loopU [(0, .y (.one (.sc (.pointer none)))), (4, xi 0)] (some ([0, 4], false)) (List.length H) (by kernel_rfl) ?_
 refine WpL.step ?_
 refine rs0 [(0, .y (.one (.sc (.pointer none)))), (4, xi 0), (5, xb true)] ?_
 refine wS (wTk ?_)
 refine wS (wB ?_)
 refine rs0 [(0, .y (.one (.sc (.pointer none)))), (3, xi 0), (4, xi 0)] ?_
 have hcall1 : Runs pg an 31 [.one (.sc (.pointer none))] H [.one (vb false)] H := by
  refine runs_of ?_
  refine rOF Try.func31 rfl ?_
  refine rs0 [(0, .y (.one (.sc (.pointer none))))] ?_
  refine rs0 [(2, xb false)] ?_
  refine wE ?_
  exact ⟨Or.inr rfl, [.one (vb false)], (by kernel_rfl), ⟨rfl, rfl⟩⟩
 refine rSz [(0, .y (.one (.sc (.pointer none)))), (4, xi 0), (19, xb false)] H (zL 1 (qC1 hcall1)) ?_
 refine wFk ?_
 refine rRz [(0, .y (.one (.sc (.pointer none)))), (4, xi 1)] H zN ?_
 refine ⟨_, _, rfl, ?_⟩
 refine WpL.step ?_
 refine rs0 [(0, .y (.one (.sc (.pointer none)))), (4, xi 1), (5, xb true)] ?_
 refine wS (wTk ?_)
 refine wS (wB ?_)
 refine rs0 [(0, .y (.one (.sc (.pointer none)))), (3, xi 1), (4, xi 1)] ?_
 have hcall2 : Runs pg an 31 [.one (.sc (.pointer none))] H [.one (vb false)] H := by
  refine runs_of ?_
  refine rOF Try.func31 rfl ?_
  refine rs0 [(0, .y (.one (.sc (.pointer none))))] ?_
  refine rs0 [(2, xb false)] ?_
  refine wE ?_
  exact ⟨Or.inr rfl, [.one (vb false)], (by kernel_rfl), ⟨rfl, rfl⟩⟩
 refine rSz [(0, .y (.one (.sc (.pointer none)))), (4, xi 1), (19, xb false)] H (zL 1 (qC1 hcall2)) ?_
 refine wFk ?_
 refine rRz [(0, .y (.one (.sc (.pointer none)))), (4, xi 2)] H zN ?_
 refine ⟨_, _, rfl, ?_⟩
 refine WpL.step ?_
 refine rs0 [(0, .y (.one (.sc (.pointer none)))), (4, xi 2), (5, xb true)] ?_
 refine wS (wTk ?_)
 refine wS (wB ?_)
 refine rs0 [(0, .y (.one (.sc (.pointer none)))), (3, xi 2), (4, xi 2)] ?_
 have hcall3 : Runs pg an 31 [.one (.sc (.pointer none))] H [.one (vb false)] H := by
  refine runs_of ?_
  refine rOF Try.func31 rfl ?_
  refine rs0 [(0, .y (.one (.sc (.pointer none))))] ?_
  refine rs0 [(2, xb false)] ?_
  refine wE ?_
  exact ⟨Or.inr rfl, [.one (vb false)], (by kernel_rfl), ⟨rfl, rfl⟩⟩
 refine rSz [(0, .y (.one (.sc (.pointer none)))), (4, xi 2), (19, xb false)] H (zL 1 (qC1 hcall3)) ?_
 refine wFk ?_
 refine rRz [(0, .y (.one (.sc (.pointer none)))), (4, xi 3)] H zN ?_
 refine ⟨_, _, rfl, ?_⟩
 refine WpL.step ?_
 refine rs0 [(0, .y (.one (.sc (.pointer none)))), (4, xi 3), (5, xb false)] ?_
 refine wS ?_
 refine wFa ?_
 refine wX ?_
 refine Eq.mpr (if_pos rfl) ?_
 refine rs0 [(2, xb true)] ?_
 refine wE ?_
 refine ⟨Or.inr rfl, [.one (vb true)], (by kernel_rfl), ?_⟩
 exact ⟨rfl, (On.pick [0] [] (by kernel_rfl) hs)⟩
theorem hand_nil (R : HP) (H : HH) (hs : On [R] H) : ∃ rs H', Runs pg an 30 [.one (.sc (.pointer none))] H rs H' ∧ rs = [.one (vi 0)] ∧ On [R] H' := by
 refine rOF Try.func30 rfl ?_
 refine rs0 [(0, .y (.one (.sc (.pointer none))))] ?_
 refine wS ?_
 have hcall1 : Runs pg an 31 [.one (.sc (.pointer none))] H [.one (vb false)] H := by
  refine runs_of ?_
  refine rOF Try.func31 rfl ?_
  refine rs0 [(0, .y (.one (.sc (.pointer none))))] ?_
  refine rs0 [(2, xb false)] ?_
  refine wE ?_
  exact ⟨Or.inr rfl, [.one (vb false)], (by kernel_rfl), ⟨rfl, rfl⟩⟩
 refine rSz [(0, .y (.one (.sc (.pointer none)))), (5, xb true)] H (zL 1 (qC1 hcall1)) ?_
 refine wTa ?_
 refine rs0 [(2, xi 0)] ?_
 refine wE ?_
 refine ⟨Or.inr rfl, [.one (vi 0)], (by kernel_rfl), ?_⟩
 exact ⟨rfl, (On.pick [0] [] (by kernel_rfl) hs)⟩
theorem queue_nil (R : HP) (H : HH) (k : Int) (hs : On [R] H) : ∃ rs H', Runs pg an 47 [.one (.sc (.pointer none)), .one (vi k)] H rs H' ∧ rs = [.one (nilC)] ∧ On [R] H' := by
 refine rOF Try.func47 rfl ?_
 refine rs0 [(0, .y (.one (.sc (.pointer none)))), (1, xi k)] ?_
 refine wS ?_
 have hcall1 : Runs pg an 31 [.one (.sc (.pointer none))] H [.one (vb false)] H := by
  refine runs_of ?_
  refine rOF Try.func31 rfl ?_
  refine rs0 [(0, .y (.one (.sc (.pointer none))))] ?_
  refine rs0 [(2, xb false)] ?_
  refine wE ?_
  exact ⟨Or.inr rfl, [.one (vb false)], (by kernel_rfl), ⟨rfl, rfl⟩⟩
 refine rSz [(0, .y (.one (.sc (.pointer none)))), (1, xi k), (12, xb true)] H (zL 1 (qC1 hcall1)) ?_
 refine wTa ?_
 refine rs0 [(4, .y (.one (nilC)))] ?_
 refine wE ?_
 refine ⟨Or.inr rfl, [.one (nilC)], (by kernel_rfl), ?_⟩
 exact ⟨rfl, (On.pick [0] [] (by kernel_rfl) hs)⟩
theorem copy_nil (R : HP) (H : HH) (hs : On [R] H) : ∃ rs H', Runs pg an 46 [.one (.sc (.pointer none))] H rs H' ∧ rs = [.one (.sc (.pointer none))] ∧ On [R] H' := by
 refine rOF Try.func46 rfl ?_
 refine rs0 [(0, .y (.one (.sc (.pointer none))))] ?_
 refine wS ?_
 have hcall1 : Runs pg an 31 [.one (.sc (.pointer none))] H [.one (vb false)] H := by
  refine runs_of ?_
  refine rOF Try.func31 rfl ?_
  refine rs0 [(0, .y (.one (.sc (.pointer none))))] ?_
  refine rs0 [(2, xb false)] ?_
  refine wE ?_
  exact ⟨Or.inr rfl, [.one (vb false)], (by kernel_rfl), ⟨rfl, rfl⟩⟩
 refine rSz [(0, .y (.one (.sc (.pointer none)))), (7, xb true)] H (zL 1 (qC1 hcall1)) ?_
 refine wTa ?_
 refine rs0 [(2, .y (.one (.sc (.pointer none))))] ?_
 refine wE ?_
 refine ⟨Or.inr rfl, [.one (.sc (.pointer none))], (by kernel_rfl), ?_⟩
 exact ⟨rfl, (On.pick [0] [] (by kernel_rfl) hs)⟩
theorem rpush_r (rn rc u0 v0 u1 v1 u2 v2 : Bool) (S : List Int) (hand : Int) (l0 l1 l2 : List EN.T) (kk : Int) (p : PN.T) (e : Int) (m0 m1 m2 : List EN.T)  (b0 : (l0.length : Int) ≤ 64) (b1 : (l1.length : Int) ≤ 64) (b2 : (l2.length : Int) ≤ 64) (h : PushR kk p l0 l1 l2 e m0 m1 m2) : ∃ fc fd fe ff fg fh : Bool, PureC pg an 61 [.agg (wC rn rc u0 v0 u1 v1 u2 v2 S hand l0 l1 l2), .one (vi kk), .agg [vi p.1, vi p.2.1]] [.agg (wC rn rc fc fd fe ff fg fh S hand m0 m1 m2), .one (vi e)] := by
  rcases h with ⟨a, rfl, rfl, rfl, rfl⟩ | ⟨⟨a, a0, a1, a2⟩, rfl, rfl, rfl, rfl⟩ | ⟨⟨rfl, a0, a1, a2, a3⟩, rfl, rfl, rfl, rfl⟩ | ⟨⟨rfl, a0, a1, a2, a3⟩, rfl, rfl, rfl, rfl⟩ | ⟨⟨rfl, a0, a1, a2, a3⟩, rfl, rfl, rfl, rfl⟩
  · exact ⟨u0, v0, u1, v1, u2, v2, rpush_bad rn rc u0 v0 u1 v1 u2 v2 S hand l0 l1 l2 kk p b0 b1 b2 a⟩
  · exact ⟨u0, v0, u1, v1, u2, v2, rpush_full rn rc u0 v0 u1 v1 u2 v2 S hand l0 l1 l2 kk p b0 b1 b2 a a0 a1 a2⟩
  · obtain ⟨nl, cp, e⟩ := rpush_ok0 rn rc u0 v0 u1 v1 u2 v2 S hand l0 l1 l2 p b0 b1 b2 a0 a1 a2 a3
    exact ⟨nl, cp, u1, v1, u2, v2, e⟩
  · obtain ⟨nl, cp, e⟩ := rpush_ok1 rn rc u0 v0 u1 v1 u2 v2 S hand l0 l1 l2 p b0 b1 b2 a0 a1 a2 a3
    exact ⟨u0, v0, nl, cp, u2, v2, e⟩
  · obtain ⟨nl, cp, e⟩ := rpush_ok2 rn rc u0 v0 u1 v1 u2 v2 S hand l0 l1 l2 p b0 b1 b2 a0 a1 a2 a3
    exact ⟨u0, v0, u1, v1, nl, cp, e⟩
theorem rdrop_r (rn rc u0 v0 u1 v1 u2 v2 : Bool) (S : List Int) (hand : Int) (l0 l1 l2 : List EN.T) (p : PN.T) (k a e : Int) (m0 m1 m2 : List EN.T)  (b0 : (l0.length : Int) ≤ 64) (b1 : (l1.length : Int) ≤ 64) (b2 : (l2.length : Int) ≤ 64) (h : DropR p l0 l1 l2 k a e m0 m1 m2) : ∃ fc fd fe ff fg fh : Bool, PureC pg an 62 [.agg (wC rn rc u0 v0 u1 v1 u2 v2 S hand l0 l1 l2), .agg [vi p.1, vi p.2.1]] [.agg (wC rn rc fc fd fe ff fg fh S hand m0 m1 m2), .one (vi k), .one (vi a), .one (vi e)] := by
  rcases h with ⟨a0, rfl, rfl, rfl, rfl, rfl, rfl⟩ | ⟨⟨a0, a1⟩, rfl, rfl, rfl, rfl, rfl, rfl⟩ | ⟨⟨a0, a1, a2⟩, rfl, rfl, rfl, rfl, rfl, rfl⟩ | ⟨⟨a0, a1, a2, _⟩, rfl, rfl, rfl, rfl, rfl, rfl⟩
  · obtain ⟨nl, cp, e⟩ := rdrop_0 rn rc u0 v0 u1 v1 u2 v2 S hand l0 l1 l2 p b0 b1 b2 a0
    exact ⟨nl, cp, u1, v1, u2, v2, e⟩
  · obtain ⟨nl, cp, e⟩ := rdrop_1 rn rc u0 v0 u1 v1 u2 v2 S hand l0 l1 l2 p b0 b1 b2 a0 a1
    exact ⟨u0, v0, nl, cp, u2, v2, e⟩
  · obtain ⟨nl, cp, e⟩ := rdrop_2 rn rc u0 v0 u1 v1 u2 v2 S hand l0 l1 l2 p b0 b1 b2 a0 a1 a2
    exact ⟨u0, v0, u1, v1, nl, cp, e⟩
  · exact ⟨u0, v0, u1, v1, u2, v2, rdrop_3 rn rc u0 v0 u1 v1 u2 v2 S hand l0 l1 l2 p b0 b1 b2 a0 a1 a2⟩
theorem rfind_r (rn rc u0 v0 u1 v1 u2 v2 : Bool) (S : List Int) (hand : Int) (l0 l1 l2 : List EN.T) (p : PN.T) (k a e : Int)  (b0 : (l0.length : Int) ≤ 64) (b1 : (l1.length : Int) ≤ 64) (b2 : (l2.length : Int) ≤ 64) (h : FindR p l0 l1 l2 k a e) : PureC pg an 52 [.agg (wC rn rc u0 v0 u1 v1 u2 v2 S hand l0 l1 l2), .agg [vi p.1, vi p.2.1]] [.one (vi k), .one (vi a), .one (vi e)] := by
  rcases h with ⟨a0, rfl, rfl, rfl⟩ | ⟨⟨a0, a1⟩, rfl, rfl, rfl⟩ | ⟨⟨a0, a1, a2⟩, rfl, rfl, rfl⟩ | ⟨⟨a0, a1, a2, _⟩, rfl, rfl, rfl⟩
  · exact rfind_0 false rn rc false u0 v0 false u1 v1 false u2 v2 S hand l0 l1 l2 p (by omega) (by omega) (by omega) a0
  · exact rfind_1 false rn rc false u0 v0 false u1 v1 false u2 v2 S hand l0 l1 l2 p (by omega) (by omega) (by omega) a0 a1
  · exact rfind_2 false rn rc false u0 v0 false u1 v1 false u2 v2 S hand l0 l1 l2 p (by omega) (by omega) (by omega) a0 a1 a2
  · exact rfind_3 false rn rc false u0 v0 false u1 v1 false u2 v2 S hand l0 l1 l2 p (by omega) (by omega) (by omega) a0 a1 a2
theorem rpick_r (rn rc u0 v0 u1 v1 u2 v2 : Bool) (S : List Int) (hand : Int) (l0 l1 l2 : List EN.T) (x : EN.T) (k e hd : Int) (m0 m1 m2 : List EN.T)  (b0 : (l0.length : Int) ≤ 64) (b1 : (l1.length : Int) ≤ 64) (b2 : (l2.length : Int) ≤ 64) (hok : okW S = true) (h0 : 0 ≤ hand) (h1 : hand < (S.length : Int)) (h : PickR S hand l0 l1 l2 x k e hd m0 m1 m2) : ∃ fc fd fe ff fg fh : Bool, PureC pg an 14 [.agg (wC rn rc u0 v0 u1 v1 u2 v2 S hand l0 l1 l2)] [.agg (wC rn rc fc fd fe ff fg fh S hd m0 m1 m2), .agg [vi x.1.1, vi x.1.2.1, vb x.2.1], .one (vi k), .one (vi e)] := by
  obtain ⟨hS, hT⟩ := okW_len hok
  rcases h with ⟨⟨_, n⟩, rfl, rfl, rfl, rfl, rfl, rfl, rfl⟩ | ⟨⟨a, n⟩, rfl, rfl, rfl, rfl, rfl, rfl⟩ | ⟨⟨a, n⟩, rfl, rfl, rfl, rfl, rfl, rfl⟩ | ⟨⟨a, n⟩, rfl, rfl, rfl, rfl, rfl, rfl⟩
  · exact ⟨u0, v0, u1, v1, u2, v2, rpick_none rn rc u0 v0 u1 v1 u2 v2 S hand l0 l1 l2 hS hT b0 b1 b2 hok h0 h1 n⟩
  · obtain ⟨nl, cp, e⟩ := rpick_0 rn rc u0 v0 u1 v1 u2 v2 S hand l0 l1 l2 x hS hT b0 b1 b2 hok h0 h1 a n
    exact ⟨nl, cp, u1, v1, u2, v2, e⟩
  · obtain ⟨nl, cp, e⟩ := rpick_1 rn rc u0 v0 u1 v1 u2 v2 S hand l0 l1 l2 x hS hT b0 b1 b2 hok h0 h1 a n
    exact ⟨u0, v0, nl, cp, u2, v2, e⟩
  · obtain ⟨nl, cp, e⟩ := rpick_2 rn rc u0 v0 u1 v1 u2 v2 S hand l0 l1 l2 x hS hT b0 b1 b2 hok h0 h1 a n
    exact ⟨u0, v0, u1, v1, nl, cp, e⟩
theorem rcut_r (rn rc u0 v0 u1 v1 u2 v2 : Bool) (S : List Int) (hand : Int) (l0 l1 l2 : List EN.T) (kk n : Int) (hn : n ≤ 9223372036854775807) (x : List EN.T) (e : Int) (m0 m1 m2 : List EN.T)  (b0 : (l0.length : Int) ≤ 64) (b1 : (l1.length : Int) ≤ 64) (b2 : (l2.length : Int) ≤ 64) (h : CutR kk n l0 l1 l2 x e m0 m1 m2) : ∃ fc fd fe ff fg fh n2 c2 : Bool, PureC pg an 63 [.agg (wC rn rc u0 v0 u1 v1 u2 v2 S hand l0 l1 l2), .one (vi kk), .one (vi n)] [.agg (wC rn rc fc fd fe ff fg fh S hand m0 m1 m2), .one (sv EN false n2 c2 x), .one (vi e)] := by
  rcases h with ⟨a, rfl, rfl, rfl, rfl, rfl⟩ | ⟨⟨a, c⟩, rfl, rfl, rfl, rfl, rfl⟩ | ⟨⟨rfl, a, c⟩, rfl, rfl, rfl, rfl, rfl⟩ | ⟨⟨rfl, a, c⟩, rfl, rfl, rfl, rfl, rfl⟩ | ⟨⟨rfl, a, c⟩, rfl, rfl, rfl, rfl, rfl⟩
  · refine ⟨u0, v0, u1, v1, u2, v2, true, true, ?_⟩
    by_cases g0 : kk < 0
    · exact rcut_low rn rc u0 v0 u1 v1 u2 v2 S hand l0 l1 l2 kk n b0 b1 b2 g0
    by_cases g1 : 3 ≤ kk
    · exact rcut_high rn rc u0 v0 u1 v1 u2 v2 S hand l0 l1 l2 kk n b0 b1 b2 g1
    exact rcut_neg rn rc u0 v0 u1 v1 u2 v2 S hand l0 l1 l2 kk n b0 b1 b2 (by omega) (by omega) (by omega)
  · refine ⟨u0, v0, u1, v1, u2, v2, true, true, ?_⟩
    rcases c with ⟨rfl, c⟩ | ⟨rfl, c⟩ | ⟨rfl, c⟩
    · exact rcut_none0 rn rc u0 v0 u1 v1 u2 v2 S hand l0 l1 l2 n b0 b1 b2 c hn
    · exact rcut_none1 rn rc u0 v0 u1 v1 u2 v2 S hand l0 l1 l2 n b0 b1 b2 c hn
    · exact rcut_none2 rn rc u0 v0 u1 v1 u2 v2 S hand l0 l1 l2 n b0 b1 b2 c hn
  · obtain ⟨nl, cp, n2, c2, e⟩ := rcut_ok0 rn rc u0 v0 u1 v1 u2 v2 S hand l0 l1 l2 n b0 b1 b2 a c
    exact ⟨nl, cp, u1, v1, u2, v2, n2, c2, e⟩
  · obtain ⟨nl, cp, n2, c2, e⟩ := rcut_ok1 rn rc u0 v0 u1 v1 u2 v2 S hand l0 l1 l2 n b0 b1 b2 a c
    exact ⟨u0, v0, nl, cp, u2, v2, n2, c2, e⟩
  · obtain ⟨nl, cp, n2, c2, e⟩ := rcut_ok2 rn rc u0 v0 u1 v1 u2 v2 S hand l0 l1 l2 n b0 b1 b2 a c
    exact ⟨u0, v0, u1, v1, nl, cp, n2, c2, e⟩
theorem rjoin_r (rn rc u0 v0 u1 v1 u2 v2 : Bool) (S : List Int) (hand : Int) (l0 l1 l2 : List EN.T) (kk : Int) (b nil cc : Bool) (m : List EN.T) (hm : (m.length : Int) ≤ 70368744177664) (e : Int) (m0 m1 m2 : List EN.T)  (b0 : (l0.length : Int) ≤ 64) (b1 : (l1.length : Int) ≤ 64) (b2 : (l2.length : Int) ≤ 64) (h : JoinR kk m l0 l1 l2 e m0 m1 m2) : ∃ fc fd fe ff fg fh : Bool, PureC pg an 64 [.agg (wC rn rc u0 v0 u1 v1 u2 v2 S hand l0 l1 l2), .one (vi kk), .one (sv EN b nil cc m)] [.agg (wC rn rc fc fd fe ff fg fh S hand m0 m1 m2), .one (vi e)] := by
  rcases h with ⟨a, rfl, rfl, rfl, rfl⟩ | ⟨⟨j, a⟩, rfl, rfl, rfl, rfl⟩ | ⟨⟨j, rfl, a⟩, rfl, rfl, rfl, rfl⟩ | ⟨⟨j, rfl, a⟩, rfl, rfl, rfl, rfl⟩ | ⟨⟨j, rfl, a⟩, rfl, rfl, rfl, rfl⟩
  · refine ⟨u0, v0, u1, v1, u2, v2, ?_⟩
    rcases a with a | a | ⟨a, c, d⟩
    · exact rjoin_low rn rc u0 v0 u1 v1 u2 v2 S hand l0 l1 l2 kk b nil cc m b0 b1 b2 hm a
    · exact rjoin_high rn rc u0 v0 u1 v1 u2 v2 S hand l0 l1 l2 kk b nil cc m b0 b1 b2 hm a
    · exact rjoin_bad rn rc u0 v0 u1 v1 u2 v2 S hand l0 l1 l2 kk b nil cc m b0 b1 b2 hm a c d
  · refine ⟨u0, v0, u1, v1, u2, v2, ?_⟩
    rcases a with ⟨rfl, a⟩ | ⟨rfl, a⟩ | ⟨rfl, a⟩
    · exact rjoin_full0 rn rc u0 v0 u1 v1 u2 v2 S hand l0 l1 l2 b nil cc m b0 b1 b2 hm j a
    · exact rjoin_full1 rn rc u0 v0 u1 v1 u2 v2 S hand l0 l1 l2 b nil cc m b0 b1 b2 hm j a
    · exact rjoin_full2 rn rc u0 v0 u1 v1 u2 v2 S hand l0 l1 l2 b nil cc m b0 b1 b2 hm j a
  · obtain ⟨nl, cp, e⟩ := rjoin_ok0 rn rc u0 v0 u1 v1 u2 v2 S hand l0 l1 l2 b nil cc m b0 b1 b2 hm j a
    exact ⟨nl, cp, u1, v1, u2, v2, e⟩
  · obtain ⟨nl, cp, e⟩ := rjoin_ok1 rn rc u0 v0 u1 v1 u2 v2 S hand l0 l1 l2 b nil cc m b0 b1 b2 hm j a
    exact ⟨u0, v0, nl, cp, u2, v2, e⟩
  · obtain ⟨nl, cp, e⟩ := rjoin_ok2 rn rc u0 v0 u1 v1 u2 v2 S hand l0 l1 l2 b nil cc m b0 b1 b2 hm j a
    exact ⟨u0, v0, u1, v1, nl, cp, e⟩
end Go.Proofs.Ytjdnhbnpdbpgbaa
