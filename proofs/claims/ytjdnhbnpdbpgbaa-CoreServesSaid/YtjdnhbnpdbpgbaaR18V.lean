/-
  Core: who waits is served: the plain law; Gap. (Printed by sx/r18.py.)
-/
import Derived.Test.YtjdnhbnpdbpgbaaR18U
import Derived.Test.YtjdnhbnpdbpgbaaR18S
namespace Go.Proofs.Ytjdnhbnpdbpgbaa
open Go.Lg
set_option linter.unusedVariables false
set_option maxRecDepth 100000
set_option maxHeartbeats 8000000
set_option linter.unusedSimpArgs false
theorem IsDist.step {l : List Int} {c h d d' : Int} (hd : IsDist l c h d) (h0 : 0 ≤ h) (h1 : h < (l.length : Int)) (hne : at_ l h ≠ c) (hd' : IsDist l c ((h + 1) % (l.length : Int)) d') : d' + 1 ≤ d := by
  have h2 : d ≠ 1 := by
    intro e
    have := hd.hit
    rw [e, show h + 1 - 1 = h by omega, Int.emod_eq_of_lt h0 h1] at this
    exact hne this
  have h3 := hd.pos
  rcases (show d' ≤ d - 1 ∨ d - 1 < d' by omega) with hh | hh
  · omega
  · exfalso
    refine hd'.miss (d - 1) (by omega) hh ?_
    rw [show (h + 1) % (l.length : Int) + (d - 1) - 1 = (h + 1) % (l.length : Int) + (d - 2) by omega, Int.emod_add_emod, show h + 1 + (d - 2) = h + d - 1 by omega]
    exact hd.hit
theorem dist_step {l : List Int} {c h x : Int} (hl : okW l = true) (hc : inW c = true) (h0 : 0 ≤ h) (h1 : h < (l.length : Int)) (hx : l[h.toNat]? = some x) (hne : ¬ x = c) : dist l c ((h + 1) % (l.length : Int)) + 1 ≤ dist l c h ∧ 1 ≤ dist l c ((h + 1) % (l.length : Int)) := by
  have hd' := dist_is (h := (h + 1) % (l.length : Int)) hl hc (Int.emod_nonneg _ (by omega)) (Int.emod_lt_of_pos _ (by omega))
  exact ⟨(dist_is hl hc h0 h1).step h0 h1 (by rw [at_of hx]; exact hne) hd', hd'.pos⟩
theorem gapF_mono {l : List Int} {c : Int} : ∀ {k j : Nat}, j < k → dist l c j ≤ gapF l c k := by
  intro k
  induction k with
  | zero => intro j h; omega
  | succ k ih =>
    intro j h
    unfold gapF
    rcases (show j < k ∨ j = k by omega) with hh | rfl
    · have := ih hh
      split <;> omega
    · split <;> omega
theorem gapF_le {l : List Int} {c : Int} (hl : okW l = true) (hc : inW c = true) : ∀ {k : Nat}, k ≤ l.length → gapF l c k ≤ (l.length : Int) := by
  intro k
  induction k with
  | zero => intro _; unfold gapF; omega
  | succ k ih =>
    intro h
    have := ih (by omega)
    have := (dist_is (h := (k : Int)) hl hc (by omega) (by omega)).le
    unfold gapF
    split <;> omega
theorem gap_is {l : List Int} {c h : Int} (hl : okW l = true) (hc : inW c = true) (h0 : 0 ≤ h) (h1 : h < (l.length : Int)) : dist l c h ≤ gap l c ∧ 1 ≤ dist l c h ∧ gap l c ≤ (l.length : Int) := by
  refine ⟨?_, (dist_is hl hc h0 h1).pos, gapF_le hl hc (Nat.le_refl _)⟩
  have := gapF_mono (l := l) (c := c) (k := l.length) (j := h.toNat) (by omega)
  rwa [show (h.toNat : Int) = h by omega] at this
def posC (c : Int) (p : PN.T) (l0 l1 l2 : List EN.T) : Int := if c = 0 then posI p l0 else if c = 1 then posI p l1 else posI p l2
def LeP (p : PN.T) (l m : List EN.T) : Prop := 0 ≤ posI p l → 0 ≤ posI p m ∧ posI p m ≤ posI p l
theorem LeP.refl {p : PN.T} {l : List EN.T} : LeP p l l := fun h => ⟨h, Int.le_refl _⟩
theorem posI_of {p : PN.T} {l : List EN.T} {j : Nat} {x : EN.T} (hx : l[j]? = some x) (he : x.1 = p) : 0 ≤ posI p l ∧ posI p l ≤ j := by
  have h0 : 0 ≤ posI p l := by
    rcases Int.lt_or_le (posI p l) 0 with h | h
    · have := posI_lt h x (List.mem_of_getElem? hx)
      rw [he, eqb_refl rfl] at this
      cases this
    · exact h
  refine ⟨h0, ?_⟩
  unfold posI at h0 ⊢
  split at h0
  · rename_i i h2
    obtain ⟨h3, _, h5⟩ := List.findIdx?_eq_some_iff_getElem.1 h2
    rcases Nat.lt_or_ge j i with h | h
    · obtain ⟨hj, rfl⟩ := List.getElem?_eq_some_iff.1 hx
      have := h5 j h
      rw [he, eqb_refl rfl] at this
      simp at this
    · omega
  · omega
theorem LeP.app {p : PN.T} {l m : List EN.T} : LeP p l (l ++ m) := fun h => by
  obtain ⟨x, hx, he⟩ := posI_get h
  have := posI_of (l := l ++ m) (j := (posI p l).toNat) (by rw [List.getElem?_append_left (List.getElem?_eq_some_iff.1 hx).1]; exact hx) he
  exact ⟨this.1, by omega⟩
theorem LeP.cut {p q : PN.T} {l : List EN.T} (hq : 0 ≤ posI q l) (hne : eqb PN q p = false) : LeP p l (l.take (posI q l).toNat ++ l.drop (posI q l + 1).toNat) := fun h => by
  obtain ⟨x, hx, he⟩ := posI_get h
  obtain ⟨y, hy, hf⟩ := posI_get hq
  obtain ⟨h1, h1'⟩ := List.getElem?_eq_some_iff.1 hx
  obtain ⟨h2, h2'⟩ := List.getElem?_eq_some_iff.1 hy
  rcases (show (posI p l).toNat < (posI q l).toNat ∨ (posI p l).toNat = (posI q l).toNat ∨ (posI q l).toNat < (posI p l).toNat by omega) with h3 | h3 | h3
  · have := posI_of (l := l.take (posI q l).toNat ++ l.drop (posI q l + 1).toNat) (j := (posI p l).toNat) (x := x) (by
      rw [List.getElem?_append_left (by simp; omega), List.getElem?_take, if_pos h3]; exact hx) he
    exact ⟨this.1, by omega⟩
  · exfalso
    rw [h3, hy] at hx
    cases hx
    rw [← hf, he, eqb_refl rfl] at hne
    cases hne
  · have := posI_of (l := l.take (posI q l).toNat ++ l.drop (posI q l + 1).toNat) (j := (posI p l).toNat - 1) (x := x) (by
      rw [List.getElem?_append_right (by simp; omega), List.getElem?_drop, List.length_take, show (posI q l + 1).toNat + ((posI p l).toNat - 1 - min (posI q l).toNat l.length) = (posI p l).toNat by omega]; exact hx) he
    exact ⟨this.1, by omega⟩
theorem pos_tail {p : PN.T} {l : List EN.T} {x : EN.T} (hx : l[0]? = some x) (hne : eqb PN x.1 p = false) (h : 0 ≤ posI p l) : 0 ≤ posI p (l.drop 1) ∧ posI p (l.drop 1) ≤ posI p l - 1 := by
  obtain ⟨y, hy, he⟩ := posI_get h
  rcases (show (posI p l).toNat = 0 ∨ 1 ≤ (posI p l).toNat by omega) with h0 | h0
  · exfalso
    rw [h0, hx] at hy
    cases hy
    rw [he, eqb_refl rfl] at hne
    cases hne
  · have := posI_of (l := l.drop 1) (j := (posI p l).toNat - 1) (x := y) (by rw [List.getElem?_drop, show 1 + ((posI p l).toNat - 1) = (posI p l).toNat by omega]; exact hy) he
    exact ⟨this.1, by omega⟩
structure Wait (S : List Int) (c : Int) (p : PN.T) (hand : Int) (l0 l1 l2 : List EN.T) (g n w : Int) : Prop where
  pos : 0 ≤ posC c p l0 l1 l2
  gp : ∀ h, 0 ≤ h → h < (S.length : Int) → 1 ≤ dist S c h ∧ dist S c h ≤ g
  hd : 0 ≤ hand ∧ hand < (S.length : Int)
  all : n + posC c p l0 l1 l2 * g + dist S c hand ≤ w
section
variable {S : List Int} {c hand g n w : Int} {p : PN.T} {l0 l1 l2 m0 m1 m2 : List EN.T}
theorem Wait.g0 (h : Wait S c p hand l0 l1 l2 g n w) : 1 ≤ g := by have := h.gp hand h.hd.1 h.hd.2; omega
theorem Wait.lt (h : Wait S c p hand l0 l1 l2 g n w) : n < w := by
  have h1 := h.gp hand h.hd.1 h.hd.2
  have h2 := Int.mul_nonneg h.pos (show 0 ≤ g by omega)
  have := h.all
  omega
theorem Wait.mono (h : Wait S c p hand l0 l1 l2 g n w) (a0 : LeP p l0 m0) (a1 : LeP p l1 m1) (a2 : LeP p l2 m2) : Wait S c p hand m0 m1 m2 g n w := by
  have k : 0 ≤ posC c p m0 m1 m2 ∧ posC c p m0 m1 m2 ≤ posC c p l0 l1 l2 := by
    have := h.pos
    unfold posC at this ⊢
    by_cases e0 : c = 0
    · rw [if_pos e0] at this; rw [if_pos e0, if_pos e0]; exact a0 this
    · rw [if_neg e0] at this; rw [if_neg e0, if_neg e0]
      by_cases e1 : c = 1
      · rw [if_pos e1] at this; rw [if_pos e1, if_pos e1]; exact a1 this
      · rw [if_neg e1] at this; rw [if_neg e1, if_neg e1]; exact a2 this
  refine ⟨k.1, h.gp, h.hd, ?_⟩
  have h2 := Int.mul_le_mul_of_nonneg_right k.2 (show 0 ≤ g by have := h.g0; omega)
  have := h.all
  omega
theorem Wait.none (h : Wait S c p hand l0 l1 l2 g n w) (e0 : l0.length = 0) (e1 : l1.length = 0) (e2 : l2.length = 0) : False := by
  have h0 := h.pos
  have n0 := posI_bd p l0
  have n1 := posI_bd p l1
  have n2 := posI_bd p l2
  unfold posC at h0
  split at h0
  · omega
  · split at h0 <;> omega
theorem Wait.start {j : Int} (hc : 0 ≤ c ∧ c < 3) (hok : okW S = true) (hh : 0 ≤ hand ∧ hand < (S.length : Int)) (hp : 0 ≤ posC c p l0 l1 l2 ∧ posC c p l0 l1 l2 ≤ j) : Wait S c p hand l0 l1 l2 (gap S c) 0 ((j + 1) * gap S c) := by
  have hi : inW c = true := by unfold inW; simp; omega
  have hg : ∀ h, 0 ≤ h → h < (S.length : Int) → 1 ≤ dist S c h ∧ dist S c h ≤ gap S c := fun h a b => ⟨(gap_is hok hi a b).2.1, (gap_is hok hi a b).1⟩
  refine ⟨hp.1, hg, hh, ?_⟩
  have h1 := hg hand hh.1 hh.2
  have h2 := Int.mul_le_mul_of_nonneg_right hp.2 (show 0 ≤ gap S c by omega)
  rw [Int.add_mul, Int.one_mul]
  omega
theorem Wait.pick (h : Wait S c p hand l0 l1 l2 g n w) (hc : 0 ≤ c ∧ c < 3) (hok : okW S = true) {k : Int} (hn : nx S hand (decide (((l0.length : Int) : Int) > 0)) (decide (((l1.length : Int) : Int) > 0)) (decide (((l2.length : Int) : Int) > 0)) = (k, (hand + 1) % (S.length : Int), 0))
    (hk : k = c → 0 ≤ posC c p m0 m1 m2 ∧ posC c p m0 m1 m2 ≤ posC c p l0 l1 l2 - 1) (hj : k ≠ c → posC c p m0 m1 m2 = posC c p l0 l1 l2) : Wait S c p ((hand + 1) % (S.length : Int)) m0 m1 m2 g (n + 1) w := by
  have hl := okW_len hok
  have hh := hand_ok (S := S) (hand := hand) hl.1
  have hd := h.gp _ hh.1 hh.2
  have hd0 := h.gp _ h.hd.1 h.hd.2
  have ha := h.all
  by_cases e : k = c
  · obtain ⟨q0, q1⟩ := hk e
    refine ⟨q0, h.gp, hh, ?_⟩
    have h2 := Int.mul_le_mul_of_nonneg_right q1 (show 0 ≤ g by omega)
    rw [Int.sub_mul, Int.one_mul] at h2
    omega
  · have e2 := hj e
    refine ⟨by rw [e2]; exact h.pos, h.gp, hh, ?_⟩
    rw [e2]
    obtain ⟨x, hx⟩ : ∃ x, S[hand.toNat]? = some x := ⟨S[hand.toNat]'(by have := h.hd; omega), List.getElem?_eq_getElem _⟩
    have hne : ¬ x = c := by
      intro hxc
      apply e
      have hx3 := okW_elem hok hx
      have hp := h.pos
      have n0 := posI_bd p l0
      have n1 := posI_bd p l1
      have n2 := posI_bd p l2
      unfold nx at hn
      rw [hok, if_neg (by decide), if_neg (by have := h.hd; omega), show at_ S hand = x from at_of hx, hxc] at hn
      have hhas : hasW (decide (((l0.length : Int) : Int) > 0)) (decide (((l1.length : Int) : Int) > 0)) (decide (((l2.length : Int) : Int) > 0)) c = true := by
        unfold hasW
        unfold posC at hp
        split
        · rename_i e0; rw [if_pos e0] at hp; exact decide_eq_true (by omega)
        · rename_i e0
          rw [if_neg e0] at hp
          split
          · rename_i e1; rw [if_pos e1] at hp; exact decide_eq_true (by omega)
          · rename_i e1; rw [if_neg e1] at hp; exact decide_eq_true (by omega)
      dsimp only at hn
      rw [show c % 3 = c by omega, hhas, if_pos rfl] at hn
      exact (Prod.mk.inj hn).1.symm
    have := dist_step hok (show inW c = true by unfold inW; simp; omega) h.hd.1 h.hd.2 hx hne
    omega
theorem Wait.pick0 {x : EN.T} (h : Wait S c p hand l0 l1 l2 g n w) (hc : 0 ≤ c ∧ c < 3) (hok : okW S = true) (hx : l0[0]? = some x) (hne : eqb PN x.1 p = false) (hn : nx S hand (decide (((l0.length : Int) : Int) > 0)) (decide (((l1.length : Int) : Int) > 0)) (decide (((l2.length : Int) : Int) > 0)) = (0, (hand + 1) % (S.length : Int), 0)) : Wait S c p ((hand + 1) % (S.length : Int)) (l0.drop 1) l1 l2 g (n + 1) w := by
  refine h.pick hc hok hn (fun e => ?_) (fun e => ?_)
  · have hp := h.pos; unfold posC at hp ⊢; rw [if_pos e.symm] at hp; rw [if_pos e.symm, if_pos e.symm]; exact pos_tail hx hne hp
  · unfold posC; rw [if_neg (Ne.symm e), if_neg (Ne.symm e)]
theorem Wait.pick1 {x : EN.T} (h : Wait S c p hand l0 l1 l2 g n w) (hc : 0 ≤ c ∧ c < 3) (hok : okW S = true) (hx : l1[0]? = some x) (hne : eqb PN x.1 p = false) (hn : nx S hand (decide (((l0.length : Int) : Int) > 0)) (decide (((l1.length : Int) : Int) > 0)) (decide (((l2.length : Int) : Int) > 0)) = (1, (hand + 1) % (S.length : Int), 0)) : Wait S c p ((hand + 1) % (S.length : Int)) l0 (l1.drop 1) l2 g (n + 1) w := by
  refine h.pick hc hok hn (fun e => ?_) (fun e => ?_)
  · have hp := h.pos; unfold posC at hp ⊢; subst e; exact pos_tail hx hne hp
  · unfold posC; rw [if_neg (Ne.symm e), if_neg (Ne.symm e)]
theorem Wait.pick2 {x : EN.T} (h : Wait S c p hand l0 l1 l2 g n w) (hc : 0 ≤ c ∧ c < 3) (hok : okW S = true) (hx : l2[0]? = some x) (hne : eqb PN x.1 p = false) (hn : nx S hand (decide (((l0.length : Int) : Int) > 0)) (decide (((l1.length : Int) : Int) > 0)) (decide (((l2.length : Int) : Int) > 0)) = (2, (hand + 1) % (S.length : Int), 0)) : Wait S c p ((hand + 1) % (S.length : Int)) l0 l1 (l2.drop 1) g (n + 1) w := by
  refine h.pick hc hok hn (fun e => ?_) (fun e => ?_)
  · have hp := h.pos; unfold posC at hp ⊢; subst e; exact pos_tail hx hne hp
  · unfold posC
    rcases (show c = 0 ∨ c = 1 by omega) with rfl | rfl <;> rfl
end
theorem prod_ok {a b : Int} (h0 : 0 ≤ a) (h1 : a ≤ 64) (h2 : 0 ≤ b) (h3 : b ≤ 64) : ∃ w, a * b = w ∧ 0 ≤ w ∧ w ≤ 4096 := by
  refine ⟨_, rfl, Int.mul_nonneg h0 h2, ?_⟩
  have := Int.mul_le_mul h1 h3 h2 (by omega)
  omega
theorem gap_bd {S : List Int} {c hand : Int} (hok : okW S = true) (hc : 0 ≤ c ∧ c < 3) (hh : 0 ≤ hand ∧ hand < (S.length : Int)) : 0 ≤ gap S c ∧ gap S c ≤ 64 := by
  have h := gap_is hok (show inW c = true by unfold inW; simp; omega) hh.1 hh.2
  have := okW_len hok
  omega
theorem rgap (b nil capd : Bool) (l : List Int) (hl : (l.length : Int) ≤ 4611686018427387904) (cl : Int) (hok : okW l = true) (hc0 : 0 ≤ cl) (hc1 : cl < 3) : PureC pg an 15 [.one (sv NI b nil capd l), .one (vi cl)] [.one (vi (gap l cl)), .one (vi 0)] := by
 refine Runs.of (fn := Try.f15) Try.func15 rfl (by kernel_rfl) [(0, .y (.one (sv NI b nil capd l))), (1, xi cl)] (by kernel_rfl) ?_
 refine rSq [] [(0, .y (.one (sv NI b nil capd l))), (1, xi cl)] []
   (cast trivial (by kernel_rfl)) (by kernel_rfl) ?_
 refine Wp.seq ?_
 rcases Bool.eq_false_or_eq_true ((okW l)) with c1 | c1
 ·
  have hkz2 := okW_len c1
  refine rSq [(1, xi 0, [])] [(0, .y (.one (sv NI b nil capd l))), (1, xi cl), (11, xb false)] []
    (cast (Jai (Jf (H := []) (g := 37) (vals := [.y (.one (sv NI b nil capd l))]) (xs0 := [.one (sv NI b nil capd l)]) (xs1 := [.one (sv NI b nil capd l)]) (res := [.one (vi 0)]) (ats := #[]) (ty := 0) (v := xi 0) [.tmp 0] (by kernel_rfl) (by kernel_rfl) (by kernel_rfl) (by have := rcheck b nil capd l (by omega); rw [c1] at this; exact this) (by kernel_rfl)) trivial) (by kernel_rfl)) (by kernel_rfl) ?_
  refine Wp.condF (by kernel_rfl) ?_
  refine Wp.skip ?_
  refine Wp.seq ?_
  refine rSq [(1, xb false, []), (4, xb false, [])] [(0, .y (.one (sv NI b nil capd l))), (1, xi cl), (17, xb false)] []
    (cast (Jai (Ja (vals := [xi cl, xi 0]) (H := []) (op := .binOp .lss 3 (.tmp 0) (.tmp 1) 3) (ty := 0) (r := xb (decide ((cl : Int) < 0))) (v := xb false) (by kernel_rfl) (congrArg (fun z => xb z) (decide_eq_false (by omega)))) (Jai (Ja (vals := [xi cl, xi 3]) (H := []) (op := .binOp .geq 3 (.tmp 0) (.tmp 1) 3) (ty := 0) (r := xb (decide ((cl : Int) ≥ 3))) (v := xb false) (by kernel_rfl) (congrArg (fun z => xb z) (decide_eq_false (by omega)))) trivial)) (by kernel_rfl)) (by kernel_rfl) ?_
  refine Wp.condF (by kernel_rfl) ?_
  refine Wp.skip ?_
  refine rSq [] [(0, .y (.one (sv NI b nil capd l))), (1, xi cl), (6, xi 0)] []
    (cast trivial (by kernel_rfl)) (by kernel_rfl) ?_
  refine Wp.seq ?_
  refine rSq [] [(0, .y (.one (sv NI b nil capd l))), (1, xi cl), (6, xi 0), (7, xi 0)] []
    (cast trivial (by kernel_rfl)) (by kernel_rfl) ?_
  refine Wp.block ?_
  refine Wp.loop (T := Int × Int) (fun (t : Int × Int) => match t with | (hand, most) => (((l.length : Int) - hand).toNat : Nat)) (fun (t : Int × Int) => match t with | (hand, most) => ([(0, .y (.one (sv NI b nil capd l))), (1, xi cl), (6, xi most), (7, xi hand)] : Env)) (fun (t : Int × Int) => match t with | (hand, most) => ([] : Go.Lg.Heap))
    (fun (t : Int × Int) => match t with | (hand, most) => (0 ≤ hand ∧ hand ≤ (l.length : Int) ∧ 0 ≤ most ∧ most ≤ (l.length : Int) ∧ most = gapF l cl hand.toNat : Prop)) (0, 0) (by kernel_rfl) (by exact ⟨by omega, by omega, by omega, by omega, rfl⟩) ?_
  rintro ⟨hand, most⟩ ⟨h1, h2, h3, h4, h5⟩
  show Wp _ _ _ _ [(0, .y (.one (sv NI b nil capd l))), (1, xi cl), (6, xi most), (7, xi hand)] [] _
  refine Wp.seq ?_
  by_cases c3 : (hand : Int) < (l.length : Int)
  ·
   refine rSq [(3, xb true, [])] [(0, .y (.one (sv NI b nil capd l))), (1, xi cl), (6, xi most), (7, xi hand), (21, xb true)] []
     (cast (Jai (Ja (vals := [xi hand, xi (l.length : Int)]) (H := []) (op := .binOp .lss 3 (.tmp 0) (.tmp 1) 3) (ty := 0) (r := xb (decide ((hand : Int) < (l.length : Int)))) (v := xb true) (by kernel_rfl) (congrArg (fun z => xb z) (decide_eq_true (by omega)))) trivial) (by kernel_rfl)) (by kernel_rfl) ?_
   refine Wp.condT (by kernel_rfl) ?_
   refine Wp.skip ?_
   refine Wp.seq ?_
   refine Wp.block ?_
   refine rSq [] [(0, .y (.one (sv NI b nil capd l))), (1, xi cl), (6, xi most), (7, xi hand), (8, xi 1)] []
     (cast trivial (by kernel_rfl)) (by kernel_rfl) ?_
   refine Wp.seq ?_
   refine Wp.block ?_
   have hd := dist_is (h := hand) c1 (show inW cl = true from by unfold inW; simp; omega) (by omega) (by omega)
   have hd1 := hd.pos
   have hd2 := hd.le
   refine Wp.loop (T := Int) (fun (t : Int) => let n := t; ((dist l cl hand - n).toNat : Nat)) (fun (t : Int) => let n := t; ([(0, .y (.one (sv NI b nil capd l))), (1, xi cl), (6, xi most), (7, xi hand), (8, xi n)] : Env)) (fun (t : Int) => let n := t; ([] : Go.Lg.Heap))
     (fun (t : Int) => let n := t; (1 ≤ n ∧ n ≤ dist l cl hand : Prop)) 1 (by kernel_rfl) (by refine ⟨?_, ?_⟩ <;> omega) ?_
   rintro n ⟨g1, g2⟩
   show Wp _ _ _ _ [(0, .y (.one (sv NI b nil capd l))), (1, xi cl), (6, xi most), (7, xi hand), (8, xi n)] [] _
   refine Wp.seq ?_
   have hmz4 := mod_is (a := (hand + n - 1)) (b := (l.length : Int)) (by omega) (by omega)
   obtain ⟨x6, hx6⟩ : ∃ x, l[(((hand + n - 1) % (l.length : Int)) : Int).toNat]? = some x := get_of (by omega)
   by_cases c8 : (x6 : Int) = cl
   ·
    refine rSq [(3, xi (hand + n), []), (4, xi (hand + n - 1), []), (7, xi ((hand + n - 1) % (l.length : Int)), []), (8, .y (.one (.rd ([vi x6] ++ (l.drop ((((hand + n - 1) % (l.length : Int)) : Int).toNat + 1)).flatMap (enc NI)))), []), (11, xb false, [])] [(0, .y (.one (sv NI b nil capd l))), (1, xi cl), (6, xi most), (7, xi hand), (8, xi n), (35, xb false)] []
      (cast (Jai (Ja (vals := [xi hand, xi n]) (H := []) (op := .binOp .add 3 (.tmp 0) (.tmp 1) 3) (ty := 0) (r := xi (IntKind.wrap .i64 (hand + n))) (v := xi (hand + n)) (by kernel_rfl) (congrArg (fun z => xi z) ((wrap64 (by omega)).trans (by omega)))) (Jai (Ja (vals := [xi (hand + n), xi 1]) (H := []) (op := .binOp .sub 3 (.tmp 0) (.tmp 1) 3) (ty := 0) (r := xi (IntKind.wrap .i64 ((hand + n) - 1))) (v := xi (hand + n - 1)) (by kernel_rfl) (congrArg (fun z => xi z) ((wrap64 (by omega)).trans (by omega)))) (Jai (Jl (H := []) (t := 3) (u := 3) (ty := 0) (a := (hand + n - 1)) (b := (l.length : Int)) (by omega) (by omega)) (Jai (Jd (H := []) (s := NI) (b := b) (nil := nil) (capd := capd) (t := 22) (el := 3) (i := ((hand + n - 1) % (l.length : Int))) Try.underlying22 (by kernel_rfl) (by kernel_rfl) (by omega) hx6) (Jai (Ja (vals := [xi x6, xi cl]) (H := []) (op := .binOp .neq 3 (.tmp 0) (.tmp 1) 3) (ty := 0) (r := xb ((x6 : Int) != cl)) (v := xb false) (by kernel_rfl) (congrArg (fun z => xb z) (bne_f (by omega)))) trivial))))) (by kernel_rfl)) (by kernel_rfl) ?_
    refine Wp.condF (by kernel_rfl) ?_
    refine Wp.exit ?_
    refine Eq.mpr (if_pos rfl) ?_
    by_cases c10 : (most : Int) < n
    ·
     refine rSq [(2, xb true, [])] [(0, .y (.one (sv NI b nil capd l))), (1, xi cl), (6, xi most), (7, xi hand), (8, xi n), (40, xb true)] []
       (cast (Jai (Ja (vals := [xi n, xi most]) (H := []) (op := .binOp .gtr 3 (.tmp 0) (.tmp 1) 3) (ty := 0) (r := xb (decide ((n : Int) > most))) (v := xb true) (by kernel_rfl) (congrArg (fun z => xb z) (decide_eq_true (by omega)))) trivial) (by kernel_rfl)) (by kernel_rfl) ?_
     refine Wp.condT (by kernel_rfl) ?_
     refine Wp.region [] [(0, .y (.one (sv NI b nil capd l))), (1, xi cl), (6, xi n), (7, xi hand)] []
       (cast trivial (by kernel_rfl)) (by kernel_rfl) ?_
     refine Wp.region [(1, xi (hand + 1), [])] [(0, .y (.one (sv NI b nil capd l))), (1, xi cl), (6, xi n), (7, xi (hand + 1))] []
       (cast (Jai (Ja (vals := [xi hand, xi 1]) (H := []) (op := .binOp .add 3 (.tmp 0) (.tmp 1) 3) (ty := 0) (r := xi (IntKind.wrap .i64 (hand + 1))) (v := xi (hand + 1)) (by kernel_rfl) (congrArg (fun z => xi z) ((wrap64 (by omega)).trans (by omega)))) trivial) (by kernel_rfl)) (by kernel_rfl) ?_
     exact ⟨((hand + 1), n), by kernel_rfl, (by have hg := gapF_step (l := l) (c := cl) (h := hand) (by omega) h5; have hn := hd.last (n := n) (by omega) (by omega) hx6 c8; refine ⟨by omega, by omega, by omega, by omega, ?_⟩; rw [hg]; first | (rw [if_pos (by omega)]; omega) | (rw [if_neg (by omega)])), (by show (_ : Nat) < _; simp only []; omega)⟩
    ·
     refine rSq [(2, xb false, [])] [(0, .y (.one (sv NI b nil capd l))), (1, xi cl), (6, xi most), (7, xi hand), (8, xi n), (40, xb false)] []
       (cast (Jai (Ja (vals := [xi n, xi most]) (H := []) (op := .binOp .gtr 3 (.tmp 0) (.tmp 1) 3) (ty := 0) (r := xb (decide ((n : Int) > most))) (v := xb false) (by kernel_rfl) (congrArg (fun z => xb z) (decide_eq_false (by omega)))) trivial) (by kernel_rfl)) (by kernel_rfl) ?_
     refine Wp.condF (by kernel_rfl) ?_
     refine Wp.skip ?_
     refine Wp.region [(1, xi (hand + 1), [])] [(0, .y (.one (sv NI b nil capd l))), (1, xi cl), (6, xi most), (7, xi (hand + 1))] []
       (cast (Jai (Ja (vals := [xi hand, xi 1]) (H := []) (op := .binOp .add 3 (.tmp 0) (.tmp 1) 3) (ty := 0) (r := xi (IntKind.wrap .i64 (hand + 1))) (v := xi (hand + 1)) (by kernel_rfl) (congrArg (fun z => xi z) ((wrap64 (by omega)).trans (by omega)))) trivial) (by kernel_rfl)) (by kernel_rfl) ?_
     exact ⟨((hand + 1), most), by kernel_rfl, (by have hg := gapF_step (l := l) (c := cl) (h := hand) (by omega) h5; have hn := hd.last (n := n) (by omega) (by omega) hx6 c8; refine ⟨by omega, by omega, by omega, by omega, ?_⟩; rw [hg]; first | (rw [if_pos (by omega)]; omega) | (rw [if_neg (by omega)])), (by show (_ : Nat) < _; simp only []; omega)⟩
   ·
    refine rSq [(3, xi (hand + n), []), (4, xi (hand + n - 1), []), (7, xi ((hand + n - 1) % (l.length : Int)), []), (8, .y (.one (.rd ([vi x6] ++ (l.drop ((((hand + n - 1) % (l.length : Int)) : Int).toNat + 1)).flatMap (enc NI)))), []), (11, xb true, [])] [(0, .y (.one (sv NI b nil capd l))), (1, xi cl), (6, xi most), (7, xi hand), (8, xi n), (35, xb true)] []
      (cast (Jai (Ja (vals := [xi hand, xi n]) (H := []) (op := .binOp .add 3 (.tmp 0) (.tmp 1) 3) (ty := 0) (r := xi (IntKind.wrap .i64 (hand + n))) (v := xi (hand + n)) (by kernel_rfl) (congrArg (fun z => xi z) ((wrap64 (by omega)).trans (by omega)))) (Jai (Ja (vals := [xi (hand + n), xi 1]) (H := []) (op := .binOp .sub 3 (.tmp 0) (.tmp 1) 3) (ty := 0) (r := xi (IntKind.wrap .i64 ((hand + n) - 1))) (v := xi (hand + n - 1)) (by kernel_rfl) (congrArg (fun z => xi z) ((wrap64 (by omega)).trans (by omega)))) (Jai (Jl (H := []) (t := 3) (u := 3) (ty := 0) (a := (hand + n - 1)) (b := (l.length : Int)) (by omega) (by omega)) (Jai (Jd (H := []) (s := NI) (b := b) (nil := nil) (capd := capd) (t := 22) (el := 3) (i := ((hand + n - 1) % (l.length : Int))) Try.underlying22 (by kernel_rfl) (by kernel_rfl) (by omega) hx6) (Jai (Ja (vals := [xi x6, xi cl]) (H := []) (op := .binOp .neq 3 (.tmp 0) (.tmp 1) 3) (ty := 0) (r := xb ((x6 : Int) != cl)) (v := xb true) (by kernel_rfl) (congrArg (fun z => xb z) (bne_t (by omega)))) trivial))))) (by kernel_rfl)) (by kernel_rfl) ?_
    refine Wp.condT (by kernel_rfl) ?_
    refine Wp.skip ?_
    refine Wp.block ?_
    refine Wp.region [(1, xi (n + 1), [])] [(0, .y (.one (sv NI b nil capd l))), (1, xi cl), (6, xi most), (7, xi hand), (8, xi (n + 1))] []
      (cast (Jai (Ja (vals := [xi n, xi 1]) (H := []) (op := .binOp .add 3 (.tmp 0) (.tmp 1) 3) (ty := 0) (r := xi (IntKind.wrap .i64 (n + 1))) (v := xi (n + 1)) (by kernel_rfl) (congrArg (fun z => xi z) ((wrap64 (by omega)).trans (by omega)))) trivial) (by kernel_rfl)) (by kernel_rfl) ?_
    exact ⟨(n + 1), by kernel_rfl, (by have hn := hd.next (n := n) (by omega) hx6 c8; exact ⟨by omega, by omega⟩), (by have hn := hd.next (n := n) (by omega) hx6 c8; show (_ : Nat) < _; simp only []; omega)⟩
  ·
   refine rSq [(3, xb false, [])] [(0, .y (.one (sv NI b nil capd l))), (1, xi cl), (6, xi most), (7, xi hand), (21, xb false)] []
     (cast (Jai (Ja (vals := [xi hand, xi (l.length : Int)]) (H := []) (op := .binOp .lss 3 (.tmp 0) (.tmp 1) 3) (ty := 0) (r := xb (decide ((hand : Int) < (l.length : Int)))) (v := xb false) (by kernel_rfl) (congrArg (fun z => xb z) (decide_eq_false (by omega)))) trivial) (by kernel_rfl)) (by kernel_rfl) ?_
   refine Wp.condF (by kernel_rfl) ?_
   refine Wp.exit ?_
   refine Eq.mpr (if_pos rfl) ?_
   refine rSq [] [(4, xi most), (5, xi 0)] []
     (cast trivial (by kernel_rfl)) (by kernel_rfl) ?_
   refine Wp.ret ?_
   exact ⟨Or.inr rfl, [.one (vi most), .one (vi 0)], by kernel_rfl, (by rw [show most = gap l cl from by rw [h5, show hand.toNat = l.length by omega]; rfl]; rfl)⟩
 ·
  refine rSq [(1, xi 20, [])] [(0, .y (.one (sv NI b nil capd l))), (1, xi cl), (11, xb true)] []
    (cast (Jai (Jf (H := []) (g := 37) (vals := [.y (.one (sv NI b nil capd l))]) (xs0 := [.one (sv NI b nil capd l)]) (xs1 := [.one (sv NI b nil capd l)]) (res := [.one (vi 20)]) (ats := #[]) (ty := 0) (v := xi 20) [.tmp 0] (by kernel_rfl) (by kernel_rfl) (by kernel_rfl) (by have := rcheck b nil capd l (by omega); rw [c1] at this; exact this) (by kernel_rfl)) trivial) (by kernel_rfl)) (by kernel_rfl) ?_
  refine Wp.condT (by kernel_rfl) ?_
  refine rSq [] [(4, xi 0), (5, xi 20)] []
    (cast trivial (by kernel_rfl)) (by kernel_rfl) ?_
  refine Wp.ret ?_
  exact ⟨Or.inr rfl, [.one (vi 0), .one (vi 20)], by kernel_rfl, (by rw [hok] at c1; cases c1)⟩
end Go.Proofs.Ytjdnhbnpdbpgbaa
