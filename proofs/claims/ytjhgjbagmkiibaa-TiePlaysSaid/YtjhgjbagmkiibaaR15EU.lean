/- Lemmas. -/
import Derived.Test.YtjhgjbagmkiibaaR15EG
section
namespace Go.Proofs.Ytjhgjbagmkiibaa.E
open Go.Lg Go.Sort
set_option maxRecDepth 100000
set_option linter.unusedVariables false
set_option linter.unusedSimpArgs false
theorem eq_of_sorted {α : Type} {lt : α → α → Bool} (hi : ∀ x, lt x x = false) (ht : ∀ x y z, lt x y = true → lt y z = true → lt x z = true) {l m : List α} (hl : l.Pairwise fun x y => lt x y = true) (hm : m.Pairwise fun x y => lt x y = true) (h : ∀ x, x ∈ l ↔ x ∈ m) : l = m := by
 have hne : ∀ x y, lt x y = true → x ≠ y := by
  rintro x y h rfl
  rw [hi] at h; cases h
 have n1 : l.Nodup := hl.imp fun h => hne _ _ h
 have n2 : m.Nodup := hm.imp fun h => hne _ _ h
 refine sorted_one (r := fun x y => lt x y = true) (fun x y h1 h2 => ?_) ((List.perm_ext_iff_of_nodup n1 n2).2 h) hl hm
 have := ht _ _ _ h1 h2
 rw [hi] at this; cases this
theorem ahead_irrefl (x : TT5.T) : aheadB x x = false := by
 unfold aheadB
 cases h : isZ x with
 | true => simp [swoD.irrefl]
 | false => simp [ILt]
theorem isZ_iff {x : TT5.T} : isZ x = true ↔ x.1 = (0 : Int) := decide_eq_true_iff
theorem isZ_no {x : TT5.T} : isZ x = false ↔ x.1 ≠ (0 : Int) := by
 rw [← Bool.not_eq_true, isZ_iff]
theorem ahead_zz {x y : TT5.T} (hx : isZ x = true) (hy : isZ y = true) : aheadB x y = true ↔ ltD x.2.1 y.2.1 = true ∨ (x.2.1 = y.2.1 ∧ ltD x.2.2.1 y.2.2.1 = true) := by
 unfold aheadB
 rw [if_pos hx, if_pos hy, Bool.or_eq_true, kA, eqPD]
theorem ahead_zr {x y : TT5.T} (hx : isZ x = true) (hy : isZ y = false) : aheadB x y = true := by
 unfold aheadB
 rw [if_pos hx, hy]; rfl
theorem ahead_rz {x y : TT5.T} (hx : isZ x = false) (hy : isZ y = true) : aheadB x y = false := by
 unfold aheadB
 rw [hx, hy]; rfl
theorem ahead_rr {x y : TT5.T} (hx : isZ x = false) (hy : isZ y = false) : aheadB x y = true ↔ ILt x.1 y.1 := by
 unfold aheadB
 rw [hx, hy]
 simp only [Bool.false_eq_true, if_false]
 exact decide_eq_true_iff
theorem ahead_trans (x y z : TT5.T) (h1 : aheadB x y = true) (h2 : aheadB y z = true) : aheadB x z = true := by
 cases hx : isZ x with
 | true =>
  cases hz : isZ z with
  | false => exact ahead_zr hx hz
  | true =>
   cases hy : isZ y with
   | false => rw [ahead_rz hy hz] at h2; cases h2
   | true =>
    rw [ahead_zz hx hy] at h1
    rw [ahead_zz hy hz] at h2
    rw [ahead_zz hx hz]
    rcases h1 with h1 | ⟨e1, h1⟩
    ·rcases h2 with h2 | ⟨e2, h2⟩
     ·exact .inl (swoD.trans _ _ _ h1 h2)
     ·rw [← e2]; exact .inl h1
    ·rcases h2 with h2 | ⟨e2, h2⟩
     ·rw [e1]; exact .inl h2
     ·exact .inr ⟨e1.trans e2, swoD.trans _ _ _ h1 h2⟩
 | false =>
  cases hy : isZ y with
  | true => rw [ahead_rz hx hy] at h1; cases h1
  | false =>
   cases hz : isZ z with
   | true => rw [ahead_rz hy hz] at h2; cases h2
   | false =>
    rw [ahead_rr hx hy] at h1
    rw [ahead_rr hy hz] at h2
    rw [ahead_rr hx hz]
    exact Int.lt_trans h1 h2
abbrev Srt (l : List TT5.T) : Prop := l.Pairwise fun x y => aheadB x y = true
theorem srt_eq {l m : List TT5.T} (hl : Srt l) (hm : Srt m) (h : ∀ x, x ∈ l ↔ x ∈ m) : l = m := eq_of_sorted ahead_irrefl ahead_trans hl hm h
theorem tieL_mem {L : List PR.T} {x : TT5.T} : x ∈ L.map tieL ↔ isZ x = true ∧ x.2 ∈ L := by
 rw [List.mem_map]
 constructor
 ·rintro ⟨p, hp, rfl⟩
  exact ⟨isZ_iff.2 rfl, hp⟩
 ·rintro ⟨h1, h2⟩
  refine ⟨x.2, h2, ?_⟩
  have := isZ_iff.1 h1
  obtain ⟨r, p⟩ := x
  cases this
  rfl
theorem told_all {M : List TI.T} (h : Uniq M) {x : TT5.T} : x ∈ (isort ltI (refOf q40 M)).map (toldOf M) ↔ x ∈ M := by
 rw [told_mem h]
 exact ⟨fun h => h.1, fun h => ⟨h, rfl⟩⟩
theorem allOf_mem {L : List PR.T} {M : List TI.T} (h : Uniq M) {x : TT5.T} : x ∈ allOf L M ↔ (isZ x = true ∧ x.2 ∈ L) ∨ x ∈ M := by
 unfold allOf
 rw [List.mem_append, told_all h, (isort_perm ltK _).mem_iff, tieL_mem]
theorem ltK_ahead {x y : TT5.T} (hx : isZ x = true) (hy : isZ y = true) (h : ltK x y = true) : aheadB x y = true := by
 rw [ahead_zz hx hy]
 have h : ltT ((x.2.1.1, x.2.1.2.1), (x.2.2.1.1, x.2.2.1.2.1)) ((y.2.1.1, y.2.1.2.1), (y.2.2.1.1, y.2.2.1.2.1)) = true := h
 unfold ltT at h
 simp only [decide_eq_true_eq] at h
 rcases h with h | ⟨e, h⟩
 ·exact .inl h
 ·refine .inr ⟨?_, h⟩
  obtain ⟨e1, e2⟩ := Prod.mk.inj e
  exact Prod.ext e1 (Prod.ext e2 rfl)
theorem ltK_or {x y : TT5.T} (hx : isZ x = true) (hy : isZ y = true) (h : ltK y x = false) (hne : x ≠ y) : ltK x y = true := by
 cases h2 : ltK x y with
 | true => rfl
 | false =>
  refine absurd ?_ hne
  have e := antiT _ _ h2 h
  obtain ⟨e1, e2⟩ := Prod.mk.inj e
  obtain ⟨e3, e4⟩ := Prod.mk.inj e1
  obtain ⟨e5, e6⟩ := Prod.mk.inj e2
  have z1 := isZ_iff.1 hx
  have z2 := isZ_iff.1 hy
  exact Prod.ext (z1.trans z2.symm) (Prod.ext (Prod.ext e3 (Prod.ext e4 rfl)) (Prod.ext (Prod.ext e5 (Prod.ext e6 rfl)) rfl))
theorem allOf_srt {L : List PR.T} {M : List TI.T} (hL : L.Nodup) (hU : Uniq M) (hM : ∀ y ∈ M, isZ (y : TT5.T) = false) : Srt (allOf L M) := by
 unfold allOf Srt
 rw [List.pairwise_append]
 have hz : ∀ x ∈ isort ltK (L.map tieL), isZ x = true := fun x hx => (tieL_mem.1 ((isort_perm ltK _).subset hx)).1
 have hr : ∀ x ∈ (isort ltI (refOf q40 M)).map (toldOf M), isZ x = false := fun x hx => hM x ((told_all hU).1 hx)
 refine ⟨?_, ?_, fun x hx y hy => ahead_zr (hz x hx) (hr y hy)⟩
 ·have h1 := isort_sorted swoK (L.map tieL)
  have h2 : (isort ltK (L.map tieL)).Nodup := by
   rw [(isort_perm ltK _).nodup_iff, List.nodup_iff_pairwise_ne, List.pairwise_map]
   exact hL.imp fun {a b} h e => h (tieL_inj a b e)
  refine (List.Pairwise.and_mem.1 (h1.and h2)).imp fun {x y} h => ?_
  obtain ⟨hx, hy, h3, h4⟩ := h
  exact ltK_ahead (hz x hx) (hz y hy) (ltK_or (hz x hx) (hz y hy) h3 h4)
 ·refine (List.Pairwise.and_mem.1 (told_sorted (q := q40) hU)).imp fun {x y} h => ?_
  obtain ⟨hx, hy, h3⟩ := h
  exact (ahead_rr (hr x hx) (hr y hy)).2 h3
theorem TieInv.nz {L : List PR.T} {M : List TI.T} (h : TieInv L M) : ∀ y ∈ M, isZ (y : TT5.T) = false := fun y hy => isZ_no.2 (by have := (h.mn y hy).1.1; intro e; rw [show y.1 = (0 : Int) from e] at this; exact absurd this (by decide))
theorem TieInv.srt {L : List PR.T} {M : List TI.T} (h : TieInv L M) : Srt (allOf L M) := allOf_srt h.nd h.uq h.nz
theorem TieInv.len {L : List PR.T} {M : List TI.T} (h : TieInv L M) : ((allOf L M).length : Int) ≤ 1024 := by
 rw [allLen]; exact h.sz
theorem lnkOf_nd {L : List PR.T} {a : PD.T} (ho : ∀ p ∈ L, ltD p.1 p.2.1 = true) (hL : L.Nodup) : (lnkOf L a).Nodup := by
 induction L with
 | nil => exact List.nodup_nil
 | cons p L ih =>
  obtain ⟨h1, h2⟩ := List.nodup_cons.1 hL
  have ih := ih (fun q hq => ho q (List.mem_cons_of_mem _ hq)) h2
  have hm : ∀ b, b ∈ lnkOf L a → a ≠ b ∧ pairOf a b ∈ L := fun b hb => (mem_lnkOf (fun q hq => ho q (List.mem_cons_of_mem _ hq))).1 hb
  have hp := ho p (by simp)
  unfold lnkOf
  rw [List.filterMap_cons]
  split
  ·exact ih
  ·rename_i b hb
   refine List.nodup_cons.2 ⟨fun hin => h1 ?_, ih⟩
   have := (hm b hin).2
   split at hb
   ·rename_i e; cases hb
    rwa [← pair_is hp (.inl ⟨eqPD.1 e, rfl⟩)] at this
   ·split at hb
    ·rename_i e; cases hb
     rwa [← pair_is hp (.inr ⟨eqPD.1 e, rfl⟩)] at this
    ·cases hb
theorem links_srt {L : List PR.T} {M : List TI.T} (h : TieInv L M) (a : PD.T) : (isort ltD (lnkOf L a)).Pairwise fun x y => ltD x y = true := by
 have h1 := isort_sorted swoD (lnkOf L a)
 have h2 : (isort ltD (lnkOf L a)).Nodup := by
  rw [(isort_perm ltD _).nodup_iff]
  exact lnkOf_nd h.ord h.nd
 refine (h1.and h2).imp fun {x y} hxy => ?_
 rcases lt_or hxy.2 with e | e
 ·exact e
 ·rw [hxy.1] at e; cases e
theorem inL {L : List PR.T} {M : List TI.T} (h : TieInv L M) {x : TT5.T} (hx : x ∈ allOf L M) (hz : isZ x = true) : x.2 ∈ L := by
 rcases (allOf_mem h.uq).1 hx with h1 | h1
 ·exact h1.2
 ·rw [h.nz x h1] at hz; cases hz
theorem inM {L : List PR.T} {M : List TI.T} (h : TieInv L M) {x : TT5.T} (hx : x ∈ allOf L M) (hz : isZ x = false) : x ∈ M := by
 rcases (allOf_mem h.uq).1 hx with h1 | h1
 ·rw [h1.1] at hz; cases hz
 ·exact h1
theorem dlks_is {L : List PR.T} {M : List TI.T} (h : TieInv L M) (a : PD.T) : dlks (allOf L M) a = isort ltD (lnkOf L a) := by
 refine eq_of_sorted swoD.irrefl swoD.trans ?_ (links_srt h a) ?_
 ·unfold dlks
  rw [List.pairwise_append]
  refine ⟨?_, ?_, ?_⟩
  ·unfold dlk1
   rw [List.pairwise_map]
   refine (List.Pairwise.and_mem.1 (h.srt.filter _)).imp fun {x y} hxy => ?_
   obtain ⟨hx, hy, h3⟩ := hxy
   have hx := (List.mem_filter.1 hx).2
   have hy := (List.mem_filter.1 hy).2
   simp only [kA] at hx hy
   rcases (ahead_zz hx.1 hy.1).1 h3 with e | ⟨_, e⟩
   ·exact e
   ·rw [eqPD.1 hx.2, eqPD.1 hy.2, swoD.irrefl] at e; cases e
  ·unfold dlk2
   rw [List.pairwise_map]
   refine (List.Pairwise.and_mem.1 (h.srt.filter _)).imp fun {x y} hxy => ?_
   obtain ⟨hx, hy, h3⟩ := hxy
   have hx := (List.mem_filter.1 hx).2
   have hy := (List.mem_filter.1 hy).2
   simp only [kA] at hx hy
   rcases (ahead_zz hx.1 hy.1).1 h3 with e | ⟨_, e⟩
   ·rw [eqPD.1 hx.2, eqPD.1 hy.2, swoD.irrefl] at e; cases e
   ·exact e
  ·intro b hb c hc
   obtain ⟨x, hx, rfl⟩ := List.mem_map.1 hb
   obtain ⟨y, hy, rfl⟩ := List.mem_map.1 hc
   obtain ⟨hx1, hx⟩ := List.mem_filter.1 hx
   obtain ⟨hy1, hy⟩ := List.mem_filter.1 hy
   simp only [kA] at hx hy
   have o1 := h.ord _ (inL h hx1 hx.1)
   have o2 := h.ord _ (inL h hy1 hy.1)
   have e1 : x.2.2.1 = a := eqPD.1 hx.2
   have e2 : y.2.1 = a := eqPD.1 hy.2
   have o1 : ltD x.2.1 x.2.2.1 = true := o1
   have o2 : ltD y.2.1 y.2.2.1 = true := o2
   rw [e1] at o1
   rw [e2] at o2
   exact swoD.trans _ _ _ o1 o2
 ·intro b
  rw [mem_links h.ord]
  unfold dlks
  rw [List.mem_append]
  constructor
  ·rintro (hb | hb)
   ·obtain ⟨x, hx, rfl⟩ := List.mem_map.1 hb
    obtain ⟨hx1, hx⟩ := List.mem_filter.1 hx
    simp only [kA] at hx
    have hp := inL h hx1 hx.1
    have o1 := h.ord _ hp
    have e1 : x.2.2.1 = a := eqPD.1 hx.2
    rw [← pair_is (p := x.2) o1 (.inr ⟨e1, rfl⟩)]
    refine ⟨?_, hp⟩
    rw [← e1]
    exact (ne_of_lt o1).symm
   ·obtain ⟨x, hx, rfl⟩ := List.mem_map.1 hb
    obtain ⟨hx1, hx⟩ := List.mem_filter.1 hx
    simp only [kA] at hx
    have hp := inL h hx1 hx.1
    have o1 := h.ord _ hp
    have e1 : x.2.1 = a := eqPD.1 hx.2
    rw [← pair_is (p := x.2) o1 (.inl ⟨e1, rfl⟩)]
    refine ⟨?_, hp⟩
    rw [← e1]
    exact ne_of_lt o1
  ·rintro ⟨hne, hp⟩
   have hin : tieL (pairOf a b) ∈ allOf L M := (allOf_mem h.uq).2 (.inl ⟨isZ_iff.2 rfl, hp⟩)
   rcases pair_has a b with ⟨e1, e2⟩ | ⟨e1, e2⟩
   ·refine .inr (List.mem_map.2 ⟨tieL (pairOf a b), List.mem_filter.2 ⟨hin, ?_⟩, e2⟩)
    rw [kA]
    exact ⟨isZ_iff.2 rfl, eqPD.2 e1⟩
   ·refine .inl (List.mem_map.2 ⟨tieL (pairOf a b), List.mem_filter.2 ⟨hin, ?_⟩, e2⟩)
    rw [kA]
    exact ⟨isZ_iff.2 rfl, eqPD.2 e1⟩
theorem ltR_irrefl (x : TT5.T) : (fun x y : TT5.T => decide (ILt x.1 y.1)) x x = false := decide_eq_false (Int.lt_irrefl _)
theorem dwat_is {L : List PR.T} {M : List TI.T} (h : TieInv L M) (a : PD.T) : dwat (allOf L M) a = watOf M a := by
 refine eq_of_sorted (lt := fun x y => decide (ILt x.1 y.1)) ltR_irrefl (fun x y z h1 h2 => decide_eq_true (Int.lt_trans (of_decide_eq_true h1) (of_decide_eq_true h2))) ?_ ((told_sorted (q := q37 a) h.uq).imp fun h => decide_eq_true h) ?_
 ·unfold dwat
  refine (List.Pairwise.and_mem.1 (h.srt.filter _)).imp fun {x y} hxy => ?_
  obtain ⟨hx, hy, h3⟩ := hxy
  have nz : ∀ x ∈ (allOf L M).filter (fun x => isR x && eqb PD x.2.2.1 a), isZ x = false := by
   intro x hx
   have := (List.mem_filter.1 hx).2
   simp only [kA] at this
   have : ILt 0 x.1 := of_decide_eq_true this.1
   exact isZ_no.2 fun e => by rw [show x.1 = (0 : Int) from e] at this; exact absurd this (by decide)
  exact decide_eq_true ((ahead_rr (nz x hx) (nz y hy)).1 h3)
 ·intro x
  unfold dwat watOf
  rw [told_mem h.uq, List.mem_filter, kA]
  unfold q37
  constructor
  ·rintro ⟨h1, h2, h3⟩
   have h2 : ILt 0 x.1 := of_decide_eq_true h2
   exact ⟨inM h h1 (isZ_no.2 fun e => by rw [show x.1 = (0 : Int) from e] at h2; exact absurd h2 (by decide)), h3⟩
  ·rintro ⟨h1, h2⟩
   exact ⟨(allOf_mem h.uq).2 (.inr h1), decide_eq_true (show ILt 0 x.1 from by have := (h.mn x h1).1.1; exact this), h2⟩
def ldL (l : List TT5.T) : List PR.T := l.foldl (fun L x => if isZ x = true then lins L x.2 else L) []
def ldM (l : List TT5.T) : List TI.T := l.foldl (fun M x => if isZ x = true then M else mins M x.1 x.2) []
def ldE (l : List TT5.T) : Int := if l.all okE = true then (if sameB TT5 (allOf (ldL l) (ldM l)) l = true then (if (1024 : Int) < (l.length : Int) then 150 else 0) else 1) else 1
end Go.Proofs.Ytjhgjbagmkiibaa.E
end
section
namespace Go.Proofs.Ytjhgjbagmkiibaa.E
open Go.Lg
set_option linter.unusedVariables false
set_option maxRecDepth 100000
set_option maxHeartbeats 8000000
set_option linter.unusedSimpArgs false
end Go.Proofs.Ytjhgjbagmkiibaa.E
end
