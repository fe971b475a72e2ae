/-
  Ties: lists that stand in order; what is loaded of a list; what the document tells of the list of all.
-/
import Derived.Test.YtjhgjbagmkiibaaR15ET
namespace Go.Proofs.Ytjhgjbagmkiibaa.E
open Go.Lg Go.Sort
set_option maxRecDepth 100000
set_option linter.unusedVariables false
set_option linter.unusedSimpArgs false
/-! ### Two lists in order that have the same are one -/
theorem eq_of_sorted {α : Type} {lt : α → α → Bool} (hi : ∀ x, lt x x = false) (ht : ∀ x y z, lt x y = true → lt y z = true → lt x z = true) {l m : List α} (hl : l.Pairwise fun x y => lt x y = true) (hm : m.Pairwise fun x y => lt x y = true) (h : ∀ x, x ∈ l ↔ x ∈ m) : l = m := by
  have hne : ∀ x y, lt x y = true → x ≠ y := by
    rintro x y h rfl
    rw [hi] at h; cases h
  have n1 : l.Nodup := hl.imp fun h => hne _ _ h
  have n2 : m.Nodup := hm.imp fun h => hne _ _ h
  refine sorted_one (r := fun x y => lt x y = true) (fun x y h1 h2 => ?_) ((List.perm_ext_iff_of_nodup n1 n2).2 h) hl hm
  have := ht _ _ _ h1 h2
  rw [hi] at this; cases this
theorem pw_adj {α : Type} {lt : α → α → Bool} (ht : ∀ x y z, lt x y = true → lt y z = true → lt x z = true) {l : List α} (h : ∀ j x y, l[j]? = some x → l[j + 1]? = some y → lt x y = true) : l.Pairwise fun x y => lt x y = true := by
  rw [List.pairwise_iff_getElem]
  intro i j hi hj hij
  induction j with
  | zero => omega
  | succ j ih =>
    have h1 := h j _ _ (List.getElem?_eq_getElem (show j < l.length by omega)) (List.getElem?_eq_getElem hj)
    by_cases e : i = j
    · subst e; exact h1
    · exact ht _ _ _ (ih (by omega) (by omega)) h1
/-! ### ahead -/
theorem ahead_irrefl (x : TT5.T) : aheadB x x = false := by
  unfold aheadB
  cases h : isZ x with
  | true => simp [swoD.irrefl]
  | false => simp [ILt]
theorem isZ_iff {x : TT5.T} : isZ x = true ↔ x.1 = (0 : Int) := decide_eq_true_iff
theorem isZ_no {x : TT5.T} : isZ x = false ↔ x.1 ≠ (0 : Int) := by
  rw [← Bool.not_eq_true, isZ_iff]
theorem ahead_zz {x y : TT5.T} (hx : isZ x = true) (hy : isZ y = true) : aheadB x y = true ↔ ltD x.2.1 y.2.1 = true ∨ (x.2.1 = y.2.1 ∧ ltD x.2.2.1 y.2.2.1 = true) := by
  unfold aheadB
  rw [if_pos hx, if_pos hy, Bool.or_eq_true, Bool.and_eq_true, eqPD]
theorem ahead_zr {x y : TT5.T} (hx : isZ x = true) (hy : isZ y = false) : aheadB x y = true := by
  unfold aheadB
  rw [if_pos hx, hy]; rfl
theorem ahead_rz {x y : TT5.T} (hx : isZ x = false) (hy : isZ y = true) : aheadB x y = false := by
  unfold aheadB
  rw [hx, hy]; rfl
theorem ahead_rr {x y : TT5.T} (hx : isZ x = false) (hy : isZ y = false) : aheadB x y = true ↔ ILt x.1 y.1 := by
  unfold aheadB
  rw [hx, hy]
  simp only [Bool.false_eq_true, if_false]
  exact decide_eq_true_iff
theorem ahead_trans (x y z : TT5.T) (h1 : aheadB x y = true) (h2 : aheadB y z = true) : aheadB x z = true := by
  cases hx : isZ x with
  | true =>
    cases hz : isZ z with
    | false => exact ahead_zr hx hz
    | true =>
      cases hy : isZ y with
      | false => rw [ahead_rz hy hz] at h2; cases h2
      | true =>
        rw [ahead_zz hx hy] at h1
        rw [ahead_zz hy hz] at h2
        rw [ahead_zz hx hz]
        rcases h1 with h1 | ⟨e1, h1⟩
        · rcases h2 with h2 | ⟨e2, h2⟩
          · exact .inl (swoD.trans _ _ _ h1 h2)
          · rw [← e2]; exact .inl h1
        · rcases h2 with h2 | ⟨e2, h2⟩
          · rw [e1]; exact .inl h2
          · exact .inr ⟨e1.trans e2, swoD.trans _ _ _ h1 h2⟩
  | false =>
    cases hy : isZ y with
    | true => rw [ahead_rz hx hy] at h1; cases h1
    | false =>
      cases hz : isZ z with
      | true => rw [ahead_rz hy hz] at h2; cases h2
      | false =>
        rw [ahead_rr hx hy] at h1
        rw [ahead_rr hy hz] at h2
        rw [ahead_rr hx hz]
        exact Int.lt_trans h1 h2
abbrev Srt (l : List TT5.T) : Prop := l.Pairwise fun x y => aheadB x y = true
theorem srt_eq {l m : List TT5.T} (hl : Srt l) (hm : Srt m) (h : ∀ x, x ∈ l ↔ x ∈ m) : l = m := eq_of_sorted ahead_irrefl ahead_trans hl hm h
/-! ### The list of all -/
theorem tieL_mem {L : List PR.T} {x : TT5.T} : x ∈ L.map tieL ↔ isZ x = true ∧ x.2 ∈ L := by
  rw [List.mem_map]
  constructor
  · rintro ⟨p, hp, rfl⟩
    exact ⟨isZ_iff.2 rfl, hp⟩
  · rintro ⟨h1, h2⟩
    refine ⟨x.2, h2, ?_⟩
    have := isZ_iff.1 h1
    obtain ⟨r, p⟩ := x
    cases this
    rfl
theorem told_all {M : List TI.T} (h : Uniq M) {x : TT5.T} : x ∈ (isort ltI (refOf q40 M)).map (toldOf M) ↔ x ∈ M := by
  rw [told_mem h]
  exact ⟨fun h => h.1, fun h => ⟨h, rfl⟩⟩
theorem allOf_mem {L : List PR.T} {M : List TI.T} (h : Uniq M) {x : TT5.T} : x ∈ allOf L M ↔ (isZ x = true ∧ x.2 ∈ L) ∨ x ∈ M := by
  unfold allOf
  rw [List.mem_append, told_all h, (isort_perm ltK _).mem_iff, tieL_mem]
theorem ltK_ahead {x y : TT5.T} (hx : isZ x = true) (hy : isZ y = true) (h : ltK x y = true) : aheadB x y = true := by
  rw [ahead_zz hx hy]
  have h : ltT ((x.2.1.1, x.2.1.2.1), (x.2.2.1.1, x.2.2.1.2.1)) ((y.2.1.1, y.2.1.2.1), (y.2.2.1.1, y.2.2.1.2.1)) = true := h
  unfold ltT at h
  simp only [decide_eq_true_eq] at h
  rcases h with h | ⟨e, h⟩
  · exact .inl h
  · refine .inr ⟨?_, h⟩
    obtain ⟨e1, e2⟩ := Prod.mk.inj e
    exact Prod.ext e1 (Prod.ext e2 rfl)
theorem ltK_or {x y : TT5.T} (hx : isZ x = true) (hy : isZ y = true) (h : ltK y x = false) (hne : x ≠ y) : ltK x y = true := by
  cases h2 : ltK x y with
  | true => rfl
  | false =>
    refine absurd ?_ hne
    have e := antiT _ _ h2 h
    obtain ⟨e1, e2⟩ := Prod.mk.inj e
    obtain ⟨e3, e4⟩ := Prod.mk.inj e1
    obtain ⟨e5, e6⟩ := Prod.mk.inj e2
    have z1 := isZ_iff.1 hx
    have z2 := isZ_iff.1 hy
    exact Prod.ext (z1.trans z2.symm) (Prod.ext (Prod.ext e3 (Prod.ext e4 rfl)) (Prod.ext (Prod.ext e5 (Prod.ext e6 rfl)) rfl))
theorem allOf_srt {L : List PR.T} {M : List TI.T} (hL : L.Nodup) (hU : Uniq M) (hM : ∀ y ∈ M, isZ (y : TT5.T) = false) : Srt (allOf L M) := by
  unfold allOf Srt
  rw [List.pairwise_append]
  have hz : ∀ x ∈ isort ltK (L.map tieL), isZ x = true := fun x hx => (tieL_mem.1 ((isort_perm ltK _).subset hx)).1
  have hr : ∀ x ∈ (isort ltI (refOf q40 M)).map (toldOf M), isZ x = false := fun x hx => hM x ((told_all hU).1 hx)
  refine ⟨?_, ?_, fun x hx y hy => ahead_zr (hz x hx) (hr y hy)⟩
  · have h1 := isort_sorted swoK (L.map tieL)
    have h2 : (isort ltK (L.map tieL)).Nodup := by
      rw [(isort_perm ltK _).nodup_iff, List.nodup_iff_pairwise_ne, List.pairwise_map]
      exact hL.imp fun {a b} h e => h (tieL_inj a b e)
    refine (List.Pairwise.and_mem.1 (h1.and h2)).imp fun {x y} h => ?_
    obtain ⟨hx, hy, h3, h4⟩ := h
    exact ltK_ahead (hz x hx) (hz y hy) (ltK_or (hz x hx) (hz y hy) h3 h4)
  · refine (List.Pairwise.and_mem.1 (told_sorted (q := q40) hU)).imp fun {x y} h => ?_
    obtain ⟨hx, hy, h3⟩ := h
    exact (ahead_rr (hr x hx) (hr y hy)).2 h3
theorem TieInv.nz {L : List PR.T} {M : List TI.T} (h : TieInv L M) : ∀ y ∈ M, isZ (y : TT5.T) = false := fun y hy => isZ_no.2 (by have := (h.mn y hy).1.1; intro e; rw [show y.1 = (0 : Int) from e] at this; exact absurd this (by decide))
theorem TieInv.srt {L : List PR.T} {M : List TI.T} (h : TieInv L M) : Srt (allOf L M) := allOf_srt h.nd h.uq h.nz
theorem TieInv.len {L : List PR.T} {M : List TI.T} (h : TieInv L M) : ((allOf L M).length : Int) ≤ 1024 := by
  rw [allLen]; exact h.sz
/-! ### What the document tells -/
theorem lnkOf_nd {L : List PR.T} {a : PD.T} (ho : ∀ p ∈ L, ltD p.1 p.2.1 = true) (hL : L.Nodup) : (lnkOf L a).Nodup := by
  induction L with
  | nil => exact List.nodup_nil
  | cons p L ih =>
    obtain ⟨h1, h2⟩ := List.nodup_cons.1 hL
    have ih := ih (fun q hq => ho q (List.mem_cons_of_mem _ hq)) h2
    have hm : ∀ b, b ∈ lnkOf L a → a ≠ b ∧ pairOf a b ∈ L := fun b hb => (mem_lnkOf (fun q hq => ho q (List.mem_cons_of_mem _ hq))).1 hb
    have hp := ho p (by simp)
    unfold lnkOf
    rw [List.filterMap_cons]
    split
    · exact ih
    · rename_i b hb
      refine List.nodup_cons.2 ⟨fun hin => h1 ?_, ih⟩
      have := (hm b hin).2
      split at hb
      · rename_i e; cases hb
        rwa [← pair_is hp (.inl ⟨eqPD.1 e, rfl⟩)] at this
      · split at hb
        · rename_i e; cases hb
          rwa [← pair_is hp (.inr ⟨eqPD.1 e, rfl⟩)] at this
        · cases hb
theorem links_srt {L : List PR.T} {M : List TI.T} (h : TieInv L M) (a : PD.T) : (isort ltD (lnkOf L a)).Pairwise fun x y => ltD x y = true := by
  have h1 := isort_sorted swoD (lnkOf L a)
  have h2 : (isort ltD (lnkOf L a)).Nodup := by
    rw [(isort_perm ltD _).nodup_iff]
    exact lnkOf_nd h.ord h.nd
  refine (h1.and h2).imp fun {x y} hxy => ?_
  rcases lt_or hxy.2 with e | e
  · exact e
  · rw [hxy.1] at e; cases e
theorem inL {L : List PR.T} {M : List TI.T} (h : TieInv L M) {x : TT5.T} (hx : x ∈ allOf L M) (hz : isZ x = true) : x.2 ∈ L := by
  rcases (allOf_mem h.uq).1 hx with h1 | h1
  · exact h1.2
  · rw [h.nz x h1] at hz; cases hz
theorem inM {L : List PR.T} {M : List TI.T} (h : TieInv L M) {x : TT5.T} (hx : x ∈ allOf L M) (hz : isZ x = false) : x ∈ M := by
  rcases (allOf_mem h.uq).1 hx with h1 | h1
  · rw [h1.1] at hz; cases hz
  · exact h1
theorem dlks_is {L : List PR.T} {M : List TI.T} (h : TieInv L M) (a : PD.T) : dlks (allOf L M) a = isort ltD (lnkOf L a) := by
  refine eq_of_sorted swoD.irrefl swoD.trans ?_ (links_srt h a) ?_
  · unfold dlks
    rw [List.pairwise_append]
    refine ⟨?_, ?_, ?_⟩
    · unfold dlk1
      rw [List.pairwise_map]
      refine (List.Pairwise.and_mem.1 (h.srt.filter _)).imp fun {x y} hxy => ?_
      obtain ⟨hx, hy, h3⟩ := hxy
      have hx := (List.mem_filter.1 hx).2
      have hy := (List.mem_filter.1 hy).2
      simp only [Bool.and_eq_true] at hx hy
      rcases (ahead_zz hx.1 hy.1).1 h3 with e | ⟨_, e⟩
      · exact e
      · rw [eqPD.1 hx.2, eqPD.1 hy.2, swoD.irrefl] at e; cases e
    · unfold dlk2
      rw [List.pairwise_map]
      refine (List.Pairwise.and_mem.1 (h.srt.filter _)).imp fun {x y} hxy => ?_
      obtain ⟨hx, hy, h3⟩ := hxy
      have hx := (List.mem_filter.1 hx).2
      have hy := (List.mem_filter.1 hy).2
      simp only [Bool.and_eq_true] at hx hy
      rcases (ahead_zz hx.1 hy.1).1 h3 with e | ⟨_, e⟩
      · rw [eqPD.1 hx.2, eqPD.1 hy.2, swoD.irrefl] at e; cases e
      · exact e
    · intro b hb c hc
      obtain ⟨x, hx, rfl⟩ := List.mem_map.1 hb
      obtain ⟨y, hy, rfl⟩ := List.mem_map.1 hc
      obtain ⟨hx1, hx⟩ := List.mem_filter.1 hx
      obtain ⟨hy1, hy⟩ := List.mem_filter.1 hy
      simp only [Bool.and_eq_true] at hx hy
      have o1 := h.ord _ (inL h hx1 hx.1)
      have o2 := h.ord _ (inL h hy1 hy.1)
      have e1 : x.2.2.1 = a := eqPD.1 hx.2
      have e2 : y.2.1 = a := eqPD.1 hy.2
      have o1 : ltD x.2.1 x.2.2.1 = true := o1
      have o2 : ltD y.2.1 y.2.2.1 = true := o2
      rw [e1] at o1
      rw [e2] at o2
      exact swoD.trans _ _ _ o1 o2
  · intro b
    rw [mem_links h.ord]
    unfold dlks
    rw [List.mem_append]
    constructor
    · rintro (hb | hb)
      · obtain ⟨x, hx, rfl⟩ := List.mem_map.1 hb
        obtain ⟨hx1, hx⟩ := List.mem_filter.1 hx
        simp only [Bool.and_eq_true] at hx
        have hp := inL h hx1 hx.1
        have o1 := h.ord _ hp
        have e1 : x.2.2.1 = a := eqPD.1 hx.2
        rw [← pair_is (p := x.2) o1 (.inr ⟨e1, rfl⟩)]
        refine ⟨?_, hp⟩
        rw [← e1]
        exact (ne_of_lt o1).symm
      · obtain ⟨x, hx, rfl⟩ := List.mem_map.1 hb
        obtain ⟨hx1, hx⟩ := List.mem_filter.1 hx
        simp only [Bool.and_eq_true] at hx
        have hp := inL h hx1 hx.1
        have o1 := h.ord _ hp
        have e1 : x.2.1 = a := eqPD.1 hx.2
        rw [← pair_is (p := x.2) o1 (.inl ⟨e1, rfl⟩)]
        refine ⟨?_, hp⟩
        rw [← e1]
        exact ne_of_lt o1
    · rintro ⟨hne, hp⟩
      have hin : tieL (pairOf a b) ∈ allOf L M := (allOf_mem h.uq).2 (.inl ⟨isZ_iff.2 rfl, hp⟩)
      rcases pair_has a b with ⟨e1, e2⟩ | ⟨e1, e2⟩
      · refine .inr (List.mem_map.2 ⟨tieL (pairOf a b), List.mem_filter.2 ⟨hin, ?_⟩, e2⟩)
        rw [Bool.and_eq_true]
        exact ⟨isZ_iff.2 rfl, eqPD.2 e1⟩
      · refine .inl (List.mem_map.2 ⟨tieL (pairOf a b), List.mem_filter.2 ⟨hin, ?_⟩, e2⟩)
        rw [Bool.and_eq_true]
        exact ⟨isZ_iff.2 rfl, eqPD.2 e1⟩
theorem ltR_irrefl (x : TT5.T) : (fun x y : TT5.T => decide (ILt x.1 y.1)) x x = false := decide_eq_false (Int.lt_irrefl _)
theorem dwat_is {L : List PR.T} {M : List TI.T} (h : TieInv L M) (a : PD.T) : dwat (allOf L M) a = watOf M a := by
  refine eq_of_sorted (lt := fun x y => decide (ILt x.1 y.1)) ltR_irrefl (fun x y z h1 h2 => decide_eq_true (Int.lt_trans (of_decide_eq_true h1) (of_decide_eq_true h2))) ?_ ((told_sorted (q := q37 a) h.uq).imp fun h => decide_eq_true h) ?_
  · unfold dwat
    refine (List.Pairwise.and_mem.1 (h.srt.filter _)).imp fun {x y} hxy => ?_
    obtain ⟨hx, hy, h3⟩ := hxy
    have nz : ∀ x ∈ (allOf L M).filter (fun x => isR x && eqb PD x.2.2.1 a), isZ x = false := by
      intro x hx
      have := (List.mem_filter.1 hx).2
      simp only [Bool.and_eq_true] at this
      have : ILt 0 x.1 := of_decide_eq_true this.1
      exact isZ_no.2 fun e => by rw [show x.1 = (0 : Int) from e] at this; exact absurd this (by decide)
    exact decide_eq_true ((ahead_rr (nz x hx) (nz y hy)).1 h3)
  · intro x
    unfold dwat watOf
    rw [told_mem h.uq, List.mem_filter, Bool.and_eq_true]
    unfold q37
    constructor
    · rintro ⟨h1, h2, h3⟩
      have h2 : ILt 0 x.1 := of_decide_eq_true h2
      exact ⟨inM h h1 (isZ_no.2 fun e => by rw [show x.1 = (0 : Int) from e] at h2; exact absurd h2 (by decide)), h3⟩
    · rintro ⟨h1, h2⟩
      exact ⟨(allOf_mem h.uq).2 (.inr h1), decide_eq_true (show ILt 0 x.1 from by have := (h.mn x h1).1.1; exact this), h2⟩
/-! ### What is loaded -/
def ldL (l : List TT5.T) : List PR.T := l.foldl (fun L x => if isZ x = true then lins L x.2 else L) []
def ldM (l : List TT5.T) : List TI.T := l.foldl (fun M x => if isZ x = true then M else mins M x.1 x.2) []
theorem ldL_step {l : List TT5.T} {i : Int} {x : TT5.T} (h0 : 0 ≤ i) (hx : l[i.toNat]? = some x) (hz : isZ x = true) : lins (ldL (l.take i.toNat)) x.2 = ldL (l.take (i + 1).toNat) := by
  rw [take_next h0 hx]
  unfold ldL
  rw [List.foldl_append, List.foldl_cons, List.foldl_nil, if_pos hz]
theorem ldL_same {l : List TT5.T} {i : Int} {x : TT5.T} (h0 : 0 ≤ i) (hx : l[i.toNat]? = some x) (hz : isZ x = false) : ldL (l.take i.toNat) = ldL (l.take (i + 1).toNat) := by
  rw [take_next h0 hx]
  unfold ldL
  rw [List.foldl_append, List.foldl_cons, List.foldl_nil, if_neg (by rw [hz]; simp)]
theorem ldM_step {l : List TT5.T} {i : Int} {x : TT5.T} (h0 : 0 ≤ i) (hx : l[i.toNat]? = some x) (hz : isZ x = false) : mins (ldM (l.take i.toNat)) x.1 x.2 = ldM (l.take (i + 1).toNat) := by
  rw [take_next h0 hx]
  unfold ldM
  rw [List.foldl_append, List.foldl_cons, List.foldl_nil, if_neg (by rw [hz]; simp)]
theorem ldM_same {l : List TT5.T} {i : Int} {x : TT5.T} (h0 : 0 ≤ i) (hx : l[i.toNat]? = some x) (hz : isZ x = true) : ldM (l.take i.toNat) = ldM (l.take (i + 1).toNat) := by
  rw [take_next h0 hx]
  unfold ldM
  rw [List.foldl_append, List.foldl_cons, List.foldl_nil, if_pos hz]
/-- a list from its end -/
theorem snoc_ind {α : Type} {P : List α → Prop} (h0 : P []) (h1 : ∀ l x, P l → P (l ++ [x])) : ∀ l, P l := by
  intro l
  rw [← List.reverse_reverse l]
  induction l.reverse with
  | nil => exact h0
  | cons x l ih => rw [List.reverse_cons]; exact h1 _ _ ih
theorem ldL_snoc (l : List TT5.T) (x : TT5.T) : ldL (l ++ [x]) = if isZ x = true then lins (ldL l) x.2 else ldL l := by
  unfold ldL
  rw [List.foldl_append, List.foldl_cons, List.foldl_nil]
theorem ldM_snoc (l : List TT5.T) (x : TT5.T) : ldM (l ++ [x]) = if isZ x = true then ldM l else mins (ldM l) x.1 x.2 := by
  unfold ldM
  rw [List.foldl_append, List.foldl_cons, List.foldl_nil]
theorem ldL_nd (l : List TT5.T) : (ldL l).Nodup := by
  refine snoc_ind (P := fun l => (ldL l).Nodup) List.nodup_nil (fun l x ih => ?_) l
  rw [ldL_snoc]
  split
  · exact lins_nd ih
  · exact ih
theorem ldM_uq (l : List TT5.T) : Uniq (ldM l) := by
  refine snoc_ind (P := fun l => Uniq (ldM l)) List.nodup_nil (fun l x ih => ?_) l
  rw [ldM_snoc]
  split
  · exact ih
  · exact mins_uq ih
theorem ld_len (l : List TT5.T) : (ldL l).length + (ldM l).length ≤ l.length := by
  refine snoc_ind (P := fun l => (ldL l).length + (ldM l).length ≤ l.length) (Nat.le_refl _) (fun l x ih => ?_) l
  rw [ldL_snoc, ldM_snoc, List.length_append]
  simp only [List.length_cons, List.length_nil]
  split
  · have := lins_len (L := ldL l) x.2
    omega
  · have := mins_len (M := ldM l) x.1 x.2
    omega
theorem mem_ldL {l : List TT5.T} {p : PR.T} : p ∈ ldL l ↔ ∃ x ∈ l, isZ x = true ∧ x.2 = p := by
  refine snoc_ind (P := fun l => p ∈ ldL l ↔ ∃ x ∈ l, isZ x = true ∧ x.2 = p) ?_ (fun l x ih => ?_) l
  · exact ⟨fun h => (by cases h), fun ⟨_, h, _⟩ => (by cases h)⟩
  · rw [ldL_snoc]
    split
    · rename_i hz
      rw [mem_lins, ih]
      constructor
      · rintro (⟨y, h1, h2⟩ | rfl)
        · exact ⟨y, List.mem_append_left _ h1, h2⟩
        · exact ⟨x, by simp, hz, rfl⟩
      · rintro ⟨y, h1, h2, rfl⟩
        rcases List.mem_append.1 h1 with h1 | h1
        · exact .inl ⟨y, h1, h2, rfl⟩
        · rw [List.mem_singleton] at h1; subst h1; exact .inr rfl
    · rename_i hz
      rw [ih]
      constructor
      · rintro ⟨y, h1, h2⟩
        exact ⟨y, List.mem_append_left _ h1, h2⟩
      · rintro ⟨y, h1, h2, h3⟩
        rcases List.mem_append.1 h1 with h1 | h1
        · exact ⟨y, h1, h2, h3⟩
        · rw [List.mem_singleton] at h1; subst h1; exact absurd h2 hz
theorem ldM_sub {l : List TT5.T} {y : TI.T} : y ∈ ldM l → (y : TT5.T) ∈ l ∧ isZ (y : TT5.T) = false := by
  refine snoc_ind (P := fun l => y ∈ ldM l → (y : TT5.T) ∈ l ∧ isZ (y : TT5.T) = false) (fun h => (by cases h)) (fun l x ih => ?_) l
  rw [ldM_snoc]
  split
  · intro h
    exact ⟨List.mem_append_left _ (ih h).1, (ih h).2⟩
  · rename_i hz
    intro h
    rcases mem_mins.1 h with h | rfl
    · exact ⟨List.mem_append_left _ (ih h.1).1, (ih h.1).2⟩
    · exact ⟨List.mem_append_right _ (by simp), by simpa using hz⟩
theorem ldM_has {l : List TT5.T} (hr : l.Pairwise fun x z => isZ x = false → isZ z = false → x.1 ≠ z.1) {y : TT5.T} (hy : y ∈ l) (hz : isZ y = false) : y ∈ ldM l := by
  revert hr y
  refine snoc_ind (P := fun l => l.Pairwise (fun x z => isZ x = false → isZ z = false → x.1 ≠ z.1) → ∀ {y : TT5.T}, y ∈ l → isZ y = false → y ∈ ldM l) (fun _ _ h => (by cases h)) (fun l x ih => ?_) l
  intro hr y hy hz
  rw [List.pairwise_append] at hr
  rw [ldM_snoc]
  rcases List.mem_append.1 hy with h | h
  · have hin := ih hr.1 h hz
    split
    · exact hin
    · rename_i hx
      exact mem_mins.2 (.inl ⟨hin, fun e => hr.2.2 y h x (by simp) hz (by simpa using hx) e.symm⟩)
  · rw [List.mem_singleton] at h; subst h
    rw [if_neg (by rw [hz]; simp)]
    exact mem_mins.2 (.inr rfl)
theorem okE_is {x : TT5.T} (h : okE x = true) : mayP x.2.1 = true ∧ mayP x.2.2.1 = true ∧ ILe 0 x.1 ∧ ILe x.1 4611686018427387903 ∧ (isZ x = true → ltD x.2.1 x.2.2.1 = true) := by
  unfold okE at h
  simp only [Bool.and_eq_true, Bool.or_eq_true, Bool.not_eq_true', decide_eq_true_eq] at h
  exact ⟨h.1, h.2.1, h.2.2.1, h.2.2.2.1, fun hz => h.2.2.2.2.resolve_left (by rw [hz]; simp)⟩
theorem ld_ok {l : List TT5.T} (h : l.all okE = true) (hn : (l.length : Int) ≤ 3518437208883) : okTies (ldL l) (ldM l) = true := by
  have h := List.all_eq_true.1 h
  refine okTies_of ?_ (ldL_nd l) (ldM_uq l) (by have := ld_len l; omega)
  rw [List.all_eq_true]
  intro p hp
  obtain ⟨x, hx, _, rfl⟩ := mem_ldL.1 hp
  have := okE_is (h x hx)
  show (okD x.2.1 && okD x.2.2.1) = true
  rw [may_okD this.1, may_okD this.2.1]
  rfl
theorem ld_inv {l : List TT5.T} (h : l.all okE = true) (hn : (l.length : Int) ≤ 1024) : TieInv (ldL l) (ldM l) := by
  have h := List.all_eq_true.1 h
  refine ⟨ldL_nd l, ldM_uq l, ?_, ?_, by have := ld_len l; omega⟩
  · intro p hp
    obtain ⟨x, hx, hz, rfl⟩ := mem_ldL.1 hp
    have := okE_is (h x hx)
    exact ⟨this.1, this.2.1, this.2.2.2.2 hz⟩
  · intro y hy
    obtain ⟨h1, h2⟩ := ldM_sub hy
    have := okE_is (h y h1)
    have h3 : (0 : Int) ≤ y.1 := this.2.2.1
    have h4 : y.1 ≠ (0 : Int) := isZ_no.1 h2
    exact ⟨⟨Int.lt_iff_le_and_ne.2 ⟨h3, Ne.symm h4⟩, this.2.2.2.1⟩, this.1, this.2.1⟩
theorem ld_srt {l : List TT5.T} (h : l.all okE = true) : Srt (allOf (ldL l) (ldM l)) := allOf_srt (ldL_nd l) (ldM_uq l) fun y hy => (ldM_sub hy).2
theorem ld_all {l : List TT5.T} (h : l.all okE = true) (hs : Srt l) : allOf (ldL l) (ldM l) = l := by
  refine srt_eq (ld_srt h) hs fun x => ?_
  rw [allOf_mem (ldM_uq l)]
  constructor
  · rintro (⟨h1, h2⟩ | h1)
    · obtain ⟨y, hy, hz, e⟩ := mem_ldL.1 h2
      have : x = y := Prod.ext ((isZ_iff.1 h1).trans (isZ_iff.1 hz).symm) e.symm
      rw [this]; exact hy
    · exact (ldM_sub h1).1
  · intro hx
    cases hz : isZ x with
    | true => exact .inl ⟨rfl, mem_ldL.2 ⟨x, hx, hz, rfl⟩⟩
    | false =>
      refine .inr (ldM_has (hs.imp fun {x y} hxy h1 h2 => ?_) hx hz)
      have := (ahead_rr h1 h2).1 hxy
      exact Int.ne_of_lt this
def ldE (l : List TT5.T) : Int := if l.all okE = true then (if sameB TT5 (allOf (ldL l) (ldM l)) l = true then (if (1024 : Int) < (l.length : Int) then 150 else 0) else 1) else 1
theorem dmay_ld {l : List TT5.T} : dmay l = true ↔ l.all okE = true ∧ sameB TT5 (allOf (ldL l) (ldM l)) l = true := by
  rw [dmay_iff]
  constructor
  · rintro ⟨h1, h2⟩
    have ha : l.all okE = true := List.all_eq_true.2 fun x hx => h1 x (by rw [List.take_length]; exact hx)
    refine ⟨ha, (sameB_iff rfl).2 (ld_all ha (pw_adj ahead_trans fun j x y hx hy => h2 j x y ?_ hx hy))⟩
    exact (List.getElem?_eq_some_iff.1 hy).1
  · rintro ⟨h1, h2⟩
    have h2 := (sameB_iff rfl).1 h2
    refine ⟨fun x hx => List.all_eq_true.1 h1 x (List.mem_of_mem_take hx), fun j x y _ hx hy => ?_⟩
    have hs := ld_srt h1
    rw [h2] at hs
    exact pw_get hs (Nat.lt_succ_self j) hx hy
theorem ldE_is (l : List TT5.T) : ldE l = dldE l := by
  unfold ldE dldE
  cases hd : dmay l with
  | true =>
    obtain ⟨h1, h2⟩ := dmay_ld.1 hd
    rw [if_pos h1, if_pos h2, if_pos rfl]
  | false =>
    rw [if_neg Bool.false_ne_true]
    by_cases h1 : l.all okE = true
    · rw [if_pos h1, if_neg fun h2 => ?_]
      rw [dmay_ld.2 ⟨h1, h2⟩] at hd; cases hd
    · rw [if_neg h1]
theorem ldE_bad1 {l : List TT5.T} {n : Nat} {x : TT5.T} (hx : l[n]? = some x) (ho : okE x = false) : ldE l = 1 := by
  unfold ldE
  rw [if_neg fun h => ?_]
  rw [List.all_eq_true.1 h x (List.mem_of_getElem? hx)] at ho; cases ho
theorem ldE_bad2 {l : List TT5.T} (hw : sameB TT5 (allOf (ldL l) (ldM l)) l = false) : ldE l = 1 := by
  unfold ldE
  rw [hw]
  split <;> rfl
theorem ldE_ties {l : List TT5.T} (h : l.all okE = true) (hw : sameB TT5 (allOf (ldL l) (ldM l)) l = true) (hn : (1024 : Int) < (l.length : Int)) : ldE l = 150 := by
  unfold ldE
  rw [if_pos h, if_pos hw, if_pos hn]
theorem ldE_good {l : List TT5.T} (h : l.all okE = true) (hw : sameB TT5 (allOf (ldL l) (ldM l)) l = true) (hn : ¬ (1024 : Int) < (l.length : Int)) : ldE l = 0 := by
  unfold ldE
  rw [if_pos h, if_pos hw, if_neg hn]
theorem ldE_inv {l : List TT5.T} (h : ldE l = 0) : TieInv (ldL l) (ldM l) ∧ allOf (ldL l) (ldM l) = l := by
  unfold ldE at h
  split at h
  · split at h
    · split at h
      · cases h
      · exact ⟨ld_inv ‹_› (by omega), (sameB_iff rfl).1 ‹_›⟩
    · cases h
  · cases h
theorem all_step {l : List TT5.T} {i : Int} {x : TT5.T} (h0 : 0 ≤ i) (h : (l.take i.toNat).all okE = true) (hx : l[i.toNat]? = some x) (ho : okE x = true) : (l.take (i + 1).toNat).all okE = true := by
  rw [take_next h0 hx, List.all_append, h]
  simp [ho]
theorem ord_ge {a b : PD.T} (h : 0 ≤ ordP a b) : ltD a b = false := by
  cases e : ltD a b with
  | false => rfl
  | true => have := ord_lt.2 e; omega
end Go.Proofs.Ytjhgjbagmkiibaa.E
